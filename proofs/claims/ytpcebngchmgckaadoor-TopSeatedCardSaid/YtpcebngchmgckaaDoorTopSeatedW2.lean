/- The walks of the functions that TopSeated reaches: each call comes to what its mirror says. The conditions are those of each contract. -/
import Derived.Test.YtpcebngchmgckaaDoorProg
import Derived.Test.YtpcebngchmgckaaDoorTopSeatedM
import Derived.Test.YtpcebngchmgckaaDoorFpAllT
import Derived.Test.YtpcebngchmgckaaDoorTopSeatedS
import Derived.Test.YtpcebngchmgckaaDoorFpMapS
import Derived.Test.YtpcebngchmgckaaDoorFpCut
import Derived.Test.YtpcebngchmgckaaDoorFpFld
import Derived.Test.YtpcebngchmgckaaDoorFpObj
import Derived.Test.YtpcebngchmgckaaDoorTopSeatedW1
set_option maxRecDepth 10000
namespace Go.Proofs.YtpcebngchmgckaaDoor
open Go Go.Fp
set_option maxHeartbeats 8000000 in
theorem Fishref2TextFault_ok  {w : World} {s : Sg} {R : List HP} {x0 : ApiDay} {a0_0 : Option Addr} {c0_0 : Nat} {a0_1 : Option Addr} {c0_1 : Nat} (hS : St w s (R)) (h0_0 : Sl 4 RApiTrain s a0_0 c0_0 x0.Trains) (h0_1 : Sl 1 (RL 1 (RI .i64)) s a0_1 c0_1 x0.Turns) {r : Int} (hr : Fishref2TextFault x0 = some r) :
  Calls Tryd.prog 56 [.agg (List.toArray [.slice a0_0 x0.Trains.length c0_0, .slice a0_1 x0.Turns.length c0_1])].toArray w (fun e w => e = .returned (.int .i64 r) ∧ St w s (R)) := by
 refine enter Tryd.func56 rfl rfl rfl fun a hE => ?_
 rw [Fishref2TextFault] at hr
 refine W.seq (W.region ?_)
 refine WL.box hE hS (runs_plain rfl) rfl rfl rfl ?_; clear hE hS a w; intro b51 a w hE hS
 refine vP hS hE (Gives.p hE rfl) rfl ?_; clear hE a; intro a hE
 refine WL.nil ?_
 refine W.seq ?_
 refine W.seq ?_
 obtain ⟨q53, hq52, hr⟩ := bndS hr
 refine W.cut (fun a w => ∃ (q56 : Bool), q56 = q53 ∧ Rep a 105 [(1, .pointer (some ⟨b51, 0, none⟩)), (24, .bool q56)] ∧ St w s (pt b51 (.cells #[.slice a0_0 x0.Trains.length c0_0, .slice a0_1 x0.Turns.length c0_1] 25 (0, 0)) :: R)) ?_ ?_
 ·refine W.gen fun K57 hK57 => ?_
  refine W.region ?_
  refine vP hS hE (Gives.fld hE rfl fl25_0) rfl ?_; clear hE a; intro a hE
  refine vP hS hE (Gives.loadB hE 0 rfl rfl rfl ty22) rfl ?_; clear hE a; intro a hE
  refine vP hS hE (Gives.len hE rfl sl22) rfl ?_; clear hE a; intro a hE
  refine vP hS hE (Gives.p hE rfl) rfl ?_; clear hE a; intro a hE
  refine vP hS hE (Gives.p hE rfl) rfl ?_; clear hE a; intro a hE
  rcases Bool.eq_false_or_eq_true (decide (((x0.Trains).length : Int) > 12)) with hg58 | hg58
  ·replace hq52 := iteT hg58 hq52
   refine WL.no hE (runs_not hE rfl rfl rfl (by rw [hg58]; decide)) rfl ?_; clear hE a; intro a hE
   refine WL.no hE (runs_not hE rfl rfl rfl (by rw [hg58]; decide)) rfl ?_; clear hE a; intro a hE
   refine WL.no hE (runs_not hE rfl rfl rfl (by rw [hg58]; decide)) rfl ?_; clear hE a; intro a hE
   refine WL.no hE (runs_not hE rfl rfl rfl (by rw [hg58]; decide)) rfl ?_; clear hE a; intro a hE
   refine vP hS hE (Gives.pickT hE rfl hg58 rfl) rfl ?_; clear hE a; intro a hE
   refine WL.nil ?_
   subst hK57
   exact ⟨true, hq52, hE.pick _ ⟨rfl, rfl, trivial⟩, hS⟩
  ·replace hq52 := iteF hg58 hq52
   refine WL.vS hS hE (runs_if hE rfl rfl rfl hg58) (Gives.fld hE rfl fl25_1) rfl ?_; clear hE a; intro a hE
   refine WL.vS hS hE (runs_if hE rfl rfl rfl hg58) (Gives.loadB hE 0 rfl rfl rfl ty23) rfl ?_; clear hE a; intro a hE
   refine WL.vS hS hE (runs_if hE rfl rfl rfl hg58) (Gives.len hE rfl sl23) rfl ?_; clear hE a; intro a hE
   refine WL.vS hS hE (runs_if hE rfl rfl rfl hg58) (Gives.p hE rfl) rfl ?_; clear hE a; intro a hE
   refine vP hS hE (Gives.pickF hE rfl hg58 rfl) rfl ?_; clear hE a; intro a hE
   refine WL.nil ?_
   subst hK57
   exact ⟨decide (((x0.Turns).length : Int) > 8), hq52, hE.pick _ ⟨rfl, rfl, trivial⟩, hS⟩
 ·clear hE hS a w; rintro a w ⟨q56, rfl, hE, hS⟩
  refine W.cond hE rfl (fun hc59 => ?_) (fun hc59 => ?_)
  ·replace hr := iteT hc59 hr
   refine W.seq (W.region ?_)
   refine vP hS hE (Gives.p hE rfl) rfl ?_; clear hE a; intro a hE
   refine WL.nil ?_
   refine W.ret ?_
   refine finG (fn := Tryd.f56) (rs := [.tmp 2]) (vs := [_]) hE rfl ⟨rfl, trivial⟩ ?_
   obtain rfl := Option.some.inj hr
   replace hS := hS.tail
   exact ⟨rfl, hS⟩
  ·replace hr := iteF hc59 hr
   refine W.skip ?_
   refine W.seq ?_
   refine W.seq (W.region ?_)
   refine vP hS hE (Gives.fld hE rfl fl25_0) rfl ?_; clear hE a; intro a hE
   refine vP hS hE (Gives.loadB hE 0 rfl rfl rfl ty22) rfl ?_; clear hE a; intro a hE
   refine vP hS hE (Gives.len hE rfl sl22) rfl ?_; clear hE a; intro a hE
   refine vP hS hE (Gives.p hE rfl) rfl ?_; clear hE a; intro a hE
   refine WL.nil ?_
   obtain ⟨q61, hq60, hr⟩ := bndS hr
   refine W.cut (fun a w => (.next ()) = q61 ∧ Rep a 105 [(1, .pointer (some ⟨b51, 0, none⟩))] ∧ St w s (pt b51 (.cells #[.slice a0_0 x0.Trains.length c0_0, .slice a0_1 x0.Turns.length c0_1] 25 (0, 0)) :: R)) ?_ ?_
   ·refine W.block ?_
    refine W.loop (fun m a w => ∃ (rest64 : List ApiTrain) (k62 : Nat), rest64.length = m ∧ x0.Trains.drop k62 = rest64 ∧ Fishref2TextFault.loop1 rest64 = q61 ∧ Rep a 105 [(1, .pointer (some ⟨b51, 0, none⟩)), (26, .slice a0_0 x0.Trains.length c0_0), (27, .int .i64 ((x0.Trains).length : Int)), (28, .int .i64 ((k62 : Nat) : Int))] ∧ St w s (pt b51 (.cells #[.slice a0_0 x0.Trains.length c0_0, .slice a0_1 x0.Turns.length c0_1] 25 (0, 0)) :: R)) (m := x0.Trains.length) ⟨x0.Trains, 0, rfl, rfl, hq60, hE.pick _ ⟨rfl, rfl, rfl, rfl, trivial⟩, hS⟩ ?_
    clear hE hS a w hq60; rintro m68 a w ⟨rest64, k62, rfl, hd65, hq60, hE, hS⟩
    refine W.gen fun K71 hK71 => ?_
    rcases rest64 with _ | ⟨x63, rest64⟩
    ·have hlt66 := drop_nil hd65
     refine W.seq (W.region ?_)
     refine vP hS hE (Gives.p hE rfl) rfl ?_; clear hE a; intro a hE
     refine WL.nil ?_
     refine W.seq ?_
     refine W.condF hE rfl (decide_eq_false (by omega)) ?_
     subst hK71
     refine W.exit rfl ?_
     exact ⟨hq60, hE.pick _ ⟨rfl, trivial⟩, hS⟩
    ·obtain ⟨hlt66, hx67, hd65⟩ := drop_cons hd65
     rw [Fishref2TextFault.loop1] at hq60
     refine W.seq (W.region ?_)
     refine vP hS hE (Gives.p hE rfl) rfl ?_; clear hE a; intro a hE
     refine WL.nil ?_
     refine W.seq ?_
     refine W.condT hE rfl (decide_eq_true (by omega)) ?_
     refine W.skip ?_
     refine W.seq ?_
     refine W.block ?_
     refine W.seq (W.region ?_)
     obtain ⟨cs72, hl73, hR74, hat75⟩ := h0_0.at hx67
     obtain ⟨a76, c77, a79, c80, rfl, h78, h81⟩ := hR74
     refine vP hS hE (Gives.idx hE k62 rfl rfl sl22 rfl hlt66 (h0_0.aok hlt66)) rfl ?_; clear hE a; intro a hE
     refine vP hS hE (Gives.loadA hE rfl (fun w h => hat75 w _ h) ty44) rfl ?_; clear hE a; intro a hE
     refine WL.alloc hE hS (runs_plain rfl) zr44 rfl ?_; clear hE hS a w; intro b82 a w hE hS
     refine WL.storeI hE hS 0 rfl [.int .i64 x63.No, .int .i64 x63.Stock, .slice a76 x63.Stops.length c77, .slice a79 x63.Legs.length c80] (runs_plain rfl) rfl rfl rfl ty44 rfl rfl rfl rfl ?_; clear hE hS a w; intro a w hE hS
     refine WL.nil ?_
     refine W.seq ?_
     refine W.seq ?_
     obtain ⟨q84, hq83, hq60⟩ := bndS hq60
     refine W.cut (fun a w => ∃ (q87 : Bool), q87 = q84 ∧ Rep a 105 [(1, .pointer (some ⟨b51, 0, none⟩)), (4, .pointer (some ⟨b82, 0, none⟩)), (26, .slice a0_0 x0.Trains.length c0_0), (27, .int .i64 ((x0.Trains).length : Int)), (28, .int .i64 ((k62 : Nat) : Int)), (45, .bool q87)] ∧ St w s (pt b82 (.cells #[.int .i64 x63.No, .int .i64 x63.Stock, .slice a76 x63.Stops.length c77, .slice a79 x63.Legs.length c80] 44 (0, 0)) :: pt b51 (.cells #[.slice a0_0 x0.Trains.length c0_0, .slice a0_1 x0.Turns.length c0_1] 25 (0, 0)) :: R)) ?_ ?_
     ·refine W.gen fun K88 hK88 => ?_
      refine W.region ?_
      refine vP hS hE (Gives.fld hE rfl fl44_2) rfl ?_; clear hE a; intro a hE
      refine vP hS hE (Gives.loadB hE 0 rfl rfl rfl ty42) rfl ?_; clear hE a; intro a hE
      refine vP hS hE (Gives.len hE rfl sl42) rfl ?_; clear hE a; intro a hE
      refine vP hS hE (Gives.p hE rfl) rfl ?_; clear hE a; intro a hE
      refine vP hS hE (Gives.p hE rfl) rfl ?_; clear hE a; intro a hE
      rcases Bool.eq_false_or_eq_true (((x63.Stops).length : Int) == 0) with hg89 | hg89
      ·replace hq83 := iteT hg89 hq83
       refine WL.no hE (runs_not hE rfl rfl rfl (by rw [hg89]; decide)) rfl ?_; clear hE a; intro a hE
       refine WL.no hE (runs_not hE rfl rfl rfl (by rw [hg89]; decide)) rfl ?_; clear hE a; intro a hE
       refine WL.no hE (runs_not hE rfl rfl rfl (by rw [hg89]; decide)) rfl ?_; clear hE a; intro a hE
       refine WL.no hE (runs_not hE rfl rfl rfl (by rw [hg89]; decide)) rfl ?_; clear hE a; intro a hE
       refine WL.no hE (runs_not hE rfl rfl rfl (by rw [hg89]; decide)) rfl ?_; clear hE a; intro a hE
       refine WL.no hE (runs_not hE rfl rfl rfl (by rw [hg89]; decide)) rfl ?_; clear hE a; intro a hE
       refine WL.no hE (runs_not hE rfl rfl rfl (by rw [hg89]; decide)) rfl ?_; clear hE a; intro a hE
       refine WL.no hE (runs_not hE rfl rfl rfl (by rw [hg89]; decide)) rfl ?_; clear hE a; intro a hE
       refine vP hS hE (Gives.pickT hE rfl hg89 rfl) rfl ?_; clear hE a; intro a hE
       refine WL.nil ?_
       subst hK88
       exact ⟨true, hq83, hE.pick _ ⟨rfl, rfl, rfl, rfl, rfl, rfl, trivial⟩, hS⟩
      ·replace hq83 := iteF hg89 hq83
       refine WL.vS hS hE (runs_if hE rfl rfl rfl hg89) (Gives.fld hE rfl fl44_3) rfl ?_; clear hE a; intro a hE
       refine WL.vS hS hE (runs_if hE rfl rfl rfl hg89) (Gives.loadB hE 0 rfl rfl rfl ty23) rfl ?_; clear hE a; intro a hE
       refine WL.vS hS hE (runs_if hE rfl rfl rfl hg89) (Gives.len hE rfl sl23) rfl ?_; clear hE a; intro a hE
       refine WL.vS hS hE (runs_if hE rfl rfl rfl hg89) (Gives.fld hE rfl fl44_2) rfl ?_; clear hE a; intro a hE
       refine WL.vS hS hE (runs_if hE rfl rfl rfl hg89) (Gives.loadB hE 0 rfl rfl rfl ty42) rfl ?_; clear hE a; intro a hE
       refine WL.vS hS hE (runs_if hE rfl rfl rfl hg89) (Gives.len hE rfl sl42) rfl ?_; clear hE a; intro a hE
       refine WL.vS hS hE (runs_if hE rfl rfl rfl hg89) (Gives.p hE rfl) rfl ?_; clear hE a; intro a hE
       refine WL.vS hS hE (runs_if hE rfl rfl rfl hg89) (Gives.p hE rfl) rfl ?_; clear hE a; intro a hE
       refine vP hS hE (Gives.pickF hE rfl hg89 rfl) rfl ?_; clear hE a; intro a hE
       refine WL.nil ?_
       subst hK88
       exact ⟨(((x63.Legs).length : Int) != (w64 (((x63.Stops).length : Int) - 1))), hq83, hE.pick _ ⟨rfl, rfl, rfl, rfl, rfl, rfl, trivial⟩, hS⟩
     ·clear hE hS a w; rintro a w ⟨q87, rfl, hE, hS⟩
      refine W.cond hE rfl (fun hc90 => ?_) (fun hc90 => ?_)
      ·replace hq60 := iteT hc90 hq60
       refine W.seq (W.region ?_)
       refine vP hS hE (Gives.p hE rfl) rfl ?_; clear hE a; intro a hE
       refine WL.nil ?_
       refine W.ret ?_
       subst hK71
       rw [← hq60] at hr
       dsimp only at hr
       refine finG (fn := Tryd.f56) (rs := [.tmp 2]) (vs := [_]) hE rfl ⟨rfl, trivial⟩ ?_
       obtain rfl := Option.some.inj hr
       replace hS := hS.tail
       replace hS := hS.tail
       exact ⟨rfl, hS⟩
      ·replace hq60 := iteF hc90 hq60
       refine W.skip ?_
       refine W.seq ?_
       refine W.seq (W.region ?_)
       refine vP hS hE (Gives.fld hE rfl fl44_3) rfl ?_; clear hE a; intro a hE
       refine vP hS hE (Gives.loadB hE 0 rfl rfl rfl ty23) rfl ?_; clear hE a; intro a hE
       refine vP hS hE (Gives.len hE rfl sl23) rfl ?_; clear hE a; intro a hE
       refine vP hS hE (Gives.p hE rfl) rfl ?_; clear hE a; intro a hE
       refine WL.nil ?_
       obtain ⟨q92, hq91, hq60⟩ := bndS hq60
       refine W.cut (fun a w => (.next ()) = q92 ∧ Rep a 105 [(1, .pointer (some ⟨b51, 0, none⟩)), (4, .pointer (some ⟨b82, 0, none⟩)), (26, .slice a0_0 x0.Trains.length c0_0), (27, .int .i64 ((x0.Trains).length : Int)), (28, .int .i64 ((k62 : Nat) : Int))] ∧ St w s (pt b82 (.cells #[.int .i64 x63.No, .int .i64 x63.Stock, .slice a76 x63.Stops.length c77, .slice a79 x63.Legs.length c80] 44 (0, 0)) :: pt b51 (.cells #[.slice a0_0 x0.Trains.length c0_0, .slice a0_1 x0.Turns.length c0_1] 25 (0, 0)) :: R)) ?_ ?_
       ·refine W.block ?_
        refine W.loop (fun m a w => ∃ (rest95 : List (List Int)) (k93 : Nat), rest95.length = m ∧ x63.Legs.drop k93 = rest95 ∧ Fishref2TextFault.loop2 rest95 = q92 ∧ Rep a 105 [(1, .pointer (some ⟨b51, 0, none⟩)), (4, .pointer (some ⟨b82, 0, none⟩)), (26, .slice a0_0 x0.Trains.length c0_0), (27, .int .i64 ((x0.Trains).length : Int)), (28, .int .i64 ((k62 : Nat) : Int)), (47, .slice a79 x63.Legs.length c80), (48, .int .i64 ((x63.Legs).length : Int)), (49, .int .i64 ((k93 : Nat) : Int))] ∧ St w s (pt b82 (.cells #[.int .i64 x63.No, .int .i64 x63.Stock, .slice a76 x63.Stops.length c77, .slice a79 x63.Legs.length c80] 44 (0, 0)) :: pt b51 (.cells #[.slice a0_0 x0.Trains.length c0_0, .slice a0_1 x0.Turns.length c0_1] 25 (0, 0)) :: R)) (m := x63.Legs.length) ⟨x63.Legs, 0, rfl, rfl, hq91, hE.pick _ ⟨rfl, rfl, rfl, rfl, rfl, rfl, rfl, rfl, trivial⟩, hS⟩ ?_
        clear hE hS a w hq91; rintro m99 a w ⟨rest95, k93, rfl, hd96, hq91, hE, hS⟩
        refine W.gen fun K102 hK102 => ?_
        rcases rest95 with _ | ⟨x94, rest95⟩
        ·have hlt97 := drop_nil hd96
         refine W.seq (W.region ?_)
         refine vP hS hE (Gives.p hE rfl) rfl ?_; clear hE a; intro a hE
         refine WL.nil ?_
         refine W.seq ?_
         refine W.condF hE rfl (decide_eq_false (by omega)) ?_
         subst hK102
         refine W.exit rfl ?_
         exact ⟨hq91, hE.pick _ ⟨rfl, rfl, rfl, rfl, rfl, trivial⟩, hS⟩
        ·obtain ⟨hlt97, hx98, hd96⟩ := drop_cons hd96
         rw [Fishref2TextFault.loop2] at hq91
         refine W.seq (W.region ?_)
         refine vP hS hE (Gives.p hE rfl) rfl ?_; clear hE a; intro a hE
         refine WL.nil ?_
         refine W.seq ?_
         refine W.condT hE rfl (decide_eq_true (by omega)) ?_
         refine W.skip ?_
         refine W.seq ?_
         refine W.block ?_
         refine W.seq (W.region ?_)
         obtain ⟨cs103, hl104, hR105, hat106⟩ := h81.at hx98
         obtain ⟨a107, c108, rfl, h109⟩ := hR105
         refine vP hS hE (Gives.idx hE k93 rfl rfl sl23 rfl hlt97 (h81.aok hlt97)) rfl ?_; clear hE a; intro a hE
         refine vP hS hE (Gives.load1 hE rfl (fun w h => hat106 w _ h) ty45) rfl ?_; clear hE a; intro a hE
         refine vP hS hE (Gives.p hE rfl) rfl ?_; clear hE a; intro a hE
         refine WL.nil ?_
         refine W.seq (W.region ?_)
         refine vP hS hE (Gives.p hE rfl) rfl ?_; clear hE a; intro a hE
         refine vP hS hE (Gives.len hE rfl sl45) rfl ?_; clear hE a; intro a hE
         refine vP hS hE (Gives.p hE rfl) rfl ?_; clear hE a; intro a hE
         refine WL.nil ?_
         refine W.cond hE rfl (fun hc110 => ?_) (fun hc110 => ?_)
         ·replace hq91 := iteT hc110 hq91
          refine W.seq (W.region ?_)
          refine vP hS hE (Gives.p hE rfl) rfl ?_; clear hE a; intro a hE
          refine WL.nil ?_
          refine W.ret ?_
          subst hK102
          subst hK71
          rw [← hq91] at hq60
          dsimp only at hq60
          rw [← hq60] at hr
          dsimp only at hr
          refine finG (fn := Tryd.f56) (rs := [.tmp 2]) (vs := [_]) hE rfl ⟨rfl, trivial⟩ ?_
          obtain rfl := Option.some.inj hr
          replace hS := hS.tail
          replace hS := hS.tail
          exact ⟨rfl, hS⟩
         ·replace hq91 := iteF hc110 hq91
          refine W.skip ?_
          refine W.region ?_
          refine vP hS hE (Gives.inc hE rfl (by have := h81.small; omega)) rfl ?_; clear hE a; intro a hE
          refine vP hS hE (Gives.p hE rfl) rfl ?_; clear hE a; intro a hE
          refine WL.nil ?_
          subst hK102
          exact ⟨rest95.length, Nat.lt_succ_self _, rest95, k93 + 1, rfl, hd96, hq91, hE.pick _ ⟨rfl, rfl, rfl, rfl, rfl, rfl, rfl, rfl, trivial⟩, hS⟩
       ·clear hE hS a w; rintro a w ⟨rfl, hE, hS⟩
        dsimp only at hq60
        refine W.seq ?_
        refine W.seq (W.region ?_)
        refine vP hS hE (Gives.fld hE rfl fl44_2) rfl ?_; clear hE a; intro a hE
        refine vP hS hE (Gives.loadB hE 0 rfl rfl rfl ty42) rfl ?_; clear hE a; intro a hE
        refine vP hS hE (Gives.len hE rfl sl42) rfl ?_; clear hE a; intro a hE
        refine vP hS hE (Gives.p hE rfl) rfl ?_; clear hE a; intro a hE
        refine WL.nil ?_
        refine W.cond hE rfl (fun hc111 => ?_) (fun hc111 => ?_)
        ·replace hq60 := iteT hc111 hq60
         refine W.seq (W.region ?_)
         refine vP hS hE (Gives.p hE rfl) rfl ?_; clear hE a; intro a hE
         refine WL.nil ?_
         refine W.ret ?_
         subst hK71
         rw [← hq60] at hr
         dsimp only at hr
         refine finG (fn := Tryd.f56) (rs := [.tmp 2]) (vs := [_]) hE rfl ⟨rfl, trivial⟩ ?_
         obtain rfl := Option.some.inj hr
         replace hS := hS.tail
         replace hS := hS.tail
         exact ⟨rfl, hS⟩
        ·replace hq60 := iteF hc111 hq60
         refine W.skip ?_
         refine W.seq (W.region ?_)
         refine vP hS hE (Gives.fld hE rfl fl44_3) rfl ?_; clear hE a; intro a hE
         refine vP hS hE (Gives.loadB hE 0 rfl rfl rfl ty23) rfl ?_; clear hE a; intro a hE
         refine vP hS hE (Gives.len hE rfl sl23) rfl ?_; clear hE a; intro a hE
         refine vP hS hE (Gives.p hE rfl) rfl ?_; clear hE a; intro a hE
         refine WL.nil ?_
         obtain ⟨q113, hq112, hq60⟩ := bndS hq60
         refine W.cut (fun a w => (.next ()) = q113 ∧ Rep a 105 [(1, .pointer (some ⟨b51, 0, none⟩)), (26, .slice a0_0 x0.Trains.length c0_0), (27, .int .i64 ((x0.Trains).length : Int)), (28, .int .i64 ((k62 : Nat) : Int))] ∧ St w s (pt b82 (.cells #[.int .i64 x63.No, .int .i64 x63.Stock, .slice a76 x63.Stops.length c77, .slice a79 x63.Legs.length c80] 44 (0, 0)) :: pt b51 (.cells #[.slice a0_0 x0.Trains.length c0_0, .slice a0_1 x0.Turns.length c0_1] 25 (0, 0)) :: R)) ?_ ?_
         ·refine W.block ?_
          refine W.loop (fun m a w => ∃ (rest116 : List (List Int)) (k114 : Nat), rest116.length = m ∧ x63.Legs.drop k114 = rest116 ∧ Fishref2TextFault.loop3 rest116 = q113 ∧ Rep a 105 [(1, .pointer (some ⟨b51, 0, none⟩)), (26, .slice a0_0 x0.Trains.length c0_0), (27, .int .i64 ((x0.Trains).length : Int)), (28, .int .i64 ((k62 : Nat) : Int)), (62, .slice a79 x63.Legs.length c80), (63, .int .i64 ((x63.Legs).length : Int)), (64, .int .i64 ((k114 : Nat) : Int))] ∧ St w s (pt b82 (.cells #[.int .i64 x63.No, .int .i64 x63.Stock, .slice a76 x63.Stops.length c77, .slice a79 x63.Legs.length c80] 44 (0, 0)) :: pt b51 (.cells #[.slice a0_0 x0.Trains.length c0_0, .slice a0_1 x0.Turns.length c0_1] 25 (0, 0)) :: R)) (m := x63.Legs.length) ⟨x63.Legs, 0, rfl, rfl, hq112, hE.pick _ ⟨rfl, rfl, rfl, rfl, rfl, rfl, rfl, trivial⟩, hS⟩ ?_
          clear hE hS a w hq112; rintro m120 a w ⟨rest116, k114, rfl, hd117, hq112, hE, hS⟩
          refine W.gen fun K123 hK123 => ?_
          rcases rest116 with _ | ⟨x115, rest116⟩
          ·have hlt118 := drop_nil hd117
           refine W.seq (W.region ?_)
           refine vP hS hE (Gives.p hE rfl) rfl ?_; clear hE a; intro a hE
           refine WL.nil ?_
           refine W.seq ?_
           refine W.condF hE rfl (decide_eq_false (by omega)) ?_
           subst hK123
           refine W.exit rfl ?_
           exact ⟨hq112, hE.pick _ ⟨rfl, rfl, rfl, rfl, trivial⟩, hS⟩
          ·obtain ⟨hlt118, hx119, hd117⟩ := drop_cons hd117
           rw [Fishref2TextFault.loop3] at hq112
           refine W.seq (W.region ?_)
           refine vP hS hE (Gives.p hE rfl) rfl ?_; clear hE a; intro a hE
           refine WL.nil ?_
           refine W.seq ?_
           refine W.condT hE rfl (decide_eq_true (by omega)) ?_
           refine W.skip ?_
           refine W.seq ?_
           refine W.block ?_
           refine W.seq (W.region ?_)
           obtain ⟨cs124, hl125, hR126, hat127⟩ := h81.at hx119
           obtain ⟨a128, c129, rfl, h130⟩ := hR126
           refine vP hS hE (Gives.idx hE k114 rfl rfl sl23 rfl hlt118 (h81.aok hlt118)) rfl ?_; clear hE a; intro a hE
           refine vP hS hE (Gives.load1 hE rfl (fun w h => hat127 w _ h) ty45) rfl ?_; clear hE a; intro a hE
           refine vP hS hE (Gives.p hE rfl) rfl ?_; clear hE a; intro a hE
           refine WL.nil ?_
           refine W.seq (W.region ?_)
           refine vP hS hE (Gives.p hE rfl) rfl ?_; clear hE a; intro a hE
           refine vP hS hE (Gives.len hE rfl sl45) rfl ?_; clear hE a; intro a hE
           refine vP hS hE (Gives.p hE rfl) rfl ?_; clear hE a; intro a hE
           refine WL.nil ?_
           refine W.cond hE rfl (fun hc131 => ?_) (fun hc131 => ?_)
           ·replace hq112 := iteT hc131 hq112
            refine W.seq (W.region ?_)
            refine vP hS hE (Gives.p hE rfl) rfl ?_; clear hE a; intro a hE
            refine WL.nil ?_
            refine W.ret ?_
            subst hK123
            subst hK71
            rw [← hq112] at hq60
            dsimp only at hq60
            rw [← hq60] at hr
            dsimp only at hr
            refine finG (fn := Tryd.f56) (rs := [.tmp 2]) (vs := [_]) hE rfl ⟨rfl, trivial⟩ ?_
            obtain rfl := Option.some.inj hr
            replace hS := hS.tail
            replace hS := hS.tail
            exact ⟨rfl, hS⟩
           ·replace hq112 := iteF hc131 hq112
            refine W.skip ?_
            refine W.region ?_
            refine vP hS hE (Gives.inc hE rfl (by have := h81.small; omega)) rfl ?_; clear hE a; intro a hE
            refine vP hS hE (Gives.p hE rfl) rfl ?_; clear hE a; intro a hE
            refine WL.nil ?_
            subst hK123
            exact ⟨rest116.length, Nat.lt_succ_self _, rest116, k114 + 1, rfl, hd117, hq112, hE.pick _ ⟨rfl, rfl, rfl, rfl, rfl, rfl, rfl, trivial⟩, hS⟩
         ·clear hE hS a w; rintro a w ⟨rfl, hE, hS⟩
          dsimp only at hq60
          refine W.region ?_
          refine vP hS hE (Gives.inc hE rfl (by have := h0_0.small; omega)) rfl ?_; clear hE a; intro a hE
          refine vP hS hE (Gives.p hE rfl) rfl ?_; clear hE a; intro a hE
          refine WL.nil ?_
          replace hS := hS.tail
          subst hK71
          exact ⟨rest64.length, Nat.lt_succ_self _, rest64, k62 + 1, rfl, hd65, hq60, hE.pick _ ⟨rfl, rfl, rfl, rfl, trivial⟩, hS⟩
   ·clear hE hS a w; rintro a w ⟨rfl, hE, hS⟩
    dsimp only at hr
    refine W.seq ?_
    refine W.seq (W.region ?_)
    refine vP hS hE (Gives.fld hE rfl fl25_1) rfl ?_; clear hE a; intro a hE
    refine vP hS hE (Gives.loadB hE 0 rfl rfl rfl ty23) rfl ?_; clear hE a; intro a hE
    refine vP hS hE (Gives.len hE rfl sl23) rfl ?_; clear hE a; intro a hE
    refine vP hS hE (Gives.p hE rfl) rfl ?_; clear hE a; intro a hE
    refine WL.nil ?_
    obtain ⟨q133, hq132, hr⟩ := bndS hr
    refine W.cut (fun a w => (.next ()) = q133 ∧ Rep a 105 [(1, .pointer (some ⟨b51, 0, none⟩))] ∧ St w s (pt b51 (.cells #[.slice a0_0 x0.Trains.length c0_0, .slice a0_1 x0.Turns.length c0_1] 25 (0, 0)) :: R)) ?_ ?_
    ·refine W.block ?_
     refine W.loop (fun m a w => ∃ (rest136 : List (List Int)) (k134 : Nat), rest136.length = m ∧ x0.Turns.drop k134 = rest136 ∧ Fishref2TextFault.loop4 rest136 = q133 ∧ Rep a 105 [(1, .pointer (some ⟨b51, 0, none⟩)), (74, .slice a0_1 x0.Turns.length c0_1), (75, .int .i64 ((x0.Turns).length : Int)), (76, .int .i64 ((k134 : Nat) : Int))] ∧ St w s (pt b51 (.cells #[.slice a0_0 x0.Trains.length c0_0, .slice a0_1 x0.Turns.length c0_1] 25 (0, 0)) :: R)) (m := x0.Turns.length) ⟨x0.Turns, 0, rfl, rfl, hq132, hE.pick _ ⟨rfl, rfl, rfl, rfl, trivial⟩, hS⟩ ?_
     clear hE hS a w hq132; rintro m140 a w ⟨rest136, k134, rfl, hd137, hq132, hE, hS⟩
     refine W.gen fun K143 hK143 => ?_
     rcases rest136 with _ | ⟨x135, rest136⟩
     ·have hlt138 := drop_nil hd137
      refine W.seq (W.region ?_)
      refine vP hS hE (Gives.p hE rfl) rfl ?_; clear hE a; intro a hE
      refine WL.nil ?_
      refine W.seq ?_
      refine W.condF hE rfl (decide_eq_false (by omega)) ?_
      subst hK143
      refine W.exit rfl ?_
      exact ⟨hq132, hE.pick _ ⟨rfl, trivial⟩, hS⟩
     ·obtain ⟨hlt138, hx139, hd137⟩ := drop_cons hd137
      rw [Fishref2TextFault.loop4] at hq132
      refine W.seq (W.region ?_)
      refine vP hS hE (Gives.p hE rfl) rfl ?_; clear hE a; intro a hE
      refine WL.nil ?_
      refine W.seq ?_
      refine W.condT hE rfl (decide_eq_true (by omega)) ?_
      refine W.skip ?_
      refine W.seq ?_
      refine W.block ?_
      refine W.seq (W.region ?_)
      obtain ⟨cs144, hl145, hR146, hat147⟩ := h0_1.at hx139
      obtain ⟨a148, c149, rfl, h150⟩ := hR146
      refine vP hS hE (Gives.idx hE k134 rfl rfl sl23 rfl hlt138 (h0_1.aok hlt138)) rfl ?_; clear hE a; intro a hE
      refine vP hS hE (Gives.load1 hE rfl (fun w h => hat147 w _ h) ty45) rfl ?_; clear hE a; intro a hE
      refine vP hS hE (Gives.p hE rfl) rfl ?_; clear hE a; intro a hE
      refine WL.nil ?_
      refine W.seq ?_
      refine W.seq (W.region ?_)
      refine vP hS hE (Gives.p hE rfl) rfl ?_; clear hE a; intro a hE
      refine vP hS hE (Gives.len hE rfl sl45) rfl ?_; clear hE a; intro a hE
      refine vP hS hE (Gives.p hE rfl) rfl ?_; clear hE a; intro a hE
      refine WL.nil ?_
      refine W.cond hE rfl (fun hc151 => ?_) (fun hc151 => ?_)
      ·replace hq132 := iteT hc151 hq132
       refine W.seq (W.region ?_)
       refine vP hS hE (Gives.p hE rfl) rfl ?_; clear hE a; intro a hE
       refine WL.nil ?_
       refine W.ret ?_
       subst hK143
       rw [← hq132] at hr
       dsimp only at hr
       refine finG (fn := Tryd.f56) (rs := [.tmp 2]) (vs := [_]) hE rfl ⟨rfl, trivial⟩ ?_
       obtain rfl := Option.some.inj hr
       replace hS := hS.tail
       exact ⟨rfl, hS⟩
      ·replace hq132 := iteF hc151 hq132
       refine W.skip ?_
       refine W.seq (W.region ?_)
       refine vP hS hE (Gives.p hE rfl) rfl ?_; clear hE a; intro a hE
       refine vP hS hE (Gives.len hE rfl sl45) rfl ?_; clear hE a; intro a hE
       refine vP hS hE (Gives.p hE rfl) rfl ?_; clear hE a; intro a hE
       refine WL.nil ?_
       refine W.cond hE rfl (fun hc152 => ?_) (fun hc152 => ?_)
       ·replace hq132 := iteT hc152 hq132
        refine W.seq (W.region ?_)
        refine vP hS hE (Gives.p hE rfl) rfl ?_; clear hE a; intro a hE
        refine WL.nil ?_
        refine W.ret ?_
        subst hK143
        rw [← hq132] at hr
        dsimp only at hr
        refine finG (fn := Tryd.f56) (rs := [.tmp 2]) (vs := [_]) hE rfl ⟨rfl, trivial⟩ ?_
        obtain rfl := Option.some.inj hr
        replace hS := hS.tail
        exact ⟨rfl, hS⟩
       ·replace hq132 := iteF hc152 hq132
        refine W.skip ?_
        refine W.region ?_
        refine vP hS hE (Gives.inc hE rfl (by have := h0_1.small; omega)) rfl ?_; clear hE a; intro a hE
        refine vP hS hE (Gives.p hE rfl) rfl ?_; clear hE a; intro a hE
        refine WL.nil ?_
        subst hK143
        exact ⟨rest136.length, Nat.lt_succ_self _, rest136, k134 + 1, rfl, hd137, hq132, hE.pick _ ⟨rfl, rfl, rfl, rfl, trivial⟩, hS⟩
    ·clear hE hS a w; rintro a w ⟨rfl, hE, hS⟩
     dsimp only at hr
     refine W.seq ?_
     refine W.seq (W.region ?_)
     refine vP hS hE (Gives.loadBA hE 0 rfl rfl ty25) rfl ?_; clear hE a; intro a hE
     obtain ⟨q153, hq154, hr⟩ := bindS hr
     have hc_ := Fishref2numbersIn_ok hS h0_0 h0_1 hq154
     refine WL.fnq hE (hc_) (runs_plain rfl) bd103 rfl rfl rfl ?_
     clear hE hS hc_; rintro e w ⟨a155, c156, n157, cs158, s161, rfl, hle162, h159, rfl, hS⟩; refine ⟨_, rfl, ?_⟩; clear a; intro a hE
     replace h0_0 := Sl.mono RApiTrain.mono hle162 h0_0
     replace h0_1 := Sl.mono (RL.mono RI.mono) hle162 h0_1
     refine vP hS hE (Gives.len hE rfl sl23) rfl ?_; clear hE a; intro a hE
     refine vP hS hE (Gives.p hE rfl) rfl ?_; clear hE a; intro a hE
     refine WL.nil ?_
     have hb174 : q153.length ≤ 9223372036854775807 := by have := hS.vecCap 0 rfl; unfold maxLen at this; omega
     obtain ⟨q164, hq163, hr⟩ := bindS hr
     refine W.cut (fun a w => (.next ()) = q164 ∧ Rep a 105 [] ∧ St w s161 (vecC 45 1 a155 c156 q153.length cs158 :: pt b51 (.cells #[.slice a0_0 x0.Trains.length c0_0, .slice a0_1 x0.Turns.length c0_1] 25 (0, 0)) :: R)) ?_ ?_
     ·refine W.block ?_
      refine W.loop (fun m a w => ∃ (rest167 : Nat) (k165 : Nat), rest167 = m ∧ k165 + rest167 = q153.length ∧ Fishref2TextFault.loop5 q153 rest167 k165 = some q164 ∧ Rep a 105 [(88, .slice a155 q153.length c156), (89, .int .i64 ((q153.length : Nat) : Int)), (90, .int .i64 ((k165 : Nat) : Int))] ∧ St w s161 (vecC 45 1 a155 c156 q153.length cs158 :: pt b51 (.cells #[.slice a0_0 x0.Trains.length c0_0, .slice a0_1 x0.Turns.length c0_1] 25 (0, 0)) :: R)) (m := q153.length) ⟨q153.length, 0, rfl, by omega, hq163, hE.pick _ ⟨rfl, rfl, rfl, trivial⟩, hS⟩ ?_
      clear hE hS a w hq163; rintro m171 a w ⟨rest167, k165, rfl, hd168, hq163, hE, hS⟩
      refine W.gen fun K175 hK175 => ?_
      rcases rest167 with _ | rest167
      ·skip
       refine W.seq (W.region ?_)
       refine vP hS hE (Gives.p hE rfl) rfl ?_; clear hE a; intro a hE
       refine WL.nil ?_
       refine W.seq ?_
       refine W.condF hE rfl (decide_eq_false (by omega)) ?_
       subst hK175
       refine W.exit rfl ?_
       exact ⟨Option.some.inj hq163, hE.pick _ trivial, hS⟩
      ·have hlt169 : k165 < q153.length := by omega
       rw [Fishref2TextFault.loop5] at hq163
       refine W.seq (W.region ?_)
       refine vP hS hE (Gives.p hE rfl) rfl ?_; clear hE a; intro a hE
       refine WL.nil ?_
       refine W.seq ?_
       refine W.condT hE rfl (decide_eq_true (by omega)) ?_
       refine W.skip ?_
       refine W.seq ?_
       refine W.block ?_
       refine W.seq (W.region ?_)
       obtain ⟨x176, hx177, hq163⟩ := bindS hq163
       obtain ⟨hi178, hlt179, hy180⟩ := gx_some hx177
       obtain ⟨vs181, hl182, hR183, hd184, hget185⟩ := h159.at hy180
       obtain ⟨a186, c187, rfl, h188⟩ := hR183
       refine vP hS hE (Gives.idx hE ((((k165 : Nat) : Int)).toNat) rfl rfl sl23 hi178 (by omega) (hS.vecAok 0 rfl (by omega : (((k165 : Nat) : Int)).toNat < q153.length))) rfl ?_; clear hE a; intro a hE
       refine vP hS hE (Gives.load1 hE rfl (fun w h => St.vecSees h 0 rfl ((((k165 : Nat) : Int)).toNat * 1) _ hget185) ty45) rfl ?_; clear hE a; intro a hE
       refine vP hS hE (Gives.p hE rfl) rfl ?_; clear hE a; intro a hE
       refine WL.nil ?_
       refine W.seq (W.region ?_)
       refine vP hS hE (Gives.p hE rfl) rfl ?_; clear hE a; intro a hE
       refine vP hS hE (Gives.len hE rfl sl45) rfl ?_; clear hE a; intro a hE
       refine vP hS hE (Gives.p hE rfl) rfl ?_; clear hE a; intro a hE
       refine WL.nil ?_
       obtain ⟨q190, hq189, hq163⟩ := bndS hq163
       refine W.cut (fun a w => (.next ()) = q190 ∧ Rep a 105 [(88, .slice a155 q153.length c156), (89, .int .i64 ((q153.length : Nat) : Int)), (90, .int .i64 ((k165 : Nat) : Int))] ∧ St w s161 (vecC 45 1 a155 c156 q153.length cs158 :: pt b51 (.cells #[.slice a0_0 x0.Trains.length c0_0, .slice a0_1 x0.Turns.length c0_1] 25 (0, 0)) :: R)) ?_ ?_
       ·refine W.block ?_
        refine W.loop (fun m a w => ∃ (rest193 : List Int) (k191 : Nat), rest193.length = m ∧ x176.drop k191 = rest193 ∧ Fishref2TextFault.loop6 rest193 = q190 ∧ Rep a 105 [(88, .slice a155 q153.length c156), (89, .int .i64 ((q153.length : Nat) : Int)), (90, .int .i64 ((k165 : Nat) : Int)), (94, .slice a186 x176.length c187), (95, .int .i64 ((x176).length : Int)), (96, .int .i64 ((k191 : Nat) : Int))] ∧ St w s161 (vecC 45 1 a155 c156 q153.length cs158 :: pt b51 (.cells #[.slice a0_0 x0.Trains.length c0_0, .slice a0_1 x0.Turns.length c0_1] 25 (0, 0)) :: R)) (m := x176.length) ⟨x176, 0, rfl, rfl, hq189, hE.pick _ ⟨rfl, rfl, rfl, rfl, rfl, rfl, trivial⟩, hS⟩ ?_
        clear hE hS a w hq189; rintro m197 a w ⟨rest193, k191, rfl, hd194, hq189, hE, hS⟩
        refine W.gen fun K200 hK200 => ?_
        rcases rest193 with _ | ⟨x192, rest193⟩
        ·have hlt195 := drop_nil hd194
         refine W.seq (W.region ?_)
         refine vP hS hE (Gives.p hE rfl) rfl ?_; clear hE a; intro a hE
         refine WL.nil ?_
         refine W.seq ?_
         refine W.condF hE rfl (decide_eq_false (by omega)) ?_
         subst hK200
         refine W.exit rfl ?_
         exact ⟨hq189, hE.pick _ ⟨rfl, rfl, rfl, trivial⟩, hS⟩
        ·obtain ⟨hlt195, hx196, hd194⟩ := drop_cons hd194
         rw [Fishref2TextFault.loop6] at hq189
         refine W.seq (W.region ?_)
         refine vP hS hE (Gives.p hE rfl) rfl ?_; clear hE a; intro a hE
         refine WL.nil ?_
         refine W.seq ?_
         refine W.condT hE rfl (decide_eq_true (by omega)) ?_
         refine W.skip ?_
         refine W.seq ?_
         refine W.block ?_
         refine W.seq (W.region ?_)
         obtain ⟨cs201, hl202, hR203, hat204⟩ := h188.at hx196
         subst hR203
         refine vP hS hE (Gives.idx hE k191 rfl rfl sl45 rfl hlt195 (h188.aok hlt195)) rfl ?_; clear hE a; intro a hE
         refine vP hS hE (Gives.load1 hE rfl (fun w h => hat204 w _ h) ty3) rfl ?_; clear hE a; intro a hE
         refine vP hS hE (Gives.p hE rfl) rfl ?_; clear hE a; intro a hE
         refine WL.nil ?_
         refine W.seq (W.region ?_)
         refine vP hS hE (Gives.p hE rfl) rfl ?_; clear hE a; intro a hE
         refine WL.fnq hE (Fishref2within_ok hS  rfl (r := Fishref2within x192 0 999999)) (runs_plain rfl) bd57 rfl rfl rfl ?_
         clear hE hS; rintro e w ⟨rfl, hS⟩; refine ⟨_, rfl, ?_⟩; clear a; intro a hE
         refine vP hS hE (Gives.p hE rfl) rfl ?_; clear hE a; intro a hE
         refine WL.nil ?_
         refine W.cond hE rfl (fun hc205 => ?_) (fun hc205 => ?_)
         ·replace hq189 := iteT hc205 hq189
          refine W.seq (W.region ?_)
          refine vP hS hE (Gives.p hE rfl) rfl ?_; clear hE a; intro a hE
          refine WL.nil ?_
          refine W.ret ?_
          subst hK200
          subst hK175
          rw [← hq189] at hq163
          dsimp only at hq163
          rw [← Option.some.inj hq163] at hr
          dsimp only at hr
          refine finG (fn := Tryd.f56) (rs := [.tmp 2]) (vs := [_]) hE rfl ⟨rfl, trivial⟩ ?_
          obtain rfl := Option.some.inj hr
          replace hS := hS.tail
          replace hS := hS.tail
          exact ⟨rfl, (hS.down hle162)⟩
         ·replace hq189 := iteF hc205 hq189
          refine W.skip ?_
          refine W.region ?_
          refine vP hS hE (Gives.inc hE rfl (by have := h188.small; omega)) rfl ?_; clear hE a; intro a hE
          refine vP hS hE (Gives.p hE rfl) rfl ?_; clear hE a; intro a hE
          refine WL.nil ?_
          subst hK200
          exact ⟨rest193.length, Nat.lt_succ_self _, rest193, k191 + 1, rfl, hd194, hq189, hE.pick _ ⟨rfl, rfl, rfl, rfl, rfl, rfl, trivial⟩, hS⟩
       ·clear hE hS a w; rintro a w ⟨rfl, hE, hS⟩
        dsimp only at hq163
        refine W.region ?_
        refine vP hS hE (Gives.inc hE rfl (by omega)) rfl ?_; clear hE a; intro a hE
        refine vP hS hE (Gives.p hE rfl) rfl ?_; clear hE a; intro a hE
        refine WL.nil ?_
        subst hK175
        exact ⟨rest167, Nat.lt_succ_self _, rest167, k165 + 1, rfl, (by omega), hq163, hE.pick _ ⟨rfl, rfl, rfl, trivial⟩, hS⟩
     ·clear hE hS a w; rintro a w ⟨rfl, hE, hS⟩
      dsimp only at hr
      refine W.seq (W.region ?_)
      refine vP hS hE (Gives.p hE rfl) rfl ?_; clear hE a; intro a hE
      refine WL.nil ?_
      refine W.ret ?_
      refine finG (fn := Tryd.f56) (rs := [.tmp 2]) (vs := [_]) hE rfl ⟨rfl, trivial⟩ ?_
      obtain rfl := Option.some.inj hr
      replace hS := hS.tail
      replace hS := hS.tail
      exact ⟨rfl, (hS.down hle162)⟩
set_option maxHeartbeats 8000000 in
theorem Fishref2GuideFault_ok  {w : World} {s : Sg} {R : List HP} {x0 : ApiDay} {a0_0 : Option Addr} {c0_0 : Nat} {a0_1 : Option Addr} {c0_1 : Nat} (hS : St w s (R)) (h0_0 : Sl 4 RApiTrain s a0_0 c0_0 x0.Trains) (h0_1 : Sl 1 (RL 1 (RI .i64)) s a0_1 c0_1 x0.Turns) {r : Int} (hr : Fishref2GuideFault x0 = some r) :
  Calls Tryd.prog 12 [.agg (List.toArray [.slice a0_0 x0.Trains.length c0_0, .slice a0_1 x0.Turns.length c0_1])].toArray w (fun e w => e = .returned (.int .i64 r) ∧ St w s (R)) := by
 refine enter Tryd.func12 rfl rfl rfl fun a hE => ?_
 rw [Fishref2GuideFault] at hr
 refine W.seq (W.region ?_)
 refine WL.box hE hS (runs_plain rfl) rfl rfl rfl ?_; clear hE hS a w; intro b51 a w hE hS
 refine vP hS hE (Gives.p hE rfl) rfl ?_; clear hE a; intro a hE
 refine WL.nil ?_
 refine W.seq ?_
 refine W.seq (W.region ?_)
 refine vP hS hE (Gives.loadBA hE 0 rfl rfl ty25) rfl ?_; clear hE a; intro a hE
 obtain ⟨q52, hq53, hr⟩ := bindS hr
 have hc_ := Fishref2TextFault_ok hS h0_0 h0_1 hq53
 refine WL.fnq hE (hc_) (runs_plain rfl) bd56 rfl rfl rfl ?_
 clear hE hS hc_; rintro e w ⟨rfl, hS⟩; refine ⟨_, rfl, ?_⟩; clear a; intro a hE
 refine vP hS hE (Gives.p hE rfl) rfl ?_; clear hE a; intro a hE
 refine WL.nil ?_
 refine W.seq (W.region ?_)
 refine vP hS hE (Gives.p hE rfl) rfl ?_; clear hE a; intro a hE
 refine vP hS hE (Gives.p hE rfl) rfl ?_; clear hE a; intro a hE
 refine WL.nil ?_
 refine W.cond hE rfl (fun hc54 => ?_) (fun hc54 => ?_)
 ·replace hr := iteT hc54 hr
  refine W.seq (W.region ?_)
  refine vP hS hE (Gives.p hE rfl) rfl ?_; clear hE a; intro a hE
  refine vP hS hE (Gives.p hE rfl) rfl ?_; clear hE a; intro a hE
  refine WL.nil ?_
  refine W.ret ?_
  refine finG (fn := Tryd.f12) (rs := [.tmp 2]) (vs := [_]) hE rfl ⟨rfl, trivial⟩ ?_
  obtain rfl := Option.some.inj hr
  replace hS := hS.tail
  exact ⟨rfl, hS⟩
 ·replace hr := iteF hc54 hr
  refine W.skip ?_
  refine W.seq ?_
  refine W.seq (W.region ?_)
  refine vP hS hE (Gives.fld hE rfl fl25_0) rfl ?_; clear hE a; intro a hE
  refine vP hS hE (Gives.loadB hE 0 rfl rfl rfl ty22) rfl ?_; clear hE a; intro a hE
  refine vP hS hE (Gives.len hE rfl sl22) rfl ?_; clear hE a; intro a hE
  refine vP hS hE (Gives.p hE rfl) rfl ?_; clear hE a; intro a hE
  refine WL.nil ?_
  obtain ⟨q56, hq55, hr⟩ := bindS hr
  refine W.cut (fun a w => (.next ()) = q56 ∧ Rep a 93 [] ∧ St w s (pt b51 (.cells #[.slice a0_0 x0.Trains.length c0_0, .slice a0_1 x0.Turns.length c0_1] 25 (0, 0)) :: R)) ?_ ?_
  ·refine W.block ?_
   refine W.loop (fun m a w => ∃ (rest59 : List ApiTrain) (k57 : Nat), rest59.length = m ∧ x0.Trains.drop k57 = rest59 ∧ Fishref2GuideFault.loop1 x0 rest59 k57 = some q56 ∧ Rep a 93 [(1, .pointer (some ⟨b51, 0, none⟩)), (16, .slice a0_0 x0.Trains.length c0_0), (17, .int .i64 ((x0.Trains).length : Int)), (18, .int .i64 ((k57 : Nat) : Int))] ∧ St w s (pt b51 (.cells #[.slice a0_0 x0.Trains.length c0_0, .slice a0_1 x0.Turns.length c0_1] 25 (0, 0)) :: R)) (m := x0.Trains.length) ⟨x0.Trains, 0, rfl, rfl, hq55, hE.pick _ ⟨rfl, rfl, rfl, rfl, trivial⟩, hS⟩ ?_
   clear hE hS a w hq55; rintro m63 a w ⟨rest59, k57, rfl, hd60, hq55, hE, hS⟩
   refine W.gen fun K66 hK66 => ?_
   rcases rest59 with _ | ⟨x58, rest59⟩
   ·have hlt61 := drop_nil hd60
    refine W.seq (W.region ?_)
    refine vP hS hE (Gives.p hE rfl) rfl ?_; clear hE a; intro a hE
    refine WL.nil ?_
    refine W.seq ?_
    refine W.condF hE rfl (decide_eq_false (by omega)) ?_
    subst hK66
    refine W.exit rfl ?_
    exact ⟨Option.some.inj hq55, hE.pick _ trivial, hS⟩
   ·obtain ⟨hlt61, hx62, hd60⟩ := drop_cons hd60
    rw [Fishref2GuideFault.loop1] at hq55
    refine W.seq (W.region ?_)
    refine vP hS hE (Gives.p hE rfl) rfl ?_; clear hE a; intro a hE
    refine WL.nil ?_
    refine W.seq ?_
    refine W.condT hE rfl (decide_eq_true (by omega)) ?_
    refine W.skip ?_
    refine W.seq ?_
    refine W.block ?_
    refine W.seq (W.region ?_)
    refine vP hS hE (Gives.p hE rfl) rfl ?_; clear hE a; intro a hE
    obtain ⟨cs67, hl68, hR69, hat70⟩ := h0_0.at hx62
    obtain ⟨a71, c72, a74, c75, rfl, h73, h76⟩ := hR69
    refine vP hS hE (Gives.idx hE k57 rfl rfl sl22 rfl hlt61 (h0_0.aok hlt61)) rfl ?_; clear hE a; intro a hE
    refine vP hS hE (Gives.loadA hE rfl (fun w h => hat70 w _ h) ty44) rfl ?_; clear hE a; intro a hE
    refine WL.alloc hE hS (runs_plain rfl) zr44 rfl ?_; clear hE hS a w; intro b77 a w hE hS
    refine vP hS hE (Gives.p hE rfl) rfl ?_; clear hE a; intro a hE
    refine WL.storeI hE hS 0 rfl [.int .i64 x58.No, .int .i64 x58.Stock, .slice a71 x58.Stops.length c72, .slice a74 x58.Legs.length c75] (runs_plain rfl) rfl rfl rfl ty44 rfl rfl rfl rfl ?_; clear hE hS a w; intro a w hE hS
    refine WL.nil ?_
    refine W.seq ?_
    refine W.seq (W.region ?_)
    refine vP hS hE (Gives.fld hE rfl fl44_0) rfl ?_; clear hE a; intro a hE
    refine vP hS hE (Gives.loadB hE 0 rfl rfl rfl ty3) rfl ?_; clear hE a; intro a hE
    refine WL.fnq hE (Fishref2within_ok hS  rfl (r := Fishref2within x58.No 1 9999)) (runs_plain rfl) bd57 rfl rfl rfl ?_
    clear hE hS; rintro e w ⟨rfl, hS⟩; refine ⟨_, rfl, ?_⟩; clear a; intro a hE
    refine vP hS hE (Gives.p hE rfl) rfl ?_; clear hE a; intro a hE
    refine WL.nil ?_
    refine W.cond hE rfl (fun hc78 => ?_) (fun hc78 => ?_)
    ·replace hq55 := iteT hc78 hq55
     refine W.seq (W.region ?_)
     refine vP hS hE (Gives.p hE rfl) rfl ?_; clear hE a; intro a hE
     refine WL.nil ?_
     refine W.ret ?_
     subst hK66
     rw [← Option.some.inj hq55] at hr
     dsimp only at hr
     refine finG (fn := Tryd.f12) (rs := [.tmp 2]) (vs := [_]) hE rfl ⟨rfl, trivial⟩ ?_
     obtain rfl := Option.some.inj hr
     replace hS := hS.tail
     replace hS := hS.tail
     exact ⟨rfl, hS⟩
    ·replace hq55 := iteF hc78 hq55
     refine W.skip ?_
     refine W.seq ?_
     refine W.seq (W.region ?_)
     refine vP hS hE (Gives.fld hE rfl fl25_0) rfl ?_; clear hE a; intro a hE
     refine vP hS hE (Gives.loadB hE 1 rfl rfl rfl ty22) rfl ?_; clear hE a; intro a hE
     refine vP hS hE (Gives.p hE rfl) rfl ?_; clear hE a; intro a hE
     obtain ⟨x79, hx80, hq55⟩ := bindS hq55
     obtain ⟨a81, c82, heq83, h84⟩ := h0_0.cut hx80
     obtain ⟨h85, h86, h87, _⟩ := cutl_some hx80
     refine vP hS hE (Gives.slH hE sl22 rfl rfl h86 (Int.le_trans h87 (by have := h0_0.len; omega)) heq83) rfl ?_; clear hE a; intro a hE
     refine vP hS hE (Gives.len hE rfl sl22) rfl ?_; clear hE a; intro a hE
     refine vP hS hE (Gives.p hE rfl) rfl ?_; clear hE a; intro a hE
     refine WL.nil ?_
     obtain ⟨q89, hq88, hq55⟩ := bndS hq55
     refine W.cut (fun a w => (.next ()) = q89 ∧ Rep a 93 [(1, .pointer (some ⟨b51, 0, none⟩)), (5, .pointer (some ⟨b77, 0, none⟩)), (16, .slice a0_0 x0.Trains.length c0_0), (17, .int .i64 ((x0.Trains).length : Int)), (18, .int .i64 ((k57 : Nat) : Int))] ∧ St w s (pt b77 (.cells #[.int .i64 x58.No, .int .i64 x58.Stock, .slice a71 x58.Stops.length c72, .slice a74 x58.Legs.length c75] 44 (0, 0)) :: pt b51 (.cells #[.slice a0_0 x0.Trains.length c0_0, .slice a0_1 x0.Turns.length c0_1] 25 (0, 0)) :: R)) ?_ ?_
     ·refine W.block ?_
      refine W.loop (fun m a w => ∃ (rest92 : List ApiTrain) (k90 : Nat), rest92.length = m ∧ x79.drop k90 = rest92 ∧ Fishref2GuideFault.loop2 x58 rest92 = q89 ∧ Rep a 93 [(1, .pointer (some ⟨b51, 0, none⟩)), (5, .pointer (some ⟨b77, 0, none⟩)), (16, .slice a0_0 x0.Trains.length c0_0), (17, .int .i64 ((x0.Trains).length : Int)), (18, .int .i64 ((k57 : Nat) : Int)), (30, .slice a81 x79.length c82), (31, .int .i64 ((x79).length : Int)), (32, .int .i64 ((k90 : Nat) : Int))] ∧ St w s (pt b77 (.cells #[.int .i64 x58.No, .int .i64 x58.Stock, .slice a71 x58.Stops.length c72, .slice a74 x58.Legs.length c75] 44 (0, 0)) :: pt b51 (.cells #[.slice a0_0 x0.Trains.length c0_0, .slice a0_1 x0.Turns.length c0_1] 25 (0, 0)) :: R)) (m := x79.length) ⟨x79, 0, rfl, rfl, hq88, hE.pick _ ⟨rfl, rfl, rfl, rfl, rfl, rfl, rfl, rfl, trivial⟩, hS⟩ ?_
      clear hE hS a w hq88; rintro m96 a w ⟨rest92, k90, rfl, hd93, hq88, hE, hS⟩
      refine W.gen fun K99 hK99 => ?_
      rcases rest92 with _ | ⟨x91, rest92⟩
      ·have hlt94 := drop_nil hd93
       refine W.seq (W.region ?_)
       refine vP hS hE (Gives.p hE rfl) rfl ?_; clear hE a; intro a hE
       refine WL.nil ?_
       refine W.seq ?_
       refine W.condF hE rfl (decide_eq_false (by omega)) ?_
       subst hK99
       refine W.exit rfl ?_
       exact ⟨hq88, hE.pick _ ⟨rfl, rfl, rfl, rfl, rfl, trivial⟩, hS⟩
      ·obtain ⟨hlt94, hx95, hd93⟩ := drop_cons hd93
       rw [Fishref2GuideFault.loop2] at hq88
       refine W.seq (W.region ?_)
       refine vP hS hE (Gives.p hE rfl) rfl ?_; clear hE a; intro a hE
       refine WL.nil ?_
       refine W.seq ?_
       refine W.condT hE rfl (decide_eq_true (by omega)) ?_
       refine W.skip ?_
       refine W.seq ?_
       refine W.block ?_
       refine W.seq (W.region ?_)
       obtain ⟨cs100, hl101, hR102, hat103⟩ := h84.at hx95
       obtain ⟨a104, c105, a107, c108, rfl, h106, h109⟩ := hR102
       refine vP hS hE (Gives.idx hE k90 rfl rfl sl22 rfl hlt94 (h84.aok hlt94)) rfl ?_; clear hE a; intro a hE
       refine vP hS hE (Gives.loadA hE rfl (fun w h => hat103 w _ h) ty44) rfl ?_; clear hE a; intro a hE
       refine WL.alloc hE hS (runs_plain rfl) zr44 rfl ?_; clear hE hS a w; intro b110 a w hE hS
       refine WL.storeI hE hS 0 rfl [.int .i64 x91.No, .int .i64 x91.Stock, .slice a104 x91.Stops.length c105, .slice a107 x91.Legs.length c108] (runs_plain rfl) rfl rfl rfl ty44 rfl rfl rfl rfl ?_; clear hE hS a w; intro a w hE hS
       refine WL.nil ?_
       refine W.seq (W.region ?_)
       refine vP hS hE (Gives.fld hE rfl fl44_0) rfl ?_; clear hE a; intro a hE
       refine vP hS hE (Gives.loadB hE 0 rfl rfl rfl ty3) rfl ?_; clear hE a; intro a hE
       refine vP hS hE (Gives.fld hE rfl fl44_0) rfl ?_; clear hE a; intro a hE
       refine vP hS hE (Gives.loadB hE 1 rfl rfl rfl ty3) rfl ?_; clear hE a; intro a hE
       refine vP hS hE (Gives.p hE rfl) rfl ?_; clear hE a; intro a hE
       refine WL.nil ?_
       refine W.cond hE rfl (fun hc111 => ?_) (fun hc111 => ?_)
       ·replace hq88 := iteT hc111 hq88
        refine W.seq (W.region ?_)
        refine vP hS hE (Gives.p hE rfl) rfl ?_; clear hE a; intro a hE
        refine WL.nil ?_
        refine W.ret ?_
        subst hK99
        subst hK66
        rw [← hq88] at hq55
        dsimp only at hq55
        rw [← Option.some.inj hq55] at hr
        dsimp only at hr
        refine finG (fn := Tryd.f12) (rs := [.tmp 2]) (vs := [_]) hE rfl ⟨rfl, trivial⟩ ?_
        obtain rfl := Option.some.inj hr
        replace hS := hS.tail
        replace hS := hS.tail
        replace hS := hS.tail
        exact ⟨rfl, hS⟩
       ·replace hq88 := iteF hc111 hq88
        refine W.skip ?_
        refine W.region ?_
        refine vP hS hE (Gives.inc hE rfl (by have := h84.small; omega)) rfl ?_; clear hE a; intro a hE
        refine vP hS hE (Gives.p hE rfl) rfl ?_; clear hE a; intro a hE
        refine WL.nil ?_
        replace hS := hS.tail
        subst hK99
        exact ⟨rest92.length, Nat.lt_succ_self _, rest92, k90 + 1, rfl, hd93, hq88, hE.pick _ ⟨rfl, rfl, rfl, rfl, rfl, rfl, rfl, rfl, trivial⟩, hS⟩
     ·clear hE hS a w; rintro a w ⟨rfl, hE, hS⟩
      dsimp only at hq55
      refine W.seq ?_
      refine W.seq (W.region ?_)
      refine vP hS hE (Gives.fld hE rfl fl44_2) rfl ?_; clear hE a; intro a hE
      refine vP hS hE (Gives.loadB hE 0 rfl rfl rfl ty42) rfl ?_; clear hE a; intro a hE
      refine vP hS hE (Gives.len hE rfl sl42) rfl ?_; clear hE a; intro a hE
      refine vP hS hE (Gives.p hE rfl) rfl ?_; clear hE a; intro a hE
      refine WL.nil ?_
      refine W.cond hE rfl (fun hc112 => ?_) (fun hc112 => ?_)
      ·replace hq55 := iteT hc112 hq55
       refine W.seq (W.region ?_)
       refine vP hS hE (Gives.p hE rfl) rfl ?_; clear hE a; intro a hE
       refine WL.nil ?_
       refine W.ret ?_
       subst hK66
       rw [← Option.some.inj hq55] at hr
       dsimp only at hr
       refine finG (fn := Tryd.f12) (rs := [.tmp 2]) (vs := [_]) hE rfl ⟨rfl, trivial⟩ ?_
       obtain rfl := Option.some.inj hr
       replace hS := hS.tail
       replace hS := hS.tail
       exact ⟨rfl, hS⟩
      ·replace hq55 := iteF hc112 hq55
       refine W.skip ?_
       refine W.seq (W.region ?_)
       refine vP hS hE (Gives.fld hE rfl fl44_2) rfl ?_; clear hE a; intro a hE
       refine vP hS hE (Gives.loadB hE 0 rfl rfl rfl ty42) rfl ?_; clear hE a; intro a hE
       refine vP hS hE (Gives.len hE rfl sl42) rfl ?_; clear hE a; intro a hE
       refine vP hS hE (Gives.p hE rfl) rfl ?_; clear hE a; intro a hE
       refine WL.nil ?_
       obtain ⟨q114, hq113, hq55⟩ := bindS hq55
       refine W.cut (fun a w => (.next ()) = q114 ∧ Rep a 93 [(1, .pointer (some ⟨b51, 0, none⟩)), (16, .slice a0_0 x0.Trains.length c0_0), (17, .int .i64 ((x0.Trains).length : Int)), (18, .int .i64 ((k57 : Nat) : Int))] ∧ St w s (pt b77 (.cells #[.int .i64 x58.No, .int .i64 x58.Stock, .slice a71 x58.Stops.length c72, .slice a74 x58.Legs.length c75] 44 (0, 0)) :: pt b51 (.cells #[.slice a0_0 x0.Trains.length c0_0, .slice a0_1 x0.Turns.length c0_1] 25 (0, 0)) :: R)) ?_ ?_
       ·refine W.block ?_
        refine W.loop (fun m a w => ∃ (rest117 : List ApiStop) (k115 : Nat), rest117.length = m ∧ x58.Stops.drop k115 = rest117 ∧ Fishref2GuideFault.loop3 x58 rest117 k115 = some q114 ∧ Rep a 93 [(1, .pointer (some ⟨b51, 0, none⟩)), (5, .pointer (some ⟨b77, 0, none⟩)), (16, .slice a0_0 x0.Trains.length c0_0), (17, .int .i64 ((x0.Trains).length : Int)), (18, .int .i64 ((k57 : Nat) : Int)), (47, .slice a71 x58.Stops.length c72), (48, .int .i64 ((x58.Stops).length : Int)), (49, .int .i64 ((k115 : Nat) : Int))] ∧ St w s (pt b77 (.cells #[.int .i64 x58.No, .int .i64 x58.Stock, .slice a71 x58.Stops.length c72, .slice a74 x58.Legs.length c75] 44 (0, 0)) :: pt b51 (.cells #[.slice a0_0 x0.Trains.length c0_0, .slice a0_1 x0.Turns.length c0_1] 25 (0, 0)) :: R)) (m := x58.Stops.length) ⟨x58.Stops, 0, rfl, rfl, hq113, hE.pick _ ⟨rfl, rfl, rfl, rfl, rfl, rfl, rfl, rfl, trivial⟩, hS⟩ ?_
        clear hE hS a w hq113; rintro m121 a w ⟨rest117, k115, rfl, hd118, hq113, hE, hS⟩
        refine W.gen fun K124 hK124 => ?_
        rcases rest117 with _ | ⟨x116, rest117⟩
        ·have hlt119 := drop_nil hd118
         refine W.seq (W.region ?_)
         refine vP hS hE (Gives.p hE rfl) rfl ?_; clear hE a; intro a hE
         refine WL.nil ?_
         refine W.seq ?_
         refine W.condF hE rfl (decide_eq_false (by omega)) ?_
         subst hK124
         refine W.exit rfl ?_
         exact ⟨Option.some.inj hq113, hE.pick _ ⟨rfl, rfl, rfl, rfl, trivial⟩, hS⟩
        ·obtain ⟨hlt119, hx120, hd118⟩ := drop_cons hd118
         rw [Fishref2GuideFault.loop3] at hq113
         refine W.seq (W.region ?_)
         refine vP hS hE (Gives.p hE rfl) rfl ?_; clear hE a; intro a hE
         refine WL.nil ?_
         refine W.seq ?_
         refine W.condT hE rfl (decide_eq_true (by omega)) ?_
         refine W.skip ?_
         refine W.seq ?_
         refine W.block ?_
         refine W.seq (W.region ?_)
         refine vP hS hE (Gives.p hE rfl) rfl ?_; clear hE a; intro a hE
         obtain ⟨cs125, hl126, hR127, hat128⟩ := h73.at hx120
         subst hR127
         refine vP hS hE (Gives.idx hE k115 rfl rfl sl42 rfl hlt119 (h73.aok hlt119)) rfl ?_; clear hE a; intro a hE
         refine vP hS hE (Gives.loadA hE rfl (fun w h => hat128 w _ h) ty106) rfl ?_; clear hE a; intro a hE
         refine WL.alloc hE hS (runs_plain rfl) zr106 rfl ?_; clear hE hS a w; intro b129 a w hE hS
         refine vP hS hE (Gives.p hE rfl) rfl ?_; clear hE a; intro a hE
         refine WL.storeI hE hS 0 rfl (ApiStop.cells x116) (runs_plain rfl) rfl rfl rfl ty106 rfl rfl rfl rfl ?_; clear hE hS a w; intro a w hE hS
         refine WL.nil ?_
         refine W.seq ?_
         refine W.seq ?_
         obtain ⟨q131, hq130, hq113⟩ := bndS hq113
         refine W.cut (fun a w => ∃ (q134 : Bool), q134 = q131 ∧ Rep a 93 [(1, .pointer (some ⟨b51, 0, none⟩)), (5, .pointer (some ⟨b77, 0, none⟩)), (8, .int .i64 ((k115 : Nat) : Int)), (9, .pointer (some ⟨b129, 0, none⟩)), (16, .slice a0_0 x0.Trains.length c0_0), (17, .int .i64 ((x0.Trains).length : Int)), (18, .int .i64 ((k57 : Nat) : Int)), (47, .slice a71 x58.Stops.length c72), (48, .int .i64 ((x58.Stops).length : Int)), (49, .int .i64 ((k115 : Nat) : Int)), (69, .bool q134)] ∧ St w s (pt b129 (.cells (ApiStop.cells x116).toArray 106 (0, 0)) :: pt b77 (.cells #[.int .i64 x58.No, .int .i64 x58.Stock, .slice a71 x58.Stops.length c72, .slice a74 x58.Legs.length c75] 44 (0, 0)) :: pt b51 (.cells #[.slice a0_0 x0.Trains.length c0_0, .slice a0_1 x0.Turns.length c0_1] 25 (0, 0)) :: R)) ?_ ?_
         ·refine W.gen fun K135 hK135 => ?_
          refine W.region ?_
          refine vP hS hE (Gives.fld hE rfl fl106_0) rfl ?_; clear hE a; intro a hE
          refine vP hS hE (Gives.loadB hE 0 rfl rfl rfl ty3) rfl ?_; clear hE a; intro a hE
          refine WL.fnq hE (Fishref2within_ok hS  rfl (r := Fishref2within x116.Station 0 11)) (runs_plain rfl) bd57 rfl rfl rfl ?_
          clear hE hS; rintro e w ⟨rfl, hS⟩; refine ⟨_, rfl, ?_⟩; clear a; intro a hE
          refine vP hS hE (Gives.p hE rfl) rfl ?_; clear hE a; intro a hE
          refine vP hS hE (Gives.p hE rfl) rfl ?_; clear hE a; intro a hE
          rcases Bool.eq_false_or_eq_true (!(Fishref2within x116.Station 0 11)) with hg136 | hg136
          ·replace hq130 := iteT hg136 hq130
           refine WL.no hE (runs_not hE rfl rfl rfl (by rw [hg136]; decide)) rfl ?_; clear hE a; intro a hE
           refine WL.no hE (runs_not hE rfl rfl rfl (by rw [hg136]; decide)) rfl ?_; clear hE a; intro a hE
           refine WL.no hE (runs_not hE rfl rfl rfl (by rw [hg136]; decide)) rfl ?_; clear hE a; intro a hE
           refine WL.no hE (runs_not hE rfl rfl rfl (by rw [hg136]; decide)) rfl ?_; clear hE a; intro a hE
           refine vP hS hE (Gives.pickT hE rfl hg136 rfl) rfl ?_; clear hE a; intro a hE
           refine vP hS hE (Gives.p hE rfl) rfl ?_; clear hE a; intro a hE
           refine WL.no hE (runs_not hE rfl rfl rfl (by decide)) rfl ?_; clear hE a; intro a hE
           refine WL.no hE (runs_not hE rfl rfl rfl (by decide)) rfl ?_; clear hE a; intro a hE
           refine WL.no hE (runs_not hE rfl rfl rfl (by decide)) rfl ?_; clear hE a; intro a hE
           refine WL.no hE (runs_not hE rfl rfl rfl (by decide)) rfl ?_; clear hE a; intro a hE
           refine vP hS hE (Gives.pickT hE rfl rfl rfl) rfl ?_; clear hE a; intro a hE
           refine WL.nil ?_
           subst hK135
           exact ⟨true, hq130, hE.pick _ ⟨rfl, rfl, rfl, rfl, rfl, rfl, rfl, rfl, rfl, rfl, rfl, trivial⟩, hS⟩
          ·replace hq130 := iteF hg136 hq130
           refine WL.vS hS hE (runs_if hE rfl rfl rfl hg136) (Gives.fld hE rfl fl106_2) rfl ?_; clear hE a; intro a hE
           refine WL.vS hS hE (runs_if hE rfl rfl rfl hg136) (Gives.loadB hE 0 rfl rfl rfl ty3) rfl ?_; clear hE a; intro a hE
           refine WL.fnq hE (Fishref2within_ok hS  rfl (r := Fishref2within x116.Arr 0 28800)) (runs_if hE rfl rfl rfl hg136) bd57 rfl rfl rfl ?_
           clear hE hS; rintro e w ⟨rfl, hS⟩; refine ⟨_, rfl, ?_⟩; clear a; intro a hE
           refine WL.vS hS hE (runs_if hE rfl rfl rfl hg136) (Gives.p hE rfl) rfl ?_; clear hE a; intro a hE
           refine vP hS hE (Gives.pickF hE rfl hg136 rfl) rfl ?_; clear hE a; intro a hE
           refine vP hS hE (Gives.p hE rfl) rfl ?_; clear hE a; intro a hE
           rcases Bool.eq_false_or_eq_true (!(Fishref2within x116.Arr 0 28800)) with hg137 | hg137
           ·replace hq130 := iteT hg137 hq130
            refine WL.no hE (runs_not hE rfl rfl rfl (by rw [hg137]; decide)) rfl ?_; clear hE a; intro a hE
            refine WL.no hE (runs_not hE rfl rfl rfl (by rw [hg137]; decide)) rfl ?_; clear hE a; intro a hE
            refine WL.no hE (runs_not hE rfl rfl rfl (by rw [hg137]; decide)) rfl ?_; clear hE a; intro a hE
            refine WL.no hE (runs_not hE rfl rfl rfl (by rw [hg137]; decide)) rfl ?_; clear hE a; intro a hE
            refine vP hS hE (Gives.pickT hE rfl hg137 rfl) rfl ?_; clear hE a; intro a hE
            refine WL.nil ?_
            subst hK135
            exact ⟨true, hq130, hE.pick _ ⟨rfl, rfl, rfl, rfl, rfl, rfl, rfl, rfl, rfl, rfl, rfl, trivial⟩, hS⟩
           ·replace hq130 := iteF hg137 hq130
            refine WL.vS hS hE (runs_if hE rfl rfl rfl hg137) (Gives.fld hE rfl fl106_3) rfl ?_; clear hE a; intro a hE
            refine WL.vS hS hE (runs_if hE rfl rfl rfl hg137) (Gives.loadB hE 0 rfl rfl rfl ty3) rfl ?_; clear hE a; intro a hE
            refine WL.fnq hE (Fishref2within_ok hS  rfl (r := Fishref2within x116.Dep 0 28800)) (runs_if hE rfl rfl rfl hg137) bd57 rfl rfl rfl ?_
            clear hE hS; rintro e w ⟨rfl, hS⟩; refine ⟨_, rfl, ?_⟩; clear a; intro a hE
            refine WL.vS hS hE (runs_if hE rfl rfl rfl hg137) (Gives.p hE rfl) rfl ?_; clear hE a; intro a hE
            refine vP hS hE (Gives.pickF hE rfl hg137 rfl) rfl ?_; clear hE a; intro a hE
            refine WL.nil ?_
            subst hK135
            exact ⟨!(Fishref2within x116.Dep 0 28800), hq130, hE.pick _ ⟨rfl, rfl, rfl, rfl, rfl, rfl, rfl, rfl, rfl, rfl, rfl, trivial⟩, hS⟩
         ·clear hE hS a w; rintro a w ⟨q134, rfl, hE, hS⟩
          refine W.cond hE rfl (fun hc138 => ?_) (fun hc138 => ?_)
          ·replace hq113 := iteT hc138 hq113
           refine W.seq (W.region ?_)
           refine vP hS hE (Gives.p hE rfl) rfl ?_; clear hE a; intro a hE
           refine WL.nil ?_
           refine W.ret ?_
           subst hK124
           subst hK66
           rw [← Option.some.inj hq113] at hq55
           dsimp only at hq55
           rw [← Option.some.inj hq55] at hr
           dsimp only at hr
           refine finG (fn := Tryd.f12) (rs := [.tmp 2]) (vs := [_]) hE rfl ⟨rfl, trivial⟩ ?_
           obtain rfl := Option.some.inj hr
           replace hS := hS.tail
           replace hS := hS.tail
           replace hS := hS.tail
           exact ⟨rfl, hS⟩
          ·replace hq113 := iteF hc138 hq113
           refine W.skip ?_
           refine W.seq ?_
           obtain ⟨q140, hq139, hq113⟩ := bindS hq113
           refine W.cut (fun a w => ∃ (q143 : Bool), q143 = q140 ∧ Rep a 93 [(1, .pointer (some ⟨b51, 0, none⟩)), (5, .pointer (some ⟨b77, 0, none⟩)), (16, .slice a0_0 x0.Trains.length c0_0), (17, .int .i64 ((x0.Trains).length : Int)), (18, .int .i64 ((k57 : Nat) : Int)), (47, .slice a71 x58.Stops.length c72), (48, .int .i64 ((x58.Stops).length : Int)), (49, .int .i64 ((k115 : Nat) : Int)), (90, .bool q143)] ∧ St w s (pt b129 (.cells (ApiStop.cells x116).toArray 106 (0, 0)) :: pt b77 (.cells #[.int .i64 x58.No, .int .i64 x58.Stock, .slice a71 x58.Stops.length c72, .slice a74 x58.Legs.length c75] 44 (0, 0)) :: pt b51 (.cells #[.slice a0_0 x0.Trains.length c0_0, .slice a0_1 x0.Turns.length c0_1] 25 (0, 0)) :: R)) ?_ ?_
           ·refine W.gen fun K144 hK144 => ?_
            refine W.regionQ (C := fun w => St w s (pt b129 (.cells (ApiStop.cells x116).toArray 106 (0, 0)) :: pt b77 (.cells #[.int .i64 x58.No, .int .i64 x58.Stock, .slice a71 x58.Stops.length c72, .slice a74 x58.Legs.length c75] 44 (0, 0)) :: pt b51 (.cells #[.slice a0_0 x0.Trains.length c0_0, .slice a0_1 x0.Turns.length c0_1] 25 (0, 0)) :: R)) mixed (by kernel_rfl) hS.drew ?_
            refine qP hE (Gives.fld hE rfl fl106_3) rfl ?_; clear hE a; intro a hE
            refine qP hE (Gives.loadB hE 0 rfl rfl rfl ty3) rfl ?_; clear hE a; intro a hE
            refine qP hE (Gives.fld hE rfl fl106_2) rfl ?_; clear hE a; intro a hE
            refine qP hE (Gives.loadB hE 0 rfl rfl rfl ty3) rfl ?_; clear hE a; intro a hE
            refine qP hE (Gives.p hE rfl) rfl ?_; clear hE a; intro a hE
            refine qP hE (Gives.p hE rfl) rfl ?_; clear hE a; intro a hE
            rcases Bool.eq_false_or_eq_true (decide (x116.Dep < x116.Arr)) with hg145 | hg145
            ·replace hq139 := iteT hg145 hq139
             refine QL.no hE (runs_not hE rfl rfl rfl (by rw [hg145]; decide)) rfl ?_; clear hE a; intro a hE
             refine QL.no hE (runs_not hE rfl rfl rfl (by rw [hg145]; decide)) rfl ?_; clear hE a; intro a hE
             refine QL.no hE (runs_not hE rfl rfl rfl (by rw [hg145]; decide)) rfl ?_; clear hE a; intro a hE
             refine QL.no hE (runs_undef hE rfl rfl rfl) rfl ?_; clear hE a; intro a hE
             refine QL.no hE (runs_undef hE rfl rfl rfl) rfl ?_; clear hE a; intro a hE
             refine QL.no hE (runs_undef hE rfl rfl rfl) rfl ?_; clear hE a; intro a hE
             refine QL.no hE (runs_undef hE rfl rfl rfl) rfl ?_; clear hE a; intro a hE
             refine QL.no hE (runs_undef hE rfl rfl rfl) rfl ?_; clear hE a; intro a hE
             refine QL.no hE (runs_undef hE rfl rfl rfl) rfl ?_; clear hE a; intro a hE
             refine QL.no hE (runs_undef hE rfl rfl rfl) rfl ?_; clear hE a; intro a hE
             refine QL.no hE (runs_undef hE rfl rfl rfl) rfl ?_; clear hE a; intro a hE
             refine QL.no hE (runs_undef hE rfl rfl rfl) rfl ?_; clear hE a; intro a hE
             refine QL.no hE (runs_undef hE rfl rfl rfl) rfl ?_; clear hE a; intro a hE
             refine QL.no hE (runs_not hE rfl rfl rfl (by rw [hg145]; decide)) rfl ?_; clear hE a; intro a hE
             refine qP hE (Gives.pickT hE rfl hg145 rfl) rfl ?_; clear hE a; intro a hE
             refine QL.nil ?_; clear hS w; intro w hS
             subst hK144
             exact ⟨true, Option.some.inj hq139, hE.pick _ ⟨rfl, rfl, rfl, rfl, rfl, rfl, rfl, rfl, rfl, trivial⟩, hS⟩
            ·replace hq139 := iteF hg145 hq139
             refine QL.v hE (runs_if hE rfl rfl rfl hg145) (Gives.p hE rfl) rfl ?_; clear hE a; intro a hE
             refine QL.v hE (runs_if hE rfl rfl rfl hg145) (Gives.p hE rfl) rfl ?_; clear hE a; intro a hE
             refine QL.v hE (runs_if hE rfl rfl rfl hg145) (Gives.p hE rfl) rfl ?_; clear hE a; intro a hE
             rcases Bool.eq_false_or_eq_true (decide (((k115 : Nat) : Int) > 0)) with hg146 | hg146
             ·replace hq139 := iteT hg146 hq139
              refine QL.v hE (runs_if hE rfl rfl rfl hg146) (Gives.fld hE rfl fl106_2) rfl ?_; clear hE a; intro a hE
              refine QL.v hE (runs_if hE rfl rfl rfl hg146) (Gives.loadB hE 0 rfl rfl rfl ty3) rfl ?_; clear hE a; intro a hE
              refine QL.v hE (runs_if hE rfl rfl rfl hg146) (Gives.fld hE rfl fl44_2) rfl ?_; clear hE a; intro a hE
              refine QL.v hE (runs_if hE rfl rfl rfl hg146) (Gives.loadB hE 1 rfl rfl rfl ty42) rfl ?_; clear hE a; intro a hE
              refine QL.v hE (runs_if hE rfl rfl rfl hg146) (Gives.p hE rfl) rfl ?_; clear hE a; intro a hE
              refine QL.v hE (runs_if hE rfl rfl rfl hg146) (Gives.p hE rfl) rfl ?_; clear hE a; intro a hE
              obtain ⟨x147, hx148, hq139⟩ := bindS hq139
              obtain ⟨hi149, hlt150, hy151⟩ := gx_some hx148
              obtain ⟨cs152, hl153, hR154, hat155⟩ := h73.at hy151
              subst hR154
              refine QL.v hE (runs_if hE rfl rfl rfl hg146) (Gives.idx hE (w64 (((k115 : Nat) : Int) - 1)).toNat rfl rfl sl42 hi149 hlt150 (h73.aok hlt150)) rfl ?_; clear hE a; intro a hE
              refine QL.v hE (runs_if hE rfl rfl rfl hg146) (Gives.fld hE rfl fl106_3) rfl ?_; clear hE a; intro a hE
              refine QL.v hE (runs_if hE rfl rfl rfl hg146) (Gives.load1 hE rfl (fun w h => (hat155 w _ h).one rfl) ty3) rfl ?_; clear hE a; intro a hE
              refine QL.v hE (runs_if hE rfl rfl rfl hg146) (Gives.p hE rfl) rfl ?_; clear hE a; intro a hE
              refine QL.v hE (runs_if hE rfl rfl rfl hg145) (Gives.pickT hE rfl hg146 rfl) rfl ?_; clear hE a; intro a hE
              refine qP hE (Gives.pickF hE rfl hg145 rfl) rfl ?_; clear hE a; intro a hE
              refine QL.nil ?_; clear hS w; intro w hS
              subst hK144
              exact ⟨decide (x116.Arr ≤ x147.Dep), Option.some.inj hq139, hE.pick _ ⟨rfl, rfl, rfl, rfl, rfl, rfl, rfl, rfl, rfl, trivial⟩, hS⟩
             ·replace hq139 := iteF hg146 hq139
              refine QL.no hE (runs_not hE rfl rfl rfl (by rw [hg146]; decide)) rfl ?_; clear hE a; intro a hE
              refine QL.no hE (runs_not hE rfl rfl rfl (by rw [hg146]; decide)) rfl ?_; clear hE a; intro a hE
              refine QL.no hE (runs_not hE rfl rfl rfl (by rw [hg146]; decide)) rfl ?_; clear hE a; intro a hE
              refine QL.no hE (runs_not hE rfl rfl rfl (by rw [hg146]; decide)) rfl ?_; clear hE a; intro a hE
              refine QL.no hE (runs_not hE rfl rfl rfl (by rw [hg146]; decide)) rfl ?_; clear hE a; intro a hE
              refine QL.no hE (runs_not hE rfl rfl rfl (by rw [hg146]; decide)) rfl ?_; clear hE a; intro a hE
              refine QL.no hE (runs_not hE rfl rfl rfl (by rw [hg146]; decide)) rfl ?_; clear hE a; intro a hE
              refine QL.no hE (runs_not hE rfl rfl rfl (by rw [hg146]; decide)) rfl ?_; clear hE a; intro a hE
              refine QL.no hE (runs_not hE rfl rfl rfl (by rw [hg146]; decide)) rfl ?_; clear hE a; intro a hE
              refine QL.no hE (runs_not hE rfl rfl rfl (by rw [hg146]; decide)) rfl ?_; clear hE a; intro a hE
              refine QL.v hE (runs_if hE rfl rfl rfl hg145) (Gives.pickF hE rfl hg146 rfl) rfl ?_; clear hE a; intro a hE
              refine qP hE (Gives.pickF hE rfl hg145 rfl) rfl ?_; clear hE a; intro a hE
              refine QL.nil ?_; clear hS w; intro w hS
              subst hK144
              exact ⟨false, Option.some.inj hq139, hE.pick _ ⟨rfl, rfl, rfl, rfl, rfl, rfl, rfl, rfl, rfl, trivial⟩, hS⟩
           ·clear hE hS a w; rintro a w ⟨q143, rfl, hE, hS⟩
            refine W.cond hE rfl (fun hc156 => ?_) (fun hc156 => ?_)
            ·replace hq113 := iteT hc156 hq113
             refine W.seq (W.region ?_)
             refine vP hS hE (Gives.p hE rfl) rfl ?_; clear hE a; intro a hE
             refine WL.nil ?_
             refine W.ret ?_
             subst hK124
             subst hK66
             rw [← Option.some.inj hq113] at hq55
             dsimp only at hq55
             rw [← Option.some.inj hq55] at hr
             dsimp only at hr
             refine finG (fn := Tryd.f12) (rs := [.tmp 2]) (vs := [_]) hE rfl ⟨rfl, trivial⟩ ?_
             obtain rfl := Option.some.inj hr
             replace hS := hS.tail
             replace hS := hS.tail
             replace hS := hS.tail
             exact ⟨rfl, hS⟩
            ·replace hq113 := iteF hc156 hq113
             refine W.skip ?_
             refine W.region ?_
             refine vP hS hE (Gives.inc hE rfl (by have := h73.small; omega)) rfl ?_; clear hE a; intro a hE
             refine vP hS hE (Gives.p hE rfl) rfl ?_; clear hE a; intro a hE
             refine WL.nil ?_
             replace hS := hS.tail
             subst hK124
             exact ⟨rest117.length, Nat.lt_succ_self _, rest117, k115 + 1, rfl, hd118, hq113, hE.pick _ ⟨rfl, rfl, rfl, rfl, rfl, rfl, rfl, rfl, trivial⟩, hS⟩
       ·clear hE hS a w; rintro a w ⟨rfl, hE, hS⟩
        dsimp only at hq55
        refine W.region ?_
        refine vP hS hE (Gives.inc hE rfl (by have := h0_0.small; omega)) rfl ?_; clear hE a; intro a hE
        refine vP hS hE (Gives.p hE rfl) rfl ?_; clear hE a; intro a hE
        refine WL.nil ?_
        replace hS := hS.tail
        subst hK66
        exact ⟨rest59.length, Nat.lt_succ_self _, rest59, k57 + 1, rfl, hd60, hq55, hE.pick _ ⟨rfl, rfl, rfl, rfl, trivial⟩, hS⟩
  ·clear hE hS a w; rintro a w ⟨rfl, hE, hS⟩
   dsimp only at hr
   refine W.seq (W.region ?_)
   refine vP hS hE (Gives.p hE rfl) rfl ?_; clear hE a; intro a hE
   refine WL.nil ?_
   refine W.ret ?_
   refine finG (fn := Tryd.f12) (rs := [.tmp 2]) (vs := [_]) hE rfl ⟨rfl, trivial⟩ ?_
   obtain rfl := Option.some.inj hr
   replace hS := hS.tail
   exact ⟨rfl, hS⟩
set_option maxHeartbeats 8000000 in
theorem Farewithin_ok  {w : World} {s : Sg} {R : List HP} {x0 : Int} {x1 : Int} {x2 : Int} (hS : St w s (R))  {r : Bool} (hr : Farewithin x0 x1 x2 = r) :
  Calls Tryd.prog 89 [.int .i64 x0, .int .i64 x1, .int .i64 x2].toArray w (fun e w => e = .returned (.bool r) ∧ St w s (R)) := by
 refine enter Tryd.func89 rfl rfl rfl fun a hE => ?_
 rw [Farewithin] at hr
 refine W.seq (W.region ?_)
 refine vP hS hE (Gives.p hE rfl) rfl ?_; clear hE a; intro a hE
 refine WL.nil ?_
 refine W.seq ?_
 obtain ⟨q52, hq51, hr⟩ := bndS hr
 refine W.cut (fun a w => ∃ (q55 : Bool), q55 = q52 ∧ Rep a 15 [(6, .bool q55)] ∧ St w s (R)) ?_ ?_
 ·refine W.gen fun K56 hK56 => ?_
  refine W.region ?_
  refine vP hS hE (Gives.p hE rfl) rfl ?_; clear hE a; intro a hE
  refine vP hS hE (Gives.p hE rfl) rfl ?_; clear hE a; intro a hE
  refine vP hS hE (Gives.p hE rfl) rfl ?_; clear hE a; intro a hE
  refine vP hS hE (Gives.p hE rfl) rfl ?_; clear hE a; intro a hE
  rcases Bool.eq_false_or_eq_true (decide (x0 ≥ x1)) with hg57 | hg57
  ·replace hq51 := iteT hg57 hq51
   refine WL.vS hS hE (runs_if hE rfl rfl rfl hg57) (Gives.p hE rfl) rfl ?_; clear hE a; intro a hE
   refine WL.vS hS hE (runs_if hE rfl rfl rfl hg57) (Gives.p hE rfl) rfl ?_; clear hE a; intro a hE
   refine WL.vS hS hE (runs_if hE rfl rfl rfl hg57) (Gives.p hE rfl) rfl ?_; clear hE a; intro a hE
   refine vP hS hE (Gives.pickT hE rfl hg57 rfl) rfl ?_; clear hE a; intro a hE
   refine vP hS hE (Gives.p hE rfl) rfl ?_; clear hE a; intro a hE
   refine WL.nil ?_
   subst hK56
   exact ⟨decide (x0 ≤ x2), hq51, hE.pick _ ⟨rfl, trivial⟩, hS⟩
  ·replace hq51 := iteF hg57 hq51
   refine WL.no hE (runs_not hE rfl rfl rfl (by rw [hg57]; decide)) rfl ?_; clear hE a; intro a hE
   refine WL.no hE (runs_not hE rfl rfl rfl (by rw [hg57]; decide)) rfl ?_; clear hE a; intro a hE
   refine WL.no hE (runs_not hE rfl rfl rfl (by rw [hg57]; decide)) rfl ?_; clear hE a; intro a hE
   refine vP hS hE (Gives.pickF hE rfl hg57 rfl) rfl ?_; clear hE a; intro a hE
   refine vP hS hE (Gives.p hE rfl) rfl ?_; clear hE a; intro a hE
   refine WL.nil ?_
   subst hK56
   exact ⟨false, hq51, hE.pick _ ⟨rfl, trivial⟩, hS⟩
 ·clear hE hS a w; rintro a w ⟨q55, rfl, hE, hS⟩
  refine W.ret ?_
  refine finG (fn := Tryd.f89) (rs := [.tmp 6]) (vs := [_]) hE rfl ⟨rfl, trivial⟩ ?_
  subst hr
  exact ⟨rfl, hS⟩
set_option maxHeartbeats 8000000 in
theorem FareNewCar_ok  {w : World} {s : Sg} {R : List HP} {x0 : Int} {x1 : Int} {x2 : Int} (hS : St w s (R))  {r : (Option (Int × Int × Int × (List FareBooking) × (List Bool))) × Int} (hr : FareNewCar x0 x1 x2 = r) :
  Calls Tryd.prog 37 [.int .i64 x0, .int .i64 x1, .int .i64 x2].toArray w (fun e w => (∃ (t : Sg), r.1 = none ∧ e = .returned (.tuple #[.pointer none, .int .i64 r.2]) ∧ s.Le t ∧ St w t (R)) ∨ (∃ (d0 : Int × Int × Int × (List FareBooking) × (List Bool)) (b0 : Nat) (a0_3 : Option Addr) (c0_3 n0_3 : Nat) (cs0_3 : List Value) (a0_4 : Option Addr) (c0_4 n0_4 : Nat) (cs0_4 : List Value) (t : Sg), r.1 = some d0 ∧ e = .returned (.tuple #[.pointer (some ⟨b0, 0, none⟩), .int .i64 r.2]) ∧ s.Le t ∧ Ev 4 RFareBooking t cs0_3 d0.2.2.2.1 ∧ (d0.2.2.2.1).length = n0_3 ∧ Ev 1 RB t cs0_4 d0.2.2.2.2 ∧ (d0.2.2.2.2).length = n0_4 ∧ St w t (pt b0 (.cells #[.int .i64 d0.1, .int .i64 d0.2.1, .int .i64 d0.2.2.1, .slice a0_3 n0_3 c0_3, .slice a0_4 n0_4 c0_4] 148 (0, 0)) :: vecC 80 4 a0_3 c0_3 n0_3 cs0_3 :: vecC 4 1 a0_4 c0_4 n0_4 cs0_4 :: R))) := by
 refine enter Tryd.func37 rfl rfl rfl fun a hE => ?_
 rw [FareNewCar] at hr
 refine W.seq (W.region ?_)
 refine vP hS hE (Gives.p hE rfl) rfl ?_; clear hE a; intro a hE
 refine vP hS hE (Gives.p hE rfl) rfl ?_; clear hE a; intro a hE
 refine WL.nil ?_
 refine W.seq ?_
 refine W.seq ?_
 obtain ⟨q52, hq51, hr⟩ := bndS hr
 refine W.cut (fun a w => ∃ (q55 : Bool), q55 = q52 ∧ Rep a 26 [(0, .int .i64 x0), (1, .int .i64 x1), (2, .int .i64 x2), (20, .bool q55)] ∧ St w s (R)) ?_ ?_
 ·refine W.gen fun K56 hK56 => ?_
  refine W.region ?_
  refine vP hS hE (Gives.p hE rfl) rfl ?_; clear hE a; intro a hE
  refine WL.fnq hE (Farewithin_ok hS  rfl (r := Farewithin x0 1 20)) (runs_plain rfl) bd89 rfl rfl rfl ?_
  clear hE hS; rintro e w ⟨rfl, hS⟩; refine ⟨_, rfl, ?_⟩; clear a; intro a hE
  refine vP hS hE (Gives.p hE rfl) rfl ?_; clear hE a; intro a hE
  refine vP hS hE (Gives.p hE rfl) rfl ?_; clear hE a; intro a hE
  rcases Bool.eq_false_or_eq_true (!(Farewithin x0 1 20)) with hg57 | hg57
  ·replace hq51 := iteT hg57 hq51
   refine WL.no hE (runs_not hE rfl rfl rfl (by rw [hg57]; decide)) rfl ?_; clear hE a; intro a hE
   refine WL.no hE (runs_not hE rfl rfl rfl (by rw [hg57]; decide)) rfl ?_; clear hE a; intro a hE
   refine WL.no hE (runs_not hE rfl rfl rfl (by rw [hg57]; decide)) rfl ?_; clear hE a; intro a hE
   refine vP hS hE (Gives.pickT hE rfl hg57 rfl) rfl ?_; clear hE a; intro a hE
   refine vP hS hE (Gives.p hE rfl) rfl ?_; clear hE a; intro a hE
   refine WL.no hE (runs_not hE rfl rfl rfl (by decide)) rfl ?_; clear hE a; intro a hE
   refine WL.no hE (runs_not hE rfl rfl rfl (by decide)) rfl ?_; clear hE a; intro a hE
   refine WL.no hE (runs_not hE rfl rfl rfl (by decide)) rfl ?_; clear hE a; intro a hE
   refine vP hS hE (Gives.pickT hE rfl rfl rfl) rfl ?_; clear hE a; intro a hE
   refine WL.nil ?_
   subst hK56
   exact ⟨true, hq51, hE.pick _ ⟨rfl, rfl, rfl, rfl, trivial⟩, hS⟩
  ·replace hq51 := iteF hg57 hq51
   refine WL.vS hS hE (runs_if hE rfl rfl rfl hg57) (Gives.p hE rfl) rfl ?_; clear hE a; intro a hE
   refine WL.fnq hE (Farewithin_ok hS  rfl (r := Farewithin x1 1 4)) (runs_if hE rfl rfl rfl hg57) bd89 rfl rfl rfl ?_
   clear hE hS; rintro e w ⟨rfl, hS⟩; refine ⟨_, rfl, ?_⟩; clear a; intro a hE
   refine WL.vS hS hE (runs_if hE rfl rfl rfl hg57) (Gives.p hE rfl) rfl ?_; clear hE a; intro a hE
   refine vP hS hE (Gives.pickF hE rfl hg57 rfl) rfl ?_; clear hE a; intro a hE
   refine vP hS hE (Gives.p hE rfl) rfl ?_; clear hE a; intro a hE
   rcases Bool.eq_false_or_eq_true (!(Farewithin x1 1 4)) with hg58 | hg58
   ·replace hq51 := iteT hg58 hq51
    refine WL.no hE (runs_not hE rfl rfl rfl (by rw [hg58]; decide)) rfl ?_; clear hE a; intro a hE
    refine WL.no hE (runs_not hE rfl rfl rfl (by rw [hg58]; decide)) rfl ?_; clear hE a; intro a hE
    refine WL.no hE (runs_not hE rfl rfl rfl (by rw [hg58]; decide)) rfl ?_; clear hE a; intro a hE
    refine vP hS hE (Gives.pickT hE rfl hg58 rfl) rfl ?_; clear hE a; intro a hE
    refine WL.nil ?_
    subst hK56
    exact ⟨true, hq51, hE.pick _ ⟨rfl, rfl, rfl, rfl, trivial⟩, hS⟩
   ·replace hq51 := iteF hg58 hq51
    refine WL.vS hS hE (runs_if hE rfl rfl rfl hg58) (Gives.p hE rfl) rfl ?_; clear hE a; intro a hE
    refine WL.fnq hE (Farewithin_ok hS  rfl (r := Farewithin x2 2 12)) (runs_if hE rfl rfl rfl hg58) bd89 rfl rfl rfl ?_
    clear hE hS; rintro e w ⟨rfl, hS⟩; refine ⟨_, rfl, ?_⟩; clear a; intro a hE
    refine WL.vS hS hE (runs_if hE rfl rfl rfl hg58) (Gives.p hE rfl) rfl ?_; clear hE a; intro a hE
    refine vP hS hE (Gives.pickF hE rfl hg58 rfl) rfl ?_; clear hE a; intro a hE
    refine WL.nil ?_
    subst hK56
    exact ⟨!(Farewithin x2 2 12), hq51, hE.pick _ ⟨rfl, rfl, rfl, rfl, trivial⟩, hS⟩
 ·clear hE hS a w; rintro a w ⟨q55, rfl, hE, hS⟩
  refine W.cond hE rfl (fun hc59 => ?_) (fun hc59 => ?_)
  ·replace hr := iteT hc59 hr
   refine W.seq (W.region ?_)
   refine vP hS hE (Gives.p hE rfl) rfl ?_; clear hE a; intro a hE
   refine vP hS hE (Gives.p hE rfl) rfl ?_; clear hE a; intro a hE
   refine WL.nil ?_
   refine W.ret ?_
   refine finG (fn := Tryd.f37) (rs := [.tmp 6, .tmp 7]) (vs := [_, _]) hE rfl ⟨rfl, rfl, trivial⟩ ?_
   subst hr
   exact .inl ⟨s, rfl, rfl, (Sg.Le.refl _), hS⟩
  ·replace hr := iteF hc59 hr
   refine W.skip ?_
   refine W.seq (W.region ?_)
   refine vP hS hE (Gives.p hE rfl) rfl ?_; clear hE a; intro a hE
   refine vP hS hE (Gives.p hE rfl) rfl ?_; clear hE a; intro a hE
   refine vP hS hE (Gives.p hE rfl) rfl ?_; clear hE a; intro a hE
   refine vP hS hE (Gives.build hE (vs := [(0, .int .i64 x0), (1, .int .i64 x1), (2, .int .i64 x2)]) [.int .i64 x0, .int .i64 x1, .int .i64 x2, .slice none 0 0, .slice none 0 0] rfl (by kernel_rfl)) rfl ?_; clear hE a; intro a hE
   refine WL.box hE hS (runs_plain rfl) rfl rfl rfl ?_; clear hE hS a w; intro b60 a w hE hS
   refine vP hS hE (Gives.p hE rfl) rfl ?_; clear hE a; intro a hE
   refine vP hS hE (Gives.p hE rfl) rfl ?_; clear hE a; intro a hE
   refine WL.nil ?_
   refine W.ret ?_
   replace hS := hS.vecNil 80 4
   replace hS := hS.vecNil 4 1
   refine finG (fn := Tryd.f37) (rs := [.tmp 6, .tmp 7]) (vs := [_, _]) hE rfl ⟨rfl, rfl, trivial⟩ ?_
   subst hr
   replace hS := hS.front 1 rfl
   replace hS := hS.front 2 rfl
   exact .inr ⟨_, b60, none, 0, 0, [], none, 0, 0, [], s, rfl, rfl, (Sg.Le.refl _), (Ev.nil), (rfl), (Ev.nil), (rfl), hS⟩
set_option maxHeartbeats 8000000 in
theorem Fishref2JourneyFault_ok  {w : World} {s : Sg} {R : List HP} {x0 : ApiDay} {a0_0 : Option Addr} {c0_0 : Nat} {a0_1 : Option Addr} {c0_1 : Nat} {x1 : GuideJourney} {a1_0 : Option Addr} {c1_0 : Nat} {x2 : Int} {x3 : Bool} (hS : St w s (R)) (h0_0 : Sl 4 RApiTrain s a0_0 c0_0 x0.Trains) (_h0_1 : Sl 1 (RL 1 (RI .i64)) s a0_1 c0_1 x0.Turns) (h1_0 : Sl 3 RGuideRide s a1_0 c1_0 x1.Rides) {r : Int} (hr : Fishref2JourneyFault x0 x1 x2 x3 = some r) :
  Calls Tryd.prog 18 [.agg (List.toArray [.slice a0_0 x0.Trains.length c0_0, .slice a0_1 x0.Turns.length c0_1]), .agg (List.toArray [.slice a1_0 x1.Rides.length c1_0]), .int .i64 x2, .bool x3].toArray w (fun e w => e = .returned (.int .i64 r) ∧ St w s (R)) := by
 refine enter Tryd.func18 rfl rfl rfl fun a hE => ?_
 rw [Fishref2JourneyFault] at hr
 refine W.seq (W.region ?_)
 refine WL.box hE hS (runs_plain rfl) rfl rfl rfl ?_; clear hE hS a w; intro b51 a w hE hS
 refine WL.box hE hS (runs_plain rfl) rfl rfl rfl ?_; clear hE hS a w; intro b52 a w hE hS
 refine vP hS hE (Gives.p hE rfl) rfl ?_; clear hE a; intro a hE
 refine WL.nil ?_
 refine W.seq ?_
 refine W.seq (W.region ?_)
 refine vP hS hE (Gives.p hE rfl) rfl ?_; clear hE a; intro a hE
 refine WL.fnq hE (Fishref2within_ok hS  rfl (r := Fishref2within x2 0 28800)) (runs_plain rfl) bd57 rfl rfl rfl ?_
 clear hE hS; rintro e w ⟨rfl, hS⟩; refine ⟨_, rfl, ?_⟩; clear a; intro a hE
 refine vP hS hE (Gives.p hE rfl) rfl ?_; clear hE a; intro a hE
 refine WL.nil ?_
 refine W.cond hE rfl (fun hc53 => ?_) (fun hc53 => ?_)
 ·replace hr := iteT hc53 hr
  refine W.seq (W.region ?_)
  refine vP hS hE (Gives.p hE rfl) rfl ?_; clear hE a; intro a hE
  refine WL.nil ?_
  refine W.ret ?_
  refine finG (fn := Tryd.f18) (rs := [.tmp 8]) (vs := [_]) hE rfl ⟨rfl, trivial⟩ ?_
  obtain rfl := Option.some.inj hr
  replace hS := hS.tail
  replace hS := hS.tail
  exact ⟨rfl, hS⟩
 ·replace hr := iteF hc53 hr
  refine W.skip ?_
  refine W.seq ?_
  refine W.seq (W.region ?_)
  refine vP hS hE (Gives.fld hE rfl fl28_0) rfl ?_; clear hE a; intro a hE
  refine vP hS hE (Gives.loadB hE 0 rfl rfl rfl ty26) rfl ?_; clear hE a; intro a hE
  refine vP hS hE (Gives.len hE rfl sl26) rfl ?_; clear hE a; intro a hE
  refine WL.fnq hE (Fishref2within_ok hS  rfl (r := Fishref2within ((x1.Rides).length : Int) 1 4)) (runs_plain rfl) bd57 rfl rfl rfl ?_
  clear hE hS; rintro e w ⟨rfl, hS⟩; refine ⟨_, rfl, ?_⟩; clear a; intro a hE
  refine vP hS hE (Gives.p hE rfl) rfl ?_; clear hE a; intro a hE
  refine WL.nil ?_
  refine W.cond hE rfl (fun hc54 => ?_) (fun hc54 => ?_)
  ·replace hr := iteT hc54 hr
   refine W.seq (W.region ?_)
   refine vP hS hE (Gives.p hE rfl) rfl ?_; clear hE a; intro a hE
   refine WL.nil ?_
   refine W.ret ?_
   refine finG (fn := Tryd.f18) (rs := [.tmp 8]) (vs := [_]) hE rfl ⟨rfl, trivial⟩ ?_
   obtain rfl := Option.some.inj hr
   replace hS := hS.tail
   replace hS := hS.tail
   exact ⟨rfl, hS⟩
  ·replace hr := iteF hc54 hr
   refine W.skip ?_
   refine W.seq ?_
   refine W.seq (W.region ?_)
   refine vP hS hE (Gives.fld hE rfl fl28_0) rfl ?_; clear hE a; intro a hE
   refine vP hS hE (Gives.loadB hE 0 rfl rfl rfl ty26) rfl ?_; clear hE a; intro a hE
   refine vP hS hE (Gives.len hE rfl sl26) rfl ?_; clear hE a; intro a hE
   refine vP hS hE (Gives.p hE rfl) rfl ?_; clear hE a; intro a hE
   refine WL.nil ?_
   obtain ⟨q56, hq55, hr⟩ := bindS hr
   refine W.cut (fun a w => (.next ()) = q56 ∧ Rep a 125 [] ∧ St w s (pt b52 (.cells #[.slice a1_0 x1.Rides.length c1_0] 28 (0, 0)) :: pt b51 (.cells #[.slice a0_0 x0.Trains.length c0_0, .slice a0_1 x0.Turns.length c0_1] 25 (0, 0)) :: R)) ?_ ?_
   ·refine W.block ?_
    refine W.loop (fun m a w => ∃ (rest59 : List GuideRide) (k57 : Nat), rest59.length = m ∧ x1.Rides.drop k57 = rest59 ∧ Fishref2JourneyFault.loop1 x0 x1 x2 x3 rest59 k57 = some q56 ∧ Rep a 125 [(2, .int .i64 x2), (3, .bool x3), (4, .pointer (some ⟨b51, 0, none⟩)), (5, .pointer (some ⟨b52, 0, none⟩)), (23, .slice a1_0 x1.Rides.length c1_0), (24, .int .i64 ((x1.Rides).length : Int)), (25, .int .i64 ((k57 : Nat) : Int))] ∧ St w s (pt b52 (.cells #[.slice a1_0 x1.Rides.length c1_0] 28 (0, 0)) :: pt b51 (.cells #[.slice a0_0 x0.Trains.length c0_0, .slice a0_1 x0.Turns.length c0_1] 25 (0, 0)) :: R)) (m := x1.Rides.length) ⟨x1.Rides, 0, rfl, rfl, hq55, hE.pick _ ⟨rfl, rfl, rfl, rfl, rfl, rfl, rfl, trivial⟩, hS⟩ ?_
    clear hE hS a w hq55; rintro m63 a w ⟨rest59, k57, rfl, hd60, hq55, hE, hS⟩
    refine W.gen fun K66 hK66 => ?_
    rcases rest59 with _ | ⟨x58, rest59⟩
    ·have hlt61 := drop_nil hd60
     refine W.seq (W.region ?_)
     refine vP hS hE (Gives.p hE rfl) rfl ?_; clear hE a; intro a hE
     refine WL.nil ?_
     refine W.seq ?_
     refine W.condF hE rfl (decide_eq_false (by omega)) ?_
     subst hK66
     refine W.exit rfl ?_
     exact ⟨Option.some.inj hq55, hE.pick _ trivial, hS⟩
    ·obtain ⟨hlt61, hx62, hd60⟩ := drop_cons hd60
     rw [Fishref2JourneyFault.loop1] at hq55
     refine W.seq (W.region ?_)
     refine vP hS hE (Gives.p hE rfl) rfl ?_; clear hE a; intro a hE
     refine WL.nil ?_
     refine W.seq ?_
     refine W.condT hE rfl (decide_eq_true (by omega)) ?_
     refine W.skip ?_
     refine W.seq ?_
     refine W.block ?_
     refine W.seq (W.region ?_)
     refine vP hS hE (Gives.p hE rfl) rfl ?_; clear hE a; intro a hE
     obtain ⟨cs67, hl68, hR69, hat70⟩ := h1_0.at hx62
     subst hR69
     refine vP hS hE (Gives.idx hE k57 rfl rfl sl26 rfl hlt61 (h1_0.aok hlt61)) rfl ?_; clear hE a; intro a hE
     refine vP hS hE (Gives.loadA hE rfl (fun w h => hat70 w _ h) ty47) rfl ?_; clear hE a; intro a hE
     refine WL.alloc hE hS (runs_plain rfl) zr47 rfl ?_; clear hE hS a w; intro b71 a w hE hS
     refine vP hS hE (Gives.p hE rfl) rfl ?_; clear hE a; intro a hE
     refine WL.storeI hE hS 0 rfl (GuideRide.cells x58) (runs_plain rfl) rfl rfl rfl ty47 rfl rfl rfl rfl ?_; clear hE hS a w; intro a w hE hS
     refine WL.nil ?_
     refine W.seq ?_
     refine W.seq ?_
     obtain ⟨q73, hq72, hq55⟩ := bndS hq55
     refine W.cut (fun a w => ∃ (q76 : Bool), q76 = q73 ∧ Rep a 125 [(2, .int .i64 x2), (3, .bool x3), (4, .pointer (some ⟨b51, 0, none⟩)), (5, .pointer (some ⟨b52, 0, none⟩)), (9, .int .i64 ((k57 : Nat) : Int)), (10, .pointer (some ⟨b71, 0, none⟩)), (23, .slice a1_0 x1.Rides.length c1_0), (24, .int .i64 ((x1.Rides).length : Int)), (25, .int .i64 ((k57 : Nat) : Int)), (40, .bool q76)] ∧ St w s (pt b71 (.cells (GuideRide.cells x58).toArray 47 (0, 0)) :: pt b52 (.cells #[.slice a1_0 x1.Rides.length c1_0] 28 (0, 0)) :: pt b51 (.cells #[.slice a0_0 x0.Trains.length c0_0, .slice a0_1 x0.Turns.length c0_1] 25 (0, 0)) :: R)) ?_ ?_
     ·refine W.gen fun K77 hK77 => ?_
      refine W.region ?_
      refine vP hS hE (Gives.fld hE rfl fl47_0) rfl ?_; clear hE a; intro a hE
      refine vP hS hE (Gives.loadB hE 0 rfl rfl rfl ty3) rfl ?_; clear hE a; intro a hE
      refine vP hS hE (Gives.p hE rfl) rfl ?_; clear hE a; intro a hE
      refine vP hS hE (Gives.p hE rfl) rfl ?_; clear hE a; intro a hE
      rcases Bool.eq_false_or_eq_true (decide (x58.Train < 0)) with hg78 | hg78
      ·replace hq72 := iteT hg78 hq72
       refine WL.no hE (runs_not hE rfl rfl rfl (by rw [hg78]; decide)) rfl ?_; clear hE a; intro a hE
       refine WL.no hE (runs_not hE rfl rfl rfl (by rw [hg78]; decide)) rfl ?_; clear hE a; intro a hE
       refine WL.no hE (runs_not hE rfl rfl rfl (by rw [hg78]; decide)) rfl ?_; clear hE a; intro a hE
       refine WL.no hE (runs_not hE rfl rfl rfl (by rw [hg78]; decide)) rfl ?_; clear hE a; intro a hE
       refine WL.no hE (runs_not hE rfl rfl rfl (by rw [hg78]; decide)) rfl ?_; clear hE a; intro a hE
       refine WL.no hE (runs_not hE rfl rfl rfl (by rw [hg78]; decide)) rfl ?_; clear hE a; intro a hE
       refine vP hS hE (Gives.pickT hE rfl hg78 rfl) rfl ?_; clear hE a; intro a hE
       refine WL.nil ?_
       subst hK77
       exact ⟨true, hq72, hE.pick _ ⟨rfl, rfl, rfl, rfl, rfl, rfl, rfl, rfl, rfl, rfl, trivial⟩, hS⟩
      ·replace hq72 := iteF hg78 hq72
       refine WL.vS hS hE (runs_if hE rfl rfl rfl hg78) (Gives.fld hE rfl fl47_0) rfl ?_; clear hE a; intro a hE
       refine WL.vS hS hE (runs_if hE rfl rfl rfl hg78) (Gives.loadB hE 0 rfl rfl rfl ty3) rfl ?_; clear hE a; intro a hE
       refine WL.vS hS hE (runs_if hE rfl rfl rfl hg78) (Gives.fld hE rfl fl25_0) rfl ?_; clear hE a; intro a hE
       refine WL.vS hS hE (runs_if hE rfl rfl rfl hg78) (Gives.loadB hE 2 rfl rfl rfl ty22) rfl ?_; clear hE a; intro a hE
       refine WL.vS hS hE (runs_if hE rfl rfl rfl hg78) (Gives.len hE rfl sl22) rfl ?_; clear hE a; intro a hE
       refine WL.vS hS hE (runs_if hE rfl rfl rfl hg78) (Gives.p hE rfl) rfl ?_; clear hE a; intro a hE
       refine vP hS hE (Gives.pickF hE rfl hg78 rfl) rfl ?_; clear hE a; intro a hE
       refine WL.nil ?_
       subst hK77
       exact ⟨decide (x58.Train ≥ ((x0.Trains).length : Int)), hq72, hE.pick _ ⟨rfl, rfl, rfl, rfl, rfl, rfl, rfl, rfl, rfl, rfl, trivial⟩, hS⟩
     ·clear hE hS a w; rintro a w ⟨q76, rfl, hE, hS⟩
      refine W.cond hE rfl (fun hc79 => ?_) (fun hc79 => ?_)
      ·replace hq55 := iteT hc79 hq55
       refine W.seq (W.region ?_)
       refine vP hS hE (Gives.p hE rfl) rfl ?_; clear hE a; intro a hE
       refine WL.nil ?_
       refine W.ret ?_
       subst hK66
       rw [← Option.some.inj hq55] at hr
       dsimp only at hr
       refine finG (fn := Tryd.f18) (rs := [.tmp 8]) (vs := [_]) hE rfl ⟨rfl, trivial⟩ ?_
       obtain rfl := Option.some.inj hr
       replace hS := hS.tail
       replace hS := hS.tail
       replace hS := hS.tail
       exact ⟨rfl, hS⟩
      ·replace hq55 := iteF hc79 hq55
       refine W.skip ?_
       refine W.seq (W.region ?_)
       refine vP hS hE (Gives.fld hE rfl fl25_0) rfl ?_; clear hE a; intro a hE
       refine vP hS hE (Gives.loadB hE 2 rfl rfl rfl ty22) rfl ?_; clear hE a; intro a hE
       refine vP hS hE (Gives.fld hE rfl fl47_0) rfl ?_; clear hE a; intro a hE
       refine vP hS hE (Gives.loadB hE 0 rfl rfl rfl ty3) rfl ?_; clear hE a; intro a hE
       obtain ⟨x80, hx81, hq55⟩ := bindS hq55
       obtain ⟨hi82, hlt83, hy84⟩ := gx_some hx81
       obtain ⟨cs85, hl86, hR87, hat88⟩ := h0_0.at hy84
       obtain ⟨a89, c90, a92, c93, rfl, h91, h94⟩ := hR87
       refine vP hS hE (Gives.idx hE (x58.Train).toNat rfl rfl sl22 hi82 hlt83 (h0_0.aok hlt83)) rfl ?_; clear hE a; intro a hE
       refine vP hS hE (Gives.fld hE rfl fl44_2) rfl ?_; clear hE a; intro a hE
       refine vP hS hE (Gives.load1 hE rfl (fun w h => (hat88 w _ h).one rfl) ty42) rfl ?_; clear hE a; intro a hE
       refine vP hS hE (Gives.p hE rfl) rfl ?_; clear hE a; intro a hE
       refine WL.nil ?_
       refine W.seq ?_
       refine W.seq ?_
       obtain ⟨q96, hq95, hq55⟩ := bndS hq55
       refine W.cut (fun a w => ∃ (q99 : Bool), q99 = q96 ∧ Rep a 125 [(2, .int .i64 x2), (3, .bool x3), (4, .pointer (some ⟨b51, 0, none⟩)), (5, .pointer (some ⟨b52, 0, none⟩)), (9, .int .i64 ((k57 : Nat) : Int)), (10, .pointer (some ⟨b71, 0, none⟩)), (11, .slice a89 x80.Stops.length c90), (23, .slice a1_0 x1.Rides.length c1_0), (24, .int .i64 ((x1.Rides).length : Int)), (25, .int .i64 ((k57 : Nat) : Int)), (69, .bool q99)] ∧ St w s (pt b71 (.cells (GuideRide.cells x58).toArray 47 (0, 0)) :: pt b52 (.cells #[.slice a1_0 x1.Rides.length c1_0] 28 (0, 0)) :: pt b51 (.cells #[.slice a0_0 x0.Trains.length c0_0, .slice a0_1 x0.Turns.length c0_1] 25 (0, 0)) :: R)) ?_ ?_
       ·refine W.gen fun K100 hK100 => ?_
        refine W.region ?_
        refine vP hS hE (Gives.fld hE rfl fl47_1) rfl ?_; clear hE a; intro a hE
        refine vP hS hE (Gives.loadB hE 0 rfl rfl rfl ty3) rfl ?_; clear hE a; intro a hE
        refine vP hS hE (Gives.p hE rfl) rfl ?_; clear hE a; intro a hE
        refine vP hS hE (Gives.p hE rfl) rfl ?_; clear hE a; intro a hE
        rcases Bool.eq_false_or_eq_true (decide (x58.On < 0)) with hg101 | hg101
        ·replace hq95 := iteT hg101 hq95
         refine WL.no hE (runs_not hE rfl rfl rfl (by rw [hg101]; decide)) rfl ?_; clear hE a; intro a hE
         refine WL.no hE (runs_not hE rfl rfl rfl (by rw [hg101]; decide)) rfl ?_; clear hE a; intro a hE
         refine WL.no hE (runs_not hE rfl rfl rfl (by rw [hg101]; decide)) rfl ?_; clear hE a; intro a hE
         refine WL.no hE (runs_not hE rfl rfl rfl (by rw [hg101]; decide)) rfl ?_; clear hE a; intro a hE
         refine WL.no hE (runs_not hE rfl rfl rfl (by rw [hg101]; decide)) rfl ?_; clear hE a; intro a hE
         refine vP hS hE (Gives.pickT hE rfl hg101 rfl) rfl ?_; clear hE a; intro a hE
         refine vP hS hE (Gives.p hE rfl) rfl ?_; clear hE a; intro a hE
         refine WL.no hE (runs_not hE rfl rfl rfl (by decide)) rfl ?_; clear hE a; intro a hE
         refine WL.no hE (runs_not hE rfl rfl rfl (by decide)) rfl ?_; clear hE a; intro a hE
         refine WL.no hE (runs_not hE rfl rfl rfl (by decide)) rfl ?_; clear hE a; intro a hE
         refine vP hS hE (Gives.pickT hE rfl rfl rfl) rfl ?_; clear hE a; intro a hE
         refine vP hS hE (Gives.p hE rfl) rfl ?_; clear hE a; intro a hE
         refine WL.no hE (runs_not hE rfl rfl rfl (by decide)) rfl ?_; clear hE a; intro a hE
         refine WL.no hE (runs_not hE rfl rfl rfl (by decide)) rfl ?_; clear hE a; intro a hE
         refine WL.no hE (runs_not hE rfl rfl rfl (by decide)) rfl ?_; clear hE a; intro a hE
         refine WL.no hE (runs_not hE rfl rfl rfl (by decide)) rfl ?_; clear hE a; intro a hE
         refine WL.no hE (runs_not hE rfl rfl rfl (by decide)) rfl ?_; clear hE a; intro a hE
         refine vP hS hE (Gives.pickT hE rfl rfl rfl) rfl ?_; clear hE a; intro a hE
         refine WL.nil ?_
         subst hK100
         exact ⟨true, hq95, hE.pick _ ⟨rfl, rfl, rfl, rfl, rfl, rfl, rfl, rfl, rfl, rfl, rfl, trivial⟩, hS⟩
        ·replace hq95 := iteF hg101 hq95
         refine WL.vS hS hE (runs_if hE rfl rfl rfl hg101) (Gives.fld hE rfl fl47_1) rfl ?_; clear hE a; intro a hE
         refine WL.vS hS hE (runs_if hE rfl rfl rfl hg101) (Gives.loadB hE 0 rfl rfl rfl ty3) rfl ?_; clear hE a; intro a hE
         refine WL.vS hS hE (runs_if hE rfl rfl rfl hg101) (Gives.p hE rfl) rfl ?_; clear hE a; intro a hE
         refine WL.vS hS hE (runs_if hE rfl rfl rfl hg101) (Gives.len hE rfl sl42) rfl ?_; clear hE a; intro a hE
         refine WL.vS hS hE (runs_if hE rfl rfl rfl hg101) (Gives.p hE rfl) rfl ?_; clear hE a; intro a hE
         refine vP hS hE (Gives.pickF hE rfl hg101 rfl) rfl ?_; clear hE a; intro a hE
         refine vP hS hE (Gives.p hE rfl) rfl ?_; clear hE a; intro a hE
         rcases Bool.eq_false_or_eq_true (decide (x58.On ≥ ((x80.Stops).length : Int))) with hg102 | hg102
         ·replace hq95 := iteT hg102 hq95
          refine WL.no hE (runs_not hE rfl rfl rfl (by rw [hg102]; decide)) rfl ?_; clear hE a; intro a hE
          refine WL.no hE (runs_not hE rfl rfl rfl (by rw [hg102]; decide)) rfl ?_; clear hE a; intro a hE
          refine WL.no hE (runs_not hE rfl rfl rfl (by rw [hg102]; decide)) rfl ?_; clear hE a; intro a hE
          refine vP hS hE (Gives.pickT hE rfl hg102 rfl) rfl ?_; clear hE a; intro a hE
          refine vP hS hE (Gives.p hE rfl) rfl ?_; clear hE a; intro a hE
          refine WL.no hE (runs_not hE rfl rfl rfl (by decide)) rfl ?_; clear hE a; intro a hE
          refine WL.no hE (runs_not hE rfl rfl rfl (by decide)) rfl ?_; clear hE a; intro a hE
          refine WL.no hE (runs_not hE rfl rfl rfl (by decide)) rfl ?_; clear hE a; intro a hE
          refine WL.no hE (runs_not hE rfl rfl rfl (by decide)) rfl ?_; clear hE a; intro a hE
          refine WL.no hE (runs_not hE rfl rfl rfl (by decide)) rfl ?_; clear hE a; intro a hE
          refine vP hS hE (Gives.pickT hE rfl rfl rfl) rfl ?_; clear hE a; intro a hE
          refine WL.nil ?_
          subst hK100
          exact ⟨true, hq95, hE.pick _ ⟨rfl, rfl, rfl, rfl, rfl, rfl, rfl, rfl, rfl, rfl, rfl, trivial⟩, hS⟩
         ·replace hq95 := iteF hg102 hq95
          refine WL.vS hS hE (runs_if hE rfl rfl rfl hg102) (Gives.fld hE rfl fl47_2) rfl ?_; clear hE a; intro a hE
          refine WL.vS hS hE (runs_if hE rfl rfl rfl hg102) (Gives.loadB hE 0 rfl rfl rfl ty3) rfl ?_; clear hE a; intro a hE
          refine WL.vS hS hE (runs_if hE rfl rfl rfl hg102) (Gives.p hE rfl) rfl ?_; clear hE a; intro a hE
          refine vP hS hE (Gives.pickF hE rfl hg102 rfl) rfl ?_; clear hE a; intro a hE
          refine vP hS hE (Gives.p hE rfl) rfl ?_; clear hE a; intro a hE
          rcases Bool.eq_false_or_eq_true (decide (x58.Off < 0)) with hg103 | hg103
          ·replace hq95 := iteT hg103 hq95
           refine WL.no hE (runs_not hE rfl rfl rfl (by rw [hg103]; decide)) rfl ?_; clear hE a; intro a hE
           refine WL.no hE (runs_not hE rfl rfl rfl (by rw [hg103]; decide)) rfl ?_; clear hE a; intro a hE
           refine WL.no hE (runs_not hE rfl rfl rfl (by rw [hg103]; decide)) rfl ?_; clear hE a; intro a hE
           refine WL.no hE (runs_not hE rfl rfl rfl (by rw [hg103]; decide)) rfl ?_; clear hE a; intro a hE
           refine WL.no hE (runs_not hE rfl rfl rfl (by rw [hg103]; decide)) rfl ?_; clear hE a; intro a hE
           refine vP hS hE (Gives.pickT hE rfl hg103 rfl) rfl ?_; clear hE a; intro a hE
           refine WL.nil ?_
           subst hK100
           exact ⟨true, hq95, hE.pick _ ⟨rfl, rfl, rfl, rfl, rfl, rfl, rfl, rfl, rfl, rfl, rfl, trivial⟩, hS⟩
          ·replace hq95 := iteF hg103 hq95
           refine WL.vS hS hE (runs_if hE rfl rfl rfl hg103) (Gives.fld hE rfl fl47_2) rfl ?_; clear hE a; intro a hE
           refine WL.vS hS hE (runs_if hE rfl rfl rfl hg103) (Gives.loadB hE 0 rfl rfl rfl ty3) rfl ?_; clear hE a; intro a hE
           refine WL.vS hS hE (runs_if hE rfl rfl rfl hg103) (Gives.p hE rfl) rfl ?_; clear hE a; intro a hE
           refine WL.vS hS hE (runs_if hE rfl rfl rfl hg103) (Gives.len hE rfl sl42) rfl ?_; clear hE a; intro a hE
           refine WL.vS hS hE (runs_if hE rfl rfl rfl hg103) (Gives.p hE rfl) rfl ?_; clear hE a; intro a hE
           refine vP hS hE (Gives.pickF hE rfl hg103 rfl) rfl ?_; clear hE a; intro a hE
           refine WL.nil ?_
           subst hK100
           exact ⟨decide (x58.Off ≥ ((x80.Stops).length : Int)), hq95, hE.pick _ ⟨rfl, rfl, rfl, rfl, rfl, rfl, rfl, rfl, rfl, rfl, rfl, trivial⟩, hS⟩
       ·clear hE hS a w; rintro a w ⟨q99, rfl, hE, hS⟩
        refine W.cond hE rfl (fun hc104 => ?_) (fun hc104 => ?_)
        ·replace hq55 := iteT hc104 hq55
         refine W.seq (W.region ?_)
         refine vP hS hE (Gives.p hE rfl) rfl ?_; clear hE a; intro a hE
         refine WL.nil ?_
         refine W.ret ?_
         subst hK66
         rw [← Option.some.inj hq55] at hr
         dsimp only at hr
         refine finG (fn := Tryd.f18) (rs := [.tmp 8]) (vs := [_]) hE rfl ⟨rfl, trivial⟩ ?_
         obtain rfl := Option.some.inj hr
         replace hS := hS.tail
         replace hS := hS.tail
         replace hS := hS.tail
         exact ⟨rfl, hS⟩
        ·replace hq55 := iteF hc104 hq55
         refine W.skip ?_
         refine W.seq ?_
         refine W.seq (W.region ?_)
         refine vP hS hE (Gives.fld hE rfl fl47_1) rfl ?_; clear hE a; intro a hE
         refine vP hS hE (Gives.loadB hE 0 rfl rfl rfl ty3) rfl ?_; clear hE a; intro a hE
         refine vP hS hE (Gives.fld hE rfl fl47_2) rfl ?_; clear hE a; intro a hE
         refine vP hS hE (Gives.loadB hE 0 rfl rfl rfl ty3) rfl ?_; clear hE a; intro a hE
         refine vP hS hE (Gives.p hE rfl) rfl ?_; clear hE a; intro a hE
         refine WL.nil ?_
         refine W.cond hE rfl (fun hc105 => ?_) (fun hc105 => ?_)
         ·replace hq55 := iteT hc105 hq55
          refine W.seq (W.region ?_)
          refine vP hS hE (Gives.p hE rfl) rfl ?_; clear hE a; intro a hE
          refine WL.nil ?_
          refine W.ret ?_
          subst hK66
          rw [← Option.some.inj hq55] at hr
          dsimp only at hr
          refine finG (fn := Tryd.f18) (rs := [.tmp 8]) (vs := [_]) hE rfl ⟨rfl, trivial⟩ ?_
          obtain rfl := Option.some.inj hr
          replace hS := hS.tail
          replace hS := hS.tail
          replace hS := hS.tail
          exact ⟨rfl, hS⟩
         ·replace hq55 := iteF hc105 hq55
          refine W.skip ?_
          refine W.seq ?_
          refine W.seq (W.region ?_)
          refine vP hS hE (Gives.p hE rfl) rfl ?_; clear hE a; intro a hE
          refine vP hS hE (Gives.p hE rfl) rfl ?_; clear hE a; intro a hE
          refine WL.nil ?_
          refine W.cond hE rfl (fun hc106 => ?_) (fun hc106 => ?_)
          ·replace hq55 := iteT hc106 hq55
           refine W.exit rfl ?_
           refine W.region ?_
           refine vP hS hE (Gives.inc hE rfl (by have := h1_0.small; omega)) rfl ?_; clear hE a; intro a hE
           refine vP hS hE (Gives.p hE rfl) rfl ?_; clear hE a; intro a hE
           refine WL.nil ?_
           replace hS := hS.tail
           subst hK66
           exact ⟨rest59.length, Nat.lt_succ_self _, rest59, k57 + 1, rfl, hd60, hq55, hE.pick _ ⟨rfl, rfl, rfl, rfl, rfl, rfl, rfl, trivial⟩, hS⟩
          ·replace hq55 := iteF hc106 hq55
           refine W.skip ?_
           refine W.seq (W.region ?_)
           refine vP hS hE (Gives.fld hE rfl fl28_0) rfl ?_; clear hE a; intro a hE
           refine vP hS hE (Gives.loadB hE 1 rfl rfl rfl ty26) rfl ?_; clear hE a; intro a hE
           refine vP hS hE (Gives.p hE rfl) rfl ?_; clear hE a; intro a hE
           refine vP hS hE (Gives.p hE rfl) rfl ?_; clear hE a; intro a hE
           obtain ⟨x107, hx108, hq55⟩ := bindS hq55
           obtain ⟨hi109, hlt110, hy111⟩ := gx_some hx108
           obtain ⟨cs112, hl113, hR114, hat115⟩ := h1_0.at hy111
           subst hR114
           refine vP hS hE (Gives.idx hE (w64 (((k57 : Nat) : Int) - 1)).toNat rfl rfl sl26 hi109 hlt110 (h1_0.aok hlt110)) rfl ?_; clear hE a; intro a hE
           refine vP hS hE (Gives.loadA hE rfl (fun w h => hat115 w _ h) ty47) rfl ?_; clear hE a; intro a hE
           refine WL.alloc hE hS (runs_plain rfl) zr47 rfl ?_; clear hE hS a w; intro b116 a w hE hS
           refine WL.storeI hE hS 0 rfl (GuideRide.cells x107) (runs_plain rfl) rfl rfl rfl ty47 rfl rfl rfl rfl ?_; clear hE hS a w; intro a w hE hS
           refine WL.nil ?_
           refine W.seq ?_
           refine W.gen fun K117 hK117 => ?_
           refine W.regionE (sel (fun w => St w s (pt b116 (.cells (GuideRide.cells x107).toArray 47 (0, 0)) :: pt b71 (.cells (GuideRide.cells x58).toArray 47 (0, 0)) :: pt b52 (.cells #[.slice a1_0 x1.Rides.length c1_0] 28 (0, 0)) :: pt b51 (.cells #[.slice a0_0 x0.Trains.length c0_0, .slice a0_1 x0.Turns.length c0_1] 25 (0, 0)) :: R)) (fun w => St w s (pt b116 (.cells (GuideRide.cells x107).toArray 47 (0, 0)) :: pt b71 (.cells (GuideRide.cells x58).toArray 47 (0, 0)) :: pt b52 (.cells #[.slice a1_0 x1.Rides.length c1_0] 28 (0, 0)) :: pt b51 (.cells #[.slice a0_0 x0.Trains.length c0_0, .slice a0_1 x0.Turns.length c0_1] 25 (0, 0)) :: R))) (fun b i => cond b ([0, 1, 2, 3, 4, 5, 6, 7, 8, 9, 10, 11, 12].contains i) ([0, 1, 2, 3, 4, 5, 6, 7, 8, 9, 10, 11, 12].contains i)) mixed ?_
           replace hS := hS.drew
           refine Rg.takeP (i := 0) hE rfl (by kernel_rfl) (runs_plain rfl) (Gives.fld hE rfl fl25_0) rfl (tw_sel (fun _ => hS) (fun _ => hS)) ?_; clear hE a; intro a hE
           have hT := tw_sel (A := fun w => St w s _) (B := fun w => St w s _) (w := _) (x := true) (y := true) (fun _ => hS) (fun _ => hS)
           have hF := hS; replace hS := hS
           refine Rg.take (i := 1) true rfl hE rfl (by kernel_rfl) (runs_plain rfl) (Gives.loadB hE 3 rfl rfl rfl ty22) rfl hT ?_; clear hE a; intro a hE
           replace hS := hF; clear hF hT
           refine Rg.takeP (i := 2) hE rfl (by kernel_rfl) (runs_plain rfl) (Gives.fld hE rfl fl47_0) rfl (tw_sel (fun _ => hS) (fun _ => hS)) ?_; clear hE a; intro a hE
           have hT := tw_sel (A := fun w => St w s _) (B := fun w => St w s _) (w := _) (x := true) (y := true) (fun _ => hS) (fun _ => hS)
           have hF := hS; replace hS := hS
           refine Rg.take (i := 3) true rfl hE rfl (by kernel_rfl) (runs_plain rfl) (Gives.loadB hE 0 rfl rfl rfl ty3) rfl hT ?_; clear hE a; intro a hE
           replace hS := hF; clear hF hT
           obtain ⟨x118, hx119, hq55⟩ := bindS hq55
           obtain ⟨hi120, hlt121, hy122⟩ := gx_some hx119
           obtain ⟨cs123, hl124, hR125, hat126⟩ := h0_0.at hy122
           obtain ⟨a127, c128, a130, c131, rfl, h129, h132⟩ := hR125
           refine Rg.takeP (i := 4) hE rfl (by kernel_rfl) (runs_plain rfl) (Gives.idx hE (x107.Train).toNat rfl rfl sl22 hi120 hlt121 (h0_0.aok hlt121)) rfl (tw_sel (fun _ => hS) (fun _ => hS)) ?_; clear hE a; intro a hE
           refine Rg.takeP (i := 5) hE rfl (by kernel_rfl) (runs_plain rfl) (Gives.fld hE rfl fl44_2) rfl (tw_sel (fun _ => hS) (fun _ => hS)) ?_; clear hE a; intro a hE
           have hT := tw_sel (A := fun w => St w s _) (B := fun w => St w s _) (w := _) (x := true) (y := true) (fun _ => hS) (fun _ => hS)
           have hF := hS; replace hS := hS
           refine Rg.take (i := 6) true rfl hE rfl (by kernel_rfl) (runs_plain rfl) (Gives.load1 hE rfl (fun w h => (hat126 w _ h).one rfl) ty42) rfl hT ?_; clear hE a; intro a hE
           replace hS := hF; clear hF hT
           refine Rg.takeP (i := 7) hE rfl (by kernel_rfl) (runs_plain rfl) (Gives.fld hE rfl fl47_2) rfl (tw_sel (fun _ => hS) (fun _ => hS)) ?_; clear hE a; intro a hE
           have hT := tw_sel (A := fun w => St w s _) (B := fun w => St w s _) (w := _) (x := true) (y := true) (fun _ => hS) (fun _ => hS)
           have hF := hS; replace hS := hS
           refine Rg.take (i := 8) true rfl hE rfl (by kernel_rfl) (runs_plain rfl) (Gives.loadB hE 0 rfl rfl rfl ty3) rfl hT ?_; clear hE a; intro a hE
           replace hS := hF; clear hF hT
           obtain ⟨x133, hx134, hq55⟩ := bindS hq55
           obtain ⟨hi135, hlt136, hy137⟩ := gx_some hx134
           obtain ⟨cs138, hl139, hR140, hat141⟩ := h129.at hy137
           subst hR140
           refine Rg.takeP (i := 9) hE rfl (by kernel_rfl) (runs_plain rfl) (Gives.idx hE (x107.Off).toNat rfl rfl sl42 hi135 hlt136 (h129.aok hlt136)) rfl (tw_sel (fun _ => hS) (fun _ => hS)) ?_; clear hE a; intro a hE
           have hT := tw_sel (A := fun w => St w s _) (B := fun w => St w s _) (w := _) (x := true) (y := true) (fun _ => hS) (fun _ => hS)
           have hF := hS; replace hS := hS
           refine Rg.take (i := 10) true rfl hE rfl (by kernel_rfl) (runs_plain rfl) (Gives.loadA hE rfl (fun w h => hat141 w _ h) ty106) rfl hT ?_; clear hE a; intro a hE
           replace hS := hF; clear hF hT
           refine Rg.one (i := 11) true true rfl (by kernel_rfl) (by kernel_rfl) (by kernel_rfl) ?_
           refine WL.alloc hE hS (runs_plain rfl) zr106 rfl ?_; clear hE hS a w; intro b142 a w hE hS
           refine WL.nil ?_
           refine ⟨⟨fun _ => (hS.tail), fun _ => (hS.tail)⟩, ?_⟩
           refine Rg.one (i := 12) true true rfl (by kernel_rfl) (by kernel_rfl) (by kernel_rfl) ?_
           refine WL.storeI hE hS 0 rfl (ApiStop.cells x133) (runs_plain rfl) rfl rfl rfl ty106 rfl rfl rfl rfl ?_; clear hE hS a w; intro a w hE hS
           refine WL.nil ?_
           refine ⟨⟨fun _ => (hS.tail), fun _ => (hS.tail)⟩, ?_⟩
           refine Rg.done (by kernel_rfl) ?_
           subst hK117
           refine W.seq ?_
           refine W.seq ?_
           obtain ⟨q144, hq143, hq55⟩ := bindS hq55
           refine W.cut (fun a w => ∃ (q147 : Bool), q147 = q144 ∧ Rep a 125 [(2, .int .i64 x2), (3, .bool x3), (4, .pointer (some ⟨b51, 0, none⟩)), (5, .pointer (some ⟨b52, 0, none⟩)), (10, .pointer (some ⟨b71, 0, none⟩)), (11, .slice a89 x80.Stops.length c90), (13, .pointer (some ⟨b142, 0, none⟩)), (23, .slice a1_0 x1.Rides.length c1_0), (24, .int .i64 ((x1.Rides).length : Int)), (25, .int .i64 ((k57 : Nat) : Int)), (109, .bool q147)] ∧ St w s (pt b142 (.cells (ApiStop.cells x133).toArray 106 (0, 0)) :: pt b116 (.cells (GuideRide.cells x107).toArray 47 (0, 0)) :: pt b71 (.cells (GuideRide.cells x58).toArray 47 (0, 0)) :: pt b52 (.cells #[.slice a1_0 x1.Rides.length c1_0] 28 (0, 0)) :: pt b51 (.cells #[.slice a0_0 x0.Trains.length c0_0, .slice a0_1 x0.Turns.length c0_1] 25 (0, 0)) :: R)) ?_ ?_
           ·refine W.gen fun K148 hK148 => ?_
            refine W.regionQ (C := fun w => St w s (pt b142 (.cells (ApiStop.cells x133).toArray 106 (0, 0)) :: pt b116 (.cells (GuideRide.cells x107).toArray 47 (0, 0)) :: pt b71 (.cells (GuideRide.cells x58).toArray 47 (0, 0)) :: pt b52 (.cells #[.slice a1_0 x1.Rides.length c1_0] 28 (0, 0)) :: pt b51 (.cells #[.slice a0_0 x0.Trains.length c0_0, .slice a0_1 x0.Turns.length c0_1] 25 (0, 0)) :: R)) mixed (by kernel_rfl) hS.drew ?_
            refine qP hE (Gives.fld hE rfl fl47_0) rfl ?_; clear hE a; intro a hE
            refine qP hE (Gives.loadB hE 1 rfl rfl rfl ty3) rfl ?_; clear hE a; intro a hE
            refine qP hE (Gives.fld hE rfl fl47_0) rfl ?_; clear hE a; intro a hE
            refine qP hE (Gives.loadB hE 2 rfl rfl rfl ty3) rfl ?_; clear hE a; intro a hE
            refine qP hE (Gives.p hE rfl) rfl ?_; clear hE a; intro a hE
            refine qP hE (Gives.p hE rfl) rfl ?_; clear hE a; intro a hE
            rcases Bool.eq_false_or_eq_true (x107.Train == x58.Train) with hg149 | hg149
            ·replace hq143 := iteT hg149 hq143
             refine QL.no hE (runs_not hE rfl rfl rfl (by rw [hg149]; decide)) rfl ?_; clear hE a; intro a hE
             refine QL.no hE (runs_not hE rfl rfl rfl (by rw [hg149]; decide)) rfl ?_; clear hE a; intro a hE
             refine QL.no hE (runs_not hE rfl rfl rfl (by rw [hg149]; decide)) rfl ?_; clear hE a; intro a hE
             refine QL.no hE (runs_not hE rfl rfl rfl (by rw [hg149]; decide)) rfl ?_; clear hE a; intro a hE
             refine QL.no hE (runs_not hE rfl rfl rfl (by rw [hg149]; decide)) rfl ?_; clear hE a; intro a hE
             refine QL.no hE (runs_not hE rfl rfl rfl (by rw [hg149]; decide)) rfl ?_; clear hE a; intro a hE
             refine QL.no hE (runs_not hE rfl rfl rfl (by rw [hg149]; decide)) rfl ?_; clear hE a; intro a hE
             refine QL.no hE (runs_not hE rfl rfl rfl (by rw [hg149]; decide)) rfl ?_; clear hE a; intro a hE
             refine QL.no hE (runs_not hE rfl rfl rfl (by rw [hg149]; decide)) rfl ?_; clear hE a; intro a hE
             refine qP hE (Gives.pickT hE rfl hg149 rfl) rfl ?_; clear hE a; intro a hE
             refine QL.nil ?_; clear hS w; intro w hS
             subst hK148
             exact ⟨true, Option.some.inj hq143, hE.pick _ ⟨rfl, rfl, rfl, rfl, rfl, rfl, rfl, rfl, rfl, rfl, rfl, trivial⟩, hS⟩
            ·replace hq143 := iteF hg149 hq143
             refine QL.v hE (runs_if hE rfl rfl rfl hg149) (Gives.p hE rfl) rfl ?_; clear hE a; intro a hE
             refine QL.v hE (runs_if hE rfl rfl rfl hg149) (Gives.fld hE rfl fl47_1) rfl ?_; clear hE a; intro a hE
             refine QL.v hE (runs_if hE rfl rfl rfl hg149) (Gives.loadB hE 2 rfl rfl rfl ty3) rfl ?_; clear hE a; intro a hE
             obtain ⟨x150, hx151, hq143⟩ := bindS hq143
             obtain ⟨hi152, hlt153, hy154⟩ := gx_some hx151
             obtain ⟨cs155, hl156, hR157, hat158⟩ := h91.at hy154
             subst hR157
             refine QL.v hE (runs_if hE rfl rfl rfl hg149) (Gives.idx hE (x58.On).toNat rfl rfl sl42 hi152 hlt153 (h91.aok hlt153)) rfl ?_; clear hE a; intro a hE
             refine QL.v hE (runs_if hE rfl rfl rfl hg149) (Gives.fld hE rfl fl106_0) rfl ?_; clear hE a; intro a hE
             refine QL.v hE (runs_if hE rfl rfl rfl hg149) (Gives.load1 hE rfl (fun w h => (hat158 w _ h).one rfl) ty3) rfl ?_; clear hE a; intro a hE
             refine QL.v hE (runs_if hE rfl rfl rfl hg149) (Gives.fld hE rfl fl106_0) rfl ?_; clear hE a; intro a hE
             refine QL.v hE (runs_if hE rfl rfl rfl hg149) (Gives.loadB hE 0 rfl rfl rfl ty3) rfl ?_; clear hE a; intro a hE
             refine QL.v hE (runs_if hE rfl rfl rfl hg149) (Gives.p hE rfl) rfl ?_; clear hE a; intro a hE
             refine qP hE (Gives.pickF hE rfl hg149 rfl) rfl ?_; clear hE a; intro a hE
             refine QL.nil ?_; clear hS w; intro w hS
             subst hK148
             exact ⟨(x150.Station != x133.Station), Option.some.inj hq143, hE.pick _ ⟨rfl, rfl, rfl, rfl, rfl, rfl, rfl, rfl, rfl, rfl, rfl, trivial⟩, hS⟩
           ·clear hE hS a w; rintro a w ⟨q147, rfl, hE, hS⟩
            refine W.cond hE rfl (fun hc159 => ?_) (fun hc159 => ?_)
            ·replace hq55 := iteT hc159 hq55
             refine W.seq (W.region ?_)
             refine vP hS hE (Gives.p hE rfl) rfl ?_; clear hE a; intro a hE
             refine WL.nil ?_
             refine W.ret ?_
             subst hK66
             rw [← Option.some.inj hq55] at hr
             dsimp only at hr
             refine finG (fn := Tryd.f18) (rs := [.tmp 8]) (vs := [_]) hE rfl ⟨rfl, trivial⟩ ?_
             obtain rfl := Option.some.inj hr
             replace hS := hS.tail
             replace hS := hS.tail
             replace hS := hS.tail
             replace hS := hS.tail
             replace hS := hS.tail
             exact ⟨rfl, hS⟩
            ·replace hq55 := iteF hc159 hq55
             refine W.skip ?_
             refine W.seq ?_
             obtain ⟨q161, hq160, hq55⟩ := bindS hq55
             refine W.cut (fun a w => ∃ (q164 : Bool), q164 = q161 ∧ Rep a 125 [(2, .int .i64 x2), (3, .bool x3), (4, .pointer (some ⟨b51, 0, none⟩)), (5, .pointer (some ⟨b52, 0, none⟩)), (23, .slice a1_0 x1.Rides.length c1_0), (24, .int .i64 ((x1.Rides).length : Int)), (25, .int .i64 ((k57 : Nat) : Int)), (123, .bool q164)] ∧ St w s (pt b142 (.cells (ApiStop.cells x133).toArray 106 (0, 0)) :: pt b116 (.cells (GuideRide.cells x107).toArray 47 (0, 0)) :: pt b71 (.cells (GuideRide.cells x58).toArray 47 (0, 0)) :: pt b52 (.cells #[.slice a1_0 x1.Rides.length c1_0] 28 (0, 0)) :: pt b51 (.cells #[.slice a0_0 x0.Trains.length c0_0, .slice a0_1 x0.Turns.length c0_1] 25 (0, 0)) :: R)) ?_ ?_
             ·refine W.gen fun K165 hK165 => ?_
              refine W.regionQ (C := fun w => St w s (pt b142 (.cells (ApiStop.cells x133).toArray 106 (0, 0)) :: pt b116 (.cells (GuideRide.cells x107).toArray 47 (0, 0)) :: pt b71 (.cells (GuideRide.cells x58).toArray 47 (0, 0)) :: pt b52 (.cells #[.slice a1_0 x1.Rides.length c1_0] 28 (0, 0)) :: pt b51 (.cells #[.slice a0_0 x0.Trains.length c0_0, .slice a0_1 x0.Turns.length c0_1] 25 (0, 0)) :: R)) mixed (by kernel_rfl) hS.drew ?_
              refine qP hE (Gives.p hE rfl) rfl ?_; clear hE a; intro a hE
              refine qP hE (Gives.p hE rfl) rfl ?_; clear hE a; intro a hE
              rcases Bool.eq_false_or_eq_true x3 with hg166 | hg166
              ·replace hq160 := iteT hg166 hq160
               refine QL.v hE (runs_if hE rfl rfl rfl hg166) (Gives.p hE rfl) rfl ?_; clear hE a; intro a hE
               refine QL.v hE (runs_if hE rfl rfl rfl hg166) (Gives.fld hE rfl fl47_1) rfl ?_; clear hE a; intro a hE
               refine QL.v hE (runs_if hE rfl rfl rfl hg166) (Gives.loadB hE 2 rfl rfl rfl ty3) rfl ?_; clear hE a; intro a hE
               obtain ⟨x167, hx168, hq160⟩ := bindS hq160
               obtain ⟨hi169, hlt170, hy171⟩ := gx_some hx168
               obtain ⟨cs172, hl173, hR174, hat175⟩ := h91.at hy171
               subst hR174
               refine QL.v hE (runs_if hE rfl rfl rfl hg166) (Gives.idx hE (x58.On).toNat rfl rfl sl42 hi169 hlt170 (h91.aok hlt170)) rfl ?_; clear hE a; intro a hE
               refine QL.v hE (runs_if hE rfl rfl rfl hg166) (Gives.fld hE rfl fl106_3) rfl ?_; clear hE a; intro a hE
               refine QL.v hE (runs_if hE rfl rfl rfl hg166) (Gives.load1 hE rfl (fun w h => (hat175 w _ h).one rfl) ty3) rfl ?_; clear hE a; intro a hE
               refine QL.v hE (runs_if hE rfl rfl rfl hg166) (Gives.fld hE rfl fl106_2) rfl ?_; clear hE a; intro a hE
               refine QL.v hE (runs_if hE rfl rfl rfl hg166) (Gives.loadB hE 0 rfl rfl rfl ty3) rfl ?_; clear hE a; intro a hE
               refine QL.v hE (runs_if hE rfl rfl rfl hg166) (Gives.p hE rfl) rfl ?_; clear hE a; intro a hE
               refine QL.v hE (runs_if hE rfl rfl rfl hg166) (Gives.p hE rfl) rfl ?_; clear hE a; intro a hE
               refine QL.v hE (runs_if hE rfl rfl rfl hg166) (Gives.p hE rfl) rfl ?_; clear hE a; intro a hE
               refine qP hE (Gives.pickT hE rfl hg166 rfl) rfl ?_; clear hE a; intro a hE
               refine QL.nil ?_; clear hS w; intro w hS
               subst hK165
               exact ⟨decide (x167.Dep < (w64 (x133.Arr + x2))), Option.some.inj hq160, hE.pick _ ⟨rfl, rfl, rfl, rfl, rfl, rfl, rfl, rfl, trivial⟩, hS⟩
              ·replace hq160 := iteF hg166 hq160
               refine QL.no hE (runs_not hE rfl rfl rfl (by rw [hg166]; decide)) rfl ?_; clear hE a; intro a hE
               refine QL.no hE (runs_not hE rfl rfl rfl (by rw [hg166]; decide)) rfl ?_; clear hE a; intro a hE
               refine QL.no hE (runs_not hE rfl rfl rfl (by rw [hg166]; decide)) rfl ?_; clear hE a; intro a hE
               refine QL.no hE (runs_not hE rfl rfl rfl (by rw [hg166]; decide)) rfl ?_; clear hE a; intro a hE
               refine QL.no hE (runs_not hE rfl rfl rfl (by rw [hg166]; decide)) rfl ?_; clear hE a; intro a hE
               refine QL.no hE (runs_not hE rfl rfl rfl (by rw [hg166]; decide)) rfl ?_; clear hE a; intro a hE
               refine QL.no hE (runs_not hE rfl rfl rfl (by rw [hg166]; decide)) rfl ?_; clear hE a; intro a hE
               refine QL.no hE (runs_not hE rfl rfl rfl (by rw [hg166]; decide)) rfl ?_; clear hE a; intro a hE
               refine QL.no hE (runs_not hE rfl rfl rfl (by rw [hg166]; decide)) rfl ?_; clear hE a; intro a hE
               refine QL.no hE (runs_not hE rfl rfl rfl (by rw [hg166]; decide)) rfl ?_; clear hE a; intro a hE
               refine QL.no hE (runs_not hE rfl rfl rfl (by rw [hg166]; decide)) rfl ?_; clear hE a; intro a hE
               refine qP hE (Gives.pickF hE rfl hg166 rfl) rfl ?_; clear hE a; intro a hE
               refine QL.nil ?_; clear hS w; intro w hS
               subst hK165
               exact ⟨false, Option.some.inj hq160, hE.pick _ ⟨rfl, rfl, rfl, rfl, rfl, rfl, rfl, rfl, trivial⟩, hS⟩
             ·clear hE hS a w; rintro a w ⟨q164, rfl, hE, hS⟩
              refine W.cond hE rfl (fun hc176 => ?_) (fun hc176 => ?_)
              ·replace hq55 := iteT hc176 hq55
               refine W.seq (W.region ?_)
               refine vP hS hE (Gives.p hE rfl) rfl ?_; clear hE a; intro a hE
               refine WL.nil ?_
               refine W.ret ?_
               subst hK66
               rw [← Option.some.inj hq55] at hr
               dsimp only at hr
               refine finG (fn := Tryd.f18) (rs := [.tmp 8]) (vs := [_]) hE rfl ⟨rfl, trivial⟩ ?_
               obtain rfl := Option.some.inj hr
               replace hS := hS.tail
               replace hS := hS.tail
               replace hS := hS.tail
               replace hS := hS.tail
               replace hS := hS.tail
               exact ⟨rfl, hS⟩
              ·replace hq55 := iteF hc176 hq55
               refine W.skip ?_
               refine W.region ?_
               refine vP hS hE (Gives.inc hE rfl (by have := h1_0.small; omega)) rfl ?_; clear hE a; intro a hE
               refine vP hS hE (Gives.p hE rfl) rfl ?_; clear hE a; intro a hE
               refine WL.nil ?_
               replace hS := hS.tail
               replace hS := hS.tail
               replace hS := hS.tail
               subst hK66
               exact ⟨rest59.length, Nat.lt_succ_self _, rest59, k57 + 1, rfl, hd60, hq55, hE.pick _ ⟨rfl, rfl, rfl, rfl, rfl, rfl, rfl, trivial⟩, hS⟩
   ·clear hE hS a w; rintro a w ⟨rfl, hE, hS⟩
    dsimp only at hr
    refine W.seq (W.region ?_)
    refine vP hS hE (Gives.p hE rfl) rfl ?_; clear hE a; intro a hE
    refine WL.nil ?_
    refine W.ret ?_
    refine finG (fn := Tryd.f18) (rs := [.tmp 8]) (vs := [_]) hE rfl ⟨rfl, trivial⟩ ?_
    obtain rfl := Option.some.inj hr
    replace hS := hS.tail
    replace hS := hS.tail
    exact ⟨rfl, hS⟩
set_option maxHeartbeats 8000000 in
theorem Farespan_ok  {w : World} {s : Sg} {R : List HP} {x0 : Int} {x1 : Int} {x2 : Int} (hS : St w s (R))  {r : Bool} (hr : Farespan x0 x1 x2 = r) :
  Calls Tryd.prog 90 [.int .i64 x0, .int .i64 x1, .int .i64 x2].toArray w (fun e w => e = .returned (.bool r) ∧ St w s (R)) := by
 refine enter Tryd.func90 rfl rfl rfl fun a hE => ?_
 rw [Farespan] at hr
 refine W.seq (W.region ?_)
 refine vP hS hE (Gives.p hE rfl) rfl ?_; clear hE a; intro a hE
 refine WL.nil ?_
 refine W.seq ?_
 obtain ⟨q52, hq51, hr⟩ := bndS hr
 refine W.cut (fun a w => ∃ (q55 : Bool), q55 = q52 ∧ Rep a 19 [(6, .bool q55)] ∧ St w s (R)) ?_ ?_
 ·refine W.gen fun K56 hK56 => ?_
  refine W.region ?_
  refine vP hS hE (Gives.p hE rfl) rfl ?_; clear hE a; intro a hE
  refine vP hS hE (Gives.p hE rfl) rfl ?_; clear hE a; intro a hE
  refine vP hS hE (Gives.p hE rfl) rfl ?_; clear hE a; intro a hE
  rcases Bool.eq_false_or_eq_true (decide (x0 ≥ 0)) with hg57 | hg57
  ·replace hq51 := iteT hg57 hq51
   refine WL.vS hS hE (runs_if hE rfl rfl rfl hg57) (Gives.p hE rfl) rfl ?_; clear hE a; intro a hE
   refine WL.vS hS hE (runs_if hE rfl rfl rfl hg57) (Gives.p hE rfl) rfl ?_; clear hE a; intro a hE
   refine WL.vS hS hE (runs_if hE rfl rfl rfl hg57) (Gives.p hE rfl) rfl ?_; clear hE a; intro a hE
   refine vP hS hE (Gives.pickT hE rfl hg57 rfl) rfl ?_; clear hE a; intro a hE
   refine vP hS hE (Gives.p hE rfl) rfl ?_; clear hE a; intro a hE
   rcases Bool.eq_false_or_eq_true (decide (x0 < x1)) with hg58 | hg58
   ·replace hq51 := iteT hg58 hq51
    refine WL.vS hS hE (runs_if hE rfl rfl rfl hg58) (Gives.p hE rfl) rfl ?_; clear hE a; intro a hE
    refine WL.vS hS hE (runs_if hE rfl rfl rfl hg58) (Gives.p hE rfl) rfl ?_; clear hE a; intro a hE
    refine WL.vS hS hE (runs_if hE rfl rfl rfl hg58) (Gives.p hE rfl) rfl ?_; clear hE a; intro a hE
    refine vP hS hE (Gives.pickT hE rfl hg58 rfl) rfl ?_; clear hE a; intro a hE
    refine vP hS hE (Gives.p hE rfl) rfl ?_; clear hE a; intro a hE
    refine WL.nil ?_
    subst hK56
    exact ⟨decide (x1 < x2), hq51, hE.pick _ ⟨rfl, trivial⟩, hS⟩
   ·replace hq51 := iteF hg58 hq51
    refine WL.no hE (runs_not hE rfl rfl rfl (by rw [hg58]; decide)) rfl ?_; clear hE a; intro a hE
    refine WL.no hE (runs_not hE rfl rfl rfl (by rw [hg58]; decide)) rfl ?_; clear hE a; intro a hE
    refine WL.no hE (runs_not hE rfl rfl rfl (by rw [hg58]; decide)) rfl ?_; clear hE a; intro a hE
    refine vP hS hE (Gives.pickF hE rfl hg58 rfl) rfl ?_; clear hE a; intro a hE
    refine vP hS hE (Gives.p hE rfl) rfl ?_; clear hE a; intro a hE
    refine WL.nil ?_
    subst hK56
    exact ⟨false, hq51, hE.pick _ ⟨rfl, trivial⟩, hS⟩
  ·replace hq51 := iteF hg57 hq51
   refine WL.no hE (runs_not hE rfl rfl rfl (by rw [hg57]; decide)) rfl ?_; clear hE a; intro a hE
   refine WL.no hE (runs_not hE rfl rfl rfl (by rw [hg57]; decide)) rfl ?_; clear hE a; intro a hE
   refine WL.no hE (runs_not hE rfl rfl rfl (by rw [hg57]; decide)) rfl ?_; clear hE a; intro a hE
   refine vP hS hE (Gives.pickF hE rfl hg57 rfl) rfl ?_; clear hE a; intro a hE
   refine vP hS hE (Gives.p hE rfl) rfl ?_; clear hE a; intro a hE
   refine WL.no hE (runs_not hE rfl rfl rfl (by decide)) rfl ?_; clear hE a; intro a hE
   refine WL.no hE (runs_not hE rfl rfl rfl (by decide)) rfl ?_; clear hE a; intro a hE
   refine WL.no hE (runs_not hE rfl rfl rfl (by decide)) rfl ?_; clear hE a; intro a hE
   refine vP hS hE (Gives.pickF hE rfl rfl rfl) rfl ?_; clear hE a; intro a hE
   refine vP hS hE (Gives.p hE rfl) rfl ?_; clear hE a; intro a hE
   refine WL.nil ?_
   subst hK56
   exact ⟨false, hq51, hE.pick _ ⟨rfl, trivial⟩, hS⟩
 ·clear hE hS a w; rintro a w ⟨q55, rfl, hE, hS⟩
  refine W.ret ?_
  refine finG (fn := Tryd.f90) (rs := [.tmp 6]) (vs := [_]) hE rfl ⟨rfl, trivial⟩ ?_
  subst hr
  exact ⟨rfl, hS⟩
set_option maxHeartbeats 8000000 in
theorem SlicesIndexLint_ok  {w : World} {s : Sg} {R : List HP} {x0 : List Int} {a0 : Option Addr} {c0 : Nat} {x1 : Int} (hS : St w s (R)) (h0 : Sl 1 (RI .i64) s a0 c0 x0) {r : Int} (hr : SlicesIndexLint x0 x1 = r) :
  Calls Tryd.prog 93 [.slice a0 x0.length c0, .int .i64 x1].toArray w (fun e w => e = .returned (.int .i64 r) ∧ St w s (R)) := by
 refine enter Tryd.func93 rfl rfl rfl fun a hE => ?_
 rw [SlicesIndexLint] at hr
 refine W.seq (W.region ?_)
 refine vP hS hE (Gives.p hE rfl) rfl ?_; clear hE a; intro a hE
 refine WL.nil ?_
 refine W.seq ?_
 refine W.seq (W.region ?_)
 refine vP hS hE (Gives.p hE rfl) rfl ?_; clear hE a; intro a hE
 refine vP hS hE (Gives.len hE rfl sl45) rfl ?_; clear hE a; intro a hE
 refine vP hS hE (Gives.p hE rfl) rfl ?_; clear hE a; intro a hE
 refine WL.nil ?_
 obtain ⟨q52, hq51, hr⟩ := bndS hr
 refine W.cut (fun a w => (.next ()) = q52 ∧ Rep a 19 [] ∧ St w s (R)) ?_ ?_
 ·refine W.block ?_
  refine W.loop (fun m a w => ∃ (rest55 : List Int) (k53 : Nat), rest55.length = m ∧ x0.drop k53 = rest55 ∧ SlicesIndexLint.loop1 x1 rest55 k53 = q52 ∧ Rep a 19 [(0, .slice a0 x0.length c0), (1, .int .i64 x1), (7, .int .i64 ((x0).length : Int)), (8, .int .i64 ((k53 : Nat) : Int))] ∧ St w s (R)) (m := x0.length) ⟨x0, 0, rfl, rfl, hq51, hE.pick _ ⟨rfl, rfl, rfl, rfl, trivial⟩, hS⟩ ?_
  clear hE hS a w hq51; rintro m59 a w ⟨rest55, k53, rfl, hd56, hq51, hE, hS⟩
  refine W.gen fun K62 hK62 => ?_
  rcases rest55 with _ | ⟨x54, rest55⟩
  ·have hlt57 := drop_nil hd56
   refine W.seq (W.region ?_)
   refine vP hS hE (Gives.p hE rfl) rfl ?_; clear hE a; intro a hE
   refine WL.nil ?_
   refine W.seq ?_
   refine W.condF hE rfl (decide_eq_false (by omega)) ?_
   subst hK62
   refine W.exit rfl ?_
   exact ⟨hq51, hE.pick _ trivial, hS⟩
  ·obtain ⟨hlt57, hx58, hd56⟩ := drop_cons hd56
   rw [SlicesIndexLint.loop1] at hq51
   refine W.seq (W.region ?_)
   refine vP hS hE (Gives.p hE rfl) rfl ?_; clear hE a; intro a hE
   refine WL.nil ?_
   refine W.seq ?_
   refine W.condT hE rfl (decide_eq_true (by omega)) ?_
   refine W.skip ?_
   refine W.seq ?_
   refine W.block ?_
   refine W.seq (W.region ?_)
   refine vP hS hE (Gives.p hE rfl) rfl ?_; clear hE a; intro a hE
   refine vP hS hE (Gives.p hE rfl) rfl ?_; clear hE a; intro a hE
   refine WL.nil ?_
   refine W.seq (W.region ?_)
   refine vP hS hE (Gives.p hE rfl) rfl ?_; clear hE a; intro a hE
   refine vP hS hE (Gives.p hE rfl) rfl ?_; clear hE a; intro a hE
   refine vP hS hE (Gives.p hE rfl) rfl ?_; clear hE a; intro a hE
   obtain ⟨cs63, hl64, hR65, hat66⟩ := h0.at hx58
   subst hR65
   refine vP hS hE (Gives.idx hE k53 rfl rfl sl45 rfl hlt57 (h0.aok hlt57)) rfl ?_; clear hE a; intro a hE
   refine vP hS hE (Gives.load1 hE rfl (fun w h => hat66 w _ h) ty3) rfl ?_; clear hE a; intro a hE
   refine vP hS hE (Gives.p hE rfl) rfl ?_; clear hE a; intro a hE
   refine WL.nil ?_
   refine W.cond hE rfl (fun hc67 => ?_) (fun hc67 => ?_)
   ·replace hq51 := iteT hc67 hq51
    refine W.seq (W.region ?_)
    refine vP hS hE (Gives.p hE rfl) rfl ?_; clear hE a; intro a hE
    refine vP hS hE (Gives.p hE rfl) rfl ?_; clear hE a; intro a hE
    refine WL.nil ?_
    refine W.ret ?_
    subst hK62
    rw [← hq51] at hr
    dsimp only at hr
    refine finG (fn := Tryd.f93) (rs := [.tmp 4]) (vs := [_]) hE rfl ⟨rfl, trivial⟩ ?_
    subst hr
    exact ⟨rfl, hS⟩
   ·replace hq51 := iteF hc67 hq51
    refine W.skip ?_
    refine W.region ?_
    refine vP hS hE (Gives.inc hE rfl (by have := h0.small; omega)) rfl ?_; clear hE a; intro a hE
    refine vP hS hE (Gives.p hE rfl) rfl ?_; clear hE a; intro a hE
    refine WL.nil ?_
    subst hK62
    exact ⟨rest55.length, Nat.lt_succ_self _, rest55, k53 + 1, rfl, hd56, hq51, hE.pick _ ⟨rfl, rfl, rfl, rfl, trivial⟩, hS⟩
 ·clear hE hS a w; rintro a w ⟨rfl, hE, hS⟩
  dsimp only at hr
  refine W.seq (W.region ?_)
  refine vP hS hE (Gives.p hE rfl) rfl ?_; clear hE a; intro a hE
  refine WL.nil ?_
  refine W.ret ?_
  refine finG (fn := Tryd.f93) (rs := [.tmp 4]) (vs := [_]) hE rfl ⟨rfl, trivial⟩ ?_
  subst hr
  exact ⟨rfl, hS⟩
set_option maxHeartbeats 8000000 in
theorem SlicesContainsLint_ok  {w : World} {s : Sg} {R : List HP} {x0 : List Int} {a0 : Option Addr} {c0 : Nat} {x1 : Int} (hS : St w s (R)) (h0 : Sl 1 (RI .i64) s a0 c0 x0) {r : Bool} (hr : SlicesContainsLint x0 x1 = r) :
  Calls Tryd.prog 39 [.slice a0 x0.length c0, .int .i64 x1].toArray w (fun e w => e = .returned (.bool r) ∧ St w s (R)) := by
 refine enter Tryd.func39 rfl rfl rfl fun a hE => ?_
 rw [SlicesContainsLint] at hr
 refine W.seq (W.region ?_)
 refine vP hS hE (Gives.p hE rfl) rfl ?_; clear hE a; intro a hE
 refine WL.nil ?_
 refine W.seq (W.region ?_)
 refine vP hS hE (Gives.p hE rfl) rfl ?_; clear hE a; intro a hE
 refine vP hS hE (Gives.p hE rfl) rfl ?_; clear hE a; intro a hE
 refine WL.fnq hE (SlicesIndexLint_ok hS h0 rfl (r := SlicesIndexLint x0 x1)) (runs_plain rfl) bd93 rfl rfl rfl ?_
 clear hE hS; rintro e w ⟨rfl, hS⟩; refine ⟨_, rfl, ?_⟩; clear a; intro a hE
 refine vP hS hE (Gives.p hE rfl) rfl ?_; clear hE a; intro a hE
 refine vP hS hE (Gives.p hE rfl) rfl ?_; clear hE a; intro a hE
 refine WL.nil ?_
 refine W.ret ?_
 refine finG (fn := Tryd.f39) (rs := [.tmp 4]) (vs := [_]) hE rfl ⟨rfl, trivial⟩ ?_
 subst hr
 exact ⟨rfl, hS⟩
set_option maxHeartbeats 8000000 in
theorem FareCarof_v1_ok  {w : World} {s : Sg} {R : List HP} {pb0 : Nat} {x1 : Int} {y0 : FareCar} {a_v0 : Option Addr} {c_v0 n_v0 : Nat} {cs_v0 : List Value} {a_v1 : Option Addr} {c_v1 n_v1 : Nat} {cs_v1 : List Value} (hS : St w s (pt pb0 (.cells #[.int .i64 y0.rows, .int .i64 y0.across, .int .i64 y0.stops, .slice a_v0 n_v0 c_v0, .slice a_v1 n_v1 c_v1] 148 (0, 0)) :: vecC 80 4 a_v0 c_v0 n_v0 cs_v0 :: vecC 4 1 a_v1 c_v1 n_v1 cs_v1 :: R)) (h_v0 : Ev 4 RFareBooking s cs_v0 y0.bookings) (hn_v0 : y0.bookings.length = n_v0) (h_v1 : Ev 1 RB s cs_v1 y0.cancelled) (hn_v1 : y0.cancelled.length = n_v1) {r : (List FareBooking)} (hr : FareCarof_v1 x1 y0 = some r) :
  Calls Tryd.prog 121 [.pointer (some ⟨pb0, 0, none⟩), .int .i64 x1].toArray w (fun e w => ∃ (a0 : Option Addr) (c0 n0 : Nat) (cs0 : List Value), e = .returned (.slice a0 n0 c0) ∧ Ev 4 RFareBooking s cs0 r ∧ r.length = n0 ∧ St w s (vecC 80 4 a0 c0 n0 cs0 :: pt pb0 (.cells #[.int .i64 y0.rows, .int .i64 y0.across, .int .i64 y0.stops, .slice a_v0 n_v0 c_v0, .slice a_v1 n_v1 c_v1] 148 (0, 0)) :: vecC 80 4 a_v0 c_v0 n_v0 cs_v0 :: vecC 4 1 a_v1 c_v1 n_v1 cs_v1 :: R)) := by
 refine enter Tryd.func121 rfl rfl rfl fun a hE => ?_
 rw [FareCarof_v1] at hr
 subst hn_v0
 subst hn_v1
 refine W.seq (W.region ?_)
 refine vP hS hE (Gives.p hE rfl) rfl ?_; clear hE a; intro a hE
 refine WL.nil ?_
 refine W.seq (W.region ?_)
 replace hS := hS.vecNil 80 4
 refine vP hS hE (Gives.p hE rfl) rfl ?_; clear hE a; intro a hE
 refine WL.nil ?_
 refine W.seq ?_
 refine W.seq (W.region ?_)
 refine vP hS hE (Gives.p hE rfl) rfl ?_; clear hE a; intro a hE
 refine vP hS hE (Gives.nilOk hE rfl) rfl ?_; clear hE a; intro a hE
 refine vP hS hE (Gives.fld hE rfl fl148_3) rfl ?_; clear hE a; intro a hE
 refine vP hS hE (Gives.loadB hE 1 rfl rfl rfl ty85) rfl ?_; clear hE a; intro a hE
 refine vP hS hE (Gives.len hE rfl sl85) rfl ?_; clear hE a; intro a hE
 refine vP hS hE (Gives.p hE rfl) rfl ?_; clear hE a; intro a hE
 refine WL.nil ?_
 have hb63 : y0.bookings.length ≤ 9223372036854775807 := by have := hS.vecCap 2 rfl; unfold maxLen at this; omega
 obtain ⟨q53, hq52, hr⟩ := bindS hr
 refine W.cut (fun a w => ∃ (q64 : List FareBooking), ∃ (a65 : Option Addr), ∃ (c66 : Nat), ∃ (n68 : Nat), ∃ (cs69 : List Value), q64 = q53 ∧ Ev 4 RFareBooking s cs69 q64 ∧ q64.length = n68 ∧ Rep a 38 [(5, .slice a65 n68 c66)] ∧ St w s (vecC 80 4 a65 c66 n68 cs69 :: pt pb0 (.cells #[.int .i64 y0.rows, .int .i64 y0.across, .int .i64 y0.stops, .slice a_v0 y0.bookings.length c_v0, .slice a_v1 y0.cancelled.length c_v1] 148 (0, 0)) :: vecC 80 4 a_v0 c_v0 y0.bookings.length cs_v0 :: vecC 4 1 a_v1 c_v1 y0.cancelled.length cs_v1 :: R)) ?_ ?_
 ·refine W.block ?_
  refine W.loop (fun m a w => ∃ (rest56 : Nat) (k54 : Nat), ∃ (q64 : List FareBooking), ∃ (a65 : Option Addr), ∃ (c66 : Nat), ∃ (n68 : Nat), ∃ (cs69 : List Value), rest56 = m ∧ k54 + rest56 = y0.bookings.length ∧ FareCarof_v1.loop1 x1 y0 rest56 k54 q64 = some q53 ∧ Ev 4 RFareBooking s cs69 q64 ∧ q64.length = n68 ∧ Rep a 38 [(0, .pointer (some ⟨pb0, 0, none⟩)), (1, .int .i64 x1), (5, .slice a65 n68 c66), (11, .slice a_v0 y0.bookings.length c_v0), (12, .int .i64 ((y0.bookings.length : Nat) : Int)), (13, .int .i64 ((k54 : Nat) : Int))] ∧ St w s (vecC 80 4 a65 c66 n68 cs69 :: pt pb0 (.cells #[.int .i64 y0.rows, .int .i64 y0.across, .int .i64 y0.stops, .slice a_v0 y0.bookings.length c_v0, .slice a_v1 y0.cancelled.length c_v1] 148 (0, 0)) :: vecC 80 4 a_v0 c_v0 y0.bookings.length cs_v0 :: vecC 4 1 a_v1 c_v1 y0.cancelled.length cs_v1 :: R)) (m := y0.bookings.length) ⟨y0.bookings.length, 0, [], none, 0, 0, [], rfl, by omega, hq52, (Ev.nil), (rfl), hE.pick _ ⟨rfl, rfl, rfl, rfl, rfl, rfl, trivial⟩, hS⟩ ?_
  clear hE hS a w hq52; rintro m60 a w ⟨rest56, k54, q64, a65, c66, n68, cs69, rfl, hd57, hq52, h67, rfl, hE, hS⟩
  refine W.gen fun K71 hK71 => ?_
  rcases rest56 with _ | rest56
  ·skip
   refine W.seq (W.region ?_)
   refine vP hS hE (Gives.p hE rfl) rfl ?_; clear hE a; intro a hE
   refine WL.nil ?_
   refine W.seq ?_
   refine W.condF hE rfl (decide_eq_false (by omega)) ?_
   subst hK71
   refine W.exit rfl ?_
   exact ⟨q64, a65, c66, q64.length, cs69, Option.some.inj hq52, h67, rfl, hE.pick _ ⟨rfl, trivial⟩, hS⟩
  ·have hlt58 : k54 < y0.bookings.length := by omega
   rw [FareCarof_v1.loop1] at hq52
   refine W.seq (W.region ?_)
   refine vP hS hE (Gives.p hE rfl) rfl ?_; clear hE a; intro a hE
   refine WL.nil ?_
   refine W.seq ?_
   refine W.condT hE rfl (decide_eq_true (by omega)) ?_
   refine W.skip ?_
   refine W.seq ?_
   refine W.block ?_
   refine W.seq (W.region ?_)
   refine vP hS hE (Gives.p hE rfl) rfl ?_; clear hE a; intro a hE
   obtain ⟨x72, hx73, hq52⟩ := bindS hq52
   obtain ⟨hi74, hlt75, hy76⟩ := gx_some hx73
   obtain ⟨vs77, hl78, hR79, hd80, hget81⟩ := h_v0.at hy76
   obtain ⟨a82, c83, rfl, h84⟩ := hR79
   refine vP hS hE (Gives.idx hE ((((k54 : Nat) : Int)).toNat) rfl rfl sl85 hi74 (by omega) (hS.vecAok 2 rfl (by omega : (((k54 : Nat) : Int)).toNat < y0.bookings.length))) rfl ?_; clear hE a; intro a hE
   refine vP hS hE (Gives.loadA hE rfl (fun w h => St.vecSees h 2 rfl ((((k54 : Nat) : Int)).toNat * 4) _ hget81) ty80) rfl ?_; clear hE a; intro a hE
   refine WL.alloc hE hS (runs_plain rfl) zr80 rfl ?_; clear hE hS a w; intro b85 a w hE hS
   refine vP hS hE (Gives.p hE rfl) rfl ?_; clear hE a; intro a hE
   refine WL.storeI hE hS 0 rfl [.int .i64 x72.No, .int .i64 x72.From, .int .i64 x72.To, .slice a82 x72.Seats.length c83] (runs_plain rfl) rfl rfl rfl ty80 rfl rfl rfl rfl ?_; clear hE hS a w; intro a w hE hS
   refine WL.nil ?_
   refine W.seq ?_
   obtain ⟨q87, hq86, hq52⟩ := bindS hq52
   refine W.cut (fun a w => ∃ (q90 : Bool), q90 = q87 ∧ Rep a 38 [(0, .pointer (some ⟨pb0, 0, none⟩)), (1, .int .i64 x1), (5, .slice a65 q64.length c66), (7, .pointer (some ⟨b85, 0, none⟩)), (11, .slice a_v0 y0.bookings.length c_v0), (12, .int .i64 ((y0.bookings.length : Nat) : Int)), (13, .int .i64 ((k54 : Nat) : Int)), (31, .bool q90)] ∧ St w s (pt b85 (.cells #[.int .i64 x72.No, .int .i64 x72.From, .int .i64 x72.To, .slice a82 x72.Seats.length c83] 80 (0, 0)) :: vecC 80 4 a65 c66 q64.length cs69 :: pt pb0 (.cells #[.int .i64 y0.rows, .int .i64 y0.across, .int .i64 y0.stops, .slice a_v0 y0.bookings.length c_v0, .slice a_v1 y0.cancelled.length c_v1] 148 (0, 0)) :: vecC 80 4 a_v0 c_v0 y0.bookings.length cs_v0 :: vecC 4 1 a_v1 c_v1 y0.cancelled.length cs_v1 :: R)) ?_ ?_
   ·refine W.gen fun K91 hK91 => ?_
    refine W.region ?_
    refine vP hS hE (Gives.p hE rfl) rfl ?_; clear hE a; intro a hE
    refine vP hS hE (Gives.nilOk hE rfl) rfl ?_; clear hE a; intro a hE
    refine vP hS hE (Gives.fld hE rfl fl148_4) rfl ?_; clear hE a; intro a hE
    refine vP hS hE (Gives.loadB hE 2 rfl rfl rfl ty146) rfl ?_; clear hE a; intro a hE
    refine vP hS hE (Gives.p hE rfl) rfl ?_; clear hE a; intro a hE
    obtain ⟨x92, hx93, hq86⟩ := bindS hq86
    obtain ⟨hi94, hlt95, hy96⟩ := gx_some hx93
    obtain ⟨vs97, hl98, hR99, hd100, hget101⟩ := h_v1.at hy96
    subst hR99
    refine vP hS hE (Gives.idx hE ((((k54 : Nat) : Int)).toNat) rfl rfl sl146 hi94 (by omega) (hS.vecAok 4 rfl (by omega : (((k54 : Nat) : Int)).toNat < y0.cancelled.length))) rfl ?_; clear hE a; intro a hE
    refine vP hS hE (Gives.load1 hE rfl (fun w h => St.vecSees h 4 rfl ((((k54 : Nat) : Int)).toNat * 1) _ hget101) ty4) rfl ?_; clear hE a; intro a hE
    refine vP hS hE (Gives.p hE rfl) rfl ?_; clear hE a; intro a hE
    refine vP hS hE (Gives.p hE rfl) rfl ?_; clear hE a; intro a hE
    rcases Bool.eq_false_or_eq_true !x92 with hg102 | hg102
    ·replace hq86 := iteT hg102 hq86
     refine WL.vS hS hE (runs_if hE rfl rfl rfl hg102) (Gives.fld hE rfl fl80_3) rfl ?_; clear hE a; intro a hE
     refine WL.vS hS hE (runs_if hE rfl rfl rfl hg102) (Gives.loadB hE 0 rfl rfl rfl ty45) rfl ?_; clear hE a; intro a hE
     refine WL.vS hS hE (runs_if hE rfl rfl rfl hg102) (Gives.p hE rfl) rfl ?_; clear hE a; intro a hE
     refine WL.fnq hE (SlicesContainsLint_ok hS h84 rfl (r := SlicesContainsLint x72.Seats x1)) (runs_if hE rfl rfl rfl hg102) bd39 rfl rfl rfl ?_
     clear hE hS; rintro e w ⟨rfl, hS⟩; refine ⟨_, rfl, ?_⟩; clear a; intro a hE
     refine vP hS hE (Gives.pickT hE rfl hg102 rfl) rfl ?_; clear hE a; intro a hE
     refine WL.nil ?_
     subst hK91
     exact ⟨(SlicesContainsLint x72.Seats x1), Option.some.inj hq86, hE.pick _ ⟨rfl, rfl, rfl, rfl, rfl, rfl, rfl, rfl, trivial⟩, hS⟩
    ·replace hq86 := iteF hg102 hq86
     refine WL.no hE (runs_not hE rfl rfl rfl (by rw [hg102]; decide)) rfl ?_; clear hE a; intro a hE
     refine WL.no hE (runs_not hE rfl rfl rfl (by rw [hg102]; decide)) rfl ?_; clear hE a; intro a hE
     refine WL.no hE (runs_not hE rfl rfl rfl (by rw [hg102]; decide)) rfl ?_; clear hE a; intro a hE
     refine WL.no hE (runs_not hE rfl rfl rfl (by rw [hg102]; decide)) rfl ?_; clear hE a; intro a hE
     refine vP hS hE (Gives.pickF hE rfl hg102 rfl) rfl ?_; clear hE a; intro a hE
     refine WL.nil ?_
     subst hK91
     exact ⟨false, Option.some.inj hq86, hE.pick _ ⟨rfl, rfl, rfl, rfl, rfl, rfl, rfl, rfl, trivial⟩, hS⟩
   ·clear hE hS a w; rintro a w ⟨q90, rfl, hE, hS⟩
    obtain ⟨q104, hq103, hq52⟩ := bindS hq52
    refine W.cut (fun a w => ∃ (q107 : List FareBooking), ∃ (a108 : Option Addr), ∃ (c109 : Nat), ∃ (n111 : Nat), ∃ (cs112 : List Value), q107 = q104 ∧ Ev 4 RFareBooking s cs112 q107 ∧ q107.length = n111 ∧ Rep a 38 [(0, .pointer (some ⟨pb0, 0, none⟩)), (1, .int .i64 x1), (5, .slice a108 n111 c109), (11, .slice a_v0 y0.bookings.length c_v0), (12, .int .i64 ((y0.bookings.length : Nat) : Int)), (13, .int .i64 ((k54 : Nat) : Int))] ∧ St w s (pt b85 (.cells #[.int .i64 x72.No, .int .i64 x72.From, .int .i64 x72.To, .slice a82 x72.Seats.length c83] 80 (0, 0)) :: vecC 80 4 a108 c109 n111 cs112 :: pt pb0 (.cells #[.int .i64 y0.rows, .int .i64 y0.across, .int .i64 y0.stops, .slice a_v0 y0.bookings.length c_v0, .slice a_v1 y0.cancelled.length c_v1] 148 (0, 0)) :: vecC 80 4 a_v0 c_v0 y0.bookings.length cs_v0 :: vecC 4 1 a_v1 c_v1 y0.cancelled.length cs_v1 :: R)) ?_ ?_
    ·refine W.gen fun K114 hK114 => ?_
     refine W.cond hE rfl (fun hc115 => ?_) (fun hc115 => ?_)
     ·replace hq103 := iteT hc115 hq103
      refine W.region ?_
      refine vP hS hE (Gives.p hE rfl) rfl ?_; clear hE a; intro a hE
      refine vP hS hE (Gives.loadBA hE 0 rfl rfl ty80) rfl ?_; clear hE a; intro a hE
      refine WL.lit hE hS (e := 80) (es := 4) (vs := [(0, .agg (List.toArray [.int .i64 x72.No, .int .i64 x72.From, .int .i64 x72.To, .slice a82 x72.Seats.length c83]))]) (cs := [.int .i64 x72.No, .int .i64 x72.From, .int .i64 x72.To, .slice a82 x72.Seats.length c83]) (runs_plain rfl) rfl (by kernel_rfl) rfl ?_; clear hE hS a w; intro b116 a w hE hS
      obtain ⟨x117, hx118, hq103⟩ := bindS hq103
      refine WL.appD hE hS 1 (m := 1) (runs_plain rfl) rfl rfl rfl ap85 rfl h67 rfl (xs := [x72]) (Ev.cons (c1 := [.int .i64 x72.No, .int .i64 x72.From, .int .i64 x72.To, .slice a82 x72.Seats.length c83]) ⟨_, _, rfl, h84⟩ rfl (Ev.nil)) rfl rfl hx118 rfl ?_; clear hE hS a w; intro a119 c120 cs121 a w h122 hE hS
      refine vP hS hE (Gives.p hE rfl) rfl ?_; clear hE a; intro a hE
      refine WL.nil ?_
      subst hK114
      exact ⟨x117, a119, c120, x117.length, cs121, Option.some.inj hq103, h122, (rfl), hE.pick _ ⟨rfl, rfl, rfl, rfl, rfl, rfl, trivial⟩, hS⟩
     ·replace hq103 := iteF hc115 hq103
      refine W.skip ?_
      subst hK114
      exact ⟨q64, a65, c66, q64.length, cs69, Option.some.inj hq103, h67, rfl, hE.pick _ ⟨rfl, rfl, rfl, rfl, rfl, rfl, trivial⟩, hS⟩
    ·clear hE hS a w; rintro a w ⟨q107, a108, c109, n111, cs112, rfl, h110, rfl, hE, hS⟩
     refine W.region ?_
     refine vP hS hE (Gives.inc hE rfl (by omega)) rfl ?_; clear hE a; intro a hE
     refine vP hS hE (Gives.p hE rfl) rfl ?_; clear hE a; intro a hE
     refine WL.nil ?_
     replace hS := hS.tail
     subst hK71
     exact ⟨rest56, Nat.lt_succ_self _, rest56, k54 + 1, q107, a108, c109, q107.length, cs112, rfl, (by omega), hq52, h110, rfl, hE.pick _ ⟨rfl, rfl, rfl, rfl, rfl, rfl, trivial⟩, hS⟩
 ·clear hE hS a w; rintro a w ⟨q64, a65, c66, n68, cs69, rfl, h67, rfl, hE, hS⟩
  refine W.seq (W.region ?_)
  refine vP hS hE (Gives.p hE rfl) rfl ?_; clear hE a; intro a hE
  refine vP hS hE (Gives.p hE rfl) rfl ?_; clear hE a; intro a hE
  refine WL.nil ?_
  refine W.ret ?_
  refine finG (fn := Tryd.f121) (rs := [.tmp 4]) (vs := [_]) hE rfl ⟨rfl, trivial⟩ ?_
  obtain rfl := Option.some.inj hr
  exact ⟨a65, c66, q64.length, cs69, rfl, h67, rfl, hS⟩
set_option maxHeartbeats 8000000 in
theorem FareCarfree_1_v1_ok  {w : World} {s : Sg} {R : List HP} {pb0 : Nat} {pb1 : Nat} {x0 : FareBooking} {a0_0 : Option Addr} {c0_0 : Nat} {y0 : Int} {y1 : Int} (hS : St w s (pt pb0 (.cells #[.int .i64 y0] 3 (0, 0)) :: pt pb1 (.cells #[.int .i64 y1] 3 (0, 0)) :: R)) (_h0_0 : Sl 1 (RI .i64) s a0_0 c0_0 x0.Seats) {r : Bool} (hr : FareCarfree_1_v1 x0 y0 y1 = r) :
  Calls Tryd.prog 122 [.agg (List.toArray [.int .i64 x0.No, .int .i64 x0.From, .int .i64 x0.To, .slice a0_0 x0.Seats.length c0_0]), .pointer (some ⟨pb0, 0, none⟩), .pointer (some ⟨pb1, 0, none⟩)].toArray w (fun e w => e = .returned (.bool r) ∧ St w s (pt pb0 (.cells #[.int .i64 y0] 3 (0, 0)) :: pt pb1 (.cells #[.int .i64 y1] 3 (0, 0)) :: R)) := by
 refine enter Tryd.func122 rfl rfl rfl fun a hE => ?_
 rw [FareCarfree_1_v1] at hr
 refine W.seq (W.region ?_)
 refine WL.box hE hS (runs_plain rfl) rfl rfl rfl ?_; clear hE hS a w; intro b51 a w hE hS
 refine vP hS hE (Gives.p hE rfl) rfl ?_; clear hE a; intro a hE
 refine WL.nil ?_
 refine W.seq ?_
 obtain ⟨q53, hq52, hr⟩ := bndS hr
 refine W.cut (fun a w => ∃ (q56 : Bool), q56 = q53 ∧ Rep a 15 [(4, .bool q56)] ∧ St w s (pt b51 (.cells #[.int .i64 x0.No, .int .i64 x0.From, .int .i64 x0.To, .slice a0_0 x0.Seats.length c0_0] 80 (0, 0)) :: pt pb0 (.cells #[.int .i64 y0] 3 (0, 0)) :: pt pb1 (.cells #[.int .i64 y1] 3 (0, 0)) :: R)) ?_ ?_
 ·refine W.gen fun K57 hK57 => ?_
  refine W.region ?_
  refine vP hS hE (Gives.fld hE rfl fl80_1) rfl ?_; clear hE a; intro a hE
  refine vP hS hE (Gives.loadB hE 0 rfl rfl rfl ty3) rfl ?_; clear hE a; intro a hE
  refine vP hS hE (Gives.loadB hE 1 rfl rfl rfl ty3) rfl ?_; clear hE a; intro a hE
  refine vP hS hE (Gives.p hE rfl) rfl ?_; clear hE a; intro a hE
  refine vP hS hE (Gives.p hE rfl) rfl ?_; clear hE a; intro a hE
  rcases Bool.eq_false_or_eq_true (decide (x0.From < y0)) with hg58 | hg58
  ·replace hq52 := iteT hg58 hq52
   refine WL.vS hS hE (runs_if hE rfl rfl rfl hg58) (Gives.fld hE rfl fl80_2) rfl ?_; clear hE a; intro a hE
   refine WL.vS hS hE (runs_if hE rfl rfl rfl hg58) (Gives.loadB hE 0 rfl rfl rfl ty3) rfl ?_; clear hE a; intro a hE
   refine WL.vS hS hE (runs_if hE rfl rfl rfl hg58) (Gives.loadB hE 2 rfl rfl rfl ty3) rfl ?_; clear hE a; intro a hE
   refine WL.vS hS hE (runs_if hE rfl rfl rfl hg58) (Gives.p hE rfl) rfl ?_; clear hE a; intro a hE
   refine vP hS hE (Gives.pickT hE rfl hg58 rfl) rfl ?_; clear hE a; intro a hE
   refine vP hS hE (Gives.p hE rfl) rfl ?_; clear hE a; intro a hE
   refine WL.nil ?_
   subst hK57
   exact ⟨decide (x0.To > y1), hq52, hE.pick _ ⟨rfl, trivial⟩, hS⟩
  ·replace hq52 := iteF hg58 hq52
   refine WL.no hE (runs_not hE rfl rfl rfl (by rw [hg58]; decide)) rfl ?_; clear hE a; intro a hE
   refine WL.no hE (runs_not hE rfl rfl rfl (by rw [hg58]; decide)) rfl ?_; clear hE a; intro a hE
   refine WL.no hE (runs_not hE rfl rfl rfl (by rw [hg58]; decide)) rfl ?_; clear hE a; intro a hE
   refine WL.no hE (runs_not hE rfl rfl rfl (by rw [hg58]; decide)) rfl ?_; clear hE a; intro a hE
   refine vP hS hE (Gives.pickF hE rfl hg58 rfl) rfl ?_; clear hE a; intro a hE
   refine vP hS hE (Gives.p hE rfl) rfl ?_; clear hE a; intro a hE
   refine WL.nil ?_
   subst hK57
   exact ⟨false, hq52, hE.pick _ ⟨rfl, trivial⟩, hS⟩
 ·clear hE hS a w; rintro a w ⟨q56, rfl, hE, hS⟩
  refine W.ret ?_
  refine finG (fn := Tryd.f122) (rs := [.tmp 4]) (vs := [_]) hE rfl ⟨rfl, trivial⟩ ?_
  subst hr
  replace hS := hS.tail
  exact ⟨rfl, hS⟩
set_option maxHeartbeats 8000000 in
theorem SlicesIndexFuncLfareBooking_v1_ok  {w : World} {s : Sg} {R : List HP} {pb0 : Nat} {pb1 : Nat} {x0 : List FareBooking} {a0 : Option Addr} {c0 : Nat} {y0 : Int} {y1 : Int} (hS : St w s (pt pb0 (.cells #[.int .i64 y0] 3 (0, 0)) :: pt pb1 (.cells #[.int .i64 y1] 3 (0, 0)) :: R)) (h0 : Sl 4 RFareBooking s a0 c0 x0) {r : Int} (hr : SlicesIndexFuncLfareBooking_v1 x0 y0 y1 = r) :
  Calls Tryd.prog 151 [.slice a0 x0.length c0, .func (.func 122) #[] #[.pointer (some ⟨pb0, 0, none⟩), .pointer (some ⟨pb1, 0, none⟩)]].toArray w (fun e w => e = .returned (.int .i64 r) ∧ St w s (pt pb0 (.cells #[.int .i64 y0] 3 (0, 0)) :: pt pb1 (.cells #[.int .i64 y1] 3 (0, 0)) :: R)) := by
 refine enter Tryd.func151 rfl rfl rfl fun a hE => ?_
 rw [SlicesIndexFuncLfareBooking_v1] at hr
 refine W.seq (W.region ?_)
 refine vP hS hE (Gives.p hE rfl) rfl ?_; clear hE a; intro a hE
 refine WL.nil ?_
 refine W.seq ?_
 refine W.seq (W.region ?_)
 refine vP hS hE (Gives.p hE rfl) rfl ?_; clear hE a; intro a hE
 refine vP hS hE (Gives.len hE rfl sl85) rfl ?_; clear hE a; intro a hE
 refine vP hS hE (Gives.p hE rfl) rfl ?_; clear hE a; intro a hE
 refine WL.nil ?_
 obtain ⟨q52, hq51, hr⟩ := bndS hr
 refine W.cut (fun a w => (.next ()) = q52 ∧ Rep a 19 [] ∧ St w s (pt pb0 (.cells #[.int .i64 y0] 3 (0, 0)) :: pt pb1 (.cells #[.int .i64 y1] 3 (0, 0)) :: R)) ?_ ?_
 ·refine W.block ?_
  refine W.loop (fun m a w => ∃ (rest55 : List FareBooking) (k53 : Nat), rest55.length = m ∧ x0.drop k53 = rest55 ∧ SlicesIndexFuncLfareBooking_v1.loop1 y0 y1 rest55 k53 = q52 ∧ Rep a 19 [(0, .slice a0 x0.length c0), (1, .func (.func 122) #[] #[.pointer (some ⟨pb0, 0, none⟩), .pointer (some ⟨pb1, 0, none⟩)]), (7, .int .i64 ((x0).length : Int)), (8, .int .i64 ((k53 : Nat) : Int))] ∧ St w s (pt pb0 (.cells #[.int .i64 y0] 3 (0, 0)) :: pt pb1 (.cells #[.int .i64 y1] 3 (0, 0)) :: R)) (m := x0.length) ⟨x0, 0, rfl, rfl, hq51, hE.pick _ ⟨rfl, rfl, rfl, rfl, trivial⟩, hS⟩ ?_
  clear hE hS a w hq51; rintro m59 a w ⟨rest55, k53, rfl, hd56, hq51, hE, hS⟩
  refine W.gen fun K62 hK62 => ?_
  rcases rest55 with _ | ⟨x54, rest55⟩
  ·have hlt57 := drop_nil hd56
   refine W.seq (W.region ?_)
   refine vP hS hE (Gives.p hE rfl) rfl ?_; clear hE a; intro a hE
   refine WL.nil ?_
   refine W.seq ?_
   refine W.condF hE rfl (decide_eq_false (by omega)) ?_
   subst hK62
   refine W.exit rfl ?_
   exact ⟨hq51, hE.pick _ trivial, hS⟩
  ·obtain ⟨hlt57, hx58, hd56⟩ := drop_cons hd56
   rw [SlicesIndexFuncLfareBooking_v1.loop1] at hq51
   refine W.seq (W.region ?_)
   refine vP hS hE (Gives.p hE rfl) rfl ?_; clear hE a; intro a hE
   refine WL.nil ?_
   refine W.seq ?_
   refine W.condT hE rfl (decide_eq_true (by omega)) ?_
   refine W.skip ?_
   refine W.seq ?_
   refine W.block ?_
   refine W.seq (W.region ?_)
   refine vP hS hE (Gives.p hE rfl) rfl ?_; clear hE a; intro a hE
   refine vP hS hE (Gives.p hE rfl) rfl ?_; clear hE a; intro a hE
   refine WL.nil ?_
   refine W.seq (W.region ?_)
   refine vP hS hE (Gives.p hE rfl) rfl ?_; clear hE a; intro a hE
   refine vP hS hE (Gives.p hE rfl) rfl ?_; clear hE a; intro a hE
   refine vP hS hE (Gives.p hE rfl) rfl ?_; clear hE a; intro a hE
   obtain ⟨cs63, hl64, hR65, hat66⟩ := h0.at hx58
   obtain ⟨a67, c68, rfl, h69⟩ := hR65
   refine vP hS hE (Gives.idx hE k53 rfl rfl sl85 rfl hlt57 (h0.aok hlt57)) rfl ?_; clear hE a; intro a hE
   refine vP hS hE (Gives.loadA hE rfl (fun w h => hat66 w _ h) ty80) rfl ?_; clear hE a; intro a hE
   refine WL.fnw hE (FareCarfree_1_v1_ok hS h69 rfl (r := FareCarfree_1_v1 x54 y0 y1)) rfl (runs_plain rfl) bd122 rfl rfl rfl ?_
   clear hE hS; rintro e w ⟨rfl, hS⟩; refine ⟨_, rfl, ?_⟩; clear a; intro a hE
   refine WL.nil ?_
   refine W.cond hE rfl (fun hc70 => ?_) (fun hc70 => ?_)
   ·replace hq51 := iteT hc70 hq51
    refine W.seq (W.region ?_)
    refine vP hS hE (Gives.p hE rfl) rfl ?_; clear hE a; intro a hE
    refine vP hS hE (Gives.p hE rfl) rfl ?_; clear hE a; intro a hE
    refine WL.nil ?_
    refine W.ret ?_
    subst hK62
    rw [← hq51] at hr
    dsimp only at hr
    refine finG (fn := Tryd.f151) (rs := [.tmp 4]) (vs := [_]) hE rfl ⟨rfl, trivial⟩ ?_
    subst hr
    exact ⟨rfl, hS⟩
   ·replace hq51 := iteF hc70 hq51
    refine W.skip ?_
    refine W.region ?_
    refine vP hS hE (Gives.inc hE rfl (by have := h0.small; omega)) rfl ?_; clear hE a; intro a hE
    refine vP hS hE (Gives.p hE rfl) rfl ?_; clear hE a; intro a hE
    refine WL.nil ?_
    subst hK62
    exact ⟨rest55.length, Nat.lt_succ_self _, rest55, k53 + 1, rfl, hd56, hq51, hE.pick _ ⟨rfl, rfl, rfl, rfl, trivial⟩, hS⟩
 ·clear hE hS a w; rintro a w ⟨rfl, hE, hS⟩
  dsimp only at hr
  refine W.seq (W.region ?_)
  refine vP hS hE (Gives.p hE rfl) rfl ?_; clear hE a; intro a hE
  refine WL.nil ?_
  refine W.ret ?_
  refine finG (fn := Tryd.f151) (rs := [.tmp 4]) (vs := [_]) hE rfl ⟨rfl, trivial⟩ ?_
  subst hr
  exact ⟨rfl, hS⟩
set_option maxHeartbeats 8000000 in
theorem SlicesContainsFuncLfareBooking_v1_ok  {w : World} {s : Sg} {R : List HP} {pb0 : Nat} {pb1 : Nat} {x0 : List FareBooking} {a0 : Option Addr} {c0 : Nat} {y0 : Int} {y1 : Int} (hS : St w s (pt pb0 (.cells #[.int .i64 y0] 3 (0, 0)) :: pt pb1 (.cells #[.int .i64 y1] 3 (0, 0)) :: R)) (h0 : Sl 4 RFareBooking s a0 c0 x0) {r : Bool} (hr : SlicesContainsFuncLfareBooking_v1 x0 y0 y1 = r) :
  Calls Tryd.prog 120 [.slice a0 x0.length c0, .func (.func 122) #[] #[.pointer (some ⟨pb0, 0, none⟩), .pointer (some ⟨pb1, 0, none⟩)]].toArray w (fun e w => e = .returned (.bool r) ∧ St w s (pt pb0 (.cells #[.int .i64 y0] 3 (0, 0)) :: pt pb1 (.cells #[.int .i64 y1] 3 (0, 0)) :: R)) := by
 refine enter Tryd.func120 rfl rfl rfl fun a hE => ?_
 rw [SlicesContainsFuncLfareBooking_v1] at hr
 refine W.seq (W.region ?_)
 refine vP hS hE (Gives.p hE rfl) rfl ?_; clear hE a; intro a hE
 refine WL.nil ?_
 refine W.seq (W.region ?_)
 refine vP hS hE (Gives.p hE rfl) rfl ?_; clear hE a; intro a hE
 refine vP hS hE (Gives.p hE rfl) rfl ?_; clear hE a; intro a hE
 refine WL.fnq hE (SlicesIndexFuncLfareBooking_v1_ok hS h0 rfl (r := SlicesIndexFuncLfareBooking_v1 x0 y0 y1)) (runs_plain rfl) bd151 rfl rfl rfl ?_
 clear hE hS; rintro e w ⟨rfl, hS⟩; refine ⟨_, rfl, ?_⟩; clear a; intro a hE
 refine vP hS hE (Gives.p hE rfl) rfl ?_; clear hE a; intro a hE
 refine vP hS hE (Gives.p hE rfl) rfl ?_; clear hE a; intro a hE
 refine WL.nil ?_
 refine W.ret ?_
 refine finG (fn := Tryd.f120) (rs := [.tmp 4]) (vs := [_]) hE rfl ⟨rfl, trivial⟩ ?_
 subst hr
 exact ⟨rfl, hS⟩
set_option maxHeartbeats 8000000 in
theorem FareCarfree_v1_ok {fu : Nat}  {w : World} {s : Sg} {R : List HP} {pb0 : Nat} {x1 : Int} {x2 : Int} {y0 : FareCar} {a_v0 : Option Addr} {c_v0 n_v0 : Nat} {cs_v0 : List Value} {a_v1 : Option Addr} {c_v1 n_v1 : Nat} {cs_v1 : List Value} (hS : St w s (pt pb0 (.cells #[.int .i64 y0.rows, .int .i64 y0.across, .int .i64 y0.stops, .slice a_v0 n_v0 c_v0, .slice a_v1 n_v1 c_v1] 148 (0, 0)) :: vecC 80 4 a_v0 c_v0 n_v0 cs_v0 :: vecC 4 1 a_v1 c_v1 n_v1 cs_v1 :: R)) (h_v0 : Ev 4 RFareBooking s cs_v0 y0.bookings) (hn_v0 : y0.bookings.length = n_v0) (h_v1 : Ev 1 RB s cs_v1 y0.cancelled) (hn_v1 : y0.cancelled.length = n_v1) {r : (List Int)} (hr : FareCarfree_v1 fu x1 x2 y0 = some r) :
  Calls Tryd.prog 91 [.pointer (some ⟨pb0, 0, none⟩), .int .i64 x1, .int .i64 x2].toArray w (fun e w => ∃ (a0 : Option Addr) (c0 n0 : Nat) (cs0 : List Value), e = .returned (.slice a0 n0 c0) ∧ Ev 1 (RI .i64) s cs0 r ∧ r.length = n0 ∧ St w s (vecC 3 1 a0 c0 n0 cs0 :: pt pb0 (.cells #[.int .i64 y0.rows, .int .i64 y0.across, .int .i64 y0.stops, .slice a_v0 n_v0 c_v0, .slice a_v1 n_v1 c_v1] 148 (0, 0)) :: vecC 80 4 a_v0 c_v0 n_v0 cs_v0 :: vecC 4 1 a_v1 c_v1 n_v1 cs_v1 :: R)) := by
 refine enter Tryd.func91 rfl rfl rfl fun a hE => ?_
 rw [FareCarfree_v1] at hr
 subst hn_v0
 subst hn_v1
 refine W.seq (W.region ?_)
 refine WL.box hE hS (runs_plain rfl) rfl rfl rfl ?_; clear hE hS a w; intro b51 a w hE hS
 refine WL.box hE hS (runs_plain rfl) rfl rfl rfl ?_; clear hE hS a w; intro b52 a w hE hS
 refine vP hS hE (Gives.p hE rfl) rfl ?_; clear hE a; intro a hE
 refine WL.nil ?_
 refine W.seq (W.region ?_)
 replace hS := hS.vecNil 3 1
 refine vP hS hE (Gives.p hE rfl) rfl ?_; clear hE a; intro a hE
 refine WL.nil ?_
 refine W.seq ?_
 refine W.seq ?_
 refine W.regionQ (C := fun w => St w s (vecC 3 1 none 0 0 [] :: pt b52 (.cells #[.int .i64 x2] 3 (0, 0)) :: pt b51 (.cells #[.int .i64 x1] 3 (0, 0)) :: pt pb0 (.cells #[.int .i64 y0.rows, .int .i64 y0.across, .int .i64 y0.stops, .slice a_v0 y0.bookings.length c_v0, .slice a_v1 y0.cancelled.length c_v1] 148 (0, 0)) :: vecC 80 4 a_v0 c_v0 y0.bookings.length cs_v0 :: vecC 4 1 a_v1 c_v1 y0.cancelled.length cs_v1 :: R)) mixed (by kernel_rfl) hS.drew ?_
 refine qP hE (Gives.p hE rfl) rfl ?_; clear hE a; intro a hE
 refine qP hE (Gives.nilOk hE rfl) rfl ?_; clear hE a; intro a hE
 refine qP hE (Gives.fld hE rfl fl148_0) rfl ?_; clear hE a; intro a hE
 refine qP hE (Gives.loadB hE 3 rfl rfl rfl ty3) rfl ?_; clear hE a; intro a hE
 refine qP hE (Gives.p hE rfl) rfl ?_; clear hE a; intro a hE
 refine qP hE (Gives.nilOk hE rfl) rfl ?_; clear hE a; intro a hE
 refine qP hE (Gives.fld hE rfl fl148_1) rfl ?_; clear hE a; intro a hE
 refine qP hE (Gives.loadB hE 3 rfl rfl rfl ty3) rfl ?_; clear hE a; intro a hE
 refine qP hE (Gives.p hE rfl) rfl ?_; clear hE a; intro a hE
 refine qP hE (Gives.p hE rfl) rfl ?_; clear hE a; intro a hE
 refine QL.nil ?_; clear hS w; intro w hS
 obtain ⟨q66, hq65, hr⟩ := bindS hr
 refine W.cut (fun a w => ∃ (q71 : List Int), ∃ (q78 : Int), ∃ (a72 : Option Addr), ∃ (c73 : Nat), ∃ (n75 : Nat), ∃ (cs76 : List Value), (q71, q78) = q66 ∧ Ev 1 (RI .i64) s cs76 q71 ∧ q71.length = n75 ∧ Rep a 33 [(7, .slice a72 n75 c73)] ∧ St w s (vecC 3 1 a72 c73 n75 cs76 :: pt b52 (.cells #[.int .i64 x2] 3 (0, 0)) :: pt b51 (.cells #[.int .i64 x1] 3 (0, 0)) :: pt pb0 (.cells #[.int .i64 y0.rows, .int .i64 y0.across, .int .i64 y0.stops, .slice a_v0 y0.bookings.length c_v0, .slice a_v1 y0.cancelled.length c_v1] 148 (0, 0)) :: vecC 80 4 a_v0 c_v0 y0.bookings.length cs_v0 :: vecC 4 1 a_v1 c_v1 y0.cancelled.length cs_v1 :: R)) ?_ ?_
 ·refine W.block ?_
  refine W.loop (fun m a w => ∃ (n67 : Nat), ∃ (q71 : List Int), ∃ (q78 : Int), ∃ (a72 : Option Addr), ∃ (c73 : Nat), ∃ (n75 : Nat), ∃ (cs76 : List Value), n67 = m ∧ FareCarfree_v1.loop2 x1 x2 y0 n67 q71 q78 = some q66 ∧ Ev 1 (RI .i64) s cs76 q71 ∧ q71.length = n75 ∧ Rep a 33 [(0, .pointer (some ⟨pb0, 0, none⟩)), (4, .pointer (some ⟨b51, 0, none⟩)), (5, .pointer (some ⟨b52, 0, none⟩)), (7, .slice a72 n75 c73), (17, .int .i64 (w64 (y0.rows * y0.across))), (18, .int .i64 q78)] ∧ St w s (vecC 3 1 a72 c73 n75 cs76 :: pt b52 (.cells #[.int .i64 x2] 3 (0, 0)) :: pt b51 (.cells #[.int .i64 x1] 3 (0, 0)) :: pt pb0 (.cells #[.int .i64 y0.rows, .int .i64 y0.across, .int .i64 y0.stops, .slice a_v0 y0.bookings.length c_v0, .slice a_v1 y0.cancelled.length c_v1] 148 (0, 0)) :: vecC 80 4 a_v0 c_v0 y0.bookings.length cs_v0 :: vecC 4 1 a_v1 c_v1 y0.cancelled.length cs_v1 :: R)) (m := fu) ⟨fu, [], 0, none, 0, 0, [], rfl, hq65, (Ev.nil), (rfl), hE.pick _ ⟨rfl, rfl, rfl, rfl, rfl, rfl, trivial⟩, hS⟩ ?_
  clear hE hS a w hq65; rintro m68 a w ⟨n67, q71, q78, a72, c73, n75, cs76, rfl, hq65, h74, rfl, hE, hS⟩
  refine W.gen fun K79 hK79 => ?_
  rcases n67 with _ | n67
  ·rw [FareCarfree_v1.loop2] at hq65; exact absurd hq65 (by simp)
  rw [FareCarfree_v1.loop2] at hq65
  refine W.seq (W.region ?_)
  refine vP hS hE (Gives.p hE rfl) rfl ?_; clear hE a; intro a hE
  refine WL.nil ?_
  refine W.seq ?_
  refine W.cond hE rfl (fun hc80 => ?_) (fun hc80 => ?_)
  ·replace hq65 := iteT hc80 hq65
   refine W.skip ?_
   refine W.seq ?_
   refine W.block ?_
   refine W.seq (W.region ?_)
   refine vP hS hE (Gives.p hE rfl) rfl ?_; clear hE a; intro a hE
   refine vP hS hE (Gives.p hE rfl) rfl ?_; clear hE a; intro a hE
   refine WL.nil ?_
   refine W.seq (W.region ?_)
   refine vP hS hE (Gives.p hE rfl) rfl ?_; clear hE a; intro a hE
   refine vP hS hE (Gives.p hE rfl) rfl ?_; clear hE a; intro a hE
   obtain ⟨q81, hq82, hq65⟩ := bindS hq65
   replace hS := hS.front 5 rfl
   replace hS := hS.front 5 rfl
   replace hS := hS.front 5 rfl
   have hc_ := FareCarof_v1_ok (y0 := y0) hS h_v0 (rfl) h_v1 (rfl) hq82
   refine WL.fnq hE (hc_) (runs_plain rfl) bd121 rfl rfl rfl ?_
   clear hE hS hc_; rintro e w ⟨a83, c84, n85, cs86, rfl, h87, rfl, hS⟩; refine ⟨_, rfl, ?_⟩; clear a; intro a hE
   refine vP hS hE (Gives.mkfn hE (vs := [.pointer (some ⟨b52, 0, none⟩), .pointer (some ⟨b51, 0, none⟩)]) rfl) rfl ?_; clear hE a; intro a hE
   have hF := hS.lendV RFareBooking.mono 0 rfl h87 rfl; clear hS; obtain ⟨t89, hle90, hS, hs91, bk92⟩ := hF
   replace hS := hS.front 5 rfl
   replace hS := hS.front 5 rfl
   refine WL.fnq hE (SlicesContainsFuncLfareBooking_v1_ok hS hs91 rfl (r := SlicesContainsFuncLfareBooking_v1 q81 x2 x1)) (runs_plain rfl) bd120 rfl rfl rfl ?_
   clear hE hS; rintro e w ⟨rfl, hS⟩; refine ⟨_, rfl, ?_⟩; clear a; intro a hE
   replace hS := bk92 _ _ hS
   refine vP hS hE (Gives.p hE rfl) rfl ?_; clear hE a; intro a hE
   refine WL.nil ?_
   obtain ⟨q94, hq93, hq65⟩ := bindS hq65
   refine W.cut (fun a w => ∃ (q97 : List Int), ∃ (a98 : Option Addr), ∃ (c99 : Nat), ∃ (n101 : Nat), ∃ (cs102 : List Value), q97 = q94 ∧ Ev 1 (RI .i64) s cs102 q97 ∧ q97.length = n101 ∧ Rep a 33 [(0, .pointer (some ⟨pb0, 0, none⟩)), (4, .pointer (some ⟨b51, 0, none⟩)), (5, .pointer (some ⟨b52, 0, none⟩)), (7, .slice a98 n101 c99), (17, .int .i64 (w64 (y0.rows * y0.across))), (18, .int .i64 q78)] ∧ St w s (pt b52 (.cells #[.int .i64 x2] 3 (0, 0)) :: pt b51 (.cells #[.int .i64 x1] 3 (0, 0)) :: pt pb0 (.cells #[.int .i64 y0.rows, .int .i64 y0.across, .int .i64 y0.stops, .slice a_v0 y0.bookings.length c_v0, .slice a_v1 y0.cancelled.length c_v1] 148 (0, 0)) :: vecC 80 4 a_v0 c_v0 y0.bookings.length cs_v0 :: vecC 4 1 a_v1 c_v1 y0.cancelled.length cs_v1 :: vecC 3 1 a98 c99 n101 cs102 :: R)) ?_ ?_
   ·refine W.gen fun K104 hK104 => ?_
    refine W.cond hE rfl (fun hc105 => ?_) (fun hc105 => ?_)
    ·replace hq93 := iteT hc105 hq93
     refine W.region ?_
     refine vP hS hE (Gives.p hE rfl) rfl ?_; clear hE a; intro a hE
     refine vP hS hE (Gives.p hE rfl) rfl ?_; clear hE a; intro a hE
     refine WL.lit hE hS (e := 3) (es := 1) (vs := [(0, .int .i64 q78)]) (cs := [.int .i64 q78]) (runs_plain rfl) rfl (by kernel_rfl) rfl ?_; clear hE hS a w; intro b106 a w hE hS
     obtain ⟨x107, hx108, hq93⟩ := bindS hq93
     refine WL.appD hE hS 6 (m := 1) (runs_plain rfl) rfl rfl rfl ap45 rfl h74 rfl (xs := [q78]) (Ev.cons (c1 := [.int .i64 q78]) rfl rfl (Ev.nil)) rfl rfl hx108 rfl ?_; clear hE hS a w; intro a109 c110 cs111 a w h112 hE hS
     refine vP hS hE (Gives.p hE rfl) rfl ?_; clear hE a; intro a hE
     refine WL.nil ?_
     replace hS := hS.tail
     subst hK104
     exact ⟨x107, a109, c110, x107.length, cs111, Option.some.inj hq93, h112, (rfl), hE.pick _ ⟨rfl, rfl, rfl, rfl, rfl, rfl, trivial⟩, hS⟩
    ·replace hq93 := iteF hc105 hq93
     refine W.skip ?_
     replace hS := hS.tail
     subst hK104
     exact ⟨q71, a72, c73, q71.length, cs76, Option.some.inj hq93, h74, rfl, hE.pick _ ⟨rfl, rfl, rfl, rfl, rfl, rfl, trivial⟩, hS⟩
   ·clear hE hS a w; rintro a w ⟨q97, a98, c99, n101, cs102, rfl, h100, rfl, hE, hS⟩
    refine W.region ?_
    refine vP hS hE (Gives.p hE rfl) rfl ?_; clear hE a; intro a hE
    refine vP hS hE (Gives.p hE rfl) rfl ?_; clear hE a; intro a hE
    refine WL.nil ?_
    replace hS := hS.front 4 rfl
    replace hS := hS.front 4 rfl
    replace hS := hS.front 4 rfl
    replace hS := hS.front 4 rfl
    replace hS := hS.front 4 rfl
    replace hS := hS.front 5 rfl
    subst hK79
    exact ⟨n67, Nat.lt_succ_self _, n67, q97, (w64 (q78 + 1)), a98, c99, q97.length, cs102, rfl, hq65, h100, rfl, hE.pick _ ⟨rfl, rfl, rfl, rfl, rfl, rfl, trivial⟩, hS⟩
  ·replace hq65 := iteF hc80 hq65
   subst hK79
   refine W.exit rfl ?_
   exact ⟨q71, q78, a72, c73, q71.length, cs76, Option.some.inj hq65, h74, rfl, hE.pick _ ⟨rfl, trivial⟩, hS⟩
 ·clear hE hS a w; rintro a w ⟨q71, q78, a72, c73, n75, cs76, rfl, h74, rfl, hE, hS⟩
  dsimp only at hr
  refine W.seq (W.region ?_)
  refine vP hS hE (Gives.p hE rfl) rfl ?_; clear hE a; intro a hE
  refine vP hS hE (Gives.p hE rfl) rfl ?_; clear hE a; intro a hE
  refine WL.nil ?_
  refine W.ret ?_
  refine finG (fn := Tryd.f91) (rs := [.tmp 6]) (vs := [_]) hE rfl ⟨rfl, trivial⟩ ?_
  obtain rfl := Option.some.inj hr
  replace hS := hS.dropAt 1
  replace hS := hS.dropAt 1
  exact ⟨a72, c73, q71.length, cs76, rfl, h74, rfl, hS⟩
set_option maxHeartbeats 8000000 in
theorem SlicesCloneLint_ok  {w : World} {s : Sg} {R : List HP} {x0 : List Int} {a0 : Option Addr} {c0 : Nat} (hS : St w s (R)) (h0 : Sl 1 (RI .i64) s a0 c0 x0) {r : (List Int)} (hr : SlicesCloneLint x0 = some r) :
  Calls Tryd.prog 45 [.slice a0 x0.length c0].toArray w (fun e w => ∃ (a0 : Option Addr) (c0 n0 : Nat) (cs0 : List Value), e = .returned (.slice a0 n0 c0) ∧ Ev 1 (RI .i64) s cs0 r ∧ r.length = n0 ∧ St w s (vecC 3 1 a0 c0 n0 cs0 :: R)) := by
 refine enter Tryd.func45 rfl rfl rfl fun a hE => ?_
 rw [SlicesCloneLint] at hr
 refine W.seq (W.region ?_)
 refine vP hS hE (Gives.p hE rfl) rfl ?_; clear hE a; intro a hE
 refine WL.nil ?_
 refine W.seq ?_
 refine W.seq (W.region ?_)
 refine vP hS hE (Gives.p hE rfl) rfl ?_; clear hE a; intro a hE
 refine vP hS hE (Gives.isNil hE rfl rfl isl45) rfl ?_; clear hE a; intro a hE
 refine WL.nil ?_
 rcases a0 with _ | g51
 ·obtain rfl := h0.none_nil
  replace hr : some [] = _ := hr
  refine W.condT hE rfl rfl ?_
  refine W.seq (W.region ?_)
  refine vP hS hE (Gives.p hE rfl) rfl ?_; clear hE a; intro a hE
  refine WL.nil ?_
  refine W.ret ?_
  replace hS := hS.vecNil 3 1
  refine finG (fn := Tryd.f45) (rs := [.tmp 2]) (vs := [_]) hE rfl ⟨rfl, trivial⟩ ?_
  obtain rfl := Option.some.inj hr
  exact ⟨none, 0, 0, [], rfl, (Ev.nil), (rfl), hS⟩
 ·skip
  refine W.condF hE rfl rfl ?_
  refine W.skip ?_
  refine W.seq (W.region ?_)
  refine WL.lit hE hS (e := 3) (es := 1) (vs := []) (cs := []) (runs_plain rfl) rfl (by kernel_rfl) rfl ?_; clear hE hS a w; intro b53 a w hE hS
  replace hS := hS.ptVec (es := 1) (m := 0) rfl (by decide)
  have h55 : Ev 1 (RI .i64) s [] [] := (Ev.nil)
  refine vP hS hE (Gives.p hE rfl) rfl ?_; clear hE a; intro a hE
  obtain ⟨x56, hx57, hr⟩ := bindS hr
  refine WL.appS hE hS 0 (runs_plain rfl) rfl rfl (xs := x0) rfl rfl ap45 RI.one h55 (rfl) h0 hx57 rfl ?_; clear hE hS a w; intro a58 c59 cs60 a w h61 hE hS
  refine vP hS hE (Gives.p hE rfl) rfl ?_; clear hE a; intro a hE
  refine WL.nil ?_
  refine W.ret ?_
  refine finG (fn := Tryd.f45) (rs := [.tmp 2]) (vs := [_]) hE rfl ⟨rfl, trivial⟩ ?_
  obtain rfl := Option.some.inj hr
  exact ⟨a58, c59, x56.length, cs60, rfl, h61, (rfl), hS⟩
set_option maxHeartbeats 8000000 in
theorem FareCargap_v1_ok  {w : World} {s : Sg} {R : List HP} {pb0 : Nat} {x1 : Int} {x2 : Int} {x3 : Int} {y0 : FareCar} {a_v0 : Option Addr} {c_v0 n_v0 : Nat} {cs_v0 : List Value} {a_v1 : Option Addr} {c_v1 n_v1 : Nat} {cs_v1 : List Value} (hS : St w s (pt pb0 (.cells #[.int .i64 y0.rows, .int .i64 y0.across, .int .i64 y0.stops, .slice a_v0 n_v0 c_v0, .slice a_v1 n_v1 c_v1] 148 (0, 0)) :: vecC 80 4 a_v0 c_v0 n_v0 cs_v0 :: vecC 4 1 a_v1 c_v1 n_v1 cs_v1 :: R)) (h_v0 : Ev 4 RFareBooking s cs_v0 y0.bookings) (hn_v0 : y0.bookings.length = n_v0) (h_v1 : Ev 1 RB s cs_v1 y0.cancelled) (hn_v1 : y0.cancelled.length = n_v1) {r : Int} (hr : FareCargap_v1 x1 x2 x3 y0 = some r) :
  Calls Tryd.prog 125 [.pointer (some ⟨pb0, 0, none⟩), .int .i64 x1, .int .i64 x2, .int .i64 x3].toArray w (fun e w => e = .returned (.int .i64 r) ∧ St w s (pt pb0 (.cells #[.int .i64 y0.rows, .int .i64 y0.across, .int .i64 y0.stops, .slice a_v0 n_v0 c_v0, .slice a_v1 n_v1 c_v1] 148 (0, 0)) :: vecC 80 4 a_v0 c_v0 n_v0 cs_v0 :: vecC 4 1 a_v1 c_v1 n_v1 cs_v1 :: R)) := by
 refine enter Tryd.func125 rfl rfl rfl fun a hE => ?_
 rw [FareCargap_v1] at hr
 subst hn_v0
 subst hn_v1
 refine W.seq (W.region ?_)
 refine vP hS hE (Gives.p hE rfl) rfl ?_; clear hE a; intro a hE
 refine WL.nil ?_
 refine W.seq ?_
 refine W.regionQ (C := fun w => St w s (pt pb0 (.cells #[.int .i64 y0.rows, .int .i64 y0.across, .int .i64 y0.stops, .slice a_v0 y0.bookings.length c_v0, .slice a_v1 y0.cancelled.length c_v1] 148 (0, 0)) :: vecC 80 4 a_v0 c_v0 y0.bookings.length cs_v0 :: vecC 4 1 a_v1 c_v1 y0.cancelled.length cs_v1 :: R)) mixed (by kernel_rfl) hS.drew ?_
 refine qP hE (Gives.p hE rfl) rfl ?_; clear hE a; intro a hE
 refine qP hE (Gives.nilOk hE rfl) rfl ?_; clear hE a; intro a hE
 refine qP hE (Gives.fld hE rfl fl148_2) rfl ?_; clear hE a; intro a hE
 refine qP hE (Gives.loadB hE 0 rfl rfl rfl ty3) rfl ?_; clear hE a; intro a hE
 refine qP hE (Gives.p hE rfl) rfl ?_; clear hE a; intro a hE
 refine qP hE (Gives.p hE rfl) rfl ?_; clear hE a; intro a hE
 refine qP hE (Gives.p hE rfl) rfl ?_; clear hE a; intro a hE
 refine QL.nil ?_; clear hS w; intro w hS
 refine W.seq ?_
 refine W.seq (W.region ?_)
 refine vP hS hE (Gives.p hE rfl) rfl ?_; clear hE a; intro a hE
 refine vP hS hE (Gives.p hE rfl) rfl ?_; clear hE a; intro a hE
 obtain ⟨q51, hq52, hr⟩ := bindS hr
 have hc_ := FareCarof_v1_ok (y0 := y0) hS h_v0 (rfl) h_v1 (rfl) hq52
 refine WL.fnq hE (hc_) (runs_plain rfl) bd121 rfl rfl rfl ?_
 clear hE hS hc_; rintro e w ⟨a53, c54, n55, cs56, rfl, h57, rfl, hS⟩; refine ⟨_, rfl, ?_⟩; clear a; intro a hE
 refine vP hS hE (Gives.len hE rfl sl85) rfl ?_; clear hE a; intro a hE
 refine vP hS hE (Gives.p hE rfl) rfl ?_; clear hE a; intro a hE
 refine WL.nil ?_
 have hb70 : q51.length ≤ 9223372036854775807 := by have := hS.vecCap 0 rfl; unfold maxLen at this; omega
 obtain ⟨q60, hq59, hr⟩ := bindS hr
 refine W.cut (fun a w => ∃ (q71 : Int), ∃ (q72 : Int), (q71, q72) = q60 ∧ Rep a 46 [(9, .int .i64 q71), (10, .int .i64 q72)] ∧ St w s (vecC 80 4 a53 c54 q51.length cs56 :: pt pb0 (.cells #[.int .i64 y0.rows, .int .i64 y0.across, .int .i64 y0.stops, .slice a_v0 y0.bookings.length c_v0, .slice a_v1 y0.cancelled.length c_v1] 148 (0, 0)) :: vecC 80 4 a_v0 c_v0 y0.bookings.length cs_v0 :: vecC 4 1 a_v1 c_v1 y0.cancelled.length cs_v1 :: R)) ?_ ?_
 ·refine W.block ?_
  refine W.loop (fun m a w => ∃ (rest63 : Nat) (k61 : Nat), ∃ (q71 : Int), ∃ (q72 : Int), rest63 = m ∧ k61 + rest63 = q51.length ∧ FareCargap_v1.loop1 x2 x3 q51 rest63 k61 q71 q72 = some q60 ∧ Rep a 46 [(2, .int .i64 x2), (3, .int .i64 x3), (9, .int .i64 q71), (10, .int .i64 q72), (20, .slice a53 q51.length c54), (21, .int .i64 ((q51.length : Nat) : Int)), (22, .int .i64 ((k61 : Nat) : Int))] ∧ St w s (vecC 80 4 a53 c54 q51.length cs56 :: pt pb0 (.cells #[.int .i64 y0.rows, .int .i64 y0.across, .int .i64 y0.stops, .slice a_v0 y0.bookings.length c_v0, .slice a_v1 y0.cancelled.length c_v1] 148 (0, 0)) :: vecC 80 4 a_v0 c_v0 y0.bookings.length cs_v0 :: vecC 4 1 a_v1 c_v1 y0.cancelled.length cs_v1 :: R)) (m := q51.length) ⟨q51.length, 0, 0, (w64 (y0.stops - 1)), rfl, by omega, hq59, hE.pick _ ⟨rfl, rfl, rfl, rfl, rfl, rfl, rfl, trivial⟩, hS⟩ ?_
  clear hE hS a w hq59; rintro m67 a w ⟨rest63, k61, q71, q72, rfl, hd64, hq59, hE, hS⟩
  refine W.gen fun K73 hK73 => ?_
  rcases rest63 with _ | rest63
  ·skip
   refine W.seq (W.region ?_)
   refine vP hS hE (Gives.p hE rfl) rfl ?_; clear hE a; intro a hE
   refine WL.nil ?_
   refine W.seq ?_
   refine W.condF hE rfl (decide_eq_false (by omega)) ?_
   subst hK73
   refine W.exit rfl ?_
   exact ⟨q71, q72, Option.some.inj hq59, hE.pick _ ⟨rfl, rfl, trivial⟩, hS⟩
  ·have hlt65 : k61 < q51.length := by omega
   rw [FareCargap_v1.loop1] at hq59
   refine W.seq (W.region ?_)
   refine vP hS hE (Gives.p hE rfl) rfl ?_; clear hE a; intro a hE
   refine WL.nil ?_
   refine W.seq ?_
   refine W.condT hE rfl (decide_eq_true (by omega)) ?_
   refine W.skip ?_
   refine W.seq ?_
   refine W.block ?_
   refine W.seq (W.region ?_)
   obtain ⟨x74, hx75, hq59⟩ := bindS hq59
   obtain ⟨hi76, hlt77, hy78⟩ := gx_some hx75
   obtain ⟨vs79, hl80, hR81, hd82, hget83⟩ := h57.at hy78
   obtain ⟨a84, c85, rfl, h86⟩ := hR81
   refine vP hS hE (Gives.idx hE ((((k61 : Nat) : Int)).toNat) rfl rfl sl85 hi76 (by omega) (hS.vecAok 0 rfl (by omega : (((k61 : Nat) : Int)).toNat < q51.length))) rfl ?_; clear hE a; intro a hE
   refine vP hS hE (Gives.loadA hE rfl (fun w h => St.vecSees h 0 rfl ((((k61 : Nat) : Int)).toNat * 4) _ hget83) ty80) rfl ?_; clear hE a; intro a hE
   refine WL.alloc hE hS (runs_plain rfl) zr80 rfl ?_; clear hE hS a w; intro b87 a w hE hS
   refine WL.storeI hE hS 0 rfl [.int .i64 x74.No, .int .i64 x74.From, .int .i64 x74.To, .slice a84 x74.Seats.length c85] (runs_plain rfl) rfl rfl rfl ty80 rfl rfl rfl rfl ?_; clear hE hS a w; intro a w hE hS
   refine WL.nil ?_
   refine W.seq ?_
   refine W.seq (W.region ?_)
   refine vP hS hE (Gives.fld hE rfl fl80_2) rfl ?_; clear hE a; intro a hE
   refine vP hS hE (Gives.loadB hE 0 rfl rfl rfl ty3) rfl ?_; clear hE a; intro a hE
   refine vP hS hE (Gives.p hE rfl) rfl ?_; clear hE a; intro a hE
   refine vP hS hE (Gives.p hE rfl) rfl ?_; clear hE a; intro a hE
   refine WL.nil ?_
   obtain ⟨q89, hq88, hq59⟩ := bndS hq59
   refine W.cut (fun a w => ∃ (q92 : Int), q92 = q89 ∧ Rep a 46 [(2, .int .i64 x2), (3, .int .i64 x3), (9, .int .i64 q92), (10, .int .i64 q72), (12, .pointer (some ⟨b87, 0, none⟩)), (20, .slice a53 q51.length c54), (21, .int .i64 ((q51.length : Nat) : Int)), (22, .int .i64 ((k61 : Nat) : Int))] ∧ St w s (pt b87 (.cells #[.int .i64 x74.No, .int .i64 x74.From, .int .i64 x74.To, .slice a84 x74.Seats.length c85] 80 (0, 0)) :: vecC 80 4 a53 c54 q51.length cs56 :: pt pb0 (.cells #[.int .i64 y0.rows, .int .i64 y0.across, .int .i64 y0.stops, .slice a_v0 y0.bookings.length c_v0, .slice a_v1 y0.cancelled.length c_v1] 148 (0, 0)) :: vecC 80 4 a_v0 c_v0 y0.bookings.length cs_v0 :: vecC 4 1 a_v1 c_v1 y0.cancelled.length cs_v1 :: R)) ?_ ?_
   ·refine W.gen fun K93 hK93 => ?_
    refine W.cond hE rfl (fun hc94 => ?_) (fun hc94 => ?_)
    ·replace hq88 := iteT hc94 hq88
     refine W.region ?_
     refine vP hS hE (Gives.p hE rfl) rfl ?_; clear hE a; intro a hE
     refine vP hS hE (Gives.fld hE rfl fl80_2) rfl ?_; clear hE a; intro a hE
     refine vP hS hE (Gives.loadB hE 0 rfl rfl rfl ty3) rfl ?_; clear hE a; intro a hE
     refine vP hS hE (Gives.max2 hE rfl rfl) rfl ?_; clear hE a; intro a hE
     refine vP hS hE (Gives.p hE rfl) rfl ?_; clear hE a; intro a hE
     refine WL.nil ?_
     subst hK93
     exact ⟨mx q71 x74.To, hq88, hE.pick _ ⟨rfl, rfl, rfl, rfl, rfl, rfl, rfl, rfl, trivial⟩, hS⟩
    ·replace hq88 := iteF hc94 hq88
     refine W.skip ?_
     subst hK93
     exact ⟨q71, hq88, hE.pick _ ⟨rfl, rfl, rfl, rfl, rfl, rfl, rfl, rfl, trivial⟩, hS⟩
   ·clear hE hS a w; rintro a w ⟨q92, rfl, hE, hS⟩
    refine W.seq (W.region ?_)
    refine vP hS hE (Gives.fld hE rfl fl80_1) rfl ?_; clear hE a; intro a hE
    refine vP hS hE (Gives.loadB hE 0 rfl rfl rfl ty3) rfl ?_; clear hE a; intro a hE
    refine vP hS hE (Gives.p hE rfl) rfl ?_; clear hE a; intro a hE
    refine vP hS hE (Gives.p hE rfl) rfl ?_; clear hE a; intro a hE
    refine WL.nil ?_
    obtain ⟨q96, hq95, hq59⟩ := bndS hq59
    refine W.cut (fun a w => ∃ (q99 : Int), q99 = q96 ∧ Rep a 46 [(2, .int .i64 x2), (3, .int .i64 x3), (9, .int .i64 q92), (10, .int .i64 q99), (20, .slice a53 q51.length c54), (21, .int .i64 ((q51.length : Nat) : Int)), (22, .int .i64 ((k61 : Nat) : Int))] ∧ St w s (pt b87 (.cells #[.int .i64 x74.No, .int .i64 x74.From, .int .i64 x74.To, .slice a84 x74.Seats.length c85] 80 (0, 0)) :: vecC 80 4 a53 c54 q51.length cs56 :: pt pb0 (.cells #[.int .i64 y0.rows, .int .i64 y0.across, .int .i64 y0.stops, .slice a_v0 y0.bookings.length c_v0, .slice a_v1 y0.cancelled.length c_v1] 148 (0, 0)) :: vecC 80 4 a_v0 c_v0 y0.bookings.length cs_v0 :: vecC 4 1 a_v1 c_v1 y0.cancelled.length cs_v1 :: R)) ?_ ?_
    ·refine W.gen fun K100 hK100 => ?_
     refine W.cond hE rfl (fun hc101 => ?_) (fun hc101 => ?_)
     ·replace hq95 := iteT hc101 hq95
      refine W.region ?_
      refine vP hS hE (Gives.p hE rfl) rfl ?_; clear hE a; intro a hE
      refine vP hS hE (Gives.fld hE rfl fl80_1) rfl ?_; clear hE a; intro a hE
      refine vP hS hE (Gives.loadB hE 0 rfl rfl rfl ty3) rfl ?_; clear hE a; intro a hE
      refine vP hS hE (Gives.min2 hE rfl rfl) rfl ?_; clear hE a; intro a hE
      refine vP hS hE (Gives.p hE rfl) rfl ?_; clear hE a; intro a hE
      refine WL.nil ?_
      subst hK100
      exact ⟨mn q72 x74.From, hq95, hE.pick _ ⟨rfl, rfl, rfl, rfl, rfl, rfl, rfl, trivial⟩, hS⟩
     ·replace hq95 := iteF hc101 hq95
      refine W.skip ?_
      subst hK100
      exact ⟨q72, hq95, hE.pick _ ⟨rfl, rfl, rfl, rfl, rfl, rfl, rfl, trivial⟩, hS⟩
    ·clear hE hS a w; rintro a w ⟨q99, rfl, hE, hS⟩
     refine W.region ?_
     refine vP hS hE (Gives.inc hE rfl (by omega)) rfl ?_; clear hE a; intro a hE
     refine vP hS hE (Gives.p hE rfl) rfl ?_; clear hE a; intro a hE
     refine WL.nil ?_
     replace hS := hS.tail
     subst hK73
     exact ⟨rest63, Nat.lt_succ_self _, rest63, k61 + 1, q92, q99, rfl, (by omega), hq59, hE.pick _ ⟨rfl, rfl, rfl, rfl, rfl, rfl, rfl, trivial⟩, hS⟩
 ·clear hE hS a w; rintro a w ⟨q71, q72, rfl, hE, hS⟩
  dsimp only at hr
  refine W.seq (W.region ?_)
  refine vP hS hE (Gives.p hE rfl) rfl ?_; clear hE a; intro a hE
  refine vP hS hE (Gives.p hE rfl) rfl ?_; clear hE a; intro a hE
  refine vP hS hE (Gives.p hE rfl) rfl ?_; clear hE a; intro a hE
  refine vP hS hE (Gives.p hE rfl) rfl ?_; clear hE a; intro a hE
  refine WL.nil ?_
  refine W.ret ?_
  refine finG (fn := Tryd.f125) (rs := [.tmp 8]) (vs := [_]) hE rfl ⟨rfl, trivial⟩ ?_
  obtain rfl := Option.some.inj hr
  replace hS := hS.tail
  exact ⟨rfl, hS⟩
set_option maxHeartbeats 8000000 in
theorem CmpisNaNint_ok  {w : World} {s : Sg} {R : List HP} {x0 : Int} (hS : St w s (R))  {r : Bool} (hr : CmpisNaNint x0 = r) :
  Calls Tryd.prog 101 [.int .i64 x0].toArray w (fun e w => e = .returned (.bool r) ∧ St w s (R)) := by
 refine enter Tryd.func101 rfl rfl rfl fun a hE => ?_
 rw [CmpisNaNint] at hr
 refine W.seq (W.region ?_)
 refine vP hS hE (Gives.p hE rfl) rfl ?_; clear hE a; intro a hE
 refine WL.nil ?_
 refine W.seq (W.region ?_)
 refine vP hS hE (Gives.p hE rfl) rfl ?_; clear hE a; intro a hE
 refine vP hS hE (Gives.p hE rfl) rfl ?_; clear hE a; intro a hE
 refine vP hS hE (Gives.p hE rfl) rfl ?_; clear hE a; intro a hE
 refine vP hS hE (Gives.p hE rfl) rfl ?_; clear hE a; intro a hE
 refine WL.nil ?_
 refine W.ret ?_
 refine finG (fn := Tryd.f101) (rs := [.tmp 2]) (vs := [_]) hE rfl ⟨rfl, trivial⟩ ?_
 subst hr
 exact ⟨rfl, hS⟩
set_option maxHeartbeats 8000000 in
theorem CmpCompareint_ok  {w : World} {s : Sg} {R : List HP} {x0 : Int} {x1 : Int} (hS : St w s (R))  {r : Int} (hr : CmpCompareint x0 x1 = r) :
  Calls Tryd.prog 54 [.int .i64 x0, .int .i64 x1].toArray w (fun e w => e = .returned (.int .i64 r) ∧ St w s (R)) := by
 refine enter Tryd.func54 rfl rfl rfl fun a hE => ?_
 rw [CmpCompareint] at hr
 refine W.seq (W.region ?_)
 refine vP hS hE (Gives.p hE rfl) rfl ?_; clear hE a; intro a hE
 refine WL.nil ?_
 refine W.seq (W.region ?_)
 refine vP hS hE (Gives.p hE rfl) rfl ?_; clear hE a; intro a hE
 refine WL.fnq hE (CmpisNaNint_ok hS  rfl (r := CmpisNaNint x0)) (runs_plain rfl) bd101 rfl rfl rfl ?_
 clear hE hS; rintro e w ⟨rfl, hS⟩; refine ⟨_, rfl, ?_⟩; clear a; intro a hE
 refine vP hS hE (Gives.p hE rfl) rfl ?_; clear hE a; intro a hE
 refine WL.nil ?_
 refine W.seq (W.region ?_)
 refine vP hS hE (Gives.p hE rfl) rfl ?_; clear hE a; intro a hE
 refine WL.fnq hE (CmpisNaNint_ok hS  rfl (r := CmpisNaNint x1)) (runs_plain rfl) bd101 rfl rfl rfl ?_
 clear hE hS; rintro e w ⟨rfl, hS⟩; refine ⟨_, rfl, ?_⟩; clear a; intro a hE
 refine vP hS hE (Gives.p hE rfl) rfl ?_; clear hE a; intro a hE
 refine WL.nil ?_
 refine W.seq ?_
 refine W.seq (W.region ?_)
 refine vP hS hE (Gives.p hE rfl) rfl ?_; clear hE a; intro a hE
 refine WL.nil ?_
 refine W.cond hE rfl (fun hc51 => ?_) (fun hc51 => ?_)
 ·replace hr := iteT hc51 hr
  refine W.seq ?_
  refine W.seq (W.region ?_)
  refine vP hS hE (Gives.p hE rfl) rfl ?_; clear hE a; intro a hE
  refine WL.nil ?_
  refine W.cond hE rfl (fun hc52 => ?_) (fun hc52 => ?_)
  ·replace hr := iteT hc52 hr
   refine W.seq (W.region ?_)
   refine vP hS hE (Gives.p hE rfl) rfl ?_; clear hE a; intro a hE
   refine WL.nil ?_
   refine W.ret ?_
   refine finG (fn := Tryd.f54) (rs := [.tmp 4]) (vs := [_]) hE rfl ⟨rfl, trivial⟩ ?_
   subst hr
   exact ⟨rfl, hS⟩
  ·replace hr := iteF hc52 hr
   refine W.skip ?_
   refine W.seq (W.region ?_)
   refine vP hS hE (Gives.p hE rfl) rfl ?_; clear hE a; intro a hE
   refine WL.nil ?_
   refine W.ret ?_
   refine finG (fn := Tryd.f54) (rs := [.tmp 4]) (vs := [_]) hE rfl ⟨rfl, trivial⟩ ?_
   subst hr
   exact ⟨rfl, hS⟩
 ·replace hr := iteF hc51 hr
  refine W.skip ?_
  refine W.seq ?_
  refine W.seq (W.region ?_)
  refine vP hS hE (Gives.p hE rfl) rfl ?_; clear hE a; intro a hE
  refine WL.nil ?_
  refine W.cond hE rfl (fun hc53 => ?_) (fun hc53 => ?_)
  ·replace hr := iteT hc53 hr
   refine W.seq (W.region ?_)
   refine vP hS hE (Gives.p hE rfl) rfl ?_; clear hE a; intro a hE
   refine WL.nil ?_
   refine W.ret ?_
   refine finG (fn := Tryd.f54) (rs := [.tmp 4]) (vs := [_]) hE rfl ⟨rfl, trivial⟩ ?_
   subst hr
   exact ⟨rfl, hS⟩
  ·replace hr := iteF hc53 hr
   refine W.skip ?_
   refine W.seq ?_
   refine W.seq (W.region ?_)
   refine vP hS hE (Gives.p hE rfl) rfl ?_; clear hE a; intro a hE
   refine vP hS hE (Gives.p hE rfl) rfl ?_; clear hE a; intro a hE
   refine vP hS hE (Gives.p hE rfl) rfl ?_; clear hE a; intro a hE
   refine WL.nil ?_
   refine W.cond hE rfl (fun hc54 => ?_) (fun hc54 => ?_)
   ·replace hr := iteT hc54 hr
    refine W.seq (W.region ?_)
    refine vP hS hE (Gives.p hE rfl) rfl ?_; clear hE a; intro a hE
    refine WL.nil ?_
    refine W.ret ?_
    refine finG (fn := Tryd.f54) (rs := [.tmp 4]) (vs := [_]) hE rfl ⟨rfl, trivial⟩ ?_
    subst hr
    exact ⟨rfl, hS⟩
   ·replace hr := iteF hc54 hr
    refine W.skip ?_
    refine W.seq ?_
    refine W.seq (W.region ?_)
    refine vP hS hE (Gives.p hE rfl) rfl ?_; clear hE a; intro a hE
    refine vP hS hE (Gives.p hE rfl) rfl ?_; clear hE a; intro a hE
    refine vP hS hE (Gives.p hE rfl) rfl ?_; clear hE a; intro a hE
    refine WL.nil ?_
    refine W.cond hE rfl (fun hc55 => ?_) (fun hc55 => ?_)
    ·replace hr := iteT hc55 hr
     refine W.seq (W.region ?_)
     refine vP hS hE (Gives.p hE rfl) rfl ?_; clear hE a; intro a hE
     refine WL.nil ?_
     refine W.ret ?_
     refine finG (fn := Tryd.f54) (rs := [.tmp 4]) (vs := [_]) hE rfl ⟨rfl, trivial⟩ ?_
     subst hr
     exact ⟨rfl, hS⟩
    ·replace hr := iteF hc55 hr
     refine W.skip ?_
     refine W.seq (W.region ?_)
     refine vP hS hE (Gives.p hE rfl) rfl ?_; clear hE a; intro a hE
     refine WL.nil ?_
     refine W.ret ?_
     refine finG (fn := Tryd.f54) (rs := [.tmp 4]) (vs := [_]) hE rfl ⟨rfl, trivial⟩ ?_
     subst hr
     exact ⟨rfl, hS⟩
set_option maxHeartbeats 8000000 in
theorem FareCarchoose_1_v1_ok  {w : World} {s : Sg} {R : List HP} {pb0 : Nat} {pb1 : Nat} {pb2 : Nat} {pb3 : Nat} {x0 : Int} {x1 : Int} {y1 : Int} {y2 : Int} {y3 : FareCar} {a_v0 : Option Addr} {c_v0 n_v0 : Nat} {cs_v0 : List Value} {a_v1 : Option Addr} {c_v1 n_v1 : Nat} {cs_v1 : List Value} (hS : St w s (pt pb0 (.cells #[.pointer (some ⟨pb3, 0, none⟩)] 76 (0, 0)) :: pt pb1 (.cells #[.int .i64 y1] 3 (0, 0)) :: pt pb2 (.cells #[.int .i64 y2] 3 (0, 0)) :: pt pb3 (.cells #[.int .i64 y3.rows, .int .i64 y3.across, .int .i64 y3.stops, .slice a_v0 n_v0 c_v0, .slice a_v1 n_v1 c_v1] 148 (0, 0)) :: vecC 80 4 a_v0 c_v0 n_v0 cs_v0 :: vecC 4 1 a_v1 c_v1 n_v1 cs_v1 :: R)) (h_v0 : Ev 4 RFareBooking s cs_v0 y3.bookings) (hn_v0 : y3.bookings.length = n_v0) (h_v1 : Ev 1 RB s cs_v1 y3.cancelled) (hn_v1 : y3.cancelled.length = n_v1) {r : Int} (hr : FareCarchoose_1_v1 x0 x1 y1 y2 y3 = some r) :
  Calls Tryd.prog 124 [.int .i64 x0, .int .i64 x1, .pointer (some ⟨pb0, 0, none⟩), .pointer (some ⟨pb1, 0, none⟩), .pointer (some ⟨pb2, 0, none⟩)].toArray w (fun e w => e = .returned (.int .i64 r) ∧ St w s (pt pb0 (.cells #[.pointer (some ⟨pb3, 0, none⟩)] 76 (0, 0)) :: pt pb1 (.cells #[.int .i64 y1] 3 (0, 0)) :: pt pb2 (.cells #[.int .i64 y2] 3 (0, 0)) :: pt pb3 (.cells #[.int .i64 y3.rows, .int .i64 y3.across, .int .i64 y3.stops, .slice a_v0 n_v0 c_v0, .slice a_v1 n_v1 c_v1] 148 (0, 0)) :: vecC 80 4 a_v0 c_v0 n_v0 cs_v0 :: vecC 4 1 a_v1 c_v1 n_v1 cs_v1 :: R)) := by
 refine enter Tryd.func124 rfl rfl rfl fun a hE => ?_
 rw [FareCarchoose_1_v1] at hr
 subst hn_v0
 subst hn_v1
 refine W.seq (W.region ?_)
 refine vP hS hE (Gives.p hE rfl) rfl ?_; clear hE a; intro a hE
 refine WL.nil ?_
 refine W.seq ?_
 refine W.regionQ (C := fun w => St w s (pt pb0 (.cells #[.pointer (some ⟨pb3, 0, none⟩)] 76 (0, 0)) :: pt pb1 (.cells #[.int .i64 y1] 3 (0, 0)) :: pt pb2 (.cells #[.int .i64 y2] 3 (0, 0)) :: pt pb3 (.cells #[.int .i64 y3.rows, .int .i64 y3.across, .int .i64 y3.stops, .slice a_v0 y3.bookings.length c_v0, .slice a_v1 y3.cancelled.length c_v1] 148 (0, 0)) :: vecC 80 4 a_v0 c_v0 y3.bookings.length cs_v0 :: vecC 4 1 a_v1 c_v1 y3.cancelled.length cs_v1 :: R)) mixed (by kernel_rfl) hS.drew ?_
 refine qP hE (Gives.loadB hE 0 rfl rfl rfl ty76) rfl ?_; clear hE a; intro a hE
 refine qP hE (Gives.p hE rfl) rfl ?_; clear hE a; intro a hE
 refine qP hE (Gives.loadB hE 1 rfl rfl rfl ty3) rfl ?_; clear hE a; intro a hE
 refine qP hE (Gives.loadB hE 2 rfl rfl rfl ty3) rfl ?_; clear hE a; intro a hE
 obtain ⟨q51, hq52, hr⟩ := bindS hr
 refine QL.fnq hE (fun w hS => (FareCargap_v1_ok (y0 := y3) (St.front (St.front (St.front hS 5 rfl) 5 rfl) 5 rfl) h_v0 (rfl) h_v1 (rfl) hq52).mono fun _ _ ⟨he, hq⟩ => ⟨he, (St.unfront 5 rfl (St.unfront 5 rfl (St.unfront 5 rfl hq)))⟩) (runs_plain rfl) bd125 rfl rfl rfl ?_; clear hE a; intro a hE
 refine qP hE (Gives.loadB hE 0 rfl rfl rfl ty76) rfl ?_; clear hE a; intro a hE
 refine qP hE (Gives.p hE rfl) rfl ?_; clear hE a; intro a hE
 refine qP hE (Gives.loadB hE 1 rfl rfl rfl ty3) rfl ?_; clear hE a; intro a hE
 refine qP hE (Gives.loadB hE 2 rfl rfl rfl ty3) rfl ?_; clear hE a; intro a hE
 obtain ⟨q53, hq54, hr⟩ := bindS hr
 refine QL.fnq hE (fun w hS => (FareCargap_v1_ok (y0 := y3) (St.front (St.front (St.front hS 5 rfl) 5 rfl) 5 rfl) h_v0 (rfl) h_v1 (rfl) hq54).mono fun _ _ ⟨he, hq⟩ => ⟨he, (St.unfront 5 rfl (St.unfront 5 rfl (St.unfront 5 rfl hq)))⟩) (runs_plain rfl) bd125 rfl rfl rfl ?_; clear hE a; intro a hE
 refine QL.fnq hE (fun w hS => CmpCompareint_ok hS  rfl (r := CmpCompareint q51 q53)) (runs_plain rfl) bd54 rfl rfl rfl ?_; clear hE a; intro a hE
 refine qP hE (Gives.p hE rfl) rfl ?_; clear hE a; intro a hE
 refine QL.nil ?_; clear hS w; intro w hS
 refine W.ret ?_
 refine finG (fn := Tryd.f124) (rs := [.tmp 7]) (vs := [_]) hE rfl ⟨rfl, trivial⟩ ?_
 obtain rfl := Option.some.inj hr
 exact ⟨rfl, hS⟩
set_option maxHeartbeats 8000000 in
theorem SlicesinsertionSortCmpFuncint_v1_ok {fu : Nat}  {w : World} {s : Sg} {R : List HP} {pb0 : Nat} {pb1 : Nat} {pb2 : Nat} {pb3 : Nat} {x0 : List Int} {a_v0 : Option Addr} {c_v0 n_v0 : Nat} {cs_v0 : List Value} {x1 : Int} {x2 : Int} {y1 : Int} {y2 : Int} {y3 : FareCar} {a_v1 : Option Addr} {c_v1 n_v1 : Nat} {cs_v1 : List Value} {a_v2 : Option Addr} {c_v2 n_v2 : Nat} {cs_v2 : List Value} (hS : St w s (pt pb0 (.cells #[.pointer (some ⟨pb3, 0, none⟩)] 76 (0, 0)) :: pt pb1 (.cells #[.int .i64 y1] 3 (0, 0)) :: pt pb2 (.cells #[.int .i64 y2] 3 (0, 0)) :: pt pb3 (.cells #[.int .i64 y3.rows, .int .i64 y3.across, .int .i64 y3.stops, .slice a_v1 n_v1 c_v1, .slice a_v2 n_v2 c_v2] 148 (0, 0)) :: vecC 3 1 a_v0 c_v0 n_v0 cs_v0 :: vecC 80 4 a_v1 c_v1 n_v1 cs_v1 :: vecC 4 1 a_v2 c_v2 n_v2 cs_v2 :: R)) (h_v0 : Ev 1 (RI .i64) s cs_v0 x0) (hn_v0 : x0.length = n_v0) (h_v1 : Ev 4 RFareBooking s cs_v1 y3.bookings) (hn_v1 : y3.bookings.length = n_v1) (h_v2 : Ev 1 RB s cs_v2 y3.cancelled) (hn_v2 : y3.cancelled.length = n_v2) {r : (List Int)} (hr : SlicesinsertionSortCmpFuncint_v1 fu x0 x1 x2 y1 y2 y3 = some r) :
  Calls Tryd.prog 163 [.slice a_v0 n_v0 c_v0, .int .i64 x1, .int .i64 x2, .func (.func 124) #[] #[.pointer (some ⟨pb0, 0, none⟩), .pointer (some ⟨pb1, 0, none⟩), .pointer (some ⟨pb2, 0, none⟩)]].toArray w (fun e w => ∃ (cs55 : List Value), e = .returned (.tuple #[]) ∧ Ev 1 (RI .i64) s cs55 r ∧ r.length = n_v0 ∧ St w s (pt pb0 (.cells #[.pointer (some ⟨pb3, 0, none⟩)] 76 (0, 0)) :: pt pb1 (.cells #[.int .i64 y1] 3 (0, 0)) :: pt pb2 (.cells #[.int .i64 y2] 3 (0, 0)) :: pt pb3 (.cells #[.int .i64 y3.rows, .int .i64 y3.across, .int .i64 y3.stops, .slice a_v1 n_v1 c_v1, .slice a_v2 n_v2 c_v2] 148 (0, 0)) :: vecC 3 1 a_v0 c_v0 n_v0 cs55 :: vecC 80 4 a_v1 c_v1 n_v1 cs_v1 :: vecC 4 1 a_v2 c_v2 n_v2 cs_v2 :: R)) := by
 refine enter Tryd.func163 rfl rfl rfl fun a hE => ?_
 rw [SlicesinsertionSortCmpFuncint_v1] at hr
 subst hn_v0
 subst hn_v1
 subst hn_v2
 refine W.seq (W.region ?_)
 refine vP hS hE (Gives.p hE rfl) rfl ?_; clear hE a; intro a hE
 refine vP hS hE (Gives.p hE rfl) rfl ?_; clear hE a; intro a hE
 refine vP hS hE (Gives.p hE rfl) rfl ?_; clear hE a; intro a hE
 refine WL.nil ?_
 obtain ⟨q58, hq57, hr⟩ := bindS hr
 refine W.cut (fun a w => ∃ (q63 : Int), ∃ (q64 : List Int), ∃ (cs68 : List Value), (q63, q64) = q58 ∧ Ev 1 (RI .i64) s cs68 q64 ∧ q64.length = x0.length ∧ Rep a 53 [] ∧ St w s (pt pb0 (.cells #[.pointer (some ⟨pb3, 0, none⟩)] 76 (0, 0)) :: pt pb1 (.cells #[.int .i64 y1] 3 (0, 0)) :: pt pb2 (.cells #[.int .i64 y2] 3 (0, 0)) :: pt pb3 (.cells #[.int .i64 y3.rows, .int .i64 y3.across, .int .i64 y3.stops, .slice a_v1 y3.bookings.length c_v1, .slice a_v2 y3.cancelled.length c_v2] 148 (0, 0)) :: vecC 3 1 a_v0 c_v0 x0.length cs68 :: vecC 80 4 a_v1 c_v1 y3.bookings.length cs_v1 :: vecC 4 1 a_v2 c_v2 y3.cancelled.length cs_v2 :: R)) ?_ ?_
 ·refine W.block ?_
  refine W.loop (fun m a w => ∃ (n59 : Nat), ∃ (q63 : Int), ∃ (q64 : List Int), ∃ (cs68 : List Value), n59 = m ∧ SlicesinsertionSortCmpFuncint_v1.loop1 x1 x2 y1 y2 y3 fu n59 q63 q64 = some q58 ∧ Ev 1 (RI .i64) s cs68 q64 ∧ q64.length = x0.length ∧ Rep a 53 [(0, .slice a_v0 x0.length c_v0), (1, .int .i64 x1), (2, .int .i64 x2), (3, .func (.func 124) #[] #[.pointer (some ⟨pb0, 0, none⟩), .pointer (some ⟨pb1, 0, none⟩), .pointer (some ⟨pb2, 0, none⟩)]), (8, .int .i64 q63)] ∧ St w s (pt pb0 (.cells #[.pointer (some ⟨pb3, 0, none⟩)] 76 (0, 0)) :: pt pb1 (.cells #[.int .i64 y1] 3 (0, 0)) :: pt pb2 (.cells #[.int .i64 y2] 3 (0, 0)) :: pt pb3 (.cells #[.int .i64 y3.rows, .int .i64 y3.across, .int .i64 y3.stops, .slice a_v1 y3.bookings.length c_v1, .slice a_v2 y3.cancelled.length c_v2] 148 (0, 0)) :: vecC 3 1 a_v0 c_v0 x0.length cs68 :: vecC 80 4 a_v1 c_v1 y3.bookings.length cs_v1 :: vecC 4 1 a_v2 c_v2 y3.cancelled.length cs_v2 :: R)) (m := fu) ⟨fu, (w64 (x1 + 1)), x0, cs_v0, rfl, hq57, h_v0, (rfl), hE.pick _ ⟨rfl, rfl, rfl, rfl, rfl, trivial⟩, hS⟩ ?_
  clear hE hS a w hq57; rintro m60 a w ⟨n59, q63, q64, cs68, rfl, hq57, h67, hn69, hE, hS⟩
  refine W.gen fun K70 hK70 => ?_
  rcases n59 with _ | n59
  ·rw [SlicesinsertionSortCmpFuncint_v1.loop1] at hq57; exact absurd hq57 (by simp)
  rw [SlicesinsertionSortCmpFuncint_v1.loop1] at hq57
  refine W.seq ?_
  refine W.seq (W.region ?_)
  refine vP hS hE (Gives.p hE rfl) rfl ?_; clear hE a; intro a hE
  refine vP hS hE (Gives.p hE rfl) rfl ?_; clear hE a; intro a hE
  refine vP hS hE (Gives.p hE rfl) rfl ?_; clear hE a; intro a hE
  refine WL.nil ?_
  refine W.cond hE rfl (fun hc71 => ?_) (fun hc71 => ?_)
  ·replace hq57 := iteT hc71 hq57
   refine W.skip ?_
   refine W.seq ?_
   refine W.block ?_
   refine W.seq (W.region ?_)
   refine vP hS hE (Gives.p hE rfl) rfl ?_; clear hE a; intro a hE
   refine vP hS hE (Gives.p hE rfl) rfl ?_; clear hE a; intro a hE
   refine WL.nil ?_
   obtain ⟨q73, hq72, hq57⟩ := bindS hq57
   refine W.cut (fun a w => ∃ (q78 : Int), ∃ (q79 : List Int), ∃ (cs83 : List Value), (q78, q79) = q73 ∧ Ev 1 (RI .i64) s cs83 q79 ∧ q79.length = x0.length ∧ Rep a 53 [(0, .slice a_v0 x0.length c_v0), (1, .int .i64 x1), (2, .int .i64 x2), (3, .func (.func 124) #[] #[.pointer (some ⟨pb0, 0, none⟩), .pointer (some ⟨pb1, 0, none⟩), .pointer (some ⟨pb2, 0, none⟩)]), (8, .int .i64 q63)] ∧ St w s (pt pb0 (.cells #[.pointer (some ⟨pb3, 0, none⟩)] 76 (0, 0)) :: pt pb1 (.cells #[.int .i64 y1] 3 (0, 0)) :: pt pb2 (.cells #[.int .i64 y2] 3 (0, 0)) :: pt pb3 (.cells #[.int .i64 y3.rows, .int .i64 y3.across, .int .i64 y3.stops, .slice a_v1 y3.bookings.length c_v1, .slice a_v2 y3.cancelled.length c_v2] 148 (0, 0)) :: vecC 3 1 a_v0 c_v0 x0.length cs83 :: vecC 80 4 a_v1 c_v1 y3.bookings.length cs_v1 :: vecC 4 1 a_v2 c_v2 y3.cancelled.length cs_v2 :: R)) ?_ ?_
   ·refine W.block ?_
    refine W.loop (fun m a w => ∃ (n74 : Nat), ∃ (q78 : Int), ∃ (q79 : List Int), ∃ (cs83 : List Value), n74 = m ∧ SlicesinsertionSortCmpFuncint_v1.loop2 x1 y1 y2 y3 n74 q78 q79 = some q73 ∧ Ev 1 (RI .i64) s cs83 q79 ∧ q79.length = x0.length ∧ Rep a 53 [(0, .slice a_v0 x0.length c_v0), (1, .int .i64 x1), (2, .int .i64 x2), (3, .func (.func 124) #[] #[.pointer (some ⟨pb0, 0, none⟩), .pointer (some ⟨pb1, 0, none⟩), .pointer (some ⟨pb2, 0, none⟩)]), (8, .int .i64 q63), (9, .int .i64 q78)] ∧ St w s (pt pb0 (.cells #[.pointer (some ⟨pb3, 0, none⟩)] 76 (0, 0)) :: pt pb1 (.cells #[.int .i64 y1] 3 (0, 0)) :: pt pb2 (.cells #[.int .i64 y2] 3 (0, 0)) :: pt pb3 (.cells #[.int .i64 y3.rows, .int .i64 y3.across, .int .i64 y3.stops, .slice a_v1 y3.bookings.length c_v1, .slice a_v2 y3.cancelled.length c_v2] 148 (0, 0)) :: vecC 3 1 a_v0 c_v0 x0.length cs83 :: vecC 80 4 a_v1 c_v1 y3.bookings.length cs_v1 :: vecC 4 1 a_v2 c_v2 y3.cancelled.length cs_v2 :: R)) (m := fu) ⟨fu, q63, q64, cs68, rfl, hq72, h67, hn69, hE.pick _ ⟨rfl, rfl, rfl, rfl, rfl, rfl, trivial⟩, hS⟩ ?_
    clear hE hS a w hq72; rintro m75 a w ⟨n74, q78, q79, cs83, rfl, hq72, h82, hn84, hE, hS⟩
    refine W.gen fun K85 hK85 => ?_
    rcases n74 with _ | n74
    ·rw [SlicesinsertionSortCmpFuncint_v1.loop2] at hq72; exact absurd hq72 (by simp)
    rw [SlicesinsertionSortCmpFuncint_v1.loop2] at hq72
    refine W.seq ?_
    refine W.seq ?_
    obtain ⟨q87, hq86, hq72⟩ := bindS hq72
    refine W.cut (fun a w => ∃ (q90 : Bool), q90 = q87 ∧ Rep a 53 [(0, .slice a_v0 x0.length c_v0), (1, .int .i64 x1), (2, .int .i64 x2), (3, .func (.func 124) #[] #[.pointer (some ⟨pb0, 0, none⟩), .pointer (some ⟨pb1, 0, none⟩), .pointer (some ⟨pb2, 0, none⟩)]), (8, .int .i64 q63), (9, .int .i64 q78), (34, .bool q90)] ∧ St w s (pt pb0 (.cells #[.pointer (some ⟨pb3, 0, none⟩)] 76 (0, 0)) :: pt pb1 (.cells #[.int .i64 y1] 3 (0, 0)) :: pt pb2 (.cells #[.int .i64 y2] 3 (0, 0)) :: pt pb3 (.cells #[.int .i64 y3.rows, .int .i64 y3.across, .int .i64 y3.stops, .slice a_v1 y3.bookings.length c_v1, .slice a_v2 y3.cancelled.length c_v2] 148 (0, 0)) :: vecC 3 1 a_v0 c_v0 x0.length cs83 :: vecC 80 4 a_v1 c_v1 y3.bookings.length cs_v1 :: vecC 4 1 a_v2 c_v2 y3.cancelled.length cs_v2 :: R)) ?_ ?_
    ·refine W.gen fun K91 hK91 => ?_
     refine W.regionQ (C := fun w => St w s (pt pb0 (.cells #[.pointer (some ⟨pb3, 0, none⟩)] 76 (0, 0)) :: pt pb1 (.cells #[.int .i64 y1] 3 (0, 0)) :: pt pb2 (.cells #[.int .i64 y2] 3 (0, 0)) :: pt pb3 (.cells #[.int .i64 y3.rows, .int .i64 y3.across, .int .i64 y3.stops, .slice a_v1 y3.bookings.length c_v1, .slice a_v2 y3.cancelled.length c_v2] 148 (0, 0)) :: vecC 3 1 a_v0 c_v0 x0.length cs83 :: vecC 80 4 a_v1 c_v1 y3.bookings.length cs_v1 :: vecC 4 1 a_v2 c_v2 y3.cancelled.length cs_v2 :: R)) mixed (by kernel_rfl) hS.drew ?_
     refine qP hE (Gives.p hE rfl) rfl ?_; clear hE a; intro a hE
     refine qP hE (Gives.p hE rfl) rfl ?_; clear hE a; intro a hE
     refine qP hE (Gives.p hE rfl) rfl ?_; clear hE a; intro a hE
     refine qP hE (Gives.p hE rfl) rfl ?_; clear hE a; intro a hE
     rcases Bool.eq_false_or_eq_true (decide (q78 > x1)) with hg92 | hg92
     ·replace hq86 := iteT hg92 hq86
      refine QL.v hE (runs_if hE rfl rfl rfl hg92) (Gives.p hE rfl) rfl ?_; clear hE a; intro a hE
      refine QL.v hE (runs_if hE rfl rfl rfl hg92) (Gives.p hE rfl) rfl ?_; clear hE a; intro a hE
      refine QL.v hE (runs_if hE rfl rfl rfl hg92) (Gives.p hE rfl) rfl ?_; clear hE a; intro a hE
      obtain ⟨x93, hx94, hq86⟩ := bindS hq86
      obtain ⟨hi95, hlt96, hy97⟩ := gx_some hx94
      obtain ⟨vs98, hl99, hR100, hd101, hget102⟩ := h82.at hy97
      subst hR100
      refine QL.v hE (runs_if hE rfl rfl rfl hg92) (Gives.idx hE ((q78).toNat) rfl rfl sl45 hi95 (by have := hn84; omega) (hS.vecAok 4 rfl (by have := hn84; omega : (q78).toNat < x0.length))) rfl ?_; clear hE a; intro a hE
      refine QL.v hE (runs_if hE rfl rfl rfl hg92) (Gives.load1 hE rfl (fun w h => St.vecSees h 4 rfl ((q78).toNat * 1) _ hget102) ty3) rfl ?_; clear hE a; intro a hE
      refine QL.v hE (runs_if hE rfl rfl rfl hg92) (Gives.p hE rfl) rfl ?_; clear hE a; intro a hE
      refine QL.v hE (runs_if hE rfl rfl rfl hg92) (Gives.p hE rfl) rfl ?_; clear hE a; intro a hE
      refine QL.v hE (runs_if hE rfl rfl rfl hg92) (Gives.p hE rfl) rfl ?_; clear hE a; intro a hE
      obtain ⟨x103, hx104, hq86⟩ := bindS hq86
      obtain ⟨hi105, hlt106, hy107⟩ := gx_some hx104
      obtain ⟨vs108, hl109, hR110, hd111, hget112⟩ := h82.at hy107
      subst hR110
      refine QL.v hE (runs_if hE rfl rfl rfl hg92) (Gives.idx hE ((w64 (q78 - 1)).toNat) rfl rfl sl45 hi105 (by have := hn84; omega) (hS.vecAok 4 rfl (by have := hn84; omega : (w64 (q78 - 1)).toNat < x0.length))) rfl ?_; clear hE a; intro a hE
      refine QL.v hE (runs_if hE rfl rfl rfl hg92) (Gives.load1 hE rfl (fun w h => St.vecSees h 4 rfl ((w64 (q78 - 1)).toNat * 1) _ hget112) ty3) rfl ?_; clear hE a; intro a hE
      obtain ⟨q113, hq114, hq86⟩ := bindS hq86
      refine QL.fnw hE (fun w hS => (FareCarchoose_1_v1_ok (y3 := y3) (St.front (St.front (St.front (St.front (St.front (St.front hS 6 rfl) 6 rfl) 5 rfl) 5 rfl) 5 rfl) 5 rfl) h_v1 (rfl) h_v2 (rfl) hq114).mono fun _ _ ⟨he, hq⟩ => ⟨he, (St.unfront 6 rfl (St.unfront 6 rfl (St.unfront 5 rfl (St.unfront 5 rfl (St.unfront 5 rfl (St.unfront 5 rfl hq))))))⟩) rfl (runs_if hE rfl rfl rfl hg92) bd124 rfl rfl rfl ?_; clear hE a; intro a hE
      refine QL.v hE (runs_if hE rfl rfl rfl hg92) (Gives.p hE rfl) rfl ?_; clear hE a; intro a hE
      refine qP hE (Gives.pickT hE rfl hg92 rfl) rfl ?_; clear hE a; intro a hE
      refine QL.nil ?_; clear hS w; intro w hS
      subst hK91
      exact ⟨decide (q113 < 0), Option.some.inj hq86, hE.pick _ ⟨rfl, rfl, rfl, rfl, rfl, rfl, rfl, trivial⟩, hS⟩
     ·replace hq86 := iteF hg92 hq86
      refine QL.no hE (runs_not hE rfl rfl rfl (by rw [hg92]; decide)) rfl ?_; clear hE a; intro a hE
      refine QL.no hE (runs_not hE rfl rfl rfl (by rw [hg92]; decide)) rfl ?_; clear hE a; intro a hE
      refine QL.no hE (runs_not hE rfl rfl rfl (by rw [hg92]; decide)) rfl ?_; clear hE a; intro a hE
      refine QL.no hE (runs_not hE rfl rfl rfl (by rw [hg92]; decide)) rfl ?_; clear hE a; intro a hE
      refine QL.no hE (runs_not hE rfl rfl rfl (by rw [hg92]; decide)) rfl ?_; clear hE a; intro a hE
      refine QL.no hE (runs_not hE rfl rfl rfl (by rw [hg92]; decide)) rfl ?_; clear hE a; intro a hE
      refine QL.no hE (runs_not hE rfl rfl rfl (by rw [hg92]; decide)) rfl ?_; clear hE a; intro a hE
      refine QL.no hE (runs_not hE rfl rfl rfl (by rw [hg92]; decide)) rfl ?_; clear hE a; intro a hE
      refine QL.no hE (runs_not hE rfl rfl rfl (by rw [hg92]; decide)) rfl ?_; clear hE a; intro a hE
      refine QL.no hE (runs_not hE rfl rfl rfl (by rw [hg92]; decide)) rfl ?_; clear hE a; intro a hE
      refine QL.no hE (runs_not hE rfl rfl rfl (by rw [hg92]; decide)) rfl ?_; clear hE a; intro a hE
      refine QL.no hE (runs_not hE rfl rfl rfl (by rw [hg92]; decide)) rfl ?_; clear hE a; intro a hE
      refine qP hE (Gives.pickF hE rfl hg92 rfl) rfl ?_; clear hE a; intro a hE
      refine QL.nil ?_; clear hS w; intro w hS
      subst hK91
      exact ⟨false, Option.some.inj hq86, hE.pick _ ⟨rfl, rfl, rfl, rfl, rfl, rfl, rfl, trivial⟩, hS⟩
    ·clear hE hS a w; rintro a w ⟨q90, rfl, hE, hS⟩
     refine W.cond hE rfl (fun hc115 => ?_) (fun hc115 => ?_)
     ·replace hq72 := iteT hc115 hq72
      refine W.skip ?_
      refine W.seq ?_
      refine W.block ?_
      refine W.gen fun K116 hK116 => ?_
      refine W.regionE (sel (fun w => St w s (pt pb0 (.cells #[.pointer (some ⟨pb3, 0, none⟩)] 76 (0, 0)) :: pt pb1 (.cells #[.int .i64 y1] 3 (0, 0)) :: pt pb2 (.cells #[.int .i64 y2] 3 (0, 0)) :: pt pb3 (.cells #[.int .i64 y3.rows, .int .i64 y3.across, .int .i64 y3.stops, .slice a_v1 y3.bookings.length c_v1, .slice a_v2 y3.cancelled.length c_v2] 148 (0, 0)) :: vecC 3 1 a_v0 c_v0 x0.length cs83 :: vecC 80 4 a_v1 c_v1 y3.bookings.length cs_v1 :: vecC 4 1 a_v2 c_v2 y3.cancelled.length cs_v2 :: R)) (fun w => St w s (pt pb0 (.cells #[.pointer (some ⟨pb3, 0, none⟩)] 76 (0, 0)) :: pt pb1 (.cells #[.int .i64 y1] 3 (0, 0)) :: pt pb2 (.cells #[.int .i64 y2] 3 (0, 0)) :: pt pb3 (.cells #[.int .i64 y3.rows, .int .i64 y3.across, .int .i64 y3.stops, .slice a_v1 y3.bookings.length c_v1, .slice a_v2 y3.cancelled.length c_v2] 148 (0, 0)) :: vecC 80 4 a_v1 c_v1 y3.bookings.length cs_v1 :: vecC 4 1 a_v2 c_v2 y3.cancelled.length cs_v2 :: R))) (fun b i => cond b ([0, 1, 2, 3, 4, 5, 6, 7, 8, 9, 10, 11, 12, 13, 14, 16].contains i) ([0, 1, 2, 3, 4, 5, 6, 7, 8, 9, 10, 11, 12, 13, 14, 15, 16, 17].contains i)) mixed ?_
      replace hS := hS.drew
      refine Rg.takeP (i := 0) hE rfl (by kernel_rfl) (runs_plain rfl) (Gives.p hE rfl) rfl (tw_sel (fun _ => hS) (fun _ => (hS.dropAt 4))) ?_; clear hE a; intro a hE
      refine Rg.takeP (i := 1) hE rfl (by kernel_rfl) (runs_plain rfl) (Gives.p hE rfl) rfl (tw_sel (fun _ => hS) (fun _ => (hS.dropAt 4))) ?_; clear hE a; intro a hE
      refine Rg.takeP (i := 2) hE rfl (by kernel_rfl) (runs_plain rfl) (Gives.p hE rfl) rfl (tw_sel (fun _ => hS) (fun _ => (hS.dropAt 4))) ?_; clear hE a; intro a hE
      refine Rg.takeP (i := 3) hE rfl (by kernel_rfl) (runs_plain rfl) (Gives.p hE rfl) rfl (tw_sel (fun _ => hS) (fun _ => (hS.dropAt 4))) ?_; clear hE a; intro a hE
      refine Rg.takeP (i := 4) hE rfl (by kernel_rfl) (runs_plain rfl) (Gives.p hE rfl) rfl (tw_sel (fun _ => hS) (fun _ => (hS.dropAt 4))) ?_; clear hE a; intro a hE
      refine Rg.takeP (i := 5) hE rfl (by kernel_rfl) (runs_plain rfl) (Gives.p hE rfl) rfl (tw_sel (fun _ => hS) (fun _ => (hS.dropAt 4))) ?_; clear hE a; intro a hE
      refine Rg.takeP (i := 6) hE rfl (by kernel_rfl) (runs_plain rfl) (Gives.p hE rfl) rfl (tw_sel (fun _ => hS) (fun _ => (hS.dropAt 4))) ?_; clear hE a; intro a hE
      refine Rg.takeP (i := 7) hE rfl (by kernel_rfl) (runs_plain rfl) (Gives.p hE rfl) rfl (tw_sel (fun _ => hS) (fun _ => (hS.dropAt 4))) ?_; clear hE a; intro a hE
      obtain ⟨x117, hx118, hq72⟩ := bindS hq72
      obtain ⟨hi119, hlt120, hy121⟩ := gx_some hx118
      obtain ⟨vs122, hl123, hR124, hd125, hget126⟩ := h82.at hy121
      subst hR124
      refine Rg.takeP (i := 8) hE rfl (by kernel_rfl) (runs_plain rfl) (Gives.idx hE ((w64 (q78 - 1)).toNat) rfl rfl sl45 hi119 (by have := hn84; omega) (hS.vecAok 4 rfl (by have := hn84; omega : (w64 (q78 - 1)).toNat < x0.length))) rfl (tw_sel (fun _ => hS) (fun _ => (hS.dropAt 4))) ?_; clear hE a; intro a hE
      have hT := tw_sel (A := fun w => St w s (pt pb0 (.cells #[.pointer (some ⟨pb3, 0, none⟩)] 76 (0, 0)) :: pt pb1 (.cells #[.int .i64 y1] 3 (0, 0)) :: pt pb2 (.cells #[.int .i64 y2] 3 (0, 0)) :: pt pb3 (.cells #[.int .i64 y3.rows, .int .i64 y3.across, .int .i64 y3.stops, .slice a_v1 y3.bookings.length c_v1, .slice a_v2 y3.cancelled.length c_v2] 148 (0, 0)) :: vecC 3 1 a_v0 c_v0 x0.length cs83 :: vecC 80 4 a_v1 c_v1 y3.bookings.length cs_v1 :: vecC 4 1 a_v2 c_v2 y3.cancelled.length cs_v2 :: R)) (B := fun w => St w s (pt pb0 (.cells #[.pointer (some ⟨pb3, 0, none⟩)] 76 (0, 0)) :: pt pb1 (.cells #[.int .i64 y1] 3 (0, 0)) :: pt pb2 (.cells #[.int .i64 y2] 3 (0, 0)) :: pt pb3 (.cells #[.int .i64 y3.rows, .int .i64 y3.across, .int .i64 y3.stops, .slice a_v1 y3.bookings.length c_v1, .slice a_v2 y3.cancelled.length c_v2] 148 (0, 0)) :: vecC 80 4 a_v1 c_v1 y3.bookings.length cs_v1 :: vecC 4 1 a_v2 c_v2 y3.cancelled.length cs_v2 :: R)) (w := _) (x := true) (y := true) (fun _ => hS) (fun _ => (hS.dropAt 4))
      have hF := hS; replace hS := hS
      refine Rg.take (i := 9) true rfl hE rfl (by kernel_rfl) (runs_plain rfl) (Gives.load1 hE rfl (fun w h => St.vecSees h 4 rfl ((w64 (q78 - 1)).toNat * 1) _ hget126) ty3) rfl hT ?_; clear hE a; intro a hE
      replace hS := hF; clear hF hT
      refine Rg.takeP (i := 10) hE rfl (by kernel_rfl) (runs_plain rfl) (Gives.p hE rfl) rfl (tw_sel (fun _ => hS) (fun _ => (hS.dropAt 4))) ?_; clear hE a; intro a hE
      refine Rg.takeP (i := 11) hE rfl (by kernel_rfl) (runs_plain rfl) (Gives.p hE rfl) rfl (tw_sel (fun _ => hS) (fun _ => (hS.dropAt 4))) ?_; clear hE a; intro a hE
      obtain ⟨x127, hx128, hq72⟩ := bindS hq72
      obtain ⟨hi129, hlt130, hy131⟩ := gx_some hx128
      obtain ⟨vs132, hl133, hR134, hd135, hget136⟩ := h82.at hy131
      subst hR134
      refine Rg.takeP (i := 12) hE rfl (by kernel_rfl) (runs_plain rfl) (Gives.idx hE ((q78).toNat) rfl rfl sl45 hi129 (by have := hn84; omega) (hS.vecAok 4 rfl (by have := hn84; omega : (q78).toNat < x0.length))) rfl (tw_sel (fun _ => hS) (fun _ => (hS.dropAt 4))) ?_; clear hE a; intro a hE
      have hT := tw_sel (A := fun w => St w s (pt pb0 (.cells #[.pointer (some ⟨pb3, 0, none⟩)] 76 (0, 0)) :: pt pb1 (.cells #[.int .i64 y1] 3 (0, 0)) :: pt pb2 (.cells #[.int .i64 y2] 3 (0, 0)) :: pt pb3 (.cells #[.int .i64 y3.rows, .int .i64 y3.across, .int .i64 y3.stops, .slice a_v1 y3.bookings.length c_v1, .slice a_v2 y3.cancelled.length c_v2] 148 (0, 0)) :: vecC 3 1 a_v0 c_v0 x0.length cs83 :: vecC 80 4 a_v1 c_v1 y3.bookings.length cs_v1 :: vecC 4 1 a_v2 c_v2 y3.cancelled.length cs_v2 :: R)) (B := fun w => St w s (pt pb0 (.cells #[.pointer (some ⟨pb3, 0, none⟩)] 76 (0, 0)) :: pt pb1 (.cells #[.int .i64 y1] 3 (0, 0)) :: pt pb2 (.cells #[.int .i64 y2] 3 (0, 0)) :: pt pb3 (.cells #[.int .i64 y3.rows, .int .i64 y3.across, .int .i64 y3.stops, .slice a_v1 y3.bookings.length c_v1, .slice a_v2 y3.cancelled.length c_v2] 148 (0, 0)) :: vecC 80 4 a_v1 c_v1 y3.bookings.length cs_v1 :: vecC 4 1 a_v2 c_v2 y3.cancelled.length cs_v2 :: R)) (w := _) (x := true) (y := true) (fun _ => hS) (fun _ => (hS.dropAt 4))
      have hF := hS; replace hS := hS
      refine Rg.take (i := 13) true rfl hE rfl (by kernel_rfl) (runs_plain rfl) (Gives.load1 hE rfl (fun w h => St.vecSees h 4 rfl ((q78).toNat * 1) _ hget136) ty3) rfl hT ?_; clear hE a; intro a hE
      replace hS := hF; clear hF hT
      obtain ⟨_, hx138, hq72⟩ := bindS hq72
      obtain ⟨h139, h140⟩ := ix_some hx138
      refine Rg.takeP (i := 14) hE rfl (by kernel_rfl) (runs_plain rfl) (Gives.idx hE ((q78).toNat) rfl rfl sl45 h139 (by have := hn84; omega) (hS.vecAok 4 rfl (by have := hn84; omega : (q78).toNat < x0.length))) rfl (tw_sel (fun _ => hS) (fun _ => (hS.dropAt 4))) ?_; clear hE a; intro a hE
      refine Rg.one (i := 15) false true rfl (by kernel_rfl) (by kernel_rfl) (by kernel_rfl) ?_
      obtain ⟨x142, hx143, hq72⟩ := bindS hq72
      refine WL.setD hE hS 4 rfl (runs_plain rfl) rfl rfl (vs := [.int .i64 x117]) rfl ty3 rfl rfl rfl h82 hn84 (sx_some hx143).1 hx143 rfl rfl ?_; clear hE hS a w; intro cs144 a w h145 hn146 hE hS
      refine WL.nil ?_
      refine ⟨⟨fun h => absurd h (by decide), fun _ => (hS.dropAt 4)⟩, ?_⟩
      obtain ⟨_, hx148, hq72⟩ := bindS hq72
      obtain ⟨h149, h150⟩ := ix_some hx148
      refine Rg.takeP (i := 16) hE rfl (by kernel_rfl) (runs_plain rfl) (Gives.idx hE ((w64 (q78 - 1)).toNat) rfl rfl sl45 h149 (by have := hn146; omega) (hS.vecAok 4 rfl (by have := hn146; omega : (w64 (q78 - 1)).toNat < x0.length))) rfl (tw_sel (fun h => absurd h (by decide)) (fun _ => (hS.dropAt 4))) ?_; clear hE a; intro a hE
      refine Rg.one (i := 17) false true rfl (by kernel_rfl) (by kernel_rfl) (by kernel_rfl) ?_
      obtain ⟨x152, hx153, hq72⟩ := bindS hq72
      refine WL.setD hE hS 4 rfl (runs_plain rfl) rfl rfl (vs := [.int .i64 x127]) rfl ty3 rfl rfl rfl h145 hn146 (sx_some hx153).1 hx153 rfl rfl ?_; clear hE hS a w; intro cs154 a w h155 hn156 hE hS
      refine WL.nil ?_
      refine ⟨⟨fun h => absurd h (by decide), fun _ => (hS.dropAt 4)⟩, ?_⟩
      refine Rg.done (by kernel_rfl) ?_
      subst hK116
      refine W.region ?_
      refine vP hS hE (Gives.p hE rfl) rfl ?_; clear hE a; intro a hE
      refine vP hS hE (Gives.p hE rfl) rfl ?_; clear hE a; intro a hE
      refine vP hS hE (Gives.p hE rfl) rfl ?_; clear hE a; intro a hE
      refine WL.nil ?_
      subst hK85
      exact ⟨n74, Nat.lt_succ_self _, n74, (w64 (q78 - 1)), x152, cs154, rfl, hq72, h155, hn156, hE.pick _ ⟨rfl, rfl, rfl, rfl, rfl, rfl, trivial⟩, hS⟩
     ·replace hq72 := iteF hc115 hq72
      subst hK85
      refine W.exit rfl ?_
      exact ⟨q78, q79, cs83, Option.some.inj hq72, h82, hn84, hE.pick _ ⟨rfl, rfl, rfl, rfl, rfl, trivial⟩, hS⟩
   ·clear hE hS a w; rintro a w ⟨q78, q79, cs83, rfl, h82, hn84, hE, hS⟩
    dsimp only at hq57
    refine W.region ?_
    refine vP hS hE (Gives.p hE rfl) rfl ?_; clear hE a; intro a hE
    refine vP hS hE (Gives.p hE rfl) rfl ?_; clear hE a; intro a hE
    refine vP hS hE (Gives.p hE rfl) rfl ?_; clear hE a; intro a hE
    refine WL.nil ?_
    subst hK70
    exact ⟨n59, Nat.lt_succ_self _, n59, (w64 (q63 + 1)), q79, cs83, rfl, hq57, h82, hn84, hE.pick _ ⟨rfl, rfl, rfl, rfl, rfl, trivial⟩, hS⟩
  ·replace hq57 := iteF hc71 hq57
   subst hK70
   refine W.exit rfl ?_
   exact ⟨q63, q64, cs68, Option.some.inj hq57, h67, hn69, hE.pick _ trivial, hS⟩
 ·clear hE hS a w; rintro a w ⟨q63, q64, cs68, rfl, h67, hn69, hE, hS⟩
  dsimp only at hr
  refine finG (fn := Tryd.f163) (rs := []) (vs := []) hE rfl trivial ?_
  obtain rfl := Option.some.inj hr
  exact ⟨cs68, rfl, h67, hn69, hS⟩
set_option maxHeartbeats 8000000 in
theorem SlicesswapRangeCmpFuncint_v1_ok {fu : Nat}  {w : World} {s : Sg} {R : List HP} {pb0 : Nat} {pb1 : Nat} {pb2 : Nat} {pb3 : Nat} {x0 : List Int} {a_v0 : Option Addr} {c_v0 n_v0 : Nat} {cs_v0 : List Value} {x1 : Int} {x2 : Int} {x3 : Int} {y1 : Int} {y2 : Int} {y3 : FareCar} {a_v1 : Option Addr} {c_v1 n_v1 : Nat} {cs_v1 : List Value} {a_v2 : Option Addr} {c_v2 n_v2 : Nat} {cs_v2 : List Value} (hS : St w s (pt pb0 (.cells #[.pointer (some ⟨pb3, 0, none⟩)] 76 (0, 0)) :: pt pb1 (.cells #[.int .i64 y1] 3 (0, 0)) :: pt pb2 (.cells #[.int .i64 y2] 3 (0, 0)) :: pt pb3 (.cells #[.int .i64 y3.rows, .int .i64 y3.across, .int .i64 y3.stops, .slice a_v1 n_v1 c_v1, .slice a_v2 n_v2 c_v2] 148 (0, 0)) :: vecC 3 1 a_v0 c_v0 n_v0 cs_v0 :: vecC 80 4 a_v1 c_v1 n_v1 cs_v1 :: vecC 4 1 a_v2 c_v2 n_v2 cs_v2 :: R)) (h_v0 : Ev 1 (RI .i64) s cs_v0 x0) (hn_v0 : x0.length = n_v0) (_h_v1 : Ev 4 RFareBooking s cs_v1 y3.bookings) (hn_v1 : y3.bookings.length = n_v1) (_h_v2 : Ev 1 RB s cs_v2 y3.cancelled) (hn_v2 : y3.cancelled.length = n_v2) {r : (List Int)} (hr : SlicesswapRangeCmpFuncint_v1 fu x0 x1 x2 x3 y1 y2 y3 = some r) :
  Calls Tryd.prog 173 [.slice a_v0 n_v0 c_v0, .int .i64 x1, .int .i64 x2, .int .i64 x3, .func (.func 124) #[] #[.pointer (some ⟨pb0, 0, none⟩), .pointer (some ⟨pb1, 0, none⟩), .pointer (some ⟨pb2, 0, none⟩)]].toArray w (fun e w => ∃ (cs55 : List Value), e = .returned (.tuple #[]) ∧ Ev 1 (RI .i64) s cs55 r ∧ r.length = n_v0 ∧ St w s (pt pb0 (.cells #[.pointer (some ⟨pb3, 0, none⟩)] 76 (0, 0)) :: pt pb1 (.cells #[.int .i64 y1] 3 (0, 0)) :: pt pb2 (.cells #[.int .i64 y2] 3 (0, 0)) :: pt pb3 (.cells #[.int .i64 y3.rows, .int .i64 y3.across, .int .i64 y3.stops, .slice a_v1 n_v1 c_v1, .slice a_v2 n_v2 c_v2] 148 (0, 0)) :: vecC 3 1 a_v0 c_v0 n_v0 cs55 :: vecC 80 4 a_v1 c_v1 n_v1 cs_v1 :: vecC 4 1 a_v2 c_v2 n_v2 cs_v2 :: R)) := by
 refine enter Tryd.func173 rfl rfl rfl fun a hE => ?_
 rw [SlicesswapRangeCmpFuncint_v1] at hr
 subst hn_v0
 subst hn_v1
 subst hn_v2
 refine W.seq (W.region ?_)
 refine vP hS hE (Gives.p hE rfl) rfl ?_; clear hE a; intro a hE
 refine WL.nil ?_
 obtain ⟨q58, hq57, hr⟩ := bindS hr
 refine W.cut (fun a w => ∃ (q63 : Int), ∃ (q64 : List Int), ∃ (cs68 : List Value), (q63, q64) = q58 ∧ Ev 1 (RI .i64) s cs68 q64 ∧ q64.length = x0.length ∧ Rep a 38 [] ∧ St w s (pt pb0 (.cells #[.pointer (some ⟨pb3, 0, none⟩)] 76 (0, 0)) :: pt pb1 (.cells #[.int .i64 y1] 3 (0, 0)) :: pt pb2 (.cells #[.int .i64 y2] 3 (0, 0)) :: pt pb3 (.cells #[.int .i64 y3.rows, .int .i64 y3.across, .int .i64 y3.stops, .slice a_v1 y3.bookings.length c_v1, .slice a_v2 y3.cancelled.length c_v2] 148 (0, 0)) :: vecC 3 1 a_v0 c_v0 x0.length cs68 :: vecC 80 4 a_v1 c_v1 y3.bookings.length cs_v1 :: vecC 4 1 a_v2 c_v2 y3.cancelled.length cs_v2 :: R)) ?_ ?_
 ·refine W.block ?_
  refine W.loop (fun m a w => ∃ (n59 : Nat), ∃ (q63 : Int), ∃ (q64 : List Int), ∃ (cs68 : List Value), n59 = m ∧ SlicesswapRangeCmpFuncint_v1.loop1 x1 x2 x3 n59 q63 q64 = some q58 ∧ Ev 1 (RI .i64) s cs68 q64 ∧ q64.length = x0.length ∧ Rep a 38 [(0, .slice a_v0 x0.length c_v0), (1, .int .i64 x1), (2, .int .i64 x2), (3, .int .i64 x3), (10, .int .i64 q63)] ∧ St w s (pt pb0 (.cells #[.pointer (some ⟨pb3, 0, none⟩)] 76 (0, 0)) :: pt pb1 (.cells #[.int .i64 y1] 3 (0, 0)) :: pt pb2 (.cells #[.int .i64 y2] 3 (0, 0)) :: pt pb3 (.cells #[.int .i64 y3.rows, .int .i64 y3.across, .int .i64 y3.stops, .slice a_v1 y3.bookings.length c_v1, .slice a_v2 y3.cancelled.length c_v2] 148 (0, 0)) :: vecC 3 1 a_v0 c_v0 x0.length cs68 :: vecC 80 4 a_v1 c_v1 y3.bookings.length cs_v1 :: vecC 4 1 a_v2 c_v2 y3.cancelled.length cs_v2 :: R)) (m := fu) ⟨fu, 0, x0, cs_v0, rfl, hq57, h_v0, (rfl), hE.pick _ ⟨rfl, rfl, rfl, rfl, rfl, trivial⟩, hS⟩ ?_
  clear hE hS a w hq57; rintro m60 a w ⟨n59, q63, q64, cs68, rfl, hq57, h67, hn69, hE, hS⟩
  refine W.gen fun K70 hK70 => ?_
  rcases n59 with _ | n59
  ·rw [SlicesswapRangeCmpFuncint_v1.loop1] at hq57; exact absurd hq57 (by simp)
  rw [SlicesswapRangeCmpFuncint_v1.loop1] at hq57
  refine W.seq ?_
  refine W.seq (W.region ?_)
  refine vP hS hE (Gives.p hE rfl) rfl ?_; clear hE a; intro a hE
  refine vP hS hE (Gives.p hE rfl) rfl ?_; clear hE a; intro a hE
  refine vP hS hE (Gives.p hE rfl) rfl ?_; clear hE a; intro a hE
  refine WL.nil ?_
  refine W.cond hE rfl (fun hc71 => ?_) (fun hc71 => ?_)
  ·replace hq57 := iteT hc71 hq57
   refine W.skip ?_
   refine W.seq ?_
   refine W.block ?_
   refine W.gen fun K72 hK72 => ?_
   refine W.regionE (sel (fun w => St w s (pt pb0 (.cells #[.pointer (some ⟨pb3, 0, none⟩)] 76 (0, 0)) :: pt pb1 (.cells #[.int .i64 y1] 3 (0, 0)) :: pt pb2 (.cells #[.int .i64 y2] 3 (0, 0)) :: pt pb3 (.cells #[.int .i64 y3.rows, .int .i64 y3.across, .int .i64 y3.stops, .slice a_v1 y3.bookings.length c_v1, .slice a_v2 y3.cancelled.length c_v2] 148 (0, 0)) :: vecC 3 1 a_v0 c_v0 x0.length cs68 :: vecC 80 4 a_v1 c_v1 y3.bookings.length cs_v1 :: vecC 4 1 a_v2 c_v2 y3.cancelled.length cs_v2 :: R)) (fun w => St w s (pt pb0 (.cells #[.pointer (some ⟨pb3, 0, none⟩)] 76 (0, 0)) :: pt pb1 (.cells #[.int .i64 y1] 3 (0, 0)) :: pt pb2 (.cells #[.int .i64 y2] 3 (0, 0)) :: pt pb3 (.cells #[.int .i64 y3.rows, .int .i64 y3.across, .int .i64 y3.stops, .slice a_v1 y3.bookings.length c_v1, .slice a_v2 y3.cancelled.length c_v2] 148 (0, 0)) :: vecC 80 4 a_v1 c_v1 y3.bookings.length cs_v1 :: vecC 4 1 a_v2 c_v2 y3.cancelled.length cs_v2 :: R))) (fun b i => cond b ([0, 1, 2, 3, 4, 5, 6, 7, 8, 9, 10, 11, 12, 13, 14, 15, 16, 17, 18, 19, 20, 22].contains i) ([0, 1, 2, 3, 4, 5, 6, 7, 8, 9, 10, 11, 12, 13, 14, 15, 16, 17, 18, 19, 20, 21, 22, 23].contains i)) mixed ?_
   replace hS := hS.drew
   refine Rg.takeP (i := 0) hE rfl (by kernel_rfl) (runs_plain rfl) (Gives.p hE rfl) rfl (tw_sel (fun _ => hS) (fun _ => (hS.dropAt 4))) ?_; clear hE a; intro a hE
   refine Rg.takeP (i := 1) hE rfl (by kernel_rfl) (runs_plain rfl) (Gives.p hE rfl) rfl (tw_sel (fun _ => hS) (fun _ => (hS.dropAt 4))) ?_; clear hE a; intro a hE
   refine Rg.takeP (i := 2) hE rfl (by kernel_rfl) (runs_plain rfl) (Gives.p hE rfl) rfl (tw_sel (fun _ => hS) (fun _ => (hS.dropAt 4))) ?_; clear hE a; intro a hE
   refine Rg.takeP (i := 3) hE rfl (by kernel_rfl) (runs_plain rfl) (Gives.p hE rfl) rfl (tw_sel (fun _ => hS) (fun _ => (hS.dropAt 4))) ?_; clear hE a; intro a hE
   refine Rg.takeP (i := 4) hE rfl (by kernel_rfl) (runs_plain rfl) (Gives.p hE rfl) rfl (tw_sel (fun _ => hS) (fun _ => (hS.dropAt 4))) ?_; clear hE a; intro a hE
   refine Rg.takeP (i := 5) hE rfl (by kernel_rfl) (runs_plain rfl) (Gives.p hE rfl) rfl (tw_sel (fun _ => hS) (fun _ => (hS.dropAt 4))) ?_; clear hE a; intro a hE
   refine Rg.takeP (i := 6) hE rfl (by kernel_rfl) (runs_plain rfl) (Gives.p hE rfl) rfl (tw_sel (fun _ => hS) (fun _ => (hS.dropAt 4))) ?_; clear hE a; intro a hE
   refine Rg.takeP (i := 7) hE rfl (by kernel_rfl) (runs_plain rfl) (Gives.p hE rfl) rfl (tw_sel (fun _ => hS) (fun _ => (hS.dropAt 4))) ?_; clear hE a; intro a hE
   refine Rg.takeP (i := 8) hE rfl (by kernel_rfl) (runs_plain rfl) (Gives.p hE rfl) rfl (tw_sel (fun _ => hS) (fun _ => (hS.dropAt 4))) ?_; clear hE a; intro a hE
   refine Rg.takeP (i := 9) hE rfl (by kernel_rfl) (runs_plain rfl) (Gives.p hE rfl) rfl (tw_sel (fun _ => hS) (fun _ => (hS.dropAt 4))) ?_; clear hE a; intro a hE
   refine Rg.takeP (i := 10) hE rfl (by kernel_rfl) (runs_plain rfl) (Gives.p hE rfl) rfl (tw_sel (fun _ => hS) (fun _ => (hS.dropAt 4))) ?_; clear hE a; intro a hE
   refine Rg.takeP (i := 11) hE rfl (by kernel_rfl) (runs_plain rfl) (Gives.p hE rfl) rfl (tw_sel (fun _ => hS) (fun _ => (hS.dropAt 4))) ?_; clear hE a; intro a hE
   obtain ⟨x73, hx74, hq57⟩ := bindS hq57
   obtain ⟨hi75, hlt76, hy77⟩ := gx_some hx74
   obtain ⟨vs78, hl79, hR80, hd81, hget82⟩ := h67.at hy77
   subst hR80
   refine Rg.takeP (i := 12) hE rfl (by kernel_rfl) (runs_plain rfl) (Gives.idx hE ((w64 (x2 + q63)).toNat) rfl rfl sl45 hi75 (by have := hn69; omega) (hS.vecAok 4 rfl (by have := hn69; omega : (w64 (x2 + q63)).toNat < x0.length))) rfl (tw_sel (fun _ => hS) (fun _ => (hS.dropAt 4))) ?_; clear hE a; intro a hE
   have hT := tw_sel (A := fun w => St w s (pt pb0 (.cells #[.pointer (some ⟨pb3, 0, none⟩)] 76 (0, 0)) :: pt pb1 (.cells #[.int .i64 y1] 3 (0, 0)) :: pt pb2 (.cells #[.int .i64 y2] 3 (0, 0)) :: pt pb3 (.cells #[.int .i64 y3.rows, .int .i64 y3.across, .int .i64 y3.stops, .slice a_v1 y3.bookings.length c_v1, .slice a_v2 y3.cancelled.length c_v2] 148 (0, 0)) :: vecC 3 1 a_v0 c_v0 x0.length cs68 :: vecC 80 4 a_v1 c_v1 y3.bookings.length cs_v1 :: vecC 4 1 a_v2 c_v2 y3.cancelled.length cs_v2 :: R)) (B := fun w => St w s (pt pb0 (.cells #[.pointer (some ⟨pb3, 0, none⟩)] 76 (0, 0)) :: pt pb1 (.cells #[.int .i64 y1] 3 (0, 0)) :: pt pb2 (.cells #[.int .i64 y2] 3 (0, 0)) :: pt pb3 (.cells #[.int .i64 y3.rows, .int .i64 y3.across, .int .i64 y3.stops, .slice a_v1 y3.bookings.length c_v1, .slice a_v2 y3.cancelled.length c_v2] 148 (0, 0)) :: vecC 80 4 a_v1 c_v1 y3.bookings.length cs_v1 :: vecC 4 1 a_v2 c_v2 y3.cancelled.length cs_v2 :: R)) (w := _) (x := true) (y := true) (fun _ => hS) (fun _ => (hS.dropAt 4))
   have hF := hS; replace hS := hS
   refine Rg.take (i := 13) true rfl hE rfl (by kernel_rfl) (runs_plain rfl) (Gives.load1 hE rfl (fun w h => St.vecSees h 4 rfl ((w64 (x2 + q63)).toNat * 1) _ hget82) ty3) rfl hT ?_; clear hE a; intro a hE
   replace hS := hF; clear hF hT
   refine Rg.takeP (i := 14) hE rfl (by kernel_rfl) (runs_plain rfl) (Gives.p hE rfl) rfl (tw_sel (fun _ => hS) (fun _ => (hS.dropAt 4))) ?_; clear hE a; intro a hE
   refine Rg.takeP (i := 15) hE rfl (by kernel_rfl) (runs_plain rfl) (Gives.p hE rfl) rfl (tw_sel (fun _ => hS) (fun _ => (hS.dropAt 4))) ?_; clear hE a; intro a hE
   refine Rg.takeP (i := 16) hE rfl (by kernel_rfl) (runs_plain rfl) (Gives.p hE rfl) rfl (tw_sel (fun _ => hS) (fun _ => (hS.dropAt 4))) ?_; clear hE a; intro a hE
   refine Rg.takeP (i := 17) hE rfl (by kernel_rfl) (runs_plain rfl) (Gives.p hE rfl) rfl (tw_sel (fun _ => hS) (fun _ => (hS.dropAt 4))) ?_; clear hE a; intro a hE
   obtain ⟨x83, hx84, hq57⟩ := bindS hq57
   obtain ⟨hi85, hlt86, hy87⟩ := gx_some hx84
   obtain ⟨vs88, hl89, hR90, hd91, hget92⟩ := h67.at hy87
   subst hR90
   refine Rg.takeP (i := 18) hE rfl (by kernel_rfl) (runs_plain rfl) (Gives.idx hE ((w64 (x1 + q63)).toNat) rfl rfl sl45 hi85 (by have := hn69; omega) (hS.vecAok 4 rfl (by have := hn69; omega : (w64 (x1 + q63)).toNat < x0.length))) rfl (tw_sel (fun _ => hS) (fun _ => (hS.dropAt 4))) ?_; clear hE a; intro a hE
   have hT := tw_sel (A := fun w => St w s (pt pb0 (.cells #[.pointer (some ⟨pb3, 0, none⟩)] 76 (0, 0)) :: pt pb1 (.cells #[.int .i64 y1] 3 (0, 0)) :: pt pb2 (.cells #[.int .i64 y2] 3 (0, 0)) :: pt pb3 (.cells #[.int .i64 y3.rows, .int .i64 y3.across, .int .i64 y3.stops, .slice a_v1 y3.bookings.length c_v1, .slice a_v2 y3.cancelled.length c_v2] 148 (0, 0)) :: vecC 3 1 a_v0 c_v0 x0.length cs68 :: vecC 80 4 a_v1 c_v1 y3.bookings.length cs_v1 :: vecC 4 1 a_v2 c_v2 y3.cancelled.length cs_v2 :: R)) (B := fun w => St w s (pt pb0 (.cells #[.pointer (some ⟨pb3, 0, none⟩)] 76 (0, 0)) :: pt pb1 (.cells #[.int .i64 y1] 3 (0, 0)) :: pt pb2 (.cells #[.int .i64 y2] 3 (0, 0)) :: pt pb3 (.cells #[.int .i64 y3.rows, .int .i64 y3.across, .int .i64 y3.stops, .slice a_v1 y3.bookings.length c_v1, .slice a_v2 y3.cancelled.length c_v2] 148 (0, 0)) :: vecC 80 4 a_v1 c_v1 y3.bookings.length cs_v1 :: vecC 4 1 a_v2 c_v2 y3.cancelled.length cs_v2 :: R)) (w := _) (x := true) (y := true) (fun _ => hS) (fun _ => (hS.dropAt 4))
   have hF := hS; replace hS := hS
   refine Rg.take (i := 19) true rfl hE rfl (by kernel_rfl) (runs_plain rfl) (Gives.load1 hE rfl (fun w h => St.vecSees h 4 rfl ((w64 (x1 + q63)).toNat * 1) _ hget92) ty3) rfl hT ?_; clear hE a; intro a hE
   replace hS := hF; clear hF hT
   obtain ⟨_, hx94, hq57⟩ := bindS hq57
   obtain ⟨h95, h96⟩ := ix_some hx94
   refine Rg.takeP (i := 20) hE rfl (by kernel_rfl) (runs_plain rfl) (Gives.idx hE ((w64 (x1 + q63)).toNat) rfl rfl sl45 h95 (by have := hn69; omega) (hS.vecAok 4 rfl (by have := hn69; omega : (w64 (x1 + q63)).toNat < x0.length))) rfl (tw_sel (fun _ => hS) (fun _ => (hS.dropAt 4))) ?_; clear hE a; intro a hE
   refine Rg.one (i := 21) false true rfl (by kernel_rfl) (by kernel_rfl) (by kernel_rfl) ?_
   obtain ⟨x98, hx99, hq57⟩ := bindS hq57
   refine WL.setD hE hS 4 rfl (runs_plain rfl) rfl rfl (vs := [.int .i64 x73]) rfl ty3 rfl rfl rfl h67 hn69 (sx_some hx99).1 hx99 rfl rfl ?_; clear hE hS a w; intro cs100 a w h101 hn102 hE hS
   refine WL.nil ?_
   refine ⟨⟨fun h => absurd h (by decide), fun _ => (hS.dropAt 4)⟩, ?_⟩
   obtain ⟨_, hx104, hq57⟩ := bindS hq57
   obtain ⟨h105, h106⟩ := ix_some hx104
   refine Rg.takeP (i := 22) hE rfl (by kernel_rfl) (runs_plain rfl) (Gives.idx hE ((w64 (x2 + q63)).toNat) rfl rfl sl45 h105 (by have := hn102; omega) (hS.vecAok 4 rfl (by have := hn102; omega : (w64 (x2 + q63)).toNat < x0.length))) rfl (tw_sel (fun h => absurd h (by decide)) (fun _ => (hS.dropAt 4))) ?_; clear hE a; intro a hE
   refine Rg.one (i := 23) false true rfl (by kernel_rfl) (by kernel_rfl) (by kernel_rfl) ?_
   obtain ⟨x108, hx109, hq57⟩ := bindS hq57
   refine WL.setD hE hS 4 rfl (runs_plain rfl) rfl rfl (vs := [.int .i64 x83]) rfl ty3 rfl rfl rfl h101 hn102 (sx_some hx109).1 hx109 rfl rfl ?_; clear hE hS a w; intro cs110 a w h111 hn112 hE hS
   refine WL.nil ?_
   refine ⟨⟨fun h => absurd h (by decide), fun _ => (hS.dropAt 4)⟩, ?_⟩
   refine Rg.done (by kernel_rfl) ?_
   subst hK72
   refine W.region ?_
   refine vP hS hE (Gives.p hE rfl) rfl ?_; clear hE a; intro a hE
   refine vP hS hE (Gives.p hE rfl) rfl ?_; clear hE a; intro a hE
   refine vP hS hE (Gives.p hE rfl) rfl ?_; clear hE a; intro a hE
   refine WL.nil ?_
   subst hK70
   exact ⟨n59, Nat.lt_succ_self _, n59, (w64 (q63 + 1)), x108, cs110, rfl, hq57, h111, hn112, hE.pick _ ⟨rfl, rfl, rfl, rfl, rfl, trivial⟩, hS⟩
  ·replace hq57 := iteF hc71 hq57
   subst hK70
   refine W.exit rfl ?_
   exact ⟨q63, q64, cs68, Option.some.inj hq57, h67, hn69, hE.pick _ trivial, hS⟩
 ·clear hE hS a w; rintro a w ⟨q63, q64, cs68, rfl, h67, hn69, hE, hS⟩
  dsimp only at hr
  refine finG (fn := Tryd.f173) (rs := []) (vs := []) hE rfl trivial ?_
  obtain rfl := Option.some.inj hr
  exact ⟨cs68, rfl, h67, hn69, hS⟩
set_option maxHeartbeats 8000000 in
theorem SlicesrotateCmpFuncint_v1_ok {fu : Nat}  {w : World} {s : Sg} {R : List HP} {pb0 : Nat} {pb1 : Nat} {pb2 : Nat} {pb3 : Nat} {x0 : List Int} {a_v0 : Option Addr} {c_v0 n_v0 : Nat} {cs_v0 : List Value} {x1 : Int} {x2 : Int} {x3 : Int} {y1 : Int} {y2 : Int} {y3 : FareCar} {a_v1 : Option Addr} {c_v1 n_v1 : Nat} {cs_v1 : List Value} {a_v2 : Option Addr} {c_v2 n_v2 : Nat} {cs_v2 : List Value} (hS : St w s (pt pb0 (.cells #[.pointer (some ⟨pb3, 0, none⟩)] 76 (0, 0)) :: pt pb1 (.cells #[.int .i64 y1] 3 (0, 0)) :: pt pb2 (.cells #[.int .i64 y2] 3 (0, 0)) :: pt pb3 (.cells #[.int .i64 y3.rows, .int .i64 y3.across, .int .i64 y3.stops, .slice a_v1 n_v1 c_v1, .slice a_v2 n_v2 c_v2] 148 (0, 0)) :: vecC 3 1 a_v0 c_v0 n_v0 cs_v0 :: vecC 80 4 a_v1 c_v1 n_v1 cs_v1 :: vecC 4 1 a_v2 c_v2 n_v2 cs_v2 :: R)) (h_v0 : Ev 1 (RI .i64) s cs_v0 x0) (hn_v0 : x0.length = n_v0) (h_v1 : Ev 4 RFareBooking s cs_v1 y3.bookings) (hn_v1 : y3.bookings.length = n_v1) (h_v2 : Ev 1 RB s cs_v2 y3.cancelled) (hn_v2 : y3.cancelled.length = n_v2) {r : (List Int)} (hr : SlicesrotateCmpFuncint_v1 fu x0 x1 x2 x3 y1 y2 y3 = some r) :
  Calls Tryd.prog 168 [.slice a_v0 n_v0 c_v0, .int .i64 x1, .int .i64 x2, .int .i64 x3, .func (.func 124) #[] #[.pointer (some ⟨pb0, 0, none⟩), .pointer (some ⟨pb1, 0, none⟩), .pointer (some ⟨pb2, 0, none⟩)]].toArray w (fun e w => ∃ (cs55 : List Value), e = .returned (.tuple #[]) ∧ Ev 1 (RI .i64) s cs55 r ∧ r.length = n_v0 ∧ St w s (pt pb0 (.cells #[.pointer (some ⟨pb3, 0, none⟩)] 76 (0, 0)) :: pt pb1 (.cells #[.int .i64 y1] 3 (0, 0)) :: pt pb2 (.cells #[.int .i64 y2] 3 (0, 0)) :: pt pb3 (.cells #[.int .i64 y3.rows, .int .i64 y3.across, .int .i64 y3.stops, .slice a_v1 n_v1 c_v1, .slice a_v2 n_v2 c_v2] 148 (0, 0)) :: vecC 3 1 a_v0 c_v0 n_v0 cs55 :: vecC 80 4 a_v1 c_v1 n_v1 cs_v1 :: vecC 4 1 a_v2 c_v2 n_v2 cs_v2 :: R)) := by
 refine enter Tryd.func168 rfl rfl rfl fun a hE => ?_
 rw [SlicesrotateCmpFuncint_v1] at hr
 subst hn_v0
 subst hn_v1
 subst hn_v2
 refine W.seq (W.region ?_)
 refine vP hS hE (Gives.p hE rfl) rfl ?_; clear hE a; intro a hE
 refine vP hS hE (Gives.p hE rfl) rfl ?_; clear hE a; intro a hE
 refine vP hS hE (Gives.p hE rfl) rfl ?_; clear hE a; intro a hE
 refine vP hS hE (Gives.p hE rfl) rfl ?_; clear hE a; intro a hE
 refine WL.nil ?_
 refine W.seq (W.region ?_)
 refine vP hS hE (Gives.p hE rfl) rfl ?_; clear hE a; intro a hE
 refine vP hS hE (Gives.p hE rfl) rfl ?_; clear hE a; intro a hE
 refine vP hS hE (Gives.p hE rfl) rfl ?_; clear hE a; intro a hE
 refine vP hS hE (Gives.p hE rfl) rfl ?_; clear hE a; intro a hE
 refine WL.nil ?_
 refine W.seq ?_
 obtain ⟨q58, hq57, hr⟩ := bindS hr
 refine W.cut (fun a w => ∃ (q63 : Int), ∃ (q64 : Int), ∃ (q65 : List Int), ∃ (cs69 : List Value), (q63, q64, q65) = q58 ∧ Ev 1 (RI .i64) s cs69 q65 ∧ q65.length = x0.length ∧ Rep a 58 [(0, .slice a_v0 x0.length c_v0), (2, .int .i64 x2), (4, .func (.func 124) #[] #[.pointer (some ⟨pb0, 0, none⟩), .pointer (some ⟨pb1, 0, none⟩), .pointer (some ⟨pb2, 0, none⟩)]), (10, .int .i64 q63)] ∧ St w s (pt pb0 (.cells #[.pointer (some ⟨pb3, 0, none⟩)] 76 (0, 0)) :: pt pb1 (.cells #[.int .i64 y1] 3 (0, 0)) :: pt pb2 (.cells #[.int .i64 y2] 3 (0, 0)) :: pt pb3 (.cells #[.int .i64 y3.rows, .int .i64 y3.across, .int .i64 y3.stops, .slice a_v1 y3.bookings.length c_v1, .slice a_v2 y3.cancelled.length c_v2] 148 (0, 0)) :: vecC 3 1 a_v0 c_v0 x0.length cs69 :: vecC 80 4 a_v1 c_v1 y3.bookings.length cs_v1 :: vecC 4 1 a_v2 c_v2 y3.cancelled.length cs_v2 :: R)) ?_ ?_
 ·refine W.block ?_
  refine W.loop (fun m a w => ∃ (n59 : Nat), ∃ (q63 : Int), ∃ (q64 : Int), ∃ (q65 : List Int), ∃ (cs69 : List Value), n59 = m ∧ SlicesrotateCmpFuncint_v1.loop1 x2 y1 y2 y3 fu n59 q63 q64 q65 = some q58 ∧ Ev 1 (RI .i64) s cs69 q65 ∧ q65.length = x0.length ∧ Rep a 58 [(0, .slice a_v0 x0.length c_v0), (2, .int .i64 x2), (4, .func (.func 124) #[] #[.pointer (some ⟨pb0, 0, none⟩), .pointer (some ⟨pb1, 0, none⟩), .pointer (some ⟨pb2, 0, none⟩)]), (10, .int .i64 q63), (11, .int .i64 q64)] ∧ St w s (pt pb0 (.cells #[.pointer (some ⟨pb3, 0, none⟩)] 76 (0, 0)) :: pt pb1 (.cells #[.int .i64 y1] 3 (0, 0)) :: pt pb2 (.cells #[.int .i64 y2] 3 (0, 0)) :: pt pb3 (.cells #[.int .i64 y3.rows, .int .i64 y3.across, .int .i64 y3.stops, .slice a_v1 y3.bookings.length c_v1, .slice a_v2 y3.cancelled.length c_v2] 148 (0, 0)) :: vecC 3 1 a_v0 c_v0 x0.length cs69 :: vecC 80 4 a_v1 c_v1 y3.bookings.length cs_v1 :: vecC 4 1 a_v2 c_v2 y3.cancelled.length cs_v2 :: R)) (m := fu) ⟨fu, (w64 (x2 - x1)), (w64 (x3 - x2)), x0, cs_v0, rfl, hq57, h_v0, (rfl), hE.pick _ ⟨rfl, rfl, rfl, rfl, rfl, trivial⟩, hS⟩ ?_
  clear hE hS a w hq57; rintro m60 a w ⟨n59, q63, q64, q65, cs69, rfl, hq57, h68, hn70, hE, hS⟩
  refine W.gen fun K71 hK71 => ?_
  rcases n59 with _ | n59
  ·rw [SlicesrotateCmpFuncint_v1.loop1] at hq57; exact absurd hq57 (by simp)
  rw [SlicesrotateCmpFuncint_v1.loop1] at hq57
  refine W.seq ?_
  refine W.seq (W.region ?_)
  refine vP hS hE (Gives.p hE rfl) rfl ?_; clear hE a; intro a hE
  refine vP hS hE (Gives.p hE rfl) rfl ?_; clear hE a; intro a hE
  refine vP hS hE (Gives.p hE rfl) rfl ?_; clear hE a; intro a hE
  refine WL.nil ?_
  refine W.cond hE rfl (fun hc72 => ?_) (fun hc72 => ?_)
  ·replace hq57 := iteT hc72 hq57
   refine W.skip ?_
   refine W.block ?_
   refine W.seq (W.region ?_)
   refine vP hS hE (Gives.p hE rfl) rfl ?_; clear hE a; intro a hE
   refine vP hS hE (Gives.p hE rfl) rfl ?_; clear hE a; intro a hE
   refine vP hS hE (Gives.p hE rfl) rfl ?_; clear hE a; intro a hE
   refine WL.nil ?_
   obtain ⟨q74, hq73, hq57⟩ := bindS hq57
   refine W.cut (fun a w => ∃ (q77 : Int), ∃ (q78 : Int), ∃ (q79 : List Int), ∃ (cs83 : List Value), (q77, q78, q79) = q74 ∧ Ev 1 (RI .i64) s cs83 q79 ∧ q79.length = x0.length ∧ Rep a 58 [(0, .slice a_v0 x0.length c_v0), (2, .int .i64 x2), (4, .func (.func 124) #[] #[.pointer (some ⟨pb0, 0, none⟩), .pointer (some ⟨pb1, 0, none⟩), .pointer (some ⟨pb2, 0, none⟩)]), (10, .int .i64 q77), (11, .int .i64 q78)] ∧ St w s (pt pb0 (.cells #[.pointer (some ⟨pb3, 0, none⟩)] 76 (0, 0)) :: pt pb1 (.cells #[.int .i64 y1] 3 (0, 0)) :: pt pb2 (.cells #[.int .i64 y2] 3 (0, 0)) :: pt pb3 (.cells #[.int .i64 y3.rows, .int .i64 y3.across, .int .i64 y3.stops, .slice a_v1 y3.bookings.length c_v1, .slice a_v2 y3.cancelled.length c_v2] 148 (0, 0)) :: vecC 3 1 a_v0 c_v0 x0.length cs83 :: vecC 80 4 a_v1 c_v1 y3.bookings.length cs_v1 :: vecC 4 1 a_v2 c_v2 y3.cancelled.length cs_v2 :: R)) ?_ ?_
   ·refine W.gen fun K85 hK85 => ?_
    refine W.cond hE rfl (fun hc86 => ?_) (fun hc86 => ?_)
    ·replace hq73 := iteT hc86 hq73
     refine W.seq (W.region ?_)
     refine vP hS hE (Gives.p hE rfl) rfl ?_; clear hE a; intro a hE
     refine vP hS hE (Gives.p hE rfl) rfl ?_; clear hE a; intro a hE
     refine vP hS hE (Gives.p hE rfl) rfl ?_; clear hE a; intro a hE
     refine vP hS hE (Gives.p hE rfl) rfl ?_; clear hE a; intro a hE
     refine vP hS hE (Gives.p hE rfl) rfl ?_; clear hE a; intro a hE
     refine vP hS hE (Gives.p hE rfl) rfl ?_; clear hE a; intro a hE
     refine vP hS hE (Gives.p hE rfl) rfl ?_; clear hE a; intro a hE
     obtain ⟨q87, hq88, hq73⟩ := bindS hq73
     have hc_ := SlicesswapRangeCmpFuncint_v1_ok (y3 := y3) hS h68 hn70 h_v1 (rfl) h_v2 (rfl) hq88
     refine WL.fnq hE (hc_) (runs_plain rfl) bd173 rfl rfl rfl ?_
     clear hE hS hc_; rintro e w ⟨cs89, rfl, h90, hn91, hS⟩; refine ⟨_, rfl, ?_⟩; clear a; intro a hE
     refine WL.nil ?_
     refine W.region ?_
     refine vP hS hE (Gives.p hE rfl) rfl ?_; clear hE a; intro a hE
     refine vP hS hE (Gives.p hE rfl) rfl ?_; clear hE a; intro a hE
     refine vP hS hE (Gives.p hE rfl) rfl ?_; clear hE a; intro a hE
     refine vP hS hE (Gives.p hE rfl) rfl ?_; clear hE a; intro a hE
     refine WL.nil ?_
     subst hK85
     exact ⟨w64 (q63 - q64), q64, q87, cs89, Option.some.inj hq73, h90, hn91, hE.pick _ ⟨rfl, rfl, rfl, rfl, rfl, trivial⟩, hS⟩
    ·replace hq73 := iteF hc86 hq73
     refine W.seq (W.region ?_)
     refine vP hS hE (Gives.p hE rfl) rfl ?_; clear hE a; intro a hE
     refine vP hS hE (Gives.p hE rfl) rfl ?_; clear hE a; intro a hE
     refine vP hS hE (Gives.p hE rfl) rfl ?_; clear hE a; intro a hE
     refine vP hS hE (Gives.p hE rfl) rfl ?_; clear hE a; intro a hE
     refine vP hS hE (Gives.p hE rfl) rfl ?_; clear hE a; intro a hE
     refine vP hS hE (Gives.p hE rfl) rfl ?_; clear hE a; intro a hE
     refine vP hS hE (Gives.p hE rfl) rfl ?_; clear hE a; intro a hE
     refine vP hS hE (Gives.p hE rfl) rfl ?_; clear hE a; intro a hE
     refine vP hS hE (Gives.p hE rfl) rfl ?_; clear hE a; intro a hE
     refine vP hS hE (Gives.p hE rfl) rfl ?_; clear hE a; intro a hE
     refine vP hS hE (Gives.p hE rfl) rfl ?_; clear hE a; intro a hE
     obtain ⟨q92, hq93, hq73⟩ := bindS hq73
     have hc_ := SlicesswapRangeCmpFuncint_v1_ok (y3 := y3) hS h68 hn70 h_v1 (rfl) h_v2 (rfl) hq93
     refine WL.fnq hE (hc_) (runs_plain rfl) bd173 rfl rfl rfl ?_
     clear hE hS hc_; rintro e w ⟨cs94, rfl, h95, hn96, hS⟩; refine ⟨_, rfl, ?_⟩; clear a; intro a hE
     refine WL.nil ?_
     refine W.region ?_
     refine vP hS hE (Gives.p hE rfl) rfl ?_; clear hE a; intro a hE
     refine vP hS hE (Gives.p hE rfl) rfl ?_; clear hE a; intro a hE
     refine vP hS hE (Gives.p hE rfl) rfl ?_; clear hE a; intro a hE
     refine vP hS hE (Gives.p hE rfl) rfl ?_; clear hE a; intro a hE
     refine WL.nil ?_
     subst hK85
     exact ⟨q63, w64 (q64 - q63), q92, cs94, Option.some.inj hq73, h95, hn96, hE.pick _ ⟨rfl, rfl, rfl, rfl, rfl, trivial⟩, hS⟩
   ·clear hE hS a w; rintro a w ⟨q77, q78, q79, cs83, rfl, h82, hn84, hE, hS⟩
    dsimp only at hq57
    subst hK71
    exact ⟨n59, Nat.lt_succ_self _, n59, q77, q78, q79, cs83, rfl, hq57, h82, hn84, hE.pick _ ⟨rfl, rfl, rfl, rfl, rfl, trivial⟩, hS⟩
  ·replace hq57 := iteF hc72 hq57
   subst hK71
   refine W.exit rfl ?_
   exact ⟨q63, q64, q65, cs69, Option.some.inj hq57, h68, hn70, hE.pick _ ⟨rfl, rfl, rfl, rfl, trivial⟩, hS⟩
 ·clear hE hS a w; rintro a w ⟨q63, q64, q65, cs69, rfl, h68, hn70, hE, hS⟩
  dsimp only at hr
  refine W.region ?_
  refine vP hS hE (Gives.p hE rfl) rfl ?_; clear hE a; intro a hE
  refine vP hS hE (Gives.p hE rfl) rfl ?_; clear hE a; intro a hE
  refine vP hS hE (Gives.p hE rfl) rfl ?_; clear hE a; intro a hE
  refine vP hS hE (Gives.p hE rfl) rfl ?_; clear hE a; intro a hE
  refine vP hS hE (Gives.p hE rfl) rfl ?_; clear hE a; intro a hE
  refine vP hS hE (Gives.p hE rfl) rfl ?_; clear hE a; intro a hE
  refine vP hS hE (Gives.p hE rfl) rfl ?_; clear hE a; intro a hE
  obtain ⟨q97, hq98, hr⟩ := bindS hr
  have hc_ := SlicesswapRangeCmpFuncint_v1_ok (y3 := y3) hS h68 hn70 h_v1 (rfl) h_v2 (rfl) hq98
  refine WL.fnq hE (hc_) (runs_plain rfl) bd173 rfl rfl rfl ?_
  clear hE hS hc_; rintro e w ⟨cs99, rfl, h100, hn101, hS⟩; refine ⟨_, rfl, ?_⟩; clear a; intro a hE
  refine WL.nil ?_
  refine finG (fn := Tryd.f168) (rs := []) (vs := []) hE rfl trivial ?_
  obtain rfl := Option.some.inj hr
  exact ⟨cs99, rfl, h100, hn101, hS⟩
end Go.Proofs.YtpcebngchmgckaaDoor
