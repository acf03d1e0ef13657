/- The walks of the functions that GuideEarliest reaches: each call comes to what its mirror says. The conditions are those of each contract. -/
import Derived.Test.YtpcebngchmgckaaDoorProg
import Derived.Test.YtpcebngchmgckaaDoorGuideEarliestM
import Derived.Test.YtpcebngchmgckaaDoorFpAllX
import Derived.Test.YtpcebngchmgckaaDoorGuideEarliestS
import Derived.Test.YtpcebngchmgckaaDoorFpMapS
import Derived.Test.YtpcebngchmgckaaDoorFpFld
import Derived.Test.YtpcebngchmgckaaDoorFpMapG
import Derived.Test.YtpcebngchmgckaaDoorFpMapV
import Derived.Test.YtpcebngchmgckaaDoorFpMaps
import Derived.Test.YtpcebngchmgckaaDoorFpOrd
import Derived.Test.YtpcebngchmgckaaDoorFpRf
import Derived.Test.YtpcebngchmgckaaDoorFpRng
import Derived.Test.YtpcebngchmgckaaDoorGuideEarliestW2
set_option maxRecDepth 10000
namespace Go.Proofs.YtpcebngchmgckaaDoor
open Go Go.Fp
set_option maxHeartbeats 8000000 in
theorem Fishref2TextFault_ok  {w : World} {s : Sg} {R : List HP} {x0 : ApiDay} {a0_0 : Option Addr} {c0_0 : Nat} {a0_1 : Option Addr} {c0_1 : Nat} (hS : St w s (R)) (h0_0 : Sl 4 RApiTrain s a0_0 c0_0 x0.Trains) (h0_1 : Sl 1 (RL 1 (RI .i64)) s a0_1 c0_1 x0.Turns) {r : Int} (hr : Fishref2TextFault x0 = some r) :
  Calls Tryd.prog 56 [.agg [.slice a0_0 x0.Trains.length c0_0, .slice a0_1 x0.Turns.length c0_1].toArray].toArray w (fun e w => e = .returned (.int .i64 r) ∧ St w s (R)) := by
 refine enter Tryd.func56 rfl rfl rfl fun a hE => ?_
 rw [Fishref2TextFault] at hr
 refine W.seq (W.region ?_)
 refine WL.box hE hS (runs_plain rfl) rfl rfl rfl ?_; clear hE hS a w; intro b51 a w hE hS
 refine vP hS hE (Gives.p hE rfl) rfl ?_; clear hE a; intro a hE
 refine WL.nil ?_
 refine W.seq ?_
 refine W.seq ?_
 obtain ⟨q53, hq52, hr⟩ := bndS hr
 refine W.cut (fun a w => ∃ (q56 : Bool), q56 = q53 ∧ Rep a 105 [(1, .pointer (some ⟨b51, 0, none⟩)), (24, .bool q56)] ∧ St w s (pt b51 (.cells #[.slice a0_0 x0.Trains.length c0_0, .slice a0_1 x0.Turns.length c0_1] 25 (0, 0)) :: R)) ?_ ?_
 ·refine W.gen fun K57 hK57 => ?_
  refine W.region ?_
  refine vP hS hE (Gives.fld hE rfl fl25_0) rfl ?_; clear hE a; intro a hE
  refine vP hS hE (Gives.loadB hE 0 rfl rfl rfl ty22) rfl ?_; clear hE a; intro a hE
  refine vP hS hE (Gives.len hE rfl sl22) rfl ?_; clear hE a; intro a hE
  refine vP hS hE (Gives.p hE rfl) rfl ?_; clear hE a; intro a hE
  refine vP hS hE (Gives.p hE rfl) rfl ?_; clear hE a; intro a hE
  rcases Bool.eq_false_or_eq_true (decide (((x0.Trains).length : Int) > 12)) with hg58 | hg58
  ·replace hq52 := iteT hg58 hq52
   refine WL.no hE (runs_not hE rfl rfl rfl (by rw [hg58]; decide)) rfl ?_; clear hE a; intro a hE
   refine WL.no hE (runs_not hE rfl rfl rfl (by rw [hg58]; decide)) rfl ?_; clear hE a; intro a hE
   refine WL.no hE (runs_not hE rfl rfl rfl (by rw [hg58]; decide)) rfl ?_; clear hE a; intro a hE
   refine WL.no hE (runs_not hE rfl rfl rfl (by rw [hg58]; decide)) rfl ?_; clear hE a; intro a hE
   refine vP hS hE (Gives.pickT hE rfl hg58 rfl) rfl ?_; clear hE a; intro a hE
   refine WL.nil ?_
   subst hK57
   exact ⟨true, hq52, hE.pick _ ⟨rfl, rfl, trivial⟩, hS⟩
  ·replace hq52 := iteF hg58 hq52
   refine WL.vS hS hE (runs_if hE rfl rfl rfl hg58) (Gives.fld hE rfl fl25_1) rfl ?_; clear hE a; intro a hE
   refine WL.vS hS hE (runs_if hE rfl rfl rfl hg58) (Gives.loadB hE 0 rfl rfl rfl ty23) rfl ?_; clear hE a; intro a hE
   refine WL.vS hS hE (runs_if hE rfl rfl rfl hg58) (Gives.len hE rfl sl23) rfl ?_; clear hE a; intro a hE
   refine WL.vS hS hE (runs_if hE rfl rfl rfl hg58) (Gives.p hE rfl) rfl ?_; clear hE a; intro a hE
   refine vP hS hE (Gives.pickF hE rfl hg58 rfl) rfl ?_; clear hE a; intro a hE
   refine WL.nil ?_
   subst hK57
   exact ⟨decide (((x0.Turns).length : Int) > 8), hq52, hE.pick _ ⟨rfl, rfl, trivial⟩, hS⟩
 ·clear hE hS a w; rintro a w ⟨q56, rfl, hE, hS⟩
  refine W.cond hE rfl (fun hc59 => ?_) (fun hc59 => ?_)
  ·replace hr := iteT hc59 hr
   refine W.seq (W.region ?_)
   refine vP hS hE (Gives.p hE rfl) rfl ?_; clear hE a; intro a hE
   refine WL.nil ?_
   refine W.ret ?_
   refine finG (fn := Tryd.f56) (rs := [.tmp 2]) (vs := [_]) hE rfl ⟨rfl, trivial⟩ ?_
   obtain rfl := Option.some.inj hr
   replace hS := hS.tail
   exact ⟨rfl, hS⟩
  ·replace hr := iteF hc59 hr
   refine W.skip ?_
   refine W.seq ?_
   refine W.seq (W.region ?_)
   refine vP hS hE (Gives.fld hE rfl fl25_0) rfl ?_; clear hE a; intro a hE
   refine vP hS hE (Gives.loadB hE 0 rfl rfl rfl ty22) rfl ?_; clear hE a; intro a hE
   refine vP hS hE (Gives.len hE rfl sl22) rfl ?_; clear hE a; intro a hE
   refine vP hS hE (Gives.p hE rfl) rfl ?_; clear hE a; intro a hE
   refine WL.nil ?_
   obtain ⟨q61, hq60, hr⟩ := bndS hr
   refine W.cut (fun a w => (.next ()) = q61 ∧ Rep a 105 [(1, .pointer (some ⟨b51, 0, none⟩))] ∧ St w s (pt b51 (.cells #[.slice a0_0 x0.Trains.length c0_0, .slice a0_1 x0.Turns.length c0_1] 25 (0, 0)) :: R)) ?_ ?_
   ·refine W.block ?_
    refine W.loop (fun m a w => ∃ (rest64 : List ApiTrain) (k62 : Nat), rest64.length = m ∧ x0.Trains.drop k62 = rest64 ∧ Fishref2TextFault.loop1 rest64 = q61 ∧ Rep a 105 [(1, .pointer (some ⟨b51, 0, none⟩)), (26, .slice a0_0 x0.Trains.length c0_0), (27, .int .i64 ((x0.Trains).length : Int)), (28, .int .i64 ((k62 : Nat) : Int))] ∧ St w s (pt b51 (.cells #[.slice a0_0 x0.Trains.length c0_0, .slice a0_1 x0.Turns.length c0_1] 25 (0, 0)) :: R)) (m := x0.Trains.length) ⟨x0.Trains, 0, rfl, rfl, hq60, hE.pick _ ⟨rfl, rfl, rfl, rfl, trivial⟩, hS⟩ ?_
    clear hE hS a w hq60; rintro m68 a w ⟨rest64, k62, rfl, hd65, hq60, hE, hS⟩
    refine W.gen fun K71 hK71 => ?_
    rcases rest64 with _ | ⟨x63, rest64⟩
    ·have hlt66 := drop_nil hd65
     refine W.seq (W.region ?_)
     refine vP hS hE (Gives.p hE rfl) rfl ?_; clear hE a; intro a hE
     refine WL.nil ?_
     refine W.seq ?_
     refine W.condF hE rfl (decide_eq_false (by omega)) ?_
     subst hK71
     refine W.exit rfl ?_
     exact ⟨hq60, hE.pick _ ⟨rfl, trivial⟩, hS⟩
    ·obtain ⟨hlt66, hx67, hd65⟩ := drop_cons hd65
     rw [Fishref2TextFault.loop1] at hq60
     refine W.seq (W.region ?_)
     refine vP hS hE (Gives.p hE rfl) rfl ?_; clear hE a; intro a hE
     refine WL.nil ?_
     refine W.seq ?_
     refine W.condT hE rfl (decide_eq_true (by omega)) ?_
     refine W.skip ?_
     refine W.seq ?_
     refine W.block ?_
     refine W.seq (W.region ?_)
     obtain ⟨cs72, hl73, hR74, hat75⟩ := h0_0.at hx67
     obtain ⟨a76, c77, a79, c80, rfl, h78, h81⟩ := hR74
     refine vP hS hE (Gives.idx hE k62 rfl rfl sl22 rfl hlt66 (h0_0.aok hlt66)) rfl ?_; clear hE a; intro a hE
     refine vP hS hE (Gives.loadA hE rfl (fun w h => hat75 w _ h) ty44) rfl ?_; clear hE a; intro a hE
     refine WL.alloc hE hS (runs_plain rfl) zr44 rfl ?_; clear hE hS a w; intro b82 a w hE hS
     refine WL.storeI hE hS 0 rfl [.int .i64 x63.No, .int .i64 x63.Stock, .slice a76 x63.Stops.length c77, .slice a79 x63.Legs.length c80] (runs_plain rfl) rfl rfl rfl ty44 rfl rfl rfl rfl ?_; clear hE hS a w; intro a w hE hS
     refine WL.nil ?_
     refine W.seq ?_
     refine W.seq ?_
     obtain ⟨q84, hq83, hq60⟩ := bndS hq60
     refine W.cut (fun a w => ∃ (q87 : Bool), q87 = q84 ∧ Rep a 105 [(1, .pointer (some ⟨b51, 0, none⟩)), (4, .pointer (some ⟨b82, 0, none⟩)), (26, .slice a0_0 x0.Trains.length c0_0), (27, .int .i64 ((x0.Trains).length : Int)), (28, .int .i64 ((k62 : Nat) : Int)), (45, .bool q87)] ∧ St w s (pt b82 (.cells #[.int .i64 x63.No, .int .i64 x63.Stock, .slice a76 x63.Stops.length c77, .slice a79 x63.Legs.length c80] 44 (0, 0)) :: pt b51 (.cells #[.slice a0_0 x0.Trains.length c0_0, .slice a0_1 x0.Turns.length c0_1] 25 (0, 0)) :: R)) ?_ ?_
     ·refine W.gen fun K88 hK88 => ?_
      refine W.region ?_
      refine vP hS hE (Gives.fld hE rfl fl44_2) rfl ?_; clear hE a; intro a hE
      refine vP hS hE (Gives.loadB hE 0 rfl rfl rfl ty42) rfl ?_; clear hE a; intro a hE
      refine vP hS hE (Gives.len hE rfl sl42) rfl ?_; clear hE a; intro a hE
      refine vP hS hE (Gives.p hE rfl) rfl ?_; clear hE a; intro a hE
      refine vP hS hE (Gives.p hE rfl) rfl ?_; clear hE a; intro a hE
      rcases Bool.eq_false_or_eq_true (((x63.Stops).length : Int) == 0) with hg89 | hg89
      ·replace hq83 := iteT hg89 hq83
       refine WL.no hE (runs_not hE rfl rfl rfl (by rw [hg89]; decide)) rfl ?_; clear hE a; intro a hE
       refine WL.no hE (runs_not hE rfl rfl rfl (by rw [hg89]; decide)) rfl ?_; clear hE a; intro a hE
       refine WL.no hE (runs_not hE rfl rfl rfl (by rw [hg89]; decide)) rfl ?_; clear hE a; intro a hE
       refine WL.no hE (runs_not hE rfl rfl rfl (by rw [hg89]; decide)) rfl ?_; clear hE a; intro a hE
       refine WL.no hE (runs_not hE rfl rfl rfl (by rw [hg89]; decide)) rfl ?_; clear hE a; intro a hE
       refine WL.no hE (runs_not hE rfl rfl rfl (by rw [hg89]; decide)) rfl ?_; clear hE a; intro a hE
       refine WL.no hE (runs_not hE rfl rfl rfl (by rw [hg89]; decide)) rfl ?_; clear hE a; intro a hE
       refine WL.no hE (runs_not hE rfl rfl rfl (by rw [hg89]; decide)) rfl ?_; clear hE a; intro a hE
       refine vP hS hE (Gives.pickT hE rfl hg89 rfl) rfl ?_; clear hE a; intro a hE
       refine WL.nil ?_
       subst hK88
       exact ⟨true, hq83, hE.pick _ ⟨rfl, rfl, rfl, rfl, rfl, rfl, trivial⟩, hS⟩
      ·replace hq83 := iteF hg89 hq83
       refine WL.vS hS hE (runs_if hE rfl rfl rfl hg89) (Gives.fld hE rfl fl44_3) rfl ?_; clear hE a; intro a hE
       refine WL.vS hS hE (runs_if hE rfl rfl rfl hg89) (Gives.loadB hE 0 rfl rfl rfl ty23) rfl ?_; clear hE a; intro a hE
       refine WL.vS hS hE (runs_if hE rfl rfl rfl hg89) (Gives.len hE rfl sl23) rfl ?_; clear hE a; intro a hE
       refine WL.vS hS hE (runs_if hE rfl rfl rfl hg89) (Gives.fld hE rfl fl44_2) rfl ?_; clear hE a; intro a hE
       refine WL.vS hS hE (runs_if hE rfl rfl rfl hg89) (Gives.loadB hE 0 rfl rfl rfl ty42) rfl ?_; clear hE a; intro a hE
       refine WL.vS hS hE (runs_if hE rfl rfl rfl hg89) (Gives.len hE rfl sl42) rfl ?_; clear hE a; intro a hE
       refine WL.vS hS hE (runs_if hE rfl rfl rfl hg89) (Gives.p hE rfl) rfl ?_; clear hE a; intro a hE
       refine WL.vS hS hE (runs_if hE rfl rfl rfl hg89) (Gives.p hE rfl) rfl ?_; clear hE a; intro a hE
       refine vP hS hE (Gives.pickF hE rfl hg89 rfl) rfl ?_; clear hE a; intro a hE
       refine WL.nil ?_
       subst hK88
       exact ⟨(((x63.Legs).length : Int) != (w64 (((x63.Stops).length : Int) - 1))), hq83, hE.pick _ ⟨rfl, rfl, rfl, rfl, rfl, rfl, trivial⟩, hS⟩
     ·clear hE hS a w; rintro a w ⟨q87, rfl, hE, hS⟩
      refine W.cond hE rfl (fun hc90 => ?_) (fun hc90 => ?_)
      ·replace hq60 := iteT hc90 hq60
       refine W.seq (W.region ?_)
       refine vP hS hE (Gives.p hE rfl) rfl ?_; clear hE a; intro a hE
       refine WL.nil ?_
       refine W.ret ?_
       subst hK71
       rw [← hq60] at hr
       dsimp only at hr
       refine finG (fn := Tryd.f56) (rs := [.tmp 2]) (vs := [_]) hE rfl ⟨rfl, trivial⟩ ?_
       obtain rfl := Option.some.inj hr
       replace hS := hS.tail
       replace hS := hS.tail
       exact ⟨rfl, hS⟩
      ·replace hq60 := iteF hc90 hq60
       refine W.skip ?_
       refine W.seq ?_
       refine W.seq (W.region ?_)
       refine vP hS hE (Gives.fld hE rfl fl44_3) rfl ?_; clear hE a; intro a hE
       refine vP hS hE (Gives.loadB hE 0 rfl rfl rfl ty23) rfl ?_; clear hE a; intro a hE
       refine vP hS hE (Gives.len hE rfl sl23) rfl ?_; clear hE a; intro a hE
       refine vP hS hE (Gives.p hE rfl) rfl ?_; clear hE a; intro a hE
       refine WL.nil ?_
       obtain ⟨q92, hq91, hq60⟩ := bndS hq60
       refine W.cut (fun a w => (.next ()) = q92 ∧ Rep a 105 [(1, .pointer (some ⟨b51, 0, none⟩)), (4, .pointer (some ⟨b82, 0, none⟩)), (26, .slice a0_0 x0.Trains.length c0_0), (27, .int .i64 ((x0.Trains).length : Int)), (28, .int .i64 ((k62 : Nat) : Int))] ∧ St w s (pt b82 (.cells #[.int .i64 x63.No, .int .i64 x63.Stock, .slice a76 x63.Stops.length c77, .slice a79 x63.Legs.length c80] 44 (0, 0)) :: pt b51 (.cells #[.slice a0_0 x0.Trains.length c0_0, .slice a0_1 x0.Turns.length c0_1] 25 (0, 0)) :: R)) ?_ ?_
       ·refine W.block ?_
        refine W.loop (fun m a w => ∃ (rest95 : List (List Int)) (k93 : Nat), rest95.length = m ∧ x63.Legs.drop k93 = rest95 ∧ Fishref2TextFault.loop2 rest95 = q92 ∧ Rep a 105 [(1, .pointer (some ⟨b51, 0, none⟩)), (4, .pointer (some ⟨b82, 0, none⟩)), (26, .slice a0_0 x0.Trains.length c0_0), (27, .int .i64 ((x0.Trains).length : Int)), (28, .int .i64 ((k62 : Nat) : Int)), (47, .slice a79 x63.Legs.length c80), (48, .int .i64 ((x63.Legs).length : Int)), (49, .int .i64 ((k93 : Nat) : Int))] ∧ St w s (pt b82 (.cells #[.int .i64 x63.No, .int .i64 x63.Stock, .slice a76 x63.Stops.length c77, .slice a79 x63.Legs.length c80] 44 (0, 0)) :: pt b51 (.cells #[.slice a0_0 x0.Trains.length c0_0, .slice a0_1 x0.Turns.length c0_1] 25 (0, 0)) :: R)) (m := x63.Legs.length) ⟨x63.Legs, 0, rfl, rfl, hq91, hE.pick _ ⟨rfl, rfl, rfl, rfl, rfl, rfl, rfl, rfl, trivial⟩, hS⟩ ?_
        clear hE hS a w hq91; rintro m99 a w ⟨rest95, k93, rfl, hd96, hq91, hE, hS⟩
        refine W.gen fun K102 hK102 => ?_
        rcases rest95 with _ | ⟨x94, rest95⟩
        ·have hlt97 := drop_nil hd96
         refine W.seq (W.region ?_)
         refine vP hS hE (Gives.p hE rfl) rfl ?_; clear hE a; intro a hE
         refine WL.nil ?_
         refine W.seq ?_
         refine W.condF hE rfl (decide_eq_false (by omega)) ?_
         subst hK102
         refine W.exit rfl ?_
         exact ⟨hq91, hE.pick _ ⟨rfl, rfl, rfl, rfl, rfl, trivial⟩, hS⟩
        ·obtain ⟨hlt97, hx98, hd96⟩ := drop_cons hd96
         rw [Fishref2TextFault.loop2] at hq91
         refine W.seq (W.region ?_)
         refine vP hS hE (Gives.p hE rfl) rfl ?_; clear hE a; intro a hE
         refine WL.nil ?_
         refine W.seq ?_
         refine W.condT hE rfl (decide_eq_true (by omega)) ?_
         refine W.skip ?_
         refine W.seq ?_
         refine W.block ?_
         refine W.seq (W.region ?_)
         obtain ⟨cs103, hl104, hR105, hat106⟩ := h81.at hx98
         obtain ⟨a107, c108, rfl, h109⟩ := hR105
         refine vP hS hE (Gives.idx hE k93 rfl rfl sl23 rfl hlt97 (h81.aok hlt97)) rfl ?_; clear hE a; intro a hE
         refine vP hS hE (Gives.load1 hE rfl (fun w h => hat106 w _ h) ty45) rfl ?_; clear hE a; intro a hE
         refine vP hS hE (Gives.p hE rfl) rfl ?_; clear hE a; intro a hE
         refine WL.nil ?_
         refine W.seq (W.region ?_)
         refine vP hS hE (Gives.p hE rfl) rfl ?_; clear hE a; intro a hE
         refine vP hS hE (Gives.len hE rfl sl45) rfl ?_; clear hE a; intro a hE
         refine vP hS hE (Gives.p hE rfl) rfl ?_; clear hE a; intro a hE
         refine WL.nil ?_
         refine W.cond hE rfl (fun hc110 => ?_) (fun hc110 => ?_)
         ·replace hq91 := iteT hc110 hq91
          refine W.seq (W.region ?_)
          refine vP hS hE (Gives.p hE rfl) rfl ?_; clear hE a; intro a hE
          refine WL.nil ?_
          refine W.ret ?_
          subst hK102
          subst hK71
          rw [← hq91] at hq60
          dsimp only at hq60
          rw [← hq60] at hr
          dsimp only at hr
          refine finG (fn := Tryd.f56) (rs := [.tmp 2]) (vs := [_]) hE rfl ⟨rfl, trivial⟩ ?_
          obtain rfl := Option.some.inj hr
          replace hS := hS.tail
          replace hS := hS.tail
          exact ⟨rfl, hS⟩
         ·replace hq91 := iteF hc110 hq91
          refine W.skip ?_
          refine W.region ?_
          refine vP hS hE (Gives.inc hE rfl (by have := h81.small; omega)) rfl ?_; clear hE a; intro a hE
          refine vP hS hE (Gives.p hE rfl) rfl ?_; clear hE a; intro a hE
          refine WL.nil ?_
          subst hK102
          exact ⟨rest95.length, Nat.lt_succ_self _, rest95, k93 + 1, rfl, hd96, hq91, hE.pick _ ⟨rfl, rfl, rfl, rfl, rfl, rfl, rfl, rfl, trivial⟩, hS⟩
       ·clear hE hS a w; rintro a w ⟨rfl, hE, hS⟩
        dsimp only at hq60
        refine W.seq ?_
        refine W.seq (W.region ?_)
        refine vP hS hE (Gives.fld hE rfl fl44_2) rfl ?_; clear hE a; intro a hE
        refine vP hS hE (Gives.loadB hE 0 rfl rfl rfl ty42) rfl ?_; clear hE a; intro a hE
        refine vP hS hE (Gives.len hE rfl sl42) rfl ?_; clear hE a; intro a hE
        refine vP hS hE (Gives.p hE rfl) rfl ?_; clear hE a; intro a hE
        refine WL.nil ?_
        refine W.cond hE rfl (fun hc111 => ?_) (fun hc111 => ?_)
        ·replace hq60 := iteT hc111 hq60
         refine W.seq (W.region ?_)
         refine vP hS hE (Gives.p hE rfl) rfl ?_; clear hE a; intro a hE
         refine WL.nil ?_
         refine W.ret ?_
         subst hK71
         rw [← hq60] at hr
         dsimp only at hr
         refine finG (fn := Tryd.f56) (rs := [.tmp 2]) (vs := [_]) hE rfl ⟨rfl, trivial⟩ ?_
         obtain rfl := Option.some.inj hr
         replace hS := hS.tail
         replace hS := hS.tail
         exact ⟨rfl, hS⟩
        ·replace hq60 := iteF hc111 hq60
         refine W.skip ?_
         refine W.seq (W.region ?_)
         refine vP hS hE (Gives.fld hE rfl fl44_3) rfl ?_; clear hE a; intro a hE
         refine vP hS hE (Gives.loadB hE 0 rfl rfl rfl ty23) rfl ?_; clear hE a; intro a hE
         refine vP hS hE (Gives.len hE rfl sl23) rfl ?_; clear hE a; intro a hE
         refine vP hS hE (Gives.p hE rfl) rfl ?_; clear hE a; intro a hE
         refine WL.nil ?_
         obtain ⟨q113, hq112, hq60⟩ := bndS hq60
         refine W.cut (fun a w => (.next ()) = q113 ∧ Rep a 105 [(1, .pointer (some ⟨b51, 0, none⟩)), (26, .slice a0_0 x0.Trains.length c0_0), (27, .int .i64 ((x0.Trains).length : Int)), (28, .int .i64 ((k62 : Nat) : Int))] ∧ St w s (pt b82 (.cells #[.int .i64 x63.No, .int .i64 x63.Stock, .slice a76 x63.Stops.length c77, .slice a79 x63.Legs.length c80] 44 (0, 0)) :: pt b51 (.cells #[.slice a0_0 x0.Trains.length c0_0, .slice a0_1 x0.Turns.length c0_1] 25 (0, 0)) :: R)) ?_ ?_
         ·refine W.block ?_
          refine W.loop (fun m a w => ∃ (rest116 : List (List Int)) (k114 : Nat), rest116.length = m ∧ x63.Legs.drop k114 = rest116 ∧ Fishref2TextFault.loop3 rest116 = q113 ∧ Rep a 105 [(1, .pointer (some ⟨b51, 0, none⟩)), (26, .slice a0_0 x0.Trains.length c0_0), (27, .int .i64 ((x0.Trains).length : Int)), (28, .int .i64 ((k62 : Nat) : Int)), (62, .slice a79 x63.Legs.length c80), (63, .int .i64 ((x63.Legs).length : Int)), (64, .int .i64 ((k114 : Nat) : Int))] ∧ St w s (pt b82 (.cells #[.int .i64 x63.No, .int .i64 x63.Stock, .slice a76 x63.Stops.length c77, .slice a79 x63.Legs.length c80] 44 (0, 0)) :: pt b51 (.cells #[.slice a0_0 x0.Trains.length c0_0, .slice a0_1 x0.Turns.length c0_1] 25 (0, 0)) :: R)) (m := x63.Legs.length) ⟨x63.Legs, 0, rfl, rfl, hq112, hE.pick _ ⟨rfl, rfl, rfl, rfl, rfl, rfl, rfl, trivial⟩, hS⟩ ?_
          clear hE hS a w hq112; rintro m120 a w ⟨rest116, k114, rfl, hd117, hq112, hE, hS⟩
          refine W.gen fun K123 hK123 => ?_
          rcases rest116 with _ | ⟨x115, rest116⟩
          ·have hlt118 := drop_nil hd117
           refine W.seq (W.region ?_)
           refine vP hS hE (Gives.p hE rfl) rfl ?_; clear hE a; intro a hE
           refine WL.nil ?_
           refine W.seq ?_
           refine W.condF hE rfl (decide_eq_false (by omega)) ?_
           subst hK123
           refine W.exit rfl ?_
           exact ⟨hq112, hE.pick _ ⟨rfl, rfl, rfl, rfl, trivial⟩, hS⟩
          ·obtain ⟨hlt118, hx119, hd117⟩ := drop_cons hd117
           rw [Fishref2TextFault.loop3] at hq112
           refine W.seq (W.region ?_)
           refine vP hS hE (Gives.p hE rfl) rfl ?_; clear hE a; intro a hE
           refine WL.nil ?_
           refine W.seq ?_
           refine W.condT hE rfl (decide_eq_true (by omega)) ?_
           refine W.skip ?_
           refine W.seq ?_
           refine W.block ?_
           refine W.seq (W.region ?_)
           obtain ⟨cs124, hl125, hR126, hat127⟩ := h81.at hx119
           obtain ⟨a128, c129, rfl, h130⟩ := hR126
           refine vP hS hE (Gives.idx hE k114 rfl rfl sl23 rfl hlt118 (h81.aok hlt118)) rfl ?_; clear hE a; intro a hE
           refine vP hS hE (Gives.load1 hE rfl (fun w h => hat127 w _ h) ty45) rfl ?_; clear hE a; intro a hE
           refine vP hS hE (Gives.p hE rfl) rfl ?_; clear hE a; intro a hE
           refine WL.nil ?_
           refine W.seq (W.region ?_)
           refine vP hS hE (Gives.p hE rfl) rfl ?_; clear hE a; intro a hE
           refine vP hS hE (Gives.len hE rfl sl45) rfl ?_; clear hE a; intro a hE
           refine vP hS hE (Gives.p hE rfl) rfl ?_; clear hE a; intro a hE
           refine WL.nil ?_
           refine W.cond hE rfl (fun hc131 => ?_) (fun hc131 => ?_)
           ·replace hq112 := iteT hc131 hq112
            refine W.seq (W.region ?_)
            refine vP hS hE (Gives.p hE rfl) rfl ?_; clear hE a; intro a hE
            refine WL.nil ?_
            refine W.ret ?_
            subst hK123
            subst hK71
            rw [← hq112] at hq60
            dsimp only at hq60
            rw [← hq60] at hr
            dsimp only at hr
            refine finG (fn := Tryd.f56) (rs := [.tmp 2]) (vs := [_]) hE rfl ⟨rfl, trivial⟩ ?_
            obtain rfl := Option.some.inj hr
            replace hS := hS.tail
            replace hS := hS.tail
            exact ⟨rfl, hS⟩
           ·replace hq112 := iteF hc131 hq112
            refine W.skip ?_
            refine W.region ?_
            refine vP hS hE (Gives.inc hE rfl (by have := h81.small; omega)) rfl ?_; clear hE a; intro a hE
            refine vP hS hE (Gives.p hE rfl) rfl ?_; clear hE a; intro a hE
            refine WL.nil ?_
            subst hK123
            exact ⟨rest116.length, Nat.lt_succ_self _, rest116, k114 + 1, rfl, hd117, hq112, hE.pick _ ⟨rfl, rfl, rfl, rfl, rfl, rfl, rfl, trivial⟩, hS⟩
         ·clear hE hS a w; rintro a w ⟨rfl, hE, hS⟩
          dsimp only at hq60
          refine W.region ?_
          refine vP hS hE (Gives.inc hE rfl (by have := h0_0.small; omega)) rfl ?_; clear hE a; intro a hE
          refine vP hS hE (Gives.p hE rfl) rfl ?_; clear hE a; intro a hE
          refine WL.nil ?_
          replace hS := hS.tail
          subst hK71
          exact ⟨rest64.length, Nat.lt_succ_self _, rest64, k62 + 1, rfl, hd65, hq60, hE.pick _ ⟨rfl, rfl, rfl, rfl, trivial⟩, hS⟩
   ·clear hE hS a w; rintro a w ⟨rfl, hE, hS⟩
    dsimp only at hr
    refine W.seq ?_
    refine W.seq (W.region ?_)
    refine vP hS hE (Gives.fld hE rfl fl25_1) rfl ?_; clear hE a; intro a hE
    refine vP hS hE (Gives.loadB hE 0 rfl rfl rfl ty23) rfl ?_; clear hE a; intro a hE
    refine vP hS hE (Gives.len hE rfl sl23) rfl ?_; clear hE a; intro a hE
    refine vP hS hE (Gives.p hE rfl) rfl ?_; clear hE a; intro a hE
    refine WL.nil ?_
    obtain ⟨q133, hq132, hr⟩ := bndS hr
    refine W.cut (fun a w => (.next ()) = q133 ∧ Rep a 105 [(1, .pointer (some ⟨b51, 0, none⟩))] ∧ St w s (pt b51 (.cells #[.slice a0_0 x0.Trains.length c0_0, .slice a0_1 x0.Turns.length c0_1] 25 (0, 0)) :: R)) ?_ ?_
    ·refine W.block ?_
     refine W.loop (fun m a w => ∃ (rest136 : List (List Int)) (k134 : Nat), rest136.length = m ∧ x0.Turns.drop k134 = rest136 ∧ Fishref2TextFault.loop4 rest136 = q133 ∧ Rep a 105 [(1, .pointer (some ⟨b51, 0, none⟩)), (74, .slice a0_1 x0.Turns.length c0_1), (75, .int .i64 ((x0.Turns).length : Int)), (76, .int .i64 ((k134 : Nat) : Int))] ∧ St w s (pt b51 (.cells #[.slice a0_0 x0.Trains.length c0_0, .slice a0_1 x0.Turns.length c0_1] 25 (0, 0)) :: R)) (m := x0.Turns.length) ⟨x0.Turns, 0, rfl, rfl, hq132, hE.pick _ ⟨rfl, rfl, rfl, rfl, trivial⟩, hS⟩ ?_
     clear hE hS a w hq132; rintro m140 a w ⟨rest136, k134, rfl, hd137, hq132, hE, hS⟩
     refine W.gen fun K143 hK143 => ?_
     rcases rest136 with _ | ⟨x135, rest136⟩
     ·have hlt138 := drop_nil hd137
      refine W.seq (W.region ?_)
      refine vP hS hE (Gives.p hE rfl) rfl ?_; clear hE a; intro a hE
      refine WL.nil ?_
      refine W.seq ?_
      refine W.condF hE rfl (decide_eq_false (by omega)) ?_
      subst hK143
      refine W.exit rfl ?_
      exact ⟨hq132, hE.pick _ ⟨rfl, trivial⟩, hS⟩
     ·obtain ⟨hlt138, hx139, hd137⟩ := drop_cons hd137
      rw [Fishref2TextFault.loop4] at hq132
      refine W.seq (W.region ?_)
      refine vP hS hE (Gives.p hE rfl) rfl ?_; clear hE a; intro a hE
      refine WL.nil ?_
      refine W.seq ?_
      refine W.condT hE rfl (decide_eq_true (by omega)) ?_
      refine W.skip ?_
      refine W.seq ?_
      refine W.block ?_
      refine W.seq (W.region ?_)
      obtain ⟨cs144, hl145, hR146, hat147⟩ := h0_1.at hx139
      obtain ⟨a148, c149, rfl, h150⟩ := hR146
      refine vP hS hE (Gives.idx hE k134 rfl rfl sl23 rfl hlt138 (h0_1.aok hlt138)) rfl ?_; clear hE a; intro a hE
      refine vP hS hE (Gives.load1 hE rfl (fun w h => hat147 w _ h) ty45) rfl ?_; clear hE a; intro a hE
      refine vP hS hE (Gives.p hE rfl) rfl ?_; clear hE a; intro a hE
      refine WL.nil ?_
      refine W.seq ?_
      refine W.seq (W.region ?_)
      refine vP hS hE (Gives.p hE rfl) rfl ?_; clear hE a; intro a hE
      refine vP hS hE (Gives.len hE rfl sl45) rfl ?_; clear hE a; intro a hE
      refine vP hS hE (Gives.p hE rfl) rfl ?_; clear hE a; intro a hE
      refine WL.nil ?_
      refine W.cond hE rfl (fun hc151 => ?_) (fun hc151 => ?_)
      ·replace hq132 := iteT hc151 hq132
       refine W.seq (W.region ?_)
       refine vP hS hE (Gives.p hE rfl) rfl ?_; clear hE a; intro a hE
       refine WL.nil ?_
       refine W.ret ?_
       subst hK143
       rw [← hq132] at hr
       dsimp only at hr
       refine finG (fn := Tryd.f56) (rs := [.tmp 2]) (vs := [_]) hE rfl ⟨rfl, trivial⟩ ?_
       obtain rfl := Option.some.inj hr
       replace hS := hS.tail
       exact ⟨rfl, hS⟩
      ·replace hq132 := iteF hc151 hq132
       refine W.skip ?_
       refine W.seq (W.region ?_)
       refine vP hS hE (Gives.p hE rfl) rfl ?_; clear hE a; intro a hE
       refine vP hS hE (Gives.len hE rfl sl45) rfl ?_; clear hE a; intro a hE
       refine vP hS hE (Gives.p hE rfl) rfl ?_; clear hE a; intro a hE
       refine WL.nil ?_
       refine W.cond hE rfl (fun hc152 => ?_) (fun hc152 => ?_)
       ·replace hq132 := iteT hc152 hq132
        refine W.seq (W.region ?_)
        refine vP hS hE (Gives.p hE rfl) rfl ?_; clear hE a; intro a hE
        refine WL.nil ?_
        refine W.ret ?_
        subst hK143
        rw [← hq132] at hr
        dsimp only at hr
        refine finG (fn := Tryd.f56) (rs := [.tmp 2]) (vs := [_]) hE rfl ⟨rfl, trivial⟩ ?_
        obtain rfl := Option.some.inj hr
        replace hS := hS.tail
        exact ⟨rfl, hS⟩
       ·replace hq132 := iteF hc152 hq132
        refine W.skip ?_
        refine W.region ?_
        refine vP hS hE (Gives.inc hE rfl (by have := h0_1.small; omega)) rfl ?_; clear hE a; intro a hE
        refine vP hS hE (Gives.p hE rfl) rfl ?_; clear hE a; intro a hE
        refine WL.nil ?_
        subst hK143
        exact ⟨rest136.length, Nat.lt_succ_self _, rest136, k134 + 1, rfl, hd137, hq132, hE.pick _ ⟨rfl, rfl, rfl, rfl, trivial⟩, hS⟩
    ·clear hE hS a w; rintro a w ⟨rfl, hE, hS⟩
     dsimp only at hr
     refine W.seq ?_
     refine W.seq (W.region ?_)
     refine vP hS hE (Gives.loadBA hE 0 rfl rfl ty25) rfl ?_; clear hE a; intro a hE
     obtain ⟨q153, hq154, hr⟩ := bindS hr
     have hc_ := Fishref2numbersIn_ok hS h0_0 h0_1 hq154
     refine WL.fnq hE (hc_) (runs_plain rfl) bd103 rfl rfl rfl ?_
     clear hE hS hc_; rintro e w ⟨a155, c156, n157, cs158, s161, rfl, hle162, h159, rfl, hS⟩; refine ⟨_, rfl, ?_⟩; clear a; intro a hE
     replace h0_0 := Sl.mono RApiTrain.mono hle162 h0_0
     replace h0_1 := Sl.mono (RL.mono RI.mono) hle162 h0_1
     refine vP hS hE (Gives.len hE rfl sl23) rfl ?_; clear hE a; intro a hE
     refine vP hS hE (Gives.p hE rfl) rfl ?_; clear hE a; intro a hE
     refine WL.nil ?_
     have hb174 : q153.length ≤ 9223372036854775807 := by have := hS.vecCap 0 rfl; unfold maxLen at this; omega
     obtain ⟨q164, hq163, hr⟩ := bindS hr
     refine W.cut (fun a w => (.next ()) = q164 ∧ Rep a 105 [] ∧ St w s161 (vecC 45 1 a155 c156 q153.length cs158 :: pt b51 (.cells #[.slice a0_0 x0.Trains.length c0_0, .slice a0_1 x0.Turns.length c0_1] 25 (0, 0)) :: R)) ?_ ?_
     ·refine W.block ?_
      refine W.loop (fun m a w => ∃ (rest167 : Nat) (k165 : Nat), rest167 = m ∧ k165 + rest167 = q153.length ∧ Fishref2TextFault.loop5 q153 rest167 k165 = some q164 ∧ Rep a 105 [(88, .slice a155 q153.length c156), (89, .int .i64 ((q153.length : Nat) : Int)), (90, .int .i64 ((k165 : Nat) : Int))] ∧ St w s161 (vecC 45 1 a155 c156 q153.length cs158 :: pt b51 (.cells #[.slice a0_0 x0.Trains.length c0_0, .slice a0_1 x0.Turns.length c0_1] 25 (0, 0)) :: R)) (m := q153.length) ⟨q153.length, 0, rfl, by omega, hq163, hE.pick _ ⟨rfl, rfl, rfl, trivial⟩, hS⟩ ?_
      clear hE hS a w hq163; rintro m171 a w ⟨rest167, k165, rfl, hd168, hq163, hE, hS⟩
      refine W.gen fun K175 hK175 => ?_
      rcases rest167 with _ | rest167
      ·skip
       refine W.seq (W.region ?_)
       refine vP hS hE (Gives.p hE rfl) rfl ?_; clear hE a; intro a hE
       refine WL.nil ?_
       refine W.seq ?_
       refine W.condF hE rfl (decide_eq_false (by omega)) ?_
       subst hK175
       refine W.exit rfl ?_
       exact ⟨Option.some.inj hq163, hE.pick _ trivial, hS⟩
      ·have hlt169 : k165 < q153.length := by omega
       rw [Fishref2TextFault.loop5] at hq163
       refine W.seq (W.region ?_)
       refine vP hS hE (Gives.p hE rfl) rfl ?_; clear hE a; intro a hE
       refine WL.nil ?_
       refine W.seq ?_
       refine W.condT hE rfl (decide_eq_true (by omega)) ?_
       refine W.skip ?_
       refine W.seq ?_
       refine W.block ?_
       refine W.seq (W.region ?_)
       obtain ⟨x176, hx177, hq163⟩ := bindS hq163
       obtain ⟨hi178, hlt179, hy180⟩ := gx_some hx177
       obtain ⟨vs181, hl182, hR183, hd184, hget185⟩ := h159.at hy180
       obtain ⟨a186, c187, rfl, h188⟩ := hR183
       refine vP hS hE (Gives.idx hE ((((k165 : Nat) : Int)).toNat) rfl rfl sl23 hi178 (by omega) (hS.vecAok 0 rfl (by omega : (((k165 : Nat) : Int)).toNat < q153.length))) rfl ?_; clear hE a; intro a hE
       refine vP hS hE (Gives.load1 hE rfl (fun w h => St.vecSees h 0 rfl ((((k165 : Nat) : Int)).toNat * 1) _ hget185) ty45) rfl ?_; clear hE a; intro a hE
       refine vP hS hE (Gives.p hE rfl) rfl ?_; clear hE a; intro a hE
       refine WL.nil ?_
       refine W.seq (W.region ?_)
       refine vP hS hE (Gives.p hE rfl) rfl ?_; clear hE a; intro a hE
       refine vP hS hE (Gives.len hE rfl sl45) rfl ?_; clear hE a; intro a hE
       refine vP hS hE (Gives.p hE rfl) rfl ?_; clear hE a; intro a hE
       refine WL.nil ?_
       obtain ⟨q190, hq189, hq163⟩ := bndS hq163
       refine W.cut (fun a w => (.next ()) = q190 ∧ Rep a 105 [(88, .slice a155 q153.length c156), (89, .int .i64 ((q153.length : Nat) : Int)), (90, .int .i64 ((k165 : Nat) : Int))] ∧ St w s161 (vecC 45 1 a155 c156 q153.length cs158 :: pt b51 (.cells #[.slice a0_0 x0.Trains.length c0_0, .slice a0_1 x0.Turns.length c0_1] 25 (0, 0)) :: R)) ?_ ?_
       ·refine W.block ?_
        refine W.loop (fun m a w => ∃ (rest193 : List Int) (k191 : Nat), rest193.length = m ∧ x176.drop k191 = rest193 ∧ Fishref2TextFault.loop6 rest193 = q190 ∧ Rep a 105 [(88, .slice a155 q153.length c156), (89, .int .i64 ((q153.length : Nat) : Int)), (90, .int .i64 ((k165 : Nat) : Int)), (94, .slice a186 x176.length c187), (95, .int .i64 ((x176).length : Int)), (96, .int .i64 ((k191 : Nat) : Int))] ∧ St w s161 (vecC 45 1 a155 c156 q153.length cs158 :: pt b51 (.cells #[.slice a0_0 x0.Trains.length c0_0, .slice a0_1 x0.Turns.length c0_1] 25 (0, 0)) :: R)) (m := x176.length) ⟨x176, 0, rfl, rfl, hq189, hE.pick _ ⟨rfl, rfl, rfl, rfl, rfl, rfl, trivial⟩, hS⟩ ?_
        clear hE hS a w hq189; rintro m197 a w ⟨rest193, k191, rfl, hd194, hq189, hE, hS⟩
        refine W.gen fun K200 hK200 => ?_
        rcases rest193 with _ | ⟨x192, rest193⟩
        ·have hlt195 := drop_nil hd194
         refine W.seq (W.region ?_)
         refine vP hS hE (Gives.p hE rfl) rfl ?_; clear hE a; intro a hE
         refine WL.nil ?_
         refine W.seq ?_
         refine W.condF hE rfl (decide_eq_false (by omega)) ?_
         subst hK200
         refine W.exit rfl ?_
         exact ⟨hq189, hE.pick _ ⟨rfl, rfl, rfl, trivial⟩, hS⟩
        ·obtain ⟨hlt195, hx196, hd194⟩ := drop_cons hd194
         rw [Fishref2TextFault.loop6] at hq189
         refine W.seq (W.region ?_)
         refine vP hS hE (Gives.p hE rfl) rfl ?_; clear hE a; intro a hE
         refine WL.nil ?_
         refine W.seq ?_
         refine W.condT hE rfl (decide_eq_true (by omega)) ?_
         refine W.skip ?_
         refine W.seq ?_
         refine W.block ?_
         refine W.seq (W.region ?_)
         obtain ⟨cs201, hl202, hR203, hat204⟩ := h188.at hx196
         subst hR203
         refine vP hS hE (Gives.idx hE k191 rfl rfl sl45 rfl hlt195 (h188.aok hlt195)) rfl ?_; clear hE a; intro a hE
         refine vP hS hE (Gives.load1 hE rfl (fun w h => hat204 w _ h) ty3) rfl ?_; clear hE a; intro a hE
         refine vP hS hE (Gives.p hE rfl) rfl ?_; clear hE a; intro a hE
         refine WL.nil ?_
         refine W.seq (W.region ?_)
         refine vP hS hE (Gives.p hE rfl) rfl ?_; clear hE a; intro a hE
         refine WL.fnq hE (Fishref2within_ok hS  rfl (r := Fishref2within x192 0 999999)) (runs_plain rfl) bd57 rfl rfl rfl ?_
         clear hE hS; rintro e w ⟨rfl, hS⟩; refine ⟨_, rfl, ?_⟩; clear a; intro a hE
         refine vP hS hE (Gives.p hE rfl) rfl ?_; clear hE a; intro a hE
         refine WL.nil ?_
         refine W.cond hE rfl (fun hc205 => ?_) (fun hc205 => ?_)
         ·replace hq189 := iteT hc205 hq189
          refine W.seq (W.region ?_)
          refine vP hS hE (Gives.p hE rfl) rfl ?_; clear hE a; intro a hE
          refine WL.nil ?_
          refine W.ret ?_
          subst hK200
          subst hK175
          rw [← hq189] at hq163
          dsimp only at hq163
          rw [← Option.some.inj hq163] at hr
          dsimp only at hr
          refine finG (fn := Tryd.f56) (rs := [.tmp 2]) (vs := [_]) hE rfl ⟨rfl, trivial⟩ ?_
          obtain rfl := Option.some.inj hr
          replace hS := hS.tail
          replace hS := hS.tail
          exact ⟨rfl, (hS.down hle162)⟩
         ·replace hq189 := iteF hc205 hq189
          refine W.skip ?_
          refine W.region ?_
          refine vP hS hE (Gives.inc hE rfl (by have := h188.small; omega)) rfl ?_; clear hE a; intro a hE
          refine vP hS hE (Gives.p hE rfl) rfl ?_; clear hE a; intro a hE
          refine WL.nil ?_
          subst hK200
          exact ⟨rest193.length, Nat.lt_succ_self _, rest193, k191 + 1, rfl, hd194, hq189, hE.pick _ ⟨rfl, rfl, rfl, rfl, rfl, rfl, trivial⟩, hS⟩
       ·clear hE hS a w; rintro a w ⟨rfl, hE, hS⟩
        dsimp only at hq163
        refine W.region ?_
        refine vP hS hE (Gives.inc hE rfl (by omega)) rfl ?_; clear hE a; intro a hE
        refine vP hS hE (Gives.p hE rfl) rfl ?_; clear hE a; intro a hE
        refine WL.nil ?_
        subst hK175
        exact ⟨rest167, Nat.lt_succ_self _, rest167, k165 + 1, rfl, (by omega), hq163, hE.pick _ ⟨rfl, rfl, rfl, trivial⟩, hS⟩
     ·clear hE hS a w; rintro a w ⟨rfl, hE, hS⟩
      dsimp only at hr
      refine W.seq (W.region ?_)
      refine vP hS hE (Gives.p hE rfl) rfl ?_; clear hE a; intro a hE
      refine WL.nil ?_
      refine W.ret ?_
      refine finG (fn := Tryd.f56) (rs := [.tmp 2]) (vs := [_]) hE rfl ⟨rfl, trivial⟩ ?_
      obtain rfl := Option.some.inj hr
      replace hS := hS.tail
      replace hS := hS.tail
      exact ⟨rfl, (hS.down hle162)⟩
set_option maxHeartbeats 8000000 in
theorem Fishref2GuideFault_ok  {w : World} {s : Sg} {R : List HP} {x0 : ApiDay} {a0_0 : Option Addr} {c0_0 : Nat} {a0_1 : Option Addr} {c0_1 : Nat} (hS : St w s (R)) (h0_0 : Sl 4 RApiTrain s a0_0 c0_0 x0.Trains) (h0_1 : Sl 1 (RL 1 (RI .i64)) s a0_1 c0_1 x0.Turns) {r : Int} (hr : Fishref2GuideFault x0 = some r) :
  Calls Tryd.prog 12 [.agg [.slice a0_0 x0.Trains.length c0_0, .slice a0_1 x0.Turns.length c0_1].toArray].toArray w (fun e w => e = .returned (.int .i64 r) ∧ St w s (R)) := by
 refine enter Tryd.func12 rfl rfl rfl fun a hE => ?_
 rw [Fishref2GuideFault] at hr
 refine W.seq (W.region ?_)
 refine WL.box hE hS (runs_plain rfl) rfl rfl rfl ?_; clear hE hS a w; intro b51 a w hE hS
 refine vP hS hE (Gives.p hE rfl) rfl ?_; clear hE a; intro a hE
 refine WL.nil ?_
 refine W.seq ?_
 refine W.seq (W.region ?_)
 refine vP hS hE (Gives.loadBA hE 0 rfl rfl ty25) rfl ?_; clear hE a; intro a hE
 obtain ⟨q52, hq53, hr⟩ := bindS hr
 have hc_ := Fishref2TextFault_ok hS h0_0 h0_1 hq53
 refine WL.fnq hE (hc_) (runs_plain rfl) bd56 rfl rfl rfl ?_
 clear hE hS hc_; rintro e w ⟨rfl, hS⟩; refine ⟨_, rfl, ?_⟩; clear a; intro a hE
 refine vP hS hE (Gives.p hE rfl) rfl ?_; clear hE a; intro a hE
 refine WL.nil ?_
 refine W.seq (W.region ?_)
 refine vP hS hE (Gives.p hE rfl) rfl ?_; clear hE a; intro a hE
 refine vP hS hE (Gives.p hE rfl) rfl ?_; clear hE a; intro a hE
 refine WL.nil ?_
 refine W.cond hE rfl (fun hc54 => ?_) (fun hc54 => ?_)
 ·replace hr := iteT hc54 hr
  refine W.seq (W.region ?_)
  refine vP hS hE (Gives.p hE rfl) rfl ?_; clear hE a; intro a hE
  refine vP hS hE (Gives.p hE rfl) rfl ?_; clear hE a; intro a hE
  refine WL.nil ?_
  refine W.ret ?_
  refine finG (fn := Tryd.f12) (rs := [.tmp 2]) (vs := [_]) hE rfl ⟨rfl, trivial⟩ ?_
  obtain rfl := Option.some.inj hr
  replace hS := hS.tail
  exact ⟨rfl, hS⟩
 ·replace hr := iteF hc54 hr
  refine W.skip ?_
  refine W.seq ?_
  refine W.seq (W.region ?_)
  refine vP hS hE (Gives.fld hE rfl fl25_0) rfl ?_; clear hE a; intro a hE
  refine vP hS hE (Gives.loadB hE 0 rfl rfl rfl ty22) rfl ?_; clear hE a; intro a hE
  refine vP hS hE (Gives.len hE rfl sl22) rfl ?_; clear hE a; intro a hE
  refine vP hS hE (Gives.p hE rfl) rfl ?_; clear hE a; intro a hE
  refine WL.nil ?_
  obtain ⟨q56, hq55, hr⟩ := bindS hr
  refine W.cut (fun a w => (.next ()) = q56 ∧ Rep a 93 [] ∧ St w s (pt b51 (.cells #[.slice a0_0 x0.Trains.length c0_0, .slice a0_1 x0.Turns.length c0_1] 25 (0, 0)) :: R)) ?_ ?_
  ·refine W.block ?_
   refine W.loop (fun m a w => ∃ (rest59 : List ApiTrain) (k57 : Nat), rest59.length = m ∧ x0.Trains.drop k57 = rest59 ∧ Fishref2GuideFault.loop1 x0 rest59 k57 = some q56 ∧ Rep a 93 [(1, .pointer (some ⟨b51, 0, none⟩)), (16, .slice a0_0 x0.Trains.length c0_0), (17, .int .i64 ((x0.Trains).length : Int)), (18, .int .i64 ((k57 : Nat) : Int))] ∧ St w s (pt b51 (.cells #[.slice a0_0 x0.Trains.length c0_0, .slice a0_1 x0.Turns.length c0_1] 25 (0, 0)) :: R)) (m := x0.Trains.length) ⟨x0.Trains, 0, rfl, rfl, hq55, hE.pick _ ⟨rfl, rfl, rfl, rfl, trivial⟩, hS⟩ ?_
   clear hE hS a w hq55; rintro m63 a w ⟨rest59, k57, rfl, hd60, hq55, hE, hS⟩
   refine W.gen fun K66 hK66 => ?_
   rcases rest59 with _ | ⟨x58, rest59⟩
   ·have hlt61 := drop_nil hd60
    refine W.seq (W.region ?_)
    refine vP hS hE (Gives.p hE rfl) rfl ?_; clear hE a; intro a hE
    refine WL.nil ?_
    refine W.seq ?_
    refine W.condF hE rfl (decide_eq_false (by omega)) ?_
    subst hK66
    refine W.exit rfl ?_
    exact ⟨Option.some.inj hq55, hE.pick _ trivial, hS⟩
   ·obtain ⟨hlt61, hx62, hd60⟩ := drop_cons hd60
    rw [Fishref2GuideFault.loop1] at hq55
    refine W.seq (W.region ?_)
    refine vP hS hE (Gives.p hE rfl) rfl ?_; clear hE a; intro a hE
    refine WL.nil ?_
    refine W.seq ?_
    refine W.condT hE rfl (decide_eq_true (by omega)) ?_
    refine W.skip ?_
    refine W.seq ?_
    refine W.block ?_
    refine W.seq (W.region ?_)
    refine vP hS hE (Gives.p hE rfl) rfl ?_; clear hE a; intro a hE
    obtain ⟨cs67, hl68, hR69, hat70⟩ := h0_0.at hx62
    obtain ⟨a71, c72, a74, c75, rfl, h73, h76⟩ := hR69
    refine vP hS hE (Gives.idx hE k57 rfl rfl sl22 rfl hlt61 (h0_0.aok hlt61)) rfl ?_; clear hE a; intro a hE
    refine vP hS hE (Gives.loadA hE rfl (fun w h => hat70 w _ h) ty44) rfl ?_; clear hE a; intro a hE
    refine WL.alloc hE hS (runs_plain rfl) zr44 rfl ?_; clear hE hS a w; intro b77 a w hE hS
    refine vP hS hE (Gives.p hE rfl) rfl ?_; clear hE a; intro a hE
    refine WL.storeI hE hS 0 rfl [.int .i64 x58.No, .int .i64 x58.Stock, .slice a71 x58.Stops.length c72, .slice a74 x58.Legs.length c75] (runs_plain rfl) rfl rfl rfl ty44 rfl rfl rfl rfl ?_; clear hE hS a w; intro a w hE hS
    refine WL.nil ?_
    refine W.seq ?_
    refine W.seq (W.region ?_)
    refine vP hS hE (Gives.fld hE rfl fl44_0) rfl ?_; clear hE a; intro a hE
    refine vP hS hE (Gives.loadB hE 0 rfl rfl rfl ty3) rfl ?_; clear hE a; intro a hE
    refine WL.fnq hE (Fishref2within_ok hS  rfl (r := Fishref2within x58.No 1 9999)) (runs_plain rfl) bd57 rfl rfl rfl ?_
    clear hE hS; rintro e w ⟨rfl, hS⟩; refine ⟨_, rfl, ?_⟩; clear a; intro a hE
    refine vP hS hE (Gives.p hE rfl) rfl ?_; clear hE a; intro a hE
    refine WL.nil ?_
    refine W.cond hE rfl (fun hc78 => ?_) (fun hc78 => ?_)
    ·replace hq55 := iteT hc78 hq55
     refine W.seq (W.region ?_)
     refine vP hS hE (Gives.p hE rfl) rfl ?_; clear hE a; intro a hE
     refine WL.nil ?_
     refine W.ret ?_
     subst hK66
     rw [← Option.some.inj hq55] at hr
     dsimp only at hr
     refine finG (fn := Tryd.f12) (rs := [.tmp 2]) (vs := [_]) hE rfl ⟨rfl, trivial⟩ ?_
     obtain rfl := Option.some.inj hr
     replace hS := hS.tail
     replace hS := hS.tail
     exact ⟨rfl, hS⟩
    ·replace hq55 := iteF hc78 hq55
     refine W.skip ?_
     refine W.seq ?_
     refine W.seq (W.region ?_)
     refine vP hS hE (Gives.fld hE rfl fl25_0) rfl ?_; clear hE a; intro a hE
     refine vP hS hE (Gives.loadB hE 1 rfl rfl rfl ty22) rfl ?_; clear hE a; intro a hE
     refine vP hS hE (Gives.p hE rfl) rfl ?_; clear hE a; intro a hE
     obtain ⟨x79, hx80, hq55⟩ := bindS hq55
     obtain ⟨a81, c82, heq83, h84⟩ := h0_0.cut hx80
     obtain ⟨h85, h86, h87, _⟩ := cutl_some hx80
     refine vP hS hE (Gives.slH hE sl22 rfl rfl (by omega) (by have := h0_0.len; omega) heq83) rfl ?_; clear hE a; intro a hE
     refine vP hS hE (Gives.len hE rfl sl22) rfl ?_; clear hE a; intro a hE
     refine vP hS hE (Gives.p hE rfl) rfl ?_; clear hE a; intro a hE
     refine WL.nil ?_
     obtain ⟨q89, hq88, hq55⟩ := bndS hq55
     refine W.cut (fun a w => (.next ()) = q89 ∧ Rep a 93 [(1, .pointer (some ⟨b51, 0, none⟩)), (5, .pointer (some ⟨b77, 0, none⟩)), (16, .slice a0_0 x0.Trains.length c0_0), (17, .int .i64 ((x0.Trains).length : Int)), (18, .int .i64 ((k57 : Nat) : Int))] ∧ St w s (pt b77 (.cells #[.int .i64 x58.No, .int .i64 x58.Stock, .slice a71 x58.Stops.length c72, .slice a74 x58.Legs.length c75] 44 (0, 0)) :: pt b51 (.cells #[.slice a0_0 x0.Trains.length c0_0, .slice a0_1 x0.Turns.length c0_1] 25 (0, 0)) :: R)) ?_ ?_
     ·refine W.block ?_
      refine W.loop (fun m a w => ∃ (rest92 : List ApiTrain) (k90 : Nat), rest92.length = m ∧ x79.drop k90 = rest92 ∧ Fishref2GuideFault.loop2 x58 rest92 = q89 ∧ Rep a 93 [(1, .pointer (some ⟨b51, 0, none⟩)), (5, .pointer (some ⟨b77, 0, none⟩)), (16, .slice a0_0 x0.Trains.length c0_0), (17, .int .i64 ((x0.Trains).length : Int)), (18, .int .i64 ((k57 : Nat) : Int)), (30, .slice a81 x79.length c82), (31, .int .i64 ((x79).length : Int)), (32, .int .i64 ((k90 : Nat) : Int))] ∧ St w s (pt b77 (.cells #[.int .i64 x58.No, .int .i64 x58.Stock, .slice a71 x58.Stops.length c72, .slice a74 x58.Legs.length c75] 44 (0, 0)) :: pt b51 (.cells #[.slice a0_0 x0.Trains.length c0_0, .slice a0_1 x0.Turns.length c0_1] 25 (0, 0)) :: R)) (m := x79.length) ⟨x79, 0, rfl, rfl, hq88, hE.pick _ ⟨rfl, rfl, rfl, rfl, rfl, rfl, rfl, rfl, trivial⟩, hS⟩ ?_
      clear hE hS a w hq88; rintro m96 a w ⟨rest92, k90, rfl, hd93, hq88, hE, hS⟩
      refine W.gen fun K99 hK99 => ?_
      rcases rest92 with _ | ⟨x91, rest92⟩
      ·have hlt94 := drop_nil hd93
       refine W.seq (W.region ?_)
       refine vP hS hE (Gives.p hE rfl) rfl ?_; clear hE a; intro a hE
       refine WL.nil ?_
       refine W.seq ?_
       refine W.condF hE rfl (decide_eq_false (by omega)) ?_
       subst hK99
       refine W.exit rfl ?_
       exact ⟨hq88, hE.pick _ ⟨rfl, rfl, rfl, rfl, rfl, trivial⟩, hS⟩
      ·obtain ⟨hlt94, hx95, hd93⟩ := drop_cons hd93
       rw [Fishref2GuideFault.loop2] at hq88
       refine W.seq (W.region ?_)
       refine vP hS hE (Gives.p hE rfl) rfl ?_; clear hE a; intro a hE
       refine WL.nil ?_
       refine W.seq ?_
       refine W.condT hE rfl (decide_eq_true (by omega)) ?_
       refine W.skip ?_
       refine W.seq ?_
       refine W.block ?_
       refine W.seq (W.region ?_)
       obtain ⟨cs100, hl101, hR102, hat103⟩ := h84.at hx95
       obtain ⟨a104, c105, a107, c108, rfl, h106, h109⟩ := hR102
       refine vP hS hE (Gives.idx hE k90 rfl rfl sl22 rfl hlt94 (h84.aok hlt94)) rfl ?_; clear hE a; intro a hE
       refine vP hS hE (Gives.loadA hE rfl (fun w h => hat103 w _ h) ty44) rfl ?_; clear hE a; intro a hE
       refine WL.alloc hE hS (runs_plain rfl) zr44 rfl ?_; clear hE hS a w; intro b110 a w hE hS
       refine WL.storeI hE hS 0 rfl [.int .i64 x91.No, .int .i64 x91.Stock, .slice a104 x91.Stops.length c105, .slice a107 x91.Legs.length c108] (runs_plain rfl) rfl rfl rfl ty44 rfl rfl rfl rfl ?_; clear hE hS a w; intro a w hE hS
       refine WL.nil ?_
       refine W.seq (W.region ?_)
       refine vP hS hE (Gives.fld hE rfl fl44_0) rfl ?_; clear hE a; intro a hE
       refine vP hS hE (Gives.loadB hE 0 rfl rfl rfl ty3) rfl ?_; clear hE a; intro a hE
       refine vP hS hE (Gives.fld hE rfl fl44_0) rfl ?_; clear hE a; intro a hE
       refine vP hS hE (Gives.loadB hE 1 rfl rfl rfl ty3) rfl ?_; clear hE a; intro a hE
       refine vP hS hE (Gives.p hE rfl) rfl ?_; clear hE a; intro a hE
       refine WL.nil ?_
       refine W.cond hE rfl (fun hc111 => ?_) (fun hc111 => ?_)
       ·replace hq88 := iteT hc111 hq88
        refine W.seq (W.region ?_)
        refine vP hS hE (Gives.p hE rfl) rfl ?_; clear hE a; intro a hE
        refine WL.nil ?_
        refine W.ret ?_
        subst hK99
        subst hK66
        rw [← hq88] at hq55
        dsimp only at hq55
        rw [← Option.some.inj hq55] at hr
        dsimp only at hr
        refine finG (fn := Tryd.f12) (rs := [.tmp 2]) (vs := [_]) hE rfl ⟨rfl, trivial⟩ ?_
        obtain rfl := Option.some.inj hr
        replace hS := hS.tail
        replace hS := hS.tail
        replace hS := hS.tail
        exact ⟨rfl, hS⟩
       ·replace hq88 := iteF hc111 hq88
        refine W.skip ?_
        refine W.region ?_
        refine vP hS hE (Gives.inc hE rfl (by have := h84.small; omega)) rfl ?_; clear hE a; intro a hE
        refine vP hS hE (Gives.p hE rfl) rfl ?_; clear hE a; intro a hE
        refine WL.nil ?_
        replace hS := hS.tail
        subst hK99
        exact ⟨rest92.length, Nat.lt_succ_self _, rest92, k90 + 1, rfl, hd93, hq88, hE.pick _ ⟨rfl, rfl, rfl, rfl, rfl, rfl, rfl, rfl, trivial⟩, hS⟩
     ·clear hE hS a w; rintro a w ⟨rfl, hE, hS⟩
      dsimp only at hq55
      refine W.seq ?_
      refine W.seq (W.region ?_)
      refine vP hS hE (Gives.fld hE rfl fl44_2) rfl ?_; clear hE a; intro a hE
      refine vP hS hE (Gives.loadB hE 0 rfl rfl rfl ty42) rfl ?_; clear hE a; intro a hE
      refine vP hS hE (Gives.len hE rfl sl42) rfl ?_; clear hE a; intro a hE
      refine vP hS hE (Gives.p hE rfl) rfl ?_; clear hE a; intro a hE
      refine WL.nil ?_
      refine W.cond hE rfl (fun hc112 => ?_) (fun hc112 => ?_)
      ·replace hq55 := iteT hc112 hq55
       refine W.seq (W.region ?_)
       refine vP hS hE (Gives.p hE rfl) rfl ?_; clear hE a; intro a hE
       refine WL.nil ?_
       refine W.ret ?_
       subst hK66
       rw [← Option.some.inj hq55] at hr
       dsimp only at hr
       refine finG (fn := Tryd.f12) (rs := [.tmp 2]) (vs := [_]) hE rfl ⟨rfl, trivial⟩ ?_
       obtain rfl := Option.some.inj hr
       replace hS := hS.tail
       replace hS := hS.tail
       exact ⟨rfl, hS⟩
      ·replace hq55 := iteF hc112 hq55
       refine W.skip ?_
       refine W.seq (W.region ?_)
       refine vP hS hE (Gives.fld hE rfl fl44_2) rfl ?_; clear hE a; intro a hE
       refine vP hS hE (Gives.loadB hE 0 rfl rfl rfl ty42) rfl ?_; clear hE a; intro a hE
       refine vP hS hE (Gives.len hE rfl sl42) rfl ?_; clear hE a; intro a hE
       refine vP hS hE (Gives.p hE rfl) rfl ?_; clear hE a; intro a hE
       refine WL.nil ?_
       obtain ⟨q114, hq113, hq55⟩ := bindS hq55
       refine W.cut (fun a w => (.next ()) = q114 ∧ Rep a 93 [(1, .pointer (some ⟨b51, 0, none⟩)), (16, .slice a0_0 x0.Trains.length c0_0), (17, .int .i64 ((x0.Trains).length : Int)), (18, .int .i64 ((k57 : Nat) : Int))] ∧ St w s (pt b77 (.cells #[.int .i64 x58.No, .int .i64 x58.Stock, .slice a71 x58.Stops.length c72, .slice a74 x58.Legs.length c75] 44 (0, 0)) :: pt b51 (.cells #[.slice a0_0 x0.Trains.length c0_0, .slice a0_1 x0.Turns.length c0_1] 25 (0, 0)) :: R)) ?_ ?_
       ·refine W.block ?_
        refine W.loop (fun m a w => ∃ (rest117 : List ApiStop) (k115 : Nat), rest117.length = m ∧ x58.Stops.drop k115 = rest117 ∧ Fishref2GuideFault.loop3 x58 rest117 k115 = some q114 ∧ Rep a 93 [(1, .pointer (some ⟨b51, 0, none⟩)), (5, .pointer (some ⟨b77, 0, none⟩)), (16, .slice a0_0 x0.Trains.length c0_0), (17, .int .i64 ((x0.Trains).length : Int)), (18, .int .i64 ((k57 : Nat) : Int)), (47, .slice a71 x58.Stops.length c72), (48, .int .i64 ((x58.Stops).length : Int)), (49, .int .i64 ((k115 : Nat) : Int))] ∧ St w s (pt b77 (.cells #[.int .i64 x58.No, .int .i64 x58.Stock, .slice a71 x58.Stops.length c72, .slice a74 x58.Legs.length c75] 44 (0, 0)) :: pt b51 (.cells #[.slice a0_0 x0.Trains.length c0_0, .slice a0_1 x0.Turns.length c0_1] 25 (0, 0)) :: R)) (m := x58.Stops.length) ⟨x58.Stops, 0, rfl, rfl, hq113, hE.pick _ ⟨rfl, rfl, rfl, rfl, rfl, rfl, rfl, rfl, trivial⟩, hS⟩ ?_
        clear hE hS a w hq113; rintro m121 a w ⟨rest117, k115, rfl, hd118, hq113, hE, hS⟩
        refine W.gen fun K124 hK124 => ?_
        rcases rest117 with _ | ⟨x116, rest117⟩
        ·have hlt119 := drop_nil hd118
         refine W.seq (W.region ?_)
         refine vP hS hE (Gives.p hE rfl) rfl ?_; clear hE a; intro a hE
         refine WL.nil ?_
         refine W.seq ?_
         refine W.condF hE rfl (decide_eq_false (by omega)) ?_
         subst hK124
         refine W.exit rfl ?_
         exact ⟨Option.some.inj hq113, hE.pick _ ⟨rfl, rfl, rfl, rfl, trivial⟩, hS⟩
        ·obtain ⟨hlt119, hx120, hd118⟩ := drop_cons hd118
         rw [Fishref2GuideFault.loop3] at hq113
         refine W.seq (W.region ?_)
         refine vP hS hE (Gives.p hE rfl) rfl ?_; clear hE a; intro a hE
         refine WL.nil ?_
         refine W.seq ?_
         refine W.condT hE rfl (decide_eq_true (by omega)) ?_
         refine W.skip ?_
         refine W.seq ?_
         refine W.block ?_
         refine W.seq (W.region ?_)
         refine vP hS hE (Gives.p hE rfl) rfl ?_; clear hE a; intro a hE
         obtain ⟨cs125, hl126, hR127, hat128⟩ := h73.at hx120
         subst hR127
         refine vP hS hE (Gives.idx hE k115 rfl rfl sl42 rfl hlt119 (h73.aok hlt119)) rfl ?_; clear hE a; intro a hE
         refine vP hS hE (Gives.loadA hE rfl (fun w h => hat128 w _ h) ty106) rfl ?_; clear hE a; intro a hE
         refine WL.alloc hE hS (runs_plain rfl) zr106 rfl ?_; clear hE hS a w; intro b129 a w hE hS
         refine vP hS hE (Gives.p hE rfl) rfl ?_; clear hE a; intro a hE
         refine WL.storeI hE hS 0 rfl (ApiStop.cells x116) (runs_plain rfl) rfl rfl rfl ty106 rfl rfl rfl rfl ?_; clear hE hS a w; intro a w hE hS
         refine WL.nil ?_
         refine W.seq ?_
         refine W.seq ?_
         obtain ⟨q131, hq130, hq113⟩ := bndS hq113
         refine W.cut (fun a w => ∃ (q134 : Bool), q134 = q131 ∧ Rep a 93 [(1, .pointer (some ⟨b51, 0, none⟩)), (5, .pointer (some ⟨b77, 0, none⟩)), (8, .int .i64 ((k115 : Nat) : Int)), (9, .pointer (some ⟨b129, 0, none⟩)), (16, .slice a0_0 x0.Trains.length c0_0), (17, .int .i64 ((x0.Trains).length : Int)), (18, .int .i64 ((k57 : Nat) : Int)), (47, .slice a71 x58.Stops.length c72), (48, .int .i64 ((x58.Stops).length : Int)), (49, .int .i64 ((k115 : Nat) : Int)), (69, .bool q134)] ∧ St w s (pt b129 (.cells (ApiStop.cells x116).toArray 106 (0, 0)) :: pt b77 (.cells #[.int .i64 x58.No, .int .i64 x58.Stock, .slice a71 x58.Stops.length c72, .slice a74 x58.Legs.length c75] 44 (0, 0)) :: pt b51 (.cells #[.slice a0_0 x0.Trains.length c0_0, .slice a0_1 x0.Turns.length c0_1] 25 (0, 0)) :: R)) ?_ ?_
         ·refine W.gen fun K135 hK135 => ?_
          refine W.region ?_
          refine vP hS hE (Gives.fld hE rfl fl106_0) rfl ?_; clear hE a; intro a hE
          refine vP hS hE (Gives.loadB hE 0 rfl rfl rfl ty3) rfl ?_; clear hE a; intro a hE
          refine WL.fnq hE (Fishref2within_ok hS  rfl (r := Fishref2within x116.Station 0 11)) (runs_plain rfl) bd57 rfl rfl rfl ?_
          clear hE hS; rintro e w ⟨rfl, hS⟩; refine ⟨_, rfl, ?_⟩; clear a; intro a hE
          refine vP hS hE (Gives.p hE rfl) rfl ?_; clear hE a; intro a hE
          refine vP hS hE (Gives.p hE rfl) rfl ?_; clear hE a; intro a hE
          rcases Bool.eq_false_or_eq_true (!(Fishref2within x116.Station 0 11)) with hg136 | hg136
          ·replace hq130 := iteT hg136 hq130
           refine WL.no hE (runs_not hE rfl rfl rfl (by rw [hg136]; decide)) rfl ?_; clear hE a; intro a hE
           refine WL.no hE (runs_not hE rfl rfl rfl (by rw [hg136]; decide)) rfl ?_; clear hE a; intro a hE
           refine WL.no hE (runs_not hE rfl rfl rfl (by rw [hg136]; decide)) rfl ?_; clear hE a; intro a hE
           refine WL.no hE (runs_not hE rfl rfl rfl (by rw [hg136]; decide)) rfl ?_; clear hE a; intro a hE
           refine vP hS hE (Gives.pickT hE rfl hg136 rfl) rfl ?_; clear hE a; intro a hE
           refine vP hS hE (Gives.p hE rfl) rfl ?_; clear hE a; intro a hE
           refine WL.no hE (runs_not hE rfl rfl rfl (by decide)) rfl ?_; clear hE a; intro a hE
           refine WL.no hE (runs_not hE rfl rfl rfl (by decide)) rfl ?_; clear hE a; intro a hE
           refine WL.no hE (runs_not hE rfl rfl rfl (by decide)) rfl ?_; clear hE a; intro a hE
           refine WL.no hE (runs_not hE rfl rfl rfl (by decide)) rfl ?_; clear hE a; intro a hE
           refine vP hS hE (Gives.pickT hE rfl rfl rfl) rfl ?_; clear hE a; intro a hE
           refine WL.nil ?_
           subst hK135
           exact ⟨true, hq130, hE.pick _ ⟨rfl, rfl, rfl, rfl, rfl, rfl, rfl, rfl, rfl, rfl, rfl, trivial⟩, hS⟩
          ·replace hq130 := iteF hg136 hq130
           refine WL.vS hS hE (runs_if hE rfl rfl rfl hg136) (Gives.fld hE rfl fl106_2) rfl ?_; clear hE a; intro a hE
           refine WL.vS hS hE (runs_if hE rfl rfl rfl hg136) (Gives.loadB hE 0 rfl rfl rfl ty3) rfl ?_; clear hE a; intro a hE
           refine WL.fnq hE (Fishref2within_ok hS  rfl (r := Fishref2within x116.Arr 0 28800)) (runs_if hE rfl rfl rfl hg136) bd57 rfl rfl rfl ?_
           clear hE hS; rintro e w ⟨rfl, hS⟩; refine ⟨_, rfl, ?_⟩; clear a; intro a hE
           refine WL.vS hS hE (runs_if hE rfl rfl rfl hg136) (Gives.p hE rfl) rfl ?_; clear hE a; intro a hE
           refine vP hS hE (Gives.pickF hE rfl hg136 rfl) rfl ?_; clear hE a; intro a hE
           refine vP hS hE (Gives.p hE rfl) rfl ?_; clear hE a; intro a hE
           rcases Bool.eq_false_or_eq_true (!(Fishref2within x116.Arr 0 28800)) with hg137 | hg137
           ·replace hq130 := iteT hg137 hq130
            refine WL.no hE (runs_not hE rfl rfl rfl (by rw [hg137]; decide)) rfl ?_; clear hE a; intro a hE
            refine WL.no hE (runs_not hE rfl rfl rfl (by rw [hg137]; decide)) rfl ?_; clear hE a; intro a hE
            refine WL.no hE (runs_not hE rfl rfl rfl (by rw [hg137]; decide)) rfl ?_; clear hE a; intro a hE
            refine WL.no hE (runs_not hE rfl rfl rfl (by rw [hg137]; decide)) rfl ?_; clear hE a; intro a hE
            refine vP hS hE (Gives.pickT hE rfl hg137 rfl) rfl ?_; clear hE a; intro a hE
            refine WL.nil ?_
            subst hK135
            exact ⟨true, hq130, hE.pick _ ⟨rfl, rfl, rfl, rfl, rfl, rfl, rfl, rfl, rfl, rfl, rfl, trivial⟩, hS⟩
           ·replace hq130 := iteF hg137 hq130
            refine WL.vS hS hE (runs_if hE rfl rfl rfl hg137) (Gives.fld hE rfl fl106_3) rfl ?_; clear hE a; intro a hE
            refine WL.vS hS hE (runs_if hE rfl rfl rfl hg137) (Gives.loadB hE 0 rfl rfl rfl ty3) rfl ?_; clear hE a; intro a hE
            refine WL.fnq hE (Fishref2within_ok hS  rfl (r := Fishref2within x116.Dep 0 28800)) (runs_if hE rfl rfl rfl hg137) bd57 rfl rfl rfl ?_
            clear hE hS; rintro e w ⟨rfl, hS⟩; refine ⟨_, rfl, ?_⟩; clear a; intro a hE
            refine WL.vS hS hE (runs_if hE rfl rfl rfl hg137) (Gives.p hE rfl) rfl ?_; clear hE a; intro a hE
            refine vP hS hE (Gives.pickF hE rfl hg137 rfl) rfl ?_; clear hE a; intro a hE
            refine WL.nil ?_
            subst hK135
            exact ⟨!(Fishref2within x116.Dep 0 28800), hq130, hE.pick _ ⟨rfl, rfl, rfl, rfl, rfl, rfl, rfl, rfl, rfl, rfl, rfl, trivial⟩, hS⟩
         ·clear hE hS a w; rintro a w ⟨q134, rfl, hE, hS⟩
          refine W.cond hE rfl (fun hc138 => ?_) (fun hc138 => ?_)
          ·replace hq113 := iteT hc138 hq113
           refine W.seq (W.region ?_)
           refine vP hS hE (Gives.p hE rfl) rfl ?_; clear hE a; intro a hE
           refine WL.nil ?_
           refine W.ret ?_
           subst hK124
           subst hK66
           rw [← Option.some.inj hq113] at hq55
           dsimp only at hq55
           rw [← Option.some.inj hq55] at hr
           dsimp only at hr
           refine finG (fn := Tryd.f12) (rs := [.tmp 2]) (vs := [_]) hE rfl ⟨rfl, trivial⟩ ?_
           obtain rfl := Option.some.inj hr
           replace hS := hS.tail
           replace hS := hS.tail
           replace hS := hS.tail
           exact ⟨rfl, hS⟩
          ·replace hq113 := iteF hc138 hq113
           refine W.skip ?_
           refine W.seq ?_
           obtain ⟨q140, hq139, hq113⟩ := bindS hq113
           refine W.cut (fun a w => ∃ (q143 : Bool), q143 = q140 ∧ Rep a 93 [(1, .pointer (some ⟨b51, 0, none⟩)), (5, .pointer (some ⟨b77, 0, none⟩)), (16, .slice a0_0 x0.Trains.length c0_0), (17, .int .i64 ((x0.Trains).length : Int)), (18, .int .i64 ((k57 : Nat) : Int)), (47, .slice a71 x58.Stops.length c72), (48, .int .i64 ((x58.Stops).length : Int)), (49, .int .i64 ((k115 : Nat) : Int)), (90, .bool q143)] ∧ St w s (pt b129 (.cells (ApiStop.cells x116).toArray 106 (0, 0)) :: pt b77 (.cells #[.int .i64 x58.No, .int .i64 x58.Stock, .slice a71 x58.Stops.length c72, .slice a74 x58.Legs.length c75] 44 (0, 0)) :: pt b51 (.cells #[.slice a0_0 x0.Trains.length c0_0, .slice a0_1 x0.Turns.length c0_1] 25 (0, 0)) :: R)) ?_ ?_
           ·refine W.gen fun K144 hK144 => ?_
            refine W.regionQ (C := fun w => St w s (pt b129 (.cells (ApiStop.cells x116).toArray 106 (0, 0)) :: pt b77 (.cells #[.int .i64 x58.No, .int .i64 x58.Stock, .slice a71 x58.Stops.length c72, .slice a74 x58.Legs.length c75] 44 (0, 0)) :: pt b51 (.cells #[.slice a0_0 x0.Trains.length c0_0, .slice a0_1 x0.Turns.length c0_1] 25 (0, 0)) :: R)) mixed (by kernel_rfl) hS.drew ?_
            refine qP hE (Gives.fld hE rfl fl106_3) rfl ?_; clear hE a; intro a hE
            refine qP hE (Gives.loadB hE 0 rfl rfl rfl ty3) rfl ?_; clear hE a; intro a hE
            refine qP hE (Gives.fld hE rfl fl106_2) rfl ?_; clear hE a; intro a hE
            refine qP hE (Gives.loadB hE 0 rfl rfl rfl ty3) rfl ?_; clear hE a; intro a hE
            refine qP hE (Gives.p hE rfl) rfl ?_; clear hE a; intro a hE
            refine qP hE (Gives.p hE rfl) rfl ?_; clear hE a; intro a hE
            rcases Bool.eq_false_or_eq_true (decide (x116.Dep < x116.Arr)) with hg145 | hg145
            ·replace hq139 := iteT hg145 hq139
             refine QL.no hE (runs_not hE rfl rfl rfl (by rw [hg145]; decide)) rfl ?_; clear hE a; intro a hE
             refine QL.no hE (runs_not hE rfl rfl rfl (by rw [hg145]; decide)) rfl ?_; clear hE a; intro a hE
             refine QL.no hE (runs_not hE rfl rfl rfl (by rw [hg145]; decide)) rfl ?_; clear hE a; intro a hE
             refine QL.no hE (runs_undef hE rfl rfl rfl) rfl ?_; clear hE a; intro a hE
             refine QL.no hE (runs_undef hE rfl rfl rfl) rfl ?_; clear hE a; intro a hE
             refine QL.no hE (runs_undef hE rfl rfl rfl) rfl ?_; clear hE a; intro a hE
             refine QL.no hE (runs_undef hE rfl rfl rfl) rfl ?_; clear hE a; intro a hE
             refine QL.no hE (runs_undef hE rfl rfl rfl) rfl ?_; clear hE a; intro a hE
             refine QL.no hE (runs_undef hE rfl rfl rfl) rfl ?_; clear hE a; intro a hE
             refine QL.no hE (runs_undef hE rfl rfl rfl) rfl ?_; clear hE a; intro a hE
             refine QL.no hE (runs_undef hE rfl rfl rfl) rfl ?_; clear hE a; intro a hE
             refine QL.no hE (runs_undef hE rfl rfl rfl) rfl ?_; clear hE a; intro a hE
             refine QL.no hE (runs_undef hE rfl rfl rfl) rfl ?_; clear hE a; intro a hE
             refine QL.no hE (runs_not hE rfl rfl rfl (by rw [hg145]; decide)) rfl ?_; clear hE a; intro a hE
             refine qP hE (Gives.pickT hE rfl hg145 rfl) rfl ?_; clear hE a; intro a hE
             refine QL.nil ?_; clear hS w; intro w hS
             subst hK144
             exact ⟨true, Option.some.inj hq139, hE.pick _ ⟨rfl, rfl, rfl, rfl, rfl, rfl, rfl, rfl, rfl, trivial⟩, hS⟩
            ·replace hq139 := iteF hg145 hq139
             refine QL.v hE (runs_if hE rfl rfl rfl hg145) (Gives.p hE rfl) rfl ?_; clear hE a; intro a hE
             refine QL.v hE (runs_if hE rfl rfl rfl hg145) (Gives.p hE rfl) rfl ?_; clear hE a; intro a hE
             refine QL.v hE (runs_if hE rfl rfl rfl hg145) (Gives.p hE rfl) rfl ?_; clear hE a; intro a hE
             rcases Bool.eq_false_or_eq_true (decide (((k115 : Nat) : Int) > 0)) with hg146 | hg146
             ·replace hq139 := iteT hg146 hq139
              refine QL.v hE (runs_if hE rfl rfl rfl hg146) (Gives.fld hE rfl fl106_2) rfl ?_; clear hE a; intro a hE
              refine QL.v hE (runs_if hE rfl rfl rfl hg146) (Gives.loadB hE 0 rfl rfl rfl ty3) rfl ?_; clear hE a; intro a hE
              refine QL.v hE (runs_if hE rfl rfl rfl hg146) (Gives.fld hE rfl fl44_2) rfl ?_; clear hE a; intro a hE
              refine QL.v hE (runs_if hE rfl rfl rfl hg146) (Gives.loadB hE 1 rfl rfl rfl ty42) rfl ?_; clear hE a; intro a hE
              refine QL.v hE (runs_if hE rfl rfl rfl hg146) (Gives.p hE rfl) rfl ?_; clear hE a; intro a hE
              refine QL.v hE (runs_if hE rfl rfl rfl hg146) (Gives.p hE rfl) rfl ?_; clear hE a; intro a hE
              obtain ⟨x147, hx148, hq139⟩ := bindS hq139
              obtain ⟨hi149, hlt150, hy151⟩ := gx_some hx148
              obtain ⟨cs152, hl153, hR154, hat155⟩ := h73.at hy151
              subst hR154
              refine QL.v hE (runs_if hE rfl rfl rfl hg146) (Gives.idx hE (w64 (((k115 : Nat) : Int) - 1)).toNat rfl rfl sl42 hi149 hlt150 (h73.aok hlt150)) rfl ?_; clear hE a; intro a hE
              refine QL.v hE (runs_if hE rfl rfl rfl hg146) (Gives.fld hE rfl fl106_3) rfl ?_; clear hE a; intro a hE
              refine QL.v hE (runs_if hE rfl rfl rfl hg146) (Gives.load1 hE rfl (fun w h => (hat155 w _ h).one rfl) ty3) rfl ?_; clear hE a; intro a hE
              refine QL.v hE (runs_if hE rfl rfl rfl hg146) (Gives.p hE rfl) rfl ?_; clear hE a; intro a hE
              refine QL.v hE (runs_if hE rfl rfl rfl hg145) (Gives.pickT hE rfl hg146 rfl) rfl ?_; clear hE a; intro a hE
              refine qP hE (Gives.pickF hE rfl hg145 rfl) rfl ?_; clear hE a; intro a hE
              refine QL.nil ?_; clear hS w; intro w hS
              subst hK144
              exact ⟨decide (x116.Arr ≤ x147.Dep), Option.some.inj hq139, hE.pick _ ⟨rfl, rfl, rfl, rfl, rfl, rfl, rfl, rfl, rfl, trivial⟩, hS⟩
             ·replace hq139 := iteF hg146 hq139
              refine QL.no hE (runs_not hE rfl rfl rfl (by rw [hg146]; decide)) rfl ?_; clear hE a; intro a hE
              refine QL.no hE (runs_not hE rfl rfl rfl (by rw [hg146]; decide)) rfl ?_; clear hE a; intro a hE
              refine QL.no hE (runs_not hE rfl rfl rfl (by rw [hg146]; decide)) rfl ?_; clear hE a; intro a hE
              refine QL.no hE (runs_not hE rfl rfl rfl (by rw [hg146]; decide)) rfl ?_; clear hE a; intro a hE
              refine QL.no hE (runs_not hE rfl rfl rfl (by rw [hg146]; decide)) rfl ?_; clear hE a; intro a hE
              refine QL.no hE (runs_not hE rfl rfl rfl (by rw [hg146]; decide)) rfl ?_; clear hE a; intro a hE
              refine QL.no hE (runs_not hE rfl rfl rfl (by rw [hg146]; decide)) rfl ?_; clear hE a; intro a hE
              refine QL.no hE (runs_not hE rfl rfl rfl (by rw [hg146]; decide)) rfl ?_; clear hE a; intro a hE
              refine QL.no hE (runs_not hE rfl rfl rfl (by rw [hg146]; decide)) rfl ?_; clear hE a; intro a hE
              refine QL.no hE (runs_not hE rfl rfl rfl (by rw [hg146]; decide)) rfl ?_; clear hE a; intro a hE
              refine QL.v hE (runs_if hE rfl rfl rfl hg145) (Gives.pickF hE rfl hg146 rfl) rfl ?_; clear hE a; intro a hE
              refine qP hE (Gives.pickF hE rfl hg145 rfl) rfl ?_; clear hE a; intro a hE
              refine QL.nil ?_; clear hS w; intro w hS
              subst hK144
              exact ⟨false, Option.some.inj hq139, hE.pick _ ⟨rfl, rfl, rfl, rfl, rfl, rfl, rfl, rfl, rfl, trivial⟩, hS⟩
           ·clear hE hS a w; rintro a w ⟨q143, rfl, hE, hS⟩
            refine W.cond hE rfl (fun hc156 => ?_) (fun hc156 => ?_)
            ·replace hq113 := iteT hc156 hq113
             refine W.seq (W.region ?_)
             refine vP hS hE (Gives.p hE rfl) rfl ?_; clear hE a; intro a hE
             refine WL.nil ?_
             refine W.ret ?_
             subst hK124
             subst hK66
             rw [← Option.some.inj hq113] at hq55
             dsimp only at hq55
             rw [← Option.some.inj hq55] at hr
             dsimp only at hr
             refine finG (fn := Tryd.f12) (rs := [.tmp 2]) (vs := [_]) hE rfl ⟨rfl, trivial⟩ ?_
             obtain rfl := Option.some.inj hr
             replace hS := hS.tail
             replace hS := hS.tail
             replace hS := hS.tail
             exact ⟨rfl, hS⟩
            ·replace hq113 := iteF hc156 hq113
             refine W.skip ?_
             refine W.region ?_
             refine vP hS hE (Gives.inc hE rfl (by have := h73.small; omega)) rfl ?_; clear hE a; intro a hE
             refine vP hS hE (Gives.p hE rfl) rfl ?_; clear hE a; intro a hE
             refine WL.nil ?_
             replace hS := hS.tail
             subst hK124
             exact ⟨rest117.length, Nat.lt_succ_self _, rest117, k115 + 1, rfl, hd118, hq113, hE.pick _ ⟨rfl, rfl, rfl, rfl, rfl, rfl, rfl, rfl, trivial⟩, hS⟩
       ·clear hE hS a w; rintro a w ⟨rfl, hE, hS⟩
        dsimp only at hq55
        refine W.region ?_
        refine vP hS hE (Gives.inc hE rfl (by have := h0_0.small; omega)) rfl ?_; clear hE a; intro a hE
        refine vP hS hE (Gives.p hE rfl) rfl ?_; clear hE a; intro a hE
        refine WL.nil ?_
        replace hS := hS.tail
        subst hK66
        exact ⟨rest59.length, Nat.lt_succ_self _, rest59, k57 + 1, rfl, hd60, hq55, hE.pick _ ⟨rfl, rfl, rfl, rfl, trivial⟩, hS⟩
  ·clear hE hS a w; rintro a w ⟨rfl, hE, hS⟩
   dsimp only at hr
   refine W.seq (W.region ?_)
   refine vP hS hE (Gives.p hE rfl) rfl ?_; clear hE a; intro a hE
   refine WL.nil ?_
   refine W.ret ?_
   refine finG (fn := Tryd.f12) (rs := [.tmp 2]) (vs := [_]) hE rfl ⟨rfl, trivial⟩ ?_
   obtain rfl := Option.some.inj hr
   replace hS := hS.tail
   exact ⟨rfl, hS⟩
set_option maxHeartbeats 8000000 in
theorem Fishlaw2small_1_ok  {w : World} {s : Sg} {R : List HP} {x0 : Int} {x1 : Int} {x2 : Int} (hS : St w s (R))  {r : ApiStop} (hr : Fishlaw2small_1 x0 x1 x2 = r) :
  Calls Tryd.prog 104 [.int .i64 x0, .int .i64 x1, .int .i64 x2].toArray w (fun e w => ∃ (cs0 : List Value) (t : Sg), e = .returned (.agg cs0.toArray) ∧ s.Le t ∧ RApiStop t cs0 r ∧ St w t (R)) := by
 refine enter Tryd.func104 rfl rfl rfl fun a hE => ?_
 rw [Fishlaw2small_1] at hr
 refine W.seq (W.region ?_)
 refine WL.alloc hE hS (runs_plain rfl) zr106 rfl ?_; clear hE hS a w; intro b51 a w hE hS
 refine WL.nil ?_
 refine W.seq (W.region ?_)
 refine vP hS hE (Gives.p hE rfl) rfl ?_; clear hE a; intro a hE
 refine vP hS hE (Gives.p hE rfl) rfl ?_; clear hE a; intro a hE
 refine vP hS hE (Gives.p hE rfl) rfl ?_; clear hE a; intro a hE
 refine vP hS hE (Gives.build hE (vs := [(0, .int .i64 x0), (2, .int .i64 x1), (3, .int .i64 x2)]) [.int .i64 x0, .int .i64 0, .int .i64 x1, .int .i64 x2] rfl (by kernel_rfl)) rfl ?_; clear hE a; intro a hE
 refine WL.storeI hE hS 0 rfl [.int .i64 x0, .int .i64 0, .int .i64 x1, .int .i64 x2] (runs_plain rfl) rfl rfl rfl ty106 rfl rfl rfl rfl ?_; clear hE hS a w; intro a w hE hS
 refine WL.nil ?_
 refine W.ret ?_
 refine finG (fn := Tryd.f104) (rs := [.cell 6 106]) (vs := [_]) hE rfl ⟨⟨_, rfl, .inl ⟨_, rfl, hS.seesAt 0 rfl, ty106⟩⟩, trivial⟩ ?_
 subst hr
 replace hS := hS.tail
 exact ⟨_, s, rfl, (Sg.Le.refl _), rfl, hS⟩
set_option maxHeartbeats 8000000 in
theorem Fishlaw2small_ok  {w : World} {s : Sg} {R : List HP}  (hS : St w s (R))  {r : ApiDay} (hr : Fishlaw2small = r) :
  Calls Tryd.prog 58 [].toArray w (fun e w => ∃ (cs0 : List Value) (t : Sg), e = .returned (.agg cs0.toArray) ∧ s.Le t ∧ RApiDay t cs0 r ∧ St w t (R)) := by
 refine enter Tryd.func58 rfl rfl rfl fun a hE => ?_
 rw [Fishlaw2small] at hr
 refine W.seq (W.region ?_)
 refine WL.alloc hE hS (runs_plain rfl) zr25 rfl ?_; clear hE hS a w; intro b51 a w hE hS
 refine WL.nil ?_
 refine W.seq (W.region ?_)
 refine vP hS hE (Gives.p hE rfl) rfl ?_; clear hE a; intro a hE
 refine WL.nil ?_
 refine W.seq (W.region ?_)
 refine vP hS hE (Gives.p hE rfl) rfl ?_; clear hE a; intro a hE
 obtain ⟨q52, hq53, hr⟩ := bndS hr
 have hc_ := Fishlaw2small_1_ok hS  hq53
 refine WL.fnw hE (hc_) rfl (runs_plain rfl) bd104 rfl rfl rfl ?_
 clear hE hS hc_; rintro e w ⟨cs54, s56, rfl, hle57, h55, hS⟩; refine ⟨_, rfl, ?_⟩; clear a; intro a hE
 subst h55
 refine vP hS hE (Gives.p hE rfl) rfl ?_; clear hE a; intro a hE
 obtain ⟨q58, hq59, hr⟩ := bndS hr
 have hc_ := Fishlaw2small_1_ok hS  hq59
 refine WL.fnw hE (hc_) rfl (runs_plain rfl) bd104 rfl rfl rfl ?_
 clear hE hS hc_; rintro e w ⟨cs60, s62, rfl, hle63, h61, hS⟩; refine ⟨_, rfl, ?_⟩; clear a; intro a hE
 subst h61
 refine vP hS hE (Gives.p hE rfl) rfl ?_; clear hE a; intro a hE
 obtain ⟨q64, hq65, hr⟩ := bndS hr
 have hc_ := Fishlaw2small_1_ok hS  hq65
 refine WL.fnw hE (hc_) rfl (runs_plain rfl) bd104 rfl rfl rfl ?_
 clear hE hS hc_; rintro e w ⟨cs66, s68, rfl, hle69, h67, hS⟩; refine ⟨_, rfl, ?_⟩; clear a; intro a hE
 subst h67
 refine WL.lit hE hS (e := 106) (es := 4) (vs := [(0, .agg (ApiStop.cells q52).toArray), (1, .agg (ApiStop.cells q58).toArray), (2, .agg (ApiStop.cells q64).toArray)]) (cs := [.int .i64 q52.Station, .int .i64 q52.Track, .int .i64 q52.Arr, .int .i64 q52.Dep, .int .i64 q58.Station, .int .i64 q58.Track, .int .i64 q58.Arr, .int .i64 q58.Dep, .int .i64 q64.Station, .int .i64 q64.Track, .int .i64 q64.Arr, .int .i64 q64.Dep]) (runs_plain rfl) rfl (by kernel_rfl) rfl ?_; clear hE hS a w; intro b70 a w hE hS
 replace hS := hS.ptVec (es := 4) (m := 3) rfl (by decide)
 have h72 : Ev 4 RApiStop s68 [.int .i64 q52.Station, .int .i64 q52.Track, .int .i64 q52.Arr, .int .i64 q52.Dep, .int .i64 q58.Station, .int .i64 q58.Track, .int .i64 q58.Arr, .int .i64 q58.Dep, .int .i64 q64.Station, .int .i64 q64.Track, .int .i64 q64.Arr, .int .i64 q64.Dep] [q52, q58, q64] := (Ev.cons (c1 := [.int .i64 q52.Station, .int .i64 q52.Track, .int .i64 q52.Arr, .int .i64 q52.Dep]) rfl rfl (Ev.cons (c1 := [.int .i64 q58.Station, .int .i64 q58.Track, .int .i64 q58.Arr, .int .i64 q58.Dep]) rfl rfl (Ev.cons (c1 := [.int .i64 q64.Station, .int .i64 q64.Track, .int .i64 q64.Arr, .int .i64 q64.Dep]) rfl rfl (Ev.nil))))
 have hF := hS.fixD RApiStop.mono 0 rfl h72 (rfl); clear hS; obtain ⟨s73, hle74, hS, h75⟩ := hF
 refine WL.lit hE hS (e := 3) (es := 1) (vs := [(0, .int .i64 0)]) (cs := [.int .i64 0]) (runs_plain rfl) rfl (by kernel_rfl) rfl ?_; clear hE hS a w; intro b76 a w hE hS
 replace hS := hS.ptVec (es := 1) (m := 1) rfl (by decide)
 have h78 : Ev 1 (RI .i64) s73 [.int .i64 0] [0] := (Ev.cons (c1 := [.int .i64 0]) rfl rfl (Ev.nil))
 have hF := hS.fixD RI.mono 0 rfl h78 (rfl); clear hS; obtain ⟨s79, hle80, hS, h81⟩ := hF
 replace h75 := Sl.mono RApiStop.mono hle80 h75
 refine WL.lit hE hS (e := 3) (es := 1) (vs := [(0, .int .i64 1)]) (cs := [.int .i64 1]) (runs_plain rfl) rfl (by kernel_rfl) rfl ?_; clear hE hS a w; intro b82 a w hE hS
 replace hS := hS.ptVec (es := 1) (m := 1) rfl (by decide)
 have h84 : Ev 1 (RI .i64) s79 [.int .i64 1] [1] := (Ev.cons (c1 := [.int .i64 1]) rfl rfl (Ev.nil))
 have hF := hS.fixD RI.mono 0 rfl h84 (rfl); clear hS; obtain ⟨s85, hle86, hS, h87⟩ := hF
 replace h75 := Sl.mono RApiStop.mono hle86 h75
 replace h81 := Sl.mono RI.mono hle86 h81
 refine WL.lit hE hS (e := 45) (es := 1) (vs := [(0, .slice (some ⟨b76, 0, none⟩) 1 1), (1, .slice (some ⟨b82, 0, none⟩) 1 1)]) (cs := [.slice (some ⟨b76, 0, none⟩) 1 1, .slice (some ⟨b82, 0, none⟩) 1 1]) (runs_plain rfl) rfl (by kernel_rfl) rfl ?_; clear hE hS a w; intro b88 a w hE hS
 replace hS := hS.ptVec (es := 1) (m := 2) rfl (by decide)
 have h90 : Ev 1 (RL 1 (RI .i64)) s85 [.slice (some ⟨b76, 0, none⟩) 1 1, .slice (some ⟨b82, 0, none⟩) 1 1] [[0], [1]] := (Ev.cons (c1 := [.slice (some ⟨b76, 0, none⟩) 1 1]) ⟨_, _, rfl, h81⟩ rfl (Ev.cons (c1 := [.slice (some ⟨b82, 0, none⟩) 1 1]) ⟨_, _, rfl, h87⟩ rfl (Ev.nil)))
 have hF := hS.fixD (RL.mono RI.mono) 0 rfl h90 (rfl); clear hS; obtain ⟨s91, hle92, hS, h93⟩ := hF
 replace h75 := Sl.mono RApiStop.mono hle92 h75
 replace h81 := Sl.mono RI.mono hle92 h81
 replace h87 := Sl.mono RI.mono hle92 h87
 refine vP hS hE (Gives.build hE (vs := [(0, .int .i64 1), (2, .slice (some ⟨b70, 0, none⟩) 3 3), (3, .slice (some ⟨b88, 0, none⟩) 2 2)]) [.int .i64 1, .int .i64 0, .slice (some ⟨b70, 0, none⟩) 3 3, .slice (some ⟨b88, 0, none⟩) 2 2] rfl (by kernel_rfl)) rfl ?_; clear hE a; intro a hE
 refine vP hS hE (Gives.p hE rfl) rfl ?_; clear hE a; intro a hE
 obtain ⟨q94, hq95, hr⟩ := bndS hr
 have hc_ := Fishlaw2small_1_ok hS  hq95
 refine WL.fnw hE (hc_) rfl (runs_plain rfl) bd104 rfl rfl rfl ?_
 clear hE hS hc_; rintro e w ⟨cs96, s98, rfl, hle99, h97, hS⟩; refine ⟨_, rfl, ?_⟩; clear a; intro a hE
 replace h75 := Sl.mono RApiStop.mono hle99 h75
 replace h81 := Sl.mono RI.mono hle99 h81
 replace h87 := Sl.mono RI.mono hle99 h87
 replace h93 := Sl.mono (RL.mono RI.mono) hle99 h93
 subst h97
 refine vP hS hE (Gives.p hE rfl) rfl ?_; clear hE a; intro a hE
 obtain ⟨q100, hq101, hr⟩ := bndS hr
 have hc_ := Fishlaw2small_1_ok hS  hq101
 refine WL.fnw hE (hc_) rfl (runs_plain rfl) bd104 rfl rfl rfl ?_
 clear hE hS hc_; rintro e w ⟨cs102, s104, rfl, hle105, h103, hS⟩; refine ⟨_, rfl, ?_⟩; clear a; intro a hE
 replace h75 := Sl.mono RApiStop.mono hle105 h75
 replace h81 := Sl.mono RI.mono hle105 h81
 replace h87 := Sl.mono RI.mono hle105 h87
 replace h93 := Sl.mono (RL.mono RI.mono) hle105 h93
 subst h103
 refine WL.lit hE hS (e := 106) (es := 4) (vs := [(0, .agg (ApiStop.cells q94).toArray), (1, .agg (ApiStop.cells q100).toArray)]) (cs := [.int .i64 q94.Station, .int .i64 q94.Track, .int .i64 q94.Arr, .int .i64 q94.Dep, .int .i64 q100.Station, .int .i64 q100.Track, .int .i64 q100.Arr, .int .i64 q100.Dep]) (runs_plain rfl) rfl (by kernel_rfl) rfl ?_; clear hE hS a w; intro b106 a w hE hS
 replace hS := hS.ptVec (es := 4) (m := 2) rfl (by decide)
 have h108 : Ev 4 RApiStop s104 [.int .i64 q94.Station, .int .i64 q94.Track, .int .i64 q94.Arr, .int .i64 q94.Dep, .int .i64 q100.Station, .int .i64 q100.Track, .int .i64 q100.Arr, .int .i64 q100.Dep] [q94, q100] := (Ev.cons (c1 := [.int .i64 q94.Station, .int .i64 q94.Track, .int .i64 q94.Arr, .int .i64 q94.Dep]) rfl rfl (Ev.cons (c1 := [.int .i64 q100.Station, .int .i64 q100.Track, .int .i64 q100.Arr, .int .i64 q100.Dep]) rfl rfl (Ev.nil)))
 have hF := hS.fixD RApiStop.mono 0 rfl h108 (rfl); clear hS; obtain ⟨s109, hle110, hS, h111⟩ := hF
 replace h75 := Sl.mono RApiStop.mono hle110 h75
 replace h81 := Sl.mono RI.mono hle110 h81
 replace h87 := Sl.mono RI.mono hle110 h87
 replace h93 := Sl.mono (RL.mono RI.mono) hle110 h93
 refine WL.lit hE hS (e := 3) (es := 1) (vs := [(0, .int .i64 2)]) (cs := [.int .i64 2]) (runs_plain rfl) rfl (by kernel_rfl) rfl ?_; clear hE hS a w; intro b112 a w hE hS
 replace hS := hS.ptVec (es := 1) (m := 1) rfl (by decide)
 have h114 : Ev 1 (RI .i64) s109 [.int .i64 2] [2] := (Ev.cons (c1 := [.int .i64 2]) rfl rfl (Ev.nil))
 have hF := hS.fixD RI.mono 0 rfl h114 (rfl); clear hS; obtain ⟨s115, hle116, hS, h117⟩ := hF
 replace h75 := Sl.mono RApiStop.mono hle116 h75
 replace h81 := Sl.mono RI.mono hle116 h81
 replace h87 := Sl.mono RI.mono hle116 h87
 replace h93 := Sl.mono (RL.mono RI.mono) hle116 h93
 replace h111 := Sl.mono RApiStop.mono hle116 h111
 refine WL.lit hE hS (e := 45) (es := 1) (vs := [(0, .slice (some ⟨b112, 0, none⟩) 1 1)]) (cs := [.slice (some ⟨b112, 0, none⟩) 1 1]) (runs_plain rfl) rfl (by kernel_rfl) rfl ?_; clear hE hS a w; intro b118 a w hE hS
 replace hS := hS.ptVec (es := 1) (m := 1) rfl (by decide)
 have h120 : Ev 1 (RL 1 (RI .i64)) s115 [.slice (some ⟨b112, 0, none⟩) 1 1] [[2]] := (Ev.cons (c1 := [.slice (some ⟨b112, 0, none⟩) 1 1]) ⟨_, _, rfl, h117⟩ rfl (Ev.nil))
 have hF := hS.fixD (RL.mono RI.mono) 0 rfl h120 (rfl); clear hS; obtain ⟨s121, hle122, hS, h123⟩ := hF
 replace h75 := Sl.mono RApiStop.mono hle122 h75
 replace h81 := Sl.mono RI.mono hle122 h81
 replace h87 := Sl.mono RI.mono hle122 h87
 replace h93 := Sl.mono (RL.mono RI.mono) hle122 h93
 replace h111 := Sl.mono RApiStop.mono hle122 h111
 replace h117 := Sl.mono RI.mono hle122 h117
 refine vP hS hE (Gives.build hE (vs := [(0, .int .i64 2), (2, .slice (some ⟨b106, 0, none⟩) 2 2), (3, .slice (some ⟨b118, 0, none⟩) 1 1)]) [.int .i64 2, .int .i64 0, .slice (some ⟨b106, 0, none⟩) 2 2, .slice (some ⟨b118, 0, none⟩) 1 1] rfl (by kernel_rfl)) rfl ?_; clear hE a; intro a hE
 refine WL.lit hE hS (e := 44) (es := 4) (vs := [(0, .agg [.int .i64 1, .int .i64 0, .slice (some ⟨b70, 0, none⟩) 3 3, .slice (some ⟨b88, 0, none⟩) 2 2].toArray), (1, .agg [.int .i64 2, .int .i64 0, .slice (some ⟨b106, 0, none⟩) 2 2, .slice (some ⟨b118, 0, none⟩) 1 1].toArray)]) (cs := [.int .i64 1, .int .i64 0, .slice (some ⟨b70, 0, none⟩) 3 3, .slice (some ⟨b88, 0, none⟩) 2 2, .int .i64 2, .int .i64 0, .slice (some ⟨b106, 0, none⟩) 2 2, .slice (some ⟨b118, 0, none⟩) 1 1]) (runs_plain rfl) rfl (by kernel_rfl) rfl ?_; clear hE hS a w; intro b124 a w hE hS
 replace hS := hS.ptVec (es := 4) (m := 2) rfl (by decide)
 have h126 : Ev 4 RApiTrain s121 [.int .i64 1, .int .i64 0, .slice (some ⟨b70, 0, none⟩) 3 3, .slice (some ⟨b88, 0, none⟩) 2 2, .int .i64 2, .int .i64 0, .slice (some ⟨b106, 0, none⟩) 2 2, .slice (some ⟨b118, 0, none⟩) 1 1] [(ApiTrain.mk 1 0 [q52, q58, q64] [[0], [1]]), (ApiTrain.mk 2 0 [q94, q100] [[2]])] := (Ev.cons (c1 := [.int .i64 1, .int .i64 0, .slice (some ⟨b70, 0, none⟩) 3 3, .slice (some ⟨b88, 0, none⟩) 2 2]) ⟨_, _, _, _, rfl, h75, h93⟩ rfl (Ev.cons (c1 := [.int .i64 2, .int .i64 0, .slice (some ⟨b106, 0, none⟩) 2 2, .slice (some ⟨b118, 0, none⟩) 1 1]) ⟨_, _, _, _, rfl, h111, h123⟩ rfl (Ev.nil)))
 have hF := hS.fixD RApiTrain.mono 0 rfl h126 (rfl); clear hS; obtain ⟨s127, hle128, hS, h129⟩ := hF
 replace h75 := Sl.mono RApiStop.mono hle128 h75
 replace h81 := Sl.mono RI.mono hle128 h81
 replace h87 := Sl.mono RI.mono hle128 h87
 replace h93 := Sl.mono (RL.mono RI.mono) hle128 h93
 replace h111 := Sl.mono RApiStop.mono hle128 h111
 replace h117 := Sl.mono RI.mono hle128 h117
 replace h123 := Sl.mono (RL.mono RI.mono) hle128 h123
 refine vP hS hE (Gives.build hE (vs := [(0, .slice (some ⟨b124, 0, none⟩) 2 2)]) [.slice (some ⟨b124, 0, none⟩) 2 2, .slice none 0 0] rfl (by kernel_rfl)) rfl ?_; clear hE a; intro a hE
 refine WL.storeI hE hS 0 rfl [.slice (some ⟨b124, 0, none⟩) 2 2, .slice none 0 0] (runs_plain rfl) rfl rfl rfl ty25 rfl rfl rfl rfl ?_; clear hE hS a w; intro a w hE hS
 refine WL.nil ?_
 refine W.ret ?_
 refine finG (fn := Tryd.f58) (rs := [.cell 0 25]) (vs := [_]) hE rfl ⟨⟨_, rfl, .inl ⟨_, rfl, hS.seesAt 0 rfl, ty25⟩⟩, trivial⟩ ?_
 subst hr
 replace hS := hS.tail
 exact ⟨_, s127, rfl, (Sg.Le.trans (Sg.Le.trans (Sg.Le.trans (Sg.Le.trans (Sg.Le.trans (Sg.Le.trans (Sg.Le.trans (Sg.Le.trans (Sg.Le.trans (Sg.Le.trans (Sg.Le.trans (Sg.Le.trans hle57 hle63) hle69) hle74) hle80) hle86) hle92) hle99) hle105) hle110) hle116) hle122) hle128), ⟨_, _, _, _, rfl, h129, Sl.nil⟩, hS⟩
set_option maxHeartbeats 8000000 in
theorem SlicesEqualLguideRide_ok  {w : World} {s : Sg} {R : List HP} {x0 : List GuideRide} {a0 : Option Addr} {c0 : Nat} {x1 : List GuideRide} {a1 : Option Addr} {c1 : Nat} (hS : St w s (R)) (h0 : Sl 3 RGuideRide s a0 c0 x0) (h1 : Sl 3 RGuideRide s a1 c1 x1) {r : Bool} (hr : SlicesEqualLguideRide x0 x1 = some r) :
  Calls Tryd.prog 59 [.slice a0 x0.length c0, .slice a1 x1.length c1].toArray w (fun e w => e = .returned (.bool r) ∧ St w s (R)) := by
 refine enter Tryd.func59 rfl rfl rfl fun a hE => ?_
 rw [SlicesEqualLguideRide] at hr
 refine W.seq (W.region ?_)
 refine vP hS hE (Gives.p hE rfl) rfl ?_; clear hE a; intro a hE
 refine WL.nil ?_
 refine W.seq ?_
 refine W.seq (W.region ?_)
 refine vP hS hE (Gives.p hE rfl) rfl ?_; clear hE a; intro a hE
 refine vP hS hE (Gives.len hE rfl sl26) rfl ?_; clear hE a; intro a hE
 refine vP hS hE (Gives.p hE rfl) rfl ?_; clear hE a; intro a hE
 refine vP hS hE (Gives.len hE rfl sl26) rfl ?_; clear hE a; intro a hE
 refine vP hS hE (Gives.p hE rfl) rfl ?_; clear hE a; intro a hE
 refine WL.nil ?_
 refine W.cond hE rfl (fun hc51 => ?_) (fun hc51 => ?_)
 ·replace hr := iteT hc51 hr
  refine W.seq (W.region ?_)
  refine vP hS hE (Gives.p hE rfl) rfl ?_; clear hE a; intro a hE
  refine WL.nil ?_
  refine W.ret ?_
  refine finG (fn := Tryd.f59) (rs := [.tmp 4]) (vs := [_]) hE rfl ⟨rfl, trivial⟩ ?_
  obtain rfl := Option.some.inj hr
  exact ⟨rfl, hS⟩
 ·replace hr := iteF hc51 hr
  refine W.skip ?_
  refine W.seq ?_
  refine W.seq (W.region ?_)
  refine vP hS hE (Gives.p hE rfl) rfl ?_; clear hE a; intro a hE
  refine vP hS hE (Gives.len hE rfl sl26) rfl ?_; clear hE a; intro a hE
  refine vP hS hE (Gives.p hE rfl) rfl ?_; clear hE a; intro a hE
  refine WL.nil ?_
  obtain ⟨q53, hq52, hr⟩ := bindS hr
  refine W.cut (fun a w => (.next ()) = q53 ∧ Rep a 26 [] ∧ St w s (R)) ?_ ?_
  ·refine W.block ?_
   refine W.loop (fun m a w => ∃ (rest56 : List GuideRide) (k54 : Nat), rest56.length = m ∧ x0.drop k54 = rest56 ∧ SlicesEqualLguideRide.loop1 x1 rest56 k54 = some q53 ∧ Rep a 26 [(0, .slice a0 x0.length c0), (1, .slice a1 x1.length c1), (12, .int .i64 ((x0).length : Int)), (13, .int .i64 ((k54 : Nat) : Int))] ∧ St w s (R)) (m := x0.length) ⟨x0, 0, rfl, rfl, hq52, hE.pick _ ⟨rfl, rfl, rfl, rfl, trivial⟩, hS⟩ ?_
   clear hE hS a w hq52; rintro m60 a w ⟨rest56, k54, rfl, hd57, hq52, hE, hS⟩
   refine W.gen fun K63 hK63 => ?_
   rcases rest56 with _ | ⟨x55, rest56⟩
   ·have hlt58 := drop_nil hd57
    refine W.seq (W.region ?_)
    refine vP hS hE (Gives.p hE rfl) rfl ?_; clear hE a; intro a hE
    refine WL.nil ?_
    refine W.seq ?_
    refine W.condF hE rfl (decide_eq_false (by omega)) ?_
    subst hK63
    refine W.exit rfl ?_
    exact ⟨Option.some.inj hq52, hE.pick _ trivial, hS⟩
   ·obtain ⟨hlt58, hx59, hd57⟩ := drop_cons hd57
    rw [SlicesEqualLguideRide.loop1] at hq52
    refine W.seq (W.region ?_)
    refine vP hS hE (Gives.p hE rfl) rfl ?_; clear hE a; intro a hE
    refine WL.nil ?_
    refine W.seq ?_
    refine W.condT hE rfl (decide_eq_true (by omega)) ?_
    refine W.skip ?_
    refine W.seq ?_
    refine W.block ?_
    refine W.seq (W.region ?_)
    refine vP hS hE (Gives.p hE rfl) rfl ?_; clear hE a; intro a hE
    refine vP hS hE (Gives.p hE rfl) rfl ?_; clear hE a; intro a hE
    refine WL.nil ?_
    refine W.seq ?_
    refine W.regionQ (C := fun w => St w s (R)) mixed (by kernel_rfl) hS.drew ?_
    refine qP hE (Gives.p hE rfl) rfl ?_; clear hE a; intro a hE
    refine qP hE (Gives.p hE rfl) rfl ?_; clear hE a; intro a hE
    obtain ⟨cs64, hl65, hR66, hat67⟩ := h0.at hx59
    subst hR66
    refine qP hE (Gives.idx hE k54 rfl rfl sl26 rfl hlt58 (h0.aok hlt58)) rfl ?_; clear hE a; intro a hE
    refine qP hE (Gives.loadA hE rfl (fun w h => hat67 w _ h) ty47) rfl ?_; clear hE a; intro a hE
    refine qP hE (Gives.p hE rfl) rfl ?_; clear hE a; intro a hE
    refine qP hE (Gives.p hE rfl) rfl ?_; clear hE a; intro a hE
    obtain ⟨x68, hx69, hq52⟩ := bindS hq52
    obtain ⟨hi70, hlt71, hy72⟩ := gx_some hx69
    obtain ⟨cs73, hl74, hR75, hat76⟩ := h1.at hy72
    subst hR75
    refine qP hE (Gives.idx hE (((k54 : Nat) : Int)).toNat rfl rfl sl26 hi70 hlt71 (h1.aok hlt71)) rfl ?_; clear hE a; intro a hE
    refine qP hE (Gives.loadA hE rfl (fun w h => hat76 w _ h) ty47) rfl ?_; clear hE a; intro a hE
    refine qP hE (show Gives _ _ _ _ (Value.bool (!((x55.Train == x68.Train) && ((x55.On == x68.On) && (x55.Off == x68.Off))))) from Gives.neS hE [.i .i64, .i .i64, .i .i64] [.i .i64 x55.Train, .i .i64 x55.On, .i .i64 x55.Off] [.i .i64 x68.Train, .i .i64 x68.On, .i .i64 x68.Off] rfl rfl se47 rfl rfl rfl rfl) rfl ?_; clear hE a; intro a hE
    refine QL.nil ?_; clear hS w; intro w hS
    refine W.cond hE rfl (fun hc77 => ?_) (fun hc77 => ?_)
    ·replace hq52 := iteT hc77 hq52
     refine W.seq (W.region ?_)
     refine vP hS hE (Gives.p hE rfl) rfl ?_; clear hE a; intro a hE
     refine WL.nil ?_
     refine W.ret ?_
     subst hK63
     rw [← Option.some.inj hq52] at hr
     dsimp only at hr
     refine finG (fn := Tryd.f59) (rs := [.tmp 4]) (vs := [_]) hE rfl ⟨rfl, trivial⟩ ?_
     obtain rfl := Option.some.inj hr
     exact ⟨rfl, hS⟩
    ·replace hq52 := iteF hc77 hq52
     refine W.skip ?_
     refine W.region ?_
     refine vP hS hE (Gives.inc hE rfl (by have := h0.small; omega)) rfl ?_; clear hE a; intro a hE
     refine vP hS hE (Gives.p hE rfl) rfl ?_; clear hE a; intro a hE
     refine WL.nil ?_
     subst hK63
     exact ⟨rest56.length, Nat.lt_succ_self _, rest56, k54 + 1, rfl, hd57, hq52, hE.pick _ ⟨rfl, rfl, rfl, rfl, trivial⟩, hS⟩
  ·clear hE hS a w; rintro a w ⟨rfl, hE, hS⟩
   dsimp only at hr
   refine W.seq (W.region ?_)
   refine vP hS hE (Gives.p hE rfl) rfl ?_; clear hE a; intro a hE
   refine WL.nil ?_
   refine W.ret ?_
   refine finG (fn := Tryd.f59) (rs := [.tmp 4]) (vs := [_]) hE rfl ⟨rfl, trivial⟩ ?_
   obtain rfl := Option.some.inj hr
   exact ⟨rfl, hS⟩
set_option maxHeartbeats 8000000 in
theorem Fishlaw2guides_ok {fu : Nat}  {w : World} {s : Sg} {R : List HP}  (hS : St w s (R)) (hTab : TabS Tryd.prog s) {r : Bool} (hr : Fishlaw2guides fu = some r) :
  Calls Tryd.prog 13 [].toArray w (fun e w => e = .returned (.bool r) ∧ St w s (R)) := by
 refine enter Tryd.func13 rfl rfl rfl fun a hE => ?_
 rw [Fishlaw2guides] at hr
 refine W.seq (W.region ?_)
 refine vP hS hE (Gives.p hE rfl) rfl ?_; clear hE a; intro a hE
 refine WL.nil ?_
 refine W.seq (W.region ?_)
 obtain ⟨q51, hq52, hr⟩ := bndS hr
 have hc_ := Fishlaw2small_ok hS  hq52
 refine WL.fnq hE (hc_) (runs_plain rfl) bd58 rfl rfl rfl ?_
 clear hE hS hc_; rintro e w ⟨cs53, s55, rfl, hle56, h54, hS⟩; refine ⟨_, rfl, ?_⟩; clear a; intro a hE
 obtain ⟨a57, c58, a60, c61, rfl, h59, h62⟩ := h54
 obtain ⟨q63, hq64, hr⟩ := bindS hr
 have hc_ := GuideEarliest_ok hS (TabS.mono hle56 hTab) h59 h62 hq64
 refine WL.fnq hE (hc_) (runs_plain rfl) bd10 rfl rfl rfl ?_
 clear hE hS hc_; rintro e w ⟨cs65, s67, rfl, hle68, h66, hS⟩; refine ⟨_, rfl, ?_⟩; clear a; intro a hE
 replace h59 := Sl.mono RApiTrain.mono hle68 h59
 replace h62 := Sl.mono (RL.mono RI.mono) hle68 h62
 obtain ⟨a69, c70, rfl, h71⟩ := h66
 refine vP hS hE (Gives.p hE rfl) rfl ?_; clear hE a; intro a hE
 refine vP hS hE (Gives.p hE rfl) rfl ?_; clear hE a; intro a hE
 refine vP hS hE (Gives.p hE rfl) rfl ?_; clear hE a; intro a hE
 refine WL.alloc hE hS (runs_plain rfl) zr28 rfl ?_; clear hE hS a w; intro b72 a w hE hS
 refine WL.storeI hE hS 0 rfl [.slice a69 q63.1.Rides.length c70] (runs_plain rfl) rfl rfl rfl ty28 rfl rfl rfl rfl ?_; clear hE hS a w; intro a w hE hS
 refine vP hS hE (Gives.p hE rfl) rfl ?_; clear hE a; intro a hE
 refine WL.nil ?_
 refine W.seq ?_
 obtain ⟨q74, hq73, hr⟩ := bindS hr
 refine W.cut (fun a w => ∃ (q77 : Bool), ∃ (s75 : Sg), s67.Le s75 ∧ q77 = q74 ∧ Rep a 18 [(0, .bool q77)] ∧ St w s75 (pt b72 (.cells #[.slice a69 q63.1.Rides.length c70] 28 (0, 0)) :: R)) ?_ ?_
 ·refine W.gen fun K78 hK78 => ?_
  refine W.region ?_
  refine vP hS hE (Gives.p hE rfl) rfl ?_; clear hE a; intro a hE
  refine vP hS hE (Gives.p hE rfl) rfl ?_; clear hE a; intro a hE
  refine vP hS hE (Gives.p hE rfl) rfl ?_; clear hE a; intro a hE
  rcases Bool.eq_false_or_eq_true (q63.2 == 0) with hg79 | hg79
  ·replace hq73 := iteT hg79 hq73
   refine WL.vS hS hE (runs_if hE rfl rfl rfl hg79) (Gives.fld hE rfl fl28_0) rfl ?_; clear hE a; intro a hE
   refine WL.vS hS hE (runs_if hE rfl rfl rfl hg79) (Gives.loadB hE 0 rfl rfl rfl ty26) rfl ?_; clear hE a; intro a hE
   refine WL.vS hS hE (runs_if hE rfl rfl rfl hg79) (Gives.build hE (vs := [(0, .int .i64 0), (1, .int .i64 0), (2, .int .i64 1)]) [.int .i64 0, .int .i64 0, .int .i64 1] rfl (by kernel_rfl)) rfl ?_; clear hE a; intro a hE
   refine WL.vS hS hE (runs_if hE rfl rfl rfl hg79) (Gives.build hE (vs := [(0, .int .i64 1), (1, .int .i64 0), (2, .int .i64 1)]) [.int .i64 1, .int .i64 0, .int .i64 1] rfl (by kernel_rfl)) rfl ?_; clear hE a; intro a hE
   refine WL.lit hE hS (e := 47) (es := 3) (vs := [(0, .agg [.int .i64 0, .int .i64 0, .int .i64 1].toArray), (1, .agg [.int .i64 1, .int .i64 0, .int .i64 1].toArray)]) (cs := [.int .i64 0, .int .i64 0, .int .i64 1, .int .i64 1, .int .i64 0, .int .i64 1]) (runs_if hE rfl rfl rfl hg79) rfl (by kernel_rfl) rfl ?_; clear hE hS a w; intro b80 a w hE hS
   replace hS := hS.ptVec (es := 3) (m := 2) rfl (by decide)
   have h82 : Ev 3 RGuideRide s67 [.int .i64 0, .int .i64 0, .int .i64 1, .int .i64 1, .int .i64 0, .int .i64 1] [(GuideRide.mk 0 0 1), (GuideRide.mk 1 0 1)] := (Ev.cons (c1 := [.int .i64 0, .int .i64 0, .int .i64 1]) rfl rfl (Ev.cons (c1 := [.int .i64 1, .int .i64 0, .int .i64 1]) rfl rfl (Ev.nil)))
   have hF := hS.fixD RGuideRide.mono 0 rfl h82 (rfl); clear hS; obtain ⟨s83, hle84, hS, h85⟩ := hF
   replace h59 := Sl.mono RApiTrain.mono hle84 h59
   replace h62 := Sl.mono (RL.mono RI.mono) hle84 h62
   replace h71 := Sl.mono RGuideRide.mono hle84 h71
   obtain ⟨q86, hq87, hq73⟩ := bindS hq73
   have hc_ := SlicesEqualLguideRide_ok hS h71 h85 hq87
   refine WL.fnq hE (hc_) (runs_if hE rfl rfl rfl hg79) bd59 rfl rfl rfl ?_
   clear hE hS hc_; rintro e w ⟨rfl, hS⟩; refine ⟨_, rfl, ?_⟩; clear a; intro a hE
   refine vP hS hE (Gives.pickT hE rfl hg79 rfl) rfl ?_; clear hE a; intro a hE
   refine vP hS hE (Gives.p hE rfl) rfl ?_; clear hE a; intro a hE
   refine WL.nil ?_
   subst hK78
   exact ⟨q86, s83, hle84, Option.some.inj hq73, hE.pick _ ⟨rfl, trivial⟩, hS⟩
  ·replace hq73 := iteF hg79 hq73
   refine WL.no hE (runs_not hE rfl rfl rfl (by rw [hg79]; decide)) rfl ?_; clear hE a; intro a hE
   refine WL.no hE (runs_not hE rfl rfl rfl (by rw [hg79]; decide)) rfl ?_; clear hE a; intro a hE
   refine WL.no hE (runs_not hE rfl rfl rfl (by rw [hg79]; decide)) rfl ?_; clear hE a; intro a hE
   refine WL.no hE (runs_not hE rfl rfl rfl (by rw [hg79]; decide)) rfl ?_; clear hE a; intro a hE
   refine WL.no hE (runs_not hE rfl rfl rfl (by rw [hg79]; decide)) rfl ?_; clear hE a; intro a hE
   refine WL.no hE (runs_not hE rfl rfl rfl (by rw [hg79]; decide)) rfl ?_; clear hE a; intro a hE
   refine vP hS hE (Gives.pickF hE rfl hg79 rfl) rfl ?_; clear hE a; intro a hE
   refine vP hS hE (Gives.p hE rfl) rfl ?_; clear hE a; intro a hE
   refine WL.nil ?_
   subst hK78
   exact ⟨false, s67, (Sg.Le.refl _), Option.some.inj hq73, hE.pick _ ⟨rfl, trivial⟩, hS⟩
 ·clear hE hS a w; rintro a w ⟨q77, s75, hle76, rfl, hE, hS⟩
  replace h71 := Sl.mono RGuideRide.mono hle76 h71
  refine W.ret ?_
  refine finG (fn := Tryd.f13) (rs := [.tmp 0]) (vs := [_]) hE rfl ⟨rfl, trivial⟩ ?_
  obtain rfl := Option.some.inj hr
  replace hS := hS.tail
  exact ⟨rfl, (hS.down (Sg.Le.trans (Sg.Le.trans hle56 hle68) hle76))⟩
set_option maxHeartbeats 8000000 in
theorem Fishref2SearchFault_ok  {w : World} {s : Sg} {R : List HP} {x0 : Int} {x1 : Int} {x2 : Int} {x3 : Int} {x4 : Bool} {x5 : Bool} (hS : St w s (R))  {r : Int} (hr : Fishref2SearchFault x0 x1 x2 x3 x4 x5 = r) :
  Calls Tryd.prog 22 [.int .i64 x0, .int .i64 x1, .int .i64 x2, .int .i64 x3, .bool x4, .bool x5].toArray w (fun e w => e = .returned (.int .i64 r) ∧ St w s (R)) := by
 refine enter Tryd.func22 rfl rfl rfl fun a hE => ?_
 rw [Fishref2SearchFault] at hr
 refine W.seq (W.region ?_)
 refine vP hS hE (Gives.p hE rfl) rfl ?_; clear hE a; intro a hE
 refine WL.nil ?_
 refine W.seq ?_
 refine W.block ?_
 refine W.seq (W.region ?_)
 refine vP hS hE (Gives.p hE rfl) rfl ?_; clear hE a; intro a hE
 refine WL.fnq hE (Fishref2within_ok hS  rfl (r := Fishref2within x0 0 28800)) (runs_plain rfl) bd57 rfl rfl rfl ?_
 clear hE hS; rintro e w ⟨rfl, hS⟩; refine ⟨_, rfl, ?_⟩; clear a; intro a hE
 refine vP hS hE (Gives.p hE rfl) rfl ?_; clear hE a; intro a hE
 refine vP hS hE (Gives.p hE rfl) rfl ?_; clear hE a; intro a hE
 refine WL.nil ?_
 refine W.cond hE rfl (fun hc51 => ?_) (fun hc51 => ?_)
 ·replace hr := iteT hc51 hr
  refine W.seq (W.region ?_)
  refine vP hS hE (Gives.p hE rfl) rfl ?_; clear hE a; intro a hE
  refine WL.nil ?_
  refine W.ret ?_
  refine finG (fn := Tryd.f22) (rs := [.tmp 12]) (vs := [_]) hE rfl ⟨rfl, trivial⟩ ?_
  subst hr
  exact ⟨rfl, hS⟩
 ·replace hr := iteF hc51 hr
  refine W.seq ?_
  obtain ⟨q53, hq52, hr⟩ := bndS hr
  refine W.cut (fun a w => ∃ (q56 : Bool), q56 = q53 ∧ Rep a 43 [(1, .int .i64 x1), (2, .int .i64 x2), (3, .int .i64 x3), (4, .bool x4), (5, .bool x5), (17, .bool q56)] ∧ St w s (R)) ?_ ?_
  ·refine W.gen fun K57 hK57 => ?_
   refine W.region ?_
   refine vP hS hE (Gives.p hE rfl) rfl ?_; clear hE a; intro a hE
   refine WL.fnq hE (Fishref2within_ok hS  rfl (r := Fishref2within x1 0 11)) (runs_plain rfl) bd57 rfl rfl rfl ?_
   clear hE hS; rintro e w ⟨rfl, hS⟩; refine ⟨_, rfl, ?_⟩; clear a; intro a hE
   refine vP hS hE (Gives.p hE rfl) rfl ?_; clear hE a; intro a hE
   refine vP hS hE (Gives.p hE rfl) rfl ?_; clear hE a; intro a hE
   rcases Bool.eq_false_or_eq_true (!(Fishref2within x1 0 11)) with hg58 | hg58
   ·replace hq52 := iteT hg58 hq52
    refine WL.no hE (runs_not hE rfl rfl rfl (by rw [hg58]; decide)) rfl ?_; clear hE a; intro a hE
    refine WL.no hE (runs_not hE rfl rfl rfl (by rw [hg58]; decide)) rfl ?_; clear hE a; intro a hE
    refine WL.no hE (runs_undef hE rfl rfl rfl) rfl ?_; clear hE a; intro a hE
    refine WL.no hE (runs_undef hE rfl rfl rfl) rfl ?_; clear hE a; intro a hE
    refine WL.no hE (runs_undef hE rfl rfl rfl) rfl ?_; clear hE a; intro a hE
    refine WL.no hE (runs_not hE rfl rfl rfl (by rw [hg58]; decide)) rfl ?_; clear hE a; intro a hE
    refine vP hS hE (Gives.pickT hE rfl hg58 rfl) rfl ?_; clear hE a; intro a hE
    refine vP hS hE (Gives.p hE rfl) rfl ?_; clear hE a; intro a hE
    refine WL.nil ?_
    subst hK57
    exact ⟨true, hq52, hE.pick _ ⟨rfl, rfl, rfl, rfl, rfl, rfl, trivial⟩, hS⟩
   ·replace hq52 := iteF hg58 hq52
    refine WL.vS hS hE (runs_if hE rfl rfl rfl hg58) (Gives.p hE rfl) rfl ?_; clear hE a; intro a hE
    refine WL.vS hS hE (runs_if hE rfl rfl rfl hg58) (Gives.p hE rfl) rfl ?_; clear hE a; intro a hE
    rcases Bool.eq_false_or_eq_true x4 with hg59 | hg59
    ·replace hq52 := iteT hg59 hq52
     refine WL.vS hS hE (runs_if hE rfl rfl rfl hg59) (Gives.p hE rfl) rfl ?_; clear hE a; intro a hE
     refine WL.fnq hE (Fishref2within_ok hS  rfl (r := Fishref2within x2 0 11)) (runs_if hE rfl rfl rfl hg59) bd57 rfl rfl rfl ?_
     clear hE hS; rintro e w ⟨rfl, hS⟩; refine ⟨_, rfl, ?_⟩; clear a; intro a hE
     refine WL.vS hS hE (runs_if hE rfl rfl rfl hg59) (Gives.p hE rfl) rfl ?_; clear hE a; intro a hE
     refine WL.vS hS hE (runs_if hE rfl rfl rfl hg58) (Gives.pickT hE rfl hg59 rfl) rfl ?_; clear hE a; intro a hE
     refine vP hS hE (Gives.pickF hE rfl hg58 rfl) rfl ?_; clear hE a; intro a hE
     refine vP hS hE (Gives.p hE rfl) rfl ?_; clear hE a; intro a hE
     refine WL.nil ?_
     subst hK57
     exact ⟨!(Fishref2within x2 0 11), hq52, hE.pick _ ⟨rfl, rfl, rfl, rfl, rfl, rfl, trivial⟩, hS⟩
    ·replace hq52 := iteF hg59 hq52
     refine WL.no hE (runs_not hE rfl rfl rfl (by rw [hg59]; decide)) rfl ?_; clear hE a; intro a hE
     refine WL.no hE (runs_not hE rfl rfl rfl (by rw [hg59]; decide)) rfl ?_; clear hE a; intro a hE
     refine WL.no hE (runs_not hE rfl rfl rfl (by rw [hg59]; decide)) rfl ?_; clear hE a; intro a hE
     refine WL.vS hS hE (runs_if hE rfl rfl rfl hg58) (Gives.pickF hE rfl hg59 rfl) rfl ?_; clear hE a; intro a hE
     refine vP hS hE (Gives.pickF hE rfl hg58 rfl) rfl ?_; clear hE a; intro a hE
     refine vP hS hE (Gives.p hE rfl) rfl ?_; clear hE a; intro a hE
     refine WL.nil ?_
     subst hK57
     exact ⟨false, hq52, hE.pick _ ⟨rfl, rfl, rfl, rfl, rfl, rfl, trivial⟩, hS⟩
  ·clear hE hS a w; rintro a w ⟨q56, rfl, hE, hS⟩
   refine W.cond hE rfl (fun hc60 => ?_) (fun hc60 => ?_)
   ·replace hr := iteT hc60 hr
    refine W.seq (W.region ?_)
    refine vP hS hE (Gives.p hE rfl) rfl ?_; clear hE a; intro a hE
    refine WL.nil ?_
    refine W.ret ?_
    refine finG (fn := Tryd.f22) (rs := [.tmp 12]) (vs := [_]) hE rfl ⟨rfl, trivial⟩ ?_
    subst hr
    exact ⟨rfl, hS⟩
   ·replace hr := iteF hc60 hr
    refine W.seq ?_
    obtain ⟨q62, hq61, hr⟩ := bndS hr
    refine W.cut (fun a w => ∃ (q65 : Bool), q65 = q62 ∧ Rep a 43 [(3, .int .i64 x3), (5, .bool x5), (29, .bool q65)] ∧ St w s (R)) ?_ ?_
    ·refine W.gen fun K66 hK66 => ?_
     refine W.region ?_
     refine vP hS hE (Gives.p hE rfl) rfl ?_; clear hE a; intro a hE
     refine vP hS hE (Gives.p hE rfl) rfl ?_; clear hE a; intro a hE
     rcases Bool.eq_false_or_eq_true x4 with hg67 | hg67
     ·replace hq61 := iteT hg67 hq61
      refine WL.vS hS hE (runs_if hE rfl rfl rfl hg67) (Gives.p hE rfl) rfl ?_; clear hE a; intro a hE
      refine WL.vS hS hE (runs_if hE rfl rfl rfl hg67) (Gives.p hE rfl) rfl ?_; clear hE a; intro a hE
      refine WL.vS hS hE (runs_if hE rfl rfl rfl hg67) (Gives.p hE rfl) rfl ?_; clear hE a; intro a hE
      refine vP hS hE (Gives.pickT hE rfl hg67 rfl) rfl ?_; clear hE a; intro a hE
      refine vP hS hE (Gives.p hE rfl) rfl ?_; clear hE a; intro a hE
      refine WL.nil ?_
      subst hK66
      exact ⟨(x1 == x2), hq61, hE.pick _ ⟨rfl, rfl, rfl, trivial⟩, hS⟩
     ·replace hq61 := iteF hg67 hq61
      refine WL.no hE (runs_not hE rfl rfl rfl (by rw [hg67]; decide)) rfl ?_; clear hE a; intro a hE
      refine WL.no hE (runs_not hE rfl rfl rfl (by rw [hg67]; decide)) rfl ?_; clear hE a; intro a hE
      refine WL.no hE (runs_not hE rfl rfl rfl (by rw [hg67]; decide)) rfl ?_; clear hE a; intro a hE
      refine vP hS hE (Gives.pickF hE rfl hg67 rfl) rfl ?_; clear hE a; intro a hE
      refine vP hS hE (Gives.p hE rfl) rfl ?_; clear hE a; intro a hE
      refine WL.nil ?_
      subst hK66
      exact ⟨false, hq61, hE.pick _ ⟨rfl, rfl, rfl, trivial⟩, hS⟩
    ·clear hE hS a w; rintro a w ⟨q65, rfl, hE, hS⟩
     refine W.cond hE rfl (fun hc68 => ?_) (fun hc68 => ?_)
     ·replace hr := iteT hc68 hr
      refine W.seq (W.region ?_)
      refine vP hS hE (Gives.p hE rfl) rfl ?_; clear hE a; intro a hE
      refine WL.nil ?_
      refine W.ret ?_
      refine finG (fn := Tryd.f22) (rs := [.tmp 12]) (vs := [_]) hE rfl ⟨rfl, trivial⟩ ?_
      subst hr
      exact ⟨rfl, hS⟩
     ·replace hr := iteF hc68 hr
      refine W.seq ?_
      obtain ⟨q70, hq69, hr⟩ := bndS hr
      refine W.cut (fun a w => ∃ (q73 : Bool), q73 = q70 ∧ Rep a 43 [(36, .bool q73)] ∧ St w s (R)) ?_ ?_
      ·refine W.gen fun K74 hK74 => ?_
       refine W.region ?_
       refine vP hS hE (Gives.p hE rfl) rfl ?_; clear hE a; intro a hE
       refine vP hS hE (Gives.p hE rfl) rfl ?_; clear hE a; intro a hE
       rcases Bool.eq_false_or_eq_true x5 with hg75 | hg75
       ·replace hq69 := iteT hg75 hq69
        refine WL.vS hS hE (runs_if hE rfl rfl rfl hg75) (Gives.p hE rfl) rfl ?_; clear hE a; intro a hE
        refine WL.fnq hE (Fishref2within_ok hS  rfl (r := Fishref2within x3 0 28800)) (runs_if hE rfl rfl rfl hg75) bd57 rfl rfl rfl ?_
        clear hE hS; rintro e w ⟨rfl, hS⟩; refine ⟨_, rfl, ?_⟩; clear a; intro a hE
        refine WL.vS hS hE (runs_if hE rfl rfl rfl hg75) (Gives.p hE rfl) rfl ?_; clear hE a; intro a hE
        refine vP hS hE (Gives.pickT hE rfl hg75 rfl) rfl ?_; clear hE a; intro a hE
        refine vP hS hE (Gives.p hE rfl) rfl ?_; clear hE a; intro a hE
        refine WL.nil ?_
        subst hK74
        exact ⟨!(Fishref2within x3 0 28800), hq69, hE.pick _ ⟨rfl, trivial⟩, hS⟩
       ·replace hq69 := iteF hg75 hq69
        refine WL.no hE (runs_not hE rfl rfl rfl (by rw [hg75]; decide)) rfl ?_; clear hE a; intro a hE
        refine WL.no hE (runs_not hE rfl rfl rfl (by rw [hg75]; decide)) rfl ?_; clear hE a; intro a hE
        refine WL.no hE (runs_not hE rfl rfl rfl (by rw [hg75]; decide)) rfl ?_; clear hE a; intro a hE
        refine vP hS hE (Gives.pickF hE rfl hg75 rfl) rfl ?_; clear hE a; intro a hE
        refine vP hS hE (Gives.p hE rfl) rfl ?_; clear hE a; intro a hE
        refine WL.nil ?_
        subst hK74
        exact ⟨false, hq69, hE.pick _ ⟨rfl, trivial⟩, hS⟩
      ·clear hE hS a w; rintro a w ⟨q73, rfl, hE, hS⟩
       refine W.cond hE rfl (fun hc76 => ?_) (fun hc76 => ?_)
       ·replace hr := iteT hc76 hr
        refine W.seq (W.region ?_)
        refine vP hS hE (Gives.p hE rfl) rfl ?_; clear hE a; intro a hE
        refine WL.nil ?_
        refine W.ret ?_
        refine finG (fn := Tryd.f22) (rs := [.tmp 12]) (vs := [_]) hE rfl ⟨rfl, trivial⟩ ?_
        subst hr
        exact ⟨rfl, hS⟩
       ·replace hr := iteF hc76 hr
        refine W.skip ?_
        refine W.seq (W.region ?_)
        refine vP hS hE (Gives.p hE rfl) rfl ?_; clear hE a; intro a hE
        refine WL.nil ?_
        refine W.ret ?_
        refine finG (fn := Tryd.f22) (rs := [.tmp 12]) (vs := [_]) hE rfl ⟨rfl, trivial⟩ ?_
        subst hr
        exact ⟨rfl, hS⟩
set_option maxHeartbeats 8000000 in
theorem Fishref2JourneyFault_ok  {w : World} {s : Sg} {R : List HP} {x0 : ApiDay} {a0_0 : Option Addr} {c0_0 : Nat} {a0_1 : Option Addr} {c0_1 : Nat} {x1 : GuideJourney} {a1_0 : Option Addr} {c1_0 : Nat} {x2 : Int} {x3 : Bool} (hS : St w s (R)) (h0_0 : Sl 4 RApiTrain s a0_0 c0_0 x0.Trains) (_h0_1 : Sl 1 (RL 1 (RI .i64)) s a0_1 c0_1 x0.Turns) (h1_0 : Sl 3 RGuideRide s a1_0 c1_0 x1.Rides) {r : Int} (hr : Fishref2JourneyFault x0 x1 x2 x3 = some r) :
  Calls Tryd.prog 18 [.agg [.slice a0_0 x0.Trains.length c0_0, .slice a0_1 x0.Turns.length c0_1].toArray, .agg [.slice a1_0 x1.Rides.length c1_0].toArray, .int .i64 x2, .bool x3].toArray w (fun e w => e = .returned (.int .i64 r) ∧ St w s (R)) := by
 refine enter Tryd.func18 rfl rfl rfl fun a hE => ?_
 rw [Fishref2JourneyFault] at hr
 refine W.seq (W.region ?_)
 refine WL.box hE hS (runs_plain rfl) rfl rfl rfl ?_; clear hE hS a w; intro b51 a w hE hS
 refine WL.box hE hS (runs_plain rfl) rfl rfl rfl ?_; clear hE hS a w; intro b52 a w hE hS
 refine vP hS hE (Gives.p hE rfl) rfl ?_; clear hE a; intro a hE
 refine WL.nil ?_
 refine W.seq ?_
 refine W.seq (W.region ?_)
 refine vP hS hE (Gives.p hE rfl) rfl ?_; clear hE a; intro a hE
 refine WL.fnq hE (Fishref2within_ok hS  rfl (r := Fishref2within x2 0 28800)) (runs_plain rfl) bd57 rfl rfl rfl ?_
 clear hE hS; rintro e w ⟨rfl, hS⟩; refine ⟨_, rfl, ?_⟩; clear a; intro a hE
 refine vP hS hE (Gives.p hE rfl) rfl ?_; clear hE a; intro a hE
 refine WL.nil ?_
 refine W.cond hE rfl (fun hc53 => ?_) (fun hc53 => ?_)
 ·replace hr := iteT hc53 hr
  refine W.seq (W.region ?_)
  refine vP hS hE (Gives.p hE rfl) rfl ?_; clear hE a; intro a hE
  refine WL.nil ?_
  refine W.ret ?_
  refine finG (fn := Tryd.f18) (rs := [.tmp 8]) (vs := [_]) hE rfl ⟨rfl, trivial⟩ ?_
  obtain rfl := Option.some.inj hr
  replace hS := hS.tail
  replace hS := hS.tail
  exact ⟨rfl, hS⟩
 ·replace hr := iteF hc53 hr
  refine W.skip ?_
  refine W.seq ?_
  refine W.seq (W.region ?_)
  refine vP hS hE (Gives.fld hE rfl fl28_0) rfl ?_; clear hE a; intro a hE
  refine vP hS hE (Gives.loadB hE 0 rfl rfl rfl ty26) rfl ?_; clear hE a; intro a hE
  refine vP hS hE (Gives.len hE rfl sl26) rfl ?_; clear hE a; intro a hE
  refine WL.fnq hE (Fishref2within_ok hS  rfl (r := Fishref2within ((x1.Rides).length : Int) 1 4)) (runs_plain rfl) bd57 rfl rfl rfl ?_
  clear hE hS; rintro e w ⟨rfl, hS⟩; refine ⟨_, rfl, ?_⟩; clear a; intro a hE
  refine vP hS hE (Gives.p hE rfl) rfl ?_; clear hE a; intro a hE
  refine WL.nil ?_
  refine W.cond hE rfl (fun hc54 => ?_) (fun hc54 => ?_)
  ·replace hr := iteT hc54 hr
   refine W.seq (W.region ?_)
   refine vP hS hE (Gives.p hE rfl) rfl ?_; clear hE a; intro a hE
   refine WL.nil ?_
   refine W.ret ?_
   refine finG (fn := Tryd.f18) (rs := [.tmp 8]) (vs := [_]) hE rfl ⟨rfl, trivial⟩ ?_
   obtain rfl := Option.some.inj hr
   replace hS := hS.tail
   replace hS := hS.tail
   exact ⟨rfl, hS⟩
  ·replace hr := iteF hc54 hr
   refine W.skip ?_
   refine W.seq ?_
   refine W.seq (W.region ?_)
   refine vP hS hE (Gives.fld hE rfl fl28_0) rfl ?_; clear hE a; intro a hE
   refine vP hS hE (Gives.loadB hE 0 rfl rfl rfl ty26) rfl ?_; clear hE a; intro a hE
   refine vP hS hE (Gives.len hE rfl sl26) rfl ?_; clear hE a; intro a hE
   refine vP hS hE (Gives.p hE rfl) rfl ?_; clear hE a; intro a hE
   refine WL.nil ?_
   obtain ⟨q56, hq55, hr⟩ := bindS hr
   refine W.cut (fun a w => (.next ()) = q56 ∧ Rep a 125 [] ∧ St w s (pt b52 (.cells #[.slice a1_0 x1.Rides.length c1_0] 28 (0, 0)) :: pt b51 (.cells #[.slice a0_0 x0.Trains.length c0_0, .slice a0_1 x0.Turns.length c0_1] 25 (0, 0)) :: R)) ?_ ?_
   ·refine W.block ?_
    refine W.loop (fun m a w => ∃ (rest59 : List GuideRide) (k57 : Nat), rest59.length = m ∧ x1.Rides.drop k57 = rest59 ∧ Fishref2JourneyFault.loop1 x0 x1 x2 x3 rest59 k57 = some q56 ∧ Rep a 125 [(2, .int .i64 x2), (3, .bool x3), (4, .pointer (some ⟨b51, 0, none⟩)), (5, .pointer (some ⟨b52, 0, none⟩)), (23, .slice a1_0 x1.Rides.length c1_0), (24, .int .i64 ((x1.Rides).length : Int)), (25, .int .i64 ((k57 : Nat) : Int))] ∧ St w s (pt b52 (.cells #[.slice a1_0 x1.Rides.length c1_0] 28 (0, 0)) :: pt b51 (.cells #[.slice a0_0 x0.Trains.length c0_0, .slice a0_1 x0.Turns.length c0_1] 25 (0, 0)) :: R)) (m := x1.Rides.length) ⟨x1.Rides, 0, rfl, rfl, hq55, hE.pick _ ⟨rfl, rfl, rfl, rfl, rfl, rfl, rfl, trivial⟩, hS⟩ ?_
    clear hE hS a w hq55; rintro m63 a w ⟨rest59, k57, rfl, hd60, hq55, hE, hS⟩
    refine W.gen fun K66 hK66 => ?_
    rcases rest59 with _ | ⟨x58, rest59⟩
    ·have hlt61 := drop_nil hd60
     refine W.seq (W.region ?_)
     refine vP hS hE (Gives.p hE rfl) rfl ?_; clear hE a; intro a hE
     refine WL.nil ?_
     refine W.seq ?_
     refine W.condF hE rfl (decide_eq_false (by omega)) ?_
     subst hK66
     refine W.exit rfl ?_
     exact ⟨Option.some.inj hq55, hE.pick _ trivial, hS⟩
    ·obtain ⟨hlt61, hx62, hd60⟩ := drop_cons hd60
     rw [Fishref2JourneyFault.loop1] at hq55
     refine W.seq (W.region ?_)
     refine vP hS hE (Gives.p hE rfl) rfl ?_; clear hE a; intro a hE
     refine WL.nil ?_
     refine W.seq ?_
     refine W.condT hE rfl (decide_eq_true (by omega)) ?_
     refine W.skip ?_
     refine W.seq ?_
     refine W.block ?_
     refine W.seq (W.region ?_)
     refine vP hS hE (Gives.p hE rfl) rfl ?_; clear hE a; intro a hE
     obtain ⟨cs67, hl68, hR69, hat70⟩ := h1_0.at hx62
     subst hR69
     refine vP hS hE (Gives.idx hE k57 rfl rfl sl26 rfl hlt61 (h1_0.aok hlt61)) rfl ?_; clear hE a; intro a hE
     refine vP hS hE (Gives.loadA hE rfl (fun w h => hat70 w _ h) ty47) rfl ?_; clear hE a; intro a hE
     refine WL.alloc hE hS (runs_plain rfl) zr47 rfl ?_; clear hE hS a w; intro b71 a w hE hS
     refine vP hS hE (Gives.p hE rfl) rfl ?_; clear hE a; intro a hE
     refine WL.storeI hE hS 0 rfl (GuideRide.cells x58) (runs_plain rfl) rfl rfl rfl ty47 rfl rfl rfl rfl ?_; clear hE hS a w; intro a w hE hS
     refine WL.nil ?_
     refine W.seq ?_
     refine W.seq ?_
     obtain ⟨q73, hq72, hq55⟩ := bndS hq55
     refine W.cut (fun a w => ∃ (q76 : Bool), q76 = q73 ∧ Rep a 125 [(2, .int .i64 x2), (3, .bool x3), (4, .pointer (some ⟨b51, 0, none⟩)), (5, .pointer (some ⟨b52, 0, none⟩)), (9, .int .i64 ((k57 : Nat) : Int)), (10, .pointer (some ⟨b71, 0, none⟩)), (23, .slice a1_0 x1.Rides.length c1_0), (24, .int .i64 ((x1.Rides).length : Int)), (25, .int .i64 ((k57 : Nat) : Int)), (40, .bool q76)] ∧ St w s (pt b71 (.cells (GuideRide.cells x58).toArray 47 (0, 0)) :: pt b52 (.cells #[.slice a1_0 x1.Rides.length c1_0] 28 (0, 0)) :: pt b51 (.cells #[.slice a0_0 x0.Trains.length c0_0, .slice a0_1 x0.Turns.length c0_1] 25 (0, 0)) :: R)) ?_ ?_
     ·refine W.gen fun K77 hK77 => ?_
      refine W.region ?_
      refine vP hS hE (Gives.fld hE rfl fl47_0) rfl ?_; clear hE a; intro a hE
      refine vP hS hE (Gives.loadB hE 0 rfl rfl rfl ty3) rfl ?_; clear hE a; intro a hE
      refine vP hS hE (Gives.p hE rfl) rfl ?_; clear hE a; intro a hE
      refine vP hS hE (Gives.p hE rfl) rfl ?_; clear hE a; intro a hE
      rcases Bool.eq_false_or_eq_true (decide (x58.Train < 0)) with hg78 | hg78
      ·replace hq72 := iteT hg78 hq72
       refine WL.no hE (runs_not hE rfl rfl rfl (by rw [hg78]; decide)) rfl ?_; clear hE a; intro a hE
       refine WL.no hE (runs_not hE rfl rfl rfl (by rw [hg78]; decide)) rfl ?_; clear hE a; intro a hE
       refine WL.no hE (runs_not hE rfl rfl rfl (by rw [hg78]; decide)) rfl ?_; clear hE a; intro a hE
       refine WL.no hE (runs_not hE rfl rfl rfl (by rw [hg78]; decide)) rfl ?_; clear hE a; intro a hE
       refine WL.no hE (runs_not hE rfl rfl rfl (by rw [hg78]; decide)) rfl ?_; clear hE a; intro a hE
       refine WL.no hE (runs_not hE rfl rfl rfl (by rw [hg78]; decide)) rfl ?_; clear hE a; intro a hE
       refine vP hS hE (Gives.pickT hE rfl hg78 rfl) rfl ?_; clear hE a; intro a hE
       refine WL.nil ?_
       subst hK77
       exact ⟨true, hq72, hE.pick _ ⟨rfl, rfl, rfl, rfl, rfl, rfl, rfl, rfl, rfl, rfl, trivial⟩, hS⟩
      ·replace hq72 := iteF hg78 hq72
       refine WL.vS hS hE (runs_if hE rfl rfl rfl hg78) (Gives.fld hE rfl fl47_0) rfl ?_; clear hE a; intro a hE
       refine WL.vS hS hE (runs_if hE rfl rfl rfl hg78) (Gives.loadB hE 0 rfl rfl rfl ty3) rfl ?_; clear hE a; intro a hE
       refine WL.vS hS hE (runs_if hE rfl rfl rfl hg78) (Gives.fld hE rfl fl25_0) rfl ?_; clear hE a; intro a hE
       refine WL.vS hS hE (runs_if hE rfl rfl rfl hg78) (Gives.loadB hE 2 rfl rfl rfl ty22) rfl ?_; clear hE a; intro a hE
       refine WL.vS hS hE (runs_if hE rfl rfl rfl hg78) (Gives.len hE rfl sl22) rfl ?_; clear hE a; intro a hE
       refine WL.vS hS hE (runs_if hE rfl rfl rfl hg78) (Gives.p hE rfl) rfl ?_; clear hE a; intro a hE
       refine vP hS hE (Gives.pickF hE rfl hg78 rfl) rfl ?_; clear hE a; intro a hE
       refine WL.nil ?_
       subst hK77
       exact ⟨decide (x58.Train ≥ ((x0.Trains).length : Int)), hq72, hE.pick _ ⟨rfl, rfl, rfl, rfl, rfl, rfl, rfl, rfl, rfl, rfl, trivial⟩, hS⟩
     ·clear hE hS a w; rintro a w ⟨q76, rfl, hE, hS⟩
      refine W.cond hE rfl (fun hc79 => ?_) (fun hc79 => ?_)
      ·replace hq55 := iteT hc79 hq55
       refine W.seq (W.region ?_)
       refine vP hS hE (Gives.p hE rfl) rfl ?_; clear hE a; intro a hE
       refine WL.nil ?_
       refine W.ret ?_
       subst hK66
       rw [← Option.some.inj hq55] at hr
       dsimp only at hr
       refine finG (fn := Tryd.f18) (rs := [.tmp 8]) (vs := [_]) hE rfl ⟨rfl, trivial⟩ ?_
       obtain rfl := Option.some.inj hr
       replace hS := hS.tail
       replace hS := hS.tail
       replace hS := hS.tail
       exact ⟨rfl, hS⟩
      ·replace hq55 := iteF hc79 hq55
       refine W.skip ?_
       refine W.seq (W.region ?_)
       refine vP hS hE (Gives.fld hE rfl fl25_0) rfl ?_; clear hE a; intro a hE
       refine vP hS hE (Gives.loadB hE 2 rfl rfl rfl ty22) rfl ?_; clear hE a; intro a hE
       refine vP hS hE (Gives.fld hE rfl fl47_0) rfl ?_; clear hE a; intro a hE
       refine vP hS hE (Gives.loadB hE 0 rfl rfl rfl ty3) rfl ?_; clear hE a; intro a hE
       obtain ⟨x80, hx81, hq55⟩ := bindS hq55
       obtain ⟨hi82, hlt83, hy84⟩ := gx_some hx81
       obtain ⟨cs85, hl86, hR87, hat88⟩ := h0_0.at hy84
       obtain ⟨a89, c90, a92, c93, rfl, h91, h94⟩ := hR87
       refine vP hS hE (Gives.idx hE (x58.Train).toNat rfl rfl sl22 hi82 hlt83 (h0_0.aok hlt83)) rfl ?_; clear hE a; intro a hE
       refine vP hS hE (Gives.fld hE rfl fl44_2) rfl ?_; clear hE a; intro a hE
       refine vP hS hE (Gives.load1 hE rfl (fun w h => (hat88 w _ h).one rfl) ty42) rfl ?_; clear hE a; intro a hE
       refine vP hS hE (Gives.p hE rfl) rfl ?_; clear hE a; intro a hE
       refine WL.nil ?_
       refine W.seq ?_
       refine W.seq ?_
       obtain ⟨q96, hq95, hq55⟩ := bndS hq55
       refine W.cut (fun a w => ∃ (q99 : Bool), q99 = q96 ∧ Rep a 125 [(2, .int .i64 x2), (3, .bool x3), (4, .pointer (some ⟨b51, 0, none⟩)), (5, .pointer (some ⟨b52, 0, none⟩)), (9, .int .i64 ((k57 : Nat) : Int)), (10, .pointer (some ⟨b71, 0, none⟩)), (11, .slice a89 x80.Stops.length c90), (23, .slice a1_0 x1.Rides.length c1_0), (24, .int .i64 ((x1.Rides).length : Int)), (25, .int .i64 ((k57 : Nat) : Int)), (69, .bool q99)] ∧ St w s (pt b71 (.cells (GuideRide.cells x58).toArray 47 (0, 0)) :: pt b52 (.cells #[.slice a1_0 x1.Rides.length c1_0] 28 (0, 0)) :: pt b51 (.cells #[.slice a0_0 x0.Trains.length c0_0, .slice a0_1 x0.Turns.length c0_1] 25 (0, 0)) :: R)) ?_ ?_
       ·refine W.gen fun K100 hK100 => ?_
        refine W.region ?_
        refine vP hS hE (Gives.fld hE rfl fl47_1) rfl ?_; clear hE a; intro a hE
        refine vP hS hE (Gives.loadB hE 0 rfl rfl rfl ty3) rfl ?_; clear hE a; intro a hE
        refine vP hS hE (Gives.p hE rfl) rfl ?_; clear hE a; intro a hE
        refine vP hS hE (Gives.p hE rfl) rfl ?_; clear hE a; intro a hE
        rcases Bool.eq_false_or_eq_true (decide (x58.On < 0)) with hg101 | hg101
        ·replace hq95 := iteT hg101 hq95
         refine WL.no hE (runs_not hE rfl rfl rfl (by rw [hg101]; decide)) rfl ?_; clear hE a; intro a hE
         refine WL.no hE (runs_not hE rfl rfl rfl (by rw [hg101]; decide)) rfl ?_; clear hE a; intro a hE
         refine WL.no hE (runs_not hE rfl rfl rfl (by rw [hg101]; decide)) rfl ?_; clear hE a; intro a hE
         refine WL.no hE (runs_not hE rfl rfl rfl (by rw [hg101]; decide)) rfl ?_; clear hE a; intro a hE
         refine WL.no hE (runs_not hE rfl rfl rfl (by rw [hg101]; decide)) rfl ?_; clear hE a; intro a hE
         refine vP hS hE (Gives.pickT hE rfl hg101 rfl) rfl ?_; clear hE a; intro a hE
         refine vP hS hE (Gives.p hE rfl) rfl ?_; clear hE a; intro a hE
         refine WL.no hE (runs_not hE rfl rfl rfl (by decide)) rfl ?_; clear hE a; intro a hE
         refine WL.no hE (runs_not hE rfl rfl rfl (by decide)) rfl ?_; clear hE a; intro a hE
         refine WL.no hE (runs_not hE rfl rfl rfl (by decide)) rfl ?_; clear hE a; intro a hE
         refine vP hS hE (Gives.pickT hE rfl rfl rfl) rfl ?_; clear hE a; intro a hE
         refine vP hS hE (Gives.p hE rfl) rfl ?_; clear hE a; intro a hE
         refine WL.no hE (runs_not hE rfl rfl rfl (by decide)) rfl ?_; clear hE a; intro a hE
         refine WL.no hE (runs_not hE rfl rfl rfl (by decide)) rfl ?_; clear hE a; intro a hE
         refine WL.no hE (runs_not hE rfl rfl rfl (by decide)) rfl ?_; clear hE a; intro a hE
         refine WL.no hE (runs_not hE rfl rfl rfl (by decide)) rfl ?_; clear hE a; intro a hE
         refine WL.no hE (runs_not hE rfl rfl rfl (by decide)) rfl ?_; clear hE a; intro a hE
         refine vP hS hE (Gives.pickT hE rfl rfl rfl) rfl ?_; clear hE a; intro a hE
         refine WL.nil ?_
         subst hK100
         exact ⟨true, hq95, hE.pick _ ⟨rfl, rfl, rfl, rfl, rfl, rfl, rfl, rfl, rfl, rfl, rfl, trivial⟩, hS⟩
        ·replace hq95 := iteF hg101 hq95
         refine WL.vS hS hE (runs_if hE rfl rfl rfl hg101) (Gives.fld hE rfl fl47_1) rfl ?_; clear hE a; intro a hE
         refine WL.vS hS hE (runs_if hE rfl rfl rfl hg101) (Gives.loadB hE 0 rfl rfl rfl ty3) rfl ?_; clear hE a; intro a hE
         refine WL.vS hS hE (runs_if hE rfl rfl rfl hg101) (Gives.p hE rfl) rfl ?_; clear hE a; intro a hE
         refine WL.vS hS hE (runs_if hE rfl rfl rfl hg101) (Gives.len hE rfl sl42) rfl ?_; clear hE a; intro a hE
         refine WL.vS hS hE (runs_if hE rfl rfl rfl hg101) (Gives.p hE rfl) rfl ?_; clear hE a; intro a hE
         refine vP hS hE (Gives.pickF hE rfl hg101 rfl) rfl ?_; clear hE a; intro a hE
         refine vP hS hE (Gives.p hE rfl) rfl ?_; clear hE a; intro a hE
         rcases Bool.eq_false_or_eq_true (decide (x58.On ≥ ((x80.Stops).length : Int))) with hg102 | hg102
         ·replace hq95 := iteT hg102 hq95
          refine WL.no hE (runs_not hE rfl rfl rfl (by rw [hg102]; decide)) rfl ?_; clear hE a; intro a hE
          refine WL.no hE (runs_not hE rfl rfl rfl (by rw [hg102]; decide)) rfl ?_; clear hE a; intro a hE
          refine WL.no hE (runs_not hE rfl rfl rfl (by rw [hg102]; decide)) rfl ?_; clear hE a; intro a hE
          refine vP hS hE (Gives.pickT hE rfl hg102 rfl) rfl ?_; clear hE a; intro a hE
          refine vP hS hE (Gives.p hE rfl) rfl ?_; clear hE a; intro a hE
          refine WL.no hE (runs_not hE rfl rfl rfl (by decide)) rfl ?_; clear hE a; intro a hE
          refine WL.no hE (runs_not hE rfl rfl rfl (by decide)) rfl ?_; clear hE a; intro a hE
          refine WL.no hE (runs_not hE rfl rfl rfl (by decide)) rfl ?_; clear hE a; intro a hE
          refine WL.no hE (runs_not hE rfl rfl rfl (by decide)) rfl ?_; clear hE a; intro a hE
          refine WL.no hE (runs_not hE rfl rfl rfl (by decide)) rfl ?_; clear hE a; intro a hE
          refine vP hS hE (Gives.pickT hE rfl rfl rfl) rfl ?_; clear hE a; intro a hE
          refine WL.nil ?_
          subst hK100
          exact ⟨true, hq95, hE.pick _ ⟨rfl, rfl, rfl, rfl, rfl, rfl, rfl, rfl, rfl, rfl, rfl, trivial⟩, hS⟩
         ·replace hq95 := iteF hg102 hq95
          refine WL.vS hS hE (runs_if hE rfl rfl rfl hg102) (Gives.fld hE rfl fl47_2) rfl ?_; clear hE a; intro a hE
          refine WL.vS hS hE (runs_if hE rfl rfl rfl hg102) (Gives.loadB hE 0 rfl rfl rfl ty3) rfl ?_; clear hE a; intro a hE
          refine WL.vS hS hE (runs_if hE rfl rfl rfl hg102) (Gives.p hE rfl) rfl ?_; clear hE a; intro a hE
          refine vP hS hE (Gives.pickF hE rfl hg102 rfl) rfl ?_; clear hE a; intro a hE
          refine vP hS hE (Gives.p hE rfl) rfl ?_; clear hE a; intro a hE
          rcases Bool.eq_false_or_eq_true (decide (x58.Off < 0)) with hg103 | hg103
          ·replace hq95 := iteT hg103 hq95
           refine WL.no hE (runs_not hE rfl rfl rfl (by rw [hg103]; decide)) rfl ?_; clear hE a; intro a hE
           refine WL.no hE (runs_not hE rfl rfl rfl (by rw [hg103]; decide)) rfl ?_; clear hE a; intro a hE
           refine WL.no hE (runs_not hE rfl rfl rfl (by rw [hg103]; decide)) rfl ?_; clear hE a; intro a hE
           refine WL.no hE (runs_not hE rfl rfl rfl (by rw [hg103]; decide)) rfl ?_; clear hE a; intro a hE
           refine WL.no hE (runs_not hE rfl rfl rfl (by rw [hg103]; decide)) rfl ?_; clear hE a; intro a hE
           refine vP hS hE (Gives.pickT hE rfl hg103 rfl) rfl ?_; clear hE a; intro a hE
           refine WL.nil ?_
           subst hK100
           exact ⟨true, hq95, hE.pick _ ⟨rfl, rfl, rfl, rfl, rfl, rfl, rfl, rfl, rfl, rfl, rfl, trivial⟩, hS⟩
          ·replace hq95 := iteF hg103 hq95
           refine WL.vS hS hE (runs_if hE rfl rfl rfl hg103) (Gives.fld hE rfl fl47_2) rfl ?_; clear hE a; intro a hE
           refine WL.vS hS hE (runs_if hE rfl rfl rfl hg103) (Gives.loadB hE 0 rfl rfl rfl ty3) rfl ?_; clear hE a; intro a hE
           refine WL.vS hS hE (runs_if hE rfl rfl rfl hg103) (Gives.p hE rfl) rfl ?_; clear hE a; intro a hE
           refine WL.vS hS hE (runs_if hE rfl rfl rfl hg103) (Gives.len hE rfl sl42) rfl ?_; clear hE a; intro a hE
           refine WL.vS hS hE (runs_if hE rfl rfl rfl hg103) (Gives.p hE rfl) rfl ?_; clear hE a; intro a hE
           refine vP hS hE (Gives.pickF hE rfl hg103 rfl) rfl ?_; clear hE a; intro a hE
           refine WL.nil ?_
           subst hK100
           exact ⟨decide (x58.Off ≥ ((x80.Stops).length : Int)), hq95, hE.pick _ ⟨rfl, rfl, rfl, rfl, rfl, rfl, rfl, rfl, rfl, rfl, rfl, trivial⟩, hS⟩
       ·clear hE hS a w; rintro a w ⟨q99, rfl, hE, hS⟩
        refine W.cond hE rfl (fun hc104 => ?_) (fun hc104 => ?_)
        ·replace hq55 := iteT hc104 hq55
         refine W.seq (W.region ?_)
         refine vP hS hE (Gives.p hE rfl) rfl ?_; clear hE a; intro a hE
         refine WL.nil ?_
         refine W.ret ?_
         subst hK66
         rw [← Option.some.inj hq55] at hr
         dsimp only at hr
         refine finG (fn := Tryd.f18) (rs := [.tmp 8]) (vs := [_]) hE rfl ⟨rfl, trivial⟩ ?_
         obtain rfl := Option.some.inj hr
         replace hS := hS.tail
         replace hS := hS.tail
         replace hS := hS.tail
         exact ⟨rfl, hS⟩
        ·replace hq55 := iteF hc104 hq55
         refine W.skip ?_
         refine W.seq ?_
         refine W.seq (W.region ?_)
         refine vP hS hE (Gives.fld hE rfl fl47_1) rfl ?_; clear hE a; intro a hE
         refine vP hS hE (Gives.loadB hE 0 rfl rfl rfl ty3) rfl ?_; clear hE a; intro a hE
         refine vP hS hE (Gives.fld hE rfl fl47_2) rfl ?_; clear hE a; intro a hE
         refine vP hS hE (Gives.loadB hE 0 rfl rfl rfl ty3) rfl ?_; clear hE a; intro a hE
         refine vP hS hE (Gives.p hE rfl) rfl ?_; clear hE a; intro a hE
         refine WL.nil ?_
         refine W.cond hE rfl (fun hc105 => ?_) (fun hc105 => ?_)
         ·replace hq55 := iteT hc105 hq55
          refine W.seq (W.region ?_)
          refine vP hS hE (Gives.p hE rfl) rfl ?_; clear hE a; intro a hE
          refine WL.nil ?_
          refine W.ret ?_
          subst hK66
          rw [← Option.some.inj hq55] at hr
          dsimp only at hr
          refine finG (fn := Tryd.f18) (rs := [.tmp 8]) (vs := [_]) hE rfl ⟨rfl, trivial⟩ ?_
          obtain rfl := Option.some.inj hr
          replace hS := hS.tail
          replace hS := hS.tail
          replace hS := hS.tail
          exact ⟨rfl, hS⟩
         ·replace hq55 := iteF hc105 hq55
          refine W.skip ?_
          refine W.seq ?_
          refine W.seq (W.region ?_)
          refine vP hS hE (Gives.p hE rfl) rfl ?_; clear hE a; intro a hE
          refine vP hS hE (Gives.p hE rfl) rfl ?_; clear hE a; intro a hE
          refine WL.nil ?_
          refine W.cond hE rfl (fun hc106 => ?_) (fun hc106 => ?_)
          ·replace hq55 := iteT hc106 hq55
           refine W.exit rfl ?_
           refine W.region ?_
           refine vP hS hE (Gives.inc hE rfl (by have := h1_0.small; omega)) rfl ?_; clear hE a; intro a hE
           refine vP hS hE (Gives.p hE rfl) rfl ?_; clear hE a; intro a hE
           refine WL.nil ?_
           replace hS := hS.tail
           subst hK66
           exact ⟨rest59.length, Nat.lt_succ_self _, rest59, k57 + 1, rfl, hd60, hq55, hE.pick _ ⟨rfl, rfl, rfl, rfl, rfl, rfl, rfl, trivial⟩, hS⟩
          ·replace hq55 := iteF hc106 hq55
           refine W.skip ?_
           refine W.seq (W.region ?_)
           refine vP hS hE (Gives.fld hE rfl fl28_0) rfl ?_; clear hE a; intro a hE
           refine vP hS hE (Gives.loadB hE 1 rfl rfl rfl ty26) rfl ?_; clear hE a; intro a hE
           refine vP hS hE (Gives.p hE rfl) rfl ?_; clear hE a; intro a hE
           refine vP hS hE (Gives.p hE rfl) rfl ?_; clear hE a; intro a hE
           obtain ⟨x107, hx108, hq55⟩ := bindS hq55
           obtain ⟨hi109, hlt110, hy111⟩ := gx_some hx108
           obtain ⟨cs112, hl113, hR114, hat115⟩ := h1_0.at hy111
           subst hR114
           refine vP hS hE (Gives.idx hE (w64 (((k57 : Nat) : Int) - 1)).toNat rfl rfl sl26 hi109 hlt110 (h1_0.aok hlt110)) rfl ?_; clear hE a; intro a hE
           refine vP hS hE (Gives.loadA hE rfl (fun w h => hat115 w _ h) ty47) rfl ?_; clear hE a; intro a hE
           refine WL.alloc hE hS (runs_plain rfl) zr47 rfl ?_; clear hE hS a w; intro b116 a w hE hS
           refine WL.storeI hE hS 0 rfl (GuideRide.cells x107) (runs_plain rfl) rfl rfl rfl ty47 rfl rfl rfl rfl ?_; clear hE hS a w; intro a w hE hS
           refine WL.nil ?_
           refine W.seq ?_
           refine W.gen fun K117 hK117 => ?_
           refine W.regionE (sel (fun w => St w s (pt b116 (.cells (GuideRide.cells x107).toArray 47 (0, 0)) :: pt b71 (.cells (GuideRide.cells x58).toArray 47 (0, 0)) :: pt b52 (.cells #[.slice a1_0 x1.Rides.length c1_0] 28 (0, 0)) :: pt b51 (.cells #[.slice a0_0 x0.Trains.length c0_0, .slice a0_1 x0.Turns.length c0_1] 25 (0, 0)) :: R)) (fun w => St w s (pt b116 (.cells (GuideRide.cells x107).toArray 47 (0, 0)) :: pt b71 (.cells (GuideRide.cells x58).toArray 47 (0, 0)) :: pt b52 (.cells #[.slice a1_0 x1.Rides.length c1_0] 28 (0, 0)) :: pt b51 (.cells #[.slice a0_0 x0.Trains.length c0_0, .slice a0_1 x0.Turns.length c0_1] 25 (0, 0)) :: R))) (fun b i => cond b ([0, 1, 2, 3, 4, 5, 6, 7, 8, 9, 10, 11, 12].contains i) ([0, 1, 2, 3, 4, 5, 6, 7, 8, 9, 10, 11, 12].contains i)) mixed ?_
           replace hS := hS.drew
           refine Rg.takeP (i := 0) hE rfl (by kernel_rfl) (runs_plain rfl) (Gives.fld hE rfl fl25_0) rfl (tw_sel (fun _ => hS) (fun _ => hS)) ?_; clear hE a; intro a hE
           have hT := tw_sel (A := fun w => St w s _) (B := fun w => St w s _) (w := _) (x := true) (y := true) (fun _ => hS) (fun _ => hS)
           have hF := hS; replace hS := hS
           refine Rg.take (i := 1) true rfl hE rfl (by kernel_rfl) (runs_plain rfl) (Gives.loadB hE 3 rfl rfl rfl ty22) rfl hT ?_; clear hE a; intro a hE
           replace hS := hF; clear hF hT
           refine Rg.takeP (i := 2) hE rfl (by kernel_rfl) (runs_plain rfl) (Gives.fld hE rfl fl47_0) rfl (tw_sel (fun _ => hS) (fun _ => hS)) ?_; clear hE a; intro a hE
           have hT := tw_sel (A := fun w => St w s _) (B := fun w => St w s _) (w := _) (x := true) (y := true) (fun _ => hS) (fun _ => hS)
           have hF := hS; replace hS := hS
           refine Rg.take (i := 3) true rfl hE rfl (by kernel_rfl) (runs_plain rfl) (Gives.loadB hE 0 rfl rfl rfl ty3) rfl hT ?_; clear hE a; intro a hE
           replace hS := hF; clear hF hT
           obtain ⟨x118, hx119, hq55⟩ := bindS hq55
           obtain ⟨hi120, hlt121, hy122⟩ := gx_some hx119
           obtain ⟨cs123, hl124, hR125, hat126⟩ := h0_0.at hy122
           obtain ⟨a127, c128, a130, c131, rfl, h129, h132⟩ := hR125
           refine Rg.takeP (i := 4) hE rfl (by kernel_rfl) (runs_plain rfl) (Gives.idx hE (x107.Train).toNat rfl rfl sl22 hi120 hlt121 (h0_0.aok hlt121)) rfl (tw_sel (fun _ => hS) (fun _ => hS)) ?_; clear hE a; intro a hE
           refine Rg.takeP (i := 5) hE rfl (by kernel_rfl) (runs_plain rfl) (Gives.fld hE rfl fl44_2) rfl (tw_sel (fun _ => hS) (fun _ => hS)) ?_; clear hE a; intro a hE
           have hT := tw_sel (A := fun w => St w s _) (B := fun w => St w s _) (w := _) (x := true) (y := true) (fun _ => hS) (fun _ => hS)
           have hF := hS; replace hS := hS
           refine Rg.take (i := 6) true rfl hE rfl (by kernel_rfl) (runs_plain rfl) (Gives.load1 hE rfl (fun w h => (hat126 w _ h).one rfl) ty42) rfl hT ?_; clear hE a; intro a hE
           replace hS := hF; clear hF hT
           refine Rg.takeP (i := 7) hE rfl (by kernel_rfl) (runs_plain rfl) (Gives.fld hE rfl fl47_2) rfl (tw_sel (fun _ => hS) (fun _ => hS)) ?_; clear hE a; intro a hE
           have hT := tw_sel (A := fun w => St w s _) (B := fun w => St w s _) (w := _) (x := true) (y := true) (fun _ => hS) (fun _ => hS)
           have hF := hS; replace hS := hS
           refine Rg.take (i := 8) true rfl hE rfl (by kernel_rfl) (runs_plain rfl) (Gives.loadB hE 0 rfl rfl rfl ty3) rfl hT ?_; clear hE a; intro a hE
           replace hS := hF; clear hF hT
           obtain ⟨x133, hx134, hq55⟩ := bindS hq55
           obtain ⟨hi135, hlt136, hy137⟩ := gx_some hx134
           obtain ⟨cs138, hl139, hR140, hat141⟩ := h129.at hy137
           subst hR140
           refine Rg.takeP (i := 9) hE rfl (by kernel_rfl) (runs_plain rfl) (Gives.idx hE (x107.Off).toNat rfl rfl sl42 hi135 hlt136 (h129.aok hlt136)) rfl (tw_sel (fun _ => hS) (fun _ => hS)) ?_; clear hE a; intro a hE
           have hT := tw_sel (A := fun w => St w s _) (B := fun w => St w s _) (w := _) (x := true) (y := true) (fun _ => hS) (fun _ => hS)
           have hF := hS; replace hS := hS
           refine Rg.take (i := 10) true rfl hE rfl (by kernel_rfl) (runs_plain rfl) (Gives.loadA hE rfl (fun w h => hat141 w _ h) ty106) rfl hT ?_; clear hE a; intro a hE
           replace hS := hF; clear hF hT
           refine Rg.one (i := 11) true true rfl (by kernel_rfl) (by kernel_rfl) (by kernel_rfl) ?_
           refine WL.alloc hE hS (runs_plain rfl) zr106 rfl ?_; clear hE hS a w; intro b142 a w hE hS
           refine WL.nil ?_
           refine ⟨⟨fun _ => (hS.tail), fun _ => (hS.tail)⟩, ?_⟩
           refine Rg.one (i := 12) true true rfl (by kernel_rfl) (by kernel_rfl) (by kernel_rfl) ?_
           refine WL.storeI hE hS 0 rfl (ApiStop.cells x133) (runs_plain rfl) rfl rfl rfl ty106 rfl rfl rfl rfl ?_; clear hE hS a w; intro a w hE hS
           refine WL.nil ?_
           refine ⟨⟨fun _ => (hS.tail), fun _ => (hS.tail)⟩, ?_⟩
           refine Rg.done (by kernel_rfl) ?_
           subst hK117
           refine W.seq ?_
           refine W.seq ?_
           obtain ⟨q144, hq143, hq55⟩ := bindS hq55
           refine W.cut (fun a w => ∃ (q147 : Bool), q147 = q144 ∧ Rep a 125 [(2, .int .i64 x2), (3, .bool x3), (4, .pointer (some ⟨b51, 0, none⟩)), (5, .pointer (some ⟨b52, 0, none⟩)), (10, .pointer (some ⟨b71, 0, none⟩)), (11, .slice a89 x80.Stops.length c90), (13, .pointer (some ⟨b142, 0, none⟩)), (23, .slice a1_0 x1.Rides.length c1_0), (24, .int .i64 ((x1.Rides).length : Int)), (25, .int .i64 ((k57 : Nat) : Int)), (109, .bool q147)] ∧ St w s (pt b142 (.cells (ApiStop.cells x133).toArray 106 (0, 0)) :: pt b116 (.cells (GuideRide.cells x107).toArray 47 (0, 0)) :: pt b71 (.cells (GuideRide.cells x58).toArray 47 (0, 0)) :: pt b52 (.cells #[.slice a1_0 x1.Rides.length c1_0] 28 (0, 0)) :: pt b51 (.cells #[.slice a0_0 x0.Trains.length c0_0, .slice a0_1 x0.Turns.length c0_1] 25 (0, 0)) :: R)) ?_ ?_
           ·refine W.gen fun K148 hK148 => ?_
            refine W.regionQ (C := fun w => St w s (pt b142 (.cells (ApiStop.cells x133).toArray 106 (0, 0)) :: pt b116 (.cells (GuideRide.cells x107).toArray 47 (0, 0)) :: pt b71 (.cells (GuideRide.cells x58).toArray 47 (0, 0)) :: pt b52 (.cells #[.slice a1_0 x1.Rides.length c1_0] 28 (0, 0)) :: pt b51 (.cells #[.slice a0_0 x0.Trains.length c0_0, .slice a0_1 x0.Turns.length c0_1] 25 (0, 0)) :: R)) mixed (by kernel_rfl) hS.drew ?_
            refine qP hE (Gives.fld hE rfl fl47_0) rfl ?_; clear hE a; intro a hE
            refine qP hE (Gives.loadB hE 1 rfl rfl rfl ty3) rfl ?_; clear hE a; intro a hE
            refine qP hE (Gives.fld hE rfl fl47_0) rfl ?_; clear hE a; intro a hE
            refine qP hE (Gives.loadB hE 2 rfl rfl rfl ty3) rfl ?_; clear hE a; intro a hE
            refine qP hE (Gives.p hE rfl) rfl ?_; clear hE a; intro a hE
            refine qP hE (Gives.p hE rfl) rfl ?_; clear hE a; intro a hE
            rcases Bool.eq_false_or_eq_true (x107.Train == x58.Train) with hg149 | hg149
            ·replace hq143 := iteT hg149 hq143
             refine QL.no hE (runs_not hE rfl rfl rfl (by rw [hg149]; decide)) rfl ?_; clear hE a; intro a hE
             refine QL.no hE (runs_not hE rfl rfl rfl (by rw [hg149]; decide)) rfl ?_; clear hE a; intro a hE
             refine QL.no hE (runs_not hE rfl rfl rfl (by rw [hg149]; decide)) rfl ?_; clear hE a; intro a hE
             refine QL.no hE (runs_not hE rfl rfl rfl (by rw [hg149]; decide)) rfl ?_; clear hE a; intro a hE
             refine QL.no hE (runs_not hE rfl rfl rfl (by rw [hg149]; decide)) rfl ?_; clear hE a; intro a hE
             refine QL.no hE (runs_not hE rfl rfl rfl (by rw [hg149]; decide)) rfl ?_; clear hE a; intro a hE
             refine QL.no hE (runs_not hE rfl rfl rfl (by rw [hg149]; decide)) rfl ?_; clear hE a; intro a hE
             refine QL.no hE (runs_not hE rfl rfl rfl (by rw [hg149]; decide)) rfl ?_; clear hE a; intro a hE
             refine QL.no hE (runs_not hE rfl rfl rfl (by rw [hg149]; decide)) rfl ?_; clear hE a; intro a hE
             refine qP hE (Gives.pickT hE rfl hg149 rfl) rfl ?_; clear hE a; intro a hE
             refine QL.nil ?_; clear hS w; intro w hS
             subst hK148
             exact ⟨true, Option.some.inj hq143, hE.pick _ ⟨rfl, rfl, rfl, rfl, rfl, rfl, rfl, rfl, rfl, rfl, rfl, trivial⟩, hS⟩
            ·replace hq143 := iteF hg149 hq143
             refine QL.v hE (runs_if hE rfl rfl rfl hg149) (Gives.p hE rfl) rfl ?_; clear hE a; intro a hE
             refine QL.v hE (runs_if hE rfl rfl rfl hg149) (Gives.fld hE rfl fl47_1) rfl ?_; clear hE a; intro a hE
             refine QL.v hE (runs_if hE rfl rfl rfl hg149) (Gives.loadB hE 2 rfl rfl rfl ty3) rfl ?_; clear hE a; intro a hE
             obtain ⟨x150, hx151, hq143⟩ := bindS hq143
             obtain ⟨hi152, hlt153, hy154⟩ := gx_some hx151
             obtain ⟨cs155, hl156, hR157, hat158⟩ := h91.at hy154
             subst hR157
             refine QL.v hE (runs_if hE rfl rfl rfl hg149) (Gives.idx hE (x58.On).toNat rfl rfl sl42 hi152 hlt153 (h91.aok hlt153)) rfl ?_; clear hE a; intro a hE
             refine QL.v hE (runs_if hE rfl rfl rfl hg149) (Gives.fld hE rfl fl106_0) rfl ?_; clear hE a; intro a hE
             refine QL.v hE (runs_if hE rfl rfl rfl hg149) (Gives.load1 hE rfl (fun w h => (hat158 w _ h).one rfl) ty3) rfl ?_; clear hE a; intro a hE
             refine QL.v hE (runs_if hE rfl rfl rfl hg149) (Gives.fld hE rfl fl106_0) rfl ?_; clear hE a; intro a hE
             refine QL.v hE (runs_if hE rfl rfl rfl hg149) (Gives.loadB hE 0 rfl rfl rfl ty3) rfl ?_; clear hE a; intro a hE
             refine QL.v hE (runs_if hE rfl rfl rfl hg149) (Gives.p hE rfl) rfl ?_; clear hE a; intro a hE
             refine qP hE (Gives.pickF hE rfl hg149 rfl) rfl ?_; clear hE a; intro a hE
             refine QL.nil ?_; clear hS w; intro w hS
             subst hK148
             exact ⟨(x150.Station != x133.Station), Option.some.inj hq143, hE.pick _ ⟨rfl, rfl, rfl, rfl, rfl, rfl, rfl, rfl, rfl, rfl, rfl, trivial⟩, hS⟩
           ·clear hE hS a w; rintro a w ⟨q147, rfl, hE, hS⟩
            refine W.cond hE rfl (fun hc159 => ?_) (fun hc159 => ?_)
            ·replace hq55 := iteT hc159 hq55
             refine W.seq (W.region ?_)
             refine vP hS hE (Gives.p hE rfl) rfl ?_; clear hE a; intro a hE
             refine WL.nil ?_
             refine W.ret ?_
             subst hK66
             rw [← Option.some.inj hq55] at hr
             dsimp only at hr
             refine finG (fn := Tryd.f18) (rs := [.tmp 8]) (vs := [_]) hE rfl ⟨rfl, trivial⟩ ?_
             obtain rfl := Option.some.inj hr
             replace hS := hS.tail
             replace hS := hS.tail
             replace hS := hS.tail
             replace hS := hS.tail
             replace hS := hS.tail
             exact ⟨rfl, hS⟩
            ·replace hq55 := iteF hc159 hq55
             refine W.skip ?_
             refine W.seq ?_
             obtain ⟨q161, hq160, hq55⟩ := bindS hq55
             refine W.cut (fun a w => ∃ (q164 : Bool), q164 = q161 ∧ Rep a 125 [(2, .int .i64 x2), (3, .bool x3), (4, .pointer (some ⟨b51, 0, none⟩)), (5, .pointer (some ⟨b52, 0, none⟩)), (23, .slice a1_0 x1.Rides.length c1_0), (24, .int .i64 ((x1.Rides).length : Int)), (25, .int .i64 ((k57 : Nat) : Int)), (123, .bool q164)] ∧ St w s (pt b142 (.cells (ApiStop.cells x133).toArray 106 (0, 0)) :: pt b116 (.cells (GuideRide.cells x107).toArray 47 (0, 0)) :: pt b71 (.cells (GuideRide.cells x58).toArray 47 (0, 0)) :: pt b52 (.cells #[.slice a1_0 x1.Rides.length c1_0] 28 (0, 0)) :: pt b51 (.cells #[.slice a0_0 x0.Trains.length c0_0, .slice a0_1 x0.Turns.length c0_1] 25 (0, 0)) :: R)) ?_ ?_
             ·refine W.gen fun K165 hK165 => ?_
              refine W.regionQ (C := fun w => St w s (pt b142 (.cells (ApiStop.cells x133).toArray 106 (0, 0)) :: pt b116 (.cells (GuideRide.cells x107).toArray 47 (0, 0)) :: pt b71 (.cells (GuideRide.cells x58).toArray 47 (0, 0)) :: pt b52 (.cells #[.slice a1_0 x1.Rides.length c1_0] 28 (0, 0)) :: pt b51 (.cells #[.slice a0_0 x0.Trains.length c0_0, .slice a0_1 x0.Turns.length c0_1] 25 (0, 0)) :: R)) mixed (by kernel_rfl) hS.drew ?_
              refine qP hE (Gives.p hE rfl) rfl ?_; clear hE a; intro a hE
              refine qP hE (Gives.p hE rfl) rfl ?_; clear hE a; intro a hE
              rcases Bool.eq_false_or_eq_true x3 with hg166 | hg166
              ·replace hq160 := iteT hg166 hq160
               refine QL.v hE (runs_if hE rfl rfl rfl hg166) (Gives.p hE rfl) rfl ?_; clear hE a; intro a hE
               refine QL.v hE (runs_if hE rfl rfl rfl hg166) (Gives.fld hE rfl fl47_1) rfl ?_; clear hE a; intro a hE
               refine QL.v hE (runs_if hE rfl rfl rfl hg166) (Gives.loadB hE 2 rfl rfl rfl ty3) rfl ?_; clear hE a; intro a hE
               obtain ⟨x167, hx168, hq160⟩ := bindS hq160
               obtain ⟨hi169, hlt170, hy171⟩ := gx_some hx168
               obtain ⟨cs172, hl173, hR174, hat175⟩ := h91.at hy171
               subst hR174
               refine QL.v hE (runs_if hE rfl rfl rfl hg166) (Gives.idx hE (x58.On).toNat rfl rfl sl42 hi169 hlt170 (h91.aok hlt170)) rfl ?_; clear hE a; intro a hE
               refine QL.v hE (runs_if hE rfl rfl rfl hg166) (Gives.fld hE rfl fl106_3) rfl ?_; clear hE a; intro a hE
               refine QL.v hE (runs_if hE rfl rfl rfl hg166) (Gives.load1 hE rfl (fun w h => (hat175 w _ h).one rfl) ty3) rfl ?_; clear hE a; intro a hE
               refine QL.v hE (runs_if hE rfl rfl rfl hg166) (Gives.fld hE rfl fl106_2) rfl ?_; clear hE a; intro a hE
               refine QL.v hE (runs_if hE rfl rfl rfl hg166) (Gives.loadB hE 0 rfl rfl rfl ty3) rfl ?_; clear hE a; intro a hE
               refine QL.v hE (runs_if hE rfl rfl rfl hg166) (Gives.p hE rfl) rfl ?_; clear hE a; intro a hE
               refine QL.v hE (runs_if hE rfl rfl rfl hg166) (Gives.p hE rfl) rfl ?_; clear hE a; intro a hE
               refine QL.v hE (runs_if hE rfl rfl rfl hg166) (Gives.p hE rfl) rfl ?_; clear hE a; intro a hE
               refine qP hE (Gives.pickT hE rfl hg166 rfl) rfl ?_; clear hE a; intro a hE
               refine QL.nil ?_; clear hS w; intro w hS
               subst hK165
               exact ⟨decide (x167.Dep < (w64 (x133.Arr + x2))), Option.some.inj hq160, hE.pick _ ⟨rfl, rfl, rfl, rfl, rfl, rfl, rfl, rfl, trivial⟩, hS⟩
              ·replace hq160 := iteF hg166 hq160
               refine QL.no hE (runs_not hE rfl rfl rfl (by rw [hg166]; decide)) rfl ?_; clear hE a; intro a hE
               refine QL.no hE (runs_not hE rfl rfl rfl (by rw [hg166]; decide)) rfl ?_; clear hE a; intro a hE
               refine QL.no hE (runs_not hE rfl rfl rfl (by rw [hg166]; decide)) rfl ?_; clear hE a; intro a hE
               refine QL.no hE (runs_not hE rfl rfl rfl (by rw [hg166]; decide)) rfl ?_; clear hE a; intro a hE
               refine QL.no hE (runs_not hE rfl rfl rfl (by rw [hg166]; decide)) rfl ?_; clear hE a; intro a hE
               refine QL.no hE (runs_not hE rfl rfl rfl (by rw [hg166]; decide)) rfl ?_; clear hE a; intro a hE
               refine QL.no hE (runs_not hE rfl rfl rfl (by rw [hg166]; decide)) rfl ?_; clear hE a; intro a hE
               refine QL.no hE (runs_not hE rfl rfl rfl (by rw [hg166]; decide)) rfl ?_; clear hE a; intro a hE
               refine QL.no hE (runs_not hE rfl rfl rfl (by rw [hg166]; decide)) rfl ?_; clear hE a; intro a hE
               refine QL.no hE (runs_not hE rfl rfl rfl (by rw [hg166]; decide)) rfl ?_; clear hE a; intro a hE
               refine QL.no hE (runs_not hE rfl rfl rfl (by rw [hg166]; decide)) rfl ?_; clear hE a; intro a hE
               refine qP hE (Gives.pickF hE rfl hg166 rfl) rfl ?_; clear hE a; intro a hE
               refine QL.nil ?_; clear hS w; intro w hS
               subst hK165
               exact ⟨false, Option.some.inj hq160, hE.pick _ ⟨rfl, rfl, rfl, rfl, rfl, rfl, rfl, rfl, trivial⟩, hS⟩
             ·clear hE hS a w; rintro a w ⟨q164, rfl, hE, hS⟩
              refine W.cond hE rfl (fun hc176 => ?_) (fun hc176 => ?_)
              ·replace hq55 := iteT hc176 hq55
               refine W.seq (W.region ?_)
               refine vP hS hE (Gives.p hE rfl) rfl ?_; clear hE a; intro a hE
               refine WL.nil ?_
               refine W.ret ?_
               subst hK66
               rw [← Option.some.inj hq55] at hr
               dsimp only at hr
               refine finG (fn := Tryd.f18) (rs := [.tmp 8]) (vs := [_]) hE rfl ⟨rfl, trivial⟩ ?_
               obtain rfl := Option.some.inj hr
               replace hS := hS.tail
               replace hS := hS.tail
               replace hS := hS.tail
               replace hS := hS.tail
               replace hS := hS.tail
               exact ⟨rfl, hS⟩
              ·replace hq55 := iteF hc176 hq55
               refine W.skip ?_
               refine W.region ?_
               refine vP hS hE (Gives.inc hE rfl (by have := h1_0.small; omega)) rfl ?_; clear hE a; intro a hE
               refine vP hS hE (Gives.p hE rfl) rfl ?_; clear hE a; intro a hE
               refine WL.nil ?_
               replace hS := hS.tail
               replace hS := hS.tail
               replace hS := hS.tail
               subst hK66
               exact ⟨rest59.length, Nat.lt_succ_self _, rest59, k57 + 1, rfl, hd60, hq55, hE.pick _ ⟨rfl, rfl, rfl, rfl, rfl, rfl, rfl, trivial⟩, hS⟩
   ·clear hE hS a w; rintro a w ⟨rfl, hE, hS⟩
    dsimp only at hr
    refine W.seq (W.region ?_)
    refine vP hS hE (Gives.p hE rfl) rfl ?_; clear hE a; intro a hE
    refine WL.nil ?_
    refine W.ret ?_
    refine finG (fn := Tryd.f18) (rs := [.tmp 8]) (vs := [_]) hE rfl ⟨rfl, trivial⟩ ?_
    obtain rfl := Option.some.inj hr
    replace hS := hS.tail
    replace hS := hS.tail
    exact ⟨rfl, hS⟩
set_option maxHeartbeats 8000000 in
theorem Fishref2AllOf_1_v1_ok : ∀ {fu : Nat} {w : World} {s : Sg} {R : List HP} {pb0 : Nat} {pb1 : Nat} {pb2 : Nat} {pb3 : Nat} {pb4 : Nat} {pb5 : Nat} {x0 : List GuideRide} {a0 : Option Addr} {c0 : Nat} {y0 : ApiDay} {a_y0_0 : Option Addr} {c_y0_0 : Nat} {a_y0_1 : Option Addr} {c_y0_1 : Nat} {y1 : Int} {y2 : List GuideJourney} {a_v0 : Option Addr} {c_v0 n_v0 : Nat} {cs_v0 : List Value} {y3 : Int} {y4 : Int} (_hS : St w s (pt pb0 (.cells #[.slice a_y0_0 y0.Trains.length c_y0_0, .slice a_y0_1 y0.Turns.length c_y0_1] 25 (0, 0)) :: pt pb1 (.cells #[.int .i64 y1] 3 (0, 0)) :: pt pb2 (.cells #[.slice a_v0 n_v0 c_v0] 39 (0, 0)) :: pt pb3 (.cells #[.int .i64 y3] 3 (0, 0)) :: pt pb4 (.cells #[.int .i64 y4] 3 (0, 0)) :: pt pb5 (.cells #[.func (.func 83) #[] #[.pointer (some ⟨pb0, 0, none⟩), .pointer (some ⟨pb1, 0, none⟩), .pointer (some ⟨pb2, 0, none⟩), .pointer (some ⟨pb3, 0, none⟩), .pointer (some ⟨pb4, 0, none⟩), .pointer (some ⟨pb5, 0, none⟩)]] 137 (0, 0)) :: vecC 28 1 a_v0 c_v0 n_v0 cs_v0 :: R)) (_h0 : Sl 3 RGuideRide s a0 c0 x0) (_h_y0_0 : Sl 4 RApiTrain s a_y0_0 c_y0_0 y0.Trains) (_h_y0_1 : Sl 1 (RL 1 (RI .i64)) s a_y0_1 c_y0_1 y0.Turns) (_h_v0 : Ev 1 RGuideJourney s cs_v0 y2) (_hn_v0 : y2.length = n_v0) {r : (List GuideJourney)} (_hr : Fishref2AllOf_1_v1 fu x0 y0 y1 y2 y3 y4 = some r),
  Calls Tryd.prog 83 [.slice a0 x0.length c0, .pointer (some ⟨pb0, 0, none⟩), .pointer (some ⟨pb1, 0, none⟩), .pointer (some ⟨pb2, 0, none⟩), .pointer (some ⟨pb3, 0, none⟩), .pointer (some ⟨pb4, 0, none⟩), .pointer (some ⟨pb5, 0, none⟩)].toArray w (fun e w => ∃ (a59 : Option Addr) (c60 : Nat) (n62 : Nat) (cs63 : List Value) (t : Sg), e = .returned (.tuple #[]) ∧ s.Le t ∧ Ev 1 RGuideJourney t cs63 r ∧ r.length = n62 ∧ St w t (pt pb0 (.cells #[.slice a_y0_0 y0.Trains.length c_y0_0, .slice a_y0_1 y0.Turns.length c_y0_1] 25 (0, 0)) :: pt pb1 (.cells #[.int .i64 y1] 3 (0, 0)) :: pt pb2 (.cells #[.slice a59 n62 c60] 39 (0, 0)) :: pt pb3 (.cells #[.int .i64 y3] 3 (0, 0)) :: pt pb4 (.cells #[.int .i64 y4] 3 (0, 0)) :: pt pb5 (.cells #[.func (.func 83) #[] #[.pointer (some ⟨pb0, 0, none⟩), .pointer (some ⟨pb1, 0, none⟩), .pointer (some ⟨pb2, 0, none⟩), .pointer (some ⟨pb3, 0, none⟩), .pointer (some ⟨pb4, 0, none⟩), .pointer (some ⟨pb5, 0, none⟩)]] 137 (0, 0)) :: vecC 28 1 a59 c60 n62 cs63 :: R)) := by
 intro fu
 induction fu with
 | zero => intro w s R pb0 pb1 pb2 pb3 pb4 pb5 x0 a0 c0 y0 a_y0_0 c_y0_0 a_y0_1 c_y0_1 y1 y2 a_v0 c_v0 n_v0 cs_v0 y3 y4 hS h0 h_y0_0 h_y0_1 h_v0 hn_v0 r hr; rw [Fishref2AllOf_1_v1] at hr; exact absurd hr (by simp)
 | succ fu ih_Fishref2AllOf_1_v1 =>
  intro w s R pb0 pb1 pb2 pb3 pb4 pb5 x0 a0 c0 y0 a_y0_0 c_y0_0 a_y0_1 c_y0_1 y1 y2 a_v0 c_v0 n_v0 cs_v0 y3 y4 hS h0 h_y0_0 h_y0_1 h_v0 hn_v0 r hr
  rw [Fishref2AllOf_1_v1] at hr
  generalize Fishref2AllOf_1_v1 fu = self_Fishref2AllOf_1_v1 at hr ih_Fishref2AllOf_1_v1
  refine enter Tryd.func83 rfl rfl rfl fun a hE => ?_
  subst hn_v0
  refine W.seq ?_
  refine W.seq (W.region ?_)
  refine vP hS hE (Gives.p hE rfl) rfl ?_; clear hE a; intro a hE
  refine vP hS hE (Gives.len hE rfl sl26) rfl ?_; clear hE a; intro a hE
  refine vP hS hE (Gives.p hE rfl) rfl ?_; clear hE a; intro a hE
  refine WL.nil ?_
  obtain ⟨q66, hq65, hr⟩ := bindS hr
  refine W.cut (fun a w => ∃ (q69 : List GuideJourney), ∃ (a70 : Option Addr), ∃ (c71 : Nat), ∃ (n73 : Nat), ∃ (cs74 : List Value), ∃ (s67 : Sg), s.Le s67 ∧ q69 = q66 ∧ Ev 1 RGuideJourney s67 cs74 q69 ∧ q69.length = n73 ∧ Rep a 116 [(0, .slice a0 x0.length c0), (1, .pointer (some ⟨pb0, 0, none⟩)), (4, .pointer (some ⟨pb3, 0, none⟩)), (5, .pointer (some ⟨pb4, 0, none⟩)), (6, .pointer (some ⟨pb5, 0, none⟩))] ∧ St w s67 (pt pb0 (.cells #[.slice a_y0_0 y0.Trains.length c_y0_0, .slice a_y0_1 y0.Turns.length c_y0_1] 25 (0, 0)) :: pt pb1 (.cells #[.int .i64 y1] 3 (0, 0)) :: pt pb2 (.cells #[.slice a70 n73 c71] 39 (0, 0)) :: pt pb3 (.cells #[.int .i64 y3] 3 (0, 0)) :: pt pb4 (.cells #[.int .i64 y4] 3 (0, 0)) :: pt pb5 (.cells #[.func (.func 83) #[] #[.pointer (some ⟨pb0, 0, none⟩), .pointer (some ⟨pb1, 0, none⟩), .pointer (some ⟨pb2, 0, none⟩), .pointer (some ⟨pb3, 0, none⟩), .pointer (some ⟨pb4, 0, none⟩), .pointer (some ⟨pb5, 0, none⟩)]] 137 (0, 0)) :: vecC 28 1 a70 c71 n73 cs74 :: R)) ?_ ?_
  ·refine W.gen fun K76 hK76 => ?_
   refine W.cond hE rfl (fun hc77 => ?_) (fun hc77 => ?_)
   ·replace hq65 := iteT hc77 hq65
    refine W.seq (W.region ?_)
    refine vP hS hE (Gives.p hE rfl) rfl ?_; clear hE a; intro a hE
    refine vP hS hE (Gives.p hE rfl) rfl ?_; clear hE a; intro a hE
    refine vP hS hE (Gives.len hE rfl sl26) rfl ?_; clear hE a; intro a hE
    refine vP hS hE (Gives.p hE rfl) rfl ?_; clear hE a; intro a hE
    obtain ⟨x78, hx79, hq65⟩ := bindS hq65
    obtain ⟨hi80, hlt81, hy82⟩ := gx_some hx79
    obtain ⟨cs83, hl84, hR85, hat86⟩ := h0.at hy82
    subst hR85
    refine vP hS hE (Gives.idx hE (w64 (((x0).length : Int) - 1)).toNat rfl rfl sl26 hi80 hlt81 (h0.aok hlt81)) rfl ?_; clear hE a; intro a hE
    refine vP hS hE (Gives.loadA hE rfl (fun w h => hat86 w _ h) ty47) rfl ?_; clear hE a; intro a hE
    refine WL.alloc hE hS (runs_plain rfl) zr47 rfl ?_; clear hE hS a w; intro b87 a w hE hS
    refine WL.storeI hE hS 0 rfl (GuideRide.cells x78) (runs_plain rfl) rfl rfl rfl ty47 rfl rfl rfl rfl ?_; clear hE hS a w; intro a w hE hS
    refine WL.nil ?_
    refine W.seq ?_
    refine W.regionQ (C := fun w => St w s (pt b87 (.cells (GuideRide.cells x78).toArray 47 (0, 0)) :: pt pb0 (.cells #[.slice a_y0_0 y0.Trains.length c_y0_0, .slice a_y0_1 y0.Turns.length c_y0_1] 25 (0, 0)) :: pt pb1 (.cells #[.int .i64 y1] 3 (0, 0)) :: pt pb2 (.cells #[.slice a_v0 y2.length c_v0] 39 (0, 0)) :: pt pb3 (.cells #[.int .i64 y3] 3 (0, 0)) :: pt pb4 (.cells #[.int .i64 y4] 3 (0, 0)) :: pt pb5 (.cells #[.func (.func 83) #[] #[.pointer (some ⟨pb0, 0, none⟩), .pointer (some ⟨pb1, 0, none⟩), .pointer (some ⟨pb2, 0, none⟩), .pointer (some ⟨pb3, 0, none⟩), .pointer (some ⟨pb4, 0, none⟩), .pointer (some ⟨pb5, 0, none⟩)]] 137 (0, 0)) :: vecC 28 1 a_v0 c_v0 y2.length cs_v0 :: R)) mixed (by kernel_rfl) hS.drew ?_
    refine qP hE (Gives.fld hE rfl fl25_0) rfl ?_; clear hE a; intro a hE
    refine qP hE (Gives.loadB hE 1 rfl rfl rfl ty22) rfl ?_; clear hE a; intro a hE
    refine qP hE (Gives.fld hE rfl fl47_0) rfl ?_; clear hE a; intro a hE
    refine qP hE (Gives.loadB hE 0 rfl rfl rfl ty3) rfl ?_; clear hE a; intro a hE
    obtain ⟨x88, hx89, hq65⟩ := bindS hq65
    obtain ⟨hi90, hlt91, hy92⟩ := gx_some hx89
    obtain ⟨cs93, hl94, hR95, hat96⟩ := h_y0_0.at hy92
    obtain ⟨a97, c98, a100, c101, rfl, h99, h102⟩ := hR95
    refine qP hE (Gives.idx hE (x78.Train).toNat rfl rfl sl22 hi90 hlt91 (h_y0_0.aok hlt91)) rfl ?_; clear hE a; intro a hE
    refine qP hE (Gives.fld hE rfl fl44_2) rfl ?_; clear hE a; intro a hE
    refine qP hE (Gives.load1 hE rfl (fun w h => (hat96 w _ h).one rfl) ty42) rfl ?_; clear hE a; intro a hE
    refine qP hE (Gives.fld hE rfl fl47_2) rfl ?_; clear hE a; intro a hE
    refine qP hE (Gives.loadB hE 0 rfl rfl rfl ty3) rfl ?_; clear hE a; intro a hE
    obtain ⟨x103, hx104, hq65⟩ := bindS hq65
    obtain ⟨hi105, hlt106, hy107⟩ := gx_some hx104
    obtain ⟨cs108, hl109, hR110, hat111⟩ := h99.at hy107
    subst hR110
    refine qP hE (Gives.idx hE (x78.Off).toNat rfl rfl sl42 hi105 hlt106 (h99.aok hlt106)) rfl ?_; clear hE a; intro a hE
    refine qP hE (Gives.fld hE rfl fl106_0) rfl ?_; clear hE a; intro a hE
    refine qP hE (Gives.load1 hE rfl (fun w h => (hat111 w _ h).one rfl) ty3) rfl ?_; clear hE a; intro a hE
    refine qP hE (Gives.p hE rfl) rfl ?_; clear hE a; intro a hE
    refine QL.nil ?_; clear hS w; intro w hS
    refine W.seq ?_
    obtain ⟨q113, hq112, hq65⟩ := bndS hq65
    refine W.cut (fun a w => ∃ (q116 : Bool), q116 = q113 ∧ Rep a 116 [(0, .slice a0 x0.length c0), (1, .pointer (some ⟨pb0, 0, none⟩)), (3, .pointer (some ⟨pb2, 0, none⟩)), (4, .pointer (some ⟨pb3, 0, none⟩)), (5, .pointer (some ⟨pb4, 0, none⟩)), (6, .pointer (some ⟨pb5, 0, none⟩)), (42, .bool q116)] ∧ St w s (pt b87 (.cells (GuideRide.cells x78).toArray 47 (0, 0)) :: pt pb0 (.cells #[.slice a_y0_0 y0.Trains.length c_y0_0, .slice a_y0_1 y0.Turns.length c_y0_1] 25 (0, 0)) :: pt pb1 (.cells #[.int .i64 y1] 3 (0, 0)) :: pt pb2 (.cells #[.slice a_v0 y2.length c_v0] 39 (0, 0)) :: pt pb3 (.cells #[.int .i64 y3] 3 (0, 0)) :: pt pb4 (.cells #[.int .i64 y4] 3 (0, 0)) :: pt pb5 (.cells #[.func (.func 83) #[] #[.pointer (some ⟨pb0, 0, none⟩), .pointer (some ⟨pb1, 0, none⟩), .pointer (some ⟨pb2, 0, none⟩), .pointer (some ⟨pb3, 0, none⟩), .pointer (some ⟨pb4, 0, none⟩), .pointer (some ⟨pb5, 0, none⟩)]] 137 (0, 0)) :: vecC 28 1 a_v0 c_v0 y2.length cs_v0 :: R)) ?_ ?_
    ·refine W.gen fun K117 hK117 => ?_
     refine W.region ?_
     refine vP hS hE (Gives.loadB hE 2 rfl rfl rfl ty3) rfl ?_; clear hE a; intro a hE
     refine vP hS hE (Gives.p hE rfl) rfl ?_; clear hE a; intro a hE
     refine vP hS hE (Gives.p hE rfl) rfl ?_; clear hE a; intro a hE
     rcases Bool.eq_false_or_eq_true (decide (y1 < 0)) with hg118 | hg118
     ·replace hq112 := iteT hg118 hq112
      refine WL.no hE (runs_not hE rfl rfl rfl (by rw [hg118]; decide)) rfl ?_; clear hE a; intro a hE
      refine WL.no hE (runs_not hE rfl rfl rfl (by rw [hg118]; decide)) rfl ?_; clear hE a; intro a hE
      refine WL.no hE (runs_not hE rfl rfl rfl (by rw [hg118]; decide)) rfl ?_; clear hE a; intro a hE
      refine vP hS hE (Gives.pickT hE rfl hg118 rfl) rfl ?_; clear hE a; intro a hE
      refine WL.nil ?_
      subst hK117
      exact ⟨true, hq112, hE.pick _ ⟨rfl, rfl, rfl, rfl, rfl, rfl, rfl, trivial⟩, hS⟩
     ·replace hq112 := iteF hg118 hq112
      refine WL.vS hS hE (runs_if hE rfl rfl rfl hg118) (Gives.p hE rfl) rfl ?_; clear hE a; intro a hE
      refine WL.vS hS hE (runs_if hE rfl rfl rfl hg118) (Gives.loadB hE 2 rfl rfl rfl ty3) rfl ?_; clear hE a; intro a hE
      refine WL.vS hS hE (runs_if hE rfl rfl rfl hg118) (Gives.p hE rfl) rfl ?_; clear hE a; intro a hE
      refine vP hS hE (Gives.pickF hE rfl hg118 rfl) rfl ?_; clear hE a; intro a hE
      refine WL.nil ?_
      subst hK117
      exact ⟨(x103.Station == y1), hq112, hE.pick _ ⟨rfl, rfl, rfl, rfl, rfl, rfl, rfl, trivial⟩, hS⟩
    ·clear hE hS a w; rintro a w ⟨q116, rfl, hE, hS⟩
     obtain ⟨q120, hq119, hq65⟩ := bindS hq65
     refine W.cut (fun a w => ∃ (q123 : List GuideJourney), ∃ (a124 : Option Addr), ∃ (c125 : Nat), ∃ (n127 : Nat), ∃ (cs128 : List Value), ∃ (s121 : Sg), s.Le s121 ∧ q123 = q120 ∧ Ev 1 RGuideJourney s121 cs128 q123 ∧ q123.length = n127 ∧ Rep a 116 [(0, .slice a0 x0.length c0), (1, .pointer (some ⟨pb0, 0, none⟩)), (4, .pointer (some ⟨pb3, 0, none⟩)), (5, .pointer (some ⟨pb4, 0, none⟩)), (6, .pointer (some ⟨pb5, 0, none⟩))] ∧ St w s121 (pt b87 (.cells (GuideRide.cells x78).toArray 47 (0, 0)) :: pt pb0 (.cells #[.slice a_y0_0 y0.Trains.length c_y0_0, .slice a_y0_1 y0.Turns.length c_y0_1] 25 (0, 0)) :: pt pb1 (.cells #[.int .i64 y1] 3 (0, 0)) :: pt pb2 (.cells #[.slice a124 n127 c125] 39 (0, 0)) :: pt pb3 (.cells #[.int .i64 y3] 3 (0, 0)) :: pt pb4 (.cells #[.int .i64 y4] 3 (0, 0)) :: pt pb5 (.cells #[.func (.func 83) #[] #[.pointer (some ⟨pb0, 0, none⟩), .pointer (some ⟨pb1, 0, none⟩), .pointer (some ⟨pb2, 0, none⟩), .pointer (some ⟨pb3, 0, none⟩), .pointer (some ⟨pb4, 0, none⟩), .pointer (some ⟨pb5, 0, none⟩)]] 137 (0, 0)) :: vecC 28 1 a124 c125 n127 cs128 :: R)) ?_ ?_
     ·refine W.gen fun K130 hK130 => ?_
      refine W.cond hE rfl (fun hc131 => ?_) (fun hc131 => ?_)
      ·replace hq119 := iteT hc131 hq119
       refine W.gen fun K132 hK132 => ?_
       refine W.regionE (sel (fun w => St w s (pt b87 (.cells (GuideRide.cells x78).toArray 47 (0, 0)) :: pt pb0 (.cells #[.slice a_y0_0 y0.Trains.length c_y0_0, .slice a_y0_1 y0.Turns.length c_y0_1] 25 (0, 0)) :: pt pb1 (.cells #[.int .i64 y1] 3 (0, 0)) :: pt pb2 (.cells #[.slice a_v0 y2.length c_v0] 39 (0, 0)) :: pt pb3 (.cells #[.int .i64 y3] 3 (0, 0)) :: pt pb4 (.cells #[.int .i64 y4] 3 (0, 0)) :: pt pb5 (.cells #[.func (.func 83) #[] #[.pointer (some ⟨pb0, 0, none⟩), .pointer (some ⟨pb1, 0, none⟩), .pointer (some ⟨pb2, 0, none⟩), .pointer (some ⟨pb3, 0, none⟩), .pointer (some ⟨pb4, 0, none⟩), .pointer (some ⟨pb5, 0, none⟩)]] 137 (0, 0)) :: vecC 28 1 a_v0 c_v0 y2.length cs_v0 :: R)) (fun w => St w s (pt b87 (.cells (GuideRide.cells x78).toArray 47 (0, 0)) :: pt pb0 (.cells #[.slice a_y0_0 y0.Trains.length c_y0_0, .slice a_y0_1 y0.Turns.length c_y0_1] 25 (0, 0)) :: pt pb1 (.cells #[.int .i64 y1] 3 (0, 0)) :: pt pb2 (.cells #[.slice a_v0 y2.length c_v0] 39 (0, 0)) :: pt pb3 (.cells #[.int .i64 y3] 3 (0, 0)) :: pt pb4 (.cells #[.int .i64 y4] 3 (0, 0)) :: pt pb5 (.cells #[.func (.func 83) #[] #[.pointer (some ⟨pb0, 0, none⟩), .pointer (some ⟨pb1, 0, none⟩), .pointer (some ⟨pb2, 0, none⟩), .pointer (some ⟨pb3, 0, none⟩), .pointer (some ⟨pb4, 0, none⟩), .pointer (some ⟨pb5, 0, none⟩)]] 137 (0, 0)) :: R))) (fun b i => cond b ([0, 1, 2, 3, 4].contains i) ([0, 1, 2, 3, 4, 5].contains i)) mixed ?_
       replace hS := hS.drew
       have hT := tw_sel (A := fun w => St w s _) (B := fun w => St w s _) (w := _) (x := true) (y := true) (fun _ => hS) (fun _ => (hS.dropAt 7))
       have hF := hS; replace hS := hS
       refine Rg.take (i := 0) true rfl hE rfl (by kernel_rfl) (runs_plain rfl) (Gives.loadB hE 3 rfl rfl rfl ty39) rfl hT ?_; clear hE a; intro a hE
       replace hS := hF; clear hF hT
       refine Rg.takeP (i := 1) hE rfl (by kernel_rfl) (runs_plain rfl) (Gives.p hE rfl) rfl (tw_sel (fun _ => hS) (fun _ => (hS.dropAt 7))) ?_; clear hE a; intro a hE
       refine Rg.one (i := 2) true true rfl (by kernel_rfl) (by kernel_rfl) (by kernel_rfl) ?_
       obtain ⟨q133, hq134, hq119⟩ := bindS hq119
       have hc_ := SlicesCloneLguideRide_ok hS h0 hq134
       refine WL.fnq hE (hc_) (runs_plain rfl) bd76 rfl rfl rfl ?_
       clear hE hS hc_; rintro e w ⟨a135, c136, n137, cs138, rfl, h139, rfl, hS⟩; refine ⟨_, rfl, ?_⟩; clear a; intro a hE
       refine WL.nil ?_
       refine ⟨⟨fun _ => (hS.tail), fun _ => ((hS.tail).dropAt 7)⟩, ?_⟩
       refine Rg.takeP (i := 3) hE rfl (by kernel_rfl) (runs_plain rfl) (Gives.build hE (vs := [(0, .slice a135 q133.length c136)]) [.slice a135 q133.length c136] rfl (by kernel_rfl)) rfl (tw_sel (fun _ => (hS.tail)) (fun _ => ((hS.tail).dropAt 7))) ?_; clear hE a; intro a hE
       refine Rg.one (i := 4) true true rfl (by kernel_rfl) (by kernel_rfl) (by kernel_rfl) ?_
       have hF := hS.fixD RGuideRide.mono 0 rfl h139 rfl; clear hS; obtain ⟨s141, hle142, hS, h143⟩ := hF
       replace h0 := Sl.mono RGuideRide.mono hle142 h0
       replace h_y0_0 := Sl.mono RApiTrain.mono hle142 h_y0_0
       replace h_y0_1 := Sl.mono (RL.mono RI.mono) hle142 h_y0_1
       replace h_v0 := Ev.mono RGuideJourney.mono hle142 h_v0
       refine WL.lit hE hS (e := 28) (es := 1) (vs := [(0, .agg [.slice a135 q133.length c136].toArray)]) (cs := [.slice a135 q133.length c136]) (runs_plain rfl) rfl (by kernel_rfl) rfl ?_; clear hE hS a w; intro b144 a w hE hS
       refine WL.nil ?_
       refine ⟨⟨fun _ => (St.down hle142 (hS.tail)), fun _ => (St.down hle142 ((hS.tail).dropAt 7))⟩, ?_⟩
       refine Rg.one (i := 5) false true rfl (by kernel_rfl) (by kernel_rfl) (by kernel_rfl) ?_
       obtain ⟨x145, hx146, hq119⟩ := bindS hq119
       refine WL.appD hE hS 7 (m := 1) (runs_plain rfl) rfl rfl rfl ap39 rfl h_v0 (rfl) (xs := [(GuideJourney.mk q133)]) (Ev.cons (c1 := [.slice a135 q133.length c136]) ⟨_, _, rfl, h143⟩ rfl (Ev.nil)) rfl rfl hx146 rfl ?_; clear hE hS a w; intro a147 c148 cs149 a w h150 hE hS
       refine WL.nil ?_
       refine ⟨⟨fun h => absurd h (by decide), fun _ => (St.down hle142 (hS.dropAt 7))⟩, ?_⟩
       refine Rg.one (i := 6) false false rfl (by kernel_rfl) (by kernel_rfl) (by kernel_rfl) ?_
       refine WL.storeI hE hS 3 rfl [.slice a147 x145.length c148] (runs_plain rfl) rfl rfl rfl ty39 rfl rfl rfl rfl ?_; clear hE hS a w; intro a w hE hS
       refine WL.nil ?_
       refine ⟨⟨fun h => absurd h (by decide), fun h => absurd h (by decide)⟩, ?_⟩
       refine Rg.done (by kernel_rfl) ?_
       subst hK132
       subst hK130
       exact ⟨x145, a147, c148, x145.length, cs149, s141, hle142, Option.some.inj hq119, h150, (rfl), hE.pick _ ⟨rfl, rfl, rfl, rfl, rfl, trivial⟩, hS⟩
      ·replace hq119 := iteF hc131 hq119
       refine W.skip ?_
       subst hK130
       exact ⟨y2, a_v0, c_v0, y2.length, cs_v0, s, (Sg.Le.refl _), Option.some.inj hq119, h_v0, (rfl), hE.pick _ ⟨rfl, rfl, rfl, rfl, rfl, trivial⟩, hS⟩
     ·clear hE hS a w; rintro a w ⟨q123, a124, c125, n127, cs128, s121, hle122, rfl, h126, rfl, hE, hS⟩
      replace h0 := Sl.mono RGuideRide.mono hle122 h0
      replace h_y0_0 := Sl.mono RApiTrain.mono hle122 h_y0_0
      replace h_y0_1 := Sl.mono (RL.mono RI.mono) hle122 h_y0_1
      replace h_v0 := Ev.mono RGuideJourney.mono hle122 h_v0
      replace hS := hS.tail
      subst hK76
      exact ⟨q123, a124, c125, q123.length, cs128, s121, hle122, Option.some.inj hq65, h126, rfl, hE.pick _ ⟨rfl, rfl, rfl, rfl, rfl, trivial⟩, hS⟩
   ·replace hq65 := iteF hc77 hq65
    refine W.skip ?_
    subst hK76
    exact ⟨y2, a_v0, c_v0, y2.length, cs_v0, s, (Sg.Le.refl _), Option.some.inj hq65, h_v0, (rfl), hE.pick _ ⟨rfl, rfl, rfl, rfl, rfl, trivial⟩, hS⟩
  ·clear hE hS a w; rintro a w ⟨q69, a70, c71, n73, cs74, s67, hle68, rfl, h72, rfl, hE, hS⟩
   replace h0 := Sl.mono RGuideRide.mono hle68 h0
   replace h_y0_0 := Sl.mono RApiTrain.mono hle68 h_y0_0
   replace h_y0_1 := Sl.mono (RL.mono RI.mono) hle68 h_y0_1
   replace h_v0 := Ev.mono RGuideJourney.mono hle68 h_v0
   refine W.seq ?_
   refine W.seq (W.region ?_)
   refine vP hS hE (Gives.p hE rfl) rfl ?_; clear hE a; intro a hE
   refine vP hS hE (Gives.len hE rfl sl26) rfl ?_; clear hE a; intro a hE
   refine vP hS hE (Gives.p hE rfl) rfl ?_; clear hE a; intro a hE
   refine WL.nil ?_
   refine W.cond hE rfl (fun hc151 => ?_) (fun hc151 => ?_)
   ·replace hr := iteT hc151 hr
    refine W.ret ?_
    refine finG (fn := Tryd.f83) (rs := []) (vs := []) hE rfl trivial ?_
    obtain rfl := Option.some.inj hr
    exact ⟨a70, c71, q69.length, cs74, s67, rfl, hle68, h72, rfl, hS⟩
   ·replace hr := iteF hc151 hr
    refine W.skip ?_
    refine W.seq (W.region ?_)
    refine vP hS hE (Gives.fld hE rfl fl25_0) rfl ?_; clear hE a; intro a hE
    refine vP hS hE (Gives.loadB hE 0 rfl rfl rfl ty22) rfl ?_; clear hE a; intro a hE
    refine vP hS hE (Gives.len hE rfl sl22) rfl ?_; clear hE a; intro a hE
    refine vP hS hE (Gives.p hE rfl) rfl ?_; clear hE a; intro a hE
    refine WL.nil ?_
    obtain ⟨q153, hq152, hr⟩ := bindS hr
    refine W.cut (fun a w => ∃ (q163 : List GuideJourney), ∃ (a164 : Option Addr), ∃ (c165 : Nat), ∃ (n167 : Nat), ∃ (cs168 : List Value), ∃ (s161 : Sg), s67.Le s161 ∧ q163 = q153 ∧ Ev 1 RGuideJourney s161 cs168 q163 ∧ q163.length = n167 ∧ Rep a 116 [] ∧ St w s161 (pt pb0 (.cells #[.slice a_y0_0 y0.Trains.length c_y0_0, .slice a_y0_1 y0.Turns.length c_y0_1] 25 (0, 0)) :: pt pb1 (.cells #[.int .i64 y1] 3 (0, 0)) :: pt pb2 (.cells #[.slice a164 n167 c165] 39 (0, 0)) :: pt pb3 (.cells #[.int .i64 y3] 3 (0, 0)) :: pt pb4 (.cells #[.int .i64 y4] 3 (0, 0)) :: pt pb5 (.cells #[.func (.func 83) #[] #[.pointer (some ⟨pb0, 0, none⟩), .pointer (some ⟨pb1, 0, none⟩), .pointer (some ⟨pb2, 0, none⟩), .pointer (some ⟨pb3, 0, none⟩), .pointer (some ⟨pb4, 0, none⟩), .pointer (some ⟨pb5, 0, none⟩)]] 137 (0, 0)) :: vecC 28 1 a164 c165 n167 cs168 :: R)) ?_ ?_
    ·refine W.block ?_
     refine W.loop (fun m a w => ∃ (rest156 : List ApiTrain) (k154 : Nat), ∃ (q163 : List GuideJourney), ∃ (a164 : Option Addr), ∃ (c165 : Nat), ∃ (n167 : Nat), ∃ (cs168 : List Value), ∃ (s161 : Sg), rest156.length = m ∧ y0.Trains.drop k154 = rest156 ∧ s67.Le s161 ∧ Fishref2AllOf_1_v1.loop1 x0 y0 y1 y3 y4 fu self_Fishref2AllOf_1_v1 rest156 k154 q163 = some q153 ∧ Ev 1 RGuideJourney s161 cs168 q163 ∧ q163.length = n167 ∧ Rep a 116 [(0, .slice a0 x0.length c0), (1, .pointer (some ⟨pb0, 0, none⟩)), (4, .pointer (some ⟨pb3, 0, none⟩)), (5, .pointer (some ⟨pb4, 0, none⟩)), (6, .pointer (some ⟨pb5, 0, none⟩)), (53, .slice a_y0_0 y0.Trains.length c_y0_0), (54, .int .i64 ((y0.Trains).length : Int)), (55, .int .i64 ((k154 : Nat) : Int))] ∧ St w s161 (pt pb0 (.cells #[.slice a_y0_0 y0.Trains.length c_y0_0, .slice a_y0_1 y0.Turns.length c_y0_1] 25 (0, 0)) :: pt pb1 (.cells #[.int .i64 y1] 3 (0, 0)) :: pt pb2 (.cells #[.slice a164 n167 c165] 39 (0, 0)) :: pt pb3 (.cells #[.int .i64 y3] 3 (0, 0)) :: pt pb4 (.cells #[.int .i64 y4] 3 (0, 0)) :: pt pb5 (.cells #[.func (.func 83) #[] #[.pointer (some ⟨pb0, 0, none⟩), .pointer (some ⟨pb1, 0, none⟩), .pointer (some ⟨pb2, 0, none⟩), .pointer (some ⟨pb3, 0, none⟩), .pointer (some ⟨pb4, 0, none⟩), .pointer (some ⟨pb5, 0, none⟩)]] 137 (0, 0)) :: vecC 28 1 a164 c165 n167 cs168 :: R)) (m := y0.Trains.length) ⟨y0.Trains, 0, q69, a70, c71, q69.length, cs74, s67, rfl, rfl, (Sg.Le.refl _), hq152, h72, rfl, hE.pick _ ⟨rfl, rfl, rfl, rfl, rfl, rfl, rfl, rfl, trivial⟩, hS⟩ ?_
     clear hE hS a w hq152; rintro m160 a w ⟨rest156, k154, q163, a164, c165, n167, cs168, s161, rfl, hd157, hle162, hq152, h166, rfl, hE, hS⟩
     refine W.gen fun K170 hK170 => ?_
     replace h0 := Sl.mono RGuideRide.mono hle162 h0
     replace h_y0_0 := Sl.mono RApiTrain.mono hle162 h_y0_0
     replace h_y0_1 := Sl.mono (RL.mono RI.mono) hle162 h_y0_1
     replace h72 := Ev.mono RGuideJourney.mono hle162 h72
     rcases rest156 with _ | ⟨x155, rest156⟩
     ·have hlt158 := drop_nil hd157
      refine W.seq (W.region ?_)
      refine vP hS hE (Gives.p hE rfl) rfl ?_; clear hE a; intro a hE
      refine WL.nil ?_
      refine W.seq ?_
      refine W.condF hE rfl (decide_eq_false (by omega)) ?_
      subst hK170
      refine W.exit rfl ?_
      exact ⟨q163, a164, c165, q163.length, cs168, s161, hle162, Option.some.inj hq152, h166, rfl, hE.pick _ trivial, hS⟩
     ·obtain ⟨hlt158, hx159, hd157⟩ := drop_cons hd157
      rw [Fishref2AllOf_1_v1.loop1] at hq152
      refine W.seq (W.region ?_)
      refine vP hS hE (Gives.p hE rfl) rfl ?_; clear hE a; intro a hE
      refine WL.nil ?_
      refine W.seq ?_
      refine W.condT hE rfl (decide_eq_true (by omega)) ?_
      refine W.skip ?_
      refine W.seq ?_
      refine W.block ?_
      refine W.seq (W.region ?_)
      refine vP hS hE (Gives.p hE rfl) rfl ?_; clear hE a; intro a hE
      obtain ⟨cs171, hl172, hR173, hat174⟩ := h_y0_0.at hx159
      obtain ⟨a175, c176, a178, c179, rfl, h177, h180⟩ := hR173
      refine vP hS hE (Gives.idx hE k154 rfl rfl sl22 rfl hlt158 (h_y0_0.aok hlt158)) rfl ?_; clear hE a; intro a hE
      refine vP hS hE (Gives.loadA hE rfl (fun w h => hat174 w _ h) ty44) rfl ?_; clear hE a; intro a hE
      refine WL.alloc hE hS (runs_plain rfl) zr44 rfl ?_; clear hE hS a w; intro b181 a w hE hS
      refine vP hS hE (Gives.p hE rfl) rfl ?_; clear hE a; intro a hE
      refine WL.storeI hE hS 0 rfl [.int .i64 x155.No, .int .i64 x155.Stock, .slice a175 x155.Stops.length c176, .slice a178 x155.Legs.length c179] (runs_plain rfl) rfl rfl rfl ty44 rfl rfl rfl rfl ?_; clear hE hS a w; intro a w hE hS
      refine WL.nil ?_
      refine W.seq (W.region ?_)
      refine vP hS hE (Gives.fld hE rfl fl44_2) rfl ?_; clear hE a; intro a hE
      refine vP hS hE (Gives.loadB hE 0 rfl rfl rfl ty42) rfl ?_; clear hE a; intro a hE
      refine vP hS hE (Gives.len hE rfl sl42) rfl ?_; clear hE a; intro a hE
      refine vP hS hE (Gives.p hE rfl) rfl ?_; clear hE a; intro a hE
      refine WL.nil ?_
      obtain ⟨q183, hq182, hq152⟩ := bindS hq152
      refine W.cut (fun a w => ∃ (q193 : List GuideJourney), ∃ (a194 : Option Addr), ∃ (c195 : Nat), ∃ (n197 : Nat), ∃ (cs198 : List Value), ∃ (s191 : Sg), s161.Le s191 ∧ q193 = q183 ∧ Ev 1 RGuideJourney s191 cs198 q193 ∧ q193.length = n197 ∧ Rep a 116 [(0, .slice a0 x0.length c0), (1, .pointer (some ⟨pb0, 0, none⟩)), (4, .pointer (some ⟨pb3, 0, none⟩)), (5, .pointer (some ⟨pb4, 0, none⟩)), (6, .pointer (some ⟨pb5, 0, none⟩)), (53, .slice a_y0_0 y0.Trains.length c_y0_0), (54, .int .i64 ((y0.Trains).length : Int)), (55, .int .i64 ((k154 : Nat) : Int))] ∧ St w s191 (pt b181 (.cells #[.int .i64 x155.No, .int .i64 x155.Stock, .slice a175 x155.Stops.length c176, .slice a178 x155.Legs.length c179] 44 (0, 0)) :: pt pb0 (.cells #[.slice a_y0_0 y0.Trains.length c_y0_0, .slice a_y0_1 y0.Turns.length c_y0_1] 25 (0, 0)) :: pt pb1 (.cells #[.int .i64 y1] 3 (0, 0)) :: pt pb2 (.cells #[.slice a194 n197 c195] 39 (0, 0)) :: pt pb3 (.cells #[.int .i64 y3] 3 (0, 0)) :: pt pb4 (.cells #[.int .i64 y4] 3 (0, 0)) :: pt pb5 (.cells #[.func (.func 83) #[] #[.pointer (some ⟨pb0, 0, none⟩), .pointer (some ⟨pb1, 0, none⟩), .pointer (some ⟨pb2, 0, none⟩), .pointer (some ⟨pb3, 0, none⟩), .pointer (some ⟨pb4, 0, none⟩), .pointer (some ⟨pb5, 0, none⟩)]] 137 (0, 0)) :: vecC 28 1 a194 c195 n197 cs198 :: R)) ?_ ?_
      ·refine W.block ?_
       refine W.loop (fun m a w => ∃ (rest186 : List ApiStop) (k184 : Nat), ∃ (q193 : List GuideJourney), ∃ (a194 : Option Addr), ∃ (c195 : Nat), ∃ (n197 : Nat), ∃ (cs198 : List Value), ∃ (s191 : Sg), rest186.length = m ∧ x155.Stops.drop k184 = rest186 ∧ s161.Le s191 ∧ Fishref2AllOf_1_v1.loop2 x0 y0 y1 y3 y4 fu self_Fishref2AllOf_1_v1 x155 k154 rest186 k184 q193 = some q183 ∧ Ev 1 RGuideJourney s191 cs198 q193 ∧ q193.length = n197 ∧ Rep a 116 [(0, .slice a0 x0.length c0), (1, .pointer (some ⟨pb0, 0, none⟩)), (4, .pointer (some ⟨pb3, 0, none⟩)), (5, .pointer (some ⟨pb4, 0, none⟩)), (6, .pointer (some ⟨pb5, 0, none⟩)), (10, .int .i64 ((k154 : Nat) : Int)), (11, .pointer (some ⟨b181, 0, none⟩)), (53, .slice a_y0_0 y0.Trains.length c_y0_0), (54, .int .i64 ((y0.Trains).length : Int)), (55, .int .i64 ((k154 : Nat) : Int)), (62, .int .i64 ((x155.Stops).length : Int)), (63, .int .i64 ((k184 : Nat) : Int))] ∧ St w s191 (pt b181 (.cells #[.int .i64 x155.No, .int .i64 x155.Stock, .slice a175 x155.Stops.length c176, .slice a178 x155.Legs.length c179] 44 (0, 0)) :: pt pb0 (.cells #[.slice a_y0_0 y0.Trains.length c_y0_0, .slice a_y0_1 y0.Turns.length c_y0_1] 25 (0, 0)) :: pt pb1 (.cells #[.int .i64 y1] 3 (0, 0)) :: pt pb2 (.cells #[.slice a194 n197 c195] 39 (0, 0)) :: pt pb3 (.cells #[.int .i64 y3] 3 (0, 0)) :: pt pb4 (.cells #[.int .i64 y4] 3 (0, 0)) :: pt pb5 (.cells #[.func (.func 83) #[] #[.pointer (some ⟨pb0, 0, none⟩), .pointer (some ⟨pb1, 0, none⟩), .pointer (some ⟨pb2, 0, none⟩), .pointer (some ⟨pb3, 0, none⟩), .pointer (some ⟨pb4, 0, none⟩), .pointer (some ⟨pb5, 0, none⟩)]] 137 (0, 0)) :: vecC 28 1 a194 c195 n197 cs198 :: R)) (m := x155.Stops.length) ⟨x155.Stops, 0, q163, a164, c165, q163.length, cs168, s161, rfl, rfl, (Sg.Le.refl _), hq182, h166, rfl, hE.pick _ ⟨rfl, rfl, rfl, rfl, rfl, rfl, rfl, rfl, rfl, rfl, rfl, rfl, trivial⟩, hS⟩ ?_
       clear hE hS a w hq182; rintro m190 a w ⟨rest186, k184, q193, a194, c195, n197, cs198, s191, rfl, hd187, hle192, hq182, h196, rfl, hE, hS⟩
       refine W.gen fun K200 hK200 => ?_
       replace h0 := Sl.mono RGuideRide.mono hle192 h0
       replace h_y0_0 := Sl.mono RApiTrain.mono hle192 h_y0_0
       replace h177 := Sl.mono RApiStop.mono hle192 h177
       replace h180 := Sl.mono (RL.mono RI.mono) hle192 h180
       replace h_y0_1 := Sl.mono (RL.mono RI.mono) hle192 h_y0_1
       replace h166 := Ev.mono RGuideJourney.mono hle192 h166
       rcases rest186 with _ | ⟨x185, rest186⟩
       ·have hlt188 := drop_nil hd187
        refine W.seq (W.region ?_)
        refine vP hS hE (Gives.p hE rfl) rfl ?_; clear hE a; intro a hE
        refine WL.nil ?_
        refine W.seq ?_
        refine W.condF hE rfl (decide_eq_false (by omega)) ?_
        subst hK200
        refine W.exit rfl ?_
        exact ⟨q193, a194, c195, q193.length, cs198, s191, hle192, Option.some.inj hq182, h196, rfl, hE.pick _ ⟨rfl, rfl, rfl, rfl, rfl, rfl, rfl, rfl, trivial⟩, hS⟩
       ·obtain ⟨hlt188, hx189, hd187⟩ := drop_cons hd187
        rw [Fishref2AllOf_1_v1.loop2] at hq182
        refine W.seq (W.region ?_)
        refine vP hS hE (Gives.p hE rfl) rfl ?_; clear hE a; intro a hE
        refine WL.nil ?_
        refine W.seq ?_
        refine W.condT hE rfl (decide_eq_true (by omega)) ?_
        refine W.skip ?_
        refine W.seq ?_
        refine W.block ?_
        refine W.seq (W.region ?_)
        refine vP hS hE (Gives.p hE rfl) rfl ?_; clear hE a; intro a hE
        refine vP hS hE (Gives.p hE rfl) rfl ?_; clear hE a; intro a hE
        refine WL.nil ?_
        refine W.seq ?_
        refine W.seq ?_
        obtain ⟨q202, hq201, hq182⟩ := bndS hq182
        refine W.cut (fun a w => ∃ (q205 : Bool), q205 = q202 ∧ Rep a 116 [(0, .slice a0 x0.length c0), (1, .pointer (some ⟨pb0, 0, none⟩)), (4, .pointer (some ⟨pb3, 0, none⟩)), (5, .pointer (some ⟨pb4, 0, none⟩)), (6, .pointer (some ⟨pb5, 0, none⟩)), (10, .int .i64 ((k154 : Nat) : Int)), (11, .pointer (some ⟨b181, 0, none⟩)), (12, .int .i64 ((k184 : Nat) : Int)), (53, .slice a_y0_0 y0.Trains.length c_y0_0), (54, .int .i64 ((y0.Trains).length : Int)), (55, .int .i64 ((k154 : Nat) : Int)), (62, .int .i64 ((x155.Stops).length : Int)), (63, .int .i64 ((k184 : Nat) : Int)), (78, .bool q205)] ∧ St w s191 (pt b181 (.cells #[.int .i64 x155.No, .int .i64 x155.Stock, .slice a175 x155.Stops.length c176, .slice a178 x155.Legs.length c179] 44 (0, 0)) :: pt pb0 (.cells #[.slice a_y0_0 y0.Trains.length c_y0_0, .slice a_y0_1 y0.Turns.length c_y0_1] 25 (0, 0)) :: pt pb1 (.cells #[.int .i64 y1] 3 (0, 0)) :: pt pb2 (.cells #[.slice a194 q193.length c195] 39 (0, 0)) :: pt pb3 (.cells #[.int .i64 y3] 3 (0, 0)) :: pt pb4 (.cells #[.int .i64 y4] 3 (0, 0)) :: pt pb5 (.cells #[.func (.func 83) #[] #[.pointer (some ⟨pb0, 0, none⟩), .pointer (some ⟨pb1, 0, none⟩), .pointer (some ⟨pb2, 0, none⟩), .pointer (some ⟨pb3, 0, none⟩), .pointer (some ⟨pb4, 0, none⟩), .pointer (some ⟨pb5, 0, none⟩)]] 137 (0, 0)) :: vecC 28 1 a194 c195 q193.length cs198 :: R)) ?_ ?_
        ·refine W.gen fun K206 hK206 => ?_
         refine W.regionQ (C := fun w => St w s191 (pt b181 (.cells #[.int .i64 x155.No, .int .i64 x155.Stock, .slice a175 x155.Stops.length c176, .slice a178 x155.Legs.length c179] 44 (0, 0)) :: pt pb0 (.cells #[.slice a_y0_0 y0.Trains.length c_y0_0, .slice a_y0_1 y0.Turns.length c_y0_1] 25 (0, 0)) :: pt pb1 (.cells #[.int .i64 y1] 3 (0, 0)) :: pt pb2 (.cells #[.slice a194 q193.length c195] 39 (0, 0)) :: pt pb3 (.cells #[.int .i64 y3] 3 (0, 0)) :: pt pb4 (.cells #[.int .i64 y4] 3 (0, 0)) :: pt pb5 (.cells #[.func (.func 83) #[] #[.pointer (some ⟨pb0, 0, none⟩), .pointer (some ⟨pb1, 0, none⟩), .pointer (some ⟨pb2, 0, none⟩), .pointer (some ⟨pb3, 0, none⟩), .pointer (some ⟨pb4, 0, none⟩), .pointer (some ⟨pb5, 0, none⟩)]] 137 (0, 0)) :: vecC 28 1 a194 c195 q193.length cs198 :: R)) mixed (by kernel_rfl) hS.drew ?_
         refine qP hE (Gives.p hE rfl) rfl ?_; clear hE a; intro a hE
         refine qP hE (Gives.len hE rfl sl26) rfl ?_; clear hE a; intro a hE
         refine qP hE (Gives.p hE rfl) rfl ?_; clear hE a; intro a hE
         refine qP hE (Gives.p hE rfl) rfl ?_; clear hE a; intro a hE
         rcases Bool.eq_false_or_eq_true (((x0).length : Int) == 0) with hg207 | hg207
         ·replace hq201 := iteT hg207 hq201
          refine QL.v hE (runs_if hE rfl rfl rfl hg207) (Gives.fld hE rfl fl44_2) rfl ?_; clear hE a; intro a hE
          refine QL.v hE (runs_if hE rfl rfl rfl hg207) (Gives.loadB hE 0 rfl rfl rfl ty42) rfl ?_; clear hE a; intro a hE
          refine QL.v hE (runs_if hE rfl rfl rfl hg207) (Gives.p hE rfl) rfl ?_; clear hE a; intro a hE
          obtain ⟨cs208, hl209, hR210, hat211⟩ := h177.at hx189
          subst hR210
          refine QL.v hE (runs_if hE rfl rfl rfl hg207) (Gives.idx hE k184 rfl rfl sl42 rfl hlt188 (h177.aok hlt188)) rfl ?_; clear hE a; intro a hE
          refine QL.v hE (runs_if hE rfl rfl rfl hg207) (Gives.fld hE rfl fl106_0) rfl ?_; clear hE a; intro a hE
          refine QL.v hE (runs_if hE rfl rfl rfl hg207) (Gives.load1 hE rfl (fun w h => (hat211 w _ h).one rfl) ty3) rfl ?_; clear hE a; intro a hE
          refine QL.v hE (runs_if hE rfl rfl rfl hg207) (Gives.loadB hE 4 rfl rfl rfl ty3) rfl ?_; clear hE a; intro a hE
          refine QL.v hE (runs_if hE rfl rfl rfl hg207) (Gives.p hE rfl) rfl ?_; clear hE a; intro a hE
          refine qP hE (Gives.pickT hE rfl hg207 rfl) rfl ?_; clear hE a; intro a hE
          refine QL.nil ?_; clear hS w; intro w hS
          subst hK206
          exact ⟨(x185.Station != y3), hq201, hE.pick _ ⟨rfl, rfl, rfl, rfl, rfl, rfl, rfl, rfl, rfl, rfl, rfl, rfl, rfl, rfl, trivial⟩, hS⟩
         ·replace hq201 := iteF hg207 hq201
          refine QL.no hE (runs_not hE rfl rfl rfl (by rw [hg207]; decide)) rfl ?_; clear hE a; intro a hE
          refine QL.no hE (runs_not hE rfl rfl rfl (by rw [hg207]; decide)) rfl ?_; clear hE a; intro a hE
          refine QL.no hE (runs_not hE rfl rfl rfl (by rw [hg207]; decide)) rfl ?_; clear hE a; intro a hE
          refine QL.no hE (runs_not hE rfl rfl rfl (by rw [hg207]; decide)) rfl ?_; clear hE a; intro a hE
          refine QL.no hE (runs_not hE rfl rfl rfl (by rw [hg207]; decide)) rfl ?_; clear hE a; intro a hE
          refine QL.no hE (runs_not hE rfl rfl rfl (by rw [hg207]; decide)) rfl ?_; clear hE a; intro a hE
          refine QL.no hE (runs_not hE rfl rfl rfl (by rw [hg207]; decide)) rfl ?_; clear hE a; intro a hE
          refine QL.no hE (runs_not hE rfl rfl rfl (by rw [hg207]; decide)) rfl ?_; clear hE a; intro a hE
          refine qP hE (Gives.pickF hE rfl hg207 rfl) rfl ?_; clear hE a; intro a hE
          refine QL.nil ?_; clear hS w; intro w hS
          subst hK206
          exact ⟨false, hq201, hE.pick _ ⟨rfl, rfl, rfl, rfl, rfl, rfl, rfl, rfl, rfl, rfl, rfl, rfl, rfl, rfl, trivial⟩, hS⟩
        ·clear hE hS a w; rintro a w ⟨q205, rfl, hE, hS⟩
         refine W.cond hE rfl (fun hc212 => ?_) (fun hc212 => ?_)
         ·replace hq182 := iteT hc212 hq182
          refine W.exit rfl ?_
          refine W.region ?_
          refine vP hS hE (Gives.inc hE rfl (by have := h177.small; omega)) rfl ?_; clear hE a; intro a hE
          refine vP hS hE (Gives.p hE rfl) rfl ?_; clear hE a; intro a hE
          refine WL.nil ?_
          subst hK200
          exact ⟨rest186.length, Nat.lt_succ_self _, rest186, k184 + 1, q193, a194, c195, q193.length, cs198, s191, rfl, hd187, hle192, hq182, h196, rfl, hE.pick _ ⟨rfl, rfl, rfl, rfl, rfl, rfl, rfl, rfl, rfl, rfl, rfl, rfl, trivial⟩, hS⟩
         ·replace hq182 := iteF hc212 hq182
          refine W.skip ?_
          refine W.seq (W.region ?_)
          refine vP hS hE (Gives.p hE rfl) rfl ?_; clear hE a; intro a hE
          refine vP hS hE (Gives.inc hE rfl (by have := h177.small; omega)) rfl ?_; clear hE a; intro a hE
          refine vP hS hE (Gives.p hE rfl) rfl ?_; clear hE a; intro a hE
          refine WL.nil ?_
          obtain ⟨q214, hq213, hq182⟩ := bindS hq182
          refine W.cut (fun a w => ∃ (q219 : Int), ∃ (q220 : List GuideJourney), ∃ (a221 : Option Addr), ∃ (c222 : Nat), ∃ (n224 : Nat), ∃ (cs225 : List Value), ∃ (s217 : Sg), s191.Le s217 ∧ (q219, q220) = q214 ∧ Ev 1 RGuideJourney s217 cs225 q220 ∧ q220.length = n224 ∧ Rep a 116 [(0, .slice a0 x0.length c0), (1, .pointer (some ⟨pb0, 0, none⟩)), (4, .pointer (some ⟨pb3, 0, none⟩)), (5, .pointer (some ⟨pb4, 0, none⟩)), (6, .pointer (some ⟨pb5, 0, none⟩)), (10, .int .i64 ((k154 : Nat) : Int)), (11, .pointer (some ⟨b181, 0, none⟩)), (53, .slice a_y0_0 y0.Trains.length c_y0_0), (54, .int .i64 ((y0.Trains).length : Int)), (55, .int .i64 ((k154 : Nat) : Int)), (62, .int .i64 ((x155.Stops).length : Int)), (63, .int .i64 ((k184 : Nat) : Int))] ∧ St w s217 (pt b181 (.cells #[.int .i64 x155.No, .int .i64 x155.Stock, .slice a175 x155.Stops.length c176, .slice a178 x155.Legs.length c179] 44 (0, 0)) :: pt pb0 (.cells #[.slice a_y0_0 y0.Trains.length c_y0_0, .slice a_y0_1 y0.Turns.length c_y0_1] 25 (0, 0)) :: pt pb1 (.cells #[.int .i64 y1] 3 (0, 0)) :: pt pb2 (.cells #[.slice a221 n224 c222] 39 (0, 0)) :: pt pb3 (.cells #[.int .i64 y3] 3 (0, 0)) :: pt pb4 (.cells #[.int .i64 y4] 3 (0, 0)) :: pt pb5 (.cells #[.func (.func 83) #[] #[.pointer (some ⟨pb0, 0, none⟩), .pointer (some ⟨pb1, 0, none⟩), .pointer (some ⟨pb2, 0, none⟩), .pointer (some ⟨pb3, 0, none⟩), .pointer (some ⟨pb4, 0, none⟩), .pointer (some ⟨pb5, 0, none⟩)]] 137 (0, 0)) :: vecC 28 1 a221 c222 n224 cs225 :: R)) ?_ ?_
          ·refine W.block ?_
           refine W.loop (fun m a w => ∃ (n215 : Nat), ∃ (q219 : Int), ∃ (q220 : List GuideJourney), ∃ (a221 : Option Addr), ∃ (c222 : Nat), ∃ (n224 : Nat), ∃ (cs225 : List Value), ∃ (s217 : Sg), n215 = m ∧ s191.Le s217 ∧ Fishref2AllOf_1_v1.loop3 x0 y0 y1 y3 y4 self_Fishref2AllOf_1_v1 x155 k154 k184 n215 q219 q220 = some q214 ∧ Ev 1 RGuideJourney s217 cs225 q220 ∧ q220.length = n224 ∧ Rep a 116 [(0, .slice a0 x0.length c0), (1, .pointer (some ⟨pb0, 0, none⟩)), (4, .pointer (some ⟨pb3, 0, none⟩)), (5, .pointer (some ⟨pb4, 0, none⟩)), (6, .pointer (some ⟨pb5, 0, none⟩)), (10, .int .i64 ((k154 : Nat) : Int)), (11, .pointer (some ⟨b181, 0, none⟩)), (12, .int .i64 ((k184 : Nat) : Int)), (13, .int .i64 q219), (53, .slice a_y0_0 y0.Trains.length c_y0_0), (54, .int .i64 ((y0.Trains).length : Int)), (55, .int .i64 ((k154 : Nat) : Int)), (62, .int .i64 ((x155.Stops).length : Int)), (63, .int .i64 ((k184 : Nat) : Int))] ∧ St w s217 (pt b181 (.cells #[.int .i64 x155.No, .int .i64 x155.Stock, .slice a175 x155.Stops.length c176, .slice a178 x155.Legs.length c179] 44 (0, 0)) :: pt pb0 (.cells #[.slice a_y0_0 y0.Trains.length c_y0_0, .slice a_y0_1 y0.Turns.length c_y0_1] 25 (0, 0)) :: pt pb1 (.cells #[.int .i64 y1] 3 (0, 0)) :: pt pb2 (.cells #[.slice a221 n224 c222] 39 (0, 0)) :: pt pb3 (.cells #[.int .i64 y3] 3 (0, 0)) :: pt pb4 (.cells #[.int .i64 y4] 3 (0, 0)) :: pt pb5 (.cells #[.func (.func 83) #[] #[.pointer (some ⟨pb0, 0, none⟩), .pointer (some ⟨pb1, 0, none⟩), .pointer (some ⟨pb2, 0, none⟩), .pointer (some ⟨pb3, 0, none⟩), .pointer (some ⟨pb4, 0, none⟩), .pointer (some ⟨pb5, 0, none⟩)]] 137 (0, 0)) :: vecC 28 1 a221 c222 n224 cs225 :: R)) (m := fu) ⟨fu, ((k184 + 1 : Nat) : Int), q193, a194, c195, q193.length, cs198, s191, rfl, (Sg.Le.refl _), hq213, h196, rfl, hE.pick _ ⟨rfl, rfl, rfl, rfl, rfl, rfl, rfl, rfl, rfl, rfl, rfl, rfl, rfl, rfl, trivial⟩, hS⟩ ?_
           clear hE hS a w hq213; rintro m216 a w ⟨n215, q219, q220, a221, c222, n224, cs225, s217, rfl, hle218, hq213, h223, rfl, hE, hS⟩
           refine W.gen fun K227 hK227 => ?_
           replace h0 := Sl.mono RGuideRide.mono hle218 h0
           replace h_y0_0 := Sl.mono RApiTrain.mono hle218 h_y0_0
           replace h177 := Sl.mono RApiStop.mono hle218 h177
           replace h180 := Sl.mono (RL.mono RI.mono) hle218 h180
           replace h_y0_1 := Sl.mono (RL.mono RI.mono) hle218 h_y0_1
           replace h196 := Ev.mono RGuideJourney.mono hle218 h196
           rcases n215 with _ | n215
           ·rw [Fishref2AllOf_1_v1.loop3] at hq213; exact absurd hq213 (by simp)
           rw [Fishref2AllOf_1_v1.loop3] at hq213
           refine W.seq ?_
           refine W.seq (W.region ?_)
           refine vP hS hE (Gives.p hE rfl) rfl ?_; clear hE a; intro a hE
           refine vP hS hE (Gives.fld hE rfl fl44_2) rfl ?_; clear hE a; intro a hE
           refine vP hS hE (Gives.loadB hE 0 rfl rfl rfl ty42) rfl ?_; clear hE a; intro a hE
           refine vP hS hE (Gives.len hE rfl sl42) rfl ?_; clear hE a; intro a hE
           refine vP hS hE (Gives.p hE rfl) rfl ?_; clear hE a; intro a hE
           refine WL.nil ?_
           refine W.cond hE rfl (fun hc228 => ?_) (fun hc228 => ?_)
           ·replace hq213 := iteT hc228 hq213
            refine W.skip ?_
            refine W.seq ?_
            refine W.block ?_
            refine W.seq (W.region ?_)
            refine vP hS hE (Gives.p hE rfl) rfl ?_; clear hE a; intro a hE
            obtain ⟨q229, hq230, hq213⟩ := bindS hq213
            have hc_ := SlicesCloneLguideRide_ok hS h0 hq230
            refine WL.fnq hE (hc_) (runs_plain rfl) bd76 rfl rfl rfl ?_
            clear hE hS hc_; rintro e w ⟨a231, c232, n233, cs234, rfl, h235, rfl, hS⟩; refine ⟨_, rfl, ?_⟩; clear a; intro a hE
            refine vP hS hE (Gives.p hE rfl) rfl ?_; clear hE a; intro a hE
            refine vP hS hE (Gives.p hE rfl) rfl ?_; clear hE a; intro a hE
            refine vP hS hE (Gives.p hE rfl) rfl ?_; clear hE a; intro a hE
            refine vP hS hE (Gives.build hE (vs := [(0, .int .i64 ((k154 : Nat) : Int)), (1, .int .i64 ((k184 : Nat) : Int)), (2, .int .i64 q219)]) [.int .i64 ((k154 : Nat) : Int), .int .i64 ((k184 : Nat) : Int), .int .i64 q219] rfl (by kernel_rfl)) rfl ?_; clear hE a; intro a hE
            refine WL.lit hE hS (e := 47) (es := 3) (vs := [(0, .agg [.int .i64 ((k154 : Nat) : Int), .int .i64 ((k184 : Nat) : Int), .int .i64 q219].toArray)]) (cs := [.int .i64 ((k154 : Nat) : Int), .int .i64 ((k184 : Nat) : Int), .int .i64 q219]) (runs_plain rfl) rfl (by kernel_rfl) rfl ?_; clear hE hS a w; intro b237 a w hE hS
            obtain ⟨x238, hx239, hq213⟩ := bindS hq213
            refine WL.appD hE hS 0 (m := 1) (runs_plain rfl) rfl rfl rfl ap26 rfl h235 rfl (xs := [(GuideRide.mk ((k154 : Nat) : Int) ((k184 : Nat) : Int) q219)]) (Ev.cons (c1 := [.int .i64 ((k154 : Nat) : Int), .int .i64 ((k184 : Nat) : Int), .int .i64 q219]) rfl rfl (Ev.nil)) rfl rfl hx239 rfl ?_; clear hE hS a w; intro a240 c241 cs242 a w h243 hE hS
            refine vP hS hE (Gives.p hE rfl) rfl ?_; clear hE a; intro a hE
            refine WL.nil ?_
            refine W.seq ?_
            have hF := hS.fixD RGuideRide.mono 0 rfl h243 (rfl); clear hS; obtain ⟨s244, hle245, hS, h246⟩ := hF
            replace h0 := Sl.mono RGuideRide.mono hle245 h0
            replace h_y0_0 := Sl.mono RApiTrain.mono hle245 h_y0_0
            replace h177 := Sl.mono RApiStop.mono hle245 h177
            replace h180 := Sl.mono (RL.mono RI.mono) hle245 h180
            replace h_y0_1 := Sl.mono (RL.mono RI.mono) hle245 h_y0_1
            replace h223 := Ev.mono RGuideJourney.mono hle245 h223
            obtain ⟨q248, hq247, hq213⟩ := bindS hq213
            refine W.cut (fun a w => ∃ (q251 : Bool), q251 = q248 ∧ Rep a 116 [(0, .slice a0 x0.length c0), (1, .pointer (some ⟨pb0, 0, none⟩)), (4, .pointer (some ⟨pb3, 0, none⟩)), (5, .pointer (some ⟨pb4, 0, none⟩)), (6, .pointer (some ⟨pb5, 0, none⟩)), (10, .int .i64 ((k154 : Nat) : Int)), (11, .pointer (some ⟨b181, 0, none⟩)), (12, .int .i64 ((k184 : Nat) : Int)), (13, .int .i64 q219), (14, .slice a240 x238.length c241), (53, .slice a_y0_0 y0.Trains.length c_y0_0), (54, .int .i64 ((y0.Trains).length : Int)), (55, .int .i64 ((k154 : Nat) : Int)), (62, .int .i64 ((x155.Stops).length : Int)), (63, .int .i64 ((k184 : Nat) : Int)), (110, .bool q251)] ∧ St w s244 (pt b181 (.cells #[.int .i64 x155.No, .int .i64 x155.Stock, .slice a175 x155.Stops.length c176, .slice a178 x155.Legs.length c179] 44 (0, 0)) :: pt pb0 (.cells #[.slice a_y0_0 y0.Trains.length c_y0_0, .slice a_y0_1 y0.Turns.length c_y0_1] 25 (0, 0)) :: pt pb1 (.cells #[.int .i64 y1] 3 (0, 0)) :: pt pb2 (.cells #[.slice a221 q220.length c222] 39 (0, 0)) :: pt pb3 (.cells #[.int .i64 y3] 3 (0, 0)) :: pt pb4 (.cells #[.int .i64 y4] 3 (0, 0)) :: pt pb5 (.cells #[.func (.func 83) #[] #[.pointer (some ⟨pb0, 0, none⟩), .pointer (some ⟨pb1, 0, none⟩), .pointer (some ⟨pb2, 0, none⟩), .pointer (some ⟨pb3, 0, none⟩), .pointer (some ⟨pb4, 0, none⟩), .pointer (some ⟨pb5, 0, none⟩)]] 137 (0, 0)) :: vecC 28 1 a221 c222 q220.length cs225 :: R)) ?_ ?_
            ·refine W.gen fun K252 hK252 => ?_
             refine W.regionQ (C := fun w => St w s244 (pt b181 (.cells #[.int .i64 x155.No, .int .i64 x155.Stock, .slice a175 x155.Stops.length c176, .slice a178 x155.Legs.length c179] 44 (0, 0)) :: pt pb0 (.cells #[.slice a_y0_0 y0.Trains.length c_y0_0, .slice a_y0_1 y0.Turns.length c_y0_1] 25 (0, 0)) :: pt pb1 (.cells #[.int .i64 y1] 3 (0, 0)) :: pt pb2 (.cells #[.slice a221 q220.length c222] 39 (0, 0)) :: pt pb3 (.cells #[.int .i64 y3] 3 (0, 0)) :: pt pb4 (.cells #[.int .i64 y4] 3 (0, 0)) :: pt pb5 (.cells #[.func (.func 83) #[] #[.pointer (some ⟨pb0, 0, none⟩), .pointer (some ⟨pb1, 0, none⟩), .pointer (some ⟨pb2, 0, none⟩), .pointer (some ⟨pb3, 0, none⟩), .pointer (some ⟨pb4, 0, none⟩), .pointer (some ⟨pb5, 0, none⟩)]] 137 (0, 0)) :: vecC 28 1 a221 c222 q220.length cs225 :: R)) mixed (by kernel_rfl) hS.drew ?_
             refine qP hE (Gives.p hE rfl) rfl ?_; clear hE a; intro a hE
             refine qP hE (Gives.len hE rfl sl26) rfl ?_; clear hE a; intro a hE
             refine qP hE (Gives.p hE rfl) rfl ?_; clear hE a; intro a hE
             refine qP hE (Gives.p hE rfl) rfl ?_; clear hE a; intro a hE
             rcases Bool.eq_false_or_eq_true (((x238).length : Int) == 1) with hg253 | hg253
             ·replace hq247 := iteT hg253 hq247
              refine QL.no hE (runs_not hE rfl rfl rfl (by rw [hg253]; decide)) rfl ?_; clear hE a; intro a hE
              refine QL.no hE (runs_not hE rfl rfl rfl (by rw [hg253]; decide)) rfl ?_; clear hE a; intro a hE
              refine QL.no hE (runs_not hE rfl rfl rfl (by rw [hg253]; decide)) rfl ?_; clear hE a; intro a hE
              refine QL.no hE (runs_not hE rfl rfl rfl (by rw [hg253]; decide)) rfl ?_; clear hE a; intro a hE
              refine QL.no hE (runs_not hE rfl rfl rfl (by rw [hg253]; decide)) rfl ?_; clear hE a; intro a hE
              refine QL.no hE (runs_not hE rfl rfl rfl (by rw [hg253]; decide)) rfl ?_; clear hE a; intro a hE
              refine QL.no hE (runs_not hE rfl rfl rfl (by rw [hg253]; decide)) rfl ?_; clear hE a; intro a hE
              refine QL.no hE (runs_not hE rfl rfl rfl (by rw [hg253]; decide)) rfl ?_; clear hE a; intro a hE
              refine QL.no hE (runs_not hE rfl rfl rfl (by rw [hg253]; decide)) rfl ?_; clear hE a; intro a hE
              refine QL.no hE (runs_not hE rfl rfl rfl (by rw [hg253]; decide)) rfl ?_; clear hE a; intro a hE
              refine qP hE (Gives.pickT hE rfl hg253 rfl) rfl ?_; clear hE a; intro a hE
              refine QL.nil ?_; clear hS w; intro w hS
              subst hK252
              exact ⟨true, Option.some.inj hq247, hE.pick _ ⟨rfl, rfl, rfl, rfl, rfl, rfl, rfl, rfl, rfl, rfl, rfl, rfl, rfl, rfl, rfl, rfl, trivial⟩, hS⟩
             ·replace hq247 := iteF hg253 hq247
              refine QL.v hE (runs_if hE rfl rfl rfl hg253) (Gives.loadBA hE 1 rfl rfl ty25) rfl ?_; clear hE a; intro a hE
              refine QL.v hE (runs_if hE rfl rfl rfl hg253) (Gives.p hE rfl) rfl ?_; clear hE a; intro a hE
              refine QL.v hE (runs_if hE rfl rfl rfl hg253) (Gives.p hE rfl) rfl ?_; clear hE a; intro a hE
              refine QL.v hE (runs_if hE rfl rfl rfl hg253) (Gives.len hE rfl sl26) rfl ?_; clear hE a; intro a hE
              refine QL.v hE (runs_if hE rfl rfl rfl hg253) (Gives.p hE rfl) rfl ?_; clear hE a; intro a hE
              obtain ⟨x254, hx255, hq247⟩ := bindS hq247
              obtain ⟨a256, c257, heq258, h259⟩ := h246.cut hx255
              obtain ⟨h260, h261, h262, _⟩ := cutl_some hx255
              refine QL.v hE (runs_if hE rfl rfl rfl hg253) (Gives.slL hE sl26 rfl rfl h260 (by omega) (by simpa using heq258)) rfl ?_; clear hE a; intro a hE
              refine QL.v hE (runs_if hE rfl rfl rfl hg253) (Gives.build hE (vs := [(0, .slice a256 x254.length c257)]) [.slice a256 x254.length c257] rfl (by kernel_rfl)) rfl ?_; clear hE a; intro a hE
              refine QL.v hE (runs_if hE rfl rfl rfl hg253) (Gives.loadB hE 5 rfl rfl rfl ty3) rfl ?_; clear hE a; intro a hE
              obtain ⟨q263, hq264, hq247⟩ := bindS hq247
              refine QL.fnq hE (fun w hS => Fishref2JourneyFault_ok hS h_y0_0 h_y0_1 h259 hq264) (runs_if hE rfl rfl rfl hg253) bd18 rfl rfl rfl ?_; clear hE a; intro a hE
              refine QL.v hE (runs_if hE rfl rfl rfl hg253) (Gives.p hE rfl) rfl ?_; clear hE a; intro a hE
              refine qP hE (Gives.pickF hE rfl hg253 rfl) rfl ?_; clear hE a; intro a hE
              refine QL.nil ?_; clear hS w; intro w hS
              subst hK252
              exact ⟨(q263 == 0), Option.some.inj hq247, hE.pick _ ⟨rfl, rfl, rfl, rfl, rfl, rfl, rfl, rfl, rfl, rfl, rfl, rfl, rfl, rfl, rfl, rfl, trivial⟩, hS⟩
            ·clear hE hS a w; rintro a w ⟨q251, rfl, hE, hS⟩
             refine W.cond hE rfl (fun hc265 => ?_) (fun hc265 => ?_)
             ·replace hq213 := iteT hc265 hq213
              refine W.region ?_
              refine vP hS hE (Gives.loadB hE 6 rfl rfl rfl ty137) rfl ?_; clear hE a; intro a hE
              refine vP hS hE (Gives.p hE rfl) rfl ?_; clear hE a; intro a hE
              obtain ⟨q266, hq267, hq213⟩ := bindS hq213
              replace hS := hS.front 7 rfl
              replace hS := hS.front 7 rfl
              replace hS := hS.front 7 rfl
              replace hS := hS.front 7 rfl
              replace hS := hS.front 7 rfl
              replace hS := hS.front 7 rfl
              replace hS := hS.front 7 rfl
              have hc_ := ih_Fishref2AllOf_1_v1 (y0 := y0) hS h246 h_y0_0 h_y0_1 h223 rfl hq267
              refine WL.fnw hE (hc_) rfl (runs_plain rfl) bd83 rfl rfl rfl ?_
              clear hE hS hc_; rintro e w ⟨a268, c269, n270, cs271, s273, rfl, hle274, h272, rfl, hS⟩; refine ⟨_, rfl, ?_⟩; clear a; intro a hE
              replace h0 := Sl.mono RGuideRide.mono hle274 h0
              replace h246 := Sl.mono RGuideRide.mono hle274 h246
              replace h_y0_0 := Sl.mono RApiTrain.mono hle274 h_y0_0
              replace h_y0_1 := Sl.mono (RL.mono RI.mono) hle274 h_y0_1
              replace h223 := Ev.mono RGuideJourney.mono hle274 h223
              replace h177 := Sl.mono RApiStop.mono hle274 h177
              replace h180 := Sl.mono (RL.mono RI.mono) hle274 h180
              refine WL.nil ?_
              refine W.region ?_
              refine vP hS hE (Gives.p hE rfl) rfl ?_; clear hE a; intro a hE
              refine vP hS hE (Gives.p hE rfl) rfl ?_; clear hE a; intro a hE
              refine vP hS hE (Gives.p hE rfl) rfl ?_; clear hE a; intro a hE
              refine WL.nil ?_
              replace hS := hS.front 6 rfl
              replace hS := hS.front 6 rfl
              replace hS := hS.front 6 rfl
              replace hS := hS.front 6 rfl
              replace hS := hS.front 6 rfl
              replace hS := hS.front 6 rfl
              replace hS := hS.front 6 rfl
              replace hS := hS.front 7 rfl
              subst hK227
              exact ⟨n215, Nat.lt_succ_self _, n215, (w64 (q219 + 1)), q266, a268, c269, q266.length, cs271, s273, rfl, (Sg.Le.trans (Sg.Le.trans hle218 hle245) hle274), hq213, h272, rfl, hE.pick _ ⟨rfl, rfl, rfl, rfl, rfl, rfl, rfl, rfl, rfl, rfl, rfl, rfl, rfl, rfl, trivial⟩, hS⟩
             ·replace hq213 := iteF hc265 hq213
              refine W.skip ?_
              refine W.region ?_
              refine vP hS hE (Gives.p hE rfl) rfl ?_; clear hE a; intro a hE
              refine vP hS hE (Gives.p hE rfl) rfl ?_; clear hE a; intro a hE
              refine vP hS hE (Gives.p hE rfl) rfl ?_; clear hE a; intro a hE
              refine WL.nil ?_
              subst hK227
              exact ⟨n215, Nat.lt_succ_self _, n215, (w64 (q219 + 1)), q220, a221, c222, q220.length, cs225, s244, rfl, (Sg.Le.trans hle218 hle245), hq213, h223, rfl, hE.pick _ ⟨rfl, rfl, rfl, rfl, rfl, rfl, rfl, rfl, rfl, rfl, rfl, rfl, rfl, rfl, trivial⟩, hS⟩
           ·replace hq213 := iteF hc228 hq213
            subst hK227
            refine W.exit rfl ?_
            exact ⟨q219, q220, a221, c222, q220.length, cs225, s217, hle218, Option.some.inj hq213, h223, rfl, hE.pick _ ⟨rfl, rfl, rfl, rfl, rfl, rfl, rfl, rfl, rfl, rfl, rfl, rfl, trivial⟩, hS⟩
          ·clear hE hS a w; rintro a w ⟨q219, q220, a221, c222, n224, cs225, s217, hle218, rfl, h223, rfl, hE, hS⟩
           dsimp only at hq182
           replace h0 := Sl.mono RGuideRide.mono hle218 h0
           replace h_y0_0 := Sl.mono RApiTrain.mono hle218 h_y0_0
           replace h177 := Sl.mono RApiStop.mono hle218 h177
           replace h180 := Sl.mono (RL.mono RI.mono) hle218 h180
           replace h_y0_1 := Sl.mono (RL.mono RI.mono) hle218 h_y0_1
           replace h196 := Ev.mono RGuideJourney.mono hle218 h196
           refine W.region ?_
           refine vP hS hE (Gives.inc hE rfl (by have := h177.small; omega)) rfl ?_; clear hE a; intro a hE
           refine vP hS hE (Gives.p hE rfl) rfl ?_; clear hE a; intro a hE
           refine WL.nil ?_
           subst hK200
           exact ⟨rest186.length, Nat.lt_succ_self _, rest186, k184 + 1, q220, a221, c222, q220.length, cs225, s217, rfl, hd187, (Sg.Le.trans hle192 hle218), hq182, h223, rfl, hE.pick _ ⟨rfl, rfl, rfl, rfl, rfl, rfl, rfl, rfl, rfl, rfl, rfl, rfl, trivial⟩, hS⟩
      ·clear hE hS a w; rintro a w ⟨q193, a194, c195, n197, cs198, s191, hle192, rfl, h196, rfl, hE, hS⟩
       replace h0 := Sl.mono RGuideRide.mono hle192 h0
       replace h_y0_0 := Sl.mono RApiTrain.mono hle192 h_y0_0
       replace h177 := Sl.mono RApiStop.mono hle192 h177
       replace h180 := Sl.mono (RL.mono RI.mono) hle192 h180
       replace h_y0_1 := Sl.mono (RL.mono RI.mono) hle192 h_y0_1
       replace h166 := Ev.mono RGuideJourney.mono hle192 h166
       refine W.region ?_
       refine vP hS hE (Gives.inc hE rfl (by have := h_y0_0.small; omega)) rfl ?_; clear hE a; intro a hE
       refine vP hS hE (Gives.p hE rfl) rfl ?_; clear hE a; intro a hE
       refine WL.nil ?_
       replace hS := hS.tail
       subst hK170
       exact ⟨rest156.length, Nat.lt_succ_self _, rest156, k154 + 1, q193, a194, c195, q193.length, cs198, s191, rfl, hd157, (Sg.Le.trans hle162 hle192), hq152, h196, rfl, hE.pick _ ⟨rfl, rfl, rfl, rfl, rfl, rfl, rfl, rfl, trivial⟩, hS⟩
    ·clear hE hS a w; rintro a w ⟨q163, a164, c165, n167, cs168, s161, hle162, rfl, h166, rfl, hE, hS⟩
     replace h0 := Sl.mono RGuideRide.mono hle162 h0
     replace h_y0_0 := Sl.mono RApiTrain.mono hle162 h_y0_0
     replace h_y0_1 := Sl.mono (RL.mono RI.mono) hle162 h_y0_1
     replace h72 := Ev.mono RGuideJourney.mono hle162 h72
     refine finG (fn := Tryd.f83) (rs := []) (vs := []) hE rfl trivial ?_
     obtain rfl := Option.some.inj hr
     exact ⟨a164, c165, q163.length, cs168, s161, rfl, (Sg.Le.trans hle68 hle162), h166, rfl, hS⟩
set_option maxHeartbeats 8000000 in
theorem Fishref2AllOf_ok {fu : Nat}  {w : World} {s : Sg} {R : List HP} {x0 : ApiDay} {a0_0 : Option Addr} {c0_0 : Nat} {a0_1 : Option Addr} {c0_1 : Nat} {x1 : Int} {x2 : Int} {x3 : Int} (hS : St w s (R)) (h0_0 : Sl 4 RApiTrain s a0_0 c0_0 x0.Trains) (h0_1 : Sl 1 (RL 1 (RI .i64)) s a0_1 c0_1 x0.Turns) {r : (List GuideJourney)} (hr : Fishref2AllOf fu x0 x1 x2 x3 = some r) :
  Calls Tryd.prog 29 [.agg [.slice a0_0 x0.Trains.length c0_0, .slice a0_1 x0.Turns.length c0_1].toArray, .int .i64 x1, .int .i64 x2, .int .i64 x3].toArray w (fun e w => ∃ (a0 : Option Addr) (c0 n0 : Nat) (cs0 : List Value) (t : Sg), e = .returned (.slice a0 n0 c0) ∧ s.Le t ∧ Ev 1 RGuideJourney t cs0 r ∧ r.length = n0 ∧ St w t (vecC 28 1 a0 c0 n0 cs0 :: R)) := by
 refine enter Tryd.func29 rfl rfl rfl fun a hE => ?_
 rw [Fishref2AllOf] at hr
 refine W.seq (W.region ?_)
 refine WL.box hE hS (runs_plain rfl) rfl rfl rfl ?_; clear hE hS a w; intro b51 a w hE hS
 refine WL.box hE hS (runs_plain rfl) rfl rfl rfl ?_; clear hE hS a w; intro b52 a w hE hS
 refine WL.box hE hS (runs_plain rfl) rfl rfl rfl ?_; clear hE hS a w; intro b53 a w hE hS
 refine WL.box hE hS (runs_plain rfl) rfl rfl rfl ?_; clear hE hS a w; intro b54 a w hE hS
 refine vP hS hE (Gives.p hE rfl) rfl ?_; clear hE a; intro a hE
 refine WL.nil ?_
 refine W.seq (W.region ?_)
 refine WL.alloc hE hS (runs_plain rfl) zr39 rfl ?_; clear hE hS a w; intro b55 a w hE hS
 refine WL.nil ?_
 refine W.seq (W.region ?_)
 refine WL.alloc hE hS (runs_plain rfl) zr137 rfl ?_; clear hE hS a w; intro b56 a w hE hS
 refine WL.nil ?_
 refine W.seq (W.region ?_)
 replace hS := hS.vecNil 28 1
 refine vP hS hE (Gives.mkfn hE (vs := [.pointer (some ⟨b51, 0, none⟩), .pointer (some ⟨b53, 0, none⟩), .pointer (some ⟨b55, 0, none⟩), .pointer (some ⟨b52, 0, none⟩), .pointer (some ⟨b54, 0, none⟩), .pointer (some ⟨b56, 0, none⟩)]) rfl) rfl ?_; clear hE a; intro a hE
 refine WL.storeI hE hS 1 rfl [.func (.func 83) #[] #[.pointer (some ⟨b51, 0, none⟩), .pointer (some ⟨b53, 0, none⟩), .pointer (some ⟨b55, 0, none⟩), .pointer (some ⟨b52, 0, none⟩), .pointer (some ⟨b54, 0, none⟩), .pointer (some ⟨b56, 0, none⟩)]] (runs_plain rfl) rfl rfl rfl ty137 rfl rfl rfl rfl ?_; clear hE hS a w; intro a w hE hS
 refine WL.nil ?_
 refine W.seq (W.region ?_)
 refine vP hS hE (Gives.loadB hE 1 rfl rfl rfl ty137) rfl ?_; clear hE a; intro a hE
 obtain ⟨q58, hq59, hr⟩ := bindS hr
 replace hS := hS.front 0 rfl
 replace hS := hS.front 1 rfl
 replace hS := hS.front 3 rfl
 replace hS := hS.front 5 rfl
 replace hS := hS.front 4 rfl
 replace hS := hS.front 5 rfl
 replace hS := hS.front 6 rfl
 have hc_ := Fishref2AllOf_1_v1_ok (y0 := x0) hS Sl.nil h0_0 h0_1 (Ev.nil) (rfl) hq59
 refine WL.fnw hE (hc_) rfl (runs_plain rfl) bd83 rfl rfl rfl ?_
 clear hE hS hc_; rintro e w ⟨a60, c61, n62, cs63, s65, rfl, hle66, h64, rfl, hS⟩; refine ⟨_, rfl, ?_⟩; clear a; intro a hE
 replace h0_0 := Sl.mono RApiTrain.mono hle66 h0_0
 replace h0_1 := Sl.mono (RL.mono RI.mono) hle66 h0_1
 refine WL.nil ?_
 refine W.seq (W.region ?_)
 refine vP hS hE (Gives.loadB hE 2 rfl rfl rfl ty39) rfl ?_; clear hE a; intro a hE
 refine vP hS hE (Gives.p hE rfl) rfl ?_; clear hE a; intro a hE
 refine WL.nil ?_
 refine W.ret ?_
 refine finG (fn := Tryd.f29) (rs := [.tmp 8]) (vs := [_]) hE rfl ⟨rfl, trivial⟩ ?_
 obtain rfl := Option.some.inj hr
 replace hS := hS.tail
 replace hS := hS.tail
 replace hS := hS.tail
 replace hS := hS.tail
 replace hS := hS.tail
 replace hS := hS.tail
 exact ⟨a60, c61, q58.length, cs63, s65, rfl, hle66, h64, rfl, hS⟩
set_option maxHeartbeats 8000000 in
theorem Fishref2Leaves_ok  {w : World} {s : Sg} {R : List HP} {x0 : ApiDay} {a0_0 : Option Addr} {c0_0 : Nat} {a0_1 : Option Addr} {c0_1 : Nat} {x1 : GuideJourney} {a1_0 : Option Addr} {c1_0 : Nat} (hS : St w s (R)) (h0_0 : Sl 4 RApiTrain s a0_0 c0_0 x0.Trains) (_h0_1 : Sl 1 (RL 1 (RI .i64)) s a0_1 c0_1 x0.Turns) (h1_0 : Sl 3 RGuideRide s a1_0 c1_0 x1.Rides) {r : Int} (hr : Fishref2Leaves x0 x1 = some r) :
  Calls Tryd.prog 60 [.agg [.slice a0_0 x0.Trains.length c0_0, .slice a0_1 x0.Turns.length c0_1].toArray, .agg [.slice a1_0 x1.Rides.length c1_0].toArray].toArray w (fun e w => e = .returned (.int .i64 r) ∧ St w s (R)) := by
 refine enter Tryd.func60 rfl rfl rfl fun a hE => ?_
 rw [Fishref2Leaves] at hr
 refine W.seq (W.region ?_)
 refine WL.box hE hS (runs_plain rfl) rfl rfl rfl ?_; clear hE hS a w; intro b51 a w hE hS
 refine WL.box hE hS (runs_plain rfl) rfl rfl rfl ?_; clear hE hS a w; intro b52 a w hE hS
 refine vP hS hE (Gives.p hE rfl) rfl ?_; clear hE a; intro a hE
 refine WL.nil ?_
 refine W.seq (W.region ?_)
 refine vP hS hE (Gives.fld hE rfl fl28_0) rfl ?_; clear hE a; intro a hE
 refine vP hS hE (Gives.loadB hE 0 rfl rfl rfl ty26) rfl ?_; clear hE a; intro a hE
 obtain ⟨x53, hx54, hr⟩ := bindS hr
 obtain ⟨hi55, hlt56, hy57⟩ := gx_some hx54
 obtain ⟨cs58, hl59, hR60, hat61⟩ := h1_0.at hy57
 subst hR60
 refine vP hS hE (Gives.idx hE ((0 : Int)).toNat rfl rfl sl26 hi55 hlt56 (h1_0.aok hlt56)) rfl ?_; clear hE a; intro a hE
 refine vP hS hE (Gives.loadA hE rfl (fun w h => hat61 w _ h) ty47) rfl ?_; clear hE a; intro a hE
 refine WL.alloc hE hS (runs_plain rfl) zr47 rfl ?_; clear hE hS a w; intro b62 a w hE hS
 refine WL.storeI hE hS 0 rfl (GuideRide.cells x53) (runs_plain rfl) rfl rfl rfl ty47 rfl rfl rfl rfl ?_; clear hE hS a w; intro a w hE hS
 refine WL.nil ?_
 refine W.seq ?_
 refine W.regionQ (C := fun w => St w s (pt b62 (.cells (GuideRide.cells x53).toArray 47 (0, 0)) :: pt b52 (.cells #[.slice a1_0 x1.Rides.length c1_0] 28 (0, 0)) :: pt b51 (.cells #[.slice a0_0 x0.Trains.length c0_0, .slice a0_1 x0.Turns.length c0_1] 25 (0, 0)) :: R)) mixed (by kernel_rfl) hS.drew ?_
 refine qP hE (Gives.fld hE rfl fl25_0) rfl ?_; clear hE a; intro a hE
 refine qP hE (Gives.loadB hE 2 rfl rfl rfl ty22) rfl ?_; clear hE a; intro a hE
 refine qP hE (Gives.fld hE rfl fl47_0) rfl ?_; clear hE a; intro a hE
 refine qP hE (Gives.loadB hE 0 rfl rfl rfl ty3) rfl ?_; clear hE a; intro a hE
 obtain ⟨x63, hx64, hr⟩ := bindS hr
 obtain ⟨hi65, hlt66, hy67⟩ := gx_some hx64
 obtain ⟨cs68, hl69, hR70, hat71⟩ := h0_0.at hy67
 obtain ⟨a72, c73, a75, c76, rfl, h74, h77⟩ := hR70
 refine qP hE (Gives.idx hE (x53.Train).toNat rfl rfl sl22 hi65 hlt66 (h0_0.aok hlt66)) rfl ?_; clear hE a; intro a hE
 refine qP hE (Gives.fld hE rfl fl44_2) rfl ?_; clear hE a; intro a hE
 refine qP hE (Gives.load1 hE rfl (fun w h => (hat71 w _ h).one rfl) ty42) rfl ?_; clear hE a; intro a hE
 refine qP hE (Gives.fld hE rfl fl47_1) rfl ?_; clear hE a; intro a hE
 refine qP hE (Gives.loadB hE 0 rfl rfl rfl ty3) rfl ?_; clear hE a; intro a hE
 obtain ⟨x78, hx79, hr⟩ := bindS hr
 obtain ⟨hi80, hlt81, hy82⟩ := gx_some hx79
 obtain ⟨cs83, hl84, hR85, hat86⟩ := h74.at hy82
 subst hR85
 refine qP hE (Gives.idx hE (x53.On).toNat rfl rfl sl42 hi80 hlt81 (h74.aok hlt81)) rfl ?_; clear hE a; intro a hE
 refine qP hE (Gives.fld hE rfl fl106_3) rfl ?_; clear hE a; intro a hE
 refine qP hE (Gives.load1 hE rfl (fun w h => (hat86 w _ h).one rfl) ty3) rfl ?_; clear hE a; intro a hE
 refine qP hE (Gives.p hE rfl) rfl ?_; clear hE a; intro a hE
 refine QL.nil ?_; clear hS w; intro w hS
 refine W.ret ?_
 refine finG (fn := Tryd.f60) (rs := [.tmp 4]) (vs := [_]) hE rfl ⟨rfl, trivial⟩ ?_
 obtain rfl := Option.some.inj hr
 replace hS := hS.tail
 replace hS := hS.tail
 replace hS := hS.tail
 exact ⟨rfl, hS⟩
set_option maxHeartbeats 8000000 in
theorem Fishref2Arrives_ok  {w : World} {s : Sg} {R : List HP} {x0 : ApiDay} {a0_0 : Option Addr} {c0_0 : Nat} {a0_1 : Option Addr} {c0_1 : Nat} {x1 : GuideJourney} {a1_0 : Option Addr} {c1_0 : Nat} (hS : St w s (R)) (h0_0 : Sl 4 RApiTrain s a0_0 c0_0 x0.Trains) (_h0_1 : Sl 1 (RL 1 (RI .i64)) s a0_1 c0_1 x0.Turns) (h1_0 : Sl 3 RGuideRide s a1_0 c1_0 x1.Rides) {r : Int} (hr : Fishref2Arrives x0 x1 = some r) :
  Calls Tryd.prog 63 [.agg [.slice a0_0 x0.Trains.length c0_0, .slice a0_1 x0.Turns.length c0_1].toArray, .agg [.slice a1_0 x1.Rides.length c1_0].toArray].toArray w (fun e w => e = .returned (.int .i64 r) ∧ St w s (R)) := by
 refine enter Tryd.func63 rfl rfl rfl fun a hE => ?_
 rw [Fishref2Arrives] at hr
 refine W.seq (W.region ?_)
 refine WL.box hE hS (runs_plain rfl) rfl rfl rfl ?_; clear hE hS a w; intro b51 a w hE hS
 refine WL.box hE hS (runs_plain rfl) rfl rfl rfl ?_; clear hE hS a w; intro b52 a w hE hS
 refine vP hS hE (Gives.p hE rfl) rfl ?_; clear hE a; intro a hE
 refine WL.nil ?_
 refine W.seq (W.region ?_)
 refine vP hS hE (Gives.fld hE rfl fl28_0) rfl ?_; clear hE a; intro a hE
 refine vP hS hE (Gives.loadB hE 0 rfl rfl rfl ty26) rfl ?_; clear hE a; intro a hE
 refine vP hS hE (Gives.fld hE rfl fl28_0) rfl ?_; clear hE a; intro a hE
 refine vP hS hE (Gives.loadB hE 0 rfl rfl rfl ty26) rfl ?_; clear hE a; intro a hE
 refine vP hS hE (Gives.len hE rfl sl26) rfl ?_; clear hE a; intro a hE
 refine vP hS hE (Gives.p hE rfl) rfl ?_; clear hE a; intro a hE
 obtain ⟨x53, hx54, hr⟩ := bindS hr
 obtain ⟨hi55, hlt56, hy57⟩ := gx_some hx54
 obtain ⟨cs58, hl59, hR60, hat61⟩ := h1_0.at hy57
 subst hR60
 refine vP hS hE (Gives.idx hE (w64 (((x1.Rides).length : Int) - 1)).toNat rfl rfl sl26 hi55 hlt56 (h1_0.aok hlt56)) rfl ?_; clear hE a; intro a hE
 refine vP hS hE (Gives.loadA hE rfl (fun w h => hat61 w _ h) ty47) rfl ?_; clear hE a; intro a hE
 refine WL.alloc hE hS (runs_plain rfl) zr47 rfl ?_; clear hE hS a w; intro b62 a w hE hS
 refine WL.storeI hE hS 0 rfl (GuideRide.cells x53) (runs_plain rfl) rfl rfl rfl ty47 rfl rfl rfl rfl ?_; clear hE hS a w; intro a w hE hS
 refine WL.nil ?_
 refine W.seq ?_
 refine W.regionQ (C := fun w => St w s (pt b62 (.cells (GuideRide.cells x53).toArray 47 (0, 0)) :: pt b52 (.cells #[.slice a1_0 x1.Rides.length c1_0] 28 (0, 0)) :: pt b51 (.cells #[.slice a0_0 x0.Trains.length c0_0, .slice a0_1 x0.Turns.length c0_1] 25 (0, 0)) :: R)) mixed (by kernel_rfl) hS.drew ?_
 refine qP hE (Gives.fld hE rfl fl25_0) rfl ?_; clear hE a; intro a hE
 refine qP hE (Gives.loadB hE 2 rfl rfl rfl ty22) rfl ?_; clear hE a; intro a hE
 refine qP hE (Gives.fld hE rfl fl47_0) rfl ?_; clear hE a; intro a hE
 refine qP hE (Gives.loadB hE 0 rfl rfl rfl ty3) rfl ?_; clear hE a; intro a hE
 obtain ⟨x63, hx64, hr⟩ := bindS hr
 obtain ⟨hi65, hlt66, hy67⟩ := gx_some hx64
 obtain ⟨cs68, hl69, hR70, hat71⟩ := h0_0.at hy67
 obtain ⟨a72, c73, a75, c76, rfl, h74, h77⟩ := hR70
 refine qP hE (Gives.idx hE (x53.Train).toNat rfl rfl sl22 hi65 hlt66 (h0_0.aok hlt66)) rfl ?_; clear hE a; intro a hE
 refine qP hE (Gives.fld hE rfl fl44_2) rfl ?_; clear hE a; intro a hE
 refine qP hE (Gives.load1 hE rfl (fun w h => (hat71 w _ h).one rfl) ty42) rfl ?_; clear hE a; intro a hE
 refine qP hE (Gives.fld hE rfl fl47_2) rfl ?_; clear hE a; intro a hE
 refine qP hE (Gives.loadB hE 0 rfl rfl rfl ty3) rfl ?_; clear hE a; intro a hE
 obtain ⟨x78, hx79, hr⟩ := bindS hr
 obtain ⟨hi80, hlt81, hy82⟩ := gx_some hx79
 obtain ⟨cs83, hl84, hR85, hat86⟩ := h74.at hy82
 subst hR85
 refine qP hE (Gives.idx hE (x53.Off).toNat rfl rfl sl42 hi80 hlt81 (h74.aok hlt81)) rfl ?_; clear hE a; intro a hE
 refine qP hE (Gives.fld hE rfl fl106_2) rfl ?_; clear hE a; intro a hE
 refine qP hE (Gives.load1 hE rfl (fun w h => (hat86 w _ h).one rfl) ty3) rfl ?_; clear hE a; intro a hE
 refine qP hE (Gives.p hE rfl) rfl ?_; clear hE a; intro a hE
 refine QL.nil ?_; clear hS w; intro w hS
 refine W.ret ?_
 refine finG (fn := Tryd.f63) (rs := [.tmp 4]) (vs := [_]) hE rfl ⟨rfl, trivial⟩ ?_
 obtain rfl := Option.some.inj hr
 replace hS := hS.tail
 replace hS := hS.tail
 replace hS := hS.tail
 exact ⟨rfl, hS⟩
set_option maxHeartbeats 8000000 in
theorem Fishref2EarliestOf_1_v1_ok  {w : World} {s : Sg} {R : List HP} {pb0 : Nat} {x0 : GuideJourney} {a0_0 : Option Addr} {c0_0 : Nat} {y0 : ApiDay} {a_y0_0 : Option Addr} {c_y0_0 : Nat} {a_y0_1 : Option Addr} {c_y0_1 : Nat} (hS : St w s (pt pb0 (.cells #[.slice a_y0_0 y0.Trains.length c_y0_0, .slice a_y0_1 y0.Turns.length c_y0_1] 25 (0, 0)) :: R)) (h0_0 : Sl 3 RGuideRide s a0_0 c0_0 x0.Rides) (h_y0_0 : Sl 4 RApiTrain s a_y0_0 c_y0_0 y0.Trains) (h_y0_1 : Sl 1 (RL 1 (RI .i64)) s a_y0_1 c_y0_1 y0.Turns) {r : (List Int)} (hr : Fishref2EarliestOf_1_v1 x0 y0 = some r) :
  Calls Tryd.prog 62 [.agg [.slice a0_0 x0.Rides.length c0_0].toArray, .pointer (some ⟨pb0, 0, none⟩)].toArray w (fun e w => ∃ (a0 : Option Addr) (c0 : Nat) (t : Sg), e = .returned (.slice a0 r.length c0) ∧ s.Le t ∧ Sl 1 (RI .i64) t a0 c0 r ∧ St w t (pt pb0 (.cells #[.slice a_y0_0 y0.Trains.length c_y0_0, .slice a_y0_1 y0.Turns.length c_y0_1] 25 (0, 0)) :: R)) := by
 refine enter Tryd.func62 rfl rfl rfl fun a hE => ?_
 rw [Fishref2EarliestOf_1_v1] at hr
 refine W.seq (W.region ?_)
 refine WL.box hE hS (runs_plain rfl) rfl rfl rfl ?_; clear hE hS a w; intro b51 a w hE hS
 refine vP hS hE (Gives.p hE rfl) rfl ?_; clear hE a; intro a hE
 refine WL.nil ?_
 refine W.seq ?_
 refine W.gen fun K52 hK52 => ?_
 refine W.regionE (sel (fun w => St w s (pt b51 (.cells #[.slice a0_0 x0.Rides.length c0_0] 28 (0, 0)) :: pt pb0 (.cells #[.slice a_y0_0 y0.Trains.length c_y0_0, .slice a_y0_1 y0.Turns.length c_y0_1] 25 (0, 0)) :: R)) (fun w => St w s (pt b51 (.cells #[.slice a0_0 x0.Rides.length c0_0] 28 (0, 0)) :: pt pb0 (.cells #[.slice a_y0_0 y0.Trains.length c_y0_0, .slice a_y0_1 y0.Turns.length c_y0_1] 25 (0, 0)) :: R))) (fun b i => cond b ([0, 1, 2, 3, 4, 5, 6, 7, 8, 9, 10, 11].contains i) ([0, 1, 2, 3, 4, 5, 6, 7, 8, 9, 10, 11].contains i)) mixed ?_
 replace hS := hS.drew
 have hT := tw_sel (A := fun w => St w s _) (B := fun w => St w s _) (w := _) (x := true) (y := true) (fun _ => hS) (fun _ => hS)
 have hF := hS; replace hS := hS
 refine Rg.take (i := 0) true rfl hE rfl (by kernel_rfl) (runs_plain rfl) (Gives.loadBA hE 1 rfl rfl ty25) rfl hT ?_; clear hE a; intro a hE
 replace hS := hF; clear hF hT
 have hT := tw_sel (A := fun w => St w s _) (B := fun w => St w s _) (w := _) (x := true) (y := true) (fun _ => hS) (fun _ => hS)
 have hF := hS; replace hS := hS
 refine Rg.take (i := 1) true rfl hE rfl (by kernel_rfl) (runs_plain rfl) (Gives.loadBA hE 0 rfl rfl ty28) rfl hT ?_; clear hE a; intro a hE
 replace hS := hF; clear hF hT
 refine Rg.takeP (i := 3) hE rfl (by kernel_rfl) (runs_plain rfl) (Gives.fld hE rfl fl28_0) rfl (tw_sel (fun _ => hS) (fun _ => hS)) ?_; clear hE a; intro a hE
 have hT := tw_sel (A := fun w => St w s _) (B := fun w => St w s _) (w := _) (x := true) (y := true) (fun _ => hS) (fun _ => hS)
 have hF := hS; replace hS := hS
 refine Rg.take (i := 4) true rfl hE rfl (by kernel_rfl) (runs_plain rfl) (Gives.loadB hE 0 rfl rfl rfl ty26) rfl hT ?_; clear hE a; intro a hE
 replace hS := hF; clear hF hT
 refine Rg.takeP (i := 5) hE rfl (by kernel_rfl) (runs_plain rfl) (Gives.len hE rfl sl26) rfl (tw_sel (fun _ => hS) (fun _ => hS)) ?_; clear hE a; intro a hE
 have hT := tw_sel (A := fun w => St w s _) (B := fun w => St w s _) (w := _) (x := true) (y := true) (fun _ => hS) (fun _ => hS)
 have hF := hS; replace hS := hS
 refine Rg.take (i := 6) true rfl hE rfl (by kernel_rfl) (runs_plain rfl) (Gives.loadBA hE 1 rfl rfl ty25) rfl hT ?_; clear hE a; intro a hE
 replace hS := hF; clear hF hT
 have hT := tw_sel (A := fun w => St w s _) (B := fun w => St w s _) (w := _) (x := true) (y := true) (fun _ => hS) (fun _ => hS)
 have hF := hS; replace hS := hS
 refine Rg.take (i := 7) true rfl hE rfl (by kernel_rfl) (runs_plain rfl) (Gives.loadBA hE 0 rfl rfl ty28) rfl hT ?_; clear hE a; intro a hE
 replace hS := hF; clear hF hT
 refine Rg.one (i := 2) true true rfl (by kernel_rfl) (by kernel_rfl) (by kernel_rfl) ?_
 obtain ⟨q53, hq54, hr⟩ := bindS hr
 have hc_ := Fishref2Arrives_ok hS h_y0_0 h_y0_1 h0_0 hq54
 refine WL.fnq hE (hc_) (runs_plain rfl) bd63 rfl rfl rfl ?_
 clear hE hS hc_; rintro e w ⟨rfl, hS⟩; refine ⟨_, rfl, ?_⟩; clear a; intro a hE
 refine WL.nil ?_
 refine ⟨⟨fun _ => hS, fun _ => hS⟩, ?_⟩
 refine Rg.one (i := 8) true true rfl (by kernel_rfl) (by kernel_rfl) (by kernel_rfl) ?_
 obtain ⟨q55, hq56, hr⟩ := bindS hr
 have hc_ := Fishref2Leaves_ok hS h_y0_0 h_y0_1 h0_0 hq56
 refine WL.fnq hE (hc_) (runs_plain rfl) bd60 rfl rfl rfl ?_
 clear hE hS hc_; rintro e w ⟨rfl, hS⟩; refine ⟨_, rfl, ?_⟩; clear a; intro a hE
 refine WL.nil ?_
 refine ⟨⟨fun _ => hS, fun _ => hS⟩, ?_⟩
 refine Rg.takeP (i := 9) hE rfl (by kernel_rfl) (runs_plain rfl) (Gives.p hE rfl) rfl (tw_sel (fun _ => hS) (fun _ => hS)) ?_; clear hE a; intro a hE
 refine Rg.one (i := 10) true true rfl (by kernel_rfl) (by kernel_rfl) (by kernel_rfl) ?_
 refine WL.lit hE hS (e := 3) (es := 1) (vs := [(0, .int .i64 q53), (1, .int .i64 ((x0.Rides).length : Int)), (2, .int .i64 (w64 (0 - q55)))]) (cs := [.int .i64 q53, .int .i64 ((x0.Rides).length : Int), .int .i64 (w64 (0 - q55))]) (runs_plain rfl) rfl (by kernel_rfl) rfl ?_; clear hE hS a w; intro b57 a w hE hS
 replace hS := hS.ptVec (es := 1) (m := 3) rfl (by decide)
 have h59 : Ev 1 (RI .i64) s [.int .i64 q53, .int .i64 ((x0.Rides).length : Int), .int .i64 (w64 (0 - q55))] [q53, ((x0.Rides).length : Int), w64 (0 - q55)] := (Ev.cons (c1 := [.int .i64 q53]) rfl rfl (Ev.cons (c1 := [.int .i64 ((x0.Rides).length : Int)]) rfl rfl (Ev.cons (c1 := [.int .i64 (w64 (0 - q55))]) rfl rfl (Ev.nil))))
 have hF := hS.fixD RI.mono 0 rfl h59 (rfl); clear hS; obtain ⟨s60, hle61, hS, h62⟩ := hF
 replace h0_0 := Sl.mono RGuideRide.mono hle61 h0_0
 replace h_y0_0 := Sl.mono RApiTrain.mono hle61 h_y0_0
 replace h_y0_1 := Sl.mono (RL.mono RI.mono) hle61 h_y0_1
 refine WL.nil ?_
 refine ⟨⟨fun _ => (St.down hle61 hS), fun _ => (St.down hle61 hS)⟩, ?_⟩
 refine Rg.takeP (i := 11) hE rfl (by kernel_rfl) (runs_plain rfl) (Gives.p hE rfl) rfl (tw_sel (fun _ => (St.down hle61 hS)) (fun _ => (St.down hle61 hS))) ?_; clear hE a; intro a hE
 refine Rg.done (by kernel_rfl) ?_
 subst hK52
 refine W.ret ?_
 refine finG (fn := Tryd.f62) (rs := [.tmp 3]) (vs := [_]) hE rfl ⟨rfl, trivial⟩ ?_
 obtain rfl := Option.some.inj hr
 replace hS := hS.tail
 exact ⟨(some ⟨b57, 0, none⟩), 3, s60, rfl, hle61, h62, hS⟩
set_option maxHeartbeats 8000000 in
theorem SlicesCompareLint_ok  {w : World} {s : Sg} {R : List HP} {x0 : List Int} {a0 : Option Addr} {c0 : Nat} {x1 : List Int} {a1 : Option Addr} {c1 : Nat} (hS : St w s (R)) (h0 : Sl 1 (RI .i64) s a0 c0 x0) (h1 : Sl 1 (RI .i64) s a1 c1 x1) {r : Int} (hr : SlicesCompareLint x0 x1 = some r) :
  Calls Tryd.prog 82 [.slice a0 x0.length c0, .slice a1 x1.length c1].toArray w (fun e w => e = .returned (.int .i64 r) ∧ St w s (R)) := by
 refine enter Tryd.func82 rfl rfl rfl fun a hE => ?_
 rw [SlicesCompareLint] at hr
 refine W.seq (W.region ?_)
 refine vP hS hE (Gives.p hE rfl) rfl ?_; clear hE a; intro a hE
 refine WL.nil ?_
 refine W.seq ?_
 refine W.seq (W.region ?_)
 refine vP hS hE (Gives.p hE rfl) rfl ?_; clear hE a; intro a hE
 refine vP hS hE (Gives.len hE rfl sl45) rfl ?_; clear hE a; intro a hE
 refine vP hS hE (Gives.p hE rfl) rfl ?_; clear hE a; intro a hE
 refine WL.nil ?_
 obtain ⟨q52, hq51, hr⟩ := bindS hr
 refine W.cut (fun a w => (.next ()) = q52 ∧ Rep a 36 [(0, .slice a0 x0.length c0), (1, .slice a1 x1.length c1)] ∧ St w s (R)) ?_ ?_
 ·refine W.block ?_
  refine W.loop (fun m a w => ∃ (rest55 : List Int) (k53 : Nat), rest55.length = m ∧ x0.drop k53 = rest55 ∧ SlicesCompareLint.loop1 x1 rest55 k53 = some q52 ∧ Rep a 36 [(0, .slice a0 x0.length c0), (1, .slice a1 x1.length c1), (9, .slice a0 x0.length c0), (10, .int .i64 ((x0).length : Int)), (11, .int .i64 ((k53 : Nat) : Int))] ∧ St w s (R)) (m := x0.length) ⟨x0, 0, rfl, rfl, hq51, hE.pick _ ⟨rfl, rfl, rfl, rfl, rfl, trivial⟩, hS⟩ ?_
  clear hE hS a w hq51; rintro m59 a w ⟨rest55, k53, rfl, hd56, hq51, hE, hS⟩
  refine W.gen fun K62 hK62 => ?_
  rcases rest55 with _ | ⟨x54, rest55⟩
  ·have hlt57 := drop_nil hd56
   refine W.seq (W.region ?_)
   refine vP hS hE (Gives.p hE rfl) rfl ?_; clear hE a; intro a hE
   refine WL.nil ?_
   refine W.seq ?_
   refine W.condF hE rfl (decide_eq_false (by omega)) ?_
   subst hK62
   refine W.exit rfl ?_
   exact ⟨Option.some.inj hq51, hE.pick _ ⟨rfl, rfl, trivial⟩, hS⟩
  ·obtain ⟨hlt57, hx58, hd56⟩ := drop_cons hd56
   rw [SlicesCompareLint.loop1] at hq51
   refine W.seq (W.region ?_)
   refine vP hS hE (Gives.p hE rfl) rfl ?_; clear hE a; intro a hE
   refine WL.nil ?_
   refine W.seq ?_
   refine W.condT hE rfl (decide_eq_true (by omega)) ?_
   refine W.skip ?_
   refine W.seq ?_
   refine W.block ?_
   refine W.seq (W.region ?_)
   refine vP hS hE (Gives.p hE rfl) rfl ?_; clear hE a; intro a hE
   obtain ⟨cs63, hl64, hR65, hat66⟩ := h0.at hx58
   subst hR65
   refine vP hS hE (Gives.idx hE k53 rfl rfl sl45 rfl hlt57 (h0.aok hlt57)) rfl ?_; clear hE a; intro a hE
   refine vP hS hE (Gives.load1 hE rfl (fun w h => hat66 w _ h) ty3) rfl ?_; clear hE a; intro a hE
   refine vP hS hE (Gives.p hE rfl) rfl ?_; clear hE a; intro a hE
   refine vP hS hE (Gives.p hE rfl) rfl ?_; clear hE a; intro a hE
   refine WL.nil ?_
   refine W.seq ?_
   refine W.seq (W.region ?_)
   refine vP hS hE (Gives.p hE rfl) rfl ?_; clear hE a; intro a hE
   refine vP hS hE (Gives.p hE rfl) rfl ?_; clear hE a; intro a hE
   refine vP hS hE (Gives.len hE rfl sl45) rfl ?_; clear hE a; intro a hE
   refine vP hS hE (Gives.p hE rfl) rfl ?_; clear hE a; intro a hE
   refine WL.nil ?_
   refine W.cond hE rfl (fun hc67 => ?_) (fun hc67 => ?_)
   ·replace hq51 := iteT hc67 hq51
    refine W.seq (W.region ?_)
    refine vP hS hE (Gives.p hE rfl) rfl ?_; clear hE a; intro a hE
    refine WL.nil ?_
    refine W.ret ?_
    subst hK62
    rw [← Option.some.inj hq51] at hr
    dsimp only at hr
    refine finG (fn := Tryd.f82) (rs := [.tmp 4]) (vs := [_]) hE rfl ⟨rfl, trivial⟩ ?_
    obtain rfl := Option.some.inj hr
    exact ⟨rfl, hS⟩
   ·replace hq51 := iteF hc67 hq51
    refine W.skip ?_
    refine W.seq (W.region ?_)
    refine vP hS hE (Gives.p hE rfl) rfl ?_; clear hE a; intro a hE
    refine vP hS hE (Gives.p hE rfl) rfl ?_; clear hE a; intro a hE
    obtain ⟨x68, hx69, hq51⟩ := bindS hq51
    obtain ⟨hi70, hlt71, hy72⟩ := gx_some hx69
    obtain ⟨cs73, hl74, hR75, hat76⟩ := h1.at hy72
    subst hR75
    refine vP hS hE (Gives.idx hE (((k53 : Nat) : Int)).toNat rfl rfl sl45 hi70 hlt71 (h1.aok hlt71)) rfl ?_; clear hE a; intro a hE
    refine vP hS hE (Gives.load1 hE rfl (fun w h => hat76 w _ h) ty3) rfl ?_; clear hE a; intro a hE
    refine vP hS hE (Gives.p hE rfl) rfl ?_; clear hE a; intro a hE
    refine WL.nil ?_
    refine W.seq (W.region ?_)
    refine vP hS hE (Gives.p hE rfl) rfl ?_; clear hE a; intro a hE
    refine vP hS hE (Gives.p hE rfl) rfl ?_; clear hE a; intro a hE
    refine WL.fnq hE (CmpCompareint_ok hS  rfl (r := CmpCompareint x54 x68)) (runs_plain rfl) bd54 rfl rfl rfl ?_
    clear hE hS; rintro e w ⟨rfl, hS⟩; refine ⟨_, rfl, ?_⟩; clear a; intro a hE
    refine vP hS hE (Gives.p hE rfl) rfl ?_; clear hE a; intro a hE
    refine WL.nil ?_
    refine W.seq (W.region ?_)
    refine vP hS hE (Gives.p hE rfl) rfl ?_; clear hE a; intro a hE
    refine vP hS hE (Gives.p hE rfl) rfl ?_; clear hE a; intro a hE
    refine WL.nil ?_
    refine W.cond hE rfl (fun hc77 => ?_) (fun hc77 => ?_)
    ·replace hq51 := iteT hc77 hq51
     refine W.seq (W.region ?_)
     refine vP hS hE (Gives.p hE rfl) rfl ?_; clear hE a; intro a hE
     refine vP hS hE (Gives.p hE rfl) rfl ?_; clear hE a; intro a hE
     refine WL.nil ?_
     refine W.ret ?_
     subst hK62
     rw [← Option.some.inj hq51] at hr
     dsimp only at hr
     refine finG (fn := Tryd.f82) (rs := [.tmp 4]) (vs := [_]) hE rfl ⟨rfl, trivial⟩ ?_
     obtain rfl := Option.some.inj hr
     exact ⟨rfl, hS⟩
    ·replace hq51 := iteF hc77 hq51
     refine W.skip ?_
     refine W.region ?_
     refine vP hS hE (Gives.inc hE rfl (by have := h0.small; omega)) rfl ?_; clear hE a; intro a hE
     refine vP hS hE (Gives.p hE rfl) rfl ?_; clear hE a; intro a hE
     refine WL.nil ?_
     subst hK62
     exact ⟨rest55.length, Nat.lt_succ_self _, rest55, k53 + 1, rfl, hd56, hq51, hE.pick _ ⟨rfl, rfl, rfl, rfl, rfl, trivial⟩, hS⟩
 ·clear hE hS a w; rintro a w ⟨rfl, hE, hS⟩
  dsimp only at hr
  refine W.seq ?_
  refine W.seq (W.region ?_)
  refine vP hS hE (Gives.p hE rfl) rfl ?_; clear hE a; intro a hE
  refine vP hS hE (Gives.len hE rfl sl45) rfl ?_; clear hE a; intro a hE
  refine vP hS hE (Gives.p hE rfl) rfl ?_; clear hE a; intro a hE
  refine vP hS hE (Gives.len hE rfl sl45) rfl ?_; clear hE a; intro a hE
  refine vP hS hE (Gives.p hE rfl) rfl ?_; clear hE a; intro a hE
  refine WL.nil ?_
  refine W.cond hE rfl (fun hc78 => ?_) (fun hc78 => ?_)
  ·replace hr := iteT hc78 hr
   refine W.seq (W.region ?_)
   refine vP hS hE (Gives.p hE rfl) rfl ?_; clear hE a; intro a hE
   refine WL.nil ?_
   refine W.ret ?_
   refine finG (fn := Tryd.f82) (rs := [.tmp 4]) (vs := [_]) hE rfl ⟨rfl, trivial⟩ ?_
   obtain rfl := Option.some.inj hr
   exact ⟨rfl, hS⟩
  ·replace hr := iteF hc78 hr
   refine W.skip ?_
   refine W.seq (W.region ?_)
   refine vP hS hE (Gives.p hE rfl) rfl ?_; clear hE a; intro a hE
   refine WL.nil ?_
   refine W.ret ?_
   refine finG (fn := Tryd.f82) (rs := [.tmp 4]) (vs := [_]) hE rfl ⟨rfl, trivial⟩ ?_
   obtain rfl := Option.some.inj hr
   exact ⟨rfl, hS⟩
end Go.Proofs.YtpcebngchmgckaaDoor
