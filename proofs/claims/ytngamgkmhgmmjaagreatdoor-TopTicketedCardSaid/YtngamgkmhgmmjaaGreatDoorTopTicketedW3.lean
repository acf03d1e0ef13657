/- The walks of the functions that TopTicketed reaches: each call comes to what its mirror says. The conditions are those of each contract. -/
import Derived.Test.YtngamgkmhgmmjaaGreatDoorProg
import Derived.Test.YtngamgkmhgmmjaaGreatDoorTopTicketedM
import Derived.Test.YtngamgkmhgmmjaaGreatDoorFpAllT
import Derived.Test.YtngamgkmhgmmjaaGreatDoorTopTicketedS
import Derived.Test.YtngamgkmhgmmjaaGreatDoorFpErr
import Derived.Test.YtngamgkmhgmmjaaGreatDoorFpFld
import Derived.Test.YtngamgkmhgmmjaaGreatDoorFpPan
import Derived.Test.YtngamgkmhgmmjaaGreatDoorFpRgn
import Derived.Test.YtngamgkmhgmmjaaGreatDoorTopTicketedW2
set_option maxRecDepth 10000
namespace Go.Proofs.YtngamgkmhgmmjaaGreatDoor
open Go Go.Fp
set_option maxHeartbeats 8000000 in
theorem FareCheckTrip_ok  {w : World} {s : Sg} {R : List HP} {x0 : FareTrip} {a0_0 : Option Addr} {c0_0 : Nat} (hS : St w s (R)) (h0_0 : Sl 1 (RI .i64) s a0_0 c0_0 x0.Zones) {r : Int} (hr : FareCheckTrip x0 = some r) :
  Calls Tryz.prog 24 [.agg (List.toArray [.int .i64 x0.Day, .int .i64 x0.At, .int .i64 x0.Km, .int .i64 x0.Age, .bool x0.Card, .slice a0_0 x0.Zones.length c0_0])].toArray w (fun e w => e = .returned (.int .i64 r) ∧ St w s (R)) := by
 refine enter Tryz.func24 rfl rfl rfl fun a hE => ?_
 rw [FareCheckTrip] at hr
 refine W.seq (W.region ?_)
 refine WL.box hE hS (runs_plain rfl) rfl rfl rfl ?_; clear hE hS a w; intro b51 a w hE hS
 refine vP hS hE (Gives.p hE rfl) rfl ?_; clear hE a; intro a hE
 refine WL.nil ?_
 refine W.seq ?_
 refine W.block ?_
 refine W.seq ?_
 obtain ⟨q53, hq52, hr⟩ := bndS hr
 refine W.cut (fun a w => ∃ (q56 : Bool), q56 = q53 ∧ Rep a 35 [(1, .pointer (some ⟨b51, 0, none⟩)), (3, .bool q56)] ∧ St w s (pt b51 (.cells #[.int .i64 x0.Day, .int .i64 x0.At, .int .i64 x0.Km, .int .i64 x0.Age, .bool x0.Card, .slice a0_0 x0.Zones.length c0_0] 54 (0, 0)) :: R)) ?_ ?_
 ·refine W.gen fun K57 hK57 => ?_
  refine W.region ?_
  refine vP hS hE (Gives.fld hE rfl fl54_0) rfl ?_; clear hE a; intro a hE
  refine vP hS hE (Gives.loadB hE 0 rfl rfl rfl ty3) rfl ?_; clear hE a; intro a hE
  refine WL.fnq hE (Farewithin_ok hS  rfl (r := Farewithin x0.Day 0 6)) (runs_plain rfl) bd26 rfl rfl rfl ?_
  clear hE hS; rintro e w ⟨rfl, hS⟩; refine ⟨_, rfl, ?_⟩; clear a; intro a hE
  refine vP hS hE (Gives.p hE rfl) rfl ?_; clear hE a; intro a hE
  refine vP hS hE (Gives.p hE rfl) rfl ?_; clear hE a; intro a hE
  rcases Bool.eq_false_or_eq_true (!(Farewithin x0.Day 0 6)) with hg58 | hg58
  ·replace hq52 := iteT hg58 hq52
   refine WL.no hE (runs_not hE rfl rfl rfl (by rw [hg58]; decide)) rfl ?_; clear hE a; intro a hE
   refine WL.no hE (runs_not hE rfl rfl rfl (by rw [hg58]; decide)) rfl ?_; clear hE a; intro a hE
   refine WL.no hE (runs_not hE rfl rfl rfl (by rw [hg58]; decide)) rfl ?_; clear hE a; intro a hE
   refine WL.no hE (runs_not hE rfl rfl rfl (by rw [hg58]; decide)) rfl ?_; clear hE a; intro a hE
   refine vP hS hE (Gives.pickT hE rfl hg58 rfl) rfl ?_; clear hE a; intro a hE
   refine vP hS hE (Gives.p hE rfl) rfl ?_; clear hE a; intro a hE
   refine WL.no hE (runs_not hE rfl rfl rfl (by decide)) rfl ?_; clear hE a; intro a hE
   refine WL.no hE (runs_not hE rfl rfl rfl (by decide)) rfl ?_; clear hE a; intro a hE
   refine WL.no hE (runs_not hE rfl rfl rfl (by decide)) rfl ?_; clear hE a; intro a hE
   refine WL.no hE (runs_not hE rfl rfl rfl (by decide)) rfl ?_; clear hE a; intro a hE
   refine vP hS hE (Gives.pickT hE rfl rfl rfl) rfl ?_; clear hE a; intro a hE
   refine vP hS hE (Gives.p hE rfl) rfl ?_; clear hE a; intro a hE
   refine WL.no hE (runs_not hE rfl rfl rfl (by decide)) rfl ?_; clear hE a; intro a hE
   refine WL.no hE (runs_not hE rfl rfl rfl (by decide)) rfl ?_; clear hE a; intro a hE
   refine WL.no hE (runs_not hE rfl rfl rfl (by decide)) rfl ?_; clear hE a; intro a hE
   refine WL.no hE (runs_not hE rfl rfl rfl (by decide)) rfl ?_; clear hE a; intro a hE
   refine vP hS hE (Gives.pickT hE rfl rfl rfl) rfl ?_; clear hE a; intro a hE
   refine vP hS hE (Gives.p hE rfl) rfl ?_; clear hE a; intro a hE
   refine WL.nil ?_
   subst hK57
   exact ⟨true, hq52, hE.pick _ ⟨rfl, rfl, trivial⟩, hS⟩
  ·replace hq52 := iteF hg58 hq52
   refine WL.vS hS hE (runs_if hE rfl rfl rfl hg58) (Gives.fld hE rfl fl54_1) rfl ?_; clear hE a; intro a hE
   refine WL.vS hS hE (runs_if hE rfl rfl rfl hg58) (Gives.loadB hE 0 rfl rfl rfl ty3) rfl ?_; clear hE a; intro a hE
   refine WL.fnq hE (Farewithin_ok hS  rfl (r := Farewithin x0.At 0 28800)) (runs_if hE rfl rfl rfl hg58) bd26 rfl rfl rfl ?_
   clear hE hS; rintro e w ⟨rfl, hS⟩; refine ⟨_, rfl, ?_⟩; clear a; intro a hE
   refine WL.vS hS hE (runs_if hE rfl rfl rfl hg58) (Gives.p hE rfl) rfl ?_; clear hE a; intro a hE
   refine vP hS hE (Gives.pickF hE rfl hg58 rfl) rfl ?_; clear hE a; intro a hE
   refine vP hS hE (Gives.p hE rfl) rfl ?_; clear hE a; intro a hE
   rcases Bool.eq_false_or_eq_true (!(Farewithin x0.At 0 28800)) with hg59 | hg59
   ·replace hq52 := iteT hg59 hq52
    refine WL.no hE (runs_not hE rfl rfl rfl (by rw [hg59]; decide)) rfl ?_; clear hE a; intro a hE
    refine WL.no hE (runs_not hE rfl rfl rfl (by rw [hg59]; decide)) rfl ?_; clear hE a; intro a hE
    refine WL.no hE (runs_not hE rfl rfl rfl (by rw [hg59]; decide)) rfl ?_; clear hE a; intro a hE
    refine WL.no hE (runs_not hE rfl rfl rfl (by rw [hg59]; decide)) rfl ?_; clear hE a; intro a hE
    refine vP hS hE (Gives.pickT hE rfl hg59 rfl) rfl ?_; clear hE a; intro a hE
    refine vP hS hE (Gives.p hE rfl) rfl ?_; clear hE a; intro a hE
    refine WL.no hE (runs_not hE rfl rfl rfl (by decide)) rfl ?_; clear hE a; intro a hE
    refine WL.no hE (runs_not hE rfl rfl rfl (by decide)) rfl ?_; clear hE a; intro a hE
    refine WL.no hE (runs_not hE rfl rfl rfl (by decide)) rfl ?_; clear hE a; intro a hE
    refine WL.no hE (runs_not hE rfl rfl rfl (by decide)) rfl ?_; clear hE a; intro a hE
    refine vP hS hE (Gives.pickT hE rfl rfl rfl) rfl ?_; clear hE a; intro a hE
    refine vP hS hE (Gives.p hE rfl) rfl ?_; clear hE a; intro a hE
    refine WL.nil ?_
    subst hK57
    exact ⟨true, hq52, hE.pick _ ⟨rfl, rfl, trivial⟩, hS⟩
   ·replace hq52 := iteF hg59 hq52
    refine WL.vS hS hE (runs_if hE rfl rfl rfl hg59) (Gives.fld hE rfl fl54_2) rfl ?_; clear hE a; intro a hE
    refine WL.vS hS hE (runs_if hE rfl rfl rfl hg59) (Gives.loadB hE 0 rfl rfl rfl ty3) rfl ?_; clear hE a; intro a hE
    refine WL.fnq hE (Farewithin_ok hS  rfl (r := Farewithin x0.Km 0 1000)) (runs_if hE rfl rfl rfl hg59) bd26 rfl rfl rfl ?_
    clear hE hS; rintro e w ⟨rfl, hS⟩; refine ⟨_, rfl, ?_⟩; clear a; intro a hE
    refine WL.vS hS hE (runs_if hE rfl rfl rfl hg59) (Gives.p hE rfl) rfl ?_; clear hE a; intro a hE
    refine vP hS hE (Gives.pickF hE rfl hg59 rfl) rfl ?_; clear hE a; intro a hE
    refine vP hS hE (Gives.p hE rfl) rfl ?_; clear hE a; intro a hE
    rcases Bool.eq_false_or_eq_true (!(Farewithin x0.Km 0 1000)) with hg60 | hg60
    ·replace hq52 := iteT hg60 hq52
     refine WL.no hE (runs_not hE rfl rfl rfl (by rw [hg60]; decide)) rfl ?_; clear hE a; intro a hE
     refine WL.no hE (runs_not hE rfl rfl rfl (by rw [hg60]; decide)) rfl ?_; clear hE a; intro a hE
     refine WL.no hE (runs_not hE rfl rfl rfl (by rw [hg60]; decide)) rfl ?_; clear hE a; intro a hE
     refine WL.no hE (runs_not hE rfl rfl rfl (by rw [hg60]; decide)) rfl ?_; clear hE a; intro a hE
     refine vP hS hE (Gives.pickT hE rfl hg60 rfl) rfl ?_; clear hE a; intro a hE
     refine vP hS hE (Gives.p hE rfl) rfl ?_; clear hE a; intro a hE
     refine WL.nil ?_
     subst hK57
     exact ⟨true, hq52, hE.pick _ ⟨rfl, rfl, trivial⟩, hS⟩
    ·replace hq52 := iteF hg60 hq52
     refine WL.vS hS hE (runs_if hE rfl rfl rfl hg60) (Gives.fld hE rfl fl54_3) rfl ?_; clear hE a; intro a hE
     refine WL.vS hS hE (runs_if hE rfl rfl rfl hg60) (Gives.loadB hE 0 rfl rfl rfl ty3) rfl ?_; clear hE a; intro a hE
     refine WL.fnq hE (Farewithin_ok hS  rfl (r := Farewithin x0.Age 0 120)) (runs_if hE rfl rfl rfl hg60) bd26 rfl rfl rfl ?_
     clear hE hS; rintro e w ⟨rfl, hS⟩; refine ⟨_, rfl, ?_⟩; clear a; intro a hE
     refine WL.vS hS hE (runs_if hE rfl rfl rfl hg60) (Gives.p hE rfl) rfl ?_; clear hE a; intro a hE
     refine vP hS hE (Gives.pickF hE rfl hg60 rfl) rfl ?_; clear hE a; intro a hE
     refine vP hS hE (Gives.p hE rfl) rfl ?_; clear hE a; intro a hE
     refine WL.nil ?_
     subst hK57
     exact ⟨!(Farewithin x0.Age 0 120), hq52, hE.pick _ ⟨rfl, rfl, trivial⟩, hS⟩
 ·clear hE hS a w; rintro a w ⟨q56, rfl, hE, hS⟩
  refine W.cond hE rfl (fun hc61 => ?_) (fun hc61 => ?_)
  ·replace hr := iteT hc61 hr
   refine W.seq (W.region ?_)
   refine vP hS hE (Gives.p hE rfl) rfl ?_; clear hE a; intro a hE
   refine WL.nil ?_
   refine W.ret ?_
   refine finG (fn := Tryz.f24) (rs := [.tmp 2]) (vs := [_]) hE rfl ⟨rfl, trivial⟩ ?_
   obtain rfl := Option.some.inj hr
   replace hS := hS.tail
   exact ⟨rfl, hS⟩
  ·replace hr := iteF hc61 hr
   refine W.seq (W.region ?_)
   refine vP hS hE (Gives.fld hE rfl fl54_5) rfl ?_; clear hE a; intro a hE
   refine vP hS hE (Gives.loadB hE 0 rfl rfl rfl ty37) rfl ?_; clear hE a; intro a hE
   refine vP hS hE (Gives.len hE rfl sl37) rfl ?_; clear hE a; intro a hE
   refine WL.fnq hE (Farewithin_ok hS  rfl (r := Farewithin ((x0.Zones).length : Int) 1 10)) (runs_plain rfl) bd26 rfl rfl rfl ?_
   clear hE hS; rintro e w ⟨rfl, hS⟩; refine ⟨_, rfl, ?_⟩; clear a; intro a hE
   refine vP hS hE (Gives.p hE rfl) rfl ?_; clear hE a; intro a hE
   refine vP hS hE (Gives.p hE rfl) rfl ?_; clear hE a; intro a hE
   refine WL.nil ?_
   refine W.cond hE rfl (fun hc62 => ?_) (fun hc62 => ?_)
   ·replace hr := iteT hc62 hr
    refine W.seq (W.region ?_)
    refine vP hS hE (Gives.p hE rfl) rfl ?_; clear hE a; intro a hE
    refine WL.nil ?_
    refine W.ret ?_
    refine finG (fn := Tryz.f24) (rs := [.tmp 2]) (vs := [_]) hE rfl ⟨rfl, trivial⟩ ?_
    obtain rfl := Option.some.inj hr
    replace hS := hS.tail
    exact ⟨rfl, hS⟩
   ·replace hr := iteF hc62 hr
    refine W.skip ?_
    refine W.seq (W.region ?_)
    refine vP hS hE (Gives.fld hE rfl fl54_5) rfl ?_; clear hE a; intro a hE
    refine vP hS hE (Gives.loadB hE 0 rfl rfl rfl ty37) rfl ?_; clear hE a; intro a hE
    obtain ⟨q63, hq64, hr⟩ := bindS hr
    have hc_ := FarecheckZones_ok hS h0_0 hq64
    refine WL.fnq hE (hc_) (runs_plain rfl) bd42 rfl rfl rfl ?_
    clear hE hS hc_; rintro e w ⟨rfl, hS⟩; refine ⟨_, rfl, ?_⟩; clear a; intro a hE
    refine vP hS hE (Gives.p hE rfl) rfl ?_; clear hE a; intro a hE
    refine WL.nil ?_
    refine W.ret ?_
    refine finG (fn := Tryz.f24) (rs := [.tmp 2]) (vs := [_]) hE rfl ⟨rfl, trivial⟩ ?_
    obtain rfl := Option.some.inj hr
    replace hS := hS.tail
    exact ⟨rfl, hS⟩
set_option maxHeartbeats 8000000 in
theorem FareTariffprice_1_v1_ok  {w : World} {s : Sg} {R : List HP} {pb0 : Nat} {x0 : FareBand} {y0 : Int} (hS : St w s (pt pb0 (.cells #[.int .i64 y0] 3 (0, 0)) :: R))  {r : Bool} (hr : FareTariffprice_1_v1 x0 y0 = r) :
  Calls Tryz.prog 44 [.agg (FareBand.cells x0).toArray, .pointer (some ⟨pb0, 0, none⟩)].toArray w (fun e w => e = .returned (.bool r) ∧ St w s (pt pb0 (.cells #[.int .i64 y0] 3 (0, 0)) :: R)) := by
 refine enter Tryz.func44 rfl rfl rfl fun a hE => ?_
 rw [FareTariffprice_1_v1] at hr
 refine W.seq (W.region ?_)
 refine WL.box hE hS (runs_plain rfl) rfl rfl rfl ?_; clear hE hS a w; intro b51 a w hE hS
 refine vP hS hE (Gives.p hE rfl) rfl ?_; clear hE a; intro a hE
 refine WL.nil ?_
 refine W.seq (W.region ?_)
 refine vP hS hE (Gives.fld hE rfl fl94_0) rfl ?_; clear hE a; intro a hE
 refine vP hS hE (Gives.loadB hE 0 rfl rfl rfl ty3) rfl ?_; clear hE a; intro a hE
 refine vP hS hE (Gives.loadB hE 1 rfl rfl rfl ty3) rfl ?_; clear hE a; intro a hE
 refine vP hS hE (Gives.p hE rfl) rfl ?_; clear hE a; intro a hE
 refine vP hS hE (Gives.p hE rfl) rfl ?_; clear hE a; intro a hE
 refine WL.nil ?_
 refine W.ret ?_
 refine finG (fn := Tryz.f44) (rs := [.tmp 3]) (vs := [_]) hE rfl ⟨rfl, trivial⟩ ?_
 subst hr
 replace hS := hS.tail
 exact ⟨rfl, hS⟩
set_option maxHeartbeats 8000000 in
theorem SlicesIndexFuncLfareBand_v1_ok  {w : World} {s : Sg} {R : List HP} {pb0 : Nat} {x0 : List FareBand} {a0 : Option Addr} {c0 : Nat} {y0 : Int} (hS : St w s (pt pb0 (.cells #[.int .i64 y0] 3 (0, 0)) :: R)) (h0 : Sl 2 RFareBand s a0 c0 x0) {r : Int} (hr : SlicesIndexFuncLfareBand_v1 x0 y0 = r) :
  Calls Tryz.prog 43 [.slice a0 x0.length c0, .func (.func 44) #[] #[.pointer (some ⟨pb0, 0, none⟩)]].toArray w (fun e w => e = .returned (.int .i64 r) ∧ St w s (pt pb0 (.cells #[.int .i64 y0] 3 (0, 0)) :: R)) := by
 refine enter Tryz.func43 rfl rfl rfl fun a hE => ?_
 rw [SlicesIndexFuncLfareBand_v1] at hr
 refine W.seq (W.region ?_)
 refine vP hS hE (Gives.p hE rfl) rfl ?_; clear hE a; intro a hE
 refine WL.nil ?_
 refine W.seq ?_
 refine W.seq (W.region ?_)
 refine vP hS hE (Gives.p hE rfl) rfl ?_; clear hE a; intro a hE
 refine vP hS hE (Gives.len hE rfl sl29) rfl ?_; clear hE a; intro a hE
 refine vP hS hE (Gives.p hE rfl) rfl ?_; clear hE a; intro a hE
 refine WL.nil ?_
 obtain ⟨q52, hq51, hr⟩ := bndS hr
 refine W.cut (fun a w => (.next ()) = q52 ∧ Rep a 19 [] ∧ St w s (pt pb0 (.cells #[.int .i64 y0] 3 (0, 0)) :: R)) ?_ ?_
 ·refine W.block ?_
  refine W.loop (fun m a w => ∃ (rest55 : List FareBand) (k53 : Nat), rest55.length = m ∧ x0.drop k53 = rest55 ∧ SlicesIndexFuncLfareBand_v1.loop1 y0 rest55 k53 = q52 ∧ Rep a 19 [(0, .slice a0 x0.length c0), (1, .func (.func 44) #[] #[.pointer (some ⟨pb0, 0, none⟩)]), (7, .int .i64 ((x0).length : Int)), (8, .int .i64 ((k53 : Nat) : Int))] ∧ St w s (pt pb0 (.cells #[.int .i64 y0] 3 (0, 0)) :: R)) (m := x0.length) ⟨x0, 0, rfl, rfl, hq51, hE.pick _ ⟨rfl, rfl, rfl, rfl, trivial⟩, hS⟩ ?_
  clear hE hS a w hq51; rintro m59 a w ⟨rest55, k53, rfl, hd56, hq51, hE, hS⟩
  refine W.gen fun K62 hK62 => ?_
  rcases rest55 with _ | ⟨x54, rest55⟩
  ·have hlt57 := drop_nil hd56
   refine W.seq (W.region ?_)
   refine vP hS hE (Gives.p hE rfl) rfl ?_; clear hE a; intro a hE
   refine WL.nil ?_
   refine W.seq ?_
   refine W.condF hE rfl (decide_eq_false (by omega)) ?_
   subst hK62
   refine W.exit rfl ?_
   exact ⟨hq51, hE.pick _ trivial, hS⟩
  ·obtain ⟨hlt57, hx58, hd56⟩ := drop_cons hd56
   rw [SlicesIndexFuncLfareBand_v1.loop1] at hq51
   refine W.seq (W.region ?_)
   refine vP hS hE (Gives.p hE rfl) rfl ?_; clear hE a; intro a hE
   refine WL.nil ?_
   refine W.seq ?_
   refine W.condT hE rfl (decide_eq_true (by omega)) ?_
   refine W.skip ?_
   refine W.seq ?_
   refine W.block ?_
   refine W.seq (W.region ?_)
   refine vP hS hE (Gives.p hE rfl) rfl ?_; clear hE a; intro a hE
   refine vP hS hE (Gives.p hE rfl) rfl ?_; clear hE a; intro a hE
   refine WL.nil ?_
   refine W.seq (W.region ?_)
   refine vP hS hE (Gives.p hE rfl) rfl ?_; clear hE a; intro a hE
   refine vP hS hE (Gives.p hE rfl) rfl ?_; clear hE a; intro a hE
   refine vP hS hE (Gives.p hE rfl) rfl ?_; clear hE a; intro a hE
   obtain ⟨cs63, hl64, hR65, hat66⟩ := h0.at hx58
   subst hR65
   refine vP hS hE (Gives.idx hE k53 rfl rfl sl29 rfl hlt57 (h0.aok hlt57)) rfl ?_; clear hE a; intro a hE
   refine vP hS hE (Gives.loadA hE rfl (fun w h => hat66 w _ h) ty94) rfl ?_; clear hE a; intro a hE
   refine WL.fnw hE (FareTariffprice_1_v1_ok hS  rfl (r := FareTariffprice_1_v1 x54 y0)) rfl (runs_plain rfl) bd44 rfl rfl rfl ?_
   clear hE hS; rintro e w ⟨rfl, hS⟩; refine ⟨_, rfl, ?_⟩; clear a; intro a hE
   refine WL.nil ?_
   refine W.cond hE rfl (fun hc67 => ?_) (fun hc67 => ?_)
   ·replace hq51 := iteT hc67 hq51
    refine W.seq (W.region ?_)
    refine vP hS hE (Gives.p hE rfl) rfl ?_; clear hE a; intro a hE
    refine vP hS hE (Gives.p hE rfl) rfl ?_; clear hE a; intro a hE
    refine WL.nil ?_
    refine W.ret ?_
    subst hK62
    rw [← hq51] at hr
    dsimp only at hr
    refine finG (fn := Tryz.f43) (rs := [.tmp 4]) (vs := [_]) hE rfl ⟨rfl, trivial⟩ ?_
    subst hr
    exact ⟨rfl, hS⟩
   ·replace hq51 := iteF hc67 hq51
    refine W.skip ?_
    refine W.region ?_
    refine vP hS hE (Gives.inc hE rfl (by have := h0.small; omega)) rfl ?_; clear hE a; intro a hE
    refine vP hS hE (Gives.p hE rfl) rfl ?_; clear hE a; intro a hE
    refine WL.nil ?_
    subst hK62
    exact ⟨rest55.length, Nat.lt_succ_self _, rest55, k53 + 1, rfl, hd56, hq51, hE.pick _ ⟨rfl, rfl, rfl, rfl, trivial⟩, hS⟩
 ·clear hE hS a w; rintro a w ⟨rfl, hE, hS⟩
  dsimp only at hr
  refine W.seq (W.region ?_)
  refine vP hS hE (Gives.p hE rfl) rfl ?_; clear hE a; intro a hE
  refine WL.nil ?_
  refine W.ret ?_
  refine finG (fn := Tryz.f43) (rs := [.tmp 4]) (vs := [_]) hE rfl ⟨rfl, trivial⟩ ?_
  subst hr
  exact ⟨rfl, hS⟩
set_option maxHeartbeats 8000000 in
theorem FareCondholds_1_v1_ok  {w : World} {s : Sg} {R : List HP} {pb0 : Nat} {x0 : Int} {y0 : FareCond} {a_y0_3 : Option Addr} {c_y0_3 : Nat} (hS : St w s (pt pb0 (.cells #[.int .i64 y0.Kind, .int .i64 y0.A, .int .i64 y0.B, .slice a_y0_3 y0.Kids.length c_y0_3] 97 (0, 0)) :: R)) (_h_y0_3 : Sl 4 RFareCond s a_y0_3 c_y0_3 y0.Kids) {r : Bool} (hr : FareCondholds_1_v1 x0 y0 = r) :
  Calls Tryz.prog 70 [.int .i64 x0, .pointer (some ⟨pb0, 0, none⟩)].toArray w (fun e w => e = .returned (.bool r) ∧ St w s (pt pb0 (.cells #[.int .i64 y0.Kind, .int .i64 y0.A, .int .i64 y0.B, .slice a_y0_3 y0.Kids.length c_y0_3] 97 (0, 0)) :: R)) := by
 refine enter Tryz.func70 rfl rfl rfl fun a hE => ?_
 rw [FareCondholds_1_v1] at hr
 refine W.seq (W.region ?_)
 refine vP hS hE (Gives.p hE rfl) rfl ?_; clear hE a; intro a hE
 refine WL.nil ?_
 refine W.seq (W.region ?_)
 refine vP hS hE (Gives.p hE rfl) rfl ?_; clear hE a; intro a hE
 refine vP hS hE (Gives.fld hE rfl fl97_1) rfl ?_; clear hE a; intro a hE
 refine vP hS hE (Gives.loadB hE 0 rfl rfl rfl ty3) rfl ?_; clear hE a; intro a hE
 refine vP hS hE (Gives.fld hE rfl fl97_2) rfl ?_; clear hE a; intro a hE
 refine vP hS hE (Gives.loadB hE 0 rfl rfl rfl ty3) rfl ?_; clear hE a; intro a hE
 refine WL.fnq hE (Farewithin_ok hS  rfl (r := Farewithin x0 y0.A y0.B)) (runs_plain rfl) bd26 rfl rfl rfl ?_
 clear hE hS; rintro e w ⟨rfl, hS⟩; refine ⟨_, rfl, ?_⟩; clear a; intro a hE
 refine vP hS hE (Gives.p hE rfl) rfl ?_; clear hE a; intro a hE
 refine WL.nil ?_
 refine W.ret ?_
 refine finG (fn := Tryz.f70) (rs := [.tmp 3]) (vs := [_]) hE rfl ⟨rfl, trivial⟩ ?_
 subst hr
 exact ⟨rfl, hS⟩
set_option maxHeartbeats 8000000 in
theorem SlicesIndexLint_ok  {w : World} {s : Sg} {R : List HP} {x0 : List Int} {a0 : Option Addr} {c0 : Nat} {x1 : Int} (hS : St w s (R)) (h0 : Sl 1 (RI .i64) s a0 c0 x0) {r : Int} (hr : SlicesIndexLint x0 x1 = r) :
  Calls Tryz.prog 34 [.slice a0 x0.length c0, .int .i64 x1].toArray w (fun e w => e = .returned (.int .i64 r) ∧ St w s (R)) := by
 refine enter Tryz.func34 rfl rfl rfl fun a hE => ?_
 rw [SlicesIndexLint] at hr
 refine W.seq (W.region ?_)
 refine vP hS hE (Gives.p hE rfl) rfl ?_; clear hE a; intro a hE
 refine WL.nil ?_
 refine W.seq ?_
 refine W.seq (W.region ?_)
 refine vP hS hE (Gives.p hE rfl) rfl ?_; clear hE a; intro a hE
 refine vP hS hE (Gives.len hE rfl sl37) rfl ?_; clear hE a; intro a hE
 refine vP hS hE (Gives.p hE rfl) rfl ?_; clear hE a; intro a hE
 refine WL.nil ?_
 obtain ⟨q52, hq51, hr⟩ := bndS hr
 refine W.cut (fun a w => (.next ()) = q52 ∧ Rep a 19 [] ∧ St w s (R)) ?_ ?_
 ·refine W.block ?_
  refine W.loop (fun m a w => ∃ (rest55 : List Int) (k53 : Nat), rest55.length = m ∧ x0.drop k53 = rest55 ∧ SlicesIndexLint.loop1 x1 rest55 k53 = q52 ∧ Rep a 19 [(0, .slice a0 x0.length c0), (1, .int .i64 x1), (7, .int .i64 ((x0).length : Int)), (8, .int .i64 ((k53 : Nat) : Int))] ∧ St w s (R)) (m := x0.length) ⟨x0, 0, rfl, rfl, hq51, hE.pick _ ⟨rfl, rfl, rfl, rfl, trivial⟩, hS⟩ ?_
  clear hE hS a w hq51; rintro m59 a w ⟨rest55, k53, rfl, hd56, hq51, hE, hS⟩
  refine W.gen fun K62 hK62 => ?_
  rcases rest55 with _ | ⟨x54, rest55⟩
  ·have hlt57 := drop_nil hd56
   refine W.seq (W.region ?_)
   refine vP hS hE (Gives.p hE rfl) rfl ?_; clear hE a; intro a hE
   refine WL.nil ?_
   refine W.seq ?_
   refine W.condF hE rfl (decide_eq_false (by omega)) ?_
   subst hK62
   refine W.exit rfl ?_
   exact ⟨hq51, hE.pick _ trivial, hS⟩
  ·obtain ⟨hlt57, hx58, hd56⟩ := drop_cons hd56
   rw [SlicesIndexLint.loop1] at hq51
   refine W.seq (W.region ?_)
   refine vP hS hE (Gives.p hE rfl) rfl ?_; clear hE a; intro a hE
   refine WL.nil ?_
   refine W.seq ?_
   refine W.condT hE rfl (decide_eq_true (by omega)) ?_
   refine W.skip ?_
   refine W.seq ?_
   refine W.block ?_
   refine W.seq (W.region ?_)
   refine vP hS hE (Gives.p hE rfl) rfl ?_; clear hE a; intro a hE
   refine vP hS hE (Gives.p hE rfl) rfl ?_; clear hE a; intro a hE
   refine WL.nil ?_
   refine W.seq (W.region ?_)
   refine vP hS hE (Gives.p hE rfl) rfl ?_; clear hE a; intro a hE
   refine vP hS hE (Gives.p hE rfl) rfl ?_; clear hE a; intro a hE
   refine vP hS hE (Gives.p hE rfl) rfl ?_; clear hE a; intro a hE
   obtain ⟨cs63, hl64, hR65, hat66⟩ := h0.at hx58
   subst hR65
   refine vP hS hE (Gives.idx hE k53 rfl rfl sl37 rfl hlt57 (h0.aok hlt57)) rfl ?_; clear hE a; intro a hE
   refine vP hS hE (Gives.load1 hE rfl (fun w h => hat66 w _ h) ty3) rfl ?_; clear hE a; intro a hE
   refine vP hS hE (Gives.p hE rfl) rfl ?_; clear hE a; intro a hE
   refine WL.nil ?_
   refine W.cond hE rfl (fun hc67 => ?_) (fun hc67 => ?_)
   ·replace hq51 := iteT hc67 hq51
    refine W.seq (W.region ?_)
    refine vP hS hE (Gives.p hE rfl) rfl ?_; clear hE a; intro a hE
    refine vP hS hE (Gives.p hE rfl) rfl ?_; clear hE a; intro a hE
    refine WL.nil ?_
    refine W.ret ?_
    subst hK62
    rw [← hq51] at hr
    dsimp only at hr
    refine finG (fn := Tryz.f34) (rs := [.tmp 4]) (vs := [_]) hE rfl ⟨rfl, trivial⟩ ?_
    subst hr
    exact ⟨rfl, hS⟩
   ·replace hq51 := iteF hc67 hq51
    refine W.skip ?_
    refine W.region ?_
    refine vP hS hE (Gives.inc hE rfl (by have := h0.small; omega)) rfl ?_; clear hE a; intro a hE
    refine vP hS hE (Gives.p hE rfl) rfl ?_; clear hE a; intro a hE
    refine WL.nil ?_
    subst hK62
    exact ⟨rest55.length, Nat.lt_succ_self _, rest55, k53 + 1, rfl, hd56, hq51, hE.pick _ ⟨rfl, rfl, rfl, rfl, trivial⟩, hS⟩
 ·clear hE hS a w; rintro a w ⟨rfl, hE, hS⟩
  dsimp only at hr
  refine W.seq (W.region ?_)
  refine vP hS hE (Gives.p hE rfl) rfl ?_; clear hE a; intro a hE
  refine WL.nil ?_
  refine W.ret ?_
  refine finG (fn := Tryz.f34) (rs := [.tmp 4]) (vs := [_]) hE rfl ⟨rfl, trivial⟩ ?_
  subst hr
  exact ⟨rfl, hS⟩
set_option maxHeartbeats 8000000 in
theorem SlicesContainsLint_ok  {w : World} {s : Sg} {R : List HP} {x0 : List Int} {a0 : Option Addr} {c0 : Nat} {x1 : Int} (hS : St w s (R)) (h0 : Sl 1 (RI .i64) s a0 c0 x0) {r : Bool} (hr : SlicesContainsLint x0 x1 = r) :
  Calls Tryz.prog 16 [.slice a0 x0.length c0, .int .i64 x1].toArray w (fun e w => e = .returned (.bool r) ∧ St w s (R)) := by
 refine enter Tryz.func16 rfl rfl rfl fun a hE => ?_
 rw [SlicesContainsLint] at hr
 refine W.seq (W.region ?_)
 refine vP hS hE (Gives.p hE rfl) rfl ?_; clear hE a; intro a hE
 refine WL.nil ?_
 refine W.seq (W.region ?_)
 refine vP hS hE (Gives.p hE rfl) rfl ?_; clear hE a; intro a hE
 refine vP hS hE (Gives.p hE rfl) rfl ?_; clear hE a; intro a hE
 refine WL.fnq hE (SlicesIndexLint_ok hS h0 rfl (r := SlicesIndexLint x0 x1)) (runs_plain rfl) bd34 rfl rfl rfl ?_
 clear hE hS; rintro e w ⟨rfl, hS⟩; refine ⟨_, rfl, ?_⟩; clear a; intro a hE
 refine vP hS hE (Gives.p hE rfl) rfl ?_; clear hE a; intro a hE
 refine vP hS hE (Gives.p hE rfl) rfl ?_; clear hE a; intro a hE
 refine WL.nil ?_
 refine W.ret ?_
 refine finG (fn := Tryz.f16) (rs := [.tmp 4]) (vs := [_]) hE rfl ⟨rfl, trivial⟩ ?_
 subst hr
 exact ⟨rfl, hS⟩
set_option maxHeartbeats 8000000 in
theorem FareCondholds_2_v1_ok  {self_FareCondholds : FareCond → FareTrip → Option Bool} (ih_FareCondholds : ∀ {w : World} {s : Sg} {R : List HP} {x0 : FareCond} {a0_0 : Option Addr} {c0_0 : Nat} {x1 : FareTrip} {a1_0 : Option Addr} {c1_0 : Nat} (_hS : St w s (R)) (_h0_0 : Sl 4 RFareCond s a0_0 c0_0 x0.Kids) (_h1_0 : Sl 1 (RI .i64) s a1_0 c1_0 x1.Zones) {r : Bool} (_hr : self_FareCondholds x0 x1 = some r), Calls Tryz.prog 45 [.agg (List.toArray [.int .i64 x0.Kind, .int .i64 x0.A, .int .i64 x0.B, .slice a0_0 x0.Kids.length c0_0]), .agg (List.toArray [.int .i64 x1.Day, .int .i64 x1.At, .int .i64 x1.Km, .int .i64 x1.Age, .bool x1.Card, .slice a1_0 x1.Zones.length c1_0])].toArray w (fun e w => e = .returned (.bool r) ∧ St w s (R))) {w : World} {s : Sg} {R : List HP} {pb0 : Nat} {x0 : FareCond} {a0_0 : Option Addr} {c0_0 : Nat} {y0 : FareTrip} {a_y0_5 : Option Addr} {c_y0_5 : Nat} (hS : St w s (pt pb0 (.cells #[.int .i64 y0.Day, .int .i64 y0.At, .int .i64 y0.Km, .int .i64 y0.Age, .bool y0.Card, .slice a_y0_5 y0.Zones.length c_y0_5] 54 (0, 0)) :: R)) (h0_0 : Sl 4 RFareCond s a0_0 c0_0 x0.Kids) (h_y0_5 : Sl 1 (RI .i64) s a_y0_5 c_y0_5 y0.Zones) {r : Bool} (hr : FareCondholds_2_v1 self_FareCondholds x0 y0 = some r) :
  Calls Tryz.prog 72 [.agg (List.toArray [.int .i64 x0.Kind, .int .i64 x0.A, .int .i64 x0.B, .slice a0_0 x0.Kids.length c0_0]), .pointer (some ⟨pb0, 0, none⟩)].toArray w (fun e w => e = .returned (.bool r) ∧ St w s (pt pb0 (.cells #[.int .i64 y0.Day, .int .i64 y0.At, .int .i64 y0.Km, .int .i64 y0.Age, .bool y0.Card, .slice a_y0_5 y0.Zones.length c_y0_5] 54 (0, 0)) :: R)) := by
 refine enter Tryz.func72 rfl rfl rfl fun a hE => ?_
 rw [FareCondholds_2_v1] at hr
 refine W.seq (W.region ?_)
 refine WL.box hE hS (runs_plain rfl) rfl rfl rfl ?_; clear hE hS a w; intro b51 a w hE hS
 refine vP hS hE (Gives.p hE rfl) rfl ?_; clear hE a; intro a hE
 refine WL.nil ?_
 refine W.seq (W.region ?_)
 refine vP hS hE (Gives.loadBA hE 0 rfl rfl ty97) rfl ?_; clear hE a; intro a hE
 refine vP hS hE (Gives.loadBA hE 1 rfl rfl ty54) rfl ?_; clear hE a; intro a hE
 obtain ⟨q52, hq53, hr⟩ := bindS hr
 have hc_ := ih_FareCondholds hS h0_0 h_y0_5 hq53
 refine WL.fnq hE (hc_) (runs_plain rfl) bd45 rfl rfl rfl ?_
 clear hE hS hc_; rintro e w ⟨rfl, hS⟩; refine ⟨_, rfl, ?_⟩; clear a; intro a hE
 refine vP hS hE (Gives.p hE rfl) rfl ?_; clear hE a; intro a hE
 refine vP hS hE (Gives.p hE rfl) rfl ?_; clear hE a; intro a hE
 refine WL.nil ?_
 refine W.ret ?_
 refine finG (fn := Tryz.f72) (rs := [.tmp 3]) (vs := [_]) hE rfl ⟨rfl, trivial⟩ ?_
 obtain rfl := Option.some.inj hr
 replace hS := hS.tail
 exact ⟨rfl, hS⟩
set_option maxHeartbeats 8000000 in
theorem SlicesIndexFuncLfareCond_v1_ok  {self_FareCondholds : FareCond → FareTrip → Option Bool} (ih_FareCondholds : ∀ {w : World} {s : Sg} {R : List HP} {x0 : FareCond} {a0_0 : Option Addr} {c0_0 : Nat} {x1 : FareTrip} {a1_0 : Option Addr} {c1_0 : Nat} (_hS : St w s (R)) (_h0_0 : Sl 4 RFareCond s a0_0 c0_0 x0.Kids) (_h1_0 : Sl 1 (RI .i64) s a1_0 c1_0 x1.Zones) {r : Bool} (_hr : self_FareCondholds x0 x1 = some r), Calls Tryz.prog 45 [.agg (List.toArray [.int .i64 x0.Kind, .int .i64 x0.A, .int .i64 x0.B, .slice a0_0 x0.Kids.length c0_0]), .agg (List.toArray [.int .i64 x1.Day, .int .i64 x1.At, .int .i64 x1.Km, .int .i64 x1.Age, .bool x1.Card, .slice a1_0 x1.Zones.length c1_0])].toArray w (fun e w => e = .returned (.bool r) ∧ St w s (R))) {w : World} {s : Sg} {R : List HP} {pb0 : Nat} {x0 : List FareCond} {a0 : Option Addr} {c0 : Nat} {y0 : FareTrip} {a_y0_5 : Option Addr} {c_y0_5 : Nat} (hS : St w s (pt pb0 (.cells #[.int .i64 y0.Day, .int .i64 y0.At, .int .i64 y0.Km, .int .i64 y0.Age, .bool y0.Card, .slice a_y0_5 y0.Zones.length c_y0_5] 54 (0, 0)) :: R)) (h0 : Sl 4 RFareCond s a0 c0 x0) (h_y0_5 : Sl 1 (RI .i64) s a_y0_5 c_y0_5 y0.Zones) {r : Int} (hr : SlicesIndexFuncLfareCond_v1 self_FareCondholds x0 y0 = some r) :
  Calls Tryz.prog 88 [.slice a0 x0.length c0, .func (.func 72) #[] #[.pointer (some ⟨pb0, 0, none⟩)]].toArray w (fun e w => e = .returned (.int .i64 r) ∧ St w s (pt pb0 (.cells #[.int .i64 y0.Day, .int .i64 y0.At, .int .i64 y0.Km, .int .i64 y0.Age, .bool y0.Card, .slice a_y0_5 y0.Zones.length c_y0_5] 54 (0, 0)) :: R)) := by
 refine enter Tryz.func88 rfl rfl rfl fun a hE => ?_
 rw [SlicesIndexFuncLfareCond_v1] at hr
 refine W.seq (W.region ?_)
 refine vP hS hE (Gives.p hE rfl) rfl ?_; clear hE a; intro a hE
 refine WL.nil ?_
 refine W.seq ?_
 refine W.seq (W.region ?_)
 refine vP hS hE (Gives.p hE rfl) rfl ?_; clear hE a; intro a hE
 refine vP hS hE (Gives.len hE rfl sl95) rfl ?_; clear hE a; intro a hE
 refine vP hS hE (Gives.p hE rfl) rfl ?_; clear hE a; intro a hE
 refine WL.nil ?_
 obtain ⟨q52, hq51, hr⟩ := bindS hr
 refine W.cut (fun a w => (.next ()) = q52 ∧ Rep a 19 [] ∧ St w s (pt pb0 (.cells #[.int .i64 y0.Day, .int .i64 y0.At, .int .i64 y0.Km, .int .i64 y0.Age, .bool y0.Card, .slice a_y0_5 y0.Zones.length c_y0_5] 54 (0, 0)) :: R)) ?_ ?_
 ·refine W.block ?_
  refine W.loop (fun m a w => ∃ (rest55 : List FareCond) (k53 : Nat), rest55.length = m ∧ x0.drop k53 = rest55 ∧ SlicesIndexFuncLfareCond_v1.loop1 y0 self_FareCondholds rest55 k53 = some q52 ∧ Rep a 19 [(0, .slice a0 x0.length c0), (1, .func (.func 72) #[] #[.pointer (some ⟨pb0, 0, none⟩)]), (7, .int .i64 ((x0).length : Int)), (8, .int .i64 ((k53 : Nat) : Int))] ∧ St w s (pt pb0 (.cells #[.int .i64 y0.Day, .int .i64 y0.At, .int .i64 y0.Km, .int .i64 y0.Age, .bool y0.Card, .slice a_y0_5 y0.Zones.length c_y0_5] 54 (0, 0)) :: R)) (m := x0.length) ⟨x0, 0, rfl, rfl, hq51, hE.pick _ ⟨rfl, rfl, rfl, rfl, trivial⟩, hS⟩ ?_
  clear hE hS a w hq51; rintro m59 a w ⟨rest55, k53, rfl, hd56, hq51, hE, hS⟩
  refine W.gen fun K62 hK62 => ?_
  rcases rest55 with _ | ⟨x54, rest55⟩
  ·have hlt57 := drop_nil hd56
   refine W.seq (W.region ?_)
   refine vP hS hE (Gives.p hE rfl) rfl ?_; clear hE a; intro a hE
   refine WL.nil ?_
   refine W.seq ?_
   refine W.condF hE rfl (decide_eq_false (by omega)) ?_
   subst hK62
   refine W.exit rfl ?_
   exact ⟨Option.some.inj hq51, hE.pick _ trivial, hS⟩
  ·obtain ⟨hlt57, hx58, hd56⟩ := drop_cons hd56
   rw [SlicesIndexFuncLfareCond_v1.loop1] at hq51
   refine W.seq (W.region ?_)
   refine vP hS hE (Gives.p hE rfl) rfl ?_; clear hE a; intro a hE
   refine WL.nil ?_
   refine W.seq ?_
   refine W.condT hE rfl (decide_eq_true (by omega)) ?_
   refine W.skip ?_
   refine W.seq ?_
   refine W.block ?_
   refine W.seq (W.region ?_)
   refine vP hS hE (Gives.p hE rfl) rfl ?_; clear hE a; intro a hE
   refine vP hS hE (Gives.p hE rfl) rfl ?_; clear hE a; intro a hE
   refine WL.nil ?_
   refine W.seq (W.region ?_)
   refine vP hS hE (Gives.p hE rfl) rfl ?_; clear hE a; intro a hE
   refine vP hS hE (Gives.p hE rfl) rfl ?_; clear hE a; intro a hE
   refine vP hS hE (Gives.p hE rfl) rfl ?_; clear hE a; intro a hE
   obtain ⟨cs63, hl64, hR65, hat66⟩ := h0.at hx58
   obtain ⟨a67, c68, rfl, h69⟩ := hR65.unf
   refine vP hS hE (Gives.idx hE k53 rfl rfl sl95 rfl hlt57 (h0.aok hlt57)) rfl ?_; clear hE a; intro a hE
   refine vP hS hE (Gives.loadA hE rfl (fun w h => hat66 w _ h) ty97) rfl ?_; clear hE a; intro a hE
   obtain ⟨q70, hq71, hq51⟩ := bindS hq51
   have hc_ := FareCondholds_2_v1_ok (y0 := y0) @ih_FareCondholds hS h69 h_y0_5 hq71
   refine WL.fnw hE (hc_) rfl (runs_plain rfl) bd72 rfl rfl rfl ?_
   clear hE hS hc_; rintro e w ⟨rfl, hS⟩; refine ⟨_, rfl, ?_⟩; clear a; intro a hE
   refine WL.nil ?_
   refine W.cond hE rfl (fun hc72 => ?_) (fun hc72 => ?_)
   ·replace hq51 := iteT hc72 hq51
    refine W.seq (W.region ?_)
    refine vP hS hE (Gives.p hE rfl) rfl ?_; clear hE a; intro a hE
    refine vP hS hE (Gives.p hE rfl) rfl ?_; clear hE a; intro a hE
    refine WL.nil ?_
    refine W.ret ?_
    subst hK62
    rw [← Option.some.inj hq51] at hr
    dsimp only at hr
    refine finG (fn := Tryz.f88) (rs := [.tmp 4]) (vs := [_]) hE rfl ⟨rfl, trivial⟩ ?_
    obtain rfl := Option.some.inj hr
    exact ⟨rfl, hS⟩
   ·replace hq51 := iteF hc72 hq51
    refine W.skip ?_
    refine W.region ?_
    refine vP hS hE (Gives.inc hE rfl (by have := h0.small; omega)) rfl ?_; clear hE a; intro a hE
    refine vP hS hE (Gives.p hE rfl) rfl ?_; clear hE a; intro a hE
    refine WL.nil ?_
    subst hK62
    exact ⟨rest55.length, Nat.lt_succ_self _, rest55, k53 + 1, rfl, hd56, hq51, hE.pick _ ⟨rfl, rfl, rfl, rfl, trivial⟩, hS⟩
 ·clear hE hS a w; rintro a w ⟨rfl, hE, hS⟩
  dsimp only at hr
  refine W.seq (W.region ?_)
  refine vP hS hE (Gives.p hE rfl) rfl ?_; clear hE a; intro a hE
  refine WL.nil ?_
  refine W.ret ?_
  refine finG (fn := Tryz.f88) (rs := [.tmp 4]) (vs := [_]) hE rfl ⟨rfl, trivial⟩ ?_
  obtain rfl := Option.some.inj hr
  exact ⟨rfl, hS⟩
set_option maxHeartbeats 8000000 in
theorem SlicesContainsFuncLfareCond_v1_ok  {self_FareCondholds : FareCond → FareTrip → Option Bool} (ih_FareCondholds : ∀ {w : World} {s : Sg} {R : List HP} {x0 : FareCond} {a0_0 : Option Addr} {c0_0 : Nat} {x1 : FareTrip} {a1_0 : Option Addr} {c1_0 : Nat} (_hS : St w s (R)) (_h0_0 : Sl 4 RFareCond s a0_0 c0_0 x0.Kids) (_h1_0 : Sl 1 (RI .i64) s a1_0 c1_0 x1.Zones) {r : Bool} (_hr : self_FareCondholds x0 x1 = some r), Calls Tryz.prog 45 [.agg (List.toArray [.int .i64 x0.Kind, .int .i64 x0.A, .int .i64 x0.B, .slice a0_0 x0.Kids.length c0_0]), .agg (List.toArray [.int .i64 x1.Day, .int .i64 x1.At, .int .i64 x1.Km, .int .i64 x1.Age, .bool x1.Card, .slice a1_0 x1.Zones.length c1_0])].toArray w (fun e w => e = .returned (.bool r) ∧ St w s (R))) {w : World} {s : Sg} {R : List HP} {pb0 : Nat} {x0 : List FareCond} {a0 : Option Addr} {c0 : Nat} {y0 : FareTrip} {a_y0_5 : Option Addr} {c_y0_5 : Nat} (hS : St w s (pt pb0 (.cells #[.int .i64 y0.Day, .int .i64 y0.At, .int .i64 y0.Km, .int .i64 y0.Age, .bool y0.Card, .slice a_y0_5 y0.Zones.length c_y0_5] 54 (0, 0)) :: R)) (h0 : Sl 4 RFareCond s a0 c0 x0) (h_y0_5 : Sl 1 (RI .i64) s a_y0_5 c_y0_5 y0.Zones) {r : Bool} (hr : SlicesContainsFuncLfareCond_v1 self_FareCondholds x0 y0 = some r) :
  Calls Tryz.prog 71 [.slice a0 x0.length c0, .func (.func 72) #[] #[.pointer (some ⟨pb0, 0, none⟩)]].toArray w (fun e w => e = .returned (.bool r) ∧ St w s (pt pb0 (.cells #[.int .i64 y0.Day, .int .i64 y0.At, .int .i64 y0.Km, .int .i64 y0.Age, .bool y0.Card, .slice a_y0_5 y0.Zones.length c_y0_5] 54 (0, 0)) :: R)) := by
 refine enter Tryz.func71 rfl rfl rfl fun a hE => ?_
 rw [SlicesContainsFuncLfareCond_v1] at hr
 refine W.seq (W.region ?_)
 refine vP hS hE (Gives.p hE rfl) rfl ?_; clear hE a; intro a hE
 refine WL.nil ?_
 refine W.seq (W.region ?_)
 refine vP hS hE (Gives.p hE rfl) rfl ?_; clear hE a; intro a hE
 refine vP hS hE (Gives.p hE rfl) rfl ?_; clear hE a; intro a hE
 obtain ⟨q51, hq52, hr⟩ := bindS hr
 have hc_ := SlicesIndexFuncLfareCond_v1_ok (y0 := y0) @ih_FareCondholds hS h0 h_y0_5 hq52
 refine WL.fnq hE (hc_) (runs_plain rfl) bd88 rfl rfl rfl ?_
 clear hE hS hc_; rintro e w ⟨rfl, hS⟩; refine ⟨_, rfl, ?_⟩; clear a; intro a hE
 refine vP hS hE (Gives.p hE rfl) rfl ?_; clear hE a; intro a hE
 refine vP hS hE (Gives.p hE rfl) rfl ?_; clear hE a; intro a hE
 refine WL.nil ?_
 refine W.ret ?_
 refine finG (fn := Tryz.f71) (rs := [.tmp 4]) (vs := [_]) hE rfl ⟨rfl, trivial⟩ ?_
 obtain rfl := Option.some.inj hr
 exact ⟨rfl, hS⟩
set_option maxHeartbeats 8000000 in
theorem FareCondholds_3_v1_ok  {self_FareCondholds : FareCond → FareTrip → Option Bool} (ih_FareCondholds : ∀ {w : World} {s : Sg} {R : List HP} {x0 : FareCond} {a0_0 : Option Addr} {c0_0 : Nat} {x1 : FareTrip} {a1_0 : Option Addr} {c1_0 : Nat} (_hS : St w s (R)) (_h0_0 : Sl 4 RFareCond s a0_0 c0_0 x0.Kids) (_h1_0 : Sl 1 (RI .i64) s a1_0 c1_0 x1.Zones) {r : Bool} (_hr : self_FareCondholds x0 x1 = some r), Calls Tryz.prog 45 [.agg (List.toArray [.int .i64 x0.Kind, .int .i64 x0.A, .int .i64 x0.B, .slice a0_0 x0.Kids.length c0_0]), .agg (List.toArray [.int .i64 x1.Day, .int .i64 x1.At, .int .i64 x1.Km, .int .i64 x1.Age, .bool x1.Card, .slice a1_0 x1.Zones.length c1_0])].toArray w (fun e w => e = .returned (.bool r) ∧ St w s (R))) {w : World} {s : Sg} {R : List HP} {pb0 : Nat} {x0 : FareCond} {a0_0 : Option Addr} {c0_0 : Nat} {y0 : FareTrip} {a_y0_5 : Option Addr} {c_y0_5 : Nat} (hS : St w s (pt pb0 (.cells #[.int .i64 y0.Day, .int .i64 y0.At, .int .i64 y0.Km, .int .i64 y0.Age, .bool y0.Card, .slice a_y0_5 y0.Zones.length c_y0_5] 54 (0, 0)) :: R)) (h0_0 : Sl 4 RFareCond s a0_0 c0_0 x0.Kids) (h_y0_5 : Sl 1 (RI .i64) s a_y0_5 c_y0_5 y0.Zones) {r : Bool} (hr : FareCondholds_3_v1 self_FareCondholds x0 y0 = some r) :
  Calls Tryz.prog 73 [.agg (List.toArray [.int .i64 x0.Kind, .int .i64 x0.A, .int .i64 x0.B, .slice a0_0 x0.Kids.length c0_0]), .pointer (some ⟨pb0, 0, none⟩)].toArray w (fun e w => e = .returned (.bool r) ∧ St w s (pt pb0 (.cells #[.int .i64 y0.Day, .int .i64 y0.At, .int .i64 y0.Km, .int .i64 y0.Age, .bool y0.Card, .slice a_y0_5 y0.Zones.length c_y0_5] 54 (0, 0)) :: R)) := by
 refine enter Tryz.func73 rfl rfl rfl fun a hE => ?_
 rw [FareCondholds_3_v1] at hr
 refine W.seq (W.region ?_)
 refine WL.box hE hS (runs_plain rfl) rfl rfl rfl ?_; clear hE hS a w; intro b51 a w hE hS
 refine vP hS hE (Gives.p hE rfl) rfl ?_; clear hE a; intro a hE
 refine WL.nil ?_
 refine W.seq (W.region ?_)
 refine vP hS hE (Gives.loadBA hE 0 rfl rfl ty97) rfl ?_; clear hE a; intro a hE
 refine vP hS hE (Gives.loadBA hE 1 rfl rfl ty54) rfl ?_; clear hE a; intro a hE
 obtain ⟨q52, hq53, hr⟩ := bindS hr
 have hc_ := ih_FareCondholds hS h0_0 h_y0_5 hq53
 refine WL.fnq hE (hc_) (runs_plain rfl) bd45 rfl rfl rfl ?_
 clear hE hS hc_; rintro e w ⟨rfl, hS⟩; refine ⟨_, rfl, ?_⟩; clear a; intro a hE
 refine vP hS hE (Gives.p hE rfl) rfl ?_; clear hE a; intro a hE
 refine WL.nil ?_
 refine W.ret ?_
 refine finG (fn := Tryz.f73) (rs := [.tmp 3]) (vs := [_]) hE rfl ⟨rfl, trivial⟩ ?_
 obtain rfl := Option.some.inj hr
 replace hS := hS.tail
 exact ⟨rfl, hS⟩
set_option maxHeartbeats 8000000 in
theorem SlicesIndexFuncLfareCond_v2_ok  {self_FareCondholds : FareCond → FareTrip → Option Bool} (ih_FareCondholds : ∀ {w : World} {s : Sg} {R : List HP} {x0 : FareCond} {a0_0 : Option Addr} {c0_0 : Nat} {x1 : FareTrip} {a1_0 : Option Addr} {c1_0 : Nat} (_hS : St w s (R)) (_h0_0 : Sl 4 RFareCond s a0_0 c0_0 x0.Kids) (_h1_0 : Sl 1 (RI .i64) s a1_0 c1_0 x1.Zones) {r : Bool} (_hr : self_FareCondholds x0 x1 = some r), Calls Tryz.prog 45 [.agg (List.toArray [.int .i64 x0.Kind, .int .i64 x0.A, .int .i64 x0.B, .slice a0_0 x0.Kids.length c0_0]), .agg (List.toArray [.int .i64 x1.Day, .int .i64 x1.At, .int .i64 x1.Km, .int .i64 x1.Age, .bool x1.Card, .slice a1_0 x1.Zones.length c1_0])].toArray w (fun e w => e = .returned (.bool r) ∧ St w s (R))) {w : World} {s : Sg} {R : List HP} {pb0 : Nat} {x0 : List FareCond} {a0 : Option Addr} {c0 : Nat} {y0 : FareTrip} {a_y0_5 : Option Addr} {c_y0_5 : Nat} (hS : St w s (pt pb0 (.cells #[.int .i64 y0.Day, .int .i64 y0.At, .int .i64 y0.Km, .int .i64 y0.Age, .bool y0.Card, .slice a_y0_5 y0.Zones.length c_y0_5] 54 (0, 0)) :: R)) (h0 : Sl 4 RFareCond s a0 c0 x0) (h_y0_5 : Sl 1 (RI .i64) s a_y0_5 c_y0_5 y0.Zones) {r : Int} (hr : SlicesIndexFuncLfareCond_v2 self_FareCondholds x0 y0 = some r) :
  Calls Tryz.prog 88 [.slice a0 x0.length c0, .func (.func 73) #[] #[.pointer (some ⟨pb0, 0, none⟩)]].toArray w (fun e w => e = .returned (.int .i64 r) ∧ St w s (pt pb0 (.cells #[.int .i64 y0.Day, .int .i64 y0.At, .int .i64 y0.Km, .int .i64 y0.Age, .bool y0.Card, .slice a_y0_5 y0.Zones.length c_y0_5] 54 (0, 0)) :: R)) := by
 refine enter Tryz.func88 rfl rfl rfl fun a hE => ?_
 rw [SlicesIndexFuncLfareCond_v2] at hr
 refine W.seq (W.region ?_)
 refine vP hS hE (Gives.p hE rfl) rfl ?_; clear hE a; intro a hE
 refine WL.nil ?_
 refine W.seq ?_
 refine W.seq (W.region ?_)
 refine vP hS hE (Gives.p hE rfl) rfl ?_; clear hE a; intro a hE
 refine vP hS hE (Gives.len hE rfl sl95) rfl ?_; clear hE a; intro a hE
 refine vP hS hE (Gives.p hE rfl) rfl ?_; clear hE a; intro a hE
 refine WL.nil ?_
 obtain ⟨q52, hq51, hr⟩ := bindS hr
 refine W.cut (fun a w => (.next ()) = q52 ∧ Rep a 19 [] ∧ St w s (pt pb0 (.cells #[.int .i64 y0.Day, .int .i64 y0.At, .int .i64 y0.Km, .int .i64 y0.Age, .bool y0.Card, .slice a_y0_5 y0.Zones.length c_y0_5] 54 (0, 0)) :: R)) ?_ ?_
 ·refine W.block ?_
  refine W.loop (fun m a w => ∃ (rest55 : List FareCond) (k53 : Nat), rest55.length = m ∧ x0.drop k53 = rest55 ∧ SlicesIndexFuncLfareCond_v2.loop1 y0 self_FareCondholds rest55 k53 = some q52 ∧ Rep a 19 [(0, .slice a0 x0.length c0), (1, .func (.func 73) #[] #[.pointer (some ⟨pb0, 0, none⟩)]), (7, .int .i64 ((x0).length : Int)), (8, .int .i64 ((k53 : Nat) : Int))] ∧ St w s (pt pb0 (.cells #[.int .i64 y0.Day, .int .i64 y0.At, .int .i64 y0.Km, .int .i64 y0.Age, .bool y0.Card, .slice a_y0_5 y0.Zones.length c_y0_5] 54 (0, 0)) :: R)) (m := x0.length) ⟨x0, 0, rfl, rfl, hq51, hE.pick _ ⟨rfl, rfl, rfl, rfl, trivial⟩, hS⟩ ?_
  clear hE hS a w hq51; rintro m59 a w ⟨rest55, k53, rfl, hd56, hq51, hE, hS⟩
  refine W.gen fun K62 hK62 => ?_
  rcases rest55 with _ | ⟨x54, rest55⟩
  ·have hlt57 := drop_nil hd56
   refine W.seq (W.region ?_)
   refine vP hS hE (Gives.p hE rfl) rfl ?_; clear hE a; intro a hE
   refine WL.nil ?_
   refine W.seq ?_
   refine W.condF hE rfl (decide_eq_false (by omega)) ?_
   subst hK62
   refine W.exit rfl ?_
   exact ⟨Option.some.inj hq51, hE.pick _ trivial, hS⟩
  ·obtain ⟨hlt57, hx58, hd56⟩ := drop_cons hd56
   rw [SlicesIndexFuncLfareCond_v2.loop1] at hq51
   refine W.seq (W.region ?_)
   refine vP hS hE (Gives.p hE rfl) rfl ?_; clear hE a; intro a hE
   refine WL.nil ?_
   refine W.seq ?_
   refine W.condT hE rfl (decide_eq_true (by omega)) ?_
   refine W.skip ?_
   refine W.seq ?_
   refine W.block ?_
   refine W.seq (W.region ?_)
   refine vP hS hE (Gives.p hE rfl) rfl ?_; clear hE a; intro a hE
   refine vP hS hE (Gives.p hE rfl) rfl ?_; clear hE a; intro a hE
   refine WL.nil ?_
   refine W.seq (W.region ?_)
   refine vP hS hE (Gives.p hE rfl) rfl ?_; clear hE a; intro a hE
   refine vP hS hE (Gives.p hE rfl) rfl ?_; clear hE a; intro a hE
   refine vP hS hE (Gives.p hE rfl) rfl ?_; clear hE a; intro a hE
   obtain ⟨cs63, hl64, hR65, hat66⟩ := h0.at hx58
   obtain ⟨a67, c68, rfl, h69⟩ := hR65.unf
   refine vP hS hE (Gives.idx hE k53 rfl rfl sl95 rfl hlt57 (h0.aok hlt57)) rfl ?_; clear hE a; intro a hE
   refine vP hS hE (Gives.loadA hE rfl (fun w h => hat66 w _ h) ty97) rfl ?_; clear hE a; intro a hE
   obtain ⟨q70, hq71, hq51⟩ := bindS hq51
   have hc_ := FareCondholds_3_v1_ok (y0 := y0) @ih_FareCondholds hS h69 h_y0_5 hq71
   refine WL.fnw hE (hc_) rfl (runs_plain rfl) bd73 rfl rfl rfl ?_
   clear hE hS hc_; rintro e w ⟨rfl, hS⟩; refine ⟨_, rfl, ?_⟩; clear a; intro a hE
   refine WL.nil ?_
   refine W.cond hE rfl (fun hc72 => ?_) (fun hc72 => ?_)
   ·replace hq51 := iteT hc72 hq51
    refine W.seq (W.region ?_)
    refine vP hS hE (Gives.p hE rfl) rfl ?_; clear hE a; intro a hE
    refine vP hS hE (Gives.p hE rfl) rfl ?_; clear hE a; intro a hE
    refine WL.nil ?_
    refine W.ret ?_
    subst hK62
    rw [← Option.some.inj hq51] at hr
    dsimp only at hr
    refine finG (fn := Tryz.f88) (rs := [.tmp 4]) (vs := [_]) hE rfl ⟨rfl, trivial⟩ ?_
    obtain rfl := Option.some.inj hr
    exact ⟨rfl, hS⟩
   ·replace hq51 := iteF hc72 hq51
    refine W.skip ?_
    refine W.region ?_
    refine vP hS hE (Gives.inc hE rfl (by have := h0.small; omega)) rfl ?_; clear hE a; intro a hE
    refine vP hS hE (Gives.p hE rfl) rfl ?_; clear hE a; intro a hE
    refine WL.nil ?_
    subst hK62
    exact ⟨rest55.length, Nat.lt_succ_self _, rest55, k53 + 1, rfl, hd56, hq51, hE.pick _ ⟨rfl, rfl, rfl, rfl, trivial⟩, hS⟩
 ·clear hE hS a w; rintro a w ⟨rfl, hE, hS⟩
  dsimp only at hr
  refine W.seq (W.region ?_)
  refine vP hS hE (Gives.p hE rfl) rfl ?_; clear hE a; intro a hE
  refine WL.nil ?_
  refine W.ret ?_
  refine finG (fn := Tryz.f88) (rs := [.tmp 4]) (vs := [_]) hE rfl ⟨rfl, trivial⟩ ?_
  obtain rfl := Option.some.inj hr
  exact ⟨rfl, hS⟩
set_option maxHeartbeats 8000000 in
theorem SlicesContainsFuncLfareCond_v2_ok  {self_FareCondholds : FareCond → FareTrip → Option Bool} (ih_FareCondholds : ∀ {w : World} {s : Sg} {R : List HP} {x0 : FareCond} {a0_0 : Option Addr} {c0_0 : Nat} {x1 : FareTrip} {a1_0 : Option Addr} {c1_0 : Nat} (_hS : St w s (R)) (_h0_0 : Sl 4 RFareCond s a0_0 c0_0 x0.Kids) (_h1_0 : Sl 1 (RI .i64) s a1_0 c1_0 x1.Zones) {r : Bool} (_hr : self_FareCondholds x0 x1 = some r), Calls Tryz.prog 45 [.agg (List.toArray [.int .i64 x0.Kind, .int .i64 x0.A, .int .i64 x0.B, .slice a0_0 x0.Kids.length c0_0]), .agg (List.toArray [.int .i64 x1.Day, .int .i64 x1.At, .int .i64 x1.Km, .int .i64 x1.Age, .bool x1.Card, .slice a1_0 x1.Zones.length c1_0])].toArray w (fun e w => e = .returned (.bool r) ∧ St w s (R))) {w : World} {s : Sg} {R : List HP} {pb0 : Nat} {x0 : List FareCond} {a0 : Option Addr} {c0 : Nat} {y0 : FareTrip} {a_y0_5 : Option Addr} {c_y0_5 : Nat} (hS : St w s (pt pb0 (.cells #[.int .i64 y0.Day, .int .i64 y0.At, .int .i64 y0.Km, .int .i64 y0.Age, .bool y0.Card, .slice a_y0_5 y0.Zones.length c_y0_5] 54 (0, 0)) :: R)) (h0 : Sl 4 RFareCond s a0 c0 x0) (h_y0_5 : Sl 1 (RI .i64) s a_y0_5 c_y0_5 y0.Zones) {r : Bool} (hr : SlicesContainsFuncLfareCond_v2 self_FareCondholds x0 y0 = some r) :
  Calls Tryz.prog 71 [.slice a0 x0.length c0, .func (.func 73) #[] #[.pointer (some ⟨pb0, 0, none⟩)]].toArray w (fun e w => e = .returned (.bool r) ∧ St w s (pt pb0 (.cells #[.int .i64 y0.Day, .int .i64 y0.At, .int .i64 y0.Km, .int .i64 y0.Age, .bool y0.Card, .slice a_y0_5 y0.Zones.length c_y0_5] 54 (0, 0)) :: R)) := by
 refine enter Tryz.func71 rfl rfl rfl fun a hE => ?_
 rw [SlicesContainsFuncLfareCond_v2] at hr
 refine W.seq (W.region ?_)
 refine vP hS hE (Gives.p hE rfl) rfl ?_; clear hE a; intro a hE
 refine WL.nil ?_
 refine W.seq (W.region ?_)
 refine vP hS hE (Gives.p hE rfl) rfl ?_; clear hE a; intro a hE
 refine vP hS hE (Gives.p hE rfl) rfl ?_; clear hE a; intro a hE
 obtain ⟨q51, hq52, hr⟩ := bindS hr
 have hc_ := SlicesIndexFuncLfareCond_v2_ok (y0 := y0) @ih_FareCondholds hS h0 h_y0_5 hq52
 refine WL.fnq hE (hc_) (runs_plain rfl) bd88 rfl rfl rfl ?_
 clear hE hS hc_; rintro e w ⟨rfl, hS⟩; refine ⟨_, rfl, ?_⟩; clear a; intro a hE
 refine vP hS hE (Gives.p hE rfl) rfl ?_; clear hE a; intro a hE
 refine vP hS hE (Gives.p hE rfl) rfl ?_; clear hE a; intro a hE
 refine WL.nil ?_
 refine W.ret ?_
 refine finG (fn := Tryz.f71) (rs := [.tmp 4]) (vs := [_]) hE rfl ⟨rfl, trivial⟩ ?_
 obtain rfl := Option.some.inj hr
 exact ⟨rfl, hS⟩
set_option maxHeartbeats 8000000 in
theorem FareCondholds_ok : ∀ {fu : Nat} {w : World} {s : Sg} {R : List HP} {x0 : FareCond} {a0_0 : Option Addr} {c0_0 : Nat} {x1 : FareTrip} {a1_0 : Option Addr} {c1_0 : Nat} (_hS : St w s (R)) (_h0_0 : Sl 4 RFareCond s a0_0 c0_0 x0.Kids) (_h1_0 : Sl 1 (RI .i64) s a1_0 c1_0 x1.Zones) {r : Bool} (_hr : FareCondholds fu x0 x1 = some r),
  Calls Tryz.prog 45 [.agg (List.toArray [.int .i64 x0.Kind, .int .i64 x0.A, .int .i64 x0.B, .slice a0_0 x0.Kids.length c0_0]), .agg (List.toArray [.int .i64 x1.Day, .int .i64 x1.At, .int .i64 x1.Km, .int .i64 x1.Age, .bool x1.Card, .slice a1_0 x1.Zones.length c1_0])].toArray w (fun e w => e = .returned (.bool r) ∧ St w s (R)) := by
 intro fu
 induction fu with
 | zero => intro w s R x0 a0_0 c0_0 x1 a1_0 c1_0 hS h0_0 h1_0 r hr; rw [FareCondholds] at hr; exact absurd hr (by simp)
 | succ fu ih_FareCondholds =>
  intro w s R x0 a0_0 c0_0 x1 a1_0 c1_0 hS h0_0 h1_0 r hr
  rw [FareCondholds] at hr
  generalize FareCondholds fu = self_FareCondholds at hr ih_FareCondholds
  refine enter Tryz.func45 rfl rfl rfl fun a hE => ?_
  refine W.seq (W.region ?_)
  refine WL.box hE hS (runs_plain rfl) rfl rfl rfl ?_; clear hE hS a w; intro b51 a w hE hS
  refine WL.box hE hS (runs_plain rfl) rfl rfl rfl ?_; clear hE hS a w; intro b52 a w hE hS
  refine vP hS hE (Gives.p hE rfl) rfl ?_; clear hE a; intro a hE
  refine WL.nil ?_
  refine W.seq (W.region ?_)
  refine vP hS hE (Gives.mkfn hE (vs := [.pointer (some ⟨b51, 0, none⟩)]) rfl) rfl ?_; clear hE a; intro a hE
  refine vP hS hE (Gives.p hE rfl) rfl ?_; clear hE a; intro a hE
  refine WL.nil ?_
  refine W.seq ?_
  refine W.seq (W.region ?_)
  refine vP hS hE (Gives.fld hE rfl fl97_0) rfl ?_; clear hE a; intro a hE
  refine vP hS hE (Gives.loadB hE 1 rfl rfl rfl ty3) rfl ?_; clear hE a; intro a hE
  refine WL.nil ?_
  refine W.block ?_
  refine W.seq (W.region ?_)
  refine vP hS hE (Gives.p hE rfl) rfl ?_; clear hE a; intro a hE
  refine vP hS hE (Gives.p hE rfl) rfl ?_; clear hE a; intro a hE
  refine WL.nil ?_
  refine W.cond hE rfl (fun hc53 => ?_) (fun hc53 => ?_)
  ·replace hr := iteT hc53 hr
   refine W.seq (W.region ?_)
   refine vP hS hE (Gives.fld hE rfl fl54_4) rfl ?_; clear hE a; intro a hE
   refine vP hS hE (Gives.loadB hE 0 rfl rfl rfl ty4) rfl ?_; clear hE a; intro a hE
   refine vP hS hE (Gives.p hE rfl) rfl ?_; clear hE a; intro a hE
   refine WL.nil ?_
   refine W.ret ?_
   refine finG (fn := Tryz.f45) (rs := [.tmp 4]) (vs := [_]) hE rfl ⟨rfl, trivial⟩ ?_
   obtain rfl := Option.some.inj hr
   replace hS := hS.tail
   replace hS := hS.tail
   exact ⟨rfl, hS⟩
  ·replace hr := iteF hc53 hr
   refine W.seq (W.region ?_)
   refine vP hS hE (Gives.p hE rfl) rfl ?_; clear hE a; intro a hE
   refine vP hS hE (Gives.p hE rfl) rfl ?_; clear hE a; intro a hE
   refine WL.nil ?_
   refine W.cond hE rfl (fun hc54 => ?_) (fun hc54 => ?_)
   ·replace hr := iteT hc54 hr
    refine W.seq (W.region ?_)
    refine vP hS hE (Gives.p hE rfl) rfl ?_; clear hE a; intro a hE
    refine vP hS hE (Gives.fld hE rfl fl54_3) rfl ?_; clear hE a; intro a hE
    refine vP hS hE (Gives.loadB hE 0 rfl rfl rfl ty3) rfl ?_; clear hE a; intro a hE
    replace hS := hS.front 1 rfl
    refine WL.fnw hE (FareCondholds_1_v1_ok (y0 := x0) hS h0_0 rfl (r := FareCondholds_1_v1 x1.Age x0)) rfl (runs_plain rfl) bd70 rfl rfl rfl ?_
    clear hE hS; rintro e w ⟨rfl, hS⟩; refine ⟨_, rfl, ?_⟩; clear a; intro a hE
    refine vP hS hE (Gives.p hE rfl) rfl ?_; clear hE a; intro a hE
    refine WL.nil ?_
    refine W.ret ?_
    refine finG (fn := Tryz.f45) (rs := [.tmp 4]) (vs := [_]) hE rfl ⟨rfl, trivial⟩ ?_
    obtain rfl := Option.some.inj hr
    replace hS := hS.tail
    replace hS := hS.tail
    exact ⟨rfl, hS⟩
   ·replace hr := iteF hc54 hr
    refine W.seq (W.region ?_)
    refine vP hS hE (Gives.p hE rfl) rfl ?_; clear hE a; intro a hE
    refine vP hS hE (Gives.p hE rfl) rfl ?_; clear hE a; intro a hE
    refine WL.nil ?_
    refine W.cond hE rfl (fun hc55 => ?_) (fun hc55 => ?_)
    ·replace hr := iteT hc55 hr
     refine W.seq (W.region ?_)
     refine vP hS hE (Gives.p hE rfl) rfl ?_; clear hE a; intro a hE
     refine vP hS hE (Gives.fld hE rfl fl54_1) rfl ?_; clear hE a; intro a hE
     refine vP hS hE (Gives.loadB hE 0 rfl rfl rfl ty3) rfl ?_; clear hE a; intro a hE
     replace hS := hS.front 1 rfl
     refine WL.fnw hE (FareCondholds_1_v1_ok (y0 := x0) hS h0_0 rfl (r := FareCondholds_1_v1 x1.At x0)) rfl (runs_plain rfl) bd70 rfl rfl rfl ?_
     clear hE hS; rintro e w ⟨rfl, hS⟩; refine ⟨_, rfl, ?_⟩; clear a; intro a hE
     refine vP hS hE (Gives.p hE rfl) rfl ?_; clear hE a; intro a hE
     refine WL.nil ?_
     refine W.ret ?_
     refine finG (fn := Tryz.f45) (rs := [.tmp 4]) (vs := [_]) hE rfl ⟨rfl, trivial⟩ ?_
     obtain rfl := Option.some.inj hr
     replace hS := hS.tail
     replace hS := hS.tail
     exact ⟨rfl, hS⟩
    ·replace hr := iteF hc55 hr
     refine W.seq (W.region ?_)
     refine vP hS hE (Gives.p hE rfl) rfl ?_; clear hE a; intro a hE
     refine vP hS hE (Gives.p hE rfl) rfl ?_; clear hE a; intro a hE
     refine WL.nil ?_
     refine W.cond hE rfl (fun hc56 => ?_) (fun hc56 => ?_)
     ·replace hr := iteT hc56 hr
      refine W.seq (W.region ?_)
      refine vP hS hE (Gives.p hE rfl) rfl ?_; clear hE a; intro a hE
      refine vP hS hE (Gives.fld hE rfl fl54_2) rfl ?_; clear hE a; intro a hE
      refine vP hS hE (Gives.loadB hE 0 rfl rfl rfl ty3) rfl ?_; clear hE a; intro a hE
      replace hS := hS.front 1 rfl
      refine WL.fnw hE (FareCondholds_1_v1_ok (y0 := x0) hS h0_0 rfl (r := FareCondholds_1_v1 x1.Km x0)) rfl (runs_plain rfl) bd70 rfl rfl rfl ?_
      clear hE hS; rintro e w ⟨rfl, hS⟩; refine ⟨_, rfl, ?_⟩; clear a; intro a hE
      refine vP hS hE (Gives.p hE rfl) rfl ?_; clear hE a; intro a hE
      refine WL.nil ?_
      refine W.ret ?_
      refine finG (fn := Tryz.f45) (rs := [.tmp 4]) (vs := [_]) hE rfl ⟨rfl, trivial⟩ ?_
      obtain rfl := Option.some.inj hr
      replace hS := hS.tail
      replace hS := hS.tail
      exact ⟨rfl, hS⟩
     ·replace hr := iteF hc56 hr
      refine W.seq (W.region ?_)
      refine vP hS hE (Gives.p hE rfl) rfl ?_; clear hE a; intro a hE
      refine vP hS hE (Gives.p hE rfl) rfl ?_; clear hE a; intro a hE
      refine WL.nil ?_
      refine W.cond hE rfl (fun hc57 => ?_) (fun hc57 => ?_)
      ·replace hr := iteT hc57 hr
       refine W.seq (W.region ?_)
       refine vP hS hE (Gives.p hE rfl) rfl ?_; clear hE a; intro a hE
       refine vP hS hE (Gives.fld hE rfl fl54_5) rfl ?_; clear hE a; intro a hE
       refine vP hS hE (Gives.loadB hE 0 rfl rfl rfl ty37) rfl ?_; clear hE a; intro a hE
       refine vP hS hE (Gives.len hE rfl sl37) rfl ?_; clear hE a; intro a hE
       replace hS := hS.front 1 rfl
       refine WL.fnw hE (FareCondholds_1_v1_ok (y0 := x0) hS h0_0 rfl (r := FareCondholds_1_v1 ((x1.Zones).length : Int) x0)) rfl (runs_plain rfl) bd70 rfl rfl rfl ?_
       clear hE hS; rintro e w ⟨rfl, hS⟩; refine ⟨_, rfl, ?_⟩; clear a; intro a hE
       refine vP hS hE (Gives.p hE rfl) rfl ?_; clear hE a; intro a hE
       refine WL.nil ?_
       refine W.ret ?_
       refine finG (fn := Tryz.f45) (rs := [.tmp 4]) (vs := [_]) hE rfl ⟨rfl, trivial⟩ ?_
       obtain rfl := Option.some.inj hr
       replace hS := hS.tail
       replace hS := hS.tail
       exact ⟨rfl, hS⟩
      ·replace hr := iteF hc57 hr
       refine W.seq (W.region ?_)
       refine vP hS hE (Gives.p hE rfl) rfl ?_; clear hE a; intro a hE
       refine vP hS hE (Gives.p hE rfl) rfl ?_; clear hE a; intro a hE
       refine WL.nil ?_
       refine W.cond hE rfl (fun hc58 => ?_) (fun hc58 => ?_)
       ·replace hr := iteT hc58 hr
        refine W.seq (W.region ?_)
        refine vP hS hE (Gives.fld hE rfl fl54_5) rfl ?_; clear hE a; intro a hE
        refine vP hS hE (Gives.loadB hE 0 rfl rfl rfl ty37) rfl ?_; clear hE a; intro a hE
        refine vP hS hE (Gives.fld hE rfl fl97_1) rfl ?_; clear hE a; intro a hE
        refine vP hS hE (Gives.loadB hE 1 rfl rfl rfl ty3) rfl ?_; clear hE a; intro a hE
        refine WL.fnq hE (SlicesContainsLint_ok hS h1_0 rfl (r := SlicesContainsLint x1.Zones x0.A)) (runs_plain rfl) bd16 rfl rfl rfl ?_
        clear hE hS; rintro e w ⟨rfl, hS⟩; refine ⟨_, rfl, ?_⟩; clear a; intro a hE
        refine vP hS hE (Gives.p hE rfl) rfl ?_; clear hE a; intro a hE
        refine WL.nil ?_
        refine W.ret ?_
        refine finG (fn := Tryz.f45) (rs := [.tmp 4]) (vs := [_]) hE rfl ⟨rfl, trivial⟩ ?_
        obtain rfl := Option.some.inj hr
        replace hS := hS.tail
        replace hS := hS.tail
        exact ⟨rfl, hS⟩
       ·replace hr := iteF hc58 hr
        refine W.seq (W.region ?_)
        refine vP hS hE (Gives.p hE rfl) rfl ?_; clear hE a; intro a hE
        refine vP hS hE (Gives.p hE rfl) rfl ?_; clear hE a; intro a hE
        refine WL.nil ?_
        refine W.cond hE rfl (fun hc59 => ?_) (fun hc59 => ?_)
        ·replace hr := iteT hc59 hr
         refine W.seq ?_
         refine W.regionQ (C := fun w => St w s (pt b52 (.cells #[.int .i64 x1.Day, .int .i64 x1.At, .int .i64 x1.Km, .int .i64 x1.Age, .bool x1.Card, .slice a1_0 x1.Zones.length c1_0] 54 (0, 0)) :: pt b51 (.cells #[.int .i64 x0.Kind, .int .i64 x0.A, .int .i64 x0.B, .slice a0_0 x0.Kids.length c0_0] 97 (0, 0)) :: R)) mixed (by kernel_rfl) hS.drew ?_
         refine qP hE (Gives.fld hE rfl fl54_5) rfl ?_; clear hE a; intro a hE
         refine qP hE (Gives.loadB hE 0 rfl rfl rfl ty37) rfl ?_; clear hE a; intro a hE
         obtain ⟨x60, hx61, hr⟩ := bindS hr
         obtain ⟨hi62, hlt63, hy64⟩ := gx_some hx61
         obtain ⟨cs65, hl66, hR67, hat68⟩ := h1_0.at hy64
         subst hR67
         refine qP hE (Gives.idx hE ((0 : Int)).toNat rfl rfl sl37 hi62 hlt63 (h1_0.aok hlt63)) rfl ?_; clear hE a; intro a hE
         refine qP hE (Gives.load1 hE rfl (fun w h => hat68 w _ h) ty3) rfl ?_; clear hE a; intro a hE
         refine qP hE (Gives.fld hE rfl fl97_1) rfl ?_; clear hE a; intro a hE
         refine qP hE (Gives.loadB hE 1 rfl rfl rfl ty3) rfl ?_; clear hE a; intro a hE
         refine qP hE (Gives.p hE rfl) rfl ?_; clear hE a; intro a hE
         refine qP hE (Gives.p hE rfl) rfl ?_; clear hE a; intro a hE
         refine QL.nil ?_; clear hS w; intro w hS
         refine W.ret ?_
         refine finG (fn := Tryz.f45) (rs := [.tmp 4]) (vs := [_]) hE rfl ⟨rfl, trivial⟩ ?_
         obtain rfl := Option.some.inj hr
         replace hS := hS.tail
         replace hS := hS.tail
         exact ⟨rfl, hS⟩
        ·replace hr := iteF hc59 hr
         refine W.seq (W.region ?_)
         refine vP hS hE (Gives.p hE rfl) rfl ?_; clear hE a; intro a hE
         refine vP hS hE (Gives.p hE rfl) rfl ?_; clear hE a; intro a hE
         refine WL.nil ?_
         refine W.cond hE rfl (fun hc69 => ?_) (fun hc69 => ?_)
         ·replace hr := iteT hc69 hr
          refine W.seq ?_
          refine W.regionQ (C := fun w => St w s (pt b52 (.cells #[.int .i64 x1.Day, .int .i64 x1.At, .int .i64 x1.Km, .int .i64 x1.Age, .bool x1.Card, .slice a1_0 x1.Zones.length c1_0] 54 (0, 0)) :: pt b51 (.cells #[.int .i64 x0.Kind, .int .i64 x0.A, .int .i64 x0.B, .slice a0_0 x0.Kids.length c0_0] 97 (0, 0)) :: R)) mixed (by kernel_rfl) hS.drew ?_
          refine qP hE (Gives.fld hE rfl fl54_5) rfl ?_; clear hE a; intro a hE
          refine qP hE (Gives.loadB hE 0 rfl rfl rfl ty37) rfl ?_; clear hE a; intro a hE
          refine qP hE (Gives.fld hE rfl fl54_5) rfl ?_; clear hE a; intro a hE
          refine qP hE (Gives.loadB hE 0 rfl rfl rfl ty37) rfl ?_; clear hE a; intro a hE
          refine qP hE (Gives.len hE rfl sl37) rfl ?_; clear hE a; intro a hE
          refine qP hE (Gives.p hE rfl) rfl ?_; clear hE a; intro a hE
          obtain ⟨x70, hx71, hr⟩ := bindS hr
          obtain ⟨hi72, hlt73, hy74⟩ := gx_some hx71
          obtain ⟨cs75, hl76, hR77, hat78⟩ := h1_0.at hy74
          subst hR77
          refine qP hE (Gives.idx hE (w64 (((x1.Zones).length : Int) - 1)).toNat rfl rfl sl37 hi72 hlt73 (h1_0.aok hlt73)) rfl ?_; clear hE a; intro a hE
          refine qP hE (Gives.load1 hE rfl (fun w h => hat78 w _ h) ty3) rfl ?_; clear hE a; intro a hE
          refine qP hE (Gives.fld hE rfl fl97_1) rfl ?_; clear hE a; intro a hE
          refine qP hE (Gives.loadB hE 1 rfl rfl rfl ty3) rfl ?_; clear hE a; intro a hE
          refine qP hE (Gives.p hE rfl) rfl ?_; clear hE a; intro a hE
          refine qP hE (Gives.p hE rfl) rfl ?_; clear hE a; intro a hE
          refine QL.nil ?_; clear hS w; intro w hS
          refine W.ret ?_
          refine finG (fn := Tryz.f45) (rs := [.tmp 4]) (vs := [_]) hE rfl ⟨rfl, trivial⟩ ?_
          obtain rfl := Option.some.inj hr
          replace hS := hS.tail
          replace hS := hS.tail
          exact ⟨rfl, hS⟩
         ·replace hr := iteF hc69 hr
          refine W.seq (W.region ?_)
          refine vP hS hE (Gives.p hE rfl) rfl ?_; clear hE a; intro a hE
          refine vP hS hE (Gives.p hE rfl) rfl ?_; clear hE a; intro a hE
          refine WL.nil ?_
          refine W.cond hE rfl (fun hc79 => ?_) (fun hc79 => ?_)
          ·replace hr := iteT hc79 hr
           refine W.seq ?_
           refine W.regionQ (C := fun w => St w s (pt b52 (.cells #[.int .i64 x1.Day, .int .i64 x1.At, .int .i64 x1.Km, .int .i64 x1.Age, .bool x1.Card, .slice a1_0 x1.Zones.length c1_0] 54 (0, 0)) :: pt b51 (.cells #[.int .i64 x0.Kind, .int .i64 x0.A, .int .i64 x0.B, .slice a0_0 x0.Kids.length c0_0] 97 (0, 0)) :: R)) mixed (by kernel_rfl) hS.drew ?_
           refine qP hE (Gives.fld hE rfl fl97_3) rfl ?_; clear hE a; intro a hE
           refine qP hE (Gives.loadB hE 1 rfl rfl rfl ty95) rfl ?_; clear hE a; intro a hE
           obtain ⟨x80, hx81, hr⟩ := bindS hr
           obtain ⟨hi82, hlt83, hy84⟩ := gx_some hx81
           obtain ⟨cs85, hl86, hR87, hat88⟩ := h0_0.at hy84
           obtain ⟨a89, c90, rfl, h91⟩ := hR87.unf
           refine qP hE (Gives.idx hE ((0 : Int)).toNat rfl rfl sl95 hi82 hlt83 (h0_0.aok hlt83)) rfl ?_; clear hE a; intro a hE
           refine qP hE (Gives.loadA hE rfl (fun w h => hat88 w _ h) ty97) rfl ?_; clear hE a; intro a hE
           refine qP hE (Gives.loadBA hE 0 rfl rfl ty54) rfl ?_; clear hE a; intro a hE
           obtain ⟨q92, hq93, hr⟩ := bindS hr
           refine QL.fnq hE (fun w hS => ih_FareCondholds hS h91 h1_0 hq93) (runs_plain rfl) bd45 rfl rfl rfl ?_; clear hE a; intro a hE
           refine qP hE (Gives.p hE rfl) rfl ?_; clear hE a; intro a hE
           refine qP hE (Gives.p hE rfl) rfl ?_; clear hE a; intro a hE
           refine QL.nil ?_; clear hS w; intro w hS
           refine W.ret ?_
           refine finG (fn := Tryz.f45) (rs := [.tmp 4]) (vs := [_]) hE rfl ⟨rfl, trivial⟩ ?_
           obtain rfl := Option.some.inj hr
           replace hS := hS.tail
           replace hS := hS.tail
           exact ⟨rfl, hS⟩
          ·replace hr := iteF hc79 hr
           refine W.seq (W.region ?_)
           refine vP hS hE (Gives.p hE rfl) rfl ?_; clear hE a; intro a hE
           refine vP hS hE (Gives.p hE rfl) rfl ?_; clear hE a; intro a hE
           refine WL.nil ?_
           refine W.cond hE rfl (fun hc94 => ?_) (fun hc94 => ?_)
           ·replace hr := iteT hc94 hr
            refine W.seq (W.region ?_)
            refine vP hS hE (Gives.fld hE rfl fl97_3) rfl ?_; clear hE a; intro a hE
            refine vP hS hE (Gives.loadB hE 1 rfl rfl rfl ty95) rfl ?_; clear hE a; intro a hE
            refine vP hS hE (Gives.mkfn hE (vs := [.pointer (some ⟨b52, 0, none⟩)]) rfl) rfl ?_; clear hE a; intro a hE
            obtain ⟨q95, hq96, hr⟩ := bindS hr
            have hc_ := SlicesContainsFuncLfareCond_v1_ok (y0 := x1) @ih_FareCondholds hS h0_0 h1_0 hq96
            refine WL.fnq hE (hc_) (runs_plain rfl) bd71 rfl rfl rfl ?_
            clear hE hS hc_; rintro e w ⟨rfl, hS⟩; refine ⟨_, rfl, ?_⟩; clear a; intro a hE
            refine vP hS hE (Gives.p hE rfl) rfl ?_; clear hE a; intro a hE
            refine vP hS hE (Gives.p hE rfl) rfl ?_; clear hE a; intro a hE
            refine WL.nil ?_
            refine W.ret ?_
            refine finG (fn := Tryz.f45) (rs := [.tmp 4]) (vs := [_]) hE rfl ⟨rfl, trivial⟩ ?_
            obtain rfl := Option.some.inj hr
            replace hS := hS.tail
            replace hS := hS.tail
            exact ⟨rfl, hS⟩
           ·replace hr := iteF hc94 hr
            refine W.seq (W.region ?_)
            refine vP hS hE (Gives.p hE rfl) rfl ?_; clear hE a; intro a hE
            refine vP hS hE (Gives.p hE rfl) rfl ?_; clear hE a; intro a hE
            refine WL.nil ?_
            refine W.cond hE rfl (fun hc97 => ?_) (fun hc97 => ?_)
            ·replace hr := iteT hc97 hr
             refine W.seq (W.region ?_)
             refine vP hS hE (Gives.fld hE rfl fl97_3) rfl ?_; clear hE a; intro a hE
             refine vP hS hE (Gives.loadB hE 1 rfl rfl rfl ty95) rfl ?_; clear hE a; intro a hE
             refine vP hS hE (Gives.mkfn hE (vs := [.pointer (some ⟨b52, 0, none⟩)]) rfl) rfl ?_; clear hE a; intro a hE
             obtain ⟨q98, hq99, hr⟩ := bindS hr
             have hc_ := SlicesContainsFuncLfareCond_v2_ok (y0 := x1) @ih_FareCondholds hS h0_0 h1_0 hq99
             refine WL.fnq hE (hc_) (runs_plain rfl) bd71 rfl rfl rfl ?_
             clear hE hS hc_; rintro e w ⟨rfl, hS⟩; refine ⟨_, rfl, ?_⟩; clear a; intro a hE
             refine vP hS hE (Gives.p hE rfl) rfl ?_; clear hE a; intro a hE
             refine WL.nil ?_
             refine W.ret ?_
             refine finG (fn := Tryz.f45) (rs := [.tmp 4]) (vs := [_]) hE rfl ⟨rfl, trivial⟩ ?_
             obtain rfl := Option.some.inj hr
             replace hS := hS.tail
             replace hS := hS.tail
             exact ⟨rfl, hS⟩
            ·replace hr := iteF hc97 hr
             refine W.skip ?_
             refine W.seq (W.region ?_)
             refine vP hS hE (Gives.p hE rfl) rfl ?_; clear hE a; intro a hE
             refine WL.nil ?_
             refine W.ret ?_
             refine finG (fn := Tryz.f45) (rs := [.tmp 4]) (vs := [_]) hE rfl ⟨rfl, trivial⟩ ?_
             obtain rfl := Option.some.inj hr
             replace hS := hS.tail
             replace hS := hS.tail
             exact ⟨rfl, hS⟩
set_option maxHeartbeats 8000000 in
theorem FareRulechange_ok  {w : World} {s : Sg} {R : List HP} {x0 : FareRule} {a0_0 : Option Addr} {c0_0 : Nat} {x1 : Int} (hS : St w s (R)) (_h0_0 : Sl 4 RFareCond s a0_0 c0_0 x0.If.Kids) {r : Int} (hr : FareRulechange x0 x1 = r) :
  Calls Tryz.prog 46 [.agg (List.toArray [.int .i64 x0.If.Kind, .int .i64 x0.If.A, .int .i64 x0.If.B, .slice a0_0 x0.If.Kids.length c0_0, .int .i64 x0.Do, .int .i64 x0.N, .bool x0.Stop]), .int .i64 x1].toArray w (fun e w => e = .returned (.int .i64 r) ∧ St w s (R)) := by
 refine enter Tryz.func46 rfl rfl rfl fun a hE => ?_
 rw [FareRulechange] at hr
 refine W.seq (W.region ?_)
 refine WL.box hE hS (runs_plain rfl) rfl rfl rfl ?_; clear hE hS a w; intro b51 a w hE hS
 refine vP hS hE (Gives.p hE rfl) rfl ?_; clear hE a; intro a hE
 refine WL.nil ?_
 refine W.seq ?_
 refine W.seq (W.region ?_)
 refine vP hS hE (Gives.fld hE rfl fl99_1) rfl ?_; clear hE a; intro a hE
 refine vP hS hE (Gives.loadB hE 0 rfl rfl rfl ty3) rfl ?_; clear hE a; intro a hE
 refine WL.nil ?_
 refine W.block ?_
 refine W.seq (W.region ?_)
 refine vP hS hE (Gives.p hE rfl) rfl ?_; clear hE a; intro a hE
 refine vP hS hE (Gives.p hE rfl) rfl ?_; clear hE a; intro a hE
 refine WL.nil ?_
 refine W.cond hE rfl (fun hc52 => ?_) (fun hc52 => ?_)
 ·replace hr := iteT hc52 hr
  refine W.seq (W.region ?_)
  refine vP hS hE (Gives.p hE rfl) rfl ?_; clear hE a; intro a hE
  refine vP hS hE (Gives.fld hE rfl fl99_2) rfl ?_; clear hE a; intro a hE
  refine vP hS hE (Gives.loadB hE 0 rfl rfl rfl ty3) rfl ?_; clear hE a; intro a hE
  refine vP hS hE (Gives.p hE rfl) rfl ?_; clear hE a; intro a hE
  refine vP hS hE (Gives.p hE rfl) rfl ?_; clear hE a; intro a hE
  refine vP hS hE (Gives.min2 hE rfl rfl) rfl ?_; clear hE a; intro a hE
  refine vP hS hE (Gives.p hE rfl) rfl ?_; clear hE a; intro a hE
  refine WL.nil ?_
  refine W.ret ?_
  refine finG (fn := Tryz.f46) (rs := [.tmp 4]) (vs := [_]) hE rfl ⟨rfl, trivial⟩ ?_
  subst hr
  replace hS := hS.tail
  exact ⟨rfl, hS⟩
 ·replace hr := iteF hc52 hr
  refine W.seq (W.region ?_)
  refine vP hS hE (Gives.p hE rfl) rfl ?_; clear hE a; intro a hE
  refine vP hS hE (Gives.p hE rfl) rfl ?_; clear hE a; intro a hE
  refine WL.nil ?_
  refine W.cond hE rfl (fun hc53 => ?_) (fun hc53 => ?_)
  ·replace hr := iteT hc53 hr
   refine W.seq (W.region ?_)
   refine vP hS hE (Gives.p hE rfl) rfl ?_; clear hE a; intro a hE
   refine vP hS hE (Gives.fld hE rfl fl99_2) rfl ?_; clear hE a; intro a hE
   refine vP hS hE (Gives.loadB hE 0 rfl rfl rfl ty3) rfl ?_; clear hE a; intro a hE
   refine vP hS hE (Gives.p hE rfl) rfl ?_; clear hE a; intro a hE
   refine vP hS hE (Gives.max2 hE rfl rfl) rfl ?_; clear hE a; intro a hE
   refine vP hS hE (Gives.p hE rfl) rfl ?_; clear hE a; intro a hE
   refine WL.nil ?_
   refine W.ret ?_
   refine finG (fn := Tryz.f46) (rs := [.tmp 4]) (vs := [_]) hE rfl ⟨rfl, trivial⟩ ?_
   subst hr
   replace hS := hS.tail
   exact ⟨rfl, hS⟩
  ·replace hr := iteF hc53 hr
   refine W.seq (W.region ?_)
   refine vP hS hE (Gives.p hE rfl) rfl ?_; clear hE a; intro a hE
   refine vP hS hE (Gives.p hE rfl) rfl ?_; clear hE a; intro a hE
   refine WL.nil ?_
   refine W.cond hE rfl (fun hc54 => ?_) (fun hc54 => ?_)
   ·replace hr := iteT hc54 hr
    refine W.seq (W.region ?_)
    refine vP hS hE (Gives.p hE rfl) rfl ?_; clear hE a; intro a hE
    refine vP hS hE (Gives.fld hE rfl fl99_2) rfl ?_; clear hE a; intro a hE
    refine vP hS hE (Gives.loadB hE 0 rfl rfl rfl ty3) rfl ?_; clear hE a; intro a hE
    refine vP hS hE (Gives.p hE rfl) rfl ?_; clear hE a; intro a hE
    refine vP hS hE (Gives.min2 hE rfl rfl) rfl ?_; clear hE a; intro a hE
    refine vP hS hE (Gives.p hE rfl) rfl ?_; clear hE a; intro a hE
    refine WL.nil ?_
    refine W.ret ?_
    refine finG (fn := Tryz.f46) (rs := [.tmp 4]) (vs := [_]) hE rfl ⟨rfl, trivial⟩ ?_
    subst hr
    replace hS := hS.tail
    exact ⟨rfl, hS⟩
   ·replace hr := iteF hc54 hr
    refine W.seq (W.region ?_)
    refine vP hS hE (Gives.p hE rfl) rfl ?_; clear hE a; intro a hE
    refine vP hS hE (Gives.p hE rfl) rfl ?_; clear hE a; intro a hE
    refine WL.nil ?_
    refine W.cond hE rfl (fun hc55 => ?_) (fun hc55 => ?_)
    ·replace hr := iteT hc55 hr
     refine W.seq (W.region ?_)
     refine vP hS hE (Gives.fld hE rfl fl99_2) rfl ?_; clear hE a; intro a hE
     refine vP hS hE (Gives.loadB hE 0 rfl rfl rfl ty3) rfl ?_; clear hE a; intro a hE
     refine vP hS hE (Gives.p hE rfl) rfl ?_; clear hE a; intro a hE
     refine WL.nil ?_
     refine W.ret ?_
     refine finG (fn := Tryz.f46) (rs := [.tmp 4]) (vs := [_]) hE rfl ⟨rfl, trivial⟩ ?_
     subst hr
     replace hS := hS.tail
     exact ⟨rfl, hS⟩
    ·replace hr := iteF hc55 hr
     refine W.seq (W.region ?_)
     refine vP hS hE (Gives.p hE rfl) rfl ?_; clear hE a; intro a hE
     refine vP hS hE (Gives.p hE rfl) rfl ?_; clear hE a; intro a hE
     refine WL.nil ?_
     refine W.cond hE rfl (fun hc56 => ?_) (fun hc56 => ?_)
     ·replace hr := iteT hc56 hr
      refine W.seq (W.region ?_)
      refine vP hS hE (Gives.p hE rfl) rfl ?_; clear hE a; intro a hE
      refine vP hS hE (Gives.fld hE rfl fl99_2) rfl ?_; clear hE a; intro a hE
      refine vP hS hE (Gives.loadB hE 0 rfl rfl rfl ty3) rfl ?_; clear hE a; intro a hE
      refine vP hS hE (Gives.min2 hE rfl rfl) rfl ?_; clear hE a; intro a hE
      refine vP hS hE (Gives.p hE rfl) rfl ?_; clear hE a; intro a hE
      refine WL.nil ?_
      refine W.ret ?_
      refine finG (fn := Tryz.f46) (rs := [.tmp 4]) (vs := [_]) hE rfl ⟨rfl, trivial⟩ ?_
      subst hr
      replace hS := hS.tail
      exact ⟨rfl, hS⟩
     ·replace hr := iteF hc56 hr
      refine W.skip ?_
      refine W.seq (W.region ?_)
      refine vP hS hE (Gives.p hE rfl) rfl ?_; clear hE a; intro a hE
      refine vP hS hE (Gives.fld hE rfl fl99_2) rfl ?_; clear hE a; intro a hE
      refine vP hS hE (Gives.loadB hE 0 rfl rfl rfl ty3) rfl ?_; clear hE a; intro a hE
      refine vP hS hE (Gives.max2 hE rfl rfl) rfl ?_; clear hE a; intro a hE
      refine vP hS hE (Gives.p hE rfl) rfl ?_; clear hE a; intro a hE
      refine WL.nil ?_
      refine W.ret ?_
      refine finG (fn := Tryz.f46) (rs := [.tmp 4]) (vs := [_]) hE rfl ⟨rfl, trivial⟩ ?_
      subst hr
      replace hS := hS.tail
      exact ⟨rfl, hS⟩
set_option maxHeartbeats 8000000 in
theorem FareTariffprice_ok {fu : Nat}  {w : World} {s : Sg} {R : List HP} {x0 : FareTariff} {a0_0 : Option Addr} {c0_0 : Nat} {a0_1 : Option Addr} {c0_1 : Nat} {x1 : FareTrip} {a1_0 : Option Addr} {c1_0 : Nat} (hS : St w s (R)) (h0_0 : Sl 2 RFareBand s a0_0 c0_0 x0.Bands) (h0_1 : Sl 7 RFareRule s a0_1 c0_1 x0.Rules) (h1_0 : Sl 1 (RI .i64) s a1_0 c1_0 x1.Zones) {r : Int × (List Int)} (hr : FareTariffprice fu x0 x1 = some r) :
  Calls Tryz.prog 25 [.agg (List.toArray [.bool x0.ByKm, .slice a0_0 x0.Bands.length c0_0, .int .i64 x0.Round, .slice a0_1 x0.Rules.length c0_1]), .agg (List.toArray [.int .i64 x1.Day, .int .i64 x1.At, .int .i64 x1.Km, .int .i64 x1.Age, .bool x1.Card, .slice a1_0 x1.Zones.length c1_0])].toArray w (fun e w => ∃ (a1 : Option Addr) (c1 n1 : Nat) (cs1 : List Value), e = .returned (.tuple #[.int .i64 r.1, .slice a1 n1 c1]) ∧ Ev 1 (RI .i64) s cs1 r.2 ∧ r.2.length = n1 ∧ St w s (vecC 3 1 a1 c1 n1 cs1 :: R)) := by
 refine enter Tryz.func25 rfl rfl rfl fun a hE => ?_
 rw [FareTariffprice] at hr
 refine W.seq (W.region ?_)
 refine WL.box hE hS (runs_plain rfl) rfl rfl rfl ?_; clear hE hS a w; intro b51 a w hE hS
 refine WL.box hE hS (runs_plain rfl) rfl rfl rfl ?_; clear hE hS a w; intro b52 a w hE hS
 refine vP hS hE (Gives.p hE rfl) rfl ?_; clear hE a; intro a hE
 refine vP hS hE (Gives.p hE rfl) rfl ?_; clear hE a; intro a hE
 refine WL.nil ?_
 refine W.seq (W.region ?_)
 refine vP hS hE (Gives.fld hE rfl fl54_5) rfl ?_; clear hE a; intro a hE
 refine vP hS hE (Gives.loadB hE 0 rfl rfl rfl ty37) rfl ?_; clear hE a; intro a hE
 refine vP hS hE (Gives.len hE rfl sl37) rfl ?_; clear hE a; intro a hE
 refine WL.alloc hE hS (runs_plain rfl) zr3 rfl ?_; clear hE hS a w; intro b53 a w hE hS
 refine WL.storeI hE hS 0 rfl [.int .i64 ((x1.Zones).length : Int)] (runs_plain rfl) rfl rfl rfl ty3 rfl rfl rfl rfl ?_; clear hE hS a w; intro a w hE hS
 refine WL.nil ?_
 refine W.seq ?_
 refine W.seq (W.region ?_)
 refine vP hS hE (Gives.fld hE rfl fl32_0) rfl ?_; clear hE a; intro a hE
 refine vP hS hE (Gives.loadB hE 2 rfl rfl rfl ty4) rfl ?_; clear hE a; intro a hE
 refine WL.nil ?_
 obtain ⟨q55, hq54, hr⟩ := bndS hr
 refine W.cut (fun a w => ∃ (q58 : Int), q58 = q55 ∧ Rep a 70 [(2, .pointer (some ⟨b51, 0, none⟩)), (3, .pointer (some ⟨b52, 0, none⟩)), (6, .pointer (some ⟨b53, 0, none⟩))] ∧ St w s (pt b53 (.cells #[.int .i64 q58] 3 (0, 0)) :: pt b52 (.cells #[.int .i64 x1.Day, .int .i64 x1.At, .int .i64 x1.Km, .int .i64 x1.Age, .bool x1.Card, .slice a1_0 x1.Zones.length c1_0] 54 (0, 0)) :: pt b51 (.cells #[.bool x0.ByKm, .slice a0_0 x0.Bands.length c0_0, .int .i64 x0.Round, .slice a0_1 x0.Rules.length c0_1] 32 (0, 0)) :: R)) ?_ ?_
 ·refine W.gen fun K59 hK59 => ?_
  refine W.cond hE rfl (fun hc60 => ?_) (fun hc60 => ?_)
  ·replace hq54 := iteT hc60 hq54
   refine W.region ?_
   refine vP hS hE (Gives.fld hE rfl fl54_2) rfl ?_; clear hE a; intro a hE
   refine vP hS hE (Gives.loadB hE 1 rfl rfl rfl ty3) rfl ?_; clear hE a; intro a hE
   refine WL.storeI hE hS 0 rfl [.int .i64 x1.Km] (runs_plain rfl) rfl rfl rfl ty3 rfl rfl rfl rfl ?_; clear hE hS a w; intro a w hE hS
   refine WL.nil ?_
   subst hK59
   exact ⟨x1.Km, hq54, hE.pick _ ⟨rfl, rfl, rfl, trivial⟩, hS⟩
  ·replace hq54 := iteF hc60 hq54
   refine W.skip ?_
   subst hK59
   exact ⟨((x1.Zones).length : Int), hq54, hE.pick _ ⟨rfl, rfl, rfl, trivial⟩, hS⟩
 ·clear hE hS a w; rintro a w ⟨q58, rfl, hE, hS⟩
  refine W.seq (W.region ?_)
  refine vP hS hE (Gives.fld hE rfl fl32_1) rfl ?_; clear hE a; intro a hE
  refine vP hS hE (Gives.loadB hE 2 rfl rfl rfl ty29) rfl ?_; clear hE a; intro a hE
  refine vP hS hE (Gives.mkfn hE (vs := [.pointer (some ⟨b53, 0, none⟩)]) rfl) rfl ?_; clear hE a; intro a hE
  refine WL.fnq hE (SlicesIndexFuncLfareBand_v1_ok hS h0_0 rfl (r := SlicesIndexFuncLfareBand_v1 x0.Bands q58)) (runs_plain rfl) bd43 rfl rfl rfl ?_
  clear hE hS; rintro e w ⟨rfl, hS⟩; refine ⟨_, rfl, ?_⟩; clear a; intro a hE
  refine vP hS hE (Gives.p hE rfl) rfl ?_; clear hE a; intro a hE
  refine WL.nil ?_
  refine W.seq ?_
  refine W.seq (W.region ?_)
  refine vP hS hE (Gives.p hE rfl) rfl ?_; clear hE a; intro a hE
  refine vP hS hE (Gives.p hE rfl) rfl ?_; clear hE a; intro a hE
  refine WL.nil ?_
  obtain ⟨q62, hq61, hr⟩ := bndS hr
  refine W.cut (fun a w => ∃ (q65 : Int), q65 = q62 ∧ Rep a 70 [(2, .pointer (some ⟨b51, 0, none⟩)), (3, .pointer (some ⟨b52, 0, none⟩)), (7, .int .i64 q65)] ∧ St w s (pt b53 (.cells #[.int .i64 q58] 3 (0, 0)) :: pt b52 (.cells #[.int .i64 x1.Day, .int .i64 x1.At, .int .i64 x1.Km, .int .i64 x1.Age, .bool x1.Card, .slice a1_0 x1.Zones.length c1_0] 54 (0, 0)) :: pt b51 (.cells #[.bool x0.ByKm, .slice a0_0 x0.Bands.length c0_0, .int .i64 x0.Round, .slice a0_1 x0.Rules.length c0_1] 32 (0, 0)) :: R)) ?_ ?_
  ·refine W.gen fun K66 hK66 => ?_
   refine W.cond hE rfl (fun hc67 => ?_) (fun hc67 => ?_)
   ·replace hq61 := iteT hc67 hq61
    refine W.region ?_
    refine vP hS hE (Gives.fld hE rfl fl32_1) rfl ?_; clear hE a; intro a hE
    refine vP hS hE (Gives.loadB hE 2 rfl rfl rfl ty29) rfl ?_; clear hE a; intro a hE
    refine vP hS hE (Gives.len hE rfl sl29) rfl ?_; clear hE a; intro a hE
    refine vP hS hE (Gives.p hE rfl) rfl ?_; clear hE a; intro a hE
    refine vP hS hE (Gives.p hE rfl) rfl ?_; clear hE a; intro a hE
    refine WL.nil ?_
    subst hK66
    exact ⟨w64 (((x0.Bands).length : Int) - 1), hq61, hE.pick _ ⟨rfl, rfl, rfl, trivial⟩, hS⟩
   ·replace hq61 := iteF hc67 hq61
    refine W.skip ?_
    subst hK66
    exact ⟨(SlicesIndexFuncLfareBand_v1 x0.Bands q58), hq61, hE.pick _ ⟨rfl, rfl, rfl, trivial⟩, hS⟩
  ·clear hE hS a w; rintro a w ⟨q65, rfl, hE, hS⟩
   refine W.seq (W.region ?_)
   refine vP hS hE (Gives.fld hE rfl fl32_1) rfl ?_; clear hE a; intro a hE
   refine vP hS hE (Gives.loadB hE 2 rfl rfl rfl ty29) rfl ?_; clear hE a; intro a hE
   refine vP hS hE (Gives.p hE rfl) rfl ?_; clear hE a; intro a hE
   obtain ⟨x68, hx69, hr⟩ := bindS hr
   obtain ⟨hi70, hlt71, hy72⟩ := gx_some hx69
   obtain ⟨cs73, hl74, hR75, hat76⟩ := h0_0.at hy72
   subst hR75
   refine vP hS hE (Gives.idx hE (q65).toNat rfl rfl sl29 hi70 hlt71 (h0_0.aok hlt71)) rfl ?_; clear hE a; intro a hE
   refine vP hS hE (Gives.fld hE rfl fl94_1) rfl ?_; clear hE a; intro a hE
   refine vP hS hE (Gives.load1 hE rfl (fun w h => (hat76 w _ h).one rfl) ty3) rfl ?_; clear hE a; intro a hE
   refine vP hS hE (Gives.p hE rfl) rfl ?_; clear hE a; intro a hE
   refine WL.nil ?_
   refine W.seq (W.region ?_)
   replace hS := hS.vecNil 3 1
   refine vP hS hE (Gives.p hE rfl) rfl ?_; clear hE a; intro a hE
   refine WL.nil ?_
   refine W.seq ?_
   refine W.seq (W.region ?_)
   refine vP hS hE (Gives.fld hE rfl fl32_3) rfl ?_; clear hE a; intro a hE
   refine vP hS hE (Gives.loadB hE 3 rfl rfl rfl ty30) rfl ?_; clear hE a; intro a hE
   refine vP hS hE (Gives.len hE rfl sl30) rfl ?_; clear hE a; intro a hE
   refine vP hS hE (Gives.p hE rfl) rfl ?_; clear hE a; intro a hE
   refine WL.nil ?_
   obtain ⟨q79, hq78, hr⟩ := bindS hr
   refine W.cut (fun a w => ∃ (q89 : Int), ∃ (q90 : List Int), ∃ (a91 : Option Addr), ∃ (c92 : Nat), ∃ (n94 : Nat), ∃ (cs95 : List Value), (q89, q90) = q79 ∧ Ev 1 (RI .i64) s cs95 q90 ∧ q90.length = n94 ∧ Rep a 70 [(2, .pointer (some ⟨b51, 0, none⟩)), (8, .int .i64 q89), (9, .slice a91 n94 c92)] ∧ St w s (vecC 3 1 a91 c92 n94 cs95 :: pt b53 (.cells #[.int .i64 q58] 3 (0, 0)) :: pt b52 (.cells #[.int .i64 x1.Day, .int .i64 x1.At, .int .i64 x1.Km, .int .i64 x1.Age, .bool x1.Card, .slice a1_0 x1.Zones.length c1_0] 54 (0, 0)) :: pt b51 (.cells #[.bool x0.ByKm, .slice a0_0 x0.Bands.length c0_0, .int .i64 x0.Round, .slice a0_1 x0.Rules.length c0_1] 32 (0, 0)) :: R)) ?_ ?_
   ·refine W.block ?_
    refine W.loop (fun m a w => ∃ (rest82 : List FareRule) (k80 : Nat), ∃ (q89 : Int), ∃ (q90 : List Int), ∃ (a91 : Option Addr), ∃ (c92 : Nat), ∃ (n94 : Nat), ∃ (cs95 : List Value), rest82.length = m ∧ x0.Rules.drop k80 = rest82 ∧ FareTariffprice.loop1 x1 fu rest82 k80 q89 q90 = some q79 ∧ Ev 1 (RI .i64) s cs95 q90 ∧ q90.length = n94 ∧ Rep a 70 [(2, .pointer (some ⟨b51, 0, none⟩)), (3, .pointer (some ⟨b52, 0, none⟩)), (8, .int .i64 q89), (9, .slice a91 n94 c92), (36, .slice a0_1 x0.Rules.length c0_1), (37, .int .i64 ((x0.Rules).length : Int)), (38, .int .i64 ((k80 : Nat) : Int))] ∧ St w s (vecC 3 1 a91 c92 n94 cs95 :: pt b53 (.cells #[.int .i64 q58] 3 (0, 0)) :: pt b52 (.cells #[.int .i64 x1.Day, .int .i64 x1.At, .int .i64 x1.Km, .int .i64 x1.Age, .bool x1.Card, .slice a1_0 x1.Zones.length c1_0] 54 (0, 0)) :: pt b51 (.cells #[.bool x0.ByKm, .slice a0_0 x0.Bands.length c0_0, .int .i64 x0.Round, .slice a0_1 x0.Rules.length c0_1] 32 (0, 0)) :: R)) (m := x0.Rules.length) ⟨x0.Rules, 0, x68.Price, [], none, 0, 0, [], rfl, rfl, hq78, (Ev.nil), (rfl), hE.pick _ ⟨rfl, rfl, rfl, rfl, rfl, rfl, rfl, trivial⟩, hS⟩ ?_
    clear hE hS a w hq78; rintro m86 a w ⟨rest82, k80, q89, q90, a91, c92, n94, cs95, rfl, hd83, hq78, h93, rfl, hE, hS⟩
    refine W.gen fun K97 hK97 => ?_
    rcases rest82 with _ | ⟨x81, rest82⟩
    ·have hlt84 := drop_nil hd83
     refine W.seq (W.region ?_)
     refine vP hS hE (Gives.p hE rfl) rfl ?_; clear hE a; intro a hE
     refine WL.nil ?_
     refine W.seq ?_
     refine W.condF hE rfl (decide_eq_false (by omega)) ?_
     subst hK97
     refine W.exit rfl ?_
     exact ⟨q89, q90, a91, c92, q90.length, cs95, Option.some.inj hq78, h93, rfl, hE.pick _ ⟨rfl, rfl, rfl, trivial⟩, hS⟩
    ·obtain ⟨hlt84, hx85, hd83⟩ := drop_cons hd83
     rw [FareTariffprice.loop1] at hq78
     refine W.seq (W.region ?_)
     refine vP hS hE (Gives.p hE rfl) rfl ?_; clear hE a; intro a hE
     refine WL.nil ?_
     refine W.seq ?_
     refine W.condT hE rfl (decide_eq_true (by omega)) ?_
     refine W.skip ?_
     refine W.seq ?_
     refine W.block ?_
     refine W.seq (W.region ?_)
     refine vP hS hE (Gives.p hE rfl) rfl ?_; clear hE a; intro a hE
     obtain ⟨cs98, hl99, hR100, hat101⟩ := h0_1.at hx85
     obtain ⟨a102, c103, rfl, h104⟩ := hR100
     refine vP hS hE (Gives.idx hE k80 rfl rfl sl30 rfl hlt84 (h0_1.aok hlt84)) rfl ?_; clear hE a; intro a hE
     refine vP hS hE (Gives.loadA hE rfl (fun w h => hat101 w _ h) ty99) rfl ?_; clear hE a; intro a hE
     refine WL.alloc hE hS (runs_plain rfl) zr99 rfl ?_; clear hE hS a w; intro b105 a w hE hS
     refine vP hS hE (Gives.p hE rfl) rfl ?_; clear hE a; intro a hE
     refine WL.storeI hE hS 0 rfl [.int .i64 x81.If.Kind, .int .i64 x81.If.A, .int .i64 x81.If.B, .slice a102 x81.If.Kids.length c103, .int .i64 x81.Do, .int .i64 x81.N, .bool x81.Stop] (runs_plain rfl) rfl rfl rfl ty99 rfl rfl rfl rfl ?_; clear hE hS a w; intro a w hE hS
     refine WL.nil ?_
     refine W.seq ?_
     refine W.seq (W.region ?_)
     refine vP hS hE (Gives.fld hE rfl fl99_0) rfl ?_; clear hE a; intro a hE
     refine vP hS hE (Gives.loadA (cs := [.int .i64 x81.If.Kind, .int .i64 x81.If.A, .int .i64 x81.If.B, .slice a102 x81.If.Kids.length c103]) hE rfl (fun w h => (St.seesAt h 0 rfl).part 0 4) ty97) rfl ?_; clear hE a; intro a hE
     refine vP hS hE (Gives.loadBA hE 3 rfl rfl ty54) rfl ?_; clear hE a; intro a hE
     obtain ⟨q106, hq107, hq78⟩ := bindS hq78
     have hc_ := FareCondholds_ok hS h104 h1_0 hq107
     refine WL.fnq hE (hc_) (runs_plain rfl) bd45 rfl rfl rfl ?_
     clear hE hS hc_; rintro e w ⟨rfl, hS⟩; refine ⟨_, rfl, ?_⟩; clear a; intro a hE
     refine vP hS hE (Gives.p hE rfl) rfl ?_; clear hE a; intro a hE
     refine WL.nil ?_
     refine W.cond hE rfl (fun hc108 => ?_) (fun hc108 => ?_)
     ·replace hq78 := iteT hc108 hq78
      refine W.exit rfl ?_
      refine W.region ?_
      refine vP hS hE (Gives.inc hE rfl (by have := h0_1.small; omega)) rfl ?_; clear hE a; intro a hE
      refine vP hS hE (Gives.p hE rfl) rfl ?_; clear hE a; intro a hE
      refine WL.nil ?_
      replace hS := hS.tail
      subst hK97
      exact ⟨rest82.length, Nat.lt_succ_self _, rest82, k80 + 1, q89, q90, a91, c92, q90.length, cs95, rfl, hd83, hq78, h93, rfl, hE.pick _ ⟨rfl, rfl, rfl, rfl, rfl, rfl, rfl, trivial⟩, hS⟩
     ·replace hq78 := iteF hc108 hq78
      refine W.skip ?_
      refine W.seq (W.region ?_)
      refine vP hS hE (Gives.p hE rfl) rfl ?_; clear hE a; intro a hE
      refine vP hS hE (Gives.p hE rfl) rfl ?_; clear hE a; intro a hE
      refine WL.lit hE hS (e := 3) (es := 1) (vs := [(0, .int .i64 ((k80 : Nat) : Int))]) (cs := [.int .i64 ((k80 : Nat) : Int)]) (runs_plain rfl) rfl (by kernel_rfl) rfl ?_; clear hE hS a w; intro b109 a w hE hS
      obtain ⟨x110, hx111, hq78⟩ := bindS hq78
      refine WL.appD hE hS 1 (m := 1) (runs_plain rfl) rfl rfl rfl ap37 rfl h93 rfl (xs := [((k80 : Nat) : Int)]) (Ev.cons (c1 := [.int .i64 ((k80 : Nat) : Int)]) rfl rfl (Ev.nil)) rfl rfl hx111 rfl ?_; clear hE hS a w; intro a112 c113 cs114 a w h115 hE hS
      refine vP hS hE (Gives.p hE rfl) rfl ?_; clear hE a; intro a hE
      refine WL.nil ?_
      refine W.seq (W.region ?_)
      refine vP hS hE (Gives.loadBA hE 0 rfl rfl ty99) rfl ?_; clear hE a; intro a hE
      refine vP hS hE (Gives.p hE rfl) rfl ?_; clear hE a; intro a hE
      refine WL.fnq hE (FareRulechange_ok hS h104 rfl (r := FareRulechange x81 q89)) (runs_plain rfl) bd46 rfl rfl rfl ?_
      clear hE hS; rintro e w ⟨rfl, hS⟩; refine ⟨_, rfl, ?_⟩; clear a; intro a hE
      refine vP hS hE (Gives.p hE rfl) rfl ?_; clear hE a; intro a hE
      refine WL.nil ?_
      refine W.seq (W.region ?_)
      refine vP hS hE (Gives.fld hE rfl fl99_3) rfl ?_; clear hE a; intro a hE
      refine vP hS hE (Gives.loadB hE 0 rfl rfl rfl ty4) rfl ?_; clear hE a; intro a hE
      refine WL.nil ?_
      refine W.cond hE rfl (fun hc116 => ?_) (fun hc116 => ?_)
      ·replace hq78 := iteT hc116 hq78
       subst hK97
       refine W.exit rfl ?_
       replace hS := hS.tail
       exact ⟨(FareRulechange x81 q89), x110, a112, c113, x110.length, cs114, Option.some.inj hq78, h115, (rfl), hE.pick _ ⟨rfl, rfl, rfl, trivial⟩, hS⟩
      ·replace hq78 := iteF hc116 hq78
       refine W.skip ?_
       refine W.region ?_
       refine vP hS hE (Gives.inc hE rfl (by have := h0_1.small; omega)) rfl ?_; clear hE a; intro a hE
       refine vP hS hE (Gives.p hE rfl) rfl ?_; clear hE a; intro a hE
       refine WL.nil ?_
       replace hS := hS.tail
       subst hK97
       exact ⟨rest82.length, Nat.lt_succ_self _, rest82, k80 + 1, (FareRulechange x81 q89), x110, a112, c113, x110.length, cs114, rfl, hd83, hq78, h115, (rfl), hE.pick _ ⟨rfl, rfl, rfl, rfl, rfl, rfl, rfl, trivial⟩, hS⟩
   ·clear hE hS a w; rintro a w ⟨q89, q90, a91, c92, n94, cs95, rfl, h93, rfl, hE, hS⟩
    dsimp only at hr
    refine W.seq ?_
    refine W.regionQ (C := fun w => St w s (vecC 3 1 a91 c92 q90.length cs95 :: pt b53 (.cells #[.int .i64 q58] 3 (0, 0)) :: pt b52 (.cells #[.int .i64 x1.Day, .int .i64 x1.At, .int .i64 x1.Km, .int .i64 x1.Age, .bool x1.Card, .slice a1_0 x1.Zones.length c1_0] 54 (0, 0)) :: pt b51 (.cells #[.bool x0.ByKm, .slice a0_0 x0.Bands.length c0_0, .int .i64 x0.Round, .slice a0_1 x0.Rules.length c0_1] 32 (0, 0)) :: R)) mixed (by kernel_rfl) hS.drew ?_
    refine qP hE (Gives.p hE rfl) rfl ?_; clear hE a; intro a hE
    refine qP hE (Gives.fld hE rfl fl32_2) rfl ?_; clear hE a; intro a hE
    refine qP hE (Gives.loadB hE 3 rfl rfl rfl ty3) rfl ?_; clear hE a; intro a hE
    refine qP hE (Gives.p hE rfl) rfl ?_; clear hE a; intro a hE
    refine qP hE (Gives.p hE rfl) rfl ?_; clear hE a; intro a hE
    refine qP hE (Gives.fld hE rfl fl32_2) rfl ?_; clear hE a; intro a hE
    refine qP hE (Gives.loadB hE 3 rfl rfl rfl ty3) rfl ?_; clear hE a; intro a hE
    obtain ⟨x117, hx118, hr⟩ := bindS hr
    refine qP hE (Gives.dv hE rfl rfl hx118) rfl ?_; clear hE a; intro a hE
    refine qP hE (Gives.fld hE rfl fl32_2) rfl ?_; clear hE a; intro a hE
    refine qP hE (Gives.loadB hE 3 rfl rfl rfl ty3) rfl ?_; clear hE a; intro a hE
    refine qP hE (Gives.p hE rfl) rfl ?_; clear hE a; intro a hE
    refine qP hE (Gives.p hE rfl) rfl ?_; clear hE a; intro a hE
    refine qP hE (Gives.p hE rfl) rfl ?_; clear hE a; intro a hE
    refine qP hE (Gives.p hE rfl) rfl ?_; clear hE a; intro a hE
    refine QL.nil ?_; clear hS w; intro w hS
    refine W.ret ?_
    refine finG (fn := Tryz.f25) (rs := [.tmp 4, .tmp 5]) (vs := [_, _]) hE rfl ⟨rfl, rfl, trivial⟩ ?_
    obtain rfl := Option.some.inj hr
    replace hS := hS.dropAt 1
    replace hS := hS.dropAt 1
    replace hS := hS.dropAt 1
    exact ⟨a91, c92, q90.length, cs95, rfl, h93, rfl, hS⟩
set_option maxHeartbeats 8000000 in
theorem FarePrice_ok {fu : Nat}  {w : World} {s : Sg} {R : List HP} {x0 : FareTariff} {a0_0 : Option Addr} {c0_0 : Nat} {a0_1 : Option Addr} {c0_1 : Nat} {x1 : FareTrip} {a1_0 : Option Addr} {c1_0 : Nat} (hS : St w s (R)) (h0_0 : Sl 2 RFareBand s a0_0 c0_0 x0.Bands) (h0_1 : Sl 7 RFareRule s a0_1 c0_1 x0.Rules) (h1_0 : Sl 1 (RI .i64) s a1_0 c1_0 x1.Zones) {r : Int × (List Int) × Int} (hr : FarePrice fu x0 x1 = some r) :
  Calls Tryz.prog 10 [.agg (List.toArray [.bool x0.ByKm, .slice a0_0 x0.Bands.length c0_0, .int .i64 x0.Round, .slice a0_1 x0.Rules.length c0_1]), .agg (List.toArray [.int .i64 x1.Day, .int .i64 x1.At, .int .i64 x1.Km, .int .i64 x1.Age, .bool x1.Card, .slice a1_0 x1.Zones.length c1_0])].toArray w (fun e w => ∃ (a1 : Option Addr) (c1 n1 : Nat) (cs1 : List Value), e = .returned (.tuple #[.int .i64 r.1, .slice a1 n1 c1, .int .i64 r.2.2]) ∧ Ev 1 (RI .i64) s cs1 r.2.1 ∧ r.2.1.length = n1 ∧ St w s (vecC 3 1 a1 c1 n1 cs1 :: R)) := by
 refine enter Tryz.func10 rfl rfl rfl fun a hE => ?_
 rw [FarePrice] at hr
 refine W.seq (W.region ?_)
 refine WL.box hE hS (runs_plain rfl) rfl rfl rfl ?_; clear hE hS a w; intro b51 a w hE hS
 refine WL.box hE hS (runs_plain rfl) rfl rfl rfl ?_; clear hE hS a w; intro b52 a w hE hS
 refine vP hS hE (Gives.p hE rfl) rfl ?_; clear hE a; intro a hE
 refine vP hS hE (Gives.p hE rfl) rfl ?_; clear hE a; intro a hE
 refine vP hS hE (Gives.p hE rfl) rfl ?_; clear hE a; intro a hE
 refine WL.nil ?_
 refine W.seq ?_
 refine W.seq (W.region ?_)
 refine vP hS hE (Gives.loadBA hE 1 rfl rfl ty32) rfl ?_; clear hE a; intro a hE
 obtain ⟨q53, hq54, hr⟩ := bindS hr
 have hc_ := FareCheckTariff_ok hS h0_0 h0_1 hq54
 refine WL.fnq hE (hc_) (runs_plain rfl) bd23 rfl rfl rfl ?_
 clear hE hS hc_; rintro e w ⟨rfl, hS⟩; refine ⟨_, rfl, ?_⟩; clear a; intro a hE
 refine vP hS hE (Gives.p hE rfl) rfl ?_; clear hE a; intro a hE
 refine WL.nil ?_
 refine W.seq (W.region ?_)
 refine vP hS hE (Gives.p hE rfl) rfl ?_; clear hE a; intro a hE
 refine vP hS hE (Gives.p hE rfl) rfl ?_; clear hE a; intro a hE
 refine WL.nil ?_
 refine W.cond hE rfl (fun hc55 => ?_) (fun hc55 => ?_)
 ·replace hr := iteT hc55 hr
  refine W.seq (W.region ?_)
  refine vP hS hE (Gives.p hE rfl) rfl ?_; clear hE a; intro a hE
  refine vP hS hE (Gives.p hE rfl) rfl ?_; clear hE a; intro a hE
  refine vP hS hE (Gives.p hE rfl) rfl ?_; clear hE a; intro a hE
  refine vP hS hE (Gives.p hE rfl) rfl ?_; clear hE a; intro a hE
  refine WL.nil ?_
  refine W.ret ?_
  replace hS := hS.vecNil 3 1
  refine finG (fn := Tryz.f10) (rs := [.tmp 4, .tmp 5, .tmp 6]) (vs := [_, _, _]) hE rfl ⟨rfl, rfl, rfl, trivial⟩ ?_
  obtain rfl := Option.some.inj hr
  replace hS := hS.dropAt 1
  replace hS := hS.dropAt 1
  exact ⟨none, 0, 0, [], rfl, (Ev.nil), (rfl), hS⟩
 ·replace hr := iteF hc55 hr
  refine W.skip ?_
  refine W.seq ?_
  refine W.seq (W.region ?_)
  refine vP hS hE (Gives.loadBA hE 0 rfl rfl ty54) rfl ?_; clear hE a; intro a hE
  obtain ⟨q57, hq58, hr⟩ := bindS hr
  have hc_ := FareCheckTrip_ok hS h1_0 hq58
  refine WL.fnq hE (hc_) (runs_plain rfl) bd24 rfl rfl rfl ?_
  clear hE hS hc_; rintro e w ⟨rfl, hS⟩; refine ⟨_, rfl, ?_⟩; clear a; intro a hE
  refine vP hS hE (Gives.p hE rfl) rfl ?_; clear hE a; intro a hE
  refine WL.nil ?_
  refine W.seq (W.region ?_)
  refine vP hS hE (Gives.p hE rfl) rfl ?_; clear hE a; intro a hE
  refine vP hS hE (Gives.p hE rfl) rfl ?_; clear hE a; intro a hE
  refine WL.nil ?_
  refine W.cond hE rfl (fun hc59 => ?_) (fun hc59 => ?_)
  ·replace hr := iteT hc59 hr
   refine W.seq (W.region ?_)
   refine vP hS hE (Gives.p hE rfl) rfl ?_; clear hE a; intro a hE
   refine vP hS hE (Gives.p hE rfl) rfl ?_; clear hE a; intro a hE
   refine vP hS hE (Gives.p hE rfl) rfl ?_; clear hE a; intro a hE
   refine vP hS hE (Gives.p hE rfl) rfl ?_; clear hE a; intro a hE
   refine WL.nil ?_
   refine W.ret ?_
   replace hS := hS.vecNil 3 1
   refine finG (fn := Tryz.f10) (rs := [.tmp 4, .tmp 5, .tmp 6]) (vs := [_, _, _]) hE rfl ⟨rfl, rfl, rfl, trivial⟩ ?_
   obtain rfl := Option.some.inj hr
   replace hS := hS.dropAt 1
   replace hS := hS.dropAt 1
   exact ⟨none, 0, 0, [], rfl, (Ev.nil), (rfl), hS⟩
  ·replace hr := iteF hc59 hr
   refine W.skip ?_
   refine W.seq (W.region ?_)
   refine vP hS hE (Gives.loadBA hE 1 rfl rfl ty32) rfl ?_; clear hE a; intro a hE
   refine vP hS hE (Gives.loadBA hE 0 rfl rfl ty54) rfl ?_; clear hE a; intro a hE
   obtain ⟨q61, hq62, hr⟩ := bindS hr
   have hc_ := FareTariffprice_ok hS h0_0 h0_1 h1_0 hq62
   refine WL.fnq hE (hc_) (runs_plain rfl) bd25 rfl rfl rfl ?_
   clear hE hS hc_; rintro e w ⟨a63, c64, n65, cs66, rfl, h67, rfl, hS⟩; refine ⟨_, rfl, ?_⟩; clear a; intro a hE
   refine vP hS hE (Gives.p hE rfl) rfl ?_; clear hE a; intro a hE
   refine vP hS hE (Gives.p hE rfl) rfl ?_; clear hE a; intro a hE
   refine vP hS hE (Gives.p hE rfl) rfl ?_; clear hE a; intro a hE
   refine vP hS hE (Gives.p hE rfl) rfl ?_; clear hE a; intro a hE
   refine vP hS hE (Gives.p hE rfl) rfl ?_; clear hE a; intro a hE
   refine WL.nil ?_
   refine W.seq (W.region ?_)
   refine vP hS hE (Gives.p hE rfl) rfl ?_; clear hE a; intro a hE
   refine vP hS hE (Gives.p hE rfl) rfl ?_; clear hE a; intro a hE
   refine vP hS hE (Gives.p hE rfl) rfl ?_; clear hE a; intro a hE
   refine vP hS hE (Gives.p hE rfl) rfl ?_; clear hE a; intro a hE
   refine vP hS hE (Gives.p hE rfl) rfl ?_; clear hE a; intro a hE
   refine WL.nil ?_
   refine W.ret ?_
   refine finG (fn := Tryz.f10) (rs := [.tmp 4, .tmp 5, .tmp 6]) (vs := [_, _, _]) hE rfl ⟨rfl, rfl, rfl, trivial⟩ ?_
   obtain rfl := Option.some.inj hr
   replace hS := hS.dropAt 1
   replace hS := hS.dropAt 1
   exact ⟨a63, c64, q61.2.length, cs66, rfl, h67, rfl, hS⟩
set_option maxHeartbeats 8000000 in
theorem Fareprime_ok {fu : Nat}  {w : World} {s : Sg} {R : List HP} {x0 : Int} (hS : St w s (R))  {r : Bool} (hr : Fareprime fu x0 = some r) :
  Calls Tryz.prog 27 [.int .i64 x0].toArray w (fun e w => e = .returned (.bool r) ∧ St w s (R)) := by
 refine enter Tryz.func27 rfl rfl rfl fun a hE => ?_
 rw [Fareprime] at hr
 refine W.seq (W.region ?_)
 refine vP hS hE (Gives.p hE rfl) rfl ?_; clear hE a; intro a hE
 refine WL.nil ?_
 refine W.seq ?_
 refine W.seq (W.region ?_)
 refine vP hS hE (Gives.p hE rfl) rfl ?_; clear hE a; intro a hE
 refine WL.nil ?_
 obtain ⟨q52, hq51, hr⟩ := bindS hr
 refine W.cut (fun a w => ∃ (q57 : Int), (.next q57) = q52 ∧ Rep a 17 [(0, .int .i64 x0)] ∧ St w s (R)) ?_ ?_
 ·refine W.block ?_
  refine W.loop (fun m a w => ∃ (n53 : Nat), ∃ (q57 : Int), n53 = m ∧ Fareprime.loop1 x0 n53 q57 = some q52 ∧ Rep a 17 [(0, .int .i64 x0), (3, .int .i64 q57)] ∧ St w s (R)) (m := fu) ⟨fu, 2, rfl, hq51, hE.pick _ ⟨rfl, rfl, trivial⟩, hS⟩ ?_
  clear hE hS a w hq51; rintro m54 a w ⟨n53, q57, rfl, hq51, hE, hS⟩
  refine W.gen fun K58 hK58 => ?_
  rcases n53 with _ | n53
  ·rw [Fareprime.loop1] at hq51; exact absurd hq51 (by simp)
  rw [Fareprime.loop1] at hq51
  refine W.seq ?_
  refine W.seq (W.region ?_)
  refine vP hS hE (Gives.p hE rfl) rfl ?_; clear hE a; intro a hE
  refine vP hS hE (Gives.p hE rfl) rfl ?_; clear hE a; intro a hE
  refine vP hS hE (Gives.p hE rfl) rfl ?_; clear hE a; intro a hE
  refine vP hS hE (Gives.p hE rfl) rfl ?_; clear hE a; intro a hE
  refine vP hS hE (Gives.p hE rfl) rfl ?_; clear hE a; intro a hE
  refine WL.nil ?_
  refine W.cond hE rfl (fun hc59 => ?_) (fun hc59 => ?_)
  ·replace hq51 := iteT hc59 hq51
   refine W.skip ?_
   refine W.seq ?_
   refine W.block ?_
   refine W.seq (W.region ?_)
   refine vP hS hE (Gives.p hE rfl) rfl ?_; clear hE a; intro a hE
   refine vP hS hE (Gives.p hE rfl) rfl ?_; clear hE a; intro a hE
   obtain ⟨x60, hx61, hq51⟩ := bindS hq51
   refine vP hS hE (Gives.rm hE rfl rfl hx61) rfl ?_; clear hE a; intro a hE
   refine vP hS hE (Gives.p hE rfl) rfl ?_; clear hE a; intro a hE
   refine WL.nil ?_
   refine W.cond hE rfl (fun hc62 => ?_) (fun hc62 => ?_)
   ·replace hq51 := iteT hc62 hq51
    refine W.seq (W.region ?_)
    refine vP hS hE (Gives.p hE rfl) rfl ?_; clear hE a; intro a hE
    refine WL.nil ?_
    refine W.ret ?_
    subst hK58
    rw [← Option.some.inj hq51] at hr
    dsimp only at hr
    refine finG (fn := Tryz.f27) (rs := [.tmp 2]) (vs := [_]) hE rfl ⟨rfl, trivial⟩ ?_
    obtain rfl := Option.some.inj hr
    exact ⟨rfl, hS⟩
   ·replace hq51 := iteF hc62 hq51
    refine W.skip ?_
    refine W.region ?_
    refine vP hS hE (Gives.p hE rfl) rfl ?_; clear hE a; intro a hE
    refine vP hS hE (Gives.p hE rfl) rfl ?_; clear hE a; intro a hE
    refine vP hS hE (Gives.p hE rfl) rfl ?_; clear hE a; intro a hE
    refine WL.nil ?_
    subst hK58
    exact ⟨n53, Nat.lt_succ_self _, n53, (w64 (q57 + 1)), rfl, hq51, hE.pick _ ⟨rfl, rfl, trivial⟩, hS⟩
  ·replace hq51 := iteF hc59 hq51
   subst hK58
   refine W.exit rfl ?_
   exact ⟨q57, Option.some.inj hq51, hE.pick _ ⟨rfl, trivial⟩, hS⟩
 ·clear hE hS a w; rintro a w ⟨q57, rfl, hE, hS⟩
  dsimp only at hr
  refine W.seq (W.region ?_)
  refine vP hS hE (Gives.p hE rfl) rfl ?_; clear hE a; intro a hE
  refine vP hS hE (Gives.p hE rfl) rfl ?_; clear hE a; intro a hE
  refine vP hS hE (Gives.p hE rfl) rfl ?_; clear hE a; intro a hE
  refine WL.nil ?_
  refine W.ret ?_
  refine finG (fn := Tryz.f27) (rs := [.tmp 2]) (vs := [_]) hE rfl ⟨rfl, trivial⟩ ?_
  obtain rfl := Option.some.inj hr
  exact ⟨rfl, hS⟩
set_option maxHeartbeats 8000000 in
theorem Fareinverse_ok {fu : Nat}  {w : World} {s : Sg} {R : List HP} {x0 : Int} {x1 : Int} (hS : St w s (R))  {r : Int × Bool} (hr : Fareinverse fu x0 x1 = some r) :
  Calls Tryz.prog 28 [.int .i64 x0, .int .i64 x1].toArray w (fun e w => e = .returned (.tuple #[.int .i64 r.1, .bool r.2]) ∧ St w s (R)) := by
 refine enter Tryz.func28 rfl rfl rfl fun a hE => ?_
 rw [Fareinverse] at hr
 refine W.seq (W.region ?_)
 refine vP hS hE (Gives.p hE rfl) rfl ?_; clear hE a; intro a hE
 refine vP hS hE (Gives.p hE rfl) rfl ?_; clear hE a; intro a hE
 refine WL.nil ?_
 refine W.seq (W.region ?_)
 refine vP hS hE (Gives.p hE rfl) rfl ?_; clear hE a; intro a hE
 refine vP hS hE (Gives.p hE rfl) rfl ?_; clear hE a; intro a hE
 obtain ⟨x51, hx52, hr⟩ := bindS hr
 refine vP hS hE (Gives.rm hE rfl rfl hx52) rfl ?_; clear hE a; intro a hE
 refine vP hS hE (Gives.p hE rfl) rfl ?_; clear hE a; intro a hE
 refine vP hS hE (Gives.p hE rfl) rfl ?_; clear hE a; intro a hE
 refine vP hS hE (Gives.p hE rfl) rfl ?_; clear hE a; intro a hE
 refine vP hS hE (Gives.p hE rfl) rfl ?_; clear hE a; intro a hE
 refine vP hS hE (Gives.p hE rfl) rfl ?_; clear hE a; intro a hE
 refine WL.nil ?_
 refine W.seq ?_
 obtain ⟨q54, hq53, hr⟩ := bindS hr
 refine W.cut (fun a w => ∃ (q59 : Int), ∃ (q60 : Int), ∃ (q61 : Int), ∃ (q62 : Int), (q59, q60, q61, q62) = q54 ∧ Rep a 41 [(1, .int .i64 x1), (6, .int .i64 q59), (8, .int .i64 q61)] ∧ St w s (R)) ?_ ?_
 ·refine W.block ?_
  refine W.loop (fun m a w => ∃ (n55 : Nat), ∃ (q59 : Int), ∃ (q60 : Int), ∃ (q61 : Int), ∃ (q62 : Int), n55 = m ∧ Fareinverse.loop1 n55 q59 q60 q61 q62 = some q54 ∧ Rep a 41 [(1, .int .i64 x1), (6, .int .i64 q59), (7, .int .i64 q60), (8, .int .i64 q61), (9, .int .i64 q62)] ∧ St w s (R)) (m := fu) ⟨fu, x51, x1, 1, 0, rfl, hq53, hE.pick _ ⟨rfl, rfl, rfl, rfl, rfl, trivial⟩, hS⟩ ?_
  clear hE hS a w hq53; rintro m56 a w ⟨n55, q59, q60, q61, q62, rfl, hq53, hE, hS⟩
  refine W.gen fun K63 hK63 => ?_
  rcases n55 with _ | n55
  ·rw [Fareinverse.loop1] at hq53; exact absurd hq53 (by simp)
  rw [Fareinverse.loop1] at hq53
  refine W.seq ?_
  refine W.seq (W.region ?_)
  refine vP hS hE (Gives.p hE rfl) rfl ?_; clear hE a; intro a hE
  refine vP hS hE (Gives.p hE rfl) rfl ?_; clear hE a; intro a hE
  refine WL.nil ?_
  refine W.cond hE rfl (fun hc64 => ?_) (fun hc64 => ?_)
  ·replace hq53 := iteT hc64 hq53
   refine W.skip ?_
   refine W.block ?_
   refine W.seq (W.region ?_)
   refine vP hS hE (Gives.p hE rfl) rfl ?_; clear hE a; intro a hE
   refine vP hS hE (Gives.p hE rfl) rfl ?_; clear hE a; intro a hE
   obtain ⟨x65, hx66, hq53⟩ := bindS hq53
   refine vP hS hE (Gives.dv hE rfl rfl hx66) rfl ?_; clear hE a; intro a hE
   refine vP hS hE (Gives.p hE rfl) rfl ?_; clear hE a; intro a hE
   refine WL.nil ?_
   refine W.seq (W.region ?_)
   refine vP hS hE (Gives.p hE rfl) rfl ?_; clear hE a; intro a hE
   refine vP hS hE (Gives.p hE rfl) rfl ?_; clear hE a; intro a hE
   refine vP hS hE (Gives.p hE rfl) rfl ?_; clear hE a; intro a hE
   refine vP hS hE (Gives.p hE rfl) rfl ?_; clear hE a; intro a hE
   refine vP hS hE (Gives.p hE rfl) rfl ?_; clear hE a; intro a hE
   refine vP hS hE (Gives.p hE rfl) rfl ?_; clear hE a; intro a hE
   refine vP hS hE (Gives.p hE rfl) rfl ?_; clear hE a; intro a hE
   refine vP hS hE (Gives.p hE rfl) rfl ?_; clear hE a; intro a hE
   refine WL.nil ?_
   refine W.region ?_
   refine vP hS hE (Gives.p hE rfl) rfl ?_; clear hE a; intro a hE
   refine vP hS hE (Gives.p hE rfl) rfl ?_; clear hE a; intro a hE
   refine vP hS hE (Gives.p hE rfl) rfl ?_; clear hE a; intro a hE
   refine vP hS hE (Gives.p hE rfl) rfl ?_; clear hE a; intro a hE
   refine vP hS hE (Gives.p hE rfl) rfl ?_; clear hE a; intro a hE
   refine vP hS hE (Gives.p hE rfl) rfl ?_; clear hE a; intro a hE
   refine vP hS hE (Gives.p hE rfl) rfl ?_; clear hE a; intro a hE
   refine vP hS hE (Gives.p hE rfl) rfl ?_; clear hE a; intro a hE
   refine WL.nil ?_
   subst hK63
   exact ⟨n55, Nat.lt_succ_self _, n55, q60, (w64 (q59 - (w64 (x65 * q60)))), q62, (w64 (q61 - (w64 (x65 * q62)))), rfl, hq53, hE.pick _ ⟨rfl, rfl, rfl, rfl, rfl, trivial⟩, hS⟩
  ·replace hq53 := iteF hc64 hq53
   subst hK63
   refine W.exit rfl ?_
   exact ⟨q59, q60, q61, q62, Option.some.inj hq53, hE.pick _ ⟨rfl, rfl, rfl, trivial⟩, hS⟩
 ·clear hE hS a w; rintro a w ⟨q59, q60, q61, q62, rfl, hE, hS⟩
  dsimp only at hr
  refine W.seq ?_
  refine W.seq (W.region ?_)
  refine vP hS hE (Gives.p hE rfl) rfl ?_; clear hE a; intro a hE
  refine vP hS hE (Gives.p hE rfl) rfl ?_; clear hE a; intro a hE
  refine WL.nil ?_
  refine W.cond hE rfl (fun hc67 => ?_) (fun hc67 => ?_)
  ·replace hr := iteT hc67 hr
   refine W.seq (W.region ?_)
   refine vP hS hE (Gives.p hE rfl) rfl ?_; clear hE a; intro a hE
   refine vP hS hE (Gives.p hE rfl) rfl ?_; clear hE a; intro a hE
   refine WL.nil ?_
   refine W.ret ?_
   refine finG (fn := Tryz.f28) (rs := [.tmp 4, .tmp 5]) (vs := [_, _]) hE rfl ⟨rfl, rfl, trivial⟩ ?_
   obtain rfl := Option.some.inj hr
   exact ⟨rfl, hS⟩
  ·replace hr := iteF hc67 hr
   refine W.skip ?_
   refine W.seq (W.region ?_)
   refine vP hS hE (Gives.p hE rfl) rfl ?_; clear hE a; intro a hE
   refine vP hS hE (Gives.p hE rfl) rfl ?_; clear hE a; intro a hE
   obtain ⟨x68, hx69, hr⟩ := bindS hr
   refine vP hS hE (Gives.rm hE rfl rfl hx69) rfl ?_; clear hE a; intro a hE
   refine vP hS hE (Gives.p hE rfl) rfl ?_; clear hE a; intro a hE
   refine vP hS hE (Gives.p hE rfl) rfl ?_; clear hE a; intro a hE
   refine vP hS hE (Gives.p hE rfl) rfl ?_; clear hE a; intro a hE
   obtain ⟨x70, hx71, hr⟩ := bindS hr
   refine vP hS hE (Gives.rm hE rfl rfl hx71) rfl ?_; clear hE a; intro a hE
   refine vP hS hE (Gives.p hE rfl) rfl ?_; clear hE a; intro a hE
   refine vP hS hE (Gives.p hE rfl) rfl ?_; clear hE a; intro a hE
   refine WL.nil ?_
   refine W.ret ?_
   refine finG (fn := Tryz.f28) (rs := [.tmp 4, .tmp 5]) (vs := [_, _]) hE rfl ⟨rfl, rfl, trivial⟩ ?_
   obtain rfl := Option.some.inj hr
   exact ⟨rfl, hS⟩
set_option maxHeartbeats 8000000 in
theorem FareMakeKey_ok {fu : Nat}  {w : World} {s : Sg} {R : List HP} {x0 : Int} {x1 : Int} {x2 : Int} (hS : St w s (R))  {r : FareKey × Int} (hr : FareMakeKey fu x0 x1 x2 = some r) :
  Calls Tryz.prog 12 [.int .i64 x0, .int .i64 x1, .int .i64 x2].toArray w (fun e w => ∃ (cs0 : List Value), e = .returned (.tuple #[.agg cs0.toArray, .int .i64 r.2]) ∧ RFareKey s cs0 r.1 ∧ St w s (R)) := by
 refine enter Tryz.func12 rfl rfl rfl fun a hE => ?_
 rw [FareMakeKey] at hr
 refine W.seq (W.region ?_)
 refine WL.alloc hE hS (runs_plain rfl) zr56 rfl ?_; clear hE hS a w; intro b51 a w hE hS
 refine vP hS hE (Gives.p hE rfl) rfl ?_; clear hE a; intro a hE
 refine WL.nil ?_
 refine W.seq ?_
 refine W.block ?_
 refine W.seq ?_
 obtain ⟨q53, hq52, hr⟩ := bndS hr
 refine W.cut (fun a w => ∃ (q56 : Bool), q56 = q53 ∧ Rep a 59 [(0, .int .i64 x0), (1, .int .i64 x1), (2, .int .i64 x2), (6, .pointer (some ⟨b51, 0, none⟩)), (10, .bool q56)] ∧ St w s (pt b51 (.cells #[.int .i64 0, .int .i64 0, .int .i64 0] 56 (0, 0)) :: R)) ?_ ?_
 ·refine W.gen fun K57 hK57 => ?_
  refine W.region ?_
  refine vP hS hE (Gives.p hE rfl) rfl ?_; clear hE a; intro a hE
  refine WL.fnq hE (Farewithin_ok hS  rfl (r := Farewithin x0 1009 32749)) (runs_plain rfl) bd26 rfl rfl rfl ?_
  clear hE hS; rintro e w ⟨rfl, hS⟩; refine ⟨_, rfl, ?_⟩; clear a; intro a hE
  refine vP hS hE (Gives.p hE rfl) rfl ?_; clear hE a; intro a hE
  refine vP hS hE (Gives.p hE rfl) rfl ?_; clear hE a; intro a hE
  rcases Bool.eq_false_or_eq_true (!(Farewithin x0 1009 32749)) with hg58 | hg58
  ·replace hq52 := iteT hg58 hq52
   refine WL.no hE (runs_not hE rfl rfl rfl (by rw [hg58]; decide)) rfl ?_; clear hE a; intro a hE
   refine WL.no hE (runs_not hE rfl rfl rfl (by rw [hg58]; decide)) rfl ?_; clear hE a; intro a hE
   refine WL.no hE (runs_not hE rfl rfl rfl (by rw [hg58]; decide)) rfl ?_; clear hE a; intro a hE
   refine vP hS hE (Gives.pickT hE rfl hg58 rfl) rfl ?_; clear hE a; intro a hE
   refine vP hS hE (Gives.p hE rfl) rfl ?_; clear hE a; intro a hE
   refine WL.no hE (runs_not hE rfl rfl rfl (by decide)) rfl ?_; clear hE a; intro a hE
   refine WL.no hE (runs_not hE rfl rfl rfl (by decide)) rfl ?_; clear hE a; intro a hE
   refine WL.no hE (runs_not hE rfl rfl rfl (by decide)) rfl ?_; clear hE a; intro a hE
   refine vP hS hE (Gives.pickT hE rfl rfl rfl) rfl ?_; clear hE a; intro a hE
   refine vP hS hE (Gives.p hE rfl) rfl ?_; clear hE a; intro a hE
   refine WL.nil ?_
   subst hK57
   exact ⟨true, hq52, hE.pick _ ⟨rfl, rfl, rfl, rfl, rfl, trivial⟩, hS⟩
  ·replace hq52 := iteF hg58 hq52
   refine WL.vS hS hE (runs_if hE rfl rfl rfl hg58) (Gives.p hE rfl) rfl ?_; clear hE a; intro a hE
   refine WL.fnq hE (Farewithin_ok hS  rfl (r := Farewithin x1 1009 32749)) (runs_if hE rfl rfl rfl hg58) bd26 rfl rfl rfl ?_
   clear hE hS; rintro e w ⟨rfl, hS⟩; refine ⟨_, rfl, ?_⟩; clear a; intro a hE
   refine WL.vS hS hE (runs_if hE rfl rfl rfl hg58) (Gives.p hE rfl) rfl ?_; clear hE a; intro a hE
   refine vP hS hE (Gives.pickF hE rfl hg58 rfl) rfl ?_; clear hE a; intro a hE
   refine vP hS hE (Gives.p hE rfl) rfl ?_; clear hE a; intro a hE
   rcases Bool.eq_false_or_eq_true (!(Farewithin x1 1009 32749)) with hg59 | hg59
   ·replace hq52 := iteT hg59 hq52
    refine WL.no hE (runs_not hE rfl rfl rfl (by rw [hg59]; decide)) rfl ?_; clear hE a; intro a hE
    refine WL.no hE (runs_not hE rfl rfl rfl (by rw [hg59]; decide)) rfl ?_; clear hE a; intro a hE
    refine WL.no hE (runs_not hE rfl rfl rfl (by rw [hg59]; decide)) rfl ?_; clear hE a; intro a hE
    refine vP hS hE (Gives.pickT hE rfl hg59 rfl) rfl ?_; clear hE a; intro a hE
    refine vP hS hE (Gives.p hE rfl) rfl ?_; clear hE a; intro a hE
    refine WL.nil ?_
    subst hK57
    exact ⟨true, hq52, hE.pick _ ⟨rfl, rfl, rfl, rfl, rfl, trivial⟩, hS⟩
   ·replace hq52 := iteF hg59 hq52
    refine WL.vS hS hE (runs_if hE rfl rfl rfl hg59) (Gives.p hE rfl) rfl ?_; clear hE a; intro a hE
    refine WL.fnq hE (Farewithin_ok hS  rfl (r := Farewithin x2 3 32749)) (runs_if hE rfl rfl rfl hg59) bd26 rfl rfl rfl ?_
    clear hE hS; rintro e w ⟨rfl, hS⟩; refine ⟨_, rfl, ?_⟩; clear a; intro a hE
    refine WL.vS hS hE (runs_if hE rfl rfl rfl hg59) (Gives.p hE rfl) rfl ?_; clear hE a; intro a hE
    refine vP hS hE (Gives.pickF hE rfl hg59 rfl) rfl ?_; clear hE a; intro a hE
    refine vP hS hE (Gives.p hE rfl) rfl ?_; clear hE a; intro a hE
    refine WL.nil ?_
    subst hK57
    exact ⟨!(Farewithin x2 3 32749), hq52, hE.pick _ ⟨rfl, rfl, rfl, rfl, rfl, trivial⟩, hS⟩
 ·clear hE hS a w; rintro a w ⟨q56, rfl, hE, hS⟩
  refine W.cond hE rfl (fun hc60 => ?_) (fun hc60 => ?_)
  ·replace hr := iteT hc60 hr
   refine W.seq (W.region ?_)
   refine vP hS hE (Gives.build hE (vs := []) [.int .i64 0, .int .i64 0, .int .i64 0] rfl (by kernel_rfl)) rfl ?_; clear hE a; intro a hE
   refine WL.storeI hE hS 0 rfl [.int .i64 0, .int .i64 0, .int .i64 0] (runs_plain rfl) rfl rfl rfl ty56 rfl rfl rfl rfl ?_; clear hE hS a w; intro a w hE hS
   refine vP hS hE (Gives.p hE rfl) rfl ?_; clear hE a; intro a hE
   refine WL.nil ?_
   refine W.ret ?_
   refine finG (fn := Tryz.f12) (rs := [.cell 6 56, .tmp 7]) (vs := [_, _]) hE rfl ⟨⟨_, rfl, .inl ⟨_, rfl, hS.seesAt 0 rfl, ty56⟩⟩, rfl, trivial⟩ ?_
   obtain rfl := Option.some.inj hr
   replace hS := hS.tail
   exact ⟨_, rfl, rfl, hS⟩
  ·replace hr := iteF hc60 hr
   refine W.seq ?_
   obtain ⟨q62, hq61, hr⟩ := bindS hr
   refine W.cut (fun a w => ∃ (q65 : Bool), q65 = q62 ∧ Rep a 59 [(0, .int .i64 x0), (1, .int .i64 x1), (2, .int .i64 x2), (6, .pointer (some ⟨b51, 0, none⟩)), (25, .bool q65)] ∧ St w s (pt b51 (.cells #[.int .i64 0, .int .i64 0, .int .i64 0] 56 (0, 0)) :: R)) ?_ ?_
   ·refine W.gen fun K66 hK66 => ?_
    refine W.region ?_
    refine vP hS hE (Gives.p hE rfl) rfl ?_; clear hE a; intro a hE
    obtain ⟨q67, hq68, hq61⟩ := bindS hq61
    have hc_ := Fareprime_ok hS  hq68
    refine WL.fnq hE (hc_) (runs_plain rfl) bd27 rfl rfl rfl ?_
    clear hE hS hc_; rintro e w ⟨rfl, hS⟩; refine ⟨_, rfl, ?_⟩; clear a; intro a hE
    refine vP hS hE (Gives.p hE rfl) rfl ?_; clear hE a; intro a hE
    refine vP hS hE (Gives.p hE rfl) rfl ?_; clear hE a; intro a hE
    rcases Bool.eq_false_or_eq_true !q67 with hg69 | hg69
    ·replace hq61 := iteT hg69 hq61
     refine WL.no hE (runs_not hE rfl rfl rfl (by rw [hg69]; decide)) rfl ?_; clear hE a; intro a hE
     refine WL.no hE (runs_not hE rfl rfl rfl (by rw [hg69]; decide)) rfl ?_; clear hE a; intro a hE
     refine WL.no hE (runs_not hE rfl rfl rfl (by rw [hg69]; decide)) rfl ?_; clear hE a; intro a hE
     refine vP hS hE (Gives.pickT hE rfl hg69 rfl) rfl ?_; clear hE a; intro a hE
     refine vP hS hE (Gives.p hE rfl) rfl ?_; clear hE a; intro a hE
     refine WL.no hE (runs_not hE rfl rfl rfl (by decide)) rfl ?_; clear hE a; intro a hE
     refine WL.no hE (runs_not hE rfl rfl rfl (by decide)) rfl ?_; clear hE a; intro a hE
     refine WL.no hE (runs_not hE rfl rfl rfl (by decide)) rfl ?_; clear hE a; intro a hE
     refine vP hS hE (Gives.pickT hE rfl rfl rfl) rfl ?_; clear hE a; intro a hE
     refine vP hS hE (Gives.p hE rfl) rfl ?_; clear hE a; intro a hE
     refine WL.nil ?_
     subst hK66
     exact ⟨true, Option.some.inj hq61, hE.pick _ ⟨rfl, rfl, rfl, rfl, rfl, trivial⟩, hS⟩
    ·replace hq61 := iteF hg69 hq61
     refine WL.vS hS hE (runs_if hE rfl rfl rfl hg69) (Gives.p hE rfl) rfl ?_; clear hE a; intro a hE
     obtain ⟨q70, hq71, hq61⟩ := bindS hq61
     have hc_ := Fareprime_ok hS  hq71
     refine WL.fnq hE (hc_) (runs_if hE rfl rfl rfl hg69) bd27 rfl rfl rfl ?_
     clear hE hS hc_; rintro e w ⟨rfl, hS⟩; refine ⟨_, rfl, ?_⟩; clear a; intro a hE
     refine WL.vS hS hE (runs_if hE rfl rfl rfl hg69) (Gives.p hE rfl) rfl ?_; clear hE a; intro a hE
     refine vP hS hE (Gives.pickF hE rfl hg69 rfl) rfl ?_; clear hE a; intro a hE
     refine vP hS hE (Gives.p hE rfl) rfl ?_; clear hE a; intro a hE
     rcases Bool.eq_false_or_eq_true !q70 with hg72 | hg72
     ·replace hq61 := iteT hg72 hq61
      refine WL.no hE (runs_not hE rfl rfl rfl (by rw [hg72]; decide)) rfl ?_; clear hE a; intro a hE
      refine WL.no hE (runs_not hE rfl rfl rfl (by rw [hg72]; decide)) rfl ?_; clear hE a; intro a hE
      refine WL.no hE (runs_not hE rfl rfl rfl (by rw [hg72]; decide)) rfl ?_; clear hE a; intro a hE
      refine vP hS hE (Gives.pickT hE rfl hg72 rfl) rfl ?_; clear hE a; intro a hE
      refine vP hS hE (Gives.p hE rfl) rfl ?_; clear hE a; intro a hE
      refine WL.nil ?_
      subst hK66
      exact ⟨true, Option.some.inj hq61, hE.pick _ ⟨rfl, rfl, rfl, rfl, rfl, trivial⟩, hS⟩
     ·replace hq61 := iteF hg72 hq61
      refine WL.vS hS hE (runs_if hE rfl rfl rfl hg72) (Gives.p hE rfl) rfl ?_; clear hE a; intro a hE
      refine WL.vS hS hE (runs_if hE rfl rfl rfl hg72) (Gives.p hE rfl) rfl ?_; clear hE a; intro a hE
      refine WL.vS hS hE (runs_if hE rfl rfl rfl hg72) (Gives.p hE rfl) rfl ?_; clear hE a; intro a hE
      refine vP hS hE (Gives.pickF hE rfl hg72 rfl) rfl ?_; clear hE a; intro a hE
      refine vP hS hE (Gives.p hE rfl) rfl ?_; clear hE a; intro a hE
      refine WL.nil ?_
      subst hK66
      exact ⟨(x0 == x1), Option.some.inj hq61, hE.pick _ ⟨rfl, rfl, rfl, rfl, rfl, trivial⟩, hS⟩
   ·clear hE hS a w; rintro a w ⟨q65, rfl, hE, hS⟩
    refine W.cond hE rfl (fun hc73 => ?_) (fun hc73 => ?_)
    ·replace hr := iteT hc73 hr
     refine W.seq (W.region ?_)
     refine vP hS hE (Gives.build hE (vs := []) [.int .i64 0, .int .i64 0, .int .i64 0] rfl (by kernel_rfl)) rfl ?_; clear hE a; intro a hE
     refine WL.storeI hE hS 0 rfl [.int .i64 0, .int .i64 0, .int .i64 0] (runs_plain rfl) rfl rfl rfl ty56 rfl rfl rfl rfl ?_; clear hE hS a w; intro a w hE hS
     refine vP hS hE (Gives.p hE rfl) rfl ?_; clear hE a; intro a hE
     refine WL.nil ?_
     refine W.ret ?_
     refine finG (fn := Tryz.f12) (rs := [.cell 6 56, .tmp 7]) (vs := [_, _]) hE rfl ⟨⟨_, rfl, .inl ⟨_, rfl, hS.seesAt 0 rfl, ty56⟩⟩, rfl, trivial⟩ ?_
     obtain rfl := Option.some.inj hr
     replace hS := hS.tail
     exact ⟨_, rfl, rfl, hS⟩
    ·replace hr := iteF hc73 hr
     refine W.skip ?_
     refine W.seq (W.region ?_)
     refine vP hS hE (Gives.p hE rfl) rfl ?_; clear hE a; intro a hE
     refine vP hS hE (Gives.p hE rfl) rfl ?_; clear hE a; intro a hE
     refine vP hS hE (Gives.p hE rfl) rfl ?_; clear hE a; intro a hE
     refine vP hS hE (Gives.p hE rfl) rfl ?_; clear hE a; intro a hE
     refine vP hS hE (Gives.p hE rfl) rfl ?_; clear hE a; intro a hE
     refine vP hS hE (Gives.p hE rfl) rfl ?_; clear hE a; intro a hE
     obtain ⟨q74, hq75, hr⟩ := bindS hr
     have hc_ := Fareinverse_ok hS  hq75
     refine WL.fnq hE (hc_) (runs_plain rfl) bd28 rfl rfl rfl ?_
     clear hE hS hc_; rintro e w ⟨rfl, hS⟩; refine ⟨_, rfl, ?_⟩; clear a; intro a hE
     refine vP hS hE (Gives.p hE rfl) rfl ?_; clear hE a; intro a hE
     refine vP hS hE (Gives.p hE rfl) rfl ?_; clear hE a; intro a hE
     refine vP hS hE (Gives.p hE rfl) rfl ?_; clear hE a; intro a hE
     refine vP hS hE (Gives.p hE rfl) rfl ?_; clear hE a; intro a hE
     refine vP hS hE (Gives.p hE rfl) rfl ?_; clear hE a; intro a hE
     refine WL.nil ?_
     refine W.seq ?_
     refine W.seq (W.region ?_)
     refine vP hS hE (Gives.p hE rfl) rfl ?_; clear hE a; intro a hE
     refine vP hS hE (Gives.p hE rfl) rfl ?_; clear hE a; intro a hE
     refine WL.nil ?_
     refine W.cond hE rfl (fun hc76 => ?_) (fun hc76 => ?_)
     ·replace hr := iteT hc76 hr
      refine W.seq (W.region ?_)
      refine vP hS hE (Gives.build hE (vs := []) [.int .i64 0, .int .i64 0, .int .i64 0] rfl (by kernel_rfl)) rfl ?_; clear hE a; intro a hE
      refine WL.storeI hE hS 0 rfl [.int .i64 0, .int .i64 0, .int .i64 0] (runs_plain rfl) rfl rfl rfl ty56 rfl rfl rfl rfl ?_; clear hE hS a w; intro a w hE hS
      refine vP hS hE (Gives.p hE rfl) rfl ?_; clear hE a; intro a hE
      refine WL.nil ?_
      refine W.ret ?_
      refine finG (fn := Tryz.f12) (rs := [.cell 6 56, .tmp 7]) (vs := [_, _]) hE rfl ⟨⟨_, rfl, .inl ⟨_, rfl, hS.seesAt 0 rfl, ty56⟩⟩, rfl, trivial⟩ ?_
      obtain rfl := Option.some.inj hr
      replace hS := hS.tail
      exact ⟨_, rfl, rfl, hS⟩
     ·replace hr := iteF hc76 hr
      refine W.skip ?_
      refine W.seq (W.region ?_)
      refine vP hS hE (Gives.p hE rfl) rfl ?_; clear hE a; intro a hE
      refine vP hS hE (Gives.p hE rfl) rfl ?_; clear hE a; intro a hE
      refine vP hS hE (Gives.p hE rfl) rfl ?_; clear hE a; intro a hE
      refine vP hS hE (Gives.p hE rfl) rfl ?_; clear hE a; intro a hE
      refine vP hS hE (Gives.p hE rfl) rfl ?_; clear hE a; intro a hE
      refine vP hS hE (Gives.build hE (vs := [(0, .int .i64 (w64 (x0 * x1))), (1, .int .i64 x2), (2, .int .i64 q74.1)]) [.int .i64 (w64 (x0 * x1)), .int .i64 x2, .int .i64 q74.1] rfl (by kernel_rfl)) rfl ?_; clear hE a; intro a hE
      refine WL.storeI hE hS 0 rfl [.int .i64 (w64 (x0 * x1)), .int .i64 x2, .int .i64 q74.1] (runs_plain rfl) rfl rfl rfl ty56 rfl rfl rfl rfl ?_; clear hE hS a w; intro a w hE hS
      refine vP hS hE (Gives.p hE rfl) rfl ?_; clear hE a; intro a hE
      refine WL.nil ?_
      refine W.ret ?_
      refine finG (fn := Tryz.f12) (rs := [.cell 6 56, .tmp 7]) (vs := [_, _]) hE rfl ⟨⟨_, rfl, .inl ⟨_, rfl, hS.seesAt 0 rfl, ty56⟩⟩, rfl, trivial⟩ ?_
      obtain rfl := Option.some.inj hr
      replace hS := hS.tail
      exact ⟨_, rfl, rfl, hS⟩
set_option maxHeartbeats 8000000 in
theorem Fishref2Arrives_ok  {w : World} {s : Sg} {R : List HP} {x0 : ApiDay} {a0_0 : Option Addr} {c0_0 : Nat} {a0_1 : Option Addr} {c0_1 : Nat} {x1 : GuideJourney} {a1_0 : Option Addr} {c1_0 : Nat} (hS : St w s (R)) (h0_0 : Sl 4 RApiTrain s a0_0 c0_0 x0.Trains) (_h0_1 : Sl 1 (RL 1 (RI .i64)) s a0_1 c0_1 x0.Turns) (h1_0 : Sl 3 RGuideRide s a1_0 c1_0 x1.Rides) {r : Int} (hr : Fishref2Arrives x0 x1 = some r) :
  Calls Tryz.prog 14 [.agg (List.toArray [.slice a0_0 x0.Trains.length c0_0, .slice a0_1 x0.Turns.length c0_1]), .agg (List.toArray [.slice a1_0 x1.Rides.length c1_0])].toArray w (fun e w => e = .returned (.int .i64 r) ∧ St w s (R)) := by
 refine enter Tryz.func14 rfl rfl rfl fun a hE => ?_
 rw [Fishref2Arrives] at hr
 refine W.seq (W.region ?_)
 refine WL.box hE hS (runs_plain rfl) rfl rfl rfl ?_; clear hE hS a w; intro b51 a w hE hS
 refine WL.box hE hS (runs_plain rfl) rfl rfl rfl ?_; clear hE hS a w; intro b52 a w hE hS
 refine vP hS hE (Gives.p hE rfl) rfl ?_; clear hE a; intro a hE
 refine WL.nil ?_
 refine W.seq (W.region ?_)
 refine vP hS hE (Gives.fld hE rfl fl28_0) rfl ?_; clear hE a; intro a hE
 refine vP hS hE (Gives.loadB hE 0 rfl rfl rfl ty26) rfl ?_; clear hE a; intro a hE
 refine vP hS hE (Gives.fld hE rfl fl28_0) rfl ?_; clear hE a; intro a hE
 refine vP hS hE (Gives.loadB hE 0 rfl rfl rfl ty26) rfl ?_; clear hE a; intro a hE
 refine vP hS hE (Gives.len hE rfl sl26) rfl ?_; clear hE a; intro a hE
 refine vP hS hE (Gives.p hE rfl) rfl ?_; clear hE a; intro a hE
 obtain ⟨x53, hx54, hr⟩ := bindS hr
 obtain ⟨hi55, hlt56, hy57⟩ := gx_some hx54
 obtain ⟨cs58, hl59, hR60, hat61⟩ := h1_0.at hy57
 subst hR60
 refine vP hS hE (Gives.idx hE (w64 (((x1.Rides).length : Int) - 1)).toNat rfl rfl sl26 hi55 hlt56 (h1_0.aok hlt56)) rfl ?_; clear hE a; intro a hE
 refine vP hS hE (Gives.loadA hE rfl (fun w h => hat61 w _ h) ty39) rfl ?_; clear hE a; intro a hE
 refine WL.alloc hE hS (runs_plain rfl) zr39 rfl ?_; clear hE hS a w; intro b62 a w hE hS
 refine WL.storeI hE hS 0 rfl (GuideRide.cells x53) (runs_plain rfl) rfl rfl rfl ty39 rfl rfl rfl rfl ?_; clear hE hS a w; intro a w hE hS
 refine WL.nil ?_
 refine W.seq ?_
 refine W.regionQ (C := fun w => St w s (pt b62 (.cells (GuideRide.cells x53).toArray 39 (0, 0)) :: pt b52 (.cells #[.slice a1_0 x1.Rides.length c1_0] 28 (0, 0)) :: pt b51 (.cells #[.slice a0_0 x0.Trains.length c0_0, .slice a0_1 x0.Turns.length c0_1] 25 (0, 0)) :: R)) mixed (by kernel_rfl) hS.drew ?_
 refine qP hE (Gives.fld hE rfl fl25_0) rfl ?_; clear hE a; intro a hE
 refine qP hE (Gives.loadB hE 2 rfl rfl rfl ty22) rfl ?_; clear hE a; intro a hE
 refine qP hE (Gives.fld hE rfl fl39_0) rfl ?_; clear hE a; intro a hE
 refine qP hE (Gives.loadB hE 0 rfl rfl rfl ty3) rfl ?_; clear hE a; intro a hE
 obtain ⟨x63, hx64, hr⟩ := bindS hr
 obtain ⟨hi65, hlt66, hy67⟩ := gx_some hx64
 obtain ⟨cs68, hl69, hR70, hat71⟩ := h0_0.at hy67
 obtain ⟨a72, c73, a75, c76, rfl, h74, h77⟩ := hR70
 refine qP hE (Gives.idx hE (x53.Train).toNat rfl rfl sl22 hi65 hlt66 (h0_0.aok hlt66)) rfl ?_; clear hE a; intro a hE
 refine qP hE (Gives.fld hE rfl fl42_2) rfl ?_; clear hE a; intro a hE
 refine qP hE (Gives.load1 hE rfl (fun w h => (hat71 w _ h).one rfl) ty40) rfl ?_; clear hE a; intro a hE
 refine qP hE (Gives.fld hE rfl fl39_2) rfl ?_; clear hE a; intro a hE
 refine qP hE (Gives.loadB hE 0 rfl rfl rfl ty3) rfl ?_; clear hE a; intro a hE
 obtain ⟨x78, hx79, hr⟩ := bindS hr
 obtain ⟨hi80, hlt81, hy82⟩ := gx_some hx79
 obtain ⟨cs83, hl84, hR85, hat86⟩ := h74.at hy82
 subst hR85
 refine qP hE (Gives.idx hE (x53.Off).toNat rfl rfl sl40 hi80 hlt81 (h74.aok hlt81)) rfl ?_; clear hE a; intro a hE
 refine qP hE (Gives.fld hE rfl fl44_2) rfl ?_; clear hE a; intro a hE
 refine qP hE (Gives.load1 hE rfl (fun w h => (hat86 w _ h).one rfl) ty3) rfl ?_; clear hE a; intro a hE
 refine qP hE (Gives.p hE rfl) rfl ?_; clear hE a; intro a hE
 refine QL.nil ?_; clear hS w; intro w hS
 refine W.ret ?_
 refine finG (fn := Tryz.f14) (rs := [.tmp 4]) (vs := [_]) hE rfl ⟨rfl, trivial⟩ ?_
 obtain rfl := Option.some.inj hr
 replace hS := hS.tail
 replace hS := hS.tail
 replace hS := hS.tail
 exact ⟨rfl, hS⟩
set_option maxHeartbeats 8000000 in
theorem FareKeycheck_ok  {w : World} {s : Sg} {R : List HP} {x0 : FareKey} {x1 : Bool} (hS : St w s (R))  {r : Int} (hr : FareKeycheck x0 x1 = r) :
  Calls Tryz.prog 29 [.agg (FareKey.cells x0).toArray, .bool x1].toArray w (fun e w => e = .returned (.int .i64 r) ∧ St w s (R)) := by
 refine enter Tryz.func29 rfl rfl rfl fun a hE => ?_
 rw [FareKeycheck] at hr
 refine W.seq (W.region ?_)
 refine WL.box hE hS (runs_plain rfl) rfl rfl rfl ?_; clear hE hS a w; intro b51 a w hE hS
 refine vP hS hE (Gives.p hE rfl) rfl ?_; clear hE a; intro a hE
 refine WL.nil ?_
 refine W.seq ?_
 refine W.seq ?_
 obtain ⟨q53, hq52, hr⟩ := bndS hr
 refine W.cut (fun a w => ∃ (q56 : Bool), q56 = q53 ∧ Rep a 27 [(26, .bool q56)] ∧ St w s (pt b51 (.cells (FareKey.cells x0).toArray 56 (0, 0)) :: R)) ?_ ?_
 ·refine W.gen fun K57 hK57 => ?_
  refine W.region ?_
  refine vP hS hE (Gives.fld hE rfl fl56_0) rfl ?_; clear hE a; intro a hE
  refine vP hS hE (Gives.loadB hE 0 rfl rfl rfl ty3) rfl ?_; clear hE a; intro a hE
  refine WL.fnq hE (Farewithin_ok hS  rfl (r := Farewithin x0.N 1018081 1072497001)) (runs_plain rfl) bd26 rfl rfl rfl ?_
  clear hE hS; rintro e w ⟨rfl, hS⟩; refine ⟨_, rfl, ?_⟩; clear a; intro a hE
  refine vP hS hE (Gives.p hE rfl) rfl ?_; clear hE a; intro a hE
  refine vP hS hE (Gives.p hE rfl) rfl ?_; clear hE a; intro a hE
  rcases Bool.eq_false_or_eq_true (!(Farewithin x0.N 1018081 1072497001)) with hg58 | hg58
  ·replace hq52 := iteT hg58 hq52
   refine WL.no hE (runs_not hE rfl rfl rfl (by rw [hg58]; decide)) rfl ?_; clear hE a; intro a hE
   refine WL.no hE (runs_not hE rfl rfl rfl (by rw [hg58]; decide)) rfl ?_; clear hE a; intro a hE
   refine WL.no hE (runs_not hE rfl rfl rfl (by rw [hg58]; decide)) rfl ?_; clear hE a; intro a hE
   refine WL.no hE (runs_not hE rfl rfl rfl (by rw [hg58]; decide)) rfl ?_; clear hE a; intro a hE
   refine vP hS hE (Gives.pickT hE rfl hg58 rfl) rfl ?_; clear hE a; intro a hE
   refine vP hS hE (Gives.p hE rfl) rfl ?_; clear hE a; intro a hE
   refine WL.no hE (runs_not hE rfl rfl rfl (by decide)) rfl ?_; clear hE a; intro a hE
   refine WL.no hE (runs_not hE rfl rfl rfl (by decide)) rfl ?_; clear hE a; intro a hE
   refine WL.no hE (runs_undef hE rfl rfl rfl) rfl ?_; clear hE a; intro a hE
   refine WL.no hE (runs_undef hE rfl rfl rfl) rfl ?_; clear hE a; intro a hE
   refine WL.no hE (runs_undef hE rfl rfl rfl) rfl ?_; clear hE a; intro a hE
   refine WL.no hE (runs_undef hE rfl rfl rfl) rfl ?_; clear hE a; intro a hE
   refine WL.no hE (runs_undef hE rfl rfl rfl) rfl ?_; clear hE a; intro a hE
   refine WL.no hE (runs_undef hE rfl rfl rfl) rfl ?_; clear hE a; intro a hE
   refine WL.no hE (runs_undef hE rfl rfl rfl) rfl ?_; clear hE a; intro a hE
   refine WL.no hE (runs_not hE rfl rfl rfl (by decide)) rfl ?_; clear hE a; intro a hE
   refine vP hS hE (Gives.pickT hE rfl rfl rfl) rfl ?_; clear hE a; intro a hE
   refine WL.nil ?_
   subst hK57
   exact ⟨true, hq52, hE.pick _ ⟨rfl, trivial⟩, hS⟩
  ·replace hq52 := iteF hg58 hq52
   refine WL.vS hS hE (runs_if hE rfl rfl rfl hg58) (Gives.fld hE rfl fl56_1) rfl ?_; clear hE a; intro a hE
   refine WL.vS hS hE (runs_if hE rfl rfl rfl hg58) (Gives.loadB hE 0 rfl rfl rfl ty3) rfl ?_; clear hE a; intro a hE
   refine WL.fnq hE (Farewithin_ok hS  rfl (r := Farewithin x0.E 3 32749)) (runs_if hE rfl rfl rfl hg58) bd26 rfl rfl rfl ?_
   clear hE hS; rintro e w ⟨rfl, hS⟩; refine ⟨_, rfl, ?_⟩; clear a; intro a hE
   refine WL.vS hS hE (runs_if hE rfl rfl rfl hg58) (Gives.p hE rfl) rfl ?_; clear hE a; intro a hE
   refine vP hS hE (Gives.pickF hE rfl hg58 rfl) rfl ?_; clear hE a; intro a hE
   refine vP hS hE (Gives.p hE rfl) rfl ?_; clear hE a; intro a hE
   rcases Bool.eq_false_or_eq_true (!(Farewithin x0.E 3 32749)) with hg59 | hg59
   ·replace hq52 := iteT hg59 hq52
    refine WL.no hE (runs_not hE rfl rfl rfl (by rw [hg59]; decide)) rfl ?_; clear hE a; intro a hE
    refine WL.no hE (runs_not hE rfl rfl rfl (by rw [hg59]; decide)) rfl ?_; clear hE a; intro a hE
    refine WL.no hE (runs_undef hE rfl rfl rfl) rfl ?_; clear hE a; intro a hE
    refine WL.no hE (runs_undef hE rfl rfl rfl) rfl ?_; clear hE a; intro a hE
    refine WL.no hE (runs_undef hE rfl rfl rfl) rfl ?_; clear hE a; intro a hE
    refine WL.no hE (runs_undef hE rfl rfl rfl) rfl ?_; clear hE a; intro a hE
    refine WL.no hE (runs_undef hE rfl rfl rfl) rfl ?_; clear hE a; intro a hE
    refine WL.no hE (runs_undef hE rfl rfl rfl) rfl ?_; clear hE a; intro a hE
    refine WL.no hE (runs_undef hE rfl rfl rfl) rfl ?_; clear hE a; intro a hE
    refine WL.no hE (runs_not hE rfl rfl rfl (by rw [hg59]; decide)) rfl ?_; clear hE a; intro a hE
    refine vP hS hE (Gives.pickT hE rfl hg59 rfl) rfl ?_; clear hE a; intro a hE
    refine WL.nil ?_
    subst hK57
    exact ⟨true, hq52, hE.pick _ ⟨rfl, trivial⟩, hS⟩
   ·replace hq52 := iteF hg59 hq52
    refine WL.vS hS hE (runs_if hE rfl rfl rfl hg59) (Gives.p hE rfl) rfl ?_; clear hE a; intro a hE
    refine WL.vS hS hE (runs_if hE rfl rfl rfl hg59) (Gives.p hE rfl) rfl ?_; clear hE a; intro a hE
    rcases Bool.eq_false_or_eq_true x1 with hg60 | hg60
    ·replace hq52 := iteT hg60 hq52
     refine WL.vS hS hE (runs_if hE rfl rfl rfl hg60) (Gives.fld hE rfl fl56_2) rfl ?_; clear hE a; intro a hE
     refine WL.vS hS hE (runs_if hE rfl rfl rfl hg60) (Gives.loadB hE 0 rfl rfl rfl ty3) rfl ?_; clear hE a; intro a hE
     refine WL.vS hS hE (runs_if hE rfl rfl rfl hg60) (Gives.fld hE rfl fl56_0) rfl ?_; clear hE a; intro a hE
     refine WL.vS hS hE (runs_if hE rfl rfl rfl hg60) (Gives.loadB hE 0 rfl rfl rfl ty3) rfl ?_; clear hE a; intro a hE
     refine WL.vS hS hE (runs_if hE rfl rfl rfl hg60) (Gives.p hE rfl) rfl ?_; clear hE a; intro a hE
     refine WL.fnq hE (Farewithin_ok hS  rfl (r := Farewithin x0.D 1 (w64 (x0.N - 1)))) (runs_if hE rfl rfl rfl hg60) bd26 rfl rfl rfl ?_
     clear hE hS; rintro e w ⟨rfl, hS⟩; refine ⟨_, rfl, ?_⟩; clear a; intro a hE
     refine WL.vS hS hE (runs_if hE rfl rfl rfl hg60) (Gives.p hE rfl) rfl ?_; clear hE a; intro a hE
     refine WL.vS hS hE (runs_if hE rfl rfl rfl hg59) (Gives.pickT hE rfl hg60 rfl) rfl ?_; clear hE a; intro a hE
     refine vP hS hE (Gives.pickF hE rfl hg59 rfl) rfl ?_; clear hE a; intro a hE
     refine WL.nil ?_
     subst hK57
     exact ⟨!(Farewithin x0.D 1 (w64 (x0.N - 1))), hq52, hE.pick _ ⟨rfl, trivial⟩, hS⟩
    ·replace hq52 := iteF hg60 hq52
     refine WL.no hE (runs_not hE rfl rfl rfl (by rw [hg60]; decide)) rfl ?_; clear hE a; intro a hE
     refine WL.no hE (runs_not hE rfl rfl rfl (by rw [hg60]; decide)) rfl ?_; clear hE a; intro a hE
     refine WL.no hE (runs_not hE rfl rfl rfl (by rw [hg60]; decide)) rfl ?_; clear hE a; intro a hE
     refine WL.no hE (runs_not hE rfl rfl rfl (by rw [hg60]; decide)) rfl ?_; clear hE a; intro a hE
     refine WL.no hE (runs_not hE rfl rfl rfl (by rw [hg60]; decide)) rfl ?_; clear hE a; intro a hE
     refine WL.no hE (runs_not hE rfl rfl rfl (by rw [hg60]; decide)) rfl ?_; clear hE a; intro a hE
     refine WL.no hE (runs_not hE rfl rfl rfl (by rw [hg60]; decide)) rfl ?_; clear hE a; intro a hE
     refine WL.vS hS hE (runs_if hE rfl rfl rfl hg59) (Gives.pickF hE rfl hg60 rfl) rfl ?_; clear hE a; intro a hE
     refine vP hS hE (Gives.pickF hE rfl hg59 rfl) rfl ?_; clear hE a; intro a hE
     refine WL.nil ?_
     subst hK57
     exact ⟨false, hq52, hE.pick _ ⟨rfl, trivial⟩, hS⟩
 ·clear hE hS a w; rintro a w ⟨q56, rfl, hE, hS⟩
  refine W.cond hE rfl (fun hc61 => ?_) (fun hc61 => ?_)
  ·replace hr := iteT hc61 hr
   refine W.seq (W.region ?_)
   refine vP hS hE (Gives.p hE rfl) rfl ?_; clear hE a; intro a hE
   refine WL.nil ?_
   refine W.ret ?_
   refine finG (fn := Tryz.f29) (rs := [.tmp 4]) (vs := [_]) hE rfl ⟨rfl, trivial⟩ ?_
   subst hr
   replace hS := hS.tail
   exact ⟨rfl, hS⟩
  ·replace hr := iteF hc61 hr
   refine W.skip ?_
   refine W.seq (W.region ?_)
   refine vP hS hE (Gives.p hE rfl) rfl ?_; clear hE a; intro a hE
   refine WL.nil ?_
   refine W.ret ?_
   refine finG (fn := Tryz.f29) (rs := [.tmp 4]) (vs := [_]) hE rfl ⟨rfl, trivial⟩ ?_
   subst hr
   replace hS := hS.tail
   exact ⟨rfl, hS⟩
set_option maxHeartbeats 8000000 in
theorem FareTicketcheck_ok  {w : World} {s : Sg} {R : List HP} {x0 : FareTicket} {a0_0 : Option Addr} {c0_0 : Nat} (hS : St w s (R)) (h0_0 : Sl 1 (RI .i64) s a0_0 c0_0 x0.Zones) {r : Int} (hr : FareTicketcheck x0 = some r) :
  Calls Tryz.prog 30 [.agg (List.toArray [.int .i64 x0.No, .int .i64 x0.Day, .int .i64 x0.Start, .int .i64 x0.End, .int .i64 x0.Price, .slice a0_0 x0.Zones.length c0_0])].toArray w (fun e w => e = .returned (.int .i64 r) ∧ St w s (R)) := by
 refine enter Tryz.func30 rfl rfl rfl fun a hE => ?_
 rw [FareTicketcheck] at hr
 refine W.seq (W.region ?_)
 refine WL.box hE hS (runs_plain rfl) rfl rfl rfl ?_; clear hE hS a w; intro b51 a w hE hS
 refine vP hS hE (Gives.p hE rfl) rfl ?_; clear hE a; intro a hE
 refine WL.nil ?_
 refine W.seq ?_
 refine W.block ?_
 refine W.seq ?_
 obtain ⟨q53, hq52, hr⟩ := bndS hr
 refine W.cut (fun a w => ∃ (q56 : Bool), q56 = q53 ∧ Rep a 47 [(1, .pointer (some ⟨b51, 0, none⟩)), (3, .bool q56)] ∧ St w s (pt b51 (.cells #[.int .i64 x0.No, .int .i64 x0.Day, .int .i64 x0.Start, .int .i64 x0.End, .int .i64 x0.Price, .slice a0_0 x0.Zones.length c0_0] 62 (0, 0)) :: R)) ?_ ?_
 ·refine W.gen fun K57 hK57 => ?_
  refine W.region ?_
  refine vP hS hE (Gives.fld hE rfl fl62_0) rfl ?_; clear hE a; intro a hE
  refine vP hS hE (Gives.loadB hE 0 rfl rfl rfl ty3) rfl ?_; clear hE a; intro a hE
  refine WL.fnq hE (Farewithin_ok hS  rfl (r := Farewithin x0.No 0 999999)) (runs_plain rfl) bd26 rfl rfl rfl ?_
  clear hE hS; rintro e w ⟨rfl, hS⟩; refine ⟨_, rfl, ?_⟩; clear a; intro a hE
  refine vP hS hE (Gives.p hE rfl) rfl ?_; clear hE a; intro a hE
  refine vP hS hE (Gives.p hE rfl) rfl ?_; clear hE a; intro a hE
  rcases Bool.eq_false_or_eq_true (!(Farewithin x0.No 0 999999)) with hg58 | hg58
  ·replace hq52 := iteT hg58 hq52
   refine WL.no hE (runs_not hE rfl rfl rfl (by rw [hg58]; decide)) rfl ?_; clear hE a; intro a hE
   refine WL.no hE (runs_not hE rfl rfl rfl (by rw [hg58]; decide)) rfl ?_; clear hE a; intro a hE
   refine WL.no hE (runs_not hE rfl rfl rfl (by rw [hg58]; decide)) rfl ?_; clear hE a; intro a hE
   refine WL.no hE (runs_not hE rfl rfl rfl (by rw [hg58]; decide)) rfl ?_; clear hE a; intro a hE
   refine vP hS hE (Gives.pickT hE rfl hg58 rfl) rfl ?_; clear hE a; intro a hE
   refine vP hS hE (Gives.p hE rfl) rfl ?_; clear hE a; intro a hE
   refine WL.no hE (runs_not hE rfl rfl rfl (by decide)) rfl ?_; clear hE a; intro a hE
   refine WL.no hE (runs_not hE rfl rfl rfl (by decide)) rfl ?_; clear hE a; intro a hE
   refine WL.no hE (runs_not hE rfl rfl rfl (by decide)) rfl ?_; clear hE a; intro a hE
   refine WL.no hE (runs_not hE rfl rfl rfl (by decide)) rfl ?_; clear hE a; intro a hE
   refine vP hS hE (Gives.pickT hE rfl rfl rfl) rfl ?_; clear hE a; intro a hE
   refine vP hS hE (Gives.p hE rfl) rfl ?_; clear hE a; intro a hE
   refine WL.no hE (runs_not hE rfl rfl rfl (by decide)) rfl ?_; clear hE a; intro a hE
   refine WL.no hE (runs_not hE rfl rfl rfl (by decide)) rfl ?_; clear hE a; intro a hE
   refine WL.no hE (runs_not hE rfl rfl rfl (by decide)) rfl ?_; clear hE a; intro a hE
   refine WL.no hE (runs_not hE rfl rfl rfl (by decide)) rfl ?_; clear hE a; intro a hE
   refine vP hS hE (Gives.pickT hE rfl rfl rfl) rfl ?_; clear hE a; intro a hE
   refine vP hS hE (Gives.p hE rfl) rfl ?_; clear hE a; intro a hE
   refine WL.no hE (runs_not hE rfl rfl rfl (by decide)) rfl ?_; clear hE a; intro a hE
   refine WL.no hE (runs_not hE rfl rfl rfl (by decide)) rfl ?_; clear hE a; intro a hE
   refine WL.no hE (runs_not hE rfl rfl rfl (by decide)) rfl ?_; clear hE a; intro a hE
   refine WL.no hE (runs_not hE rfl rfl rfl (by decide)) rfl ?_; clear hE a; intro a hE
   refine vP hS hE (Gives.pickT hE rfl rfl rfl) rfl ?_; clear hE a; intro a hE
   refine vP hS hE (Gives.p hE rfl) rfl ?_; clear hE a; intro a hE
   refine WL.nil ?_
   subst hK57
   exact ⟨true, hq52, hE.pick _ ⟨rfl, rfl, trivial⟩, hS⟩
  ·replace hq52 := iteF hg58 hq52
   refine WL.vS hS hE (runs_if hE rfl rfl rfl hg58) (Gives.fld hE rfl fl62_1) rfl ?_; clear hE a; intro a hE
   refine WL.vS hS hE (runs_if hE rfl rfl rfl hg58) (Gives.loadB hE 0 rfl rfl rfl ty3) rfl ?_; clear hE a; intro a hE
   refine WL.fnq hE (Farewithin_ok hS  rfl (r := Farewithin x0.Day 0 6)) (runs_if hE rfl rfl rfl hg58) bd26 rfl rfl rfl ?_
   clear hE hS; rintro e w ⟨rfl, hS⟩; refine ⟨_, rfl, ?_⟩; clear a; intro a hE
   refine WL.vS hS hE (runs_if hE rfl rfl rfl hg58) (Gives.p hE rfl) rfl ?_; clear hE a; intro a hE
   refine vP hS hE (Gives.pickF hE rfl hg58 rfl) rfl ?_; clear hE a; intro a hE
   refine vP hS hE (Gives.p hE rfl) rfl ?_; clear hE a; intro a hE
   rcases Bool.eq_false_or_eq_true (!(Farewithin x0.Day 0 6)) with hg59 | hg59
   ·replace hq52 := iteT hg59 hq52
    refine WL.no hE (runs_not hE rfl rfl rfl (by rw [hg59]; decide)) rfl ?_; clear hE a; intro a hE
    refine WL.no hE (runs_not hE rfl rfl rfl (by rw [hg59]; decide)) rfl ?_; clear hE a; intro a hE
    refine WL.no hE (runs_not hE rfl rfl rfl (by rw [hg59]; decide)) rfl ?_; clear hE a; intro a hE
    refine WL.no hE (runs_not hE rfl rfl rfl (by rw [hg59]; decide)) rfl ?_; clear hE a; intro a hE
    refine vP hS hE (Gives.pickT hE rfl hg59 rfl) rfl ?_; clear hE a; intro a hE
    refine vP hS hE (Gives.p hE rfl) rfl ?_; clear hE a; intro a hE
    refine WL.no hE (runs_not hE rfl rfl rfl (by decide)) rfl ?_; clear hE a; intro a hE
    refine WL.no hE (runs_not hE rfl rfl rfl (by decide)) rfl ?_; clear hE a; intro a hE
    refine WL.no hE (runs_not hE rfl rfl rfl (by decide)) rfl ?_; clear hE a; intro a hE
    refine WL.no hE (runs_not hE rfl rfl rfl (by decide)) rfl ?_; clear hE a; intro a hE
    refine vP hS hE (Gives.pickT hE rfl rfl rfl) rfl ?_; clear hE a; intro a hE
    refine vP hS hE (Gives.p hE rfl) rfl ?_; clear hE a; intro a hE
    refine WL.no hE (runs_not hE rfl rfl rfl (by decide)) rfl ?_; clear hE a; intro a hE
    refine WL.no hE (runs_not hE rfl rfl rfl (by decide)) rfl ?_; clear hE a; intro a hE
    refine WL.no hE (runs_not hE rfl rfl rfl (by decide)) rfl ?_; clear hE a; intro a hE
    refine WL.no hE (runs_not hE rfl rfl rfl (by decide)) rfl ?_; clear hE a; intro a hE
    refine vP hS hE (Gives.pickT hE rfl rfl rfl) rfl ?_; clear hE a; intro a hE
    refine vP hS hE (Gives.p hE rfl) rfl ?_; clear hE a; intro a hE
    refine WL.nil ?_
    subst hK57
    exact ⟨true, hq52, hE.pick _ ⟨rfl, rfl, trivial⟩, hS⟩
   ·replace hq52 := iteF hg59 hq52
    refine WL.vS hS hE (runs_if hE rfl rfl rfl hg59) (Gives.fld hE rfl fl62_2) rfl ?_; clear hE a; intro a hE
    refine WL.vS hS hE (runs_if hE rfl rfl rfl hg59) (Gives.loadB hE 0 rfl rfl rfl ty3) rfl ?_; clear hE a; intro a hE
    refine WL.fnq hE (Farewithin_ok hS  rfl (r := Farewithin x0.Start 0 28800)) (runs_if hE rfl rfl rfl hg59) bd26 rfl rfl rfl ?_
    clear hE hS; rintro e w ⟨rfl, hS⟩; refine ⟨_, rfl, ?_⟩; clear a; intro a hE
    refine WL.vS hS hE (runs_if hE rfl rfl rfl hg59) (Gives.p hE rfl) rfl ?_; clear hE a; intro a hE
    refine vP hS hE (Gives.pickF hE rfl hg59 rfl) rfl ?_; clear hE a; intro a hE
    refine vP hS hE (Gives.p hE rfl) rfl ?_; clear hE a; intro a hE
    rcases Bool.eq_false_or_eq_true (!(Farewithin x0.Start 0 28800)) with hg60 | hg60
    ·replace hq52 := iteT hg60 hq52
     refine WL.no hE (runs_not hE rfl rfl rfl (by rw [hg60]; decide)) rfl ?_; clear hE a; intro a hE
     refine WL.no hE (runs_not hE rfl rfl rfl (by rw [hg60]; decide)) rfl ?_; clear hE a; intro a hE
     refine WL.no hE (runs_not hE rfl rfl rfl (by rw [hg60]; decide)) rfl ?_; clear hE a; intro a hE
     refine WL.no hE (runs_not hE rfl rfl rfl (by rw [hg60]; decide)) rfl ?_; clear hE a; intro a hE
     refine vP hS hE (Gives.pickT hE rfl hg60 rfl) rfl ?_; clear hE a; intro a hE
     refine vP hS hE (Gives.p hE rfl) rfl ?_; clear hE a; intro a hE
     refine WL.no hE (runs_not hE rfl rfl rfl (by decide)) rfl ?_; clear hE a; intro a hE
     refine WL.no hE (runs_not hE rfl rfl rfl (by decide)) rfl ?_; clear hE a; intro a hE
     refine WL.no hE (runs_not hE rfl rfl rfl (by decide)) rfl ?_; clear hE a; intro a hE
     refine WL.no hE (runs_not hE rfl rfl rfl (by decide)) rfl ?_; clear hE a; intro a hE
     refine vP hS hE (Gives.pickT hE rfl rfl rfl) rfl ?_; clear hE a; intro a hE
     refine vP hS hE (Gives.p hE rfl) rfl ?_; clear hE a; intro a hE
     refine WL.nil ?_
     subst hK57
     exact ⟨true, hq52, hE.pick _ ⟨rfl, rfl, trivial⟩, hS⟩
    ·replace hq52 := iteF hg60 hq52
     refine WL.vS hS hE (runs_if hE rfl rfl rfl hg60) (Gives.fld hE rfl fl62_3) rfl ?_; clear hE a; intro a hE
     refine WL.vS hS hE (runs_if hE rfl rfl rfl hg60) (Gives.loadB hE 0 rfl rfl rfl ty3) rfl ?_; clear hE a; intro a hE
     refine WL.fnq hE (Farewithin_ok hS  rfl (r := Farewithin x0.End 0 28800)) (runs_if hE rfl rfl rfl hg60) bd26 rfl rfl rfl ?_
     clear hE hS; rintro e w ⟨rfl, hS⟩; refine ⟨_, rfl, ?_⟩; clear a; intro a hE
     refine WL.vS hS hE (runs_if hE rfl rfl rfl hg60) (Gives.p hE rfl) rfl ?_; clear hE a; intro a hE
     refine vP hS hE (Gives.pickF hE rfl hg60 rfl) rfl ?_; clear hE a; intro a hE
     refine vP hS hE (Gives.p hE rfl) rfl ?_; clear hE a; intro a hE
     rcases Bool.eq_false_or_eq_true (!(Farewithin x0.End 0 28800)) with hg61 | hg61
     ·replace hq52 := iteT hg61 hq52
      refine WL.no hE (runs_not hE rfl rfl rfl (by rw [hg61]; decide)) rfl ?_; clear hE a; intro a hE
      refine WL.no hE (runs_not hE rfl rfl rfl (by rw [hg61]; decide)) rfl ?_; clear hE a; intro a hE
      refine WL.no hE (runs_not hE rfl rfl rfl (by rw [hg61]; decide)) rfl ?_; clear hE a; intro a hE
      refine WL.no hE (runs_not hE rfl rfl rfl (by rw [hg61]; decide)) rfl ?_; clear hE a; intro a hE
      refine vP hS hE (Gives.pickT hE rfl hg61 rfl) rfl ?_; clear hE a; intro a hE
      refine vP hS hE (Gives.p hE rfl) rfl ?_; clear hE a; intro a hE
      refine WL.nil ?_
      subst hK57
      exact ⟨true, hq52, hE.pick _ ⟨rfl, rfl, trivial⟩, hS⟩
     ·replace hq52 := iteF hg61 hq52
      refine WL.vS hS hE (runs_if hE rfl rfl rfl hg61) (Gives.fld hE rfl fl62_4) rfl ?_; clear hE a; intro a hE
      refine WL.vS hS hE (runs_if hE rfl rfl rfl hg61) (Gives.loadB hE 0 rfl rfl rfl ty3) rfl ?_; clear hE a; intro a hE
      refine WL.fnq hE (Farewithin_ok hS  rfl (r := Farewithin x0.Price 0 100000)) (runs_if hE rfl rfl rfl hg61) bd26 rfl rfl rfl ?_
      clear hE hS; rintro e w ⟨rfl, hS⟩; refine ⟨_, rfl, ?_⟩; clear a; intro a hE
      refine WL.vS hS hE (runs_if hE rfl rfl rfl hg61) (Gives.p hE rfl) rfl ?_; clear hE a; intro a hE
      refine vP hS hE (Gives.pickF hE rfl hg61 rfl) rfl ?_; clear hE a; intro a hE
      refine vP hS hE (Gives.p hE rfl) rfl ?_; clear hE a; intro a hE
      refine WL.nil ?_
      subst hK57
      exact ⟨!(Farewithin x0.Price 0 100000), hq52, hE.pick _ ⟨rfl, rfl, trivial⟩, hS⟩
 ·clear hE hS a w; rintro a w ⟨q56, rfl, hE, hS⟩
  refine W.cond hE rfl (fun hc62 => ?_) (fun hc62 => ?_)
  ·replace hr := iteT hc62 hr
   refine W.seq (W.region ?_)
   refine vP hS hE (Gives.p hE rfl) rfl ?_; clear hE a; intro a hE
   refine WL.nil ?_
   refine W.ret ?_
   refine finG (fn := Tryz.f30) (rs := [.tmp 2]) (vs := [_]) hE rfl ⟨rfl, trivial⟩ ?_
   obtain rfl := Option.some.inj hr
   replace hS := hS.tail
   exact ⟨rfl, hS⟩
  ·replace hr := iteF hc62 hr
   refine W.seq (W.region ?_)
   refine vP hS hE (Gives.fld hE rfl fl62_3) rfl ?_; clear hE a; intro a hE
   refine vP hS hE (Gives.loadB hE 0 rfl rfl rfl ty3) rfl ?_; clear hE a; intro a hE
   refine vP hS hE (Gives.fld hE rfl fl62_2) rfl ?_; clear hE a; intro a hE
   refine vP hS hE (Gives.loadB hE 0 rfl rfl rfl ty3) rfl ?_; clear hE a; intro a hE
   refine vP hS hE (Gives.p hE rfl) rfl ?_; clear hE a; intro a hE
   refine vP hS hE (Gives.p hE rfl) rfl ?_; clear hE a; intro a hE
   refine WL.nil ?_
   refine W.cond hE rfl (fun hc63 => ?_) (fun hc63 => ?_)
   ·replace hr := iteT hc63 hr
    refine W.seq (W.region ?_)
    refine vP hS hE (Gives.p hE rfl) rfl ?_; clear hE a; intro a hE
    refine WL.nil ?_
    refine W.ret ?_
    refine finG (fn := Tryz.f30) (rs := [.tmp 2]) (vs := [_]) hE rfl ⟨rfl, trivial⟩ ?_
    obtain rfl := Option.some.inj hr
    replace hS := hS.tail
    exact ⟨rfl, hS⟩
   ·replace hr := iteF hc63 hr
    refine W.seq (W.region ?_)
    refine vP hS hE (Gives.fld hE rfl fl62_5) rfl ?_; clear hE a; intro a hE
    refine vP hS hE (Gives.loadB hE 0 rfl rfl rfl ty37) rfl ?_; clear hE a; intro a hE
    refine vP hS hE (Gives.len hE rfl sl37) rfl ?_; clear hE a; intro a hE
    refine WL.fnq hE (Farewithin_ok hS  rfl (r := Farewithin ((x0.Zones).length : Int) 1 10)) (runs_plain rfl) bd26 rfl rfl rfl ?_
    clear hE hS; rintro e w ⟨rfl, hS⟩; refine ⟨_, rfl, ?_⟩; clear a; intro a hE
    refine vP hS hE (Gives.p hE rfl) rfl ?_; clear hE a; intro a hE
    refine vP hS hE (Gives.p hE rfl) rfl ?_; clear hE a; intro a hE
    refine WL.nil ?_
    refine W.cond hE rfl (fun hc64 => ?_) (fun hc64 => ?_)
    ·replace hr := iteT hc64 hr
     refine W.seq (W.region ?_)
     refine vP hS hE (Gives.p hE rfl) rfl ?_; clear hE a; intro a hE
     refine WL.nil ?_
     refine W.ret ?_
     refine finG (fn := Tryz.f30) (rs := [.tmp 2]) (vs := [_]) hE rfl ⟨rfl, trivial⟩ ?_
     obtain rfl := Option.some.inj hr
     replace hS := hS.tail
     exact ⟨rfl, hS⟩
    ·replace hr := iteF hc64 hr
     refine W.skip ?_
     refine W.seq (W.region ?_)
     refine vP hS hE (Gives.fld hE rfl fl62_5) rfl ?_; clear hE a; intro a hE
     refine vP hS hE (Gives.loadB hE 0 rfl rfl rfl ty37) rfl ?_; clear hE a; intro a hE
     obtain ⟨q65, hq66, hr⟩ := bindS hr
     have hc_ := FarecheckZones_ok hS h0_0 hq66
     refine WL.fnq hE (hc_) (runs_plain rfl) bd42 rfl rfl rfl ?_
     clear hE hS hc_; rintro e w ⟨rfl, hS⟩; refine ⟨_, rfl, ?_⟩; clear a; intro a hE
     refine vP hS hE (Gives.p hE rfl) rfl ?_; clear hE a; intro a hE
     refine WL.nil ?_
     refine W.ret ?_
     refine finG (fn := Tryz.f30) (rs := [.tmp 2]) (vs := [_]) hE rfl ⟨rfl, trivial⟩ ?_
     obtain rfl := Option.some.inj hr
     replace hS := hS.tail
     exact ⟨rfl, hS⟩
set_option maxHeartbeats 8000000 in
theorem FareDigest_ok  {w : World} {s : Sg} {R : List HP} {x0 : ByteArray} (hS : St w s (R))  {r : Int} (hr : FareDigest x0 = some r) :
  Calls Tryz.prog 49 [.string x0].toArray w (fun e w => e = .returned (.int .i64 r) ∧ St w s (R)) := by
 refine enter Tryz.func49 rfl rfl rfl fun a hE => ?_
 rw [FareDigest] at hr
 refine W.seq (W.region ?_)
 refine vP hS hE (Gives.p hE rfl) rfl ?_; clear hE a; intro a hE
 refine WL.nil ?_
 refine W.seq (W.region ?_)
 refine vP hS hE (Gives.p hE rfl) rfl ?_; clear hE a; intro a hE
 refine WL.nil ?_
 refine W.seq ?_
 refine W.seq (W.region ?_)
 refine vP hS hE (Gives.p hE rfl) rfl ?_; clear hE a; intro a hE
 refine vP hS hE (Gives.lenS hE rfl st9) rfl ?_; clear hE a; intro a hE
 refine vP hS hE (Gives.p hE rfl) rfl ?_; clear hE a; intro a hE
 refine WL.nil ?_
 obtain ⟨_, hx62, hr⟩ := bindS hr
 have hb63 := szok_some hx62
 obtain ⟨q52, hq51, hr⟩ := bindS hr
 refine W.cut (fun a w => ∃ (q64 : Int), q64 = q52 ∧ Rep a 21 [(3, .int .i64 q64)] ∧ St w s (R)) ?_ ?_
 ·refine W.block ?_
  refine W.loop (fun m a w => ∃ (rest55 : Nat) (k53 : Nat), ∃ (q64 : Int), rest55 = m ∧ k53 + rest55 = x0.size ∧ FareDigest.loop1 x0 rest55 k53 q64 = some q52 ∧ Rep a 21 [(0, .string x0), (3, .int .i64 q64), (6, .int .i64 ((x0.size : Nat) : Int)), (7, .int .i64 ((k53 : Nat) : Int))] ∧ St w s (R)) (m := x0.size) ⟨x0.size, 0, 1, rfl, by omega, hq51, hE.pick _ ⟨rfl, rfl, rfl, rfl, trivial⟩, hS⟩ ?_
  clear hE hS a w hq51; rintro m59 a w ⟨rest55, k53, q64, rfl, hd56, hq51, hE, hS⟩
  refine W.gen fun K65 hK65 => ?_
  rcases rest55 with _ | rest55
  ·skip
   refine W.seq (W.region ?_)
   refine vP hS hE (Gives.p hE rfl) rfl ?_; clear hE a; intro a hE
   refine WL.nil ?_
   refine W.seq ?_
   refine W.condF hE rfl (decide_eq_false (by omega)) ?_
   subst hK65
   refine W.exit rfl ?_
   exact ⟨q64, Option.some.inj hq51, hE.pick _ ⟨rfl, trivial⟩, hS⟩
  ·have hlt57 : k53 < x0.size := by omega
   rw [FareDigest.loop1] at hq51
   refine W.seq (W.region ?_)
   refine vP hS hE (Gives.p hE rfl) rfl ?_; clear hE a; intro a hE
   refine WL.nil ?_
   refine W.seq ?_
   refine W.condT hE rfl (decide_eq_true (by omega)) ?_
   refine W.skip ?_
   refine W.seq ?_
   refine W.block ?_
   refine W.seq (W.region ?_)
   refine vP hS hE (Gives.p hE rfl) rfl ?_; clear hE a; intro a hE
   refine vP hS hE (Gives.p hE rfl) rfl ?_; clear hE a; intro a hE
   refine WL.nil ?_
   refine W.region ?_
   refine vP hS hE (Gives.p hE rfl) rfl ?_; clear hE a; intro a hE
   refine vP hS hE (Gives.p hE rfl) rfl ?_; clear hE a; intro a hE
   refine vP hS hE (Gives.p hE rfl) rfl ?_; clear hE a; intro a hE
   refine vP hS hE (Gives.p hE rfl) rfl ?_; clear hE a; intro a hE
   obtain ⟨x66, hx67, hq51⟩ := bindS hq51
   refine vP hS hE (Gives.idxS hE st9 rfl rfl hx67) rfl ?_; clear hE a; intro a hE
   refine vP hS hE (Gives.conv hE rfl hu5 ui3) rfl ?_; clear hE a; intro a hE
   refine vP hS hE (Gives.p hE rfl) rfl ?_; clear hE a; intro a hE
   refine vP hS hE (Gives.p hE rfl) rfl ?_; clear hE a; intro a hE
   refine vP hS hE (Gives.p hE rfl) rfl ?_; clear hE a; intro a hE
   refine vP hS hE (Gives.p hE rfl) rfl ?_; clear hE a; intro a hE
   refine WL.nil ?_
   refine W.region ?_
   refine vP hS hE (Gives.inc hE rfl (by omega)) rfl ?_; clear hE a; intro a hE
   refine vP hS hE (Gives.p hE rfl) rfl ?_; clear hE a; intro a hE
   refine WL.nil ?_
   subst hK65
   exact ⟨rest55, Nat.lt_succ_self _, rest55, k53 + 1, (Int.tmod (w64 ((w64 ((w64 (q64 * 257)) + (w64 x66))) + 1)) 999983), rfl, (by omega), hq51, hE.pick _ ⟨rfl, rfl, rfl, rfl, trivial⟩, hS⟩
 ·clear hE hS a w; rintro a w ⟨q64, rfl, hE, hS⟩
  refine W.seq (W.region ?_)
  refine vP hS hE (Gives.p hE rfl) rfl ?_; clear hE a; intro a hE
  refine vP hS hE (Gives.p hE rfl) rfl ?_; clear hE a; intro a hE
  refine WL.nil ?_
  refine W.ret ?_
  refine finG (fn := Tryz.f49) (rs := [.tmp 2]) (vs := [_]) hE rfl ⟨rfl, trivial⟩ ?_
  obtain rfl := Option.some.inj hr
  exact ⟨rfl, hS⟩
set_option maxHeartbeats 8000000 in
theorem Farepower_ok {fu : Nat}  {w : World} {s : Sg} {R : List HP} {x0 : Int} {x1 : Int} {x2 : Int} (hS : St w s (R))  {r : Int} (hr : Farepower fu x0 x1 x2 = some r) :
  Calls Tryz.prog 48 [.int .i64 x0, .int .i64 x1, .int .i64 x2].toArray w (fun e w => e = .returned (.int .i64 r) ∧ St w s (R)) := by
 refine enter Tryz.func48 rfl rfl rfl fun a hE => ?_
 rw [Farepower] at hr
 refine W.seq (W.region ?_)
 refine vP hS hE (Gives.p hE rfl) rfl ?_; clear hE a; intro a hE
 refine WL.nil ?_
 refine W.seq (W.region ?_)
 refine vP hS hE (Gives.p hE rfl) rfl ?_; clear hE a; intro a hE
 obtain ⟨x51, hx52, hr⟩ := bindS hr
 refine vP hS hE (Gives.rm hE rfl rfl hx52) rfl ?_; clear hE a; intro a hE
 refine vP hS hE (Gives.p hE rfl) rfl ?_; clear hE a; intro a hE
 refine WL.nil ?_
 refine W.seq ?_
 refine W.seq (W.region ?_)
 refine vP hS hE (Gives.p hE rfl) rfl ?_; clear hE a; intro a hE
 refine vP hS hE (Gives.p hE rfl) rfl ?_; clear hE a; intro a hE
 obtain ⟨x53, hx54, hr⟩ := bindS hr
 refine vP hS hE (Gives.rm hE rfl rfl hx54) rfl ?_; clear hE a; intro a hE
 refine vP hS hE (Gives.p hE rfl) rfl ?_; clear hE a; intro a hE
 refine WL.nil ?_
 obtain ⟨q56, hq55, hr⟩ := bindS hr
 refine W.cut (fun a w => ∃ (q61 : Int), ∃ (q62 : Int), ∃ (q63 : Int), (q61, q62, q63) = q56 ∧ Rep a 31 [(7, .int .i64 q63)] ∧ St w s (R)) ?_ ?_
 ·refine W.block ?_
  refine W.loop (fun m a w => ∃ (n57 : Nat), ∃ (q61 : Int), ∃ (q62 : Int), ∃ (q63 : Int), n57 = m ∧ Farepower.loop1 x2 n57 q61 q62 q63 = some q56 ∧ Rep a 31 [(0, .int .i64 q61), (1, .int .i64 q62), (2, .int .i64 x2), (7, .int .i64 q63)] ∧ St w s (R)) (m := fu) ⟨fu, x53, x1, x51, rfl, hq55, hE.pick _ ⟨rfl, rfl, rfl, rfl, trivial⟩, hS⟩ ?_
  clear hE hS a w hq55; rintro m58 a w ⟨n57, q61, q62, q63, rfl, hq55, hE, hS⟩
  refine W.gen fun K64 hK64 => ?_
  rcases n57 with _ | n57
  ·rw [Farepower.loop1] at hq55; exact absurd hq55 (by simp)
  rw [Farepower.loop1] at hq55
  refine W.seq ?_
  refine W.seq (W.region ?_)
  refine vP hS hE (Gives.p hE rfl) rfl ?_; clear hE a; intro a hE
  refine vP hS hE (Gives.p hE rfl) rfl ?_; clear hE a; intro a hE
  refine WL.nil ?_
  refine W.cond hE rfl (fun hc65 => ?_) (fun hc65 => ?_)
  ·replace hq55 := iteT hc65 hq55
   refine W.skip ?_
   refine W.seq ?_
   refine W.block ?_
   refine W.seq ?_
   refine W.seq (W.region ?_)
   refine vP hS hE (Gives.p hE rfl) rfl ?_; clear hE a; intro a hE
   refine vP hS hE (Gives.p hE rfl) rfl ?_; clear hE a; intro a hE
   refine vP hS hE (Gives.p hE rfl) rfl ?_; clear hE a; intro a hE
   refine WL.nil ?_
   obtain ⟨q67, hq66, hq55⟩ := bindS hq55
   refine W.cut (fun a w => ∃ (q70 : Int), q70 = q67 ∧ Rep a 31 [(0, .int .i64 q61), (1, .int .i64 q62), (2, .int .i64 x2), (7, .int .i64 q70)] ∧ St w s (R)) ?_ ?_
   ·refine W.gen fun K71 hK71 => ?_
    refine W.cond hE rfl (fun hc72 => ?_) (fun hc72 => ?_)
    ·replace hq66 := iteT hc72 hq66
     refine W.region ?_
     refine vP hS hE (Gives.p hE rfl) rfl ?_; clear hE a; intro a hE
     refine vP hS hE (Gives.p hE rfl) rfl ?_; clear hE a; intro a hE
     refine vP hS hE (Gives.p hE rfl) rfl ?_; clear hE a; intro a hE
     refine vP hS hE (Gives.p hE rfl) rfl ?_; clear hE a; intro a hE
     obtain ⟨x73, hx74, hq66⟩ := bindS hq66
     refine vP hS hE (Gives.rm hE rfl rfl hx74) rfl ?_; clear hE a; intro a hE
     refine vP hS hE (Gives.p hE rfl) rfl ?_; clear hE a; intro a hE
     refine WL.nil ?_
     subst hK71
     exact ⟨x73, Option.some.inj hq66, hE.pick _ ⟨rfl, rfl, rfl, rfl, trivial⟩, hS⟩
    ·replace hq66 := iteF hc72 hq66
     refine W.skip ?_
     subst hK71
     exact ⟨q63, Option.some.inj hq66, hE.pick _ ⟨rfl, rfl, rfl, rfl, trivial⟩, hS⟩
   ·clear hE hS a w; rintro a w ⟨q70, rfl, hE, hS⟩
    refine W.region ?_
    refine vP hS hE (Gives.p hE rfl) rfl ?_; clear hE a; intro a hE
    refine vP hS hE (Gives.p hE rfl) rfl ?_; clear hE a; intro a hE
    refine vP hS hE (Gives.p hE rfl) rfl ?_; clear hE a; intro a hE
    refine vP hS hE (Gives.p hE rfl) rfl ?_; clear hE a; intro a hE
    obtain ⟨x75, hx76, hq55⟩ := bindS hq55
    refine vP hS hE (Gives.rm hE rfl rfl hx76) rfl ?_; clear hE a; intro a hE
    refine vP hS hE (Gives.p hE rfl) rfl ?_; clear hE a; intro a hE
    refine WL.nil ?_
    refine W.region ?_
    refine vP hS hE (Gives.p hE rfl) rfl ?_; clear hE a; intro a hE
    refine vP hS hE (Gives.shr hE rfl rfl (by decide)) rfl ?_; clear hE a; intro a hE
    refine vP hS hE (Gives.p hE rfl) rfl ?_; clear hE a; intro a hE
    refine WL.nil ?_
    subst hK64
    exact ⟨n57, Nat.lt_succ_self _, n57, x75, (Int.fdiv q62 (2 ^ (min (Int.toNat 1) (IntKind.bits .i64)))), q70, rfl, hq55, hE.pick _ ⟨rfl, rfl, rfl, rfl, trivial⟩, hS⟩
  ·replace hq55 := iteF hc65 hq55
   subst hK64
   refine W.exit rfl ?_
   exact ⟨q61, q62, q63, Option.some.inj hq55, hE.pick _ ⟨rfl, trivial⟩, hS⟩
 ·clear hE hS a w; rintro a w ⟨q61, q62, q63, rfl, hE, hS⟩
  dsimp only at hr
  refine W.seq (W.region ?_)
  refine vP hS hE (Gives.p hE rfl) rfl ?_; clear hE a; intro a hE
  refine vP hS hE (Gives.p hE rfl) rfl ?_; clear hE a; intro a hE
  refine WL.nil ?_
  refine W.ret ?_
  refine finG (fn := Tryz.f48) (rs := [.tmp 6]) (vs := [_]) hE rfl ⟨rfl, trivial⟩ ?_
  obtain rfl := Option.some.inj hr
  exact ⟨rfl, hS⟩
set_option maxHeartbeats 8000000 in
theorem FareSign_ok {fu : Nat}  {w : World} {s : Sg} {R : List HP} {x0 : FareKey} {x1 : ByteArray} (hS : St w s (R))  {r : Int × Int} (hr : FareSign fu x0 x1 = some r) :
  Calls Tryz.prog 32 [.agg (FareKey.cells x0).toArray, .string x1].toArray w (fun e w => e = .returned (.tuple #[.int .i64 r.1, .int .i64 r.2]) ∧ St w s (R)) := by
 refine enter Tryz.func32 rfl rfl rfl fun a hE => ?_
 rw [FareSign] at hr
 refine W.seq (W.region ?_)
 refine WL.box hE hS (runs_plain rfl) rfl rfl rfl ?_; clear hE hS a w; intro b51 a w hE hS
 refine vP hS hE (Gives.p hE rfl) rfl ?_; clear hE a; intro a hE
 refine vP hS hE (Gives.p hE rfl) rfl ?_; clear hE a; intro a hE
 refine WL.nil ?_
 refine W.seq ?_
 refine W.seq (W.region ?_)
 refine vP hS hE (Gives.loadBA hE 0 rfl rfl ty56) rfl ?_; clear hE a; intro a hE
 refine WL.fnq hE (FareKeycheck_ok hS  rfl (r := FareKeycheck x0 true)) (runs_plain rfl) bd29 rfl rfl rfl ?_
 clear hE hS; rintro e w ⟨rfl, hS⟩; refine ⟨_, rfl, ?_⟩; clear a; intro a hE
 refine vP hS hE (Gives.p hE rfl) rfl ?_; clear hE a; intro a hE
 refine WL.nil ?_
 refine W.seq (W.region ?_)
 refine vP hS hE (Gives.p hE rfl) rfl ?_; clear hE a; intro a hE
 refine vP hS hE (Gives.p hE rfl) rfl ?_; clear hE a; intro a hE
 refine WL.nil ?_
 refine W.cond hE rfl (fun hc52 => ?_) (fun hc52 => ?_)
 ·replace hr := iteT hc52 hr
  refine W.seq (W.region ?_)
  refine vP hS hE (Gives.p hE rfl) rfl ?_; clear hE a; intro a hE
  refine vP hS hE (Gives.p hE rfl) rfl ?_; clear hE a; intro a hE
  refine vP hS hE (Gives.p hE rfl) rfl ?_; clear hE a; intro a hE
  refine WL.nil ?_
  refine W.ret ?_
  refine finG (fn := Tryz.f32) (rs := [.tmp 4, .tmp 5]) (vs := [_, _]) hE rfl ⟨rfl, rfl, trivial⟩ ?_
  obtain rfl := Option.some.inj hr
  replace hS := hS.tail
  exact ⟨rfl, hS⟩
 ·replace hr := iteF hc52 hr
  refine W.skip ?_
  refine W.seq ?_
  refine W.regionQ (C := fun w => St w s (pt b51 (.cells (FareKey.cells x0).toArray 56 (0, 0)) :: R)) mixed (by kernel_rfl) hS.drew ?_
  refine qP hE (Gives.p hE rfl) rfl ?_; clear hE a; intro a hE
  obtain ⟨q53, hq54, hr⟩ := bindS hr
  refine QL.fnq hE (fun w hS => FareDigest_ok hS  hq54) (runs_plain rfl) bd49 rfl rfl rfl ?_; clear hE a; intro a hE
  refine qP hE (Gives.fld hE rfl fl56_2) rfl ?_; clear hE a; intro a hE
  refine qP hE (Gives.loadB hE 0 rfl rfl rfl ty3) rfl ?_; clear hE a; intro a hE
  refine qP hE (Gives.fld hE rfl fl56_0) rfl ?_; clear hE a; intro a hE
  refine qP hE (Gives.loadB hE 0 rfl rfl rfl ty3) rfl ?_; clear hE a; intro a hE
  obtain ⟨q55, hq56, hr⟩ := bindS hr
  refine QL.fnq hE (fun w hS => Farepower_ok hS  hq56) (runs_plain rfl) bd48 rfl rfl rfl ?_; clear hE a; intro a hE
  refine qP hE (Gives.p hE rfl) rfl ?_; clear hE a; intro a hE
  refine qP hE (Gives.p hE rfl) rfl ?_; clear hE a; intro a hE
  refine QL.nil ?_; clear hS w; intro w hS
  refine W.ret ?_
  refine finG (fn := Tryz.f32) (rs := [.tmp 4, .tmp 5]) (vs := [_, _]) hE rfl ⟨rfl, rfl, trivial⟩ ?_
  obtain rfl := Option.some.inj hr
  replace hS := hS.tail
  exact ⟨rfl, hS⟩
set_option maxHeartbeats 8000000 in
theorem FareIssue_ok {fu : Nat}  {w : World} {s : Sg} {R : List HP} {x0 : FareKey} {x1 : FareTicket} {a1_0 : Option Addr} {c1_0 : Nat} (hS : St w s (R)) (hTab : TabX s) (h1_0 : Sl 1 (RI .i64) s a1_0 c1_0 x1.Zones) {r : ByteArray × Int} (hr : FareIssue fu x0 x1 = some r) :
  Calls Tryz.prog 13 [.agg (FareKey.cells x0).toArray, .agg (List.toArray [.int .i64 x1.No, .int .i64 x1.Day, .int .i64 x1.Start, .int .i64 x1.End, .int .i64 x1.Price, .slice a1_0 x1.Zones.length c1_0])].toArray w (fun e w => e = .returned (.tuple #[.string r.1, .int .i64 r.2]) ∧ St w s (R)) := by
 refine enter Tryz.func13 rfl rfl rfl fun a hE => ?_
 rw [FareIssue] at hr
 refine W.seq (W.region ?_)
 refine WL.box hE hS (runs_plain rfl) rfl rfl rfl ?_; clear hE hS a w; intro b51 a w hE hS
 refine WL.box hE hS (runs_plain rfl) rfl rfl rfl ?_; clear hE hS a w; intro b52 a w hE hS
 refine vP hS hE (Gives.p hE rfl) rfl ?_; clear hE a; intro a hE
 refine vP hS hE (Gives.p hE rfl) rfl ?_; clear hE a; intro a hE
 refine WL.nil ?_
 refine W.seq ?_
 refine W.seq (W.region ?_)
 refine vP hS hE (Gives.loadBA hE 1 rfl rfl ty56) rfl ?_; clear hE a; intro a hE
 refine WL.fnq hE (FareKeycheck_ok hS  rfl (r := FareKeycheck x0 true)) (runs_plain rfl) bd29 rfl rfl rfl ?_
 clear hE hS; rintro e w ⟨rfl, hS⟩; refine ⟨_, rfl, ?_⟩; clear a; intro a hE
 refine vP hS hE (Gives.p hE rfl) rfl ?_; clear hE a; intro a hE
 refine WL.nil ?_
 refine W.seq (W.region ?_)
 refine vP hS hE (Gives.p hE rfl) rfl ?_; clear hE a; intro a hE
 refine vP hS hE (Gives.p hE rfl) rfl ?_; clear hE a; intro a hE
 refine WL.nil ?_
 refine W.cond hE rfl (fun hc53 => ?_) (fun hc53 => ?_)
 ·replace hr := iteT hc53 hr
  refine W.seq (W.region ?_)
  refine vP hS hE (Gives.p hE rfl) rfl ?_; clear hE a; intro a hE
  refine vP hS hE (Gives.p hE rfl) rfl ?_; clear hE a; intro a hE
  refine vP hS hE (Gives.p hE rfl) rfl ?_; clear hE a; intro a hE
  refine WL.nil ?_
  refine W.ret ?_
  refine finG (fn := Tryz.f13) (rs := [.tmp 4, .tmp 5]) (vs := [_, _]) hE rfl ⟨rfl, rfl, trivial⟩ ?_
  obtain rfl := Option.some.inj hr
  replace hS := hS.tail
  replace hS := hS.tail
  exact ⟨rfl, hS⟩
 ·replace hr := iteF hc53 hr
  refine W.skip ?_
  refine W.seq ?_
  refine W.seq (W.region ?_)
  refine vP hS hE (Gives.loadBA hE 0 rfl rfl ty62) rfl ?_; clear hE a; intro a hE
  obtain ⟨q54, hq55, hr⟩ := bindS hr
  have hc_ := FareTicketcheck_ok hS h1_0 hq55
  refine WL.fnq hE (hc_) (runs_plain rfl) bd30 rfl rfl rfl ?_
  clear hE hS hc_; rintro e w ⟨rfl, hS⟩; refine ⟨_, rfl, ?_⟩; clear a; intro a hE
  refine vP hS hE (Gives.p hE rfl) rfl ?_; clear hE a; intro a hE
  refine WL.nil ?_
  refine W.seq (W.region ?_)
  refine vP hS hE (Gives.p hE rfl) rfl ?_; clear hE a; intro a hE
  refine vP hS hE (Gives.p hE rfl) rfl ?_; clear hE a; intro a hE
  refine WL.nil ?_
  refine W.cond hE rfl (fun hc56 => ?_) (fun hc56 => ?_)
  ·replace hr := iteT hc56 hr
   refine W.seq (W.region ?_)
   refine vP hS hE (Gives.p hE rfl) rfl ?_; clear hE a; intro a hE
   refine vP hS hE (Gives.p hE rfl) rfl ?_; clear hE a; intro a hE
   refine vP hS hE (Gives.p hE rfl) rfl ?_; clear hE a; intro a hE
   refine WL.nil ?_
   refine W.ret ?_
   refine finG (fn := Tryz.f13) (rs := [.tmp 4, .tmp 5]) (vs := [_, _]) hE rfl ⟨rfl, rfl, trivial⟩ ?_
   obtain rfl := Option.some.inj hr
   replace hS := hS.tail
   replace hS := hS.tail
   exact ⟨rfl, hS⟩
  ·replace hr := iteF hc56 hr
   refine W.skip ?_
   refine W.seq (W.region ?_)
   refine vP hS hE (Gives.p hE rfl) rfl ?_; clear hE a; intro a hE
   refine WL.nil ?_
   refine W.seq ?_
   refine W.seq (W.region ?_)
   refine vP hS hE (Gives.fld hE rfl fl62_0) rfl ?_; clear hE a; intro a hE
   refine vP hS hE (Gives.loadB hE 0 rfl rfl rfl ty3) rfl ?_; clear hE a; intro a hE
   refine vP hS hE (Gives.fld hE rfl fl62_1) rfl ?_; clear hE a; intro a hE
   refine vP hS hE (Gives.loadB hE 0 rfl rfl rfl ty3) rfl ?_; clear hE a; intro a hE
   refine vP hS hE (Gives.fld hE rfl fl62_2) rfl ?_; clear hE a; intro a hE
   refine vP hS hE (Gives.loadB hE 0 rfl rfl rfl ty3) rfl ?_; clear hE a; intro a hE
   refine vP hS hE (Gives.fld hE rfl fl62_3) rfl ?_; clear hE a; intro a hE
   refine vP hS hE (Gives.loadB hE 0 rfl rfl rfl ty3) rfl ?_; clear hE a; intro a hE
   refine vP hS hE (Gives.fld hE rfl fl62_4) rfl ?_; clear hE a; intro a hE
   refine vP hS hE (Gives.loadB hE 0 rfl rfl rfl ty3) rfl ?_; clear hE a; intro a hE
   refine WL.lit hE hS (e := 3) (es := 1) (vs := [(0, .int .i64 x1.No), (1, .int .i64 x1.Day), (2, .int .i64 x1.Start), (3, .int .i64 x1.End), (4, .int .i64 x1.Price)]) (cs := [.int .i64 x1.No, .int .i64 x1.Day, .int .i64 x1.Start, .int .i64 x1.End, .int .i64 x1.Price]) (runs_plain rfl) rfl (by kernel_rfl) rfl ?_; clear hE hS a w; intro b57 a w hE hS
   replace hS := hS.ptVec (es := 1) (m := 5) rfl (by decide)
   have h59 : Ev 1 (RI .i64) s [.int .i64 x1.No, .int .i64 x1.Day, .int .i64 x1.Start, .int .i64 x1.End, .int .i64 x1.Price] [x1.No, x1.Day, x1.Start, x1.End, x1.Price] := (Ev.cons (c1 := [.int .i64 x1.No]) rfl rfl (Ev.cons (c1 := [.int .i64 x1.Day]) rfl rfl (Ev.cons (c1 := [.int .i64 x1.Start]) rfl rfl (Ev.cons (c1 := [.int .i64 x1.End]) rfl rfl (Ev.cons (c1 := [.int .i64 x1.Price]) rfl rfl (Ev.nil))))))
   refine vP hS hE (Gives.fld hE rfl fl62_5) rfl ?_; clear hE a; intro a hE
   refine vP hS hE (Gives.loadB hE 1 rfl rfl rfl ty37) rfl ?_; clear hE a; intro a hE
   obtain ⟨x60, hx61, hr⟩ := bindS hr
   refine WL.appS hE hS 0 (runs_plain rfl) rfl rfl (xs := x1.Zones) rfl rfl ap37 RI.one h59 (rfl) h1_0 hx61 rfl ?_; clear hE hS a w; intro a62 c63 cs64 a w h65 hE hS
   refine vP hS hE (Gives.len hE rfl sl37) rfl ?_; clear hE a; intro a hE
   refine vP hS hE (Gives.p hE rfl) rfl ?_; clear hE a; intro a hE
   refine WL.nil ?_
   have hb77 : x60.length ≤ 9223372036854775807 := by have := hS.vecCap 0 rfl; unfold maxLen at this; omega
   obtain ⟨q67, hq66, hr⟩ := bindS hr
   refine W.cut (fun a w => ∃ (q78 : ByteArray), q78 = q67 ∧ Rep a 61 [(2, .pointer (some ⟨b51, 0, none⟩)), (8, .string q78)] ∧ St w s (vecC 3 1 a62 c63 x60.length cs64 :: pt b52 (.cells #[.int .i64 x1.No, .int .i64 x1.Day, .int .i64 x1.Start, .int .i64 x1.End, .int .i64 x1.Price, .slice a1_0 x1.Zones.length c1_0] 62 (0, 0)) :: pt b51 (.cells (FareKey.cells x0).toArray 56 (0, 0)) :: R)) ?_ ?_
   ·refine W.block ?_
    refine W.loop (fun m a w => ∃ (rest70 : Nat) (k68 : Nat), ∃ (q78 : ByteArray), rest70 = m ∧ k68 + rest70 = x60.length ∧ FareIssue.loop1 x60 rest70 k68 q78 = some q67 ∧ Rep a 61 [(2, .pointer (some ⟨b51, 0, none⟩)), (8, .string q78), (36, .slice a62 x60.length c63), (37, .int .i64 ((x60.length : Nat) : Int)), (38, .int .i64 ((k68 : Nat) : Int))] ∧ St w s (vecC 3 1 a62 c63 x60.length cs64 :: pt b52 (.cells #[.int .i64 x1.No, .int .i64 x1.Day, .int .i64 x1.Start, .int .i64 x1.End, .int .i64 x1.Price, .slice a1_0 x1.Zones.length c1_0] 62 (0, 0)) :: pt b51 (.cells (FareKey.cells x0).toArray 56 (0, 0)) :: R)) (m := x60.length) ⟨x60.length, 0, (str [116, 105, 99, 107, 101, 116]), rfl, by omega, hq66, hE.pick _ ⟨rfl, rfl, rfl, rfl, rfl, trivial⟩, hS⟩ ?_
    clear hE hS a w hq66; rintro m74 a w ⟨rest70, k68, q78, rfl, hd71, hq66, hE, hS⟩
    refine W.gen fun K79 hK79 => ?_
    rcases rest70 with _ | rest70
    ·skip
     refine W.seq (W.region ?_)
     refine vP hS hE (Gives.p hE rfl) rfl ?_; clear hE a; intro a hE
     refine WL.nil ?_
     refine W.seq ?_
     refine W.condF hE rfl (decide_eq_false (by omega)) ?_
     subst hK79
     refine W.exit rfl ?_
     exact ⟨q78, Option.some.inj hq66, hE.pick _ ⟨rfl, rfl, trivial⟩, hS⟩
    ·have hlt72 : k68 < x60.length := by omega
     rw [FareIssue.loop1] at hq66
     refine W.seq (W.region ?_)
     refine vP hS hE (Gives.p hE rfl) rfl ?_; clear hE a; intro a hE
     refine WL.nil ?_
     refine W.seq ?_
     refine W.condT hE rfl (decide_eq_true (by omega)) ?_
     refine W.skip ?_
     refine W.seq ?_
     refine W.block ?_
     refine W.seq (W.region ?_)
     obtain ⟨x80, hx81, hq66⟩ := bindS hq66
     obtain ⟨hi82, hlt83, hy84⟩ := gx_some hx81
     obtain ⟨vs85, hl86, hR87, hd88, hget89⟩ := h65.at hy84
     subst hR87
     refine vP hS hE (Gives.idx hE ((((k68 : Nat) : Int)).toNat) rfl rfl sl37 hi82 (by omega) (hS.vecAok 0 rfl (by omega : (((k68 : Nat) : Int)).toNat < x60.length))) rfl ?_; clear hE a; intro a hE
     refine vP hS hE (Gives.load1 hE rfl (fun w h => St.vecSees h 0 rfl ((((k68 : Nat) : Int)).toNat * 1) _ hget89) ty3) rfl ?_; clear hE a; intro a hE
     refine vP hS hE (Gives.p hE rfl) rfl ?_; clear hE a; intro a hE
     refine WL.nil ?_
     refine W.region ?_
     refine vP hS hE (Gives.p hE rfl) rfl ?_; clear hE a; intro a hE
     refine vP hS hE (Gives.p hE rfl) rfl ?_; clear hE a; intro a hE
     obtain ⟨q90, hq91, hq66⟩ := bindS hq66
     refine WL.fnq hE (itoa_ok hS (TabG.mono (Sg.Le.refl _) hTab).tab hq91) (runs_plain rfl) bd31 rfl rfl rfl ?_
     clear hE hS; rintro e w ⟨rfl, hS⟩; refine ⟨_, rfl, ?_⟩; clear a; intro a hE
     obtain ⟨x92, hx93, hq66⟩ := bindS hq66
     refine vP hS hE (Gives.catS hE rfl rfl hx93) rfl ?_; clear hE a; intro a hE
     obtain ⟨x94, hx95, hq66⟩ := bindS hq66
     refine vP hS hE (Gives.catS hE rfl rfl hx95) rfl ?_; clear hE a; intro a hE
     refine vP hS hE (Gives.p hE rfl) rfl ?_; clear hE a; intro a hE
     refine WL.nil ?_
     refine W.region ?_
     refine vP hS hE (Gives.inc hE rfl (by omega)) rfl ?_; clear hE a; intro a hE
     refine vP hS hE (Gives.p hE rfl) rfl ?_; clear hE a; intro a hE
     refine WL.nil ?_
     subst hK79
     exact ⟨rest70, Nat.lt_succ_self _, rest70, k68 + 1, x94, rfl, (by omega), hq66, hE.pick _ ⟨rfl, rfl, rfl, rfl, rfl, trivial⟩, hS⟩
   ·clear hE hS a w; rintro a w ⟨q78, rfl, hE, hS⟩
    refine W.seq (W.region ?_)
    refine vP hS hE (Gives.p hE rfl) rfl ?_; clear hE a; intro a hE
    obtain ⟨x96, hx97, hr⟩ := bindS hr
    refine vP hS hE (Gives.catS hE rfl rfl hx97) rfl ?_; clear hE a; intro a hE
    refine vP hS hE (Gives.p hE rfl) rfl ?_; clear hE a; intro a hE
    refine WL.nil ?_
    refine W.seq (W.region ?_)
    refine vP hS hE (Gives.loadBA hE 2 rfl rfl ty56) rfl ?_; clear hE a; intro a hE
    refine vP hS hE (Gives.p hE rfl) rfl ?_; clear hE a; intro a hE
    obtain ⟨q98, hq99, hr⟩ := bindS hr
    have hc_ := FareSign_ok hS  hq99
    refine WL.fnq hE (hc_) (runs_plain rfl) bd32 rfl rfl rfl ?_
    clear hE hS hc_; rintro e w ⟨rfl, hS⟩; refine ⟨_, rfl, ?_⟩; clear a; intro a hE
    refine vP hS hE (Gives.p hE rfl) rfl ?_; clear hE a; intro a hE
    refine vP hS hE (Gives.p hE rfl) rfl ?_; clear hE a; intro a hE
    refine vP hS hE (Gives.p hE rfl) rfl ?_; clear hE a; intro a hE
    refine vP hS hE (Gives.p hE rfl) rfl ?_; clear hE a; intro a hE
    refine vP hS hE (Gives.p hE rfl) rfl ?_; clear hE a; intro a hE
    refine WL.nil ?_
    refine W.seq (W.region ?_)
    refine vP hS hE (Gives.p hE rfl) rfl ?_; clear hE a; intro a hE
    refine vP hS hE (Gives.p hE rfl) rfl ?_; clear hE a; intro a hE
    obtain ⟨q100, hq101, hr⟩ := bindS hr
    refine WL.fnq hE (itoa_ok hS (TabG.mono (Sg.Le.refl _) hTab).tab hq101) (runs_plain rfl) bd31 rfl rfl rfl ?_
    clear hE hS; rintro e w ⟨rfl, hS⟩; refine ⟨_, rfl, ?_⟩; clear a; intro a hE
    obtain ⟨x102, hx103, hr⟩ := bindS hr
    refine vP hS hE (Gives.catS hE rfl rfl hx103) rfl ?_; clear hE a; intro a hE
    obtain ⟨x104, hx105, hr⟩ := bindS hr
    refine vP hS hE (Gives.catS hE rfl rfl hx105) rfl ?_; clear hE a; intro a hE
    refine vP hS hE (Gives.p hE rfl) rfl ?_; clear hE a; intro a hE
    refine vP hS hE (Gives.p hE rfl) rfl ?_; clear hE a; intro a hE
    refine WL.nil ?_
    refine W.ret ?_
    refine finG (fn := Tryz.f13) (rs := [.tmp 4, .tmp 5]) (vs := [_, _]) hE rfl ⟨rfl, rfl, trivial⟩ ?_
    obtain rfl := Option.some.inj hr
    replace hS := hS.tail
    replace hS := hS.tail
    replace hS := hS.tail
    exact ⟨rfl, hS⟩
set_option maxHeartbeats 8000000 in
theorem InternalStringsliteHasSuffix_ok  {w : World} {s : Sg} {R : List HP} {x0 : ByteArray} {x1 : ByteArray} (hS : St w s (R))  {r : Bool} (hr : InternalStringsliteHasSuffix x0 x1 = some r) :
  Calls Tryz.prog 107 [.string x0, .string x1].toArray w (fun e w => e = .returned (.bool r) ∧ St w s (R)) := by
 refine enter Tryz.func107 rfl rfl rfl fun a hE => ?_
 rw [InternalStringsliteHasSuffix] at hr
 refine W.seq (W.region ?_)
 refine vP hS hE (Gives.p hE rfl) rfl ?_; clear hE a; intro a hE
 refine WL.nil ?_
 refine W.seq ?_
 obtain ⟨q52, hq51, hr⟩ := bindS hr
 refine W.cut (fun a w => ∃ (q55 : Bool), q55 = q52 ∧ Rep a 21 [(4, .bool q55)] ∧ St w s (R)) ?_ ?_
 ·refine W.gen fun K56 hK56 => ?_
  refine W.region ?_
  refine vP hS hE (Gives.p hE rfl) rfl ?_; clear hE a; intro a hE
  refine vP hS hE (Gives.lenS hE rfl st9) rfl ?_; clear hE a; intro a hE
  refine vP hS hE (Gives.p hE rfl) rfl ?_; clear hE a; intro a hE
  refine vP hS hE (Gives.lenS hE rfl st9) rfl ?_; clear hE a; intro a hE
  refine vP hS hE (Gives.p hE rfl) rfl ?_; clear hE a; intro a hE
  refine vP hS hE (Gives.p hE rfl) rfl ?_; clear hE a; intro a hE
  rcases Bool.eq_false_or_eq_true (decide (((x0.size : Nat) : Int) ≥ ((x1.size : Nat) : Int))) with hg57 | hg57
  ·replace hq51 := iteT hg57 hq51
   refine WL.vS hS hE (runs_if hE rfl rfl rfl hg57) (Gives.p hE rfl) rfl ?_; clear hE a; intro a hE
   refine WL.vS hS hE (runs_if hE rfl rfl rfl hg57) (Gives.p hE rfl) rfl ?_; clear hE a; intro a hE
   refine WL.vS hS hE (runs_if hE rfl rfl rfl hg57) (Gives.lenS hE rfl st9) rfl ?_; clear hE a; intro a hE
   refine WL.vS hS hE (runs_if hE rfl rfl rfl hg57) (Gives.p hE rfl) rfl ?_; clear hE a; intro a hE
   refine WL.vS hS hE (runs_if hE rfl rfl rfl hg57) (Gives.lenS hE rfl st9) rfl ?_; clear hE a; intro a hE
   refine WL.vS hS hE (runs_if hE rfl rfl rfl hg57) (Gives.p hE rfl) rfl ?_; clear hE a; intro a hE
   obtain ⟨x58, hx59, hq51⟩ := bindS hq51
   refine WL.vS hS hE (runs_if hE rfl rfl rfl hg57) (Gives.cutSL hE st9 rfl rfl hx59) rfl ?_; clear hE a; intro a hE
   refine WL.vS hS hE (runs_if hE rfl rfl rfl hg57) (Gives.p hE rfl) rfl ?_; clear hE a; intro a hE
   refine WL.vS hS hE (runs_if hE rfl rfl rfl hg57) (Gives.eqSt hE rfl rfl) rfl ?_; clear hE a; intro a hE
   refine vP hS hE (Gives.pickT hE rfl hg57 rfl) rfl ?_; clear hE a; intro a hE
   refine vP hS hE (Gives.p hE rfl) rfl ?_; clear hE a; intro a hE
   refine WL.nil ?_
   subst hK56
   exact ⟨(seq x58 x1), Option.some.inj hq51, hE.pick _ ⟨rfl, trivial⟩, hS⟩
  ·replace hq51 := iteF hg57 hq51
   refine WL.no hE (runs_not hE rfl rfl rfl (by rw [hg57]; decide)) rfl ?_; clear hE a; intro a hE
   refine WL.no hE (runs_not hE rfl rfl rfl (by rw [hg57]; decide)) rfl ?_; clear hE a; intro a hE
   refine WL.no hE (runs_not hE rfl rfl rfl (by rw [hg57]; decide)) rfl ?_; clear hE a; intro a hE
   refine WL.no hE (runs_not hE rfl rfl rfl (by rw [hg57]; decide)) rfl ?_; clear hE a; intro a hE
   refine WL.no hE (runs_not hE rfl rfl rfl (by rw [hg57]; decide)) rfl ?_; clear hE a; intro a hE
   refine WL.no hE (runs_not hE rfl rfl rfl (by rw [hg57]; decide)) rfl ?_; clear hE a; intro a hE
   refine WL.no hE (runs_not hE rfl rfl rfl (by rw [hg57]; decide)) rfl ?_; clear hE a; intro a hE
   refine WL.no hE (runs_not hE rfl rfl rfl (by rw [hg57]; decide)) rfl ?_; clear hE a; intro a hE
   refine WL.no hE (runs_not hE rfl rfl rfl (by rw [hg57]; decide)) rfl ?_; clear hE a; intro a hE
   refine vP hS hE (Gives.pickF hE rfl hg57 rfl) rfl ?_; clear hE a; intro a hE
   refine vP hS hE (Gives.p hE rfl) rfl ?_; clear hE a; intro a hE
   refine WL.nil ?_
   subst hK56
   exact ⟨false, Option.some.inj hq51, hE.pick _ ⟨rfl, trivial⟩, hS⟩
 ·clear hE hS a w; rintro a w ⟨q55, rfl, hE, hS⟩
  refine W.ret ?_
  refine finG (fn := Tryz.f107) (rs := [.tmp 4]) (vs := [_]) hE rfl ⟨rfl, trivial⟩ ?_
  obtain rfl := Option.some.inj hr
  exact ⟨rfl, hS⟩
set_option maxHeartbeats 8000000 in
theorem InternalStringsliteCutSuffix_ok  {w : World} {s : Sg} {R : List HP} {x0 : ByteArray} {x1 : ByteArray} (hS : St w s (R))  {r : ByteArray × Bool} (hr : InternalStringsliteCutSuffix x0 x1 = some r) :
  Calls Tryz.prog 93 [.string x0, .string x1].toArray w (fun e w => e = .returned (.tuple #[.string r.1, .bool r.2]) ∧ St w s (R)) := by
 refine enter Tryz.func93 rfl rfl rfl fun a hE => ?_
 rw [InternalStringsliteCutSuffix] at hr
 refine W.seq (W.region ?_)
 refine vP hS hE (Gives.p hE rfl) rfl ?_; clear hE a; intro a hE
 refine vP hS hE (Gives.p hE rfl) rfl ?_; clear hE a; intro a hE
 refine WL.nil ?_
 refine W.seq ?_
 refine W.seq (W.region ?_)
 refine vP hS hE (Gives.p hE rfl) rfl ?_; clear hE a; intro a hE
 refine vP hS hE (Gives.p hE rfl) rfl ?_; clear hE a; intro a hE
 obtain ⟨q51, hq52, hr⟩ := bindS hr
 have hc_ := InternalStringsliteHasSuffix_ok hS  hq52
 refine WL.fnq hE (hc_) (runs_plain rfl) bd107 rfl rfl rfl ?_
 clear hE hS hc_; rintro e w ⟨rfl, hS⟩; refine ⟨_, rfl, ?_⟩; clear a; intro a hE
 refine vP hS hE (Gives.p hE rfl) rfl ?_; clear hE a; intro a hE
 refine WL.nil ?_
 refine W.cond hE rfl (fun hc53 => ?_) (fun hc53 => ?_)
 ·replace hr := iteT hc53 hr
  refine W.seq (W.region ?_)
  refine vP hS hE (Gives.p hE rfl) rfl ?_; clear hE a; intro a hE
  refine vP hS hE (Gives.p hE rfl) rfl ?_; clear hE a; intro a hE
  refine vP hS hE (Gives.p hE rfl) rfl ?_; clear hE a; intro a hE
  refine WL.nil ?_
  refine W.ret ?_
  refine finG (fn := Tryz.f93) (rs := [.tmp 4, .tmp 5]) (vs := [_, _]) hE rfl ⟨rfl, rfl, trivial⟩ ?_
  obtain rfl := Option.some.inj hr
  exact ⟨rfl, hS⟩
 ·replace hr := iteF hc53 hr
  refine W.skip ?_
  refine W.seq (W.region ?_)
  refine vP hS hE (Gives.p hE rfl) rfl ?_; clear hE a; intro a hE
  refine vP hS hE (Gives.p hE rfl) rfl ?_; clear hE a; intro a hE
  refine vP hS hE (Gives.lenS hE rfl st9) rfl ?_; clear hE a; intro a hE
  refine vP hS hE (Gives.p hE rfl) rfl ?_; clear hE a; intro a hE
  refine vP hS hE (Gives.lenS hE rfl st9) rfl ?_; clear hE a; intro a hE
  refine vP hS hE (Gives.p hE rfl) rfl ?_; clear hE a; intro a hE
  obtain ⟨x54, hx55, hr⟩ := bindS hr
  refine vP hS hE (Gives.cutSH hE st9 rfl rfl hx55) rfl ?_; clear hE a; intro a hE
  refine vP hS hE (Gives.p hE rfl) rfl ?_; clear hE a; intro a hE
  refine vP hS hE (Gives.p hE rfl) rfl ?_; clear hE a; intro a hE
  refine WL.nil ?_
  refine W.ret ?_
  refine finG (fn := Tryz.f93) (rs := [.tmp 4, .tmp 5]) (vs := [_, _]) hE rfl ⟨rfl, rfl, trivial⟩ ?_
  obtain rfl := Option.some.inj hr
  exact ⟨rfl, hS⟩
set_option maxHeartbeats 8000000 in
theorem StringsCutSuffix_ok  {w : World} {s : Sg} {R : List HP} {x0 : ByteArray} {x1 : ByteArray} (hS : St w s (R))  {r : ByteArray × Bool} (hr : StringsCutSuffix x0 x1 = some r) :
  Calls Tryz.prog 76 [.string x0, .string x1].toArray w (fun e w => e = .returned (.tuple #[.string r.1, .bool r.2]) ∧ St w s (R)) := by
 refine enter Tryz.func76 rfl rfl rfl fun a hE => ?_
 rw [StringsCutSuffix] at hr
 refine W.seq (W.region ?_)
 refine vP hS hE (Gives.p hE rfl) rfl ?_; clear hE a; intro a hE
 refine vP hS hE (Gives.p hE rfl) rfl ?_; clear hE a; intro a hE
 refine WL.nil ?_
 refine W.seq (W.region ?_)
 refine vP hS hE (Gives.p hE rfl) rfl ?_; clear hE a; intro a hE
 refine vP hS hE (Gives.p hE rfl) rfl ?_; clear hE a; intro a hE
 obtain ⟨q51, hq52, hr⟩ := bindS hr
 have hc_ := InternalStringsliteCutSuffix_ok hS  hq52
 refine WL.fnq hE (hc_) (runs_plain rfl) bd93 rfl rfl rfl ?_
 clear hE hS hc_; rintro e w ⟨rfl, hS⟩; refine ⟨_, rfl, ?_⟩; clear a; intro a hE
 refine vP hS hE (Gives.p hE rfl) rfl ?_; clear hE a; intro a hE
 refine vP hS hE (Gives.p hE rfl) rfl ?_; clear hE a; intro a hE
 refine vP hS hE (Gives.p hE rfl) rfl ?_; clear hE a; intro a hE
 refine vP hS hE (Gives.p hE rfl) rfl ?_; clear hE a; intro a hE
 refine WL.nil ?_
 refine W.ret ?_
 refine finG (fn := Tryz.f76) (rs := [.tmp 4, .tmp 5]) (vs := [_, _]) hE rfl ⟨rfl, rfl, trivial⟩ ?_
 obtain rfl := Option.some.inj hr
 exact ⟨rfl, hS⟩
set_option maxHeartbeats 8000000 in
theorem Farenumber_ok  {w : World} {s : Sg} {R : List HP} {x0 : ByteArray} (hS : St w s (R)) (hTab : TabX s) {r : Option Int} (hr : Farenumber x0 = some r) :
  Calls Tryz.prog 78 [.string x0].toArray w (fun e w => (r = none ∧ e = .panicked [{ v := .iface 131 (.agg #[]), recovered := false }] ∧ ∃ (t : Sg), s.Le t ∧ St w t R) ∨ (∃ rr, r = some rr ∧ e = .returned (.int .i64 rr) ∧ St w s (R))) := by
 refine enter Tryz.func78 rfl rfl rfl fun a hE => ?_
 rw [Farenumber] at hr
 refine W.seq (W.region ?_)
 refine vP hS hE (Gives.p hE rfl) rfl ?_; clear hE a; intro a hE
 refine WL.nil ?_
 refine W.seq (W.region ?_)
 refine vP hS hE (Gives.p hE rfl) rfl ?_; clear hE a; intro a hE
 obtain ⟨q51, hq52, hr⟩ := bindS hr
 refine WL.fnq hE (atoi_ok hS (TabG.mono (Sg.Le.refl _) hTab) hq52) (runs_plain rfl) bd95 rfl rfl rfl ?_
 clear hE hS; rintro e w ⟨ev53, rfl, h54, hS⟩; refine ⟨_, rfl, ?_⟩; clear a; intro a hE
 refine vP hS hE (Gives.p hE rfl) rfl ?_; clear hE a; intro a hE
 refine vP hS hE (Gives.p hE rfl) rfl ?_; clear hE a; intro a hE
 refine vP hS hE (Gives.p hE rfl) rfl ?_; clear hE a; intro a hE
 refine vP hS hE (Gives.p hE rfl) rfl ?_; clear hE a; intro a hE
 refine vP hS hE (Gives.p hE rfl) rfl ?_; clear hE a; intro a hE
 refine WL.nil ?_
 refine W.seq ?_
 refine W.seq ?_
 obtain ⟨q56, hq55, hr⟩ := bindS hr
 refine W.cut (fun a w => ∃ (q59 : Bool), q59 = q56 ∧ Rep a 25 [(3, .int .i64 q51.1), (21, .bool q59)] ∧ St w s (R)) ?_ ?_
 ·refine W.gen fun K60 hK60 => ?_
  refine W.region ?_
  refine vP hS hE (Gives.p hE rfl) rfl ?_; clear hE a; intro a hE
  refine vP hS hE (Gives.errNe hE if153 h54 rfl) rfl ?_; clear hE a; intro a hE
  refine vP hS hE (Gives.p hE rfl) rfl ?_; clear hE a; intro a hE
  rcases Bool.eq_false_or_eq_true (!(q51.2)) with hg61 | hg61
  ·replace hq55 := iteT hg61 hq55
   refine WL.no hE (runs_not hE rfl rfl rfl (by rw [hg61]; decide)) rfl ?_; clear hE a; intro a hE
   refine WL.no hE (runs_not hE rfl rfl rfl (by rw [hg61]; decide)) rfl ?_; clear hE a; intro a hE
   refine vP hS hE (Gives.pickT hE rfl hg61 rfl) rfl ?_; clear hE a; intro a hE
   refine vP hS hE (Gives.p hE rfl) rfl ?_; clear hE a; intro a hE
   refine WL.no hE (runs_not hE rfl rfl rfl (by decide)) rfl ?_; clear hE a; intro a hE
   refine WL.no hE (runs_not hE rfl rfl rfl (by decide)) rfl ?_; clear hE a; intro a hE
   refine WL.no hE (runs_not hE rfl rfl rfl (by decide)) rfl ?_; clear hE a; intro a hE
   refine WL.no hE (runs_not hE rfl rfl rfl (by decide)) rfl ?_; clear hE a; intro a hE
   refine vP hS hE (Gives.pickT hE rfl rfl rfl) rfl ?_; clear hE a; intro a hE
   refine WL.nil ?_
   subst hK60
   exact ⟨true, Option.some.inj hq55, hE.pick _ ⟨rfl, rfl, trivial⟩, hS⟩
  ·replace hq55 := iteF hg61 hq55
   refine WL.vS hS hE (runs_if hE rfl rfl rfl hg61) (Gives.p hE rfl) rfl ?_; clear hE a; intro a hE
   refine WL.vS hS hE (runs_if hE rfl rfl rfl hg61) (Gives.p hE rfl) rfl ?_; clear hE a; intro a hE
   refine vP hS hE (Gives.pickF hE rfl hg61 rfl) rfl ?_; clear hE a; intro a hE
   refine vP hS hE (Gives.p hE rfl) rfl ?_; clear hE a; intro a hE
   rcases Bool.eq_false_or_eq_true (decide (q51.1 < 0)) with hg62 | hg62
   ·replace hq55 := iteT hg62 hq55
    refine WL.no hE (runs_not hE rfl rfl rfl (by rw [hg62]; decide)) rfl ?_; clear hE a; intro a hE
    refine WL.no hE (runs_not hE rfl rfl rfl (by rw [hg62]; decide)) rfl ?_; clear hE a; intro a hE
    refine WL.no hE (runs_not hE rfl rfl rfl (by rw [hg62]; decide)) rfl ?_; clear hE a; intro a hE
    refine WL.no hE (runs_not hE rfl rfl rfl (by rw [hg62]; decide)) rfl ?_; clear hE a; intro a hE
    refine vP hS hE (Gives.pickT hE rfl hg62 rfl) rfl ?_; clear hE a; intro a hE
    refine WL.nil ?_
    subst hK60
    exact ⟨true, Option.some.inj hq55, hE.pick _ ⟨rfl, rfl, trivial⟩, hS⟩
   ·replace hq55 := iteF hg62 hq55
    refine WL.vS hS hE (runs_if hE rfl rfl rfl hg62) (Gives.p hE rfl) rfl ?_; clear hE a; intro a hE
    obtain ⟨q63, hq64, hq55⟩ := bindS hq55
    refine WL.fnq hE (itoa_ok hS (TabG.mono (Sg.Le.refl _) hTab).tab hq64) (runs_if hE rfl rfl rfl hg62) bd31 rfl rfl rfl ?_
    clear hE hS; rintro e w ⟨rfl, hS⟩; refine ⟨_, rfl, ?_⟩; clear a; intro a hE
    refine WL.vS hS hE (runs_if hE rfl rfl rfl hg62) (Gives.p hE rfl) rfl ?_; clear hE a; intro a hE
    refine WL.vS hS hE (runs_if hE rfl rfl rfl hg62) (Gives.neSt hE rfl rfl) rfl ?_; clear hE a; intro a hE
    refine vP hS hE (Gives.pickF hE rfl hg62 rfl) rfl ?_; clear hE a; intro a hE
    refine WL.nil ?_
    subst hK60
    exact ⟨!(seq q63 x0), Option.some.inj hq55, hE.pick _ ⟨rfl, rfl, trivial⟩, hS⟩
 ·clear hE hS a w; rintro a w ⟨q59, rfl, hE, hS⟩
  refine W.cond hE rfl (fun hc65 => ?_) (fun hc65 => ?_)
  ·replace hr := iteT hc65 hr
   refine W.region ?_
   refine vP hS hE (Gives.build hE (vs := []) [] rfl (by kernel_rfl)) rfl ?_; clear hE a; intro a hE
   refine vP hS hE (Gives.iface hE rfl ifc131) rfl ?_; clear hE a; intro a hE
   refine WL.panic hE rfl (runs_plain rfl) ?_; clear hE a; intro a hE
   refine ⟨hE.defers.trans rfl, ?_⟩
   obtain rfl := Option.some.inj hr
   exact .inl ⟨rfl, rfl, s, (Sg.Le.refl _), hS⟩
  ·replace hr := iteF hc65 hr
   refine W.skip ?_
   refine W.seq (W.region ?_)
   refine vP hS hE (Gives.p hE rfl) rfl ?_; clear hE a; intro a hE
   refine vP hS hE (Gives.p hE rfl) rfl ?_; clear hE a; intro a hE
   refine WL.nil ?_
   refine W.ret ?_
   refine finG (fn := Tryz.f78) (rs := [.tmp 2]) (vs := [_]) hE rfl ⟨rfl, trivial⟩ ?_
   obtain rfl := Option.some.inj hr
   exact .inr ⟨_, rfl, ⟨rfl, hS⟩⟩
set_option maxHeartbeats 8000000 in
theorem Fareopen_ok  {w : World} {s : Sg} {R : List HP} {x0 : ByteArray} (hS : St w s (R)) (hTab : TabX s) {r : (List Int) × Int × Bool} (hr : Fareopen x0 = some r) :
  Calls Tryz.prog 50 [.string x0].toArray w (fun e w => ∃ (a0 : Option Addr) (c0 n0 : Nat) (cs0 : List Value) (t : Sg), e = .returned (.tuple #[.slice a0 n0 c0, .int .i64 r.2.1, .bool r.2.2]) ∧ s.Le t ∧ Ev 1 (RI .i64) t cs0 r.1 ∧ r.1.length = n0 ∧ St w t (vecC 3 1 a0 c0 n0 cs0 :: R)) := by
 refine enterD Tryz.func50 rfl rfl rfl fun a hE => ?_
 rw [Fareopen] at hr
 refine W.seq (W.region ?_)
 replace hS := hS.vecNil 3 1
 refine vP hS hE (Gives.p hE rfl) rfl ?_; clear hE a; intro a hE
 refine vP hS hE (Gives.p hE rfl) rfl ?_; clear hE a; intro a hE
 refine WL.alloc hE hS (runs_plain rfl) zr4 rfl ?_; clear hE hS a w; intro b52 a w hE hS
 refine WL.nil ?_
 refine W.seq ?_
 refine W.regionD rfl ?_
 refine vP hS hE (Gives.mkfn hE (vs := [.pointer (some ⟨b52, 0, none⟩)]) rfl) rfl ?_; clear hE a; intro a hE
 refine WL.defer hE rfl (runs_plain rfl) rfl ?_; clear hE a; intro a hE
 refine WL.nil ?_
 refine W.seq (W.region ?_)
 refine vP hS hE (Gives.p hE rfl) rfl ?_; clear hE a; intro a hE
 obtain ⟨q53, hq54, hr⟩ := bindS hr
 have hc_ := StringsCutSuffix_ok hS  hq54
 refine WL.fnq hE (hc_) (runs_plain rfl) bd76 rfl rfl rfl ?_
 clear hE hS hc_; rintro e w ⟨rfl, hS⟩; refine ⟨_, rfl, ?_⟩; clear a; intro a hE
 refine vP hS hE (Gives.p hE rfl) rfl ?_; clear hE a; intro a hE
 refine vP hS hE (Gives.p hE rfl) rfl ?_; clear hE a; intro a hE
 refine vP hS hE (Gives.p hE rfl) rfl ?_; clear hE a; intro a hE
 refine vP hS hE (Gives.p hE rfl) rfl ?_; clear hE a; intro a hE
 refine vP hS hE (Gives.p hE rfl) rfl ?_; clear hE a; intro a hE
 refine WL.nil ?_
 refine W.seq (W.region ?_)
 refine vP hS hE (Gives.p hE rfl) rfl ?_; clear hE a; intro a hE
 obtain ⟨q55, hq56, hr⟩ := bindS hr
 refine WL.fnq hE (split_ok hS (TabG.mono (Sg.Le.refl _) hTab) hq56) (runs_plain rfl) bd77 rfl rfl rfl ?_
 clear hE hS; rintro e w ⟨b57, cs58, rfl, h59, hS⟩; refine ⟨_, rfl, ?_⟩; clear a; intro a hE
 refine vP hS hE (Gives.p hE rfl) rfl ?_; clear hE a; intro a hE
 refine WL.nil ?_
 refine W.seq ?_
 refine W.seq (W.region ?_)
 refine vP hS hE (Gives.p hE rfl) rfl ?_; clear hE a; intro a hE
 refine vP hS hE (Gives.len hE rfl sl135) rfl ?_; clear hE a; intro a hE
 refine vP hS hE (Gives.p hE rfl) rfl ?_; clear hE a; intro a hE
 refine WL.nil ?_
 refine W.seq ?_
 obtain ⟨q62, hq61, hr⟩ := bindS hr
 refine W.cut (fun a w => ∃ (q65 : Bool), q65 = q62 ∧ Rep a 65 [(2, .slice none 0 0), (3, .int .i64 0), (4, .pointer (some ⟨b52, 0, none⟩)), (7, .slice (some ⟨b57, 0, none⟩) q55.length q55.length), (40, .bool q65), (4294967295, .func (.func 75) #[] #[.pointer (some ⟨b52, 0, none⟩)])] ∧ St w s (vecC 9 1 (some ⟨b57, 0, none⟩) q55.length q55.length cs58 :: pt b52 (.cells #[.bool false] 4 (0, 0)) :: vecC 3 1 none 0 0 [] :: R)) ?_ ?_
 ·refine W.gen fun K66 hK66 => ?_
  refine W.region ?_
  refine vP hS hE (Gives.p hE rfl) rfl ?_; clear hE a; intro a hE
  refine vP hS hE (Gives.p hE rfl) rfl ?_; clear hE a; intro a hE
  refine vP hS hE (Gives.p hE rfl) rfl ?_; clear hE a; intro a hE
  rcases Bool.eq_false_or_eq_true !q53.2 with hg67 | hg67
  ·replace hq61 := iteT hg67 hq61
   refine WL.no hE (runs_not hE rfl rfl rfl (by rw [hg67]; decide)) rfl ?_; clear hE a; intro a hE
   refine WL.no hE (runs_not hE rfl rfl rfl (by rw [hg67]; decide)) rfl ?_; clear hE a; intro a hE
   refine vP hS hE (Gives.pickT hE rfl hg67 rfl) rfl ?_; clear hE a; intro a hE
   refine vP hS hE (Gives.p hE rfl) rfl ?_; clear hE a; intro a hE
   refine WL.no hE (runs_not hE rfl rfl rfl (by decide)) rfl ?_; clear hE a; intro a hE
   refine WL.no hE (runs_not hE rfl rfl rfl (by decide)) rfl ?_; clear hE a; intro a hE
   refine WL.no hE (runs_not hE rfl rfl rfl (by decide)) rfl ?_; clear hE a; intro a hE
   refine WL.no hE (runs_not hE rfl rfl rfl (by decide)) rfl ?_; clear hE a; intro a hE
   refine vP hS hE (Gives.pickT hE rfl rfl rfl) rfl ?_; clear hE a; intro a hE
   refine vP hS hE (Gives.p hE rfl) rfl ?_; clear hE a; intro a hE
   refine WL.no hE (runs_not hE rfl rfl rfl (by decide)) rfl ?_; clear hE a; intro a hE
   refine WL.no hE (runs_not hE rfl rfl rfl (by decide)) rfl ?_; clear hE a; intro a hE
   refine WL.no hE (runs_not hE rfl rfl rfl (by decide)) rfl ?_; clear hE a; intro a hE
   refine WL.no hE (runs_not hE rfl rfl rfl (by decide)) rfl ?_; clear hE a; intro a hE
   refine WL.no hE (runs_not hE rfl rfl rfl (by decide)) rfl ?_; clear hE a; intro a hE
   refine WL.no hE (runs_not hE rfl rfl rfl (by decide)) rfl ?_; clear hE a; intro a hE
   refine vP hS hE (Gives.pickT hE rfl rfl rfl) rfl ?_; clear hE a; intro a hE
   refine WL.nil ?_
   subst hK66
   exact ⟨true, Option.some.inj hq61, hE.pick _ ⟨rfl, rfl, rfl, rfl, rfl, rfl, trivial⟩, hS⟩
  ·replace hq61 := iteF hg67 hq61
   refine WL.vS hS hE (runs_if hE rfl rfl rfl hg67) (Gives.p hE rfl) rfl ?_; clear hE a; intro a hE
   refine WL.vS hS hE (runs_if hE rfl rfl rfl hg67) (Gives.p hE rfl) rfl ?_; clear hE a; intro a hE
   refine vP hS hE (Gives.pickF hE rfl hg67 rfl) rfl ?_; clear hE a; intro a hE
   refine vP hS hE (Gives.p hE rfl) rfl ?_; clear hE a; intro a hE
   rcases Bool.eq_false_or_eq_true (decide (((q55.length : Nat) : Int) < 9)) with hg68 | hg68
   ·replace hq61 := iteT hg68 hq61
    refine WL.no hE (runs_not hE rfl rfl rfl (by rw [hg68]; decide)) rfl ?_; clear hE a; intro a hE
    refine WL.no hE (runs_not hE rfl rfl rfl (by rw [hg68]; decide)) rfl ?_; clear hE a; intro a hE
    refine WL.no hE (runs_not hE rfl rfl rfl (by rw [hg68]; decide)) rfl ?_; clear hE a; intro a hE
    refine WL.no hE (runs_not hE rfl rfl rfl (by rw [hg68]; decide)) rfl ?_; clear hE a; intro a hE
    refine vP hS hE (Gives.pickT hE rfl hg68 rfl) rfl ?_; clear hE a; intro a hE
    refine vP hS hE (Gives.p hE rfl) rfl ?_; clear hE a; intro a hE
    refine WL.no hE (runs_not hE rfl rfl rfl (by decide)) rfl ?_; clear hE a; intro a hE
    refine WL.no hE (runs_not hE rfl rfl rfl (by decide)) rfl ?_; clear hE a; intro a hE
    refine WL.no hE (runs_not hE rfl rfl rfl (by decide)) rfl ?_; clear hE a; intro a hE
    refine WL.no hE (runs_not hE rfl rfl rfl (by decide)) rfl ?_; clear hE a; intro a hE
    refine WL.no hE (runs_not hE rfl rfl rfl (by decide)) rfl ?_; clear hE a; intro a hE
    refine WL.no hE (runs_not hE rfl rfl rfl (by decide)) rfl ?_; clear hE a; intro a hE
    refine vP hS hE (Gives.pickT hE rfl rfl rfl) rfl ?_; clear hE a; intro a hE
    refine WL.nil ?_
    subst hK66
    exact ⟨true, Option.some.inj hq61, hE.pick _ ⟨rfl, rfl, rfl, rfl, rfl, rfl, trivial⟩, hS⟩
   ·replace hq61 := iteF hg68 hq61
    refine WL.vS hS hE (runs_if hE rfl rfl rfl hg68) (Gives.p hE rfl) rfl ?_; clear hE a; intro a hE
    obtain ⟨x69, hx70, hq61⟩ := bindS hq61
    obtain ⟨hi71, hlt72, hy73⟩ := gx_some hx70
    obtain ⟨vs74, hl75, hR76, hd77, hget78⟩ := h59.at hy73
    subst hR76
    refine WL.vS hS hE (runs_if hE rfl rfl rfl hg68) (Gives.idx hE (((0 : Int)).toNat) rfl rfl sl135 hi71 (by omega) (hS.vecAok 0 rfl (by omega : ((0 : Int)).toNat < q55.length))) rfl ?_; clear hE a; intro a hE
    refine WL.vS hS hE (runs_if hE rfl rfl rfl hg68) (Gives.load1 hE rfl (fun w h => St.vecSees h 0 rfl (((0 : Int)).toNat * 1) _ hget78) ty9) rfl ?_; clear hE a; intro a hE
    refine WL.vS hS hE (runs_if hE rfl rfl rfl hg68) (Gives.neSt hE rfl rfl) rfl ?_; clear hE a; intro a hE
    refine vP hS hE (Gives.pickF hE rfl hg68 rfl) rfl ?_; clear hE a; intro a hE
    refine vP hS hE (Gives.p hE rfl) rfl ?_; clear hE a; intro a hE
    rcases Bool.eq_false_or_eq_true (!(seq x69 (str [116, 105, 99, 107, 101, 116]))) with hg79 | hg79
    ·replace hq61 := iteT hg79 hq61
     refine WL.no hE (runs_not hE rfl rfl rfl (by rw [hg79]; decide)) rfl ?_; clear hE a; intro a hE
     refine WL.no hE (runs_not hE rfl rfl rfl (by rw [hg79]; decide)) rfl ?_; clear hE a; intro a hE
     refine WL.no hE (runs_not hE rfl rfl rfl (by rw [hg79]; decide)) rfl ?_; clear hE a; intro a hE
     refine WL.no hE (runs_not hE rfl rfl rfl (by rw [hg79]; decide)) rfl ?_; clear hE a; intro a hE
     refine WL.no hE (runs_not hE rfl rfl rfl (by rw [hg79]; decide)) rfl ?_; clear hE a; intro a hE
     refine WL.no hE (runs_not hE rfl rfl rfl (by rw [hg79]; decide)) rfl ?_; clear hE a; intro a hE
     refine vP hS hE (Gives.pickT hE rfl hg79 rfl) rfl ?_; clear hE a; intro a hE
     refine WL.nil ?_
     subst hK66
     exact ⟨true, Option.some.inj hq61, hE.pick _ ⟨rfl, rfl, rfl, rfl, rfl, rfl, trivial⟩, hS⟩
    ·replace hq61 := iteF hg79 hq61
     refine WL.vS hS hE (runs_if hE rfl rfl rfl hg79) (Gives.p hE rfl) rfl ?_; clear hE a; intro a hE
     refine WL.vS hS hE (runs_if hE rfl rfl rfl hg79) (Gives.p hE rfl) rfl ?_; clear hE a; intro a hE
     refine WL.vS hS hE (runs_if hE rfl rfl rfl hg79) (Gives.p hE rfl) rfl ?_; clear hE a; intro a hE
     obtain ⟨x80, hx81, hq61⟩ := bindS hq61
     obtain ⟨hi82, hlt83, hy84⟩ := gx_some hx81
     obtain ⟨vs85, hl86, hR87, hd88, hget89⟩ := h59.at hy84
     subst hR87
     refine WL.vS hS hE (runs_if hE rfl rfl rfl hg79) (Gives.idx hE ((w64 (((q55.length : Nat) : Int) - 2)).toNat) rfl rfl sl135 hi82 (by omega) (hS.vecAok 0 rfl (by omega : (w64 (((q55.length : Nat) : Int) - 2)).toNat < q55.length))) rfl ?_; clear hE a; intro a hE
     refine WL.vS hS hE (runs_if hE rfl rfl rfl hg79) (Gives.load1 hE rfl (fun w h => St.vecSees h 0 rfl ((w64 (((q55.length : Nat) : Int) - 2)).toNat * 1) _ hget89) ty9) rfl ?_; clear hE a; intro a hE
     refine WL.vS hS hE (runs_if hE rfl rfl rfl hg79) (Gives.neSt hE rfl rfl) rfl ?_; clear hE a; intro a hE
     refine vP hS hE (Gives.pickF hE rfl hg79 rfl) rfl ?_; clear hE a; intro a hE
     refine WL.nil ?_
     subst hK66
     exact ⟨!(seq x80 (str [58])), Option.some.inj hq61, hE.pick _ ⟨rfl, rfl, rfl, rfl, rfl, rfl, trivial⟩, hS⟩
 ·clear hE hS a w; rintro a w ⟨q65, rfl, hE, hS⟩
  refine W.cond hE rfl (fun hc90 => ?_) (fun hc90 => ?_)
  ·replace hr := iteT hc90 hr
   refine W.seq (W.region ?_)
   replace hS := hS.vecNil 3 1
   refine vP hS hE (Gives.p hE rfl) rfl ?_; clear hE a; intro a hE
   refine vP hS hE (Gives.p hE rfl) rfl ?_; clear hE a; intro a hE
   refine WL.storeI hE hS 2 rfl [.bool false] (runs_plain rfl) rfl rfl rfl ty4 rfl rfl rfl rfl ?_; clear hE hS a w; intro a w hE hS
   refine WL.nil ?_
   refine W.ret ?_
   refine leavesG (fn := Tryz.f50) (rs := [.tmp 2, .tmp 3, .cell 4 4]) (vs := [.slice none 0 0, .int .i64 0, .bool false]) hE rfl (by simp) bd75 rfl (callsD_mono (oc_ret_75 _ _) ?_)
   rintro e u w2 ⟨rfl, rfl, rfl⟩
   refine ⟨rfl, rfl, ⟨rfl, rfl, ⟨_, rfl, .inr ⟨hS.seesAt 2 rfl, ty4⟩⟩, trivial⟩, ?_⟩
   obtain rfl := Option.some.inj hr
   replace hS := hS.dropAt 1
   replace hS := hS.dropAt 1
   replace hS := hS.dropAt 1
   exact ⟨none, 0, 0, [], s, rfl, (Sg.Le.refl _), (Ev.nil), (rfl), hS⟩
  ·replace hr := iteF hc90 hr
   refine W.skip ?_
   refine W.seq ?_
   refine W.seq (W.region ?_)
   refine vP hS hE (Gives.p hE rfl) rfl ?_; clear hE a; intro a hE
   refine vP hS hE (Gives.p hE rfl) rfl ?_; clear hE a; intro a hE
   refine vP hS hE (Gives.len hE rfl sl135) rfl ?_; clear hE a; intro a hE
   refine vP hS hE (Gives.p hE rfl) rfl ?_; clear hE a; intro a hE
   have hF := hS.fixD RS.mono 0 rfl h59 (rfl); clear hS; obtain ⟨s92, hle93, hS, h94⟩ := hF
   obtain ⟨x95, hx96, hr⟩ := bindS hr
   obtain ⟨a97, c98, heq99, h100⟩ := h94.cut hx96
   obtain ⟨h101, h102, h103, _⟩ := cutl_some hx96
   refine vP hS hE (Gives.slLH hE sl135 rfl rfl rfl h101 h102 (Int.le_trans h103 (by have := h94.len; omega)) heq99) rfl ?_; clear hE a; intro a hE
   refine vP hS hE (Gives.len hE rfl sl135) rfl ?_; clear hE a; intro a hE
   refine vP hS hE (Gives.p hE rfl) rfl ?_; clear hE a; intro a hE
   refine WL.nil ?_
   obtain ⟨q105, hq104, hr⟩ := bindS hr
   refine W.cut (fun a w => ∃ (q115 : List Int), ∃ (a116 : Option Addr), ∃ (c117 : Nat), ∃ (n119 : Nat), ∃ (cs120 : List Value), (.next q115) = q105 ∧ Ev 1 (RI .i64) s92 cs120 q115 ∧ q115.length = n119 ∧ Rep a 65 [(2, .slice a116 n119 c117), (3, .int .i64 0), (4, .pointer (some ⟨b52, 0, none⟩)), (7, .slice (some ⟨b57, 0, none⟩) q55.length q55.length), (4294967295, .func (.func 75) #[] #[.pointer (some ⟨b52, 0, none⟩)])] ∧ St w s92 (pt b52 (.cells #[.bool false] 4 (0, 0)) :: vecC 3 1 a116 c117 n119 cs120 :: R)) ?_ ?_
   ·refine W.block ?_
    refine W.loop (fun m a w => ∃ (rest108 : List ByteArray) (k106 : Nat), ∃ (q115 : List Int), ∃ (a116 : Option Addr), ∃ (c117 : Nat), ∃ (n119 : Nat), ∃ (cs120 : List Value), rest108.length = m ∧ x95.drop k106 = rest108 ∧ Fareopen.loop1 rest108 q115 = some q105 ∧ Ev 1 (RI .i64) s92 cs120 q115 ∧ q115.length = n119 ∧ Rep a 65 [(2, .slice a116 n119 c117), (3, .int .i64 0), (4, .pointer (some ⟨b52, 0, none⟩)), (7, .slice (some ⟨b57, 0, none⟩) q55.length q55.length), (45, .slice a97 x95.length c98), (46, .int .i64 ((x95).length : Int)), (47, .int .i64 ((k106 : Nat) : Int)), (4294967295, .func (.func 75) #[] #[.pointer (some ⟨b52, 0, none⟩)])] ∧ St w s92 (pt b52 (.cells #[.bool false] 4 (0, 0)) :: vecC 3 1 a116 c117 n119 cs120 :: R)) (m := x95.length) ⟨x95, 0, [], none, 0, 0, [], rfl, rfl, hq104, (Ev.nil), (rfl), hE.pick _ ⟨rfl, rfl, rfl, rfl, rfl, rfl, rfl, rfl, trivial⟩, hS⟩ ?_
    clear hE hS a w hq104; rintro m112 a w ⟨rest108, k106, q115, a116, c117, n119, cs120, rfl, hd109, hq104, h118, rfl, hE, hS⟩
    refine W.gen fun K122 hK122 => ?_
    rcases rest108 with _ | ⟨x107, rest108⟩
    ·have hlt110 := drop_nil hd109
     refine W.seq (W.region ?_)
     refine vP hS hE (Gives.p hE rfl) rfl ?_; clear hE a; intro a hE
     refine WL.nil ?_
     refine W.seq ?_
     refine W.condF hE rfl (decide_eq_false (by omega)) ?_
     subst hK122
     refine W.exit rfl ?_
     exact ⟨q115, a116, c117, q115.length, cs120, Option.some.inj hq104, h118, rfl, hE.pick _ ⟨rfl, rfl, rfl, rfl, rfl, trivial⟩, hS⟩
    ·obtain ⟨hlt110, hx111, hd109⟩ := drop_cons hd109
     rw [Fareopen.loop1] at hq104
     refine W.seq (W.region ?_)
     refine vP hS hE (Gives.p hE rfl) rfl ?_; clear hE a; intro a hE
     refine WL.nil ?_
     refine W.seq ?_
     refine W.condT hE rfl (decide_eq_true (by omega)) ?_
     refine W.skip ?_
     refine W.seq ?_
     refine W.block ?_
     refine W.seq (W.region ?_)
     obtain ⟨cs123, hl124, hR125, hat126⟩ := h100.at hx111
     subst hR125
     refine vP hS hE (Gives.idx hE k106 rfl rfl sl135 rfl hlt110 (h100.aok hlt110)) rfl ?_; clear hE a; intro a hE
     refine vP hS hE (Gives.load1 hE rfl (fun w h => hat126 w _ h) ty9) rfl ?_; clear hE a; intro a hE
     refine vP hS hE (Gives.p hE rfl) rfl ?_; clear hE a; intro a hE
     refine WL.nil ?_
     refine W.region ?_
     refine vP hS hE (Gives.p hE rfl) rfl ?_; clear hE a; intro a hE
     refine vP hS hE (Gives.p hE rfl) rfl ?_; clear hE a; intro a hE
     obtain ⟨q127, hq128, hq104⟩ := bindS hq104
     have hc_ := Farenumber_ok hS (TabG.mono hle93 hTab) hq128
     refine WL.fnP hE (hc_) (runs_plain rfl) bd78 rfl rfl rfl ?_
     clear hE hS hc_; rintro e w (⟨hz130, rfl, t132, hle133, hS⟩ | ⟨rr129, hz131, rfl, hS⟩)
     ·refine .inr ⟨_, rfl, ?_⟩; clear a; intro a hE
      rw [hz130] at hq104; dsimp only at hq104
      replace hS := hS.down hle133
      subst hK122
      rw [← Option.some.inj hq104] at hr
      dsimp only at hr
      obtain ⟨hc134, hz135⟩ := hS.cell1 0 rfl
      refine leavesG (fn := Tryz.f50) (rs := [.tmp 2, .tmp 3, .cell 4 4]) (vs := [.slice a116 q115.length c117, .int .i64 0, .bool false]) hE rfl (by simp) bd75 rfl (callsD_mono (oc_pan_75 _ _ _ hc134 hz135) ?_)
      rintro e u w2 ⟨rfl, rfl, o, rfl⟩
      replace hS := hS.recov 0 rfl o (.bool false)
      refine ⟨rfl, rfl, ⟨rfl, rfl, ⟨_, rfl, .inr ⟨hS.seesAt 0 rfl, ty4⟩⟩, trivial⟩, ?_⟩
      obtain rfl := Option.some.inj hr
      replace hS := hS.tail
      exact ⟨a116, c117, q115.length, cs120, s92, rfl, hle93, h118, rfl, hS⟩
     refine .inl ⟨_, rfl, ?_⟩; clear a; intro a hE
     rw [hz131] at hq104; dsimp only at hq104
     refine WL.lit hE hS (e := 3) (es := 1) (vs := [(0, .int .i64 rr129)]) (cs := [.int .i64 rr129]) (runs_plain rfl) rfl (by kernel_rfl) rfl ?_; clear hE hS a w; intro b136 a w hE hS
     obtain ⟨x137, hx138, hq104⟩ := bindS hq104
     refine WL.appD hE hS 1 (m := 1) (runs_plain rfl) rfl rfl rfl ap37 rfl h118 rfl (xs := [rr129]) (Ev.cons (c1 := [.int .i64 rr129]) rfl rfl (Ev.nil)) rfl rfl hx138 rfl ?_; clear hE hS a w; intro a139 c140 cs141 a w h142 hE hS
     refine vP hS hE (Gives.p hE rfl) rfl ?_; clear hE a; intro a hE
     refine WL.nil ?_
     refine W.region ?_
     refine vP hS hE (Gives.inc hE rfl (by have := h100.small; omega)) rfl ?_; clear hE a; intro a hE
     refine vP hS hE (Gives.p hE rfl) rfl ?_; clear hE a; intro a hE
     refine WL.nil ?_
     subst hK122
     exact ⟨rest108.length, Nat.lt_succ_self _, rest108, k106 + 1, x137, a139, c140, x137.length, cs141, rfl, hd109, hq104, h142, (rfl), hE.pick _ ⟨rfl, rfl, rfl, rfl, rfl, rfl, rfl, rfl, trivial⟩, hS⟩
   ·clear hE hS a w; rintro a w ⟨q115, a116, c117, n119, cs120, rfl, h118, rfl, hE, hS⟩
    dsimp only at hr
    refine W.seq (W.region ?_)
    refine vP hS hE (Gives.p hE rfl) rfl ?_; clear hE a; intro a hE
    refine vP hS hE (Gives.p hE rfl) rfl ?_; clear hE a; intro a hE
    refine vP hS hE (Gives.p hE rfl) rfl ?_; clear hE a; intro a hE
    refine vP hS hE (Gives.len hE rfl sl135) rfl ?_; clear hE a; intro a hE
    refine vP hS hE (Gives.p hE rfl) rfl ?_; clear hE a; intro a hE
    obtain ⟨x143, hx144, hr⟩ := bindS hr
    obtain ⟨hi145, hlt146, hy147⟩ := gx_some hx144
    obtain ⟨cs148, hl149, hR150, hat151⟩ := h94.at hy147
    subst hR150
    refine vP hS hE (Gives.idx hE (w64 (((q55).length : Int) - 1)).toNat rfl rfl sl135 hi145 hlt146 (h94.aok hlt146)) rfl ?_; clear hE a; intro a hE
    refine vP hS hE (Gives.load1 hE rfl (fun w h => hat151 w _ h) ty9) rfl ?_; clear hE a; intro a hE
    obtain ⟨q152, hq153, hr⟩ := bindS hr
    have hc_ := Farenumber_ok hS (TabG.mono hle93 hTab) hq153
    refine WL.fnP hE (hc_) (runs_plain rfl) bd78 rfl rfl rfl ?_
    clear hE hS hc_; rintro e w (⟨hz155, rfl, t157, hle158, hS⟩ | ⟨rr154, hz156, rfl, hS⟩)
    ·refine .inr ⟨_, rfl, ?_⟩; clear a; intro a hE
     rw [hz155] at hr; dsimp only at hr
     replace hS := hS.down hle158
     obtain ⟨hc159, hz160⟩ := hS.cell1 0 rfl
     refine leavesG (fn := Tryz.f50) (rs := [.tmp 2, .tmp 3, .cell 4 4]) (vs := [.slice a116 q115.length c117, .int .i64 0, .bool false]) hE rfl (by simp) bd75 rfl (callsD_mono (oc_pan_75 _ _ _ hc159 hz160) ?_)
     rintro e u w2 ⟨rfl, rfl, o, rfl⟩
     replace hS := hS.recov 0 rfl o (.bool false)
     refine ⟨rfl, rfl, ⟨rfl, rfl, ⟨_, rfl, .inr ⟨hS.seesAt 0 rfl, ty4⟩⟩, trivial⟩, ?_⟩
     obtain rfl := Option.some.inj hr
     replace hS := hS.tail
     exact ⟨a116, c117, q115.length, cs120, s92, rfl, hle93, h118, rfl, hS⟩
    refine .inl ⟨_, rfl, ?_⟩; clear a; intro a hE
    rw [hz156] at hr; dsimp only at hr
    refine vP hS hE (Gives.p hE rfl) rfl ?_; clear hE a; intro a hE
    refine vP hS hE (Gives.p hE rfl) rfl ?_; clear hE a; intro a hE
    refine WL.storeI hE hS 0 rfl [.bool true] (runs_plain rfl) rfl rfl rfl ty4 rfl rfl rfl rfl ?_; clear hE hS a w; intro a w hE hS
    refine WL.nil ?_
    refine W.ret ?_
    refine leavesG (fn := Tryz.f50) (rs := [.tmp 2, .tmp 3, .cell 4 4]) (vs := [.slice a116 q115.length c117, .int .i64 rr154, .bool true]) hE rfl (by simp) bd75 rfl (callsD_mono (oc_ret_75 _ _) ?_)
    rintro e u w2 ⟨rfl, rfl, rfl⟩
    refine ⟨rfl, rfl, ⟨rfl, rfl, ⟨_, rfl, .inr ⟨hS.seesAt 0 rfl, ty4⟩⟩, trivial⟩, ?_⟩
    obtain rfl := Option.some.inj hr
    replace hS := hS.tail
    exact ⟨a116, c117, q115.length, cs120, s92, rfl, hle93, h118, rfl, hS⟩
set_option maxHeartbeats 8000000 in
theorem InternalBytealgLastIndexByteString_ok {fu : Nat}  {w : World} {s : Sg} {R : List HP} {x0 : ByteArray} {x1 : Int} (hS : St w s (R))  {r : Int} (hr : InternalBytealgLastIndexByteString fu x0 x1 = some r) :
  Calls Tryz.prog 79 [.string x0, .int .u8 x1].toArray w (fun e w => e = .returned (.int .i64 r) ∧ St w s (R)) := by
 refine enter Tryz.func79 rfl rfl rfl fun a hE => ?_
 rw [InternalBytealgLastIndexByteString] at hr
 refine W.seq (W.region ?_)
 refine vP hS hE (Gives.p hE rfl) rfl ?_; clear hE a; intro a hE
 refine WL.nil ?_
 refine W.seq ?_
 refine W.seq (W.region ?_)
 refine vP hS hE (Gives.p hE rfl) rfl ?_; clear hE a; intro a hE
 refine vP hS hE (Gives.lenS hE rfl st9) rfl ?_; clear hE a; intro a hE
 refine vP hS hE (Gives.p hE rfl) rfl ?_; clear hE a; intro a hE
 refine vP hS hE (Gives.p hE rfl) rfl ?_; clear hE a; intro a hE
 refine WL.nil ?_
 obtain ⟨q52, hq51, hr⟩ := bindS hr
 refine W.cut (fun a w => ∃ (q57 : Int), (.next q57) = q52 ∧ Rep a 19 [] ∧ St w s (R)) ?_ ?_
 ·refine W.block ?_
  refine W.loop (fun m a w => ∃ (n53 : Nat), ∃ (q57 : Int), n53 = m ∧ InternalBytealgLastIndexByteString.loop1 x0 x1 n53 q57 = some q52 ∧ Rep a 19 [(0, .string x0), (1, .int .u8 x1), (5, .int .i64 q57)] ∧ St w s (R)) (m := fu) ⟨fu, (w64 (((x0.size : Nat) : Int) - 1)), rfl, hq51, hE.pick _ ⟨rfl, rfl, rfl, trivial⟩, hS⟩ ?_
  clear hE hS a w hq51; rintro m54 a w ⟨n53, q57, rfl, hq51, hE, hS⟩
  refine W.gen fun K58 hK58 => ?_
  rcases n53 with _ | n53
  ·rw [InternalBytealgLastIndexByteString.loop1] at hq51; exact absurd hq51 (by simp)
  rw [InternalBytealgLastIndexByteString.loop1] at hq51
  refine W.seq ?_
  refine W.seq (W.region ?_)
  refine vP hS hE (Gives.p hE rfl) rfl ?_; clear hE a; intro a hE
  refine vP hS hE (Gives.p hE rfl) rfl ?_; clear hE a; intro a hE
  refine WL.nil ?_
  refine W.cond hE rfl (fun hc59 => ?_) (fun hc59 => ?_)
  ·replace hq51 := iteT hc59 hq51
   refine W.skip ?_
   refine W.seq ?_
   refine W.block ?_
   refine W.seq (W.region ?_)
   refine vP hS hE (Gives.p hE rfl) rfl ?_; clear hE a; intro a hE
   refine vP hS hE (Gives.p hE rfl) rfl ?_; clear hE a; intro a hE
   obtain ⟨x60, hx61, hq51⟩ := bindS hq51
   refine vP hS hE (Gives.idxS hE st9 rfl rfl hx61) rfl ?_; clear hE a; intro a hE
   refine vP hS hE (Gives.p hE rfl) rfl ?_; clear hE a; intro a hE
   refine vP hS hE (Gives.p hE rfl) rfl ?_; clear hE a; intro a hE
   refine WL.nil ?_
   refine W.cond hE rfl (fun hc62 => ?_) (fun hc62 => ?_)
   ·replace hq51 := iteT hc62 hq51
    refine W.seq (W.region ?_)
    refine vP hS hE (Gives.p hE rfl) rfl ?_; clear hE a; intro a hE
    refine vP hS hE (Gives.p hE rfl) rfl ?_; clear hE a; intro a hE
    refine WL.nil ?_
    refine W.ret ?_
    subst hK58
    rw [← Option.some.inj hq51] at hr
    dsimp only at hr
    refine finG (fn := Tryz.f79) (rs := [.tmp 4]) (vs := [_]) hE rfl ⟨rfl, trivial⟩ ?_
    obtain rfl := Option.some.inj hr
    exact ⟨rfl, hS⟩
   ·replace hq51 := iteF hc62 hq51
    refine W.skip ?_
    refine W.region ?_
    refine vP hS hE (Gives.p hE rfl) rfl ?_; clear hE a; intro a hE
    refine vP hS hE (Gives.p hE rfl) rfl ?_; clear hE a; intro a hE
    refine vP hS hE (Gives.p hE rfl) rfl ?_; clear hE a; intro a hE
    refine WL.nil ?_
    subst hK58
    exact ⟨n53, Nat.lt_succ_self _, n53, (w64 (q57 - 1)), rfl, hq51, hE.pick _ ⟨rfl, rfl, rfl, trivial⟩, hS⟩
  ·replace hq51 := iteF hc59 hq51
   subst hK58
   refine W.exit rfl ?_
   exact ⟨q57, Option.some.inj hq51, hE.pick _ trivial, hS⟩
 ·clear hE hS a w; rintro a w ⟨q57, rfl, hE, hS⟩
  dsimp only at hr
  refine W.seq (W.region ?_)
  refine vP hS hE (Gives.p hE rfl) rfl ?_; clear hE a; intro a hE
  refine WL.nil ?_
  refine W.ret ?_
  refine finG (fn := Tryz.f79) (rs := [.tmp 4]) (vs := [_]) hE rfl ⟨rfl, trivial⟩ ?_
  obtain rfl := Option.some.inj hr
  exact ⟨rfl, hS⟩
set_option maxHeartbeats 8000000 in
theorem StringsLastIndexByte_ok {fu : Nat}  {w : World} {s : Sg} {R : List HP} {x0 : ByteArray} {x1 : Int} (hS : St w s (R))  {r : Int} (hr : StringsLastIndexByte fu x0 x1 = some r) :
  Calls Tryz.prog 52 [.string x0, .int .u8 x1].toArray w (fun e w => e = .returned (.int .i64 r) ∧ St w s (R)) := by
 refine enter Tryz.func52 rfl rfl rfl fun a hE => ?_
 rw [StringsLastIndexByte] at hr
 refine W.seq (W.region ?_)
 refine vP hS hE (Gives.p hE rfl) rfl ?_; clear hE a; intro a hE
 refine WL.nil ?_
 refine W.seq (W.region ?_)
 refine vP hS hE (Gives.p hE rfl) rfl ?_; clear hE a; intro a hE
 refine vP hS hE (Gives.p hE rfl) rfl ?_; clear hE a; intro a hE
 obtain ⟨q51, hq52, hr⟩ := bindS hr
 have hc_ := InternalBytealgLastIndexByteString_ok hS  hq52
 refine WL.fnq hE (hc_) (runs_plain rfl) bd79 rfl rfl rfl ?_
 clear hE hS hc_; rintro e w ⟨rfl, hS⟩; refine ⟨_, rfl, ?_⟩; clear a; intro a hE
 refine vP hS hE (Gives.p hE rfl) rfl ?_; clear hE a; intro a hE
 refine WL.nil ?_
 refine W.ret ?_
 refine finG (fn := Tryz.f52) (rs := [.tmp 4]) (vs := [_]) hE rfl ⟨rfl, trivial⟩ ?_
 obtain rfl := Option.some.inj hr
 exact ⟨rfl, hS⟩
set_option maxHeartbeats 8000000 in
theorem FareVerify_ok {fu : Nat}  {w : World} {s : Sg} {R : List HP} {x0 : FareKey} {x1 : ByteArray} {x2 : Int} (hS : St w s (R))  {r : Bool × Int} (hr : FareVerify fu x0 x1 x2 = some r) :
  Calls Tryz.prog 51 [.agg (FareKey.cells x0).toArray, .string x1, .int .i64 x2].toArray w (fun e w => e = .returned (.tuple #[.bool r.1, .int .i64 r.2]) ∧ St w s (R)) := by
 refine enter Tryz.func51 rfl rfl rfl fun a hE => ?_
 rw [FareVerify] at hr
 refine W.seq (W.region ?_)
 refine WL.box hE hS (runs_plain rfl) rfl rfl rfl ?_; clear hE hS a w; intro b51 a w hE hS
 refine vP hS hE (Gives.p hE rfl) rfl ?_; clear hE a; intro a hE
 refine vP hS hE (Gives.p hE rfl) rfl ?_; clear hE a; intro a hE
 refine WL.nil ?_
 refine W.seq ?_
 refine W.seq (W.region ?_)
 refine vP hS hE (Gives.loadBA hE 0 rfl rfl ty56) rfl ?_; clear hE a; intro a hE
 refine WL.fnq hE (FareKeycheck_ok hS  rfl (r := FareKeycheck x0 false)) (runs_plain rfl) bd29 rfl rfl rfl ?_
 clear hE hS; rintro e w ⟨rfl, hS⟩; refine ⟨_, rfl, ?_⟩; clear a; intro a hE
 refine vP hS hE (Gives.p hE rfl) rfl ?_; clear hE a; intro a hE
 refine WL.nil ?_
 refine W.seq (W.region ?_)
 refine vP hS hE (Gives.p hE rfl) rfl ?_; clear hE a; intro a hE
 refine vP hS hE (Gives.p hE rfl) rfl ?_; clear hE a; intro a hE
 refine WL.nil ?_
 refine W.cond hE rfl (fun hc52 => ?_) (fun hc52 => ?_)
 ·replace hr := iteT hc52 hr
  refine W.seq (W.region ?_)
  refine vP hS hE (Gives.p hE rfl) rfl ?_; clear hE a; intro a hE
  refine vP hS hE (Gives.p hE rfl) rfl ?_; clear hE a; intro a hE
  refine vP hS hE (Gives.p hE rfl) rfl ?_; clear hE a; intro a hE
  refine WL.nil ?_
  refine W.ret ?_
  refine finG (fn := Tryz.f51) (rs := [.tmp 6, .tmp 7]) (vs := [_, _]) hE rfl ⟨rfl, rfl, trivial⟩ ?_
  obtain rfl := Option.some.inj hr
  replace hS := hS.tail
  exact ⟨rfl, hS⟩
 ·replace hr := iteF hc52 hr
  refine W.skip ?_
  refine W.seq ?_
  obtain ⟨q54, hq53, hr⟩ := bindS hr
  refine W.cut (fun a w => ∃ (q57 : Bool), ∃ (q58 : Int), (q57, q58) = q54 ∧ Rep a 30 [(6, .bool q57), (7, .int .i64 q58)] ∧ St w s (pt b51 (.cells (FareKey.cells x0).toArray 56 (0, 0)) :: R)) ?_ ?_
  ·refine W.gen fun K59 hK59 => ?_
   refine W.region ?_
   refine vP hS hE (Gives.p hE rfl) rfl ?_; clear hE a; intro a hE
   refine vP hS hE (Gives.fld hE rfl fl56_0) rfl ?_; clear hE a; intro a hE
   refine vP hS hE (Gives.loadB hE 0 rfl rfl rfl ty3) rfl ?_; clear hE a; intro a hE
   refine vP hS hE (Gives.p hE rfl) rfl ?_; clear hE a; intro a hE
   refine WL.fnq hE (Farewithin_ok hS  rfl (r := Farewithin x2 0 (w64 (x0.N - 1)))) (runs_plain rfl) bd26 rfl rfl rfl ?_
   clear hE hS; rintro e w ⟨rfl, hS⟩; refine ⟨_, rfl, ?_⟩; clear a; intro a hE
   refine vP hS hE (Gives.p hE rfl) rfl ?_; clear hE a; intro a hE
   rcases Bool.eq_false_or_eq_true (Farewithin x2 0 (w64 (x0.N - 1))) with hg60 | hg60
   ·replace hq53 := iteT hg60 hq53
    refine WL.vS hS hE (runs_if hE rfl rfl rfl hg60) (Gives.p hE rfl) rfl ?_; clear hE a; intro a hE
    refine WL.vS hS hE (runs_if hE rfl rfl rfl hg60) (Gives.fld hE rfl fl56_1) rfl ?_; clear hE a; intro a hE
    refine WL.vS hS hE (runs_if hE rfl rfl rfl hg60) (Gives.loadB hE 0 rfl rfl rfl ty3) rfl ?_; clear hE a; intro a hE
    refine WL.vS hS hE (runs_if hE rfl rfl rfl hg60) (Gives.fld hE rfl fl56_0) rfl ?_; clear hE a; intro a hE
    refine WL.vS hS hE (runs_if hE rfl rfl rfl hg60) (Gives.loadB hE 0 rfl rfl rfl ty3) rfl ?_; clear hE a; intro a hE
    obtain ⟨q61, hq62, hq53⟩ := bindS hq53
    have hc_ := Farepower_ok hS  hq62
    refine WL.fnq hE (hc_) (runs_if hE rfl rfl rfl hg60) bd48 rfl rfl rfl ?_
    clear hE hS hc_; rintro e w ⟨rfl, hS⟩; refine ⟨_, rfl, ?_⟩; clear a; intro a hE
    refine WL.vS hS hE (runs_if hE rfl rfl rfl hg60) (Gives.p hE rfl) rfl ?_; clear hE a; intro a hE
    obtain ⟨q63, hq64, hq53⟩ := bindS hq53
    have hc_ := FareDigest_ok hS  hq64
    refine WL.fnq hE (hc_) (runs_if hE rfl rfl rfl hg60) bd49 rfl rfl rfl ?_
    clear hE hS hc_; rintro e w ⟨rfl, hS⟩; refine ⟨_, rfl, ?_⟩; clear a; intro a hE
    refine WL.vS hS hE (runs_if hE rfl rfl rfl hg60) (Gives.p hE rfl) rfl ?_; clear hE a; intro a hE
    refine vP hS hE (Gives.pickT hE rfl hg60 rfl) rfl ?_; clear hE a; intro a hE
    refine vP hS hE (Gives.p hE rfl) rfl ?_; clear hE a; intro a hE
    refine vP hS hE (Gives.p hE rfl) rfl ?_; clear hE a; intro a hE
    refine WL.nil ?_
    subst hK59
    exact ⟨(q61 == q63), 0, Option.some.inj hq53, hE.pick _ ⟨rfl, rfl, trivial⟩, hS⟩
   ·replace hq53 := iteF hg60 hq53
    refine WL.no hE (runs_not hE rfl rfl rfl (by rw [hg60]; decide)) rfl ?_; clear hE a; intro a hE
    refine WL.no hE (runs_not hE rfl rfl rfl (by rw [hg60]; decide)) rfl ?_; clear hE a; intro a hE
    refine WL.no hE (runs_not hE rfl rfl rfl (by rw [hg60]; decide)) rfl ?_; clear hE a; intro a hE
    refine WL.no hE (runs_not hE rfl rfl rfl (by rw [hg60]; decide)) rfl ?_; clear hE a; intro a hE
    refine WL.no hE (runs_not hE rfl rfl rfl (by rw [hg60]; decide)) rfl ?_; clear hE a; intro a hE
    refine WL.no hE (runs_not hE rfl rfl rfl (by rw [hg60]; decide)) rfl ?_; clear hE a; intro a hE
    refine WL.no hE (runs_not hE rfl rfl rfl (by rw [hg60]; decide)) rfl ?_; clear hE a; intro a hE
    refine WL.no hE (runs_not hE rfl rfl rfl (by rw [hg60]; decide)) rfl ?_; clear hE a; intro a hE
    refine WL.no hE (runs_not hE rfl rfl rfl (by rw [hg60]; decide)) rfl ?_; clear hE a; intro a hE
    refine vP hS hE (Gives.pickF hE rfl hg60 rfl) rfl ?_; clear hE a; intro a hE
    refine vP hS hE (Gives.p hE rfl) rfl ?_; clear hE a; intro a hE
    refine vP hS hE (Gives.p hE rfl) rfl ?_; clear hE a; intro a hE
    refine WL.nil ?_
    subst hK59
    exact ⟨false, 0, Option.some.inj hq53, hE.pick _ ⟨rfl, rfl, trivial⟩, hS⟩
  ·clear hE hS a w; rintro a w ⟨q57, q58, rfl, hE, hS⟩
   dsimp only at hr
   refine W.ret ?_
   refine finG (fn := Tryz.f51) (rs := [.tmp 6, .tmp 7]) (vs := [_, _]) hE rfl ⟨rfl, rfl, trivial⟩ ?_
   obtain rfl := Option.some.inj hr
   replace hS := hS.tail
   exact ⟨rfl, hS⟩
set_option maxHeartbeats 8000000 in
theorem FareOpen_ok {fu : Nat}  {w : World} {s : Sg} {R : List HP} {x0 : FareKey} {x1 : ByteArray} (hS : St w s (R)) (hTab : TabX s) {r : FareTicket × Int} (hr : FareOpen fu x0 x1 = some r) :
  Calls Tryz.prog 33 [.agg (FareKey.cells x0).toArray, .string x1].toArray w (fun e w => ∃ (cs0 : List Value) (t : Sg), e = .returned (.tuple #[.agg cs0.toArray, .int .i64 r.2]) ∧ s.Le t ∧ RFareTicket t cs0 r.1 ∧ St w t (R)) := by
 refine enter Tryz.func33 rfl rfl rfl fun a hE => ?_
 rw [FareOpen] at hr
 refine W.seq (W.region ?_)
 refine WL.box hE hS (runs_plain rfl) rfl rfl rfl ?_; clear hE hS a w; intro b51 a w hE hS
 refine WL.alloc hE hS (runs_plain rfl) zr62 rfl ?_; clear hE hS a w; intro b52 a w hE hS
 refine vP hS hE (Gives.p hE rfl) rfl ?_; clear hE a; intro a hE
 refine WL.nil ?_
 refine W.seq ?_
 refine W.seq (W.region ?_)
 refine vP hS hE (Gives.loadBA hE 1 rfl rfl ty56) rfl ?_; clear hE a; intro a hE
 refine WL.fnq hE (FareKeycheck_ok hS  rfl (r := FareKeycheck x0 false)) (runs_plain rfl) bd29 rfl rfl rfl ?_
 clear hE hS; rintro e w ⟨rfl, hS⟩; refine ⟨_, rfl, ?_⟩; clear a; intro a hE
 refine vP hS hE (Gives.p hE rfl) rfl ?_; clear hE a; intro a hE
 refine WL.nil ?_
 refine W.seq (W.region ?_)
 refine vP hS hE (Gives.p hE rfl) rfl ?_; clear hE a; intro a hE
 refine vP hS hE (Gives.p hE rfl) rfl ?_; clear hE a; intro a hE
 refine WL.nil ?_
 refine W.cond hE rfl (fun hc53 => ?_) (fun hc53 => ?_)
 ·replace hr := iteT hc53 hr
  refine W.seq (W.region ?_)
  refine vP hS hE (Gives.build hE (vs := []) [.int .i64 0, .int .i64 0, .int .i64 0, .int .i64 0, .int .i64 0, .slice none 0 0] rfl (by kernel_rfl)) rfl ?_; clear hE a; intro a hE
  refine vP hS hE (Gives.p hE rfl) rfl ?_; clear hE a; intro a hE
  refine WL.storeI hE hS 0 rfl [.int .i64 0, .int .i64 0, .int .i64 0, .int .i64 0, .int .i64 0, .slice none 0 0] (runs_plain rfl) rfl rfl rfl ty62 rfl rfl rfl rfl ?_; clear hE hS a w; intro a w hE hS
  refine vP hS hE (Gives.p hE rfl) rfl ?_; clear hE a; intro a hE
  refine WL.nil ?_
  refine W.ret ?_
  refine finG (fn := Tryz.f33) (rs := [.cell 4 62, .tmp 5]) (vs := [_, _]) hE rfl ⟨⟨_, rfl, .inl ⟨_, rfl, hS.seesAt 0 rfl, ty62⟩⟩, rfl, trivial⟩ ?_
  obtain rfl := Option.some.inj hr
  replace hS := hS.tail
  replace hS := hS.tail
  exact ⟨_, s, rfl, (Sg.Le.refl _), ⟨_, _, rfl, Sl.nil⟩, hS⟩
 ·replace hr := iteF hc53 hr
  refine W.skip ?_
  refine W.seq ?_
  refine W.seq (W.region ?_)
  refine vP hS hE (Gives.p hE rfl) rfl ?_; clear hE a; intro a hE
  refine vP hS hE (Gives.lenS hE rfl st9) rfl ?_; clear hE a; intro a hE
  refine vP hS hE (Gives.p hE rfl) rfl ?_; clear hE a; intro a hE
  refine WL.nil ?_
  refine W.cond hE rfl (fun hc54 => ?_) (fun hc54 => ?_)
  ·replace hr := iteT hc54 hr
   refine W.seq (W.region ?_)
   refine vP hS hE (Gives.build hE (vs := []) [.int .i64 0, .int .i64 0, .int .i64 0, .int .i64 0, .int .i64 0, .slice none 0 0] rfl (by kernel_rfl)) rfl ?_; clear hE a; intro a hE
   refine WL.storeI hE hS 0 rfl [.int .i64 0, .int .i64 0, .int .i64 0, .int .i64 0, .int .i64 0, .slice none 0 0] (runs_plain rfl) rfl rfl rfl ty62 rfl rfl rfl rfl ?_; clear hE hS a w; intro a w hE hS
   refine vP hS hE (Gives.p hE rfl) rfl ?_; clear hE a; intro a hE
   refine WL.nil ?_
   refine W.ret ?_
   refine finG (fn := Tryz.f33) (rs := [.cell 4 62, .tmp 5]) (vs := [_, _]) hE rfl ⟨⟨_, rfl, .inl ⟨_, rfl, hS.seesAt 0 rfl, ty62⟩⟩, rfl, trivial⟩ ?_
   obtain rfl := Option.some.inj hr
   replace hS := hS.tail
   replace hS := hS.tail
   exact ⟨_, s, rfl, (Sg.Le.refl _), ⟨_, _, rfl, Sl.nil⟩, hS⟩
  ·replace hr := iteF hc54 hr
   refine W.skip ?_
   refine W.seq (W.region ?_)
   refine vP hS hE (Gives.p hE rfl) rfl ?_; clear hE a; intro a hE
   obtain ⟨q55, hq56, hr⟩ := bindS hr
   have hc_ := Fareopen_ok hS (TabG.mono (Sg.Le.refl _) hTab) hq56
   refine WL.fnq hE (hc_) (runs_plain rfl) bd50 rfl rfl rfl ?_
   clear hE hS hc_; rintro e w ⟨a57, c58, n59, cs60, s63, rfl, hle64, h61, rfl, hS⟩; refine ⟨_, rfl, ?_⟩; clear a; intro a hE
   refine vP hS hE (Gives.p hE rfl) rfl ?_; clear hE a; intro a hE
   refine vP hS hE (Gives.p hE rfl) rfl ?_; clear hE a; intro a hE
   refine vP hS hE (Gives.p hE rfl) rfl ?_; clear hE a; intro a hE
   refine vP hS hE (Gives.p hE rfl) rfl ?_; clear hE a; intro a hE
   refine vP hS hE (Gives.p hE rfl) rfl ?_; clear hE a; intro a hE
   refine vP hS hE (Gives.p hE rfl) rfl ?_; clear hE a; intro a hE
   refine vP hS hE (Gives.p hE rfl) rfl ?_; clear hE a; intro a hE
   refine WL.nil ?_
   refine W.seq ?_
   refine W.seq (W.region ?_)
   refine vP hS hE (Gives.p hE rfl) rfl ?_; clear hE a; intro a hE
   refine vP hS hE (Gives.p hE rfl) rfl ?_; clear hE a; intro a hE
   refine WL.nil ?_
   refine W.cond hE rfl (fun hc65 => ?_) (fun hc65 => ?_)
   ·replace hr := iteT hc65 hr
    refine W.seq (W.region ?_)
    refine vP hS hE (Gives.build hE (vs := []) [.int .i64 0, .int .i64 0, .int .i64 0, .int .i64 0, .int .i64 0, .slice none 0 0] rfl (by kernel_rfl)) rfl ?_; clear hE a; intro a hE
    refine WL.storeI hE hS 1 rfl [.int .i64 0, .int .i64 0, .int .i64 0, .int .i64 0, .int .i64 0, .slice none 0 0] (runs_plain rfl) rfl rfl rfl ty62 rfl rfl rfl rfl ?_; clear hE hS a w; intro a w hE hS
    refine vP hS hE (Gives.p hE rfl) rfl ?_; clear hE a; intro a hE
    refine WL.nil ?_
    refine W.ret ?_
    refine finG (fn := Tryz.f33) (rs := [.cell 4 62, .tmp 5]) (vs := [_, _]) hE rfl ⟨⟨_, rfl, .inl ⟨_, rfl, hS.seesAt 1 rfl, ty62⟩⟩, rfl, trivial⟩ ?_
    obtain rfl := Option.some.inj hr
    replace hS := hS.tail
    replace hS := hS.tail
    replace hS := hS.tail
    exact ⟨_, s63, rfl, hle64, ⟨_, _, rfl, Sl.nil⟩, hS⟩
   ·replace hr := iteF hc65 hr
    refine W.skip ?_
    refine W.seq ?_
    refine W.seq ?_
    refine W.regionQ (C := fun w => St w s63 (vecC 3 1 a57 c58 q55.1.length cs60 :: pt b52 (.cells #[.int .i64 0, .int .i64 0, .int .i64 0, .int .i64 0, .int .i64 0, .slice none 0 0] 62 (0, 0)) :: pt b51 (.cells (FareKey.cells x0).toArray 56 (0, 0)) :: R)) mixed (by kernel_rfl) hS.drew ?_
    refine qP hE (Gives.loadBA hE 2 rfl rfl ty56) rfl ?_; clear hE a; intro a hE
    refine qP hE (Gives.p hE rfl) rfl ?_; clear hE a; intro a hE
    refine qP hE (Gives.p hE rfl) rfl ?_; clear hE a; intro a hE
    obtain ⟨q66, hq67, hr⟩ := bindS hr
    refine QL.fnq hE (fun w hS => StringsLastIndexByte_ok hS  hq67) (runs_plain rfl) bd52 rfl rfl rfl ?_; clear hE a; intro a hE
    refine qP hE (Gives.p hE rfl) rfl ?_; clear hE a; intro a hE
    obtain ⟨x68, hx69, hr⟩ := bindS hr
    refine qP hE (Gives.cutSH hE st9 rfl rfl hx69) rfl ?_; clear hE a; intro a hE
    refine qP hE (Gives.p hE rfl) rfl ?_; clear hE a; intro a hE
    obtain ⟨q70, hq71, hr⟩ := bindS hr
    refine QL.fnq hE (fun w hS => FareVerify_ok hS  hq71) (runs_plain rfl) bd51 rfl rfl rfl ?_; clear hE a; intro a hE
    refine qP hE (Gives.p hE rfl) rfl ?_; clear hE a; intro a hE
    refine qP hE (Gives.p hE rfl) rfl ?_; clear hE a; intro a hE
    refine qP hE (Gives.p hE rfl) rfl ?_; clear hE a; intro a hE
    refine qP hE (Gives.p hE rfl) rfl ?_; clear hE a; intro a hE
    refine qP hE (Gives.p hE rfl) rfl ?_; clear hE a; intro a hE
    refine QL.nil ?_; clear hS w; intro w hS
    refine W.seq (W.region ?_)
    refine vP hS hE (Gives.p hE rfl) rfl ?_; clear hE a; intro a hE
    refine vP hS hE (Gives.p hE rfl) rfl ?_; clear hE a; intro a hE
    refine WL.nil ?_
    refine W.cond hE rfl (fun hc72 => ?_) (fun hc72 => ?_)
    ·replace hr := iteT hc72 hr
     refine W.seq (W.region ?_)
     refine vP hS hE (Gives.build hE (vs := []) [.int .i64 0, .int .i64 0, .int .i64 0, .int .i64 0, .int .i64 0, .slice none 0 0] rfl (by kernel_rfl)) rfl ?_; clear hE a; intro a hE
     refine WL.storeI hE hS 1 rfl [.int .i64 0, .int .i64 0, .int .i64 0, .int .i64 0, .int .i64 0, .slice none 0 0] (runs_plain rfl) rfl rfl rfl ty62 rfl rfl rfl rfl ?_; clear hE hS a w; intro a w hE hS
     refine vP hS hE (Gives.p hE rfl) rfl ?_; clear hE a; intro a hE
     refine WL.nil ?_
     refine W.ret ?_
     refine finG (fn := Tryz.f33) (rs := [.cell 4 62, .tmp 5]) (vs := [_, _]) hE rfl ⟨⟨_, rfl, .inl ⟨_, rfl, hS.seesAt 1 rfl, ty62⟩⟩, rfl, trivial⟩ ?_
     obtain rfl := Option.some.inj hr
     replace hS := hS.tail
     replace hS := hS.tail
     replace hS := hS.tail
     exact ⟨_, s63, rfl, hle64, ⟨_, _, rfl, Sl.nil⟩, hS⟩
    ·replace hr := iteF hc72 hr
     refine W.skip ?_
     refine W.seq ?_
     have hF := hS.fixD RI.mono 0 rfl h61 rfl; clear hS; obtain ⟨s73, hle74, hS, h75⟩ := hF
     refine W.gen fun K76 hK76 => ?_
     refine rE hS [] [] [0, 1, 2, 3, 4, 5, 6, 7, 8, 9, 10, 11, 12, 13, 14, 15, 16, 17, 18, 19] [0, 1, 2, 3, 4, 5, 6, 7, 8, 9, 10, 11, 12, 13, 14, 15, 16, 17, 18, 19] mixed ?_
     replace hS := hS.drew
     refine Rg.takeP (i := 0) hE rfl (by kernel_rfl) (runs_plain rfl) (Gives.p hE rfl) rfl (tw_sel (fun _ => hS) (fun _ => hS)) ?_; clear hE a; intro a hE
     obtain ⟨x77, hx78, hr⟩ := bindS hr
     obtain ⟨hi79, hlt80, hy81⟩ := gx_some hx78
     obtain ⟨cs82, hl83, hR84, hat85⟩ := h75.at hy81
     subst hR84
     refine Rg.takeP (i := 1) hE rfl (by kernel_rfl) (runs_plain rfl) (Gives.idx hE ((0 : Int)).toNat rfl rfl sl37 hi79 hlt80 (h75.aok hlt80)) rfl (tw_sel (fun _ => hS) (fun _ => hS)) ?_; clear hE a; intro a hE
     refine Rg.take (i := 2) true rfl hE rfl (by kernel_rfl) (runs_plain rfl) (Gives.load1 hE rfl (fun w h => hat85 w _ h) ty3) rfl (tw_sel (fun _ => hS) (fun _ => hS)) ?_; clear hE a; intro a hE
     refine Rg.takeP (i := 3) hE rfl (by kernel_rfl) (runs_plain rfl) (Gives.p hE rfl) rfl (tw_sel (fun _ => hS) (fun _ => hS)) ?_; clear hE a; intro a hE
     obtain ⟨x86, hx87, hr⟩ := bindS hr
     obtain ⟨hi88, hlt89, hy90⟩ := gx_some hx87
     obtain ⟨cs91, hl92, hR93, hat94⟩ := h75.at hy90
     subst hR93
     refine Rg.takeP (i := 4) hE rfl (by kernel_rfl) (runs_plain rfl) (Gives.idx hE ((1 : Int)).toNat rfl rfl sl37 hi88 hlt89 (h75.aok hlt89)) rfl (tw_sel (fun _ => hS) (fun _ => hS)) ?_; clear hE a; intro a hE
     refine Rg.take (i := 5) true rfl hE rfl (by kernel_rfl) (runs_plain rfl) (Gives.load1 hE rfl (fun w h => hat94 w _ h) ty3) rfl (tw_sel (fun _ => hS) (fun _ => hS)) ?_; clear hE a; intro a hE
     refine Rg.takeP (i := 6) hE rfl (by kernel_rfl) (runs_plain rfl) (Gives.p hE rfl) rfl (tw_sel (fun _ => hS) (fun _ => hS)) ?_; clear hE a; intro a hE
     obtain ⟨x95, hx96, hr⟩ := bindS hr
     obtain ⟨hi97, hlt98, hy99⟩ := gx_some hx96
     obtain ⟨cs100, hl101, hR102, hat103⟩ := h75.at hy99
     subst hR102
     refine Rg.takeP (i := 7) hE rfl (by kernel_rfl) (runs_plain rfl) (Gives.idx hE ((2 : Int)).toNat rfl rfl sl37 hi97 hlt98 (h75.aok hlt98)) rfl (tw_sel (fun _ => hS) (fun _ => hS)) ?_; clear hE a; intro a hE
     refine Rg.take (i := 8) true rfl hE rfl (by kernel_rfl) (runs_plain rfl) (Gives.load1 hE rfl (fun w h => hat103 w _ h) ty3) rfl (tw_sel (fun _ => hS) (fun _ => hS)) ?_; clear hE a; intro a hE
     refine Rg.takeP (i := 9) hE rfl (by kernel_rfl) (runs_plain rfl) (Gives.p hE rfl) rfl (tw_sel (fun _ => hS) (fun _ => hS)) ?_; clear hE a; intro a hE
     obtain ⟨x104, hx105, hr⟩ := bindS hr
     obtain ⟨hi106, hlt107, hy108⟩ := gx_some hx105
     obtain ⟨cs109, hl110, hR111, hat112⟩ := h75.at hy108
     subst hR111
     refine Rg.takeP (i := 10) hE rfl (by kernel_rfl) (runs_plain rfl) (Gives.idx hE ((3 : Int)).toNat rfl rfl sl37 hi106 hlt107 (h75.aok hlt107)) rfl (tw_sel (fun _ => hS) (fun _ => hS)) ?_; clear hE a; intro a hE
     refine Rg.take (i := 11) true rfl hE rfl (by kernel_rfl) (runs_plain rfl) (Gives.load1 hE rfl (fun w h => hat112 w _ h) ty3) rfl (tw_sel (fun _ => hS) (fun _ => hS)) ?_; clear hE a; intro a hE
     refine Rg.takeP (i := 12) hE rfl (by kernel_rfl) (runs_plain rfl) (Gives.p hE rfl) rfl (tw_sel (fun _ => hS) (fun _ => hS)) ?_; clear hE a; intro a hE
     obtain ⟨x113, hx114, hr⟩ := bindS hr
     obtain ⟨hi115, hlt116, hy117⟩ := gx_some hx114
     obtain ⟨cs118, hl119, hR120, hat121⟩ := h75.at hy117
     subst hR120
     refine Rg.takeP (i := 13) hE rfl (by kernel_rfl) (runs_plain rfl) (Gives.idx hE ((4 : Int)).toNat rfl rfl sl37 hi115 hlt116 (h75.aok hlt116)) rfl (tw_sel (fun _ => hS) (fun _ => hS)) ?_; clear hE a; intro a hE
     refine Rg.take (i := 14) true rfl hE rfl (by kernel_rfl) (runs_plain rfl) (Gives.load1 hE rfl (fun w h => hat121 w _ h) ty3) rfl (tw_sel (fun _ => hS) (fun _ => hS)) ?_; clear hE a; intro a hE
     refine Rg.takeP (i := 15) hE rfl (by kernel_rfl) (runs_plain rfl) (Gives.p hE rfl) rfl (tw_sel (fun _ => hS) (fun _ => hS)) ?_; clear hE a; intro a hE
     have hF := hS; replace hS := hS
     obtain ⟨x122, hx123, hr⟩ := bindS hr
     obtain ⟨a124, c125, heq126, h127⟩ := h75.cut hx123
     obtain ⟨h128, h129, h130, _⟩ := cutl_some hx123
     refine Rg.take (i := 16) true rfl hE rfl (by kernel_rfl) (runs_plain rfl) (Gives.slL hE sl37 rfl rfl h128 (by omega) (by simpa using heq126)) rfl (tw_sel (fun _ => hF) (fun _ => hF)) ?_; clear hE a; intro a hE
     replace hS := hF; clear hF
     refine Rg.takeP (i := 17) hE rfl (by kernel_rfl) (runs_plain rfl) (Gives.build hE (vs := [(0, .int .i64 x77), (1, .int .i64 x86), (2, .int .i64 x95), (3, .int .i64 x104), (4, .int .i64 x113), (5, .slice a124 x122.length c125)]) [.int .i64 x77, .int .i64 x86, .int .i64 x95, .int .i64 x104, .int .i64 x113, .slice a124 x122.length c125] rfl (by kernel_rfl)) rfl (tw_sel (fun _ => hS) (fun _ => hS)) ?_; clear hE a; intro a hE
     refine Rg.one (i := 18) true true rfl (by kernel_rfl) (by kernel_rfl) (by kernel_rfl) ?_
     refine WL.alloc hE hS (runs_plain rfl) zr62 rfl ?_; clear hE hS a w; intro b131 a w hE hS
     refine WL.nil ?_
     refine ⟨⟨fun _ => (hS.tail), fun _ => (hS.tail)⟩, ?_⟩
     refine Rg.one (i := 19) true true rfl (by kernel_rfl) (by kernel_rfl) (by kernel_rfl) ?_
     refine WL.storeI hE hS 0 rfl [.int .i64 x77, .int .i64 x86, .int .i64 x95, .int .i64 x104, .int .i64 x113, .slice a124 x122.length c125] (runs_plain rfl) rfl rfl rfl ty62 rfl rfl rfl rfl ?_; clear hE hS a w; intro a w hE hS
     refine WL.nil ?_
     refine ⟨⟨fun _ => (hS.tail), fun _ => (hS.tail)⟩, ?_⟩
     refine Rg.done (by kernel_rfl) ?_
     subst hK76
     refine W.seq ?_
     refine W.seq (W.region ?_)
     refine vP hS hE (Gives.loadBA hE 0 rfl rfl ty62) rfl ?_; clear hE a; intro a hE
     obtain ⟨q132, hq133, hr⟩ := bindS hr
     have hc_ := FareTicketcheck_ok (x0 := (FareTicket.mk x77 x86 x95 x104 x113 x122)) hS h127 hq133
     refine WL.fnq hE (hc_) (runs_plain rfl) bd30 rfl rfl rfl ?_
     clear hE hS hc_; rintro e w ⟨rfl, hS⟩; refine ⟨_, rfl, ?_⟩; clear a; intro a hE
     refine vP hS hE (Gives.p hE rfl) rfl ?_; clear hE a; intro a hE
     refine WL.nil ?_
     refine W.seq (W.region ?_)
     refine vP hS hE (Gives.p hE rfl) rfl ?_; clear hE a; intro a hE
     refine vP hS hE (Gives.p hE rfl) rfl ?_; clear hE a; intro a hE
     refine WL.nil ?_
     refine W.cond hE rfl (fun hc134 => ?_) (fun hc134 => ?_)
     ·replace hr := iteT hc134 hr
      refine W.seq (W.region ?_)
      refine vP hS hE (Gives.build hE (vs := []) [.int .i64 0, .int .i64 0, .int .i64 0, .int .i64 0, .int .i64 0, .slice none 0 0] rfl (by kernel_rfl)) rfl ?_; clear hE a; intro a hE
      refine vP hS hE (Gives.p hE rfl) rfl ?_; clear hE a; intro a hE
      refine WL.storeI hE hS 1 rfl [.int .i64 0, .int .i64 0, .int .i64 0, .int .i64 0, .int .i64 0, .slice none 0 0] (runs_plain rfl) rfl rfl rfl ty62 rfl rfl rfl rfl ?_; clear hE hS a w; intro a w hE hS
      refine vP hS hE (Gives.p hE rfl) rfl ?_; clear hE a; intro a hE
      refine WL.nil ?_
      refine W.ret ?_
      refine finG (fn := Tryz.f33) (rs := [.cell 4 62, .tmp 5]) (vs := [_, _]) hE rfl ⟨⟨_, rfl, .inl ⟨_, rfl, hS.seesAt 1 rfl, ty62⟩⟩, rfl, trivial⟩ ?_
      obtain rfl := Option.some.inj hr
      replace hS := hS.tail
      replace hS := hS.tail
      replace hS := hS.tail
      exact ⟨_, s73, rfl, (Sg.Le.trans hle64 hle74), ⟨_, _, rfl, Sl.nil⟩, hS⟩
     ·replace hr := iteF hc134 hr
      refine W.skip ?_
      refine W.seq (W.region ?_)
      refine vP hS hE (Gives.loadBA hE 0 rfl rfl ty62) rfl ?_; clear hE a; intro a hE
      refine WL.storeI hE hS 1 rfl [.int .i64 x77, .int .i64 x86, .int .i64 x95, .int .i64 x104, .int .i64 x113, .slice a124 x122.length c125] (runs_plain rfl) rfl rfl rfl ty62 rfl rfl rfl rfl ?_; clear hE hS a w; intro a w hE hS
      refine vP hS hE (Gives.p hE rfl) rfl ?_; clear hE a; intro a hE
      refine WL.nil ?_
      refine W.ret ?_
      refine finG (fn := Tryz.f33) (rs := [.cell 4 62, .tmp 5]) (vs := [_, _]) hE rfl ⟨⟨_, rfl, .inl ⟨_, rfl, hS.seesAt 1 rfl, ty62⟩⟩, rfl, trivial⟩ ?_
      obtain rfl := Option.some.inj hr
      replace hS := hS.tail
      replace hS := hS.tail
      replace hS := hS.tail
      exact ⟨_, s73, rfl, (Sg.Le.trans hle64 hle74), ⟨_, _, rfl, h127⟩, hS⟩
end Go.Proofs.YtngamgkmhgmmjaaGreatDoor
