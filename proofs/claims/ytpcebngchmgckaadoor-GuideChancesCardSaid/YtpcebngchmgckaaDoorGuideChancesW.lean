/- The walks of the functions that GuideChances reaches: each call comes to what its mirror says. The conditions are those of each contract. -/
import Derived.Test.YtpcebngchmgckaaDoorProg
import Derived.Test.YtpcebngchmgckaaDoorGuideChancesM
import Derived.Test.YtpcebngchmgckaaDoorFpAllT
import Derived.Test.YtpcebngchmgckaaDoorGuideChancesS
import Derived.Test.YtpcebngchmgckaaDoorFpMapS
import Derived.Test.YtpcebngchmgckaaDoorFpFld
import Derived.Test.YtpcebngchmgckaaDoorFpMapG
import Derived.Test.YtpcebngchmgckaaDoorFpMapV
import Derived.Test.YtpcebngchmgckaaDoorFpMaps
import Derived.Test.YtpcebngchmgckaaDoorFpOrd
import Derived.Test.YtpcebngchmgckaaDoorFpRf
import Derived.Test.YtpcebngchmgckaaDoorFpRng
import Derived.Test.YtpcebngchmgckaaDoorGuideChancesW4
set_option maxRecDepth 10000
namespace Go.Proofs.YtpcebngchmgckaaDoor
open Go Go.Fp
set_option maxHeartbeats 8000000 in
theorem Fishref2Cases_1_v1_ok : ∀ {fu : Nat} {w : World} {s : Sg} {R : List HP} {pb0 : Nat} {pb1 : Nat} {pb2 : Nat} {pb3 : Nat} {pb4 : Nat} {pb5 : Nat} {pb6 : Nat} {pb7 : Nat} {pb8 : Nat} {pb9 : Nat} {x0 : Int} {x1 : Int} {y0 : List Int} {a_v0 : Option Addr} {c_v0 n_v0 : Nat} {cs_v0 : List Value} {y1 : Int} {y2 : GuideJourney} {a_y2_0 : Option Addr} {c_y2_0 : Nat} {y3 : ApiDay} {a_y3_0 : Option Addr} {c_y3_0 : Nat} {a_y3_1 : Option Addr} {c_y3_1 : Nat} {y4_0 : List (Int × Int)} {b_v1 : Nat} {y5 : Int} {y6 : Int} {y7 : Int} {y8 : List GuideOdds} {a_y8_0 : Option Addr} {c_y8_0 : Nat} (_hS : St w s (pt pb0 (.cells #[.slice a_v0 n_v0 c_v0] 45 (0, 0)) :: pt pb1 (.cells #[.int .i64 y1] 3 (0, 0)) :: pt pb2 (.cells #[.slice a_y2_0 y2.Rides.length c_y2_0] 28 (0, 0)) :: pt pb3 (.cells #[.slice a_y3_0 y3.Trains.length c_y3_0, .slice a_y3_1 y3.Turns.length c_y3_1] 25 (0, 0)) :: pt pb4 (.cells #[.map (some b_v1)] 144 (0, 0)) :: pt pb5 (.cells #[.int .i64 y5] 3 (0, 0)) :: pt pb6 (.cells #[.int .i64 y6] 3 (0, 0)) :: pt pb7 (.cells #[.int .i64 y7] 3 (0, 0)) :: pt pb8 (.cells #[.slice a_y8_0 y8.length c_y8_0] 66 (0, 0)) :: pt pb9 (.cells #[.func (.func 87) #[] #[.pointer (some ⟨pb0, 0, none⟩), .pointer (some ⟨pb1, 0, none⟩), .pointer (some ⟨pb2, 0, none⟩), .pointer (some ⟨pb3, 0, none⟩), .pointer (some ⟨pb4, 0, none⟩), .pointer (some ⟨pb5, 0, none⟩), .pointer (some ⟨pb6, 0, none⟩), .pointer (some ⟨pb7, 0, none⟩), .pointer (some ⟨pb8, 0, none⟩), .pointer (some ⟨pb9, 0, none⟩)]] 145 (0, 0)) :: vecC 3 1 a_v0 c_v0 n_v0 cs_v0 :: mapC keyI.f (Value.int .i64) b_v1 y4_0 :: R)) (_h_v0 : Ev 1 (RI .i64) s cs_v0 y0) (_hn_v0 : y0.length = n_v0) (_h_y2_0 : Sl 3 RGuideRide s a_y2_0 c_y2_0 y2.Rides) (_h_y3_0 : Sl 4 RApiTrain s a_y3_0 c_y3_0 y3.Trains) (_h_y3_1 : Sl 1 (RL 1 (RI .i64)) s a_y3_1 c_y3_1 y3.Turns) (_h_y8_0 : Sl 3 RGuideOdds s a_y8_0 c_y8_0 y8) {r : (List (Int × Int)) × Int × Int × Int} (_hr : Fishref2Cases_1_v1 fu x0 x1 y0 y1 y2 y3 y4_0 y5 y6 y7 y8 = some r),
  Calls Tryd.prog 87 [.int .i64 x0, .int .i64 x1, .pointer (some ⟨pb0, 0, none⟩), .pointer (some ⟨pb1, 0, none⟩), .pointer (some ⟨pb2, 0, none⟩), .pointer (some ⟨pb3, 0, none⟩), .pointer (some ⟨pb4, 0, none⟩), .pointer (some ⟨pb5, 0, none⟩), .pointer (some ⟨pb6, 0, none⟩), .pointer (some ⟨pb7, 0, none⟩), .pointer (some ⟨pb8, 0, none⟩), .pointer (some ⟨pb9, 0, none⟩)].toArray w (fun e w => e = .returned (.tuple #[]) ∧ St w s (pt pb0 (.cells #[.slice a_v0 n_v0 c_v0] 45 (0, 0)) :: pt pb1 (.cells #[.int .i64 r.2.1] 3 (0, 0)) :: pt pb2 (.cells #[.slice a_y2_0 y2.Rides.length c_y2_0] 28 (0, 0)) :: pt pb3 (.cells #[.slice a_y3_0 y3.Trains.length c_y3_0, .slice a_y3_1 y3.Turns.length c_y3_1] 25 (0, 0)) :: pt pb4 (.cells #[.map (some b_v1)] 144 (0, 0)) :: pt pb5 (.cells #[.int .i64 y5] 3 (0, 0)) :: pt pb6 (.cells #[.int .i64 r.2.2.1] 3 (0, 0)) :: pt pb7 (.cells #[.int .i64 r.2.2.2] 3 (0, 0)) :: pt pb8 (.cells #[.slice a_y8_0 y8.length c_y8_0] 66 (0, 0)) :: pt pb9 (.cells #[.func (.func 87) #[] #[.pointer (some ⟨pb0, 0, none⟩), .pointer (some ⟨pb1, 0, none⟩), .pointer (some ⟨pb2, 0, none⟩), .pointer (some ⟨pb3, 0, none⟩), .pointer (some ⟨pb4, 0, none⟩), .pointer (some ⟨pb5, 0, none⟩), .pointer (some ⟨pb6, 0, none⟩), .pointer (some ⟨pb7, 0, none⟩), .pointer (some ⟨pb8, 0, none⟩), .pointer (some ⟨pb9, 0, none⟩)]] 145 (0, 0)) :: vecC 3 1 a_v0 c_v0 n_v0 cs_v0 :: mapC keyI.f (Value.int .i64) b_v1 r.1 :: R)) := by
 intro fu
 induction fu with
 | zero => intro w s R pb0 pb1 pb2 pb3 pb4 pb5 pb6 pb7 pb8 pb9 x0 x1 y0 a_v0 c_v0 n_v0 cs_v0 y1 y2 a_y2_0 c_y2_0 y3 a_y3_0 c_y3_0 a_y3_1 c_y3_1 y4_0 b_v1 y5 y6 y7 y8 a_y8_0 c_y8_0 hS h_v0 hn_v0 h_y2_0 h_y3_0 h_y3_1 h_y8_0 r hr; rw [Fishref2Cases_1_v1] at hr; exact absurd hr (by simp)
 | succ fu ih_Fishref2Cases_1_v1 =>
  intro w s R pb0 pb1 pb2 pb3 pb4 pb5 pb6 pb7 pb8 pb9 x0 x1 y0 a_v0 c_v0 n_v0 cs_v0 y1 y2 a_y2_0 c_y2_0 y3 a_y3_0 c_y3_0 a_y3_1 c_y3_1 y4_0 b_v1 y5 y6 y7 y8 a_y8_0 c_y8_0 hS h_v0 hn_v0 h_y2_0 h_y3_0 h_y3_1 h_y8_0 r hr
  rw [Fishref2Cases_1_v1] at hr
  generalize Fishref2Cases_1_v1 fu = self_Fishref2Cases_1_v1 at hr ih_Fishref2Cases_1_v1
  refine enter Tryd.func87 rfl rfl rfl fun a hE => ?_
  subst hn_v0
  refine W.seq ?_
  refine W.seq (W.region ?_)
  refine vP hS hE (Gives.p hE rfl) rfl ?_; clear hE a; intro a hE
  refine vP hS hE (Gives.loadB hE 0 rfl rfl rfl ty45) rfl ?_; clear hE a; intro a hE
  refine vP hS hE (Gives.len hE rfl sl45) rfl ?_; clear hE a; intro a hE
  refine vP hS hE (Gives.p hE rfl) rfl ?_; clear hE a; intro a hE
  refine WL.nil ?_
  refine W.cond hE rfl (fun hc55 => ?_) (fun hc55 => ?_)
  ·replace hr := iteT hc55 hr
   refine W.seq (W.region ?_)
   refine vP hS hE (Gives.loadB hE 1 rfl rfl rfl ty3) rfl ?_; clear hE a; intro a hE
   refine vP hS hE (Gives.p hE rfl) rfl ?_; clear hE a; intro a hE
   refine vP hS hE (Gives.p hE rfl) rfl ?_; clear hE a; intro a hE
   refine WL.storeI hE hS 1 rfl [.int .i64 (w64 (y1 + x1))] (runs_plain rfl) rfl rfl rfl ty3 rfl rfl rfl rfl ?_; clear hE hS a w; intro a w hE hS
   refine WL.nil ?_
   refine W.seq ?_
   refine W.seq (W.region ?_)
   refine vP hS hE (Gives.p hE rfl) rfl ?_; clear hE a; intro a hE
   refine WL.nil ?_
   obtain ⟨q57, hq56, hr⟩ := bindS hr
   refine W.cut (fun a w => ∃ (q62 : Int), (.next q62) = q57 ∧ Rep a 151 [(1, .int .i64 x1), (4, .pointer (some ⟨pb2, 0, none⟩)), (6, .pointer (some ⟨pb4, 0, none⟩)), (8, .pointer (some ⟨pb6, 0, none⟩)), (9, .pointer (some ⟨pb7, 0, none⟩))] ∧ St w s (pt pb0 (.cells #[.slice a_v0 y0.length c_v0] 45 (0, 0)) :: pt pb1 (.cells #[.int .i64 (w64 (y1 + x1))] 3 (0, 0)) :: pt pb2 (.cells #[.slice a_y2_0 y2.Rides.length c_y2_0] 28 (0, 0)) :: pt pb3 (.cells #[.slice a_y3_0 y3.Trains.length c_y3_0, .slice a_y3_1 y3.Turns.length c_y3_1] 25 (0, 0)) :: pt pb4 (.cells #[.map (some b_v1)] 144 (0, 0)) :: pt pb5 (.cells #[.int .i64 y5] 3 (0, 0)) :: pt pb6 (.cells #[.int .i64 y6] 3 (0, 0)) :: pt pb7 (.cells #[.int .i64 y7] 3 (0, 0)) :: pt pb8 (.cells #[.slice a_y8_0 y8.length c_y8_0] 66 (0, 0)) :: pt pb9 (.cells #[.func (.func 87) #[] #[.pointer (some ⟨pb0, 0, none⟩), .pointer (some ⟨pb1, 0, none⟩), .pointer (some ⟨pb2, 0, none⟩), .pointer (some ⟨pb3, 0, none⟩), .pointer (some ⟨pb4, 0, none⟩), .pointer (some ⟨pb5, 0, none⟩), .pointer (some ⟨pb6, 0, none⟩), .pointer (some ⟨pb7, 0, none⟩), .pointer (some ⟨pb8, 0, none⟩), .pointer (some ⟨pb9, 0, none⟩)]] 145 (0, 0)) :: vecC 3 1 a_v0 c_v0 y0.length cs_v0 :: mapC keyI.f (Value.int .i64) b_v1 y4_0 :: R)) ?_ ?_
   ·refine W.block ?_
    refine W.loop (fun m a w => ∃ (n58 : Nat), ∃ (q62 : Int), n58 = m ∧ Fishref2Cases_1_v1.loop1 x1 y1 y2 y3 y4_0 y5 y6 y7 n58 q62 = some q57 ∧ Rep a 151 [(1, .int .i64 x1), (4, .pointer (some ⟨pb2, 0, none⟩)), (5, .pointer (some ⟨pb3, 0, none⟩)), (6, .pointer (some ⟨pb4, 0, none⟩)), (7, .pointer (some ⟨pb5, 0, none⟩)), (8, .pointer (some ⟨pb6, 0, none⟩)), (9, .pointer (some ⟨pb7, 0, none⟩)), (14, .int .i64 q62)] ∧ St w s (pt pb0 (.cells #[.slice a_v0 y0.length c_v0] 45 (0, 0)) :: pt pb1 (.cells #[.int .i64 (w64 (y1 + x1))] 3 (0, 0)) :: pt pb2 (.cells #[.slice a_y2_0 y2.Rides.length c_y2_0] 28 (0, 0)) :: pt pb3 (.cells #[.slice a_y3_0 y3.Trains.length c_y3_0, .slice a_y3_1 y3.Turns.length c_y3_1] 25 (0, 0)) :: pt pb4 (.cells #[.map (some b_v1)] 144 (0, 0)) :: pt pb5 (.cells #[.int .i64 y5] 3 (0, 0)) :: pt pb6 (.cells #[.int .i64 y6] 3 (0, 0)) :: pt pb7 (.cells #[.int .i64 y7] 3 (0, 0)) :: pt pb8 (.cells #[.slice a_y8_0 y8.length c_y8_0] 66 (0, 0)) :: pt pb9 (.cells #[.func (.func 87) #[] #[.pointer (some ⟨pb0, 0, none⟩), .pointer (some ⟨pb1, 0, none⟩), .pointer (some ⟨pb2, 0, none⟩), .pointer (some ⟨pb3, 0, none⟩), .pointer (some ⟨pb4, 0, none⟩), .pointer (some ⟨pb5, 0, none⟩), .pointer (some ⟨pb6, 0, none⟩), .pointer (some ⟨pb7, 0, none⟩), .pointer (some ⟨pb8, 0, none⟩), .pointer (some ⟨pb9, 0, none⟩)]] 145 (0, 0)) :: vecC 3 1 a_v0 c_v0 y0.length cs_v0 :: mapC keyI.f (Value.int .i64) b_v1 y4_0 :: R)) (m := fu) ⟨fu, 1, rfl, hq56, hE.pick _ ⟨rfl, rfl, rfl, rfl, rfl, rfl, rfl, rfl, trivial⟩, hS⟩ ?_
    clear hE hS a w hq56; rintro m59 a w ⟨n58, q62, rfl, hq56, hE, hS⟩
    refine W.gen fun K63 hK63 => ?_
    rcases n58 with _ | n58
    ·rw [Fishref2Cases_1_v1.loop1] at hq56; exact absurd hq56 (by simp)
    rw [Fishref2Cases_1_v1.loop1] at hq56
    refine W.seq ?_
    refine W.seq (W.region ?_)
    refine vP hS hE (Gives.p hE rfl) rfl ?_; clear hE a; intro a hE
    refine vP hS hE (Gives.fld hE rfl fl28_0) rfl ?_; clear hE a; intro a hE
    refine vP hS hE (Gives.loadB hE 2 rfl rfl rfl ty26) rfl ?_; clear hE a; intro a hE
    refine vP hS hE (Gives.len hE rfl sl26) rfl ?_; clear hE a; intro a hE
    refine vP hS hE (Gives.p hE rfl) rfl ?_; clear hE a; intro a hE
    refine WL.nil ?_
    refine W.cond hE rfl (fun hc64 => ?_) (fun hc64 => ?_)
    ·replace hq56 := iteT hc64 hq56
     refine W.skip ?_
     refine W.seq ?_
     refine W.block ?_
     refine W.seq ?_
     refine W.gen fun K65 hK65 => ?_
     refine W.regionE (sel (fun w => St w s (pt pb0 (.cells #[.slice a_v0 y0.length c_v0] 45 (0, 0)) :: pt pb1 (.cells #[.int .i64 (w64 (y1 + x1))] 3 (0, 0)) :: pt pb2 (.cells #[.slice a_y2_0 y2.Rides.length c_y2_0] 28 (0, 0)) :: pt pb3 (.cells #[.slice a_y3_0 y3.Trains.length c_y3_0, .slice a_y3_1 y3.Turns.length c_y3_1] 25 (0, 0)) :: pt pb4 (.cells #[.map (some b_v1)] 144 (0, 0)) :: pt pb5 (.cells #[.int .i64 y5] 3 (0, 0)) :: pt pb6 (.cells #[.int .i64 y6] 3 (0, 0)) :: pt pb7 (.cells #[.int .i64 y7] 3 (0, 0)) :: pt pb8 (.cells #[.slice a_y8_0 y8.length c_y8_0] 66 (0, 0)) :: pt pb9 (.cells #[.func (.func 87) #[] #[.pointer (some ⟨pb0, 0, none⟩), .pointer (some ⟨pb1, 0, none⟩), .pointer (some ⟨pb2, 0, none⟩), .pointer (some ⟨pb3, 0, none⟩), .pointer (some ⟨pb4, 0, none⟩), .pointer (some ⟨pb5, 0, none⟩), .pointer (some ⟨pb6, 0, none⟩), .pointer (some ⟨pb7, 0, none⟩), .pointer (some ⟨pb8, 0, none⟩), .pointer (some ⟨pb9, 0, none⟩)]] 145 (0, 0)) :: vecC 3 1 a_v0 c_v0 y0.length cs_v0 :: mapC keyI.f (Value.int .i64) b_v1 y4_0 :: R)) (fun w => St w s (pt pb0 (.cells #[.slice a_v0 y0.length c_v0] 45 (0, 0)) :: pt pb1 (.cells #[.int .i64 (w64 (y1 + x1))] 3 (0, 0)) :: pt pb2 (.cells #[.slice a_y2_0 y2.Rides.length c_y2_0] 28 (0, 0)) :: pt pb3 (.cells #[.slice a_y3_0 y3.Trains.length c_y3_0, .slice a_y3_1 y3.Turns.length c_y3_1] 25 (0, 0)) :: pt pb4 (.cells #[.map (some b_v1)] 144 (0, 0)) :: pt pb5 (.cells #[.int .i64 y5] 3 (0, 0)) :: pt pb6 (.cells #[.int .i64 y6] 3 (0, 0)) :: pt pb7 (.cells #[.int .i64 y7] 3 (0, 0)) :: pt pb8 (.cells #[.slice a_y8_0 y8.length c_y8_0] 66 (0, 0)) :: pt pb9 (.cells #[.func (.func 87) #[] #[.pointer (some ⟨pb0, 0, none⟩), .pointer (some ⟨pb1, 0, none⟩), .pointer (some ⟨pb2, 0, none⟩), .pointer (some ⟨pb3, 0, none⟩), .pointer (some ⟨pb4, 0, none⟩), .pointer (some ⟨pb5, 0, none⟩), .pointer (some ⟨pb6, 0, none⟩), .pointer (some ⟨pb7, 0, none⟩), .pointer (some ⟨pb8, 0, none⟩), .pointer (some ⟨pb9, 0, none⟩)]] 145 (0, 0)) :: vecC 3 1 a_v0 c_v0 y0.length cs_v0 :: mapC keyI.f (Value.int .i64) b_v1 y4_0 :: R))) (fun b i => cond b ([0, 1, 2, 3, 4, 5, 6, 7, 8, 9, 10, 11, 12, 13, 14].contains i) ([0, 1, 2, 3, 4, 5, 6, 7, 8, 9, 10, 11, 12, 13, 14].contains i)) mixed ?_
     replace hS := hS.drew
     refine Rg.takeP (i := 0) hE rfl (by kernel_rfl) (runs_plain rfl) (Gives.fld hE rfl fl28_0) rfl (tw_sel (fun _ => hS) (fun _ => hS)) ?_; clear hE a; intro a hE
     have hT := tw_sel (A := fun w => St w s _) (B := fun w => St w s _) (w := _) (x := true) (y := true) (fun _ => hS) (fun _ => hS)
     have hF := hS; replace hS := hS
     refine Rg.take (i := 1) true rfl hE rfl (by kernel_rfl) (runs_plain rfl) (Gives.loadB hE 2 rfl rfl rfl ty26) rfl hT ?_; clear hE a; intro a hE
     replace hS := hF; clear hF hT
     refine Rg.takeP (i := 2) hE rfl (by kernel_rfl) (runs_plain rfl) (Gives.p hE rfl) rfl (tw_sel (fun _ => hS) (fun _ => hS)) ?_; clear hE a; intro a hE
     refine Rg.takeP (i := 3) hE rfl (by kernel_rfl) (runs_plain rfl) (Gives.p hE rfl) rfl (tw_sel (fun _ => hS) (fun _ => hS)) ?_; clear hE a; intro a hE
     obtain ⟨x66, hx67, hq56⟩ := bindS hq56
     obtain ⟨hi68, hlt69, hy70⟩ := gx_some hx67
     obtain ⟨cs71, hl72, hR73, hat74⟩ := h_y2_0.at hy70
     subst hR73
     refine Rg.takeP (i := 4) hE rfl (by kernel_rfl) (runs_plain rfl) (Gives.idx hE (w64 (q62 - 1)).toNat rfl rfl sl26 hi68 hlt69 (h_y2_0.aok hlt69)) rfl (tw_sel (fun _ => hS) (fun _ => hS)) ?_; clear hE a; intro a hE
     have hT := tw_sel (A := fun w => St w s _) (B := fun w => St w s _) (w := _) (x := true) (y := true) (fun _ => hS) (fun _ => hS)
     have hF := hS; replace hS := hS
     refine Rg.take (i := 5) true rfl hE rfl (by kernel_rfl) (runs_plain rfl) (Gives.loadA hE rfl (fun w h => hat74 w _ h) ty47) rfl hT ?_; clear hE a; intro a hE
     replace hS := hF; clear hF hT
     refine Rg.takeP (i := 6) hE rfl (by kernel_rfl) (runs_plain rfl) (Gives.fld hE rfl fl28_0) rfl (tw_sel (fun _ => hS) (fun _ => hS)) ?_; clear hE a; intro a hE
     have hT := tw_sel (A := fun w => St w s _) (B := fun w => St w s _) (w := _) (x := true) (y := true) (fun _ => hS) (fun _ => hS)
     have hF := hS; replace hS := hS
     refine Rg.take (i := 7) true rfl hE rfl (by kernel_rfl) (runs_plain rfl) (Gives.loadB hE 2 rfl rfl rfl ty26) rfl hT ?_; clear hE a; intro a hE
     replace hS := hF; clear hF hT
     refine Rg.takeP (i := 8) hE rfl (by kernel_rfl) (runs_plain rfl) (Gives.p hE rfl) rfl (tw_sel (fun _ => hS) (fun _ => hS)) ?_; clear hE a; intro a hE
     obtain ⟨x75, hx76, hq56⟩ := bindS hq56
     obtain ⟨hi77, hlt78, hy79⟩ := gx_some hx76
     obtain ⟨cs80, hl81, hR82, hat83⟩ := h_y2_0.at hy79
     subst hR82
     refine Rg.takeP (i := 9) hE rfl (by kernel_rfl) (runs_plain rfl) (Gives.idx hE (q62).toNat rfl rfl sl26 hi77 hlt78 (h_y2_0.aok hlt78)) rfl (tw_sel (fun _ => hS) (fun _ => hS)) ?_; clear hE a; intro a hE
     have hT := tw_sel (A := fun w => St w s _) (B := fun w => St w s _) (w := _) (x := true) (y := true) (fun _ => hS) (fun _ => hS)
     have hF := hS; replace hS := hS
     refine Rg.take (i := 10) true rfl hE rfl (by kernel_rfl) (runs_plain rfl) (Gives.loadA hE rfl (fun w h => hat83 w _ h) ty47) rfl hT ?_; clear hE a; intro a hE
     replace hS := hF; clear hF hT
     suffices key : ∀ b84 b85 (a : Act) (w : World), Sl 3 RGuideRide s a_y2_0 c_y2_0 y2.Rides → Sl 4 RApiTrain s a_y3_0 c_y3_0 y3.Trains → Sl 1 (RL 1 (RI .i64)) s a_y3_1 c_y3_1 y3.Turns → Sl 3 RGuideOdds s a_y8_0 c_y8_0 y8 → Ev 1 (RI .i64) s cs_v0 y0 → Rep a 151 [(1, .int .i64 x1), (4, .pointer (some ⟨pb2, 0, none⟩)), (5, .pointer (some ⟨pb3, 0, none⟩)), (6, .pointer (some ⟨pb4, 0, none⟩)), (7, .pointer (some ⟨pb5, 0, none⟩)), (8, .pointer (some ⟨pb6, 0, none⟩)), (9, .pointer (some ⟨pb7, 0, none⟩)), (14, .int .i64 q62), (15, .pointer (some ⟨b84, 0, none⟩)), (16, .pointer (some ⟨b85, 0, none⟩))] → St w s (pt b85 (.cells (GuideRide.cells x75).toArray 47 (0, 0)) :: pt b84 (.cells (GuideRide.cells x66).toArray 47 (0, 0)) :: pt pb0 (.cells #[.slice a_v0 y0.length c_v0] 45 (0, 0)) :: pt pb1 (.cells #[.int .i64 (w64 (y1 + x1))] 3 (0, 0)) :: pt pb2 (.cells #[.slice a_y2_0 y2.Rides.length c_y2_0] 28 (0, 0)) :: pt pb3 (.cells #[.slice a_y3_0 y3.Trains.length c_y3_0, .slice a_y3_1 y3.Turns.length c_y3_1] 25 (0, 0)) :: pt pb4 (.cells #[.map (some b_v1)] 144 (0, 0)) :: pt pb5 (.cells #[.int .i64 y5] 3 (0, 0)) :: pt pb6 (.cells #[.int .i64 y6] 3 (0, 0)) :: pt pb7 (.cells #[.int .i64 y7] 3 (0, 0)) :: pt pb8 (.cells #[.slice a_y8_0 y8.length c_y8_0] 66 (0, 0)) :: pt pb9 (.cells #[.func (.func 87) #[] #[.pointer (some ⟨pb0, 0, none⟩), .pointer (some ⟨pb1, 0, none⟩), .pointer (some ⟨pb2, 0, none⟩), .pointer (some ⟨pb3, 0, none⟩), .pointer (some ⟨pb4, 0, none⟩), .pointer (some ⟨pb5, 0, none⟩), .pointer (some ⟨pb6, 0, none⟩), .pointer (some ⟨pb7, 0, none⟩), .pointer (some ⟨pb8, 0, none⟩), .pointer (some ⟨pb9, 0, none⟩)]] 145 (0, 0)) :: vecC 3 1 a_v0 c_v0 y0.length cs_v0 :: mapC keyI.f (Value.int .i64) b_v1 y4_0 :: R) → K65.nor a w by
      refine Rg.many 11 [12] (by kernel_rfl) ⟨?_, ?_, trivial⟩
      ·refine Br.mk (i := 11) true true rfl (by kernel_rfl) (by kernel_rfl) ?_
       refine WL.alloc hE hS (runs_plain rfl) zr47 rfl ?_; clear hE hS a w; intro b84 a w hE hS
       refine WL.nil ?_
       refine ⟨⟨fun _ => (hS.tail), fun _ => (hS.tail)⟩, ?_⟩
       refine Rg.one (i := 12) true true rfl (by kernel_rfl) (by kernel_rfl) (by kernel_rfl) ?_
       refine WL.alloc hE hS (runs_plain rfl) zr47 rfl ?_; clear hE hS a w; intro b85 a w hE hS
       refine WL.nil ?_
       refine ⟨⟨fun _ => ((hS.tail).tail), fun _ => ((hS.tail).tail)⟩, ?_⟩
       refine Rg.one (i := 13) true true rfl (by kernel_rfl) (by kernel_rfl) (by kernel_rfl) ?_
       refine WL.storeI hE hS 1 rfl (GuideRide.cells x66) (runs_plain rfl) rfl rfl rfl ty47 rfl rfl rfl rfl ?_; clear hE hS a w; intro a w hE hS
       refine WL.nil ?_
       refine ⟨⟨fun _ => ((hS.tail).tail), fun _ => ((hS.tail).tail)⟩, ?_⟩
       refine Rg.one (i := 14) true true rfl (by kernel_rfl) (by kernel_rfl) (by kernel_rfl) ?_
       refine WL.storeI hE hS 0 rfl (GuideRide.cells x75) (runs_plain rfl) rfl rfl rfl ty47 rfl rfl rfl rfl ?_; clear hE hS a w; intro a w hE hS
       refine WL.nil ?_
       refine ⟨⟨fun _ => ((hS.tail).tail), fun _ => ((hS.tail).tail)⟩, ?_⟩
       refine Rg.done (by kernel_rfl) ?_
       exact key _ _ _ _ h_y2_0 h_y3_0 h_y3_1 h_y8_0 h_v0 (hE.pick _ ⟨rfl, rfl, rfl, rfl, rfl, rfl, rfl, rfl, rfl, rfl, trivial⟩) hS
      ·refine Br.mk (i := 12) true true rfl (by kernel_rfl) (by kernel_rfl) ?_
       refine WL.alloc hE hS (runs_plain rfl) zr47 rfl ?_; clear hE hS a w; intro b85 a w hE hS
       refine WL.nil ?_
       refine ⟨⟨fun _ => (hS.tail), fun _ => (hS.tail)⟩, ?_⟩
       refine Rg.one (i := 11) true true rfl (by kernel_rfl) (by kernel_rfl) (by kernel_rfl) ?_
       refine WL.alloc hE hS (runs_plain rfl) zr47 rfl ?_; clear hE hS a w; intro b84 a w hE hS
       refine WL.nil ?_
       refine ⟨⟨fun _ => ((hS.tail).tail), fun _ => ((hS.tail).tail)⟩, ?_⟩
       refine Rg.one (i := 13) true true rfl (by kernel_rfl) (by kernel_rfl) (by kernel_rfl) ?_
       refine WL.storeI hE hS 0 rfl (GuideRide.cells x66) (runs_plain rfl) rfl rfl rfl ty47 rfl rfl rfl rfl ?_; clear hE hS a w; intro a w hE hS
       refine WL.nil ?_
       refine ⟨⟨fun _ => ((hS.tail).tail), fun _ => ((hS.tail).tail)⟩, ?_⟩
       refine Rg.one (i := 14) true true rfl (by kernel_rfl) (by kernel_rfl) (by kernel_rfl) ?_
       refine WL.storeI hE hS 1 rfl (GuideRide.cells x75) (runs_plain rfl) rfl rfl rfl ty47 rfl rfl rfl rfl ?_; clear hE hS a w; intro a w hE hS
       refine WL.nil ?_
       refine ⟨⟨fun _ => ((hS.tail).tail), fun _ => ((hS.tail).tail)⟩, ?_⟩
       refine Rg.done (by kernel_rfl) ?_
       replace hS := hS.order [1, 0, 0, 0, 0, 0, 0, 0, 0, 0, 0, 0, 0, 0] rfl
       exact key _ _ _ _ h_y2_0 h_y3_0 h_y3_1 h_y8_0 h_v0 (hE.pick _ ⟨rfl, rfl, rfl, rfl, rfl, rfl, rfl, rfl, rfl, rfl, trivial⟩) hS
     clear hE hS a w; intro b84 b85 a w h_y2_0 h_y3_0 h_y3_1 h_y8_0 h_v0 hE hS
     subst hK65
     refine W.seq ?_
     refine W.regionQ (C := fun w => St w s (pt b85 (.cells (GuideRide.cells x75).toArray 47 (0, 0)) :: pt b84 (.cells (GuideRide.cells x66).toArray 47 (0, 0)) :: pt pb0 (.cells #[.slice a_v0 y0.length c_v0] 45 (0, 0)) :: pt pb1 (.cells #[.int .i64 (w64 (y1 + x1))] 3 (0, 0)) :: pt pb2 (.cells #[.slice a_y2_0 y2.Rides.length c_y2_0] 28 (0, 0)) :: pt pb3 (.cells #[.slice a_y3_0 y3.Trains.length c_y3_0, .slice a_y3_1 y3.Turns.length c_y3_1] 25 (0, 0)) :: pt pb4 (.cells #[.map (some b_v1)] 144 (0, 0)) :: pt pb5 (.cells #[.int .i64 y5] 3 (0, 0)) :: pt pb6 (.cells #[.int .i64 y6] 3 (0, 0)) :: pt pb7 (.cells #[.int .i64 y7] 3 (0, 0)) :: pt pb8 (.cells #[.slice a_y8_0 y8.length c_y8_0] 66 (0, 0)) :: pt pb9 (.cells #[.func (.func 87) #[] #[.pointer (some ⟨pb0, 0, none⟩), .pointer (some ⟨pb1, 0, none⟩), .pointer (some ⟨pb2, 0, none⟩), .pointer (some ⟨pb3, 0, none⟩), .pointer (some ⟨pb4, 0, none⟩), .pointer (some ⟨pb5, 0, none⟩), .pointer (some ⟨pb6, 0, none⟩), .pointer (some ⟨pb7, 0, none⟩), .pointer (some ⟨pb8, 0, none⟩), .pointer (some ⟨pb9, 0, none⟩)]] 145 (0, 0)) :: vecC 3 1 a_v0 c_v0 y0.length cs_v0 :: mapC keyI.f (Value.int .i64) b_v1 y4_0 :: R)) mixed (by kernel_rfl) hS.drew ?_
     refine qP hE (Gives.fld hE rfl fl25_0) rfl ?_; clear hE a; intro a hE
     refine qP hE (Gives.loadB hE 5 rfl rfl rfl ty22) rfl ?_; clear hE a; intro a hE
     refine qP hE (Gives.fld hE rfl fl47_0) rfl ?_; clear hE a; intro a hE
     refine qP hE (Gives.loadB hE 1 rfl rfl rfl ty3) rfl ?_; clear hE a; intro a hE
     obtain ⟨x87, hx88, hq56⟩ := bindS hq56
     obtain ⟨hi89, hlt90, hy91⟩ := gx_some hx88
     obtain ⟨cs92, hl93, hR94, hat95⟩ := h_y3_0.at hy91
     obtain ⟨a96, c97, a99, c100, rfl, h98, h101⟩ := hR94
     refine qP hE (Gives.idx hE (x66.Train).toNat rfl rfl sl22 hi89 hlt90 (h_y3_0.aok hlt90)) rfl ?_; clear hE a; intro a hE
     refine qP hE (Gives.fld hE rfl fl44_2) rfl ?_; clear hE a; intro a hE
     refine qP hE (Gives.load1 hE rfl (fun w h => (hat95 w _ h).one rfl) ty42) rfl ?_; clear hE a; intro a hE
     refine qP hE (Gives.fld hE rfl fl47_2) rfl ?_; clear hE a; intro a hE
     refine qP hE (Gives.loadB hE 1 rfl rfl rfl ty3) rfl ?_; clear hE a; intro a hE
     obtain ⟨x102, hx103, hq56⟩ := bindS hq56
     obtain ⟨hi104, hlt105, hy106⟩ := gx_some hx103
     obtain ⟨cs107, hl108, hR109, hat110⟩ := h98.at hy106
     subst hR109
     refine qP hE (Gives.idx hE (x66.Off).toNat rfl rfl sl42 hi104 hlt105 (h98.aok hlt105)) rfl ?_; clear hE a; intro a hE
     refine qP hE (Gives.fld hE rfl fl106_2) rfl ?_; clear hE a; intro a hE
     refine qP hE (Gives.load1 hE rfl (fun w h => (hat110 w _ h).one rfl) ty3) rfl ?_; clear hE a; intro a hE
     refine qP hE (Gives.loadB hE 6 rfl rfl rfl ty144) rfl ?_; clear hE a; intro a hE
     refine qP hE (Gives.fld hE rfl fl47_0) rfl ?_; clear hE a; intro a hE
     refine qP hE (Gives.loadB hE 1 rfl rfl rfl ty3) rfl ?_; clear hE a; intro a hE
     refine qP hE (Gives.mapGet keyI hE 13 (k := x66.Train) (z := 0) rfl rfl rfl mp144 zm3) rfl ?_; clear hE a; intro a hE
     refine qP hE (Gives.p hE rfl) rfl ?_; clear hE a; intro a hE
     refine qP hE (Gives.loadB hE 7 rfl rfl rfl ty3) rfl ?_; clear hE a; intro a hE
     refine qP hE (Gives.p hE rfl) rfl ?_; clear hE a; intro a hE
     refine qP hE (Gives.fld hE rfl fl25_0) rfl ?_; clear hE a; intro a hE
     refine qP hE (Gives.loadB hE 5 rfl rfl rfl ty22) rfl ?_; clear hE a; intro a hE
     refine qP hE (Gives.fld hE rfl fl47_0) rfl ?_; clear hE a; intro a hE
     refine qP hE (Gives.loadB hE 0 rfl rfl rfl ty3) rfl ?_; clear hE a; intro a hE
     obtain ⟨x111, hx112, hq56⟩ := bindS hq56
     obtain ⟨hi113, hlt114, hy115⟩ := gx_some hx112
     obtain ⟨cs116, hl117, hR118, hat119⟩ := h_y3_0.at hy115
     obtain ⟨a120, c121, a123, c124, rfl, h122, h125⟩ := hR118
     refine qP hE (Gives.idx hE (x75.Train).toNat rfl rfl sl22 hi113 hlt114 (h_y3_0.aok hlt114)) rfl ?_; clear hE a; intro a hE
     refine qP hE (Gives.fld hE rfl fl44_2) rfl ?_; clear hE a; intro a hE
     refine qP hE (Gives.load1 hE rfl (fun w h => (hat119 w _ h).one rfl) ty42) rfl ?_; clear hE a; intro a hE
     refine qP hE (Gives.fld hE rfl fl47_1) rfl ?_; clear hE a; intro a hE
     refine qP hE (Gives.loadB hE 0 rfl rfl rfl ty3) rfl ?_; clear hE a; intro a hE
     obtain ⟨x126, hx127, hq56⟩ := bindS hq56
     obtain ⟨hi128, hlt129, hy130⟩ := gx_some hx127
     obtain ⟨cs131, hl132, hR133, hat134⟩ := h122.at hy130
     subst hR133
     refine qP hE (Gives.idx hE (x75.On).toNat rfl rfl sl42 hi128 hlt129 (h122.aok hlt129)) rfl ?_; clear hE a; intro a hE
     refine qP hE (Gives.fld hE rfl fl106_3) rfl ?_; clear hE a; intro a hE
     refine qP hE (Gives.load1 hE rfl (fun w h => (hat134 w _ h).one rfl) ty3) rfl ?_; clear hE a; intro a hE
     refine qP hE (Gives.loadB hE 6 rfl rfl rfl ty144) rfl ?_; clear hE a; intro a hE
     refine qP hE (Gives.fld hE rfl fl47_0) rfl ?_; clear hE a; intro a hE
     refine qP hE (Gives.loadB hE 0 rfl rfl rfl ty3) rfl ?_; clear hE a; intro a hE
     refine qP hE (Gives.mapGet keyI hE 13 (k := x75.Train) (z := 0) rfl rfl rfl mp144 zm3) rfl ?_; clear hE a; intro a hE
     refine qP hE (Gives.p hE rfl) rfl ?_; clear hE a; intro a hE
     refine qP hE (Gives.p hE rfl) rfl ?_; clear hE a; intro a hE
     refine QL.nil ?_; clear hS w; intro w hS
     refine W.cond hE rfl (fun hc135 => ?_) (fun hc135 => ?_)
     ·replace hq56 := iteT hc135 hq56
      refine W.ret ?_
      subst hK63
      rw [← Option.some.inj hq56] at hr
      dsimp only at hr
      refine finG (fn := Tryd.f87) (rs := []) (vs := []) hE rfl trivial ?_
      obtain rfl := Option.some.inj hr
      replace hS := hS.tail
      replace hS := hS.tail
      exact ⟨rfl, hS⟩
     ·replace hq56 := iteF hc135 hq56
      refine W.skip ?_
      refine W.region ?_
      refine vP hS hE (Gives.p hE rfl) rfl ?_; clear hE a; intro a hE
      refine vP hS hE (Gives.p hE rfl) rfl ?_; clear hE a; intro a hE
      refine vP hS hE (Gives.p hE rfl) rfl ?_; clear hE a; intro a hE
      refine WL.nil ?_
      replace hS := hS.tail
      replace hS := hS.tail
      subst hK63
      exact ⟨n58, Nat.lt_succ_self _, n58, (w64 (q62 + 1)), rfl, hq56, hE.pick _ ⟨rfl, rfl, rfl, rfl, rfl, rfl, rfl, rfl, trivial⟩, hS⟩
    ·replace hq56 := iteF hc64 hq56
     subst hK63
     refine W.exit rfl ?_
     exact ⟨q62, Option.some.inj hq56, hE.pick _ ⟨rfl, rfl, rfl, rfl, rfl, trivial⟩, hS⟩
   ·clear hE hS a w; rintro a w ⟨q62, rfl, hE, hS⟩
    dsimp only at hr
    refine W.seq (W.region ?_)
    refine vP hS hE (Gives.loadB hE 6 rfl rfl rfl ty3) rfl ?_; clear hE a; intro a hE
    refine vP hS hE (Gives.p hE rfl) rfl ?_; clear hE a; intro a hE
    refine vP hS hE (Gives.p hE rfl) rfl ?_; clear hE a; intro a hE
    refine WL.storeI hE hS 6 rfl [.int .i64 (w64 (y6 + x1))] (runs_plain rfl) rfl rfl rfl ty3 rfl rfl rfl rfl ?_; clear hE hS a w; intro a w hE hS
    refine WL.nil ?_
    refine W.seq ?_
    refine W.gen fun K136 hK136 => ?_
    refine W.regionE (sel (fun w => St w s (pt pb0 (.cells #[.slice a_v0 y0.length c_v0] 45 (0, 0)) :: pt pb1 (.cells #[.int .i64 (w64 (y1 + x1))] 3 (0, 0)) :: pt pb2 (.cells #[.slice a_y2_0 y2.Rides.length c_y2_0] 28 (0, 0)) :: pt pb3 (.cells #[.slice a_y3_0 y3.Trains.length c_y3_0, .slice a_y3_1 y3.Turns.length c_y3_1] 25 (0, 0)) :: pt pb4 (.cells #[.map (some b_v1)] 144 (0, 0)) :: pt pb5 (.cells #[.int .i64 y5] 3 (0, 0)) :: pt pb6 (.cells #[.int .i64 (w64 (y6 + x1))] 3 (0, 0)) :: pt pb7 (.cells #[.int .i64 y7] 3 (0, 0)) :: pt pb8 (.cells #[.slice a_y8_0 y8.length c_y8_0] 66 (0, 0)) :: pt pb9 (.cells #[.func (.func 87) #[] #[.pointer (some ⟨pb0, 0, none⟩), .pointer (some ⟨pb1, 0, none⟩), .pointer (some ⟨pb2, 0, none⟩), .pointer (some ⟨pb3, 0, none⟩), .pointer (some ⟨pb4, 0, none⟩), .pointer (some ⟨pb5, 0, none⟩), .pointer (some ⟨pb6, 0, none⟩), .pointer (some ⟨pb7, 0, none⟩), .pointer (some ⟨pb8, 0, none⟩), .pointer (some ⟨pb9, 0, none⟩)]] 145 (0, 0)) :: vecC 3 1 a_v0 c_v0 y0.length cs_v0 :: mapC keyI.f (Value.int .i64) b_v1 y4_0 :: R)) (fun w => St w s (pt pb0 (.cells #[.slice a_v0 y0.length c_v0] 45 (0, 0)) :: pt pb1 (.cells #[.int .i64 (w64 (y1 + x1))] 3 (0, 0)) :: pt pb2 (.cells #[.slice a_y2_0 y2.Rides.length c_y2_0] 28 (0, 0)) :: pt pb3 (.cells #[.slice a_y3_0 y3.Trains.length c_y3_0, .slice a_y3_1 y3.Turns.length c_y3_1] 25 (0, 0)) :: pt pb4 (.cells #[.map (some b_v1)] 144 (0, 0)) :: pt pb5 (.cells #[.int .i64 y5] 3 (0, 0)) :: pt pb6 (.cells #[.int .i64 (w64 (y6 + x1))] 3 (0, 0)) :: pt pb8 (.cells #[.slice a_y8_0 y8.length c_y8_0] 66 (0, 0)) :: pt pb9 (.cells #[.func (.func 87) #[] #[.pointer (some ⟨pb0, 0, none⟩), .pointer (some ⟨pb1, 0, none⟩), .pointer (some ⟨pb2, 0, none⟩), .pointer (some ⟨pb3, 0, none⟩), .pointer (some ⟨pb4, 0, none⟩), .pointer (some ⟨pb5, 0, none⟩), .pointer (some ⟨pb6, 0, none⟩), .pointer (some ⟨pb7, 0, none⟩), .pointer (some ⟨pb8, 0, none⟩), .pointer (some ⟨pb9, 0, none⟩)]] 145 (0, 0)) :: vecC 3 1 a_v0 c_v0 y0.length cs_v0 :: mapC keyI.f (Value.int .i64) b_v1 y4_0 :: R))) (fun b i => cond b ([0, 1, 2, 3, 4, 5, 6, 7, 8, 9, 10, 11, 12, 13, 14].contains i) ([0, 1, 2, 3, 4, 5, 6, 7, 8, 9, 10, 11, 12, 13, 14, 15].contains i)) mixed ?_
    replace hS := hS.drew
    have hT := tw_sel (A := fun w => St w s _) (B := fun w => St w s _) (w := _) (x := true) (y := true) (fun _ => hS) (fun _ => (hS.dropAt 7))
    have hF := hS; replace hS := hS
    refine Rg.take (i := 0) true rfl hE rfl (by kernel_rfl) (runs_plain rfl) (Gives.loadB hE 7 rfl rfl rfl ty3) rfl hT ?_; clear hE a; intro a hE
    replace hS := hF; clear hF hT
    refine Rg.takeP (i := 1) hE rfl (by kernel_rfl) (runs_plain rfl) (Gives.p hE rfl) rfl (tw_sel (fun _ => hS) (fun _ => (hS.dropAt 7))) ?_; clear hE a; intro a hE
    have hT := tw_sel (A := fun w => St w s _) (B := fun w => St w s _) (w := _) (x := true) (y := true) (fun _ => hS) (fun _ => (hS.dropAt 7))
    have hF := hS; replace hS := hS
    refine Rg.take (i := 2) true rfl hE rfl (by kernel_rfl) (runs_plain rfl) (Gives.loadB hE 4 rfl rfl rfl ty144) rfl hT ?_; clear hE a; intro a hE
    replace hS := hF; clear hF hT
    refine Rg.takeP (i := 3) hE rfl (by kernel_rfl) (runs_plain rfl) (Gives.fld hE rfl fl28_0) rfl (tw_sel (fun _ => hS) (fun _ => (hS.dropAt 7))) ?_; clear hE a; intro a hE
    have hT := tw_sel (A := fun w => St w s _) (B := fun w => St w s _) (w := _) (x := true) (y := true) (fun _ => hS) (fun _ => (hS.dropAt 7))
    have hF := hS; replace hS := hS
    refine Rg.take (i := 4) true rfl hE rfl (by kernel_rfl) (runs_plain rfl) (Gives.loadB hE 2 rfl rfl rfl ty26) rfl hT ?_; clear hE a; intro a hE
    replace hS := hF; clear hF hT
    refine Rg.takeP (i := 5) hE rfl (by kernel_rfl) (runs_plain rfl) (Gives.fld hE rfl fl28_0) rfl (tw_sel (fun _ => hS) (fun _ => (hS.dropAt 7))) ?_; clear hE a; intro a hE
    have hT := tw_sel (A := fun w => St w s _) (B := fun w => St w s _) (w := _) (x := true) (y := true) (fun _ => hS) (fun _ => (hS.dropAt 7))
    have hF := hS; replace hS := hS
    refine Rg.take (i := 6) true rfl hE rfl (by kernel_rfl) (runs_plain rfl) (Gives.loadB hE 2 rfl rfl rfl ty26) rfl hT ?_; clear hE a; intro a hE
    replace hS := hF; clear hF hT
    refine Rg.takeP (i := 7) hE rfl (by kernel_rfl) (runs_plain rfl) (Gives.len hE rfl sl26) rfl (tw_sel (fun _ => hS) (fun _ => (hS.dropAt 7))) ?_; clear hE a; intro a hE
    refine Rg.takeP (i := 8) hE rfl (by kernel_rfl) (runs_plain rfl) (Gives.p hE rfl) rfl (tw_sel (fun _ => hS) (fun _ => (hS.dropAt 7))) ?_; clear hE a; intro a hE
    obtain ⟨x137, hx138, hr⟩ := bindS hr
    obtain ⟨hi139, hlt140, hy141⟩ := gx_some hx138
    obtain ⟨cs142, hl143, hR144, hat145⟩ := h_y2_0.at hy141
    subst hR144
    refine Rg.takeP (i := 9) hE rfl (by kernel_rfl) (runs_plain rfl) (Gives.idx hE (w64 (((y2.Rides).length : Int) - 1)).toNat rfl rfl sl26 hi139 hlt140 (h_y2_0.aok hlt140)) rfl (tw_sel (fun _ => hS) (fun _ => (hS.dropAt 7))) ?_; clear hE a; intro a hE
    refine Rg.takeP (i := 10) hE rfl (by kernel_rfl) (runs_plain rfl) (Gives.fld hE rfl fl47_0) rfl (tw_sel (fun _ => hS) (fun _ => (hS.dropAt 7))) ?_; clear hE a; intro a hE
    have hT := tw_sel (A := fun w => St w s _) (B := fun w => St w s _) (w := _) (x := true) (y := true) (fun _ => hS) (fun _ => (hS.dropAt 7))
    have hF := hS; replace hS := hS
    refine Rg.take (i := 11) true rfl hE rfl (by kernel_rfl) (runs_plain rfl) (Gives.load1 hE rfl (fun w h => (hat145 w _ h).one rfl) ty3) rfl hT ?_; clear hE a; intro a hE
    replace hS := hF; clear hF hT
    have hT := tw_sel (A := fun w => St w s _) (B := fun w => St w s _) (w := _) (x := true) (y := true) (fun _ => hS) (fun _ => (hS.dropAt 7))
    have hF := hS; replace hS := hS
    refine Rg.take (i := 12) true rfl hE rfl (by kernel_rfl) (runs_plain rfl) (Gives.mapGet keyI hE 11 (k := x137.Train) (z := 0) rfl rfl rfl mp144 zm3) rfl hT ?_; clear hE a; intro a hE
    replace hS := hF; clear hF hT
    refine Rg.takeP (i := 13) hE rfl (by kernel_rfl) (runs_plain rfl) (Gives.p hE rfl) rfl (tw_sel (fun _ => hS) (fun _ => (hS.dropAt 7))) ?_; clear hE a; intro a hE
    refine Rg.takeP (i := 14) hE rfl (by kernel_rfl) (runs_plain rfl) (Gives.p hE rfl) rfl (tw_sel (fun _ => hS) (fun _ => (hS.dropAt 7))) ?_; clear hE a; intro a hE
    refine Rg.one (i := 15) false true rfl (by kernel_rfl) (by kernel_rfl) (by kernel_rfl) ?_
    refine WL.storeI hE hS 7 rfl [.int .i64 (w64 (y7 + (w64 (x1 * ((mget y4_0 x137.Train).getD 0)))))] (runs_plain rfl) rfl rfl rfl ty3 rfl rfl rfl rfl ?_; clear hE hS a w; intro a w hE hS
    refine WL.nil ?_
    refine ⟨⟨fun h => absurd h (by decide), fun _ => (hS.dropAt 7)⟩, ?_⟩
    refine Rg.done (by kernel_rfl) ?_
    subst hK136
    refine W.ret ?_
    refine finG (fn := Tryd.f87) (rs := []) (vs := []) hE rfl trivial ?_
    obtain rfl := Option.some.inj hr
    exact ⟨rfl, hS⟩
  ·replace hr := iteF hc55 hr
   refine W.skip ?_
   refine W.seq ?_
   refine W.seq (W.region ?_)
   refine vP hS hE (Gives.loadB hE 8 rfl rfl rfl ty66) rfl ?_; clear hE a; intro a hE
   refine vP hS hE (Gives.len hE rfl sl66) rfl ?_; clear hE a; intro a hE
   refine vP hS hE (Gives.p hE rfl) rfl ?_; clear hE a; intro a hE
   refine WL.nil ?_
   obtain ⟨q147, hq146, hr⟩ := bindS hr
   refine W.cut (fun a w => ∃ (q157 : List (Int × Int)), ∃ (q158 : Int), ∃ (q159 : Int), ∃ (q160 : Int), (.next (q157, q158, q159, q160)) = q147 ∧ Rep a 151 [(0, .int .i64 x0), (1, .int .i64 x1), (2, .pointer (some ⟨pb0, 0, none⟩)), (6, .pointer (some ⟨pb4, 0, none⟩)), (11, .pointer (some ⟨pb9, 0, none⟩))] ∧ St w s (pt pb0 (.cells #[.slice a_v0 y0.length c_v0] 45 (0, 0)) :: pt pb1 (.cells #[.int .i64 q158] 3 (0, 0)) :: pt pb2 (.cells #[.slice a_y2_0 y2.Rides.length c_y2_0] 28 (0, 0)) :: pt pb3 (.cells #[.slice a_y3_0 y3.Trains.length c_y3_0, .slice a_y3_1 y3.Turns.length c_y3_1] 25 (0, 0)) :: pt pb4 (.cells #[.map (some b_v1)] 144 (0, 0)) :: pt pb5 (.cells #[.int .i64 y5] 3 (0, 0)) :: pt pb6 (.cells #[.int .i64 q159] 3 (0, 0)) :: pt pb7 (.cells #[.int .i64 q160] 3 (0, 0)) :: pt pb8 (.cells #[.slice a_y8_0 y8.length c_y8_0] 66 (0, 0)) :: pt pb9 (.cells #[.func (.func 87) #[] #[.pointer (some ⟨pb0, 0, none⟩), .pointer (some ⟨pb1, 0, none⟩), .pointer (some ⟨pb2, 0, none⟩), .pointer (some ⟨pb3, 0, none⟩), .pointer (some ⟨pb4, 0, none⟩), .pointer (some ⟨pb5, 0, none⟩), .pointer (some ⟨pb6, 0, none⟩), .pointer (some ⟨pb7, 0, none⟩), .pointer (some ⟨pb8, 0, none⟩), .pointer (some ⟨pb9, 0, none⟩)]] 145 (0, 0)) :: vecC 3 1 a_v0 c_v0 y0.length cs_v0 :: mapC keyI.f (Value.int .i64) b_v1 q157 :: R)) ?_ ?_
   ·refine W.block ?_
    refine W.loop (fun m a w => ∃ (rest150 : List GuideOdds) (k148 : Nat), ∃ (q157 : List (Int × Int)), ∃ (q158 : Int), ∃ (q159 : Int), ∃ (q160 : Int), rest150.length = m ∧ y8.drop k148 = rest150 ∧ Fishref2Cases_1_v1.loop2 x0 x1 y0 y2 y3 y5 y8 self_Fishref2Cases_1_v1 rest150 q157 q158 q159 q160 = some q147 ∧ Rep a 151 [(0, .int .i64 x0), (1, .int .i64 x1), (2, .pointer (some ⟨pb0, 0, none⟩)), (6, .pointer (some ⟨pb4, 0, none⟩)), (11, .pointer (some ⟨pb9, 0, none⟩)), (101, .slice a_y8_0 y8.length c_y8_0), (102, .int .i64 ((y8).length : Int)), (103, .int .i64 ((k148 : Nat) : Int))] ∧ St w s (pt pb0 (.cells #[.slice a_v0 y0.length c_v0] 45 (0, 0)) :: pt pb1 (.cells #[.int .i64 q158] 3 (0, 0)) :: pt pb2 (.cells #[.slice a_y2_0 y2.Rides.length c_y2_0] 28 (0, 0)) :: pt pb3 (.cells #[.slice a_y3_0 y3.Trains.length c_y3_0, .slice a_y3_1 y3.Turns.length c_y3_1] 25 (0, 0)) :: pt pb4 (.cells #[.map (some b_v1)] 144 (0, 0)) :: pt pb5 (.cells #[.int .i64 y5] 3 (0, 0)) :: pt pb6 (.cells #[.int .i64 q159] 3 (0, 0)) :: pt pb7 (.cells #[.int .i64 q160] 3 (0, 0)) :: pt pb8 (.cells #[.slice a_y8_0 y8.length c_y8_0] 66 (0, 0)) :: pt pb9 (.cells #[.func (.func 87) #[] #[.pointer (some ⟨pb0, 0, none⟩), .pointer (some ⟨pb1, 0, none⟩), .pointer (some ⟨pb2, 0, none⟩), .pointer (some ⟨pb3, 0, none⟩), .pointer (some ⟨pb4, 0, none⟩), .pointer (some ⟨pb5, 0, none⟩), .pointer (some ⟨pb6, 0, none⟩), .pointer (some ⟨pb7, 0, none⟩), .pointer (some ⟨pb8, 0, none⟩), .pointer (some ⟨pb9, 0, none⟩)]] 145 (0, 0)) :: vecC 3 1 a_v0 c_v0 y0.length cs_v0 :: mapC keyI.f (Value.int .i64) b_v1 q157 :: R)) (m := y8.length) ⟨y8, 0, y4_0, y1, y6, y7, rfl, rfl, hq146, hE.pick _ ⟨rfl, rfl, rfl, rfl, rfl, rfl, rfl, rfl, trivial⟩, hS⟩ ?_
    clear hE hS a w hq146; rintro m154 a w ⟨rest150, k148, q157, q158, q159, q160, rfl, hd151, hq146, hE, hS⟩
    refine W.gen fun K161 hK161 => ?_
    rcases rest150 with _ | ⟨x149, rest150⟩
    ·have hlt152 := drop_nil hd151
     refine W.seq (W.region ?_)
     refine vP hS hE (Gives.p hE rfl) rfl ?_; clear hE a; intro a hE
     refine WL.nil ?_
     refine W.seq ?_
     refine W.condF hE rfl (decide_eq_false (by omega)) ?_
     subst hK161
     refine W.exit rfl ?_
     exact ⟨q157, q158, q159, q160, Option.some.inj hq146, hE.pick _ ⟨rfl, rfl, rfl, rfl, rfl, trivial⟩, hS⟩
    ·obtain ⟨hlt152, hx153, hd151⟩ := drop_cons hd151
     rw [Fishref2Cases_1_v1.loop2] at hq146
     refine W.seq (W.region ?_)
     refine vP hS hE (Gives.p hE rfl) rfl ?_; clear hE a; intro a hE
     refine WL.nil ?_
     refine W.seq ?_
     refine W.condT hE rfl (decide_eq_true (by omega)) ?_
     refine W.skip ?_
     refine W.seq ?_
     refine W.block ?_
     refine W.seq (W.region ?_)
     obtain ⟨cs162, hl163, hR164, hat165⟩ := h_y8_0.at hx153
     obtain ⟨a166, c167, a169, c170, rfl, h168, h171⟩ := hR164
     refine vP hS hE (Gives.idx hE k148 rfl rfl sl66 rfl hlt152 (h_y8_0.aok hlt152)) rfl ?_; clear hE a; intro a hE
     refine vP hS hE (Gives.loadA hE rfl (fun w h => hat165 w _ h) ty143) rfl ?_; clear hE a; intro a hE
     refine WL.alloc hE hS (runs_plain rfl) zr143 rfl ?_; clear hE hS a w; intro b172 a w hE hS
     refine WL.storeI hE hS 0 rfl [.int .i64 x149.Train, .slice a166 x149.Late.length c167, .slice a169 x149.Weight.length c170] (runs_plain rfl) rfl rfl rfl ty143 rfl rfl rfl rfl ?_; clear hE hS a w; intro a w hE hS
     refine WL.nil ?_
     refine W.seq ?_
     refine W.regionQ (C := fun w => St w s (pt b172 (.cells #[.int .i64 x149.Train, .slice a166 x149.Late.length c167, .slice a169 x149.Weight.length c170] 143 (0, 0)) :: pt pb0 (.cells #[.slice a_v0 y0.length c_v0] 45 (0, 0)) :: pt pb1 (.cells #[.int .i64 q158] 3 (0, 0)) :: pt pb2 (.cells #[.slice a_y2_0 y2.Rides.length c_y2_0] 28 (0, 0)) :: pt pb3 (.cells #[.slice a_y3_0 y3.Trains.length c_y3_0, .slice a_y3_1 y3.Turns.length c_y3_1] 25 (0, 0)) :: pt pb4 (.cells #[.map (some b_v1)] 144 (0, 0)) :: pt pb5 (.cells #[.int .i64 y5] 3 (0, 0)) :: pt pb6 (.cells #[.int .i64 q159] 3 (0, 0)) :: pt pb7 (.cells #[.int .i64 q160] 3 (0, 0)) :: pt pb8 (.cells #[.slice a_y8_0 y8.length c_y8_0] 66 (0, 0)) :: pt pb9 (.cells #[.func (.func 87) #[] #[.pointer (some ⟨pb0, 0, none⟩), .pointer (some ⟨pb1, 0, none⟩), .pointer (some ⟨pb2, 0, none⟩), .pointer (some ⟨pb3, 0, none⟩), .pointer (some ⟨pb4, 0, none⟩), .pointer (some ⟨pb5, 0, none⟩), .pointer (some ⟨pb6, 0, none⟩), .pointer (some ⟨pb7, 0, none⟩), .pointer (some ⟨pb8, 0, none⟩), .pointer (some ⟨pb9, 0, none⟩)]] 145 (0, 0)) :: vecC 3 1 a_v0 c_v0 y0.length cs_v0 :: mapC keyI.f (Value.int .i64) b_v1 q157 :: R)) mixed (by kernel_rfl) hS.drew ?_
     refine qP hE (Gives.fld hE rfl fl143_0) rfl ?_; clear hE a; intro a hE
     refine qP hE (Gives.loadB hE 0 rfl rfl rfl ty3) rfl ?_; clear hE a; intro a hE
     refine qP hE (Gives.loadB hE 1 rfl rfl rfl ty45) rfl ?_; clear hE a; intro a hE
     refine qP hE (Gives.p hE rfl) rfl ?_; clear hE a; intro a hE
     obtain ⟨x173, hx174, hq146⟩ := bindS hq146
     obtain ⟨hi175, hlt176, hy177⟩ := gx_some hx174
     obtain ⟨vs178, hl179, hR180, hd181, hget182⟩ := h_v0.at hy177
     subst hR180
     refine qP hE (Gives.idx hE ((x0).toNat) rfl rfl sl45 hi175 (by omega) (hS.vecAok 11 rfl (by omega : (x0).toNat < y0.length))) rfl ?_; clear hE a; intro a hE
     refine qP hE (Gives.load1 hE rfl (fun w h => St.vecSees h 11 rfl ((x0).toNat * 1) _ hget182) ty3) rfl ?_; clear hE a; intro a hE
     refine qP hE (Gives.p hE rfl) rfl ?_; clear hE a; intro a hE
     refine QL.nil ?_; clear hS w; intro w hS
     refine W.cond hE rfl (fun hc183 => ?_) (fun hc183 => ?_)
     ·replace hq146 := iteT hc183 hq146
      refine W.seq ?_
      refine W.seq (W.region ?_)
      refine vP hS hE (Gives.fld hE rfl fl143_1) rfl ?_; clear hE a; intro a hE
      refine vP hS hE (Gives.loadB hE 0 rfl rfl rfl ty45) rfl ?_; clear hE a; intro a hE
      refine vP hS hE (Gives.len hE rfl sl45) rfl ?_; clear hE a; intro a hE
      refine vP hS hE (Gives.p hE rfl) rfl ?_; clear hE a; intro a hE
      refine WL.nil ?_
      obtain ⟨q185, hq184, hq146⟩ := bindS hq146
      refine W.cut (fun a w => ∃ (q195 : List (Int × Int)), ∃ (q196 : Int), ∃ (q197 : Int), ∃ (q198 : Int), (q195, q196, q197, q198) = q185 ∧ Rep a 151 [] ∧ St w s (pt b172 (.cells #[.int .i64 x149.Train, .slice a166 x149.Late.length c167, .slice a169 x149.Weight.length c170] 143 (0, 0)) :: pt pb0 (.cells #[.slice a_v0 y0.length c_v0] 45 (0, 0)) :: pt pb1 (.cells #[.int .i64 q196] 3 (0, 0)) :: pt pb2 (.cells #[.slice a_y2_0 y2.Rides.length c_y2_0] 28 (0, 0)) :: pt pb3 (.cells #[.slice a_y3_0 y3.Trains.length c_y3_0, .slice a_y3_1 y3.Turns.length c_y3_1] 25 (0, 0)) :: pt pb4 (.cells #[.map (some b_v1)] 144 (0, 0)) :: pt pb5 (.cells #[.int .i64 y5] 3 (0, 0)) :: pt pb6 (.cells #[.int .i64 q197] 3 (0, 0)) :: pt pb7 (.cells #[.int .i64 q198] 3 (0, 0)) :: pt pb8 (.cells #[.slice a_y8_0 y8.length c_y8_0] 66 (0, 0)) :: pt pb9 (.cells #[.func (.func 87) #[] #[.pointer (some ⟨pb0, 0, none⟩), .pointer (some ⟨pb1, 0, none⟩), .pointer (some ⟨pb2, 0, none⟩), .pointer (some ⟨pb3, 0, none⟩), .pointer (some ⟨pb4, 0, none⟩), .pointer (some ⟨pb5, 0, none⟩), .pointer (some ⟨pb6, 0, none⟩), .pointer (some ⟨pb7, 0, none⟩), .pointer (some ⟨pb8, 0, none⟩), .pointer (some ⟨pb9, 0, none⟩)]] 145 (0, 0)) :: vecC 3 1 a_v0 c_v0 y0.length cs_v0 :: mapC keyI.f (Value.int .i64) b_v1 q195 :: R)) ?_ ?_
      ·refine W.block ?_
       refine W.loop (fun m a w => ∃ (rest188 : List Int) (k186 : Nat), ∃ (q195 : List (Int × Int)), ∃ (q196 : Int), ∃ (q197 : Int), ∃ (q198 : Int), rest188.length = m ∧ x149.Late.drop k186 = rest188 ∧ Fishref2Cases_1_v1.loop3 x0 x1 y0 y2 y3 y5 y8 self_Fishref2Cases_1_v1 x149 rest188 k186 q195 q196 q197 q198 = some q185 ∧ Rep a 151 [(0, .int .i64 x0), (1, .int .i64 x1), (2, .pointer (some ⟨pb0, 0, none⟩)), (6, .pointer (some ⟨pb4, 0, none⟩)), (11, .pointer (some ⟨pb9, 0, none⟩)), (18, .pointer (some ⟨b172, 0, none⟩)), (115, .slice a166 x149.Late.length c167), (116, .int .i64 ((x149.Late).length : Int)), (117, .int .i64 ((k186 : Nat) : Int))] ∧ St w s (pt b172 (.cells #[.int .i64 x149.Train, .slice a166 x149.Late.length c167, .slice a169 x149.Weight.length c170] 143 (0, 0)) :: pt pb0 (.cells #[.slice a_v0 y0.length c_v0] 45 (0, 0)) :: pt pb1 (.cells #[.int .i64 q196] 3 (0, 0)) :: pt pb2 (.cells #[.slice a_y2_0 y2.Rides.length c_y2_0] 28 (0, 0)) :: pt pb3 (.cells #[.slice a_y3_0 y3.Trains.length c_y3_0, .slice a_y3_1 y3.Turns.length c_y3_1] 25 (0, 0)) :: pt pb4 (.cells #[.map (some b_v1)] 144 (0, 0)) :: pt pb5 (.cells #[.int .i64 y5] 3 (0, 0)) :: pt pb6 (.cells #[.int .i64 q197] 3 (0, 0)) :: pt pb7 (.cells #[.int .i64 q198] 3 (0, 0)) :: pt pb8 (.cells #[.slice a_y8_0 y8.length c_y8_0] 66 (0, 0)) :: pt pb9 (.cells #[.func (.func 87) #[] #[.pointer (some ⟨pb0, 0, none⟩), .pointer (some ⟨pb1, 0, none⟩), .pointer (some ⟨pb2, 0, none⟩), .pointer (some ⟨pb3, 0, none⟩), .pointer (some ⟨pb4, 0, none⟩), .pointer (some ⟨pb5, 0, none⟩), .pointer (some ⟨pb6, 0, none⟩), .pointer (some ⟨pb7, 0, none⟩), .pointer (some ⟨pb8, 0, none⟩), .pointer (some ⟨pb9, 0, none⟩)]] 145 (0, 0)) :: vecC 3 1 a_v0 c_v0 y0.length cs_v0 :: mapC keyI.f (Value.int .i64) b_v1 q195 :: R)) (m := x149.Late.length) ⟨x149.Late, 0, q157, q158, q159, q160, rfl, rfl, hq184, hE.pick _ ⟨rfl, rfl, rfl, rfl, rfl, rfl, rfl, rfl, rfl, trivial⟩, hS⟩ ?_
       clear hE hS a w hq184; rintro m192 a w ⟨rest188, k186, q195, q196, q197, q198, rfl, hd189, hq184, hE, hS⟩
       refine W.gen fun K199 hK199 => ?_
       rcases rest188 with _ | ⟨x187, rest188⟩
       ·have hlt190 := drop_nil hd189
        refine W.seq (W.region ?_)
        refine vP hS hE (Gives.p hE rfl) rfl ?_; clear hE a; intro a hE
        refine WL.nil ?_
        refine W.seq ?_
        refine W.condF hE rfl (decide_eq_false (by omega)) ?_
        subst hK199
        refine W.exit rfl ?_
        exact ⟨q195, q196, q197, q198, Option.some.inj hq184, hE.pick _ trivial, hS⟩
       ·obtain ⟨hlt190, hx191, hd189⟩ := drop_cons hd189
        rw [Fishref2Cases_1_v1.loop3] at hq184
        refine W.seq (W.region ?_)
        refine vP hS hE (Gives.p hE rfl) rfl ?_; clear hE a; intro a hE
        refine WL.nil ?_
        refine W.seq ?_
        refine W.condT hE rfl (decide_eq_true (by omega)) ?_
        refine W.skip ?_
        refine W.seq ?_
        refine W.block ?_
        refine W.seq (W.region ?_)
        refine vP hS hE (Gives.p hE rfl) rfl ?_; clear hE a; intro a hE
        obtain ⟨cs200, hl201, hR202, hat203⟩ := h168.at hx191
        subst hR202
        refine vP hS hE (Gives.idx hE k186 rfl rfl sl45 rfl hlt190 (h168.aok hlt190)) rfl ?_; clear hE a; intro a hE
        refine vP hS hE (Gives.load1 hE rfl (fun w h => hat203 w _ h) ty3) rfl ?_; clear hE a; intro a hE
        refine vP hS hE (Gives.p hE rfl) rfl ?_; clear hE a; intro a hE
        refine vP hS hE (Gives.p hE rfl) rfl ?_; clear hE a; intro a hE
        refine WL.nil ?_
        refine W.seq ?_
        refine W.gen fun K204 hK204 => ?_
        refine W.regionE (sel (fun w => St w s (pt b172 (.cells #[.int .i64 x149.Train, .slice a166 x149.Late.length c167, .slice a169 x149.Weight.length c170] 143 (0, 0)) :: pt pb0 (.cells #[.slice a_v0 y0.length c_v0] 45 (0, 0)) :: pt pb1 (.cells #[.int .i64 q196] 3 (0, 0)) :: pt pb2 (.cells #[.slice a_y2_0 y2.Rides.length c_y2_0] 28 (0, 0)) :: pt pb3 (.cells #[.slice a_y3_0 y3.Trains.length c_y3_0, .slice a_y3_1 y3.Turns.length c_y3_1] 25 (0, 0)) :: pt pb4 (.cells #[.map (some b_v1)] 144 (0, 0)) :: pt pb5 (.cells #[.int .i64 y5] 3 (0, 0)) :: pt pb6 (.cells #[.int .i64 q197] 3 (0, 0)) :: pt pb7 (.cells #[.int .i64 q198] 3 (0, 0)) :: pt pb8 (.cells #[.slice a_y8_0 y8.length c_y8_0] 66 (0, 0)) :: pt pb9 (.cells #[.func (.func 87) #[] #[.pointer (some ⟨pb0, 0, none⟩), .pointer (some ⟨pb1, 0, none⟩), .pointer (some ⟨pb2, 0, none⟩), .pointer (some ⟨pb3, 0, none⟩), .pointer (some ⟨pb4, 0, none⟩), .pointer (some ⟨pb5, 0, none⟩), .pointer (some ⟨pb6, 0, none⟩), .pointer (some ⟨pb7, 0, none⟩), .pointer (some ⟨pb8, 0, none⟩), .pointer (some ⟨pb9, 0, none⟩)]] 145 (0, 0)) :: vecC 3 1 a_v0 c_v0 y0.length cs_v0 :: mapC keyI.f (Value.int .i64) b_v1 q195 :: R)) (fun w => St w s (pt b172 (.cells #[.int .i64 x149.Train, .slice a166 x149.Late.length c167, .slice a169 x149.Weight.length c170] 143 (0, 0)) :: pt pb0 (.cells #[.slice a_v0 y0.length c_v0] 45 (0, 0)) :: pt pb1 (.cells #[.int .i64 q196] 3 (0, 0)) :: pt pb2 (.cells #[.slice a_y2_0 y2.Rides.length c_y2_0] 28 (0, 0)) :: pt pb3 (.cells #[.slice a_y3_0 y3.Trains.length c_y3_0, .slice a_y3_1 y3.Turns.length c_y3_1] 25 (0, 0)) :: pt pb4 (.cells #[.map (some b_v1)] 144 (0, 0)) :: pt pb5 (.cells #[.int .i64 y5] 3 (0, 0)) :: pt pb6 (.cells #[.int .i64 q197] 3 (0, 0)) :: pt pb7 (.cells #[.int .i64 q198] 3 (0, 0)) :: pt pb8 (.cells #[.slice a_y8_0 y8.length c_y8_0] 66 (0, 0)) :: pt pb9 (.cells #[.func (.func 87) #[] #[.pointer (some ⟨pb0, 0, none⟩), .pointer (some ⟨pb1, 0, none⟩), .pointer (some ⟨pb2, 0, none⟩), .pointer (some ⟨pb3, 0, none⟩), .pointer (some ⟨pb4, 0, none⟩), .pointer (some ⟨pb5, 0, none⟩), .pointer (some ⟨pb6, 0, none⟩), .pointer (some ⟨pb7, 0, none⟩), .pointer (some ⟨pb8, 0, none⟩), .pointer (some ⟨pb9, 0, none⟩)]] 145 (0, 0)) :: vecC 3 1 a_v0 c_v0 y0.length cs_v0 :: R))) (fun b i => cond b ([0, 1, 2, 3, 4, 5].contains i) ([0, 1, 2, 3, 4, 5, 6].contains i)) mixed ?_
        replace hS := hS.drew
        have hT := tw_sel (A := fun w => St w s _) (B := fun w => St w s _) (w := _) (x := true) (y := true) (fun _ => hS) (fun _ => (hS.dropAt 12))
        have hF := hS; replace hS := hS
        refine Rg.take (i := 0) true rfl hE rfl (by kernel_rfl) (runs_plain rfl) (Gives.loadB hE 5 rfl rfl rfl ty144) rfl hT ?_; clear hE a; intro a hE
        replace hS := hF; clear hF hT
        have hT := tw_sel (A := fun w => St w s _) (B := fun w => St w s _) (w := _) (x := true) (y := true) (fun _ => hS) (fun _ => (hS.dropAt 12))
        have hF := hS; replace hS := hS
        refine Rg.take (i := 1) true rfl hE rfl (by kernel_rfl) (runs_plain rfl) (Gives.loadB hE 1 rfl rfl rfl ty45) rfl hT ?_; clear hE a; intro a hE
        replace hS := hF; clear hF hT
        refine Rg.takeP (i := 2) hE rfl (by kernel_rfl) (runs_plain rfl) (Gives.p hE rfl) rfl (tw_sel (fun _ => hS) (fun _ => (hS.dropAt 12))) ?_; clear hE a; intro a hE
        obtain ⟨x205, hx206, hq184⟩ := bindS hq184
        obtain ⟨hi207, hlt208, hy209⟩ := gx_some hx206
        obtain ⟨vs210, hl211, hR212, hd213, hget214⟩ := h_v0.at hy209
        subst hR212
        refine Rg.takeP (i := 3) hE rfl (by kernel_rfl) (runs_plain rfl) (Gives.idx hE ((x0).toNat) rfl rfl sl45 hi207 (by omega) (hS.vecAok 11 rfl (by omega : (x0).toNat < y0.length))) rfl (tw_sel (fun _ => hS) (fun _ => (hS.dropAt 12))) ?_; clear hE a; intro a hE
        have hT := tw_sel (A := fun w => St w s _) (B := fun w => St w s _) (w := _) (x := true) (y := true) (fun _ => hS) (fun _ => (hS.dropAt 12))
        have hF := hS; replace hS := hS
        refine Rg.take (i := 4) true rfl hE rfl (by kernel_rfl) (runs_plain rfl) (Gives.load1 hE rfl (fun w h => St.vecSees h 11 rfl ((x0).toNat * 1) _ hget214) ty3) rfl hT ?_; clear hE a; intro a hE
        replace hS := hF; clear hF hT
        refine Rg.takeP (i := 5) hE rfl (by kernel_rfl) (runs_plain rfl) (Gives.p hE rfl) rfl (tw_sel (fun _ => hS) (fun _ => (hS.dropAt 12))) ?_; clear hE a; intro a hE
        refine Rg.one (i := 6) false true rfl (by kernel_rfl) (by kernel_rfl) (by kernel_rfl) ?_
        refine WL.mapSet keyI hE hS 12 (k := x205) (v := x187) (.inl rfl) (runs_plain rfl) rfl rfl rfl rfl mp144 rfl ?_; clear hE hS a w; intro a w hE hS
        refine WL.nil ?_
        refine ⟨⟨fun h => absurd h (by decide), fun _ => (hS.dropAt 12)⟩, ?_⟩
        refine Rg.done (by kernel_rfl) ?_
        subst hK204
        refine W.gen fun K215 hK215 => ?_
        refine W.regionE (sel (fun w => St w s (pt b172 (.cells #[.int .i64 x149.Train, .slice a166 x149.Late.length c167, .slice a169 x149.Weight.length c170] 143 (0, 0)) :: pt pb0 (.cells #[.slice a_v0 y0.length c_v0] 45 (0, 0)) :: pt pb1 (.cells #[.int .i64 q196] 3 (0, 0)) :: pt pb2 (.cells #[.slice a_y2_0 y2.Rides.length c_y2_0] 28 (0, 0)) :: pt pb3 (.cells #[.slice a_y3_0 y3.Trains.length c_y3_0, .slice a_y3_1 y3.Turns.length c_y3_1] 25 (0, 0)) :: pt pb4 (.cells #[.map (some b_v1)] 144 (0, 0)) :: pt pb5 (.cells #[.int .i64 y5] 3 (0, 0)) :: pt pb6 (.cells #[.int .i64 q197] 3 (0, 0)) :: pt pb7 (.cells #[.int .i64 q198] 3 (0, 0)) :: pt pb8 (.cells #[.slice a_y8_0 y8.length c_y8_0] 66 (0, 0)) :: pt pb9 (.cells #[.func (.func 87) #[] #[.pointer (some ⟨pb0, 0, none⟩), .pointer (some ⟨pb1, 0, none⟩), .pointer (some ⟨pb2, 0, none⟩), .pointer (some ⟨pb3, 0, none⟩), .pointer (some ⟨pb4, 0, none⟩), .pointer (some ⟨pb5, 0, none⟩), .pointer (some ⟨pb6, 0, none⟩), .pointer (some ⟨pb7, 0, none⟩), .pointer (some ⟨pb8, 0, none⟩), .pointer (some ⟨pb9, 0, none⟩)]] 145 (0, 0)) :: vecC 3 1 a_v0 c_v0 y0.length cs_v0 :: mapC keyI.f (Value.int .i64) b_v1 (mput q195 x205 x187) :: R)) (fun w => St w s (pt b172 (.cells #[.int .i64 x149.Train, .slice a166 x149.Late.length c167, .slice a169 x149.Weight.length c170] 143 (0, 0)) :: pt pb0 (.cells #[.slice a_v0 y0.length c_v0] 45 (0, 0)) :: pt pb2 (.cells #[.slice a_y2_0 y2.Rides.length c_y2_0] 28 (0, 0)) :: pt pb3 (.cells #[.slice a_y3_0 y3.Trains.length c_y3_0, .slice a_y3_1 y3.Turns.length c_y3_1] 25 (0, 0)) :: pt pb4 (.cells #[.map (some b_v1)] 144 (0, 0)) :: pt pb5 (.cells #[.int .i64 y5] 3 (0, 0)) :: pt pb8 (.cells #[.slice a_y8_0 y8.length c_y8_0] 66 (0, 0)) :: pt pb9 (.cells #[.func (.func 87) #[] #[.pointer (some ⟨pb0, 0, none⟩), .pointer (some ⟨pb1, 0, none⟩), .pointer (some ⟨pb2, 0, none⟩), .pointer (some ⟨pb3, 0, none⟩), .pointer (some ⟨pb4, 0, none⟩), .pointer (some ⟨pb5, 0, none⟩), .pointer (some ⟨pb6, 0, none⟩), .pointer (some ⟨pb7, 0, none⟩), .pointer (some ⟨pb8, 0, none⟩), .pointer (some ⟨pb9, 0, none⟩)]] 145 (0, 0)) :: vecC 3 1 a_v0 c_v0 y0.length cs_v0 :: R))) (fun b i => cond b ([0, 1, 2, 3, 4, 5, 6, 7, 8, 9].contains i) ([0, 1, 2, 3, 4, 5, 6, 7, 8, 9, 10].contains i)) mixed ?_
        replace hS := hS.drew
        have hT := tw_sel (A := fun w => St w s _) (B := fun w => St w s _) (w := _) (x := true) (y := true) (fun _ => hS) (fun _ => ((((hS.dropAt 2).dropAt 6).dropAt 6).dropAt 9))
        have hF := hS; replace hS := hS
        refine Rg.take (i := 0) true rfl hE rfl (by kernel_rfl) (runs_plain rfl) (Gives.loadB hE 10 rfl rfl rfl ty145) rfl hT ?_; clear hE a; intro a hE
        replace hS := hF; clear hF hT
        refine Rg.takeP (i := 1) hE rfl (by kernel_rfl) (runs_plain rfl) (Gives.p hE rfl) rfl (tw_sel (fun _ => hS) (fun _ => ((((hS.dropAt 2).dropAt 6).dropAt 6).dropAt 9))) ?_; clear hE a; intro a hE
        refine Rg.takeP (i := 2) hE rfl (by kernel_rfl) (runs_plain rfl) (Gives.p hE rfl) rfl (tw_sel (fun _ => hS) (fun _ => ((((hS.dropAt 2).dropAt 6).dropAt 6).dropAt 9))) ?_; clear hE a; intro a hE
        refine Rg.takeP (i := 3) hE rfl (by kernel_rfl) (runs_plain rfl) (Gives.p hE rfl) rfl (tw_sel (fun _ => hS) (fun _ => ((((hS.dropAt 2).dropAt 6).dropAt 6).dropAt 9))) ?_; clear hE a; intro a hE
        refine Rg.takeP (i := 4) hE rfl (by kernel_rfl) (runs_plain rfl) (Gives.fld hE rfl fl143_2) rfl (tw_sel (fun _ => hS) (fun _ => ((((hS.dropAt 2).dropAt 6).dropAt 6).dropAt 9))) ?_; clear hE a; intro a hE
        have hT := tw_sel (A := fun w => St w s _) (B := fun w => St w s _) (w := _) (x := true) (y := true) (fun _ => hS) (fun _ => ((((hS.dropAt 2).dropAt 6).dropAt 6).dropAt 9))
        have hF := hS; replace hS := ((((hS.dropAt 2).dropAt 6).dropAt 6).dropAt 9)
        refine Rg.take (i := 5) false rfl hE rfl (by kernel_rfl) (runs_plain rfl) (Gives.loadB hE 0 rfl rfl rfl ty45) rfl hT ?_; clear hE a; intro a hE
        replace hS := hF; clear hF hT
        refine Rg.takeP (i := 6) hE rfl (by kernel_rfl) (runs_plain rfl) (Gives.p hE rfl) rfl (tw_sel (fun _ => hS) (fun _ => ((((hS.dropAt 2).dropAt 6).dropAt 6).dropAt 9))) ?_; clear hE a; intro a hE
        obtain ⟨x216, hx217, hq184⟩ := bindS hq184
        obtain ⟨hi218, hlt219, hy220⟩ := gx_some hx217
        obtain ⟨cs221, hl222, hR223, hat224⟩ := h171.at hy220
        subst hR223
        refine Rg.takeP (i := 7) hE rfl (by kernel_rfl) (runs_plain rfl) (Gives.idx hE (((k186 : Nat) : Int)).toNat rfl rfl sl45 hi218 hlt219 (h171.aok hlt219)) rfl (tw_sel (fun _ => hS) (fun _ => ((((hS.dropAt 2).dropAt 6).dropAt 6).dropAt 9))) ?_; clear hE a; intro a hE
        have hT := tw_sel (A := fun w => St w s _) (B := fun w => St w s _) (w := _) (x := true) (y := true) (fun _ => hS) (fun _ => ((((hS.dropAt 2).dropAt 6).dropAt 6).dropAt 9))
        have hF := hS; replace hS := ((((hS.dropAt 2).dropAt 6).dropAt 6).dropAt 9)
        refine Rg.take (i := 8) false rfl hE rfl (by kernel_rfl) (runs_plain rfl) (Gives.load1 hE rfl (fun w h => hat224 w _ h) ty3) rfl hT ?_; clear hE a; intro a hE
        replace hS := hF; clear hF hT
        refine Rg.takeP (i := 9) hE rfl (by kernel_rfl) (runs_plain rfl) (Gives.p hE rfl) rfl (tw_sel (fun _ => hS) (fun _ => ((((hS.dropAt 2).dropAt 6).dropAt 6).dropAt 9))) ?_; clear hE a; intro a hE
        refine Rg.one (i := 10) false true rfl (by kernel_rfl) (by kernel_rfl) (by kernel_rfl) ?_
        obtain ⟨q225, hq226, hq184⟩ := bindS hq184
        replace hS := hS.front 12 rfl
        replace hS := hS.front 12 rfl
        replace hS := hS.front 12 rfl
        replace hS := hS.front 12 rfl
        replace hS := hS.front 12 rfl
        replace hS := hS.front 12 rfl
        replace hS := hS.front 12 rfl
        replace hS := hS.front 12 rfl
        replace hS := hS.front 12 rfl
        replace hS := hS.front 12 rfl
        replace hS := hS.front 12 rfl
        replace hS := hS.front 12 rfl
        have hc_ := ih_Fishref2Cases_1_v1 (y3 := y3) hS h_v0 (rfl) h_y2_0 h_y3_0 h_y3_1 h_y8_0 hq226
        refine WL.fnw hE (hc_) rfl (runs_plain rfl) bd87 rfl rfl rfl ?_
        clear hE hS hc_; rintro e w ⟨rfl, hS⟩; refine ⟨_, rfl, ?_⟩; clear a; intro a hE
        refine WL.nil ?_
        refine ⟨⟨fun h => absurd h (by decide), fun _ => (St.order ((((hS.dropAt 1).dropAt 5).dropAt 5).dropAt 8) [8, 0, 0, 0, 0, 0, 0, 0, 0] (by kernel_rfl))⟩, ?_⟩
        refine Rg.done (by kernel_rfl) ?_
        subst hK215
        refine W.region ?_
        refine vP hS hE (Gives.inc hE rfl (by have := h168.small; omega)) rfl ?_; clear hE a; intro a hE
        refine vP hS hE (Gives.p hE rfl) rfl ?_; clear hE a; intro a hE
        refine WL.nil ?_
        replace hS := hS.order [12, 0, 0, 0, 0, 0, 0, 0, 0, 0, 0, 0, 0] rfl
        subst hK199
        exact ⟨rest188.length, Nat.lt_succ_self _, rest188, k186 + 1, q225.1, q225.2.1, q225.2.2.1, q225.2.2.2, rfl, hd189, hq184, hE.pick _ ⟨rfl, rfl, rfl, rfl, rfl, rfl, rfl, rfl, rfl, trivial⟩, hS⟩
      ·clear hE hS a w; rintro a w ⟨q195, q196, q197, q198, rfl, hE, hS⟩
       dsimp only at hq146
       refine W.ret ?_
       subst hK161
       rw [← Option.some.inj hq146] at hr
       dsimp only at hr
       refine finG (fn := Tryd.f87) (rs := []) (vs := []) hE rfl trivial ?_
       obtain rfl := Option.some.inj hr
       replace hS := hS.tail
       exact ⟨rfl, hS⟩
     ·replace hq146 := iteF hc183 hq146
      refine W.skip ?_
      refine W.region ?_
      refine vP hS hE (Gives.inc hE rfl (by have := h_y8_0.small; omega)) rfl ?_; clear hE a; intro a hE
      refine vP hS hE (Gives.p hE rfl) rfl ?_; clear hE a; intro a hE
      refine WL.nil ?_
      replace hS := hS.tail
      subst hK161
      exact ⟨rest150.length, Nat.lt_succ_self _, rest150, k148 + 1, q157, q158, q159, q160, rfl, hd151, hq146, hE.pick _ ⟨rfl, rfl, rfl, rfl, rfl, rfl, rfl, rfl, trivial⟩, hS⟩
   ·clear hE hS a w; rintro a w ⟨q157, q158, q159, q160, rfl, hE, hS⟩
    dsimp only at hr
    refine W.seq ?_
    refine W.gen fun K227 hK227 => ?_
    refine W.regionE (sel (fun w => St w s (pt pb0 (.cells #[.slice a_v0 y0.length c_v0] 45 (0, 0)) :: pt pb1 (.cells #[.int .i64 q158] 3 (0, 0)) :: pt pb2 (.cells #[.slice a_y2_0 y2.Rides.length c_y2_0] 28 (0, 0)) :: pt pb3 (.cells #[.slice a_y3_0 y3.Trains.length c_y3_0, .slice a_y3_1 y3.Turns.length c_y3_1] 25 (0, 0)) :: pt pb4 (.cells #[.map (some b_v1)] 144 (0, 0)) :: pt pb5 (.cells #[.int .i64 y5] 3 (0, 0)) :: pt pb6 (.cells #[.int .i64 q159] 3 (0, 0)) :: pt pb7 (.cells #[.int .i64 q160] 3 (0, 0)) :: pt pb8 (.cells #[.slice a_y8_0 y8.length c_y8_0] 66 (0, 0)) :: pt pb9 (.cells #[.func (.func 87) #[] #[.pointer (some ⟨pb0, 0, none⟩), .pointer (some ⟨pb1, 0, none⟩), .pointer (some ⟨pb2, 0, none⟩), .pointer (some ⟨pb3, 0, none⟩), .pointer (some ⟨pb4, 0, none⟩), .pointer (some ⟨pb5, 0, none⟩), .pointer (some ⟨pb6, 0, none⟩), .pointer (some ⟨pb7, 0, none⟩), .pointer (some ⟨pb8, 0, none⟩), .pointer (some ⟨pb9, 0, none⟩)]] 145 (0, 0)) :: vecC 3 1 a_v0 c_v0 y0.length cs_v0 :: mapC keyI.f (Value.int .i64) b_v1 q157 :: R)) (fun w => St w s (pt pb0 (.cells #[.slice a_v0 y0.length c_v0] 45 (0, 0)) :: pt pb1 (.cells #[.int .i64 q158] 3 (0, 0)) :: pt pb2 (.cells #[.slice a_y2_0 y2.Rides.length c_y2_0] 28 (0, 0)) :: pt pb3 (.cells #[.slice a_y3_0 y3.Trains.length c_y3_0, .slice a_y3_1 y3.Turns.length c_y3_1] 25 (0, 0)) :: pt pb4 (.cells #[.map (some b_v1)] 144 (0, 0)) :: pt pb5 (.cells #[.int .i64 y5] 3 (0, 0)) :: pt pb6 (.cells #[.int .i64 q159] 3 (0, 0)) :: pt pb7 (.cells #[.int .i64 q160] 3 (0, 0)) :: pt pb8 (.cells #[.slice a_y8_0 y8.length c_y8_0] 66 (0, 0)) :: pt pb9 (.cells #[.func (.func 87) #[] #[.pointer (some ⟨pb0, 0, none⟩), .pointer (some ⟨pb1, 0, none⟩), .pointer (some ⟨pb2, 0, none⟩), .pointer (some ⟨pb3, 0, none⟩), .pointer (some ⟨pb4, 0, none⟩), .pointer (some ⟨pb5, 0, none⟩), .pointer (some ⟨pb6, 0, none⟩), .pointer (some ⟨pb7, 0, none⟩), .pointer (some ⟨pb8, 0, none⟩), .pointer (some ⟨pb9, 0, none⟩)]] 145 (0, 0)) :: vecC 3 1 a_v0 c_v0 y0.length cs_v0 :: R))) (fun b i => cond b ([0, 1, 2, 3, 4].contains i) ([0, 1, 2, 3, 4, 5].contains i)) mixed ?_
    replace hS := hS.drew
    have hT := tw_sel (A := fun w => St w s _) (B := fun w => St w s _) (w := _) (x := true) (y := true) (fun _ => hS) (fun _ => (hS.dropAt 11))
    have hF := hS; replace hS := hS
    refine Rg.take (i := 0) true rfl hE rfl (by kernel_rfl) (runs_plain rfl) (Gives.loadB hE 4 rfl rfl rfl ty144) rfl hT ?_; clear hE a; intro a hE
    replace hS := hF; clear hF hT
    have hT := tw_sel (A := fun w => St w s _) (B := fun w => St w s _) (w := _) (x := true) (y := true) (fun _ => hS) (fun _ => (hS.dropAt 11))
    have hF := hS; replace hS := hS
    refine Rg.take (i := 1) true rfl hE rfl (by kernel_rfl) (runs_plain rfl) (Gives.loadB hE 0 rfl rfl rfl ty45) rfl hT ?_; clear hE a; intro a hE
    replace hS := hF; clear hF hT
    refine Rg.takeP (i := 2) hE rfl (by kernel_rfl) (runs_plain rfl) (Gives.p hE rfl) rfl (tw_sel (fun _ => hS) (fun _ => (hS.dropAt 11))) ?_; clear hE a; intro a hE
    obtain ⟨x228, hx229, hr⟩ := bindS hr
    obtain ⟨hi230, hlt231, hy232⟩ := gx_some hx229
    obtain ⟨vs233, hl234, hR235, hd236, hget237⟩ := h_v0.at hy232
    subst hR235
    refine Rg.takeP (i := 3) hE rfl (by kernel_rfl) (runs_plain rfl) (Gives.idx hE ((x0).toNat) rfl rfl sl45 hi230 (by omega) (hS.vecAok 10 rfl (by omega : (x0).toNat < y0.length))) rfl (tw_sel (fun _ => hS) (fun _ => (hS.dropAt 11))) ?_; clear hE a; intro a hE
    have hT := tw_sel (A := fun w => St w s _) (B := fun w => St w s _) (w := _) (x := true) (y := true) (fun _ => hS) (fun _ => (hS.dropAt 11))
    have hF := hS; replace hS := hS
    refine Rg.take (i := 4) true rfl hE rfl (by kernel_rfl) (runs_plain rfl) (Gives.load1 hE rfl (fun w h => St.vecSees h 10 rfl ((x0).toNat * 1) _ hget237) ty3) rfl hT ?_; clear hE a; intro a hE
    replace hS := hF; clear hF hT
    refine Rg.one (i := 5) false true rfl (by kernel_rfl) (by kernel_rfl) (by kernel_rfl) ?_
    refine WL.mapSet keyI hE hS 11 (k := x228) (v := 0) (.inl rfl) (runs_plain rfl) rfl rfl rfl rfl mp144 rfl ?_; clear hE hS a w; intro a w hE hS
    refine WL.nil ?_
    refine ⟨⟨fun h => absurd h (by decide), fun _ => (hS.dropAt 11)⟩, ?_⟩
    refine Rg.done (by kernel_rfl) ?_
    subst hK227
    refine W.region ?_
    refine vP hS hE (Gives.loadB hE 9 rfl rfl rfl ty145) rfl ?_; clear hE a; intro a hE
    refine vP hS hE (Gives.p hE rfl) rfl ?_; clear hE a; intro a hE
    refine vP hS hE (Gives.p hE rfl) rfl ?_; clear hE a; intro a hE
    refine vP hS hE (Gives.p hE rfl) rfl ?_; clear hE a; intro a hE
    obtain ⟨q238, hq239, hr⟩ := bindS hr
    have hc_ := ih_Fishref2Cases_1_v1 (y3 := y3) hS h_v0 (rfl) h_y2_0 h_y3_0 h_y3_1 h_y8_0 hq239
    refine WL.fnw hE (hc_) rfl (runs_plain rfl) bd87 rfl rfl rfl ?_
    clear hE hS hc_; rintro e w ⟨rfl, hS⟩; refine ⟨_, rfl, ?_⟩; clear a; intro a hE
    refine WL.nil ?_
    refine finG (fn := Tryd.f87) (rs := []) (vs := []) hE rfl trivial ?_
    obtain rfl := Option.some.inj hr
    exact ⟨rfl, hS⟩
set_option maxHeartbeats 8000000 in
theorem Fishref2Cases_ok {fu : Nat}  {w : World} {s : Sg} {R : List HP} {x0 : ApiDay} {a0_0 : Option Addr} {c0_0 : Nat} {a0_1 : Option Addr} {c0_1 : Nat} {x1 : GuideJourney} {a1_0 : Option Addr} {c1_0 : Nat} {x2 : Int} {x3 : List GuideOdds} {a3 : Option Addr} {c3 : Nat} (hS : St w s (R)) (h0_0 : Sl 4 RApiTrain s a0_0 c0_0 x0.Trains) (h0_1 : Sl 1 (RL 1 (RI .i64)) s a0_1 c0_1 x0.Turns) (h1_0 : Sl 3 RGuideRide s a1_0 c1_0 x1.Rides) (h3 : Sl 3 RGuideOdds s a3 c3 x3) {r : Int × Int × Int} (hr : Fishref2Cases fu x0 x1 x2 x3 = some r) :
  Calls Tryd.prog 34 [.agg [.slice a0_0 x0.Trains.length c0_0, .slice a0_1 x0.Turns.length c0_1].toArray, .agg [.slice a1_0 x1.Rides.length c1_0].toArray, .int .i64 x2, .slice a3 x3.length c3].toArray w (fun e w => e = .returned (.tuple #[.int .i64 r.1, .int .i64 r.2.1, .int .i64 r.2.2]) ∧ St w s (R)) := by
 refine enter Tryd.func34 rfl rfl rfl fun a hE => ?_
 rw [Fishref2Cases] at hr
 refine W.seq (W.region ?_)
 refine WL.box hE hS (runs_plain rfl) rfl rfl rfl ?_; clear hE hS a w; intro b51 a w hE hS
 refine WL.box hE hS (runs_plain rfl) rfl rfl rfl ?_; clear hE hS a w; intro b52 a w hE hS
 refine WL.box hE hS (runs_plain rfl) rfl rfl rfl ?_; clear hE hS a w; intro b53 a w hE hS
 refine WL.box hE hS (runs_plain rfl) rfl rfl rfl ?_; clear hE hS a w; intro b54 a w hE hS
 refine WL.alloc hE hS (runs_plain rfl) zr3 rfl ?_; clear hE hS a w; intro b55 a w hE hS
 refine WL.alloc hE hS (runs_plain rfl) zr3 rfl ?_; clear hE hS a w; intro b56 a w hE hS
 refine WL.alloc hE hS (runs_plain rfl) zr3 rfl ?_; clear hE hS a w; intro b57 a w hE hS
 refine WL.nil ?_
 refine W.seq (W.region ?_)
 refine WL.alloc hE hS (runs_plain rfl) zr45 rfl ?_; clear hE hS a w; intro b58 a w hE hS
 refine WL.nil ?_
 refine W.seq ?_
 refine W.seq (W.region ?_)
 refine vP hS hE (Gives.fld hE rfl fl28_0) rfl ?_; clear hE a; intro a hE
 refine vP hS hE (Gives.loadB hE 6 rfl rfl rfl ty26) rfl ?_; clear hE a; intro a hE
 refine vP hS hE (Gives.len hE rfl sl26) rfl ?_; clear hE a; intro a hE
 refine vP hS hE (Gives.p hE rfl) rfl ?_; clear hE a; intro a hE
 refine WL.nil ?_
 replace hS := hS.vecNil 3 1
 obtain ⟨q61, hq60, hr⟩ := bindS hr
 refine W.cut (fun a w => ∃ (q71 : List Int), ∃ (a72 : Option Addr), ∃ (c73 : Nat), ∃ (n75 : Nat), ∃ (cs76 : List Value), q71 = q61 ∧ Ev 1 (RI .i64) s cs76 q71 ∧ q71.length = n75 ∧ Rep a 41 [(4, .pointer (some ⟨b51, 0, none⟩)), (5, .pointer (some ⟨b52, 0, none⟩)), (6, .pointer (some ⟨b53, 0, none⟩)), (7, .pointer (some ⟨b54, 0, none⟩)), (8, .pointer (some ⟨b55, 0, none⟩)), (9, .pointer (some ⟨b56, 0, none⟩)), (10, .pointer (some ⟨b57, 0, none⟩)), (11, .pointer (some ⟨b58, 0, none⟩))] ∧ St w s (vecC 3 1 a72 c73 n75 cs76 :: pt b58 (.cells #[.slice a72 n75 c73] 45 (0, 0)) :: pt b57 (.cells #[.int .i64 0] 3 (0, 0)) :: pt b56 (.cells #[.int .i64 0] 3 (0, 0)) :: pt b55 (.cells #[.int .i64 0] 3 (0, 0)) :: pt b54 (.cells #[.slice a3 x3.length c3] 66 (0, 0)) :: pt b53 (.cells #[.int .i64 x2] 3 (0, 0)) :: pt b52 (.cells #[.slice a1_0 x1.Rides.length c1_0] 28 (0, 0)) :: pt b51 (.cells #[.slice a0_0 x0.Trains.length c0_0, .slice a0_1 x0.Turns.length c0_1] 25 (0, 0)) :: R)) ?_ ?_
 ·refine W.block ?_
  refine W.loop (fun m a w => ∃ (rest64 : List GuideRide) (k62 : Nat), ∃ (q71 : List Int), ∃ (a72 : Option Addr), ∃ (c73 : Nat), ∃ (n75 : Nat), ∃ (cs76 : List Value), rest64.length = m ∧ x1.Rides.drop k62 = rest64 ∧ Fishref2Cases.loop1 rest64 q71 = some q61 ∧ Ev 1 (RI .i64) s cs76 q71 ∧ q71.length = n75 ∧ Rep a 41 [(4, .pointer (some ⟨b51, 0, none⟩)), (5, .pointer (some ⟨b52, 0, none⟩)), (6, .pointer (some ⟨b53, 0, none⟩)), (7, .pointer (some ⟨b54, 0, none⟩)), (8, .pointer (some ⟨b55, 0, none⟩)), (9, .pointer (some ⟨b56, 0, none⟩)), (10, .pointer (some ⟨b57, 0, none⟩)), (11, .pointer (some ⟨b58, 0, none⟩)), (17, .slice a1_0 x1.Rides.length c1_0), (18, .int .i64 ((x1.Rides).length : Int)), (19, .int .i64 ((k62 : Nat) : Int))] ∧ St w s (vecC 3 1 a72 c73 n75 cs76 :: pt b58 (.cells #[.slice a72 n75 c73] 45 (0, 0)) :: pt b57 (.cells #[.int .i64 0] 3 (0, 0)) :: pt b56 (.cells #[.int .i64 0] 3 (0, 0)) :: pt b55 (.cells #[.int .i64 0] 3 (0, 0)) :: pt b54 (.cells #[.slice a3 x3.length c3] 66 (0, 0)) :: pt b53 (.cells #[.int .i64 x2] 3 (0, 0)) :: pt b52 (.cells #[.slice a1_0 x1.Rides.length c1_0] 28 (0, 0)) :: pt b51 (.cells #[.slice a0_0 x0.Trains.length c0_0, .slice a0_1 x0.Turns.length c0_1] 25 (0, 0)) :: R)) (m := x1.Rides.length) ⟨x1.Rides, 0, [], none, 0, 0, [], rfl, rfl, hq60, (Ev.nil), (rfl), hE.pick _ ⟨rfl, rfl, rfl, rfl, rfl, rfl, rfl, rfl, rfl, rfl, rfl, trivial⟩, hS⟩ ?_
  clear hE hS a w hq60; rintro m68 a w ⟨rest64, k62, q71, a72, c73, n75, cs76, rfl, hd65, hq60, h74, rfl, hE, hS⟩
  refine W.gen fun K78 hK78 => ?_
  rcases rest64 with _ | ⟨x63, rest64⟩
  ·have hlt66 := drop_nil hd65
   refine W.seq (W.region ?_)
   refine vP hS hE (Gives.p hE rfl) rfl ?_; clear hE a; intro a hE
   refine WL.nil ?_
   refine W.seq ?_
   refine W.condF hE rfl (decide_eq_false (by omega)) ?_
   subst hK78
   refine W.exit rfl ?_
   exact ⟨q71, a72, c73, q71.length, cs76, Option.some.inj hq60, h74, rfl, hE.pick _ ⟨rfl, rfl, rfl, rfl, rfl, rfl, rfl, rfl, trivial⟩, hS⟩
  ·obtain ⟨hlt66, hx67, hd65⟩ := drop_cons hd65
   rw [Fishref2Cases.loop1] at hq60
   refine W.seq (W.region ?_)
   refine vP hS hE (Gives.p hE rfl) rfl ?_; clear hE a; intro a hE
   refine WL.nil ?_
   refine W.seq ?_
   refine W.condT hE rfl (decide_eq_true (by omega)) ?_
   refine W.skip ?_
   refine W.seq ?_
   refine W.block ?_
   refine W.seq (W.region ?_)
   obtain ⟨cs79, hl80, hR81, hat82⟩ := h1_0.at hx67
   subst hR81
   refine vP hS hE (Gives.idx hE k62 rfl rfl sl26 rfl hlt66 (h1_0.aok hlt66)) rfl ?_; clear hE a; intro a hE
   refine vP hS hE (Gives.loadA hE rfl (fun w h => hat82 w _ h) ty47) rfl ?_; clear hE a; intro a hE
   refine WL.alloc hE hS (runs_plain rfl) zr47 rfl ?_; clear hE hS a w; intro b83 a w hE hS
   refine WL.storeI hE hS 0 rfl (GuideRide.cells x63) (runs_plain rfl) rfl rfl rfl ty47 rfl rfl rfl rfl ?_; clear hE hS a w; intro a w hE hS
   refine WL.nil ?_
   refine W.seq (W.region ?_)
   refine vP hS hE (Gives.loadB hE 2 rfl rfl rfl ty45) rfl ?_; clear hE a; intro a hE
   refine vP hS hE (Gives.fld hE rfl fl47_0) rfl ?_; clear hE a; intro a hE
   refine vP hS hE (Gives.loadB hE 0 rfl rfl rfl ty3) rfl ?_; clear hE a; intro a hE
   have hF := hS.lendV RI.mono 1 rfl h74 rfl; clear hS; obtain ⟨t84, hle85, hS, hs86, bk87⟩ := hF
   refine WL.fnq hE (SlicesContainsLint_ok hS hs86 rfl (r := SlicesContainsLint q71 x63.Train)) (runs_plain rfl) bd39 rfl rfl rfl ?_
   clear hE hS; rintro e w ⟨rfl, hS⟩; refine ⟨_, rfl, ?_⟩; clear a; intro a hE
   replace hS := bk87 _ _ hS
   refine vP hS hE (Gives.p hE rfl) rfl ?_; clear hE a; intro a hE
   refine WL.nil ?_
   obtain ⟨q89, hq88, hq60⟩ := bindS hq60
   refine W.cut (fun a w => ∃ (q92 : List Int), ∃ (a93 : Option Addr), ∃ (c94 : Nat), ∃ (n96 : Nat), ∃ (cs97 : List Value), q92 = q89 ∧ Ev 1 (RI .i64) s cs97 q92 ∧ q92.length = n96 ∧ Rep a 41 [(4, .pointer (some ⟨b51, 0, none⟩)), (5, .pointer (some ⟨b52, 0, none⟩)), (6, .pointer (some ⟨b53, 0, none⟩)), (7, .pointer (some ⟨b54, 0, none⟩)), (8, .pointer (some ⟨b55, 0, none⟩)), (9, .pointer (some ⟨b56, 0, none⟩)), (10, .pointer (some ⟨b57, 0, none⟩)), (11, .pointer (some ⟨b58, 0, none⟩)), (17, .slice a1_0 x1.Rides.length c1_0), (18, .int .i64 ((x1.Rides).length : Int)), (19, .int .i64 ((k62 : Nat) : Int))] ∧ St w s (vecC 3 1 a93 c94 n96 cs97 :: pt b83 (.cells (GuideRide.cells x63).toArray 47 (0, 0)) :: pt b58 (.cells #[.slice a93 n96 c94] 45 (0, 0)) :: pt b57 (.cells #[.int .i64 0] 3 (0, 0)) :: pt b56 (.cells #[.int .i64 0] 3 (0, 0)) :: pt b55 (.cells #[.int .i64 0] 3 (0, 0)) :: pt b54 (.cells #[.slice a3 x3.length c3] 66 (0, 0)) :: pt b53 (.cells #[.int .i64 x2] 3 (0, 0)) :: pt b52 (.cells #[.slice a1_0 x1.Rides.length c1_0] 28 (0, 0)) :: pt b51 (.cells #[.slice a0_0 x0.Trains.length c0_0, .slice a0_1 x0.Turns.length c0_1] 25 (0, 0)) :: R)) ?_ ?_
   ·refine W.gen fun K99 hK99 => ?_
    refine W.cond hE rfl (fun hc100 => ?_) (fun hc100 => ?_)
    ·replace hq88 := iteT hc100 hq88
     refine W.region ?_
     refine vP hS hE (Gives.loadB hE 2 rfl rfl rfl ty45) rfl ?_; clear hE a; intro a hE
     refine vP hS hE (Gives.fld hE rfl fl47_0) rfl ?_; clear hE a; intro a hE
     refine vP hS hE (Gives.loadB hE 1 rfl rfl rfl ty3) rfl ?_; clear hE a; intro a hE
     refine WL.lit hE hS (e := 3) (es := 1) (vs := [(0, .int .i64 x63.Train)]) (cs := [.int .i64 x63.Train]) (runs_plain rfl) rfl (by kernel_rfl) rfl ?_; clear hE hS a w; intro b101 a w hE hS
     obtain ⟨x102, hx103, hq88⟩ := bindS hq88
     refine WL.appD hE hS 0 (m := 1) (runs_plain rfl) rfl rfl rfl ap45 rfl h74 rfl (xs := [x63.Train]) (Ev.cons (c1 := [.int .i64 x63.Train]) rfl rfl (Ev.nil)) rfl rfl hx103 rfl ?_; clear hE hS a w; intro a104 c105 cs106 a w h107 hE hS
     refine WL.storeI hE hS 2 rfl [.slice a104 x102.length c105] (runs_plain rfl) rfl rfl rfl ty45 rfl rfl rfl rfl ?_; clear hE hS a w; intro a w hE hS
     refine WL.nil ?_
     subst hK99
     exact ⟨x102, a104, c105, x102.length, cs106, Option.some.inj hq88, h107, (rfl), hE.pick _ ⟨rfl, rfl, rfl, rfl, rfl, rfl, rfl, rfl, rfl, rfl, rfl, trivial⟩, hS⟩
    ·replace hq88 := iteF hc100 hq88
     refine W.skip ?_
     subst hK99
     exact ⟨q71, a72, c73, q71.length, cs76, Option.some.inj hq88, h74, rfl, hE.pick _ ⟨rfl, rfl, rfl, rfl, rfl, rfl, rfl, rfl, rfl, rfl, rfl, trivial⟩, hS⟩
   ·clear hE hS a w; rintro a w ⟨q92, a93, c94, n96, cs97, rfl, h95, rfl, hE, hS⟩
    refine W.region ?_
    refine vP hS hE (Gives.inc hE rfl (by have := h1_0.small; omega)) rfl ?_; clear hE a; intro a hE
    refine vP hS hE (Gives.p hE rfl) rfl ?_; clear hE a; intro a hE
    refine WL.nil ?_
    replace hS := hS.dropAt 1
    subst hK78
    exact ⟨rest64.length, Nat.lt_succ_self _, rest64, k62 + 1, q92, a93, c94, q92.length, cs97, rfl, hd65, hq60, h95, rfl, hE.pick _ ⟨rfl, rfl, rfl, rfl, rfl, rfl, rfl, rfl, rfl, rfl, rfl, trivial⟩, hS⟩
 ·clear hE hS a w; rintro a w ⟨q71, a72, c73, n75, cs76, rfl, h74, rfl, hE, hS⟩
  refine W.seq (W.region ?_)
  refine WL.mkMap (fk := keyI.f) (fv := (Value.int .i64)) hE hS (runs_plain rfl) rfl ?_; clear hE hS a w; intro b108 a w hE hS
  refine WL.alloc hE hS (runs_plain rfl) zr144 rfl ?_; clear hE hS a w; intro b109 a w hE hS
  refine WL.storeI hE hS 0 rfl [.map (some b108)] (runs_plain rfl) rfl rfl rfl ty144 rfl rfl rfl rfl ?_; clear hE hS a w; intro a w hE hS
  refine WL.nil ?_
  refine W.seq (W.region ?_)
  refine WL.alloc hE hS (runs_plain rfl) zr145 rfl ?_; clear hE hS a w; intro b110 a w hE hS
  refine WL.nil ?_
  refine W.seq (W.region ?_)
  refine vP hS hE (Gives.mkfn hE (vs := [.pointer (some ⟨b58, 0, none⟩), .pointer (some ⟨b55, 0, none⟩), .pointer (some ⟨b52, 0, none⟩), .pointer (some ⟨b51, 0, none⟩), .pointer (some ⟨b109, 0, none⟩), .pointer (some ⟨b53, 0, none⟩), .pointer (some ⟨b56, 0, none⟩), .pointer (some ⟨b57, 0, none⟩), .pointer (some ⟨b54, 0, none⟩), .pointer (some ⟨b110, 0, none⟩)]) rfl) rfl ?_; clear hE a; intro a hE
  refine WL.storeI hE hS 0 rfl [.func (.func 87) #[] #[.pointer (some ⟨b58, 0, none⟩), .pointer (some ⟨b55, 0, none⟩), .pointer (some ⟨b52, 0, none⟩), .pointer (some ⟨b51, 0, none⟩), .pointer (some ⟨b109, 0, none⟩), .pointer (some ⟨b53, 0, none⟩), .pointer (some ⟨b56, 0, none⟩), .pointer (some ⟨b57, 0, none⟩), .pointer (some ⟨b54, 0, none⟩), .pointer (some ⟨b110, 0, none⟩)]] (runs_plain rfl) rfl rfl rfl ty145 rfl rfl rfl rfl ?_; clear hE hS a w; intro a w hE hS
  refine WL.nil ?_
  refine W.seq (W.region ?_)
  refine vP hS hE (Gives.loadB hE 0 rfl rfl rfl ty145) rfl ?_; clear hE a; intro a hE
  obtain ⟨q111, hq112, hr⟩ := bindS hr
  replace hS := hS.front 2 rfl
  replace hS := hS.front 3 rfl
  replace hS := hS.front 2 rfl
  replace hS := hS.front 8 rfl
  replace hS := hS.front 6 rfl
  replace hS := hS.front 7 rfl
  replace hS := hS.front 9 rfl
  replace hS := hS.front 7 rfl
  replace hS := hS.front 11 rfl
  replace hS := hS.front 11 rfl
  replace hS := hS.front 11 rfl
  replace hS := hS.front 11 rfl
  have hc_ := Fishref2Cases_1_v1_ok (y3 := x0) hS h74 rfl h1_0 h0_0 h0_1 h3 hq112
  refine WL.fnw hE (hc_) rfl (runs_plain rfl) bd87 rfl rfl rfl ?_
  clear hE hS hc_; rintro e w ⟨rfl, hS⟩; refine ⟨_, rfl, ?_⟩; clear a; intro a hE
  refine WL.nil ?_
  refine W.seq ?_
  refine W.gen fun K113 hK113 => ?_
  refine W.regionE (sel (fun w => St w s (pt b58 (.cells #[.slice a72 q71.length c73] 45 (0, 0)) :: pt b55 (.cells #[.int .i64 q111.2.1] 3 (0, 0)) :: pt b52 (.cells #[.slice a1_0 x1.Rides.length c1_0] 28 (0, 0)) :: pt b51 (.cells #[.slice a0_0 x0.Trains.length c0_0, .slice a0_1 x0.Turns.length c0_1] 25 (0, 0)) :: pt b109 (.cells #[.map (some b108)] 144 (0, 0)) :: pt b53 (.cells #[.int .i64 x2] 3 (0, 0)) :: pt b56 (.cells #[.int .i64 q111.2.2.1] 3 (0, 0)) :: pt b57 (.cells #[.int .i64 q111.2.2.2] 3 (0, 0)) :: pt b54 (.cells #[.slice a3 x3.length c3] 66 (0, 0)) :: pt b110 (.cells #[.func (.func 87) #[] #[.pointer (some ⟨b58, 0, none⟩), .pointer (some ⟨b55, 0, none⟩), .pointer (some ⟨b52, 0, none⟩), .pointer (some ⟨b51, 0, none⟩), .pointer (some ⟨b109, 0, none⟩), .pointer (some ⟨b53, 0, none⟩), .pointer (some ⟨b56, 0, none⟩), .pointer (some ⟨b57, 0, none⟩), .pointer (some ⟨b54, 0, none⟩), .pointer (some ⟨b110, 0, none⟩)]] 145 (0, 0)) :: vecC 3 1 a72 c73 q71.length cs76 :: mapC keyI.f (Value.int .i64) b108 q111.1 :: R)) (fun w => St w s (pt b58 (.cells #[.slice a72 q71.length c73] 45 (0, 0)) :: pt b52 (.cells #[.slice a1_0 x1.Rides.length c1_0] 28 (0, 0)) :: pt b51 (.cells #[.slice a0_0 x0.Trains.length c0_0, .slice a0_1 x0.Turns.length c0_1] 25 (0, 0)) :: pt b109 (.cells #[.map (some b108)] 144 (0, 0)) :: pt b53 (.cells #[.int .i64 x2] 3 (0, 0)) :: pt b54 (.cells #[.slice a3 x3.length c3] 66 (0, 0)) :: pt b110 (.cells #[.func (.func 87) #[] #[.pointer (some ⟨b58, 0, none⟩), .pointer (some ⟨b55, 0, none⟩), .pointer (some ⟨b52, 0, none⟩), .pointer (some ⟨b51, 0, none⟩), .pointer (some ⟨b109, 0, none⟩), .pointer (some ⟨b53, 0, none⟩), .pointer (some ⟨b56, 0, none⟩), .pointer (some ⟨b57, 0, none⟩), .pointer (some ⟨b54, 0, none⟩), .pointer (some ⟨b110, 0, none⟩)]] 145 (0, 0)) :: vecC 3 1 a72 c73 q71.length cs76 :: mapC keyI.f (Value.int .i64) b108 q111.1 :: R))) (fun b i => cond b ([0, 1, 2].contains i) ([0, 1, 2, 3, 4, 5].contains i)) mixed ?_
  replace hS := hS.drew
  have hT := tw_sel (A := fun w => St w s _) (B := fun w => St w s _) (w := _) (x := true) (y := true) (fun _ => hS) (fun _ => (((hS.dropAt 1).dropAt 5).dropAt 5))
  have hF := hS; replace hS := hS
  refine Rg.take (i := 0) true rfl hE rfl (by kernel_rfl) (runs_plain rfl) (Gives.loadB hE 1 rfl rfl rfl ty3) rfl hT ?_; clear hE a; intro a hE
  replace hS := hF; clear hF hT
  suffices key : ∀ (a : Act) (w : World), Sl 3 RGuideRide s a1_0 c1_0 x1.Rides → Sl 4 RApiTrain s a0_0 c0_0 x0.Trains → Sl 1 (RL 1 (RI .i64)) s a0_1 c0_1 x0.Turns → Sl 3 RGuideOdds s a3 c3 x3 → Ev 1 (RI .i64) s cs76 q71 → Rep a 41 [(8, .pointer (some ⟨b55, 0, none⟩)), (9, .pointer (some ⟨b56, 0, none⟩)), (10, .pointer (some ⟨b57, 0, none⟩))] → St w s (pt b58 (.cells #[.slice a72 q71.length c73] 45 (0, 0)) :: pt b55 (.cells #[.int .i64 q111.2.1] 3 (0, 0)) :: pt b52 (.cells #[.slice a1_0 x1.Rides.length c1_0] 28 (0, 0)) :: pt b51 (.cells #[.slice a0_0 x0.Trains.length c0_0, .slice a0_1 x0.Turns.length c0_1] 25 (0, 0)) :: pt b109 (.cells #[.map (some b108)] 144 (0, 0)) :: pt b53 (.cells #[.int .i64 x2] 3 (0, 0)) :: pt b56 (.cells #[.int .i64 q111.2.2.1] 3 (0, 0)) :: pt b57 (.cells #[.int .i64 q111.2.2.2] 3 (0, 0)) :: pt b54 (.cells #[.slice a3 x3.length c3] 66 (0, 0)) :: pt b110 (.cells #[.func (.func 87) #[] #[.pointer (some ⟨b58, 0, none⟩), .pointer (some ⟨b55, 0, none⟩), .pointer (some ⟨b52, 0, none⟩), .pointer (some ⟨b51, 0, none⟩), .pointer (some ⟨b109, 0, none⟩), .pointer (some ⟨b53, 0, none⟩), .pointer (some ⟨b56, 0, none⟩), .pointer (some ⟨b57, 0, none⟩), .pointer (some ⟨b54, 0, none⟩), .pointer (some ⟨b110, 0, none⟩)]] 145 (0, 0)) :: vecC 3 1 a72 c73 q71.length cs76 :: mapC keyI.f (Value.int .i64) b108 q111.1 :: R) → K113.nor a w by
   refine Rg.many 1 [2, 3] (by kernel_rfl) ⟨?_, ?_, ?_, trivial⟩
   ·refine Br.mk (i := 1) true true rfl (by kernel_rfl) (by kernel_rfl) ?_
    refine vP hS hE (Gives.loadB hE 6 rfl rfl rfl ty3) rfl ?_; clear hE a; intro a hE
    refine WL.nil ?_
    refine ⟨⟨fun _ => hS, fun _ => (((hS.dropAt 1).dropAt 5).dropAt 5)⟩, ?_⟩
    refine Rg.many 2 [3] (by kernel_rfl) ⟨?_, ?_, trivial⟩
    ·refine Br.mk (i := 2) true true rfl (by kernel_rfl) (by kernel_rfl) ?_
     refine vP hS hE (Gives.loadB hE 7 rfl rfl rfl ty3) rfl ?_; clear hE a; intro a hE
     refine WL.nil ?_
     refine ⟨⟨fun _ => hS, fun _ => (((hS.dropAt 1).dropAt 5).dropAt 5)⟩, ?_⟩
     refine Rg.one (i := 3) false true rfl (by kernel_rfl) (by kernel_rfl) (by kernel_rfl) ?_
     refine WL.storeI hE hS 1 rfl [.int .i64 q111.2.1] (runs_plain rfl) rfl rfl rfl ty3 rfl rfl rfl rfl ?_; clear hE hS a w; intro a w hE hS
     refine WL.nil ?_
     refine ⟨⟨fun h => absurd h (by decide), fun _ => (((hS.dropAt 1).dropAt 5).dropAt 5)⟩, ?_⟩
     refine Rg.one (i := 4) false true rfl (by kernel_rfl) (by kernel_rfl) (by kernel_rfl) ?_
     refine WL.storeI hE hS 6 rfl [.int .i64 q111.2.2.1] (runs_plain rfl) rfl rfl rfl ty3 rfl rfl rfl rfl ?_; clear hE hS a w; intro a w hE hS
     refine WL.nil ?_
     refine ⟨⟨fun h => absurd h (by decide), fun _ => (((hS.dropAt 1).dropAt 5).dropAt 5)⟩, ?_⟩
     refine Rg.one (i := 5) false true rfl (by kernel_rfl) (by kernel_rfl) (by kernel_rfl) ?_
     refine WL.storeI hE hS 7 rfl [.int .i64 q111.2.2.2] (runs_plain rfl) rfl rfl rfl ty3 rfl rfl rfl rfl ?_; clear hE hS a w; intro a w hE hS
     refine WL.nil ?_
     refine ⟨⟨fun h => absurd h (by decide), fun _ => (((hS.dropAt 1).dropAt 5).dropAt 5)⟩, ?_⟩
     refine Rg.done (by kernel_rfl) ?_
     exact key  _ _ h1_0 h0_0 h0_1 h3 h74 (hE.pick _ ⟨rfl, rfl, rfl, trivial⟩) hS
    ·refine Br.mk (i := 3) false true rfl (by kernel_rfl) (by kernel_rfl) ?_
     refine WL.storeI hE hS 1 rfl [.int .i64 q111.2.1] (runs_plain rfl) rfl rfl rfl ty3 rfl rfl rfl rfl ?_; clear hE hS a w; intro a w hE hS
     refine WL.nil ?_
     refine ⟨⟨fun h => absurd h (by decide), fun _ => (((hS.dropAt 1).dropAt 5).dropAt 5)⟩, ?_⟩
     refine Rg.many 2 [4] (by kernel_rfl) ⟨?_, ?_, trivial⟩
     ·refine Br.mk (i := 2) false true rfl (by kernel_rfl) (by kernel_rfl) ?_
      refine vP hS hE (Gives.loadB hE 7 rfl rfl rfl ty3) rfl ?_; clear hE a; intro a hE
      refine WL.nil ?_
      refine ⟨⟨fun h => absurd h (by decide), fun _ => (((hS.dropAt 1).dropAt 5).dropAt 5)⟩, ?_⟩
      refine Rg.one (i := 4) false true rfl (by kernel_rfl) (by kernel_rfl) (by kernel_rfl) ?_
      refine WL.storeI hE hS 6 rfl [.int .i64 q111.2.2.1] (runs_plain rfl) rfl rfl rfl ty3 rfl rfl rfl rfl ?_; clear hE hS a w; intro a w hE hS
      refine WL.nil ?_
      refine ⟨⟨fun h => absurd h (by decide), fun _ => (((hS.dropAt 1).dropAt 5).dropAt 5)⟩, ?_⟩
      refine Rg.one (i := 5) false true rfl (by kernel_rfl) (by kernel_rfl) (by kernel_rfl) ?_
      refine WL.storeI hE hS 7 rfl [.int .i64 q111.2.2.2] (runs_plain rfl) rfl rfl rfl ty3 rfl rfl rfl rfl ?_; clear hE hS a w; intro a w hE hS
      refine WL.nil ?_
      refine ⟨⟨fun h => absurd h (by decide), fun _ => (((hS.dropAt 1).dropAt 5).dropAt 5)⟩, ?_⟩
      refine Rg.done (by kernel_rfl) ?_
      exact key  _ _ h1_0 h0_0 h0_1 h3 h74 (hE.pick _ ⟨rfl, rfl, rfl, trivial⟩) hS
     ·refine Br.mk (i := 4) false true rfl (by kernel_rfl) (by kernel_rfl) ?_
      refine WL.storeI hE hS 6 rfl [.int .i64 q111.2.2.1] (runs_plain rfl) rfl rfl rfl ty3 rfl rfl rfl rfl ?_; clear hE hS a w; intro a w hE hS
      refine WL.nil ?_
      refine ⟨⟨fun h => absurd h (by decide), fun _ => (((hS.dropAt 1).dropAt 5).dropAt 5)⟩, ?_⟩
      refine Rg.one (i := 2) false true rfl (by kernel_rfl) (by kernel_rfl) (by kernel_rfl) ?_
      refine vP hS hE (Gives.loadB hE 7 rfl rfl rfl ty3) rfl ?_; clear hE a; intro a hE
      refine WL.nil ?_
      refine ⟨⟨fun h => absurd h (by decide), fun _ => (((hS.dropAt 1).dropAt 5).dropAt 5)⟩, ?_⟩
      refine Rg.one (i := 5) false true rfl (by kernel_rfl) (by kernel_rfl) (by kernel_rfl) ?_
      refine WL.storeI hE hS 7 rfl [.int .i64 q111.2.2.2] (runs_plain rfl) rfl rfl rfl ty3 rfl rfl rfl rfl ?_; clear hE hS a w; intro a w hE hS
      refine WL.nil ?_
      refine ⟨⟨fun h => absurd h (by decide), fun _ => (((hS.dropAt 1).dropAt 5).dropAt 5)⟩, ?_⟩
      refine Rg.done (by kernel_rfl) ?_
      exact key  _ _ h1_0 h0_0 h0_1 h3 h74 (hE.pick _ ⟨rfl, rfl, rfl, trivial⟩) hS
   ·refine Br.mk (i := 2) true true rfl (by kernel_rfl) (by kernel_rfl) ?_
    refine vP hS hE (Gives.loadB hE 7 rfl rfl rfl ty3) rfl ?_; clear hE a; intro a hE
    refine WL.nil ?_
    refine ⟨⟨fun _ => hS, fun _ => (((hS.dropAt 1).dropAt 5).dropAt 5)⟩, ?_⟩
    refine Rg.many 1 [3] (by kernel_rfl) ⟨?_, ?_, trivial⟩
    ·refine Br.mk (i := 1) true true rfl (by kernel_rfl) (by kernel_rfl) ?_
     refine vP hS hE (Gives.loadB hE 6 rfl rfl rfl ty3) rfl ?_; clear hE a; intro a hE
     refine WL.nil ?_
     refine ⟨⟨fun _ => hS, fun _ => (((hS.dropAt 1).dropAt 5).dropAt 5)⟩, ?_⟩
     refine Rg.one (i := 3) false true rfl (by kernel_rfl) (by kernel_rfl) (by kernel_rfl) ?_
     refine WL.storeI hE hS 1 rfl [.int .i64 q111.2.1] (runs_plain rfl) rfl rfl rfl ty3 rfl rfl rfl rfl ?_; clear hE hS a w; intro a w hE hS
     refine WL.nil ?_
     refine ⟨⟨fun h => absurd h (by decide), fun _ => (((hS.dropAt 1).dropAt 5).dropAt 5)⟩, ?_⟩
     refine Rg.one (i := 4) false true rfl (by kernel_rfl) (by kernel_rfl) (by kernel_rfl) ?_
     refine WL.storeI hE hS 6 rfl [.int .i64 q111.2.2.1] (runs_plain rfl) rfl rfl rfl ty3 rfl rfl rfl rfl ?_; clear hE hS a w; intro a w hE hS
     refine WL.nil ?_
     refine ⟨⟨fun h => absurd h (by decide), fun _ => (((hS.dropAt 1).dropAt 5).dropAt 5)⟩, ?_⟩
     refine Rg.one (i := 5) false true rfl (by kernel_rfl) (by kernel_rfl) (by kernel_rfl) ?_
     refine WL.storeI hE hS 7 rfl [.int .i64 q111.2.2.2] (runs_plain rfl) rfl rfl rfl ty3 rfl rfl rfl rfl ?_; clear hE hS a w; intro a w hE hS
     refine WL.nil ?_
     refine ⟨⟨fun h => absurd h (by decide), fun _ => (((hS.dropAt 1).dropAt 5).dropAt 5)⟩, ?_⟩
     refine Rg.done (by kernel_rfl) ?_
     exact key  _ _ h1_0 h0_0 h0_1 h3 h74 (hE.pick _ ⟨rfl, rfl, rfl, trivial⟩) hS
    ·refine Br.mk (i := 3) false true rfl (by kernel_rfl) (by kernel_rfl) ?_
     refine WL.storeI hE hS 1 rfl [.int .i64 q111.2.1] (runs_plain rfl) rfl rfl rfl ty3 rfl rfl rfl rfl ?_; clear hE hS a w; intro a w hE hS
     refine WL.nil ?_
     refine ⟨⟨fun h => absurd h (by decide), fun _ => (((hS.dropAt 1).dropAt 5).dropAt 5)⟩, ?_⟩
     refine Rg.one (i := 1) false true rfl (by kernel_rfl) (by kernel_rfl) (by kernel_rfl) ?_
     refine vP hS hE (Gives.loadB hE 6 rfl rfl rfl ty3) rfl ?_; clear hE a; intro a hE
     refine WL.nil ?_
     refine ⟨⟨fun h => absurd h (by decide), fun _ => (((hS.dropAt 1).dropAt 5).dropAt 5)⟩, ?_⟩
     refine Rg.one (i := 4) false true rfl (by kernel_rfl) (by kernel_rfl) (by kernel_rfl) ?_
     refine WL.storeI hE hS 6 rfl [.int .i64 q111.2.2.1] (runs_plain rfl) rfl rfl rfl ty3 rfl rfl rfl rfl ?_; clear hE hS a w; intro a w hE hS
     refine WL.nil ?_
     refine ⟨⟨fun h => absurd h (by decide), fun _ => (((hS.dropAt 1).dropAt 5).dropAt 5)⟩, ?_⟩
     refine Rg.one (i := 5) false true rfl (by kernel_rfl) (by kernel_rfl) (by kernel_rfl) ?_
     refine WL.storeI hE hS 7 rfl [.int .i64 q111.2.2.2] (runs_plain rfl) rfl rfl rfl ty3 rfl rfl rfl rfl ?_; clear hE hS a w; intro a w hE hS
     refine WL.nil ?_
     refine ⟨⟨fun h => absurd h (by decide), fun _ => (((hS.dropAt 1).dropAt 5).dropAt 5)⟩, ?_⟩
     refine Rg.done (by kernel_rfl) ?_
     exact key  _ _ h1_0 h0_0 h0_1 h3 h74 (hE.pick _ ⟨rfl, rfl, rfl, trivial⟩) hS
   ·refine Br.mk (i := 3) false true rfl (by kernel_rfl) (by kernel_rfl) ?_
    refine WL.storeI hE hS 1 rfl [.int .i64 q111.2.1] (runs_plain rfl) rfl rfl rfl ty3 rfl rfl rfl rfl ?_; clear hE hS a w; intro a w hE hS
    refine WL.nil ?_
    refine ⟨⟨fun h => absurd h (by decide), fun _ => (((hS.dropAt 1).dropAt 5).dropAt 5)⟩, ?_⟩
    refine Rg.many 1 [2] (by kernel_rfl) ⟨?_, ?_, trivial⟩
    ·refine Br.mk (i := 1) false true rfl (by kernel_rfl) (by kernel_rfl) ?_
     refine vP hS hE (Gives.loadB hE 6 rfl rfl rfl ty3) rfl ?_; clear hE a; intro a hE
     refine WL.nil ?_
     refine ⟨⟨fun h => absurd h (by decide), fun _ => (((hS.dropAt 1).dropAt 5).dropAt 5)⟩, ?_⟩
     refine Rg.many 2 [4] (by kernel_rfl) ⟨?_, ?_, trivial⟩
     ·refine Br.mk (i := 2) false true rfl (by kernel_rfl) (by kernel_rfl) ?_
      refine vP hS hE (Gives.loadB hE 7 rfl rfl rfl ty3) rfl ?_; clear hE a; intro a hE
      refine WL.nil ?_
      refine ⟨⟨fun h => absurd h (by decide), fun _ => (((hS.dropAt 1).dropAt 5).dropAt 5)⟩, ?_⟩
      refine Rg.one (i := 4) false true rfl (by kernel_rfl) (by kernel_rfl) (by kernel_rfl) ?_
      refine WL.storeI hE hS 6 rfl [.int .i64 q111.2.2.1] (runs_plain rfl) rfl rfl rfl ty3 rfl rfl rfl rfl ?_; clear hE hS a w; intro a w hE hS
      refine WL.nil ?_
      refine ⟨⟨fun h => absurd h (by decide), fun _ => (((hS.dropAt 1).dropAt 5).dropAt 5)⟩, ?_⟩
      refine Rg.one (i := 5) false true rfl (by kernel_rfl) (by kernel_rfl) (by kernel_rfl) ?_
      refine WL.storeI hE hS 7 rfl [.int .i64 q111.2.2.2] (runs_plain rfl) rfl rfl rfl ty3 rfl rfl rfl rfl ?_; clear hE hS a w; intro a w hE hS
      refine WL.nil ?_
      refine ⟨⟨fun h => absurd h (by decide), fun _ => (((hS.dropAt 1).dropAt 5).dropAt 5)⟩, ?_⟩
      refine Rg.done (by kernel_rfl) ?_
      exact key  _ _ h1_0 h0_0 h0_1 h3 h74 (hE.pick _ ⟨rfl, rfl, rfl, trivial⟩) hS
     ·refine Br.mk (i := 4) false true rfl (by kernel_rfl) (by kernel_rfl) ?_
      refine WL.storeI hE hS 6 rfl [.int .i64 q111.2.2.1] (runs_plain rfl) rfl rfl rfl ty3 rfl rfl rfl rfl ?_; clear hE hS a w; intro a w hE hS
      refine WL.nil ?_
      refine ⟨⟨fun h => absurd h (by decide), fun _ => (((hS.dropAt 1).dropAt 5).dropAt 5)⟩, ?_⟩
      refine Rg.one (i := 2) false true rfl (by kernel_rfl) (by kernel_rfl) (by kernel_rfl) ?_
      refine vP hS hE (Gives.loadB hE 7 rfl rfl rfl ty3) rfl ?_; clear hE a; intro a hE
      refine WL.nil ?_
      refine ⟨⟨fun h => absurd h (by decide), fun _ => (((hS.dropAt 1).dropAt 5).dropAt 5)⟩, ?_⟩
      refine Rg.one (i := 5) false true rfl (by kernel_rfl) (by kernel_rfl) (by kernel_rfl) ?_
      refine WL.storeI hE hS 7 rfl [.int .i64 q111.2.2.2] (runs_plain rfl) rfl rfl rfl ty3 rfl rfl rfl rfl ?_; clear hE hS a w; intro a w hE hS
      refine WL.nil ?_
      refine ⟨⟨fun h => absurd h (by decide), fun _ => (((hS.dropAt 1).dropAt 5).dropAt 5)⟩, ?_⟩
      refine Rg.done (by kernel_rfl) ?_
      exact key  _ _ h1_0 h0_0 h0_1 h3 h74 (hE.pick _ ⟨rfl, rfl, rfl, trivial⟩) hS
    ·refine Br.mk (i := 2) false true rfl (by kernel_rfl) (by kernel_rfl) ?_
     refine vP hS hE (Gives.loadB hE 7 rfl rfl rfl ty3) rfl ?_; clear hE a; intro a hE
     refine WL.nil ?_
     refine ⟨⟨fun h => absurd h (by decide), fun _ => (((hS.dropAt 1).dropAt 5).dropAt 5)⟩, ?_⟩
     refine Rg.one (i := 1) false true rfl (by kernel_rfl) (by kernel_rfl) (by kernel_rfl) ?_
     refine vP hS hE (Gives.loadB hE 6 rfl rfl rfl ty3) rfl ?_; clear hE a; intro a hE
     refine WL.nil ?_
     refine ⟨⟨fun h => absurd h (by decide), fun _ => (((hS.dropAt 1).dropAt 5).dropAt 5)⟩, ?_⟩
     refine Rg.one (i := 4) false true rfl (by kernel_rfl) (by kernel_rfl) (by kernel_rfl) ?_
     refine WL.storeI hE hS 6 rfl [.int .i64 q111.2.2.1] (runs_plain rfl) rfl rfl rfl ty3 rfl rfl rfl rfl ?_; clear hE hS a w; intro a w hE hS
     refine WL.nil ?_
     refine ⟨⟨fun h => absurd h (by decide), fun _ => (((hS.dropAt 1).dropAt 5).dropAt 5)⟩, ?_⟩
     refine Rg.one (i := 5) false true rfl (by kernel_rfl) (by kernel_rfl) (by kernel_rfl) ?_
     refine WL.storeI hE hS 7 rfl [.int .i64 q111.2.2.2] (runs_plain rfl) rfl rfl rfl ty3 rfl rfl rfl rfl ?_; clear hE hS a w; intro a w hE hS
     refine WL.nil ?_
     refine ⟨⟨fun h => absurd h (by decide), fun _ => (((hS.dropAt 1).dropAt 5).dropAt 5)⟩, ?_⟩
     refine Rg.done (by kernel_rfl) ?_
     exact key  _ _ h1_0 h0_0 h0_1 h3 h74 (hE.pick _ ⟨rfl, rfl, rfl, trivial⟩) hS
  clear hE hS a w; intro a w h1_0 h0_0 h0_1 h3 h74 hE hS
  subst hK113
  refine W.ret ?_
  refine finG (fn := Tryd.f34) (rs := [.cell 8 3, .cell 9 3, .cell 10 3]) (vs := [_, _, _]) hE rfl ⟨⟨_, rfl, .inr ⟨hS.seesAt 1 rfl, ty3⟩⟩, ⟨_, rfl, .inr ⟨hS.seesAt 6 rfl, ty3⟩⟩, ⟨_, rfl, .inr ⟨hS.seesAt 7 rfl, ty3⟩⟩, trivial⟩ ?_
  obtain rfl := Option.some.inj hr
  replace hS := hS.tail
  replace hS := hS.tail
  replace hS := hS.tail
  replace hS := hS.tail
  replace hS := hS.tail
  replace hS := hS.tail
  replace hS := hS.tail
  replace hS := hS.tail
  replace hS := hS.tail
  replace hS := hS.tail
  replace hS := hS.tail
  replace hS := hS.tail
  exact ⟨rfl, hS⟩
set_option maxHeartbeats 8000000 in
theorem Fishref2common_ok : ∀ {fu : Nat} {w : World} {s : Sg} {R : List HP} {x0 : Int} {x1 : Int} (_hS : St w s (R))  {r : Int} (_hr : Fishref2common fu x0 x1 = some r),
  Calls Tryd.prog 88 [.int .i64 x0, .int .i64 x1].toArray w (fun e w => e = .returned (.int .i64 r) ∧ St w s (R)) := by
 intro fu
 induction fu with
 | zero => intro w s R x0 x1 hS  r hr; rw [Fishref2common] at hr; exact absurd hr (by simp)
 | succ fu ih_Fishref2common =>
  intro w s R x0 x1 hS  r hr
  rw [Fishref2common] at hr
  generalize Fishref2common fu = self_Fishref2common at hr ih_Fishref2common
  refine enter Tryd.func88 rfl rfl rfl fun a hE => ?_
  refine W.seq (W.region ?_)
  refine vP hS hE (Gives.p hE rfl) rfl ?_; clear hE a; intro a hE
  refine WL.nil ?_
  refine W.seq ?_
  refine W.seq (W.region ?_)
  refine vP hS hE (Gives.p hE rfl) rfl ?_; clear hE a; intro a hE
  refine vP hS hE (Gives.p hE rfl) rfl ?_; clear hE a; intro a hE
  refine WL.nil ?_
  refine W.cond hE rfl (fun hc51 => ?_) (fun hc51 => ?_)
  ·replace hr := iteT hc51 hr
   refine W.seq (W.region ?_)
   refine vP hS hE (Gives.p hE rfl) rfl ?_; clear hE a; intro a hE
   refine vP hS hE (Gives.p hE rfl) rfl ?_; clear hE a; intro a hE
   refine WL.nil ?_
   refine W.ret ?_
   refine finG (fn := Tryd.f88) (rs := [.tmp 4]) (vs := [_]) hE rfl ⟨rfl, trivial⟩ ?_
   obtain rfl := Option.some.inj hr
   exact ⟨rfl, hS⟩
  ·replace hr := iteF hc51 hr
   refine W.skip ?_
   refine W.seq (W.region ?_)
   refine vP hS hE (Gives.p hE rfl) rfl ?_; clear hE a; intro a hE
   refine vP hS hE (Gives.p hE rfl) rfl ?_; clear hE a; intro a hE
   refine vP hS hE (Gives.p hE rfl) rfl ?_; clear hE a; intro a hE
   obtain ⟨x52, hx53, hr⟩ := bindS hr
   refine vP hS hE (Gives.rm hE rfl rfl hx53) rfl ?_; clear hE a; intro a hE
   obtain ⟨q54, hq55, hr⟩ := bindS hr
   have hc_ := ih_Fishref2common hS  hq55
   refine WL.fnq hE (hc_) (runs_plain rfl) bd88 rfl rfl rfl ?_
   clear hE hS hc_; rintro e w ⟨rfl, hS⟩; refine ⟨_, rfl, ?_⟩; clear a; intro a hE
   refine vP hS hE (Gives.p hE rfl) rfl ?_; clear hE a; intro a hE
   refine WL.nil ?_
   refine W.ret ?_
   refine finG (fn := Tryd.f88) (rs := [.tmp 4]) (vs := [_]) hE rfl ⟨rfl, trivial⟩ ?_
   obtain rfl := Option.some.inj hr
   exact ⟨rfl, hS⟩
set_option maxHeartbeats 8000000 in
theorem Fishref2Lowest_ok {fu : Nat}  {w : World} {s : Sg} {R : List HP} {x0 : Int} {x1 : Int} (hS : St w s (R))  {r : Int × Int} (hr : Fishref2Lowest fu x0 x1 = some r) :
  Calls Tryd.prog 35 [.int .i64 x0, .int .i64 x1].toArray w (fun e w => e = .returned (.tuple #[.int .i64 r.1, .int .i64 r.2]) ∧ St w s (R)) := by
 refine enter Tryd.func35 rfl rfl rfl fun a hE => ?_
 rw [Fishref2Lowest] at hr
 refine W.seq (W.region ?_)
 refine vP hS hE (Gives.p hE rfl) rfl ?_; clear hE a; intro a hE
 refine vP hS hE (Gives.p hE rfl) rfl ?_; clear hE a; intro a hE
 refine WL.nil ?_
 refine W.seq (W.region ?_)
 refine vP hS hE (Gives.p hE rfl) rfl ?_; clear hE a; intro a hE
 refine vP hS hE (Gives.p hE rfl) rfl ?_; clear hE a; intro a hE
 obtain ⟨q51, hq52, hr⟩ := bindS hr
 have hc_ := Fishref2common_ok hS  hq52
 refine WL.fnq hE (hc_) (runs_plain rfl) bd88 rfl rfl rfl ?_
 clear hE hS hc_; rintro e w ⟨rfl, hS⟩; refine ⟨_, rfl, ?_⟩; clear a; intro a hE
 refine vP hS hE (Gives.p hE rfl) rfl ?_; clear hE a; intro a hE
 refine WL.nil ?_
 refine W.seq ?_
 refine W.regionQ (C := fun w => St w s (R)) mixed (by kernel_rfl) hS.drew ?_
 refine qP hE (Gives.p hE rfl) rfl ?_; clear hE a; intro a hE
 refine qP hE (Gives.p hE rfl) rfl ?_; clear hE a; intro a hE
 obtain ⟨x53, hx54, hr⟩ := bindS hr
 refine qP hE (Gives.dv hE rfl rfl hx54) rfl ?_; clear hE a; intro a hE
 refine qP hE (Gives.p hE rfl) rfl ?_; clear hE a; intro a hE
 refine qP hE (Gives.p hE rfl) rfl ?_; clear hE a; intro a hE
 obtain ⟨x55, hx56, hr⟩ := bindS hr
 refine qP hE (Gives.dv hE rfl rfl hx56) rfl ?_; clear hE a; intro a hE
 refine qP hE (Gives.p hE rfl) rfl ?_; clear hE a; intro a hE
 refine qP hE (Gives.p hE rfl) rfl ?_; clear hE a; intro a hE
 refine QL.nil ?_; clear hS w; intro w hS
 refine W.ret ?_
 refine finG (fn := Tryd.f35) (rs := [.tmp 4, .tmp 5]) (vs := [_, _]) hE rfl ⟨rfl, rfl, trivial⟩ ?_
 obtain rfl := Option.some.inj hr
 exact ⟨rfl, hS⟩
set_option maxHeartbeats 8000000 in
theorem Fishlaw2GuideChances_ok {fu : Nat}  {w : World} {s : Sg} {R : List HP} {x0 : ApiDay} {a0_0 : Option Addr} {c0_0 : Nat} {a0_1 : Option Addr} {c0_1 : Nat} {x1 : GuideJourney} {a1_0 : Option Addr} {c1_0 : Nat} {x2 : Int} {x3 : List GuideOdds} {a3 : Option Addr} {c3 : Nat} (hS : St w s (R)) (hTab : TabS Tryd.prog s) (h0_0 : Sl 4 RApiTrain s a0_0 c0_0 x0.Trains) (h0_1 : Sl 1 (RL 1 (RI .i64)) s a0_1 c0_1 x0.Turns) (h1_0 : Sl 3 RGuideRide s a1_0 c1_0 x1.Rides) (h3 : Sl 3 RGuideOdds s a3 c3 x3) {r : Bool} (hr : Fishlaw2GuideChances fu x0 x1 x2 x3 = some r) :
  Calls Tryd.prog 8 [.agg [.slice a0_0 x0.Trains.length c0_0, .slice a0_1 x0.Turns.length c0_1].toArray, .agg [.slice a1_0 x1.Rides.length c1_0].toArray, .int .i64 x2, .slice a3 x3.length c3].toArray w (fun e w => e = .returned (.bool r) ∧ St w s (R)) := by
 refine enter Tryd.func8 rfl rfl rfl fun a hE => ?_
 rw [Fishlaw2GuideChances] at hr
 refine W.seq (W.region ?_)
 refine WL.box hE hS (runs_plain rfl) rfl rfl rfl ?_; clear hE hS a w; intro b51 a w hE hS
 refine WL.box hE hS (runs_plain rfl) rfl rfl rfl ?_; clear hE hS a w; intro b52 a w hE hS
 refine vP hS hE (Gives.p hE rfl) rfl ?_; clear hE a; intro a hE
 refine WL.nil ?_
 refine W.seq (W.region ?_)
 refine vP hS hE (Gives.loadBA hE 1 rfl rfl ty25) rfl ?_; clear hE a; intro a hE
 refine vP hS hE (Gives.loadBA hE 0 rfl rfl ty28) rfl ?_; clear hE a; intro a hE
 refine vP hS hE (Gives.p hE rfl) rfl ?_; clear hE a; intro a hE
 refine vP hS hE (Gives.p hE rfl) rfl ?_; clear hE a; intro a hE
 obtain ⟨q53, hq54, hr⟩ := bindS hr
 have hc_ := GuideChance_ok hS (TabS.mono (Sg.Le.refl _) hTab) h0_0 h0_1 h1_0 h3 hq54
 refine WL.fnq hE (hc_) (runs_plain rfl) bd31 rfl rfl rfl ?_
 clear hE hS hc_; rintro e w ⟨rfl, hS⟩; refine ⟨_, rfl, ?_⟩; clear a; intro a hE
 refine vP hS hE (Gives.p hE rfl) rfl ?_; clear hE a; intro a hE
 refine vP hS hE (Gives.p hE rfl) rfl ?_; clear hE a; intro a hE
 refine vP hS hE (Gives.p hE rfl) rfl ?_; clear hE a; intro a hE
 refine vP hS hE (Gives.p hE rfl) rfl ?_; clear hE a; intro a hE
 refine vP hS hE (Gives.p hE rfl) rfl ?_; clear hE a; intro a hE
 refine vP hS hE (Gives.p hE rfl) rfl ?_; clear hE a; intro a hE
 refine vP hS hE (Gives.p hE rfl) rfl ?_; clear hE a; intro a hE
 refine WL.nil ?_
 refine W.seq (W.region ?_)
 refine vP hS hE (Gives.loadBA hE 1 rfl rfl ty25) rfl ?_; clear hE a; intro a hE
 refine vP hS hE (Gives.loadBA hE 0 rfl rfl ty28) rfl ?_; clear hE a; intro a hE
 refine vP hS hE (Gives.p hE rfl) rfl ?_; clear hE a; intro a hE
 refine vP hS hE (Gives.p hE rfl) rfl ?_; clear hE a; intro a hE
 obtain ⟨q55, hq56, hr⟩ := bindS hr
 have hc_ := GuideExpect_ok hS (TabS.mono (Sg.Le.refl _) hTab) h0_0 h0_1 h1_0 h3 hq56
 refine WL.fnq hE (hc_) (runs_plain rfl) bd32 rfl rfl rfl ?_
 clear hE hS hc_; rintro e w ⟨rfl, hS⟩; refine ⟨_, rfl, ?_⟩; clear a; intro a hE
 refine vP hS hE (Gives.p hE rfl) rfl ?_; clear hE a; intro a hE
 refine vP hS hE (Gives.p hE rfl) rfl ?_; clear hE a; intro a hE
 refine vP hS hE (Gives.p hE rfl) rfl ?_; clear hE a; intro a hE
 refine vP hS hE (Gives.p hE rfl) rfl ?_; clear hE a; intro a hE
 refine vP hS hE (Gives.p hE rfl) rfl ?_; clear hE a; intro a hE
 refine vP hS hE (Gives.p hE rfl) rfl ?_; clear hE a; intro a hE
 refine vP hS hE (Gives.p hE rfl) rfl ?_; clear hE a; intro a hE
 refine WL.nil ?_
 refine W.seq (W.region ?_)
 refine vP hS hE (Gives.loadBA hE 1 rfl rfl ty25) rfl ?_; clear hE a; intro a hE
 obtain ⟨q57, hq58, hr⟩ := bindS hr
 have hc_ := Fishref2GuideFault_ok hS h0_0 h0_1 hq58
 refine WL.fnq hE (hc_) (runs_plain rfl) bd12 rfl rfl rfl ?_
 clear hE hS hc_; rintro e w ⟨rfl, hS⟩; refine ⟨_, rfl, ?_⟩; clear a; intro a hE
 refine vP hS hE (Gives.p hE rfl) rfl ?_; clear hE a; intro a hE
 refine WL.nil ?_
 refine W.seq ?_
 refine W.seq (W.region ?_)
 refine vP hS hE (Gives.p hE rfl) rfl ?_; clear hE a; intro a hE
 refine vP hS hE (Gives.p hE rfl) rfl ?_; clear hE a; intro a hE
 refine WL.nil ?_
 obtain ⟨q60, hq59, hr⟩ := bindS hr
 refine W.cut (fun a w => ∃ (q63 : Int), q63 = q60 ∧ Rep a 142 [(2, .int .i64 x2), (3, .slice a3 x3.length c3), (4, .pointer (some ⟨b51, 0, none⟩)), (5, .pointer (some ⟨b52, 0, none⟩)), (9, .int .i64 q53.1), (10, .int .i64 q53.2.1), (11, .int .i64 q53.2.2), (12, .int .i64 q55.1), (13, .int .i64 q55.2.1), (14, .int .i64 q55.2.2), (15, .int .i64 q63)] ∧ St w s (pt b52 (.cells #[.slice a1_0 x1.Rides.length c1_0] 28 (0, 0)) :: pt b51 (.cells #[.slice a0_0 x0.Trains.length c0_0, .slice a0_1 x0.Turns.length c0_1] 25 (0, 0)) :: R)) ?_ ?_
 ·refine W.gen fun K64 hK64 => ?_
  refine W.cond hE rfl (fun hc65 => ?_) (fun hc65 => ?_)
  ·replace hq59 := iteT hc65 hq59
   refine W.region ?_
   refine vP hS hE (Gives.loadBA hE 1 rfl rfl ty25) rfl ?_; clear hE a; intro a hE
   refine vP hS hE (Gives.loadBA hE 0 rfl rfl ty28) rfl ?_; clear hE a; intro a hE
   refine vP hS hE (Gives.p hE rfl) rfl ?_; clear hE a; intro a hE
   obtain ⟨q66, hq67, hq59⟩ := bindS hq59
   have hc_ := Fishref2JourneyFault_ok hS h0_0 h0_1 h1_0 hq67
   refine WL.fnq hE (hc_) (runs_plain rfl) bd18 rfl rfl rfl ?_
   clear hE hS hc_; rintro e w ⟨rfl, hS⟩; refine ⟨_, rfl, ?_⟩; clear a; intro a hE
   refine vP hS hE (Gives.p hE rfl) rfl ?_; clear hE a; intro a hE
   refine WL.nil ?_
   subst hK64
   exact ⟨q66, Option.some.inj hq59, hE.pick _ ⟨rfl, rfl, rfl, rfl, rfl, rfl, rfl, rfl, rfl, rfl, rfl, trivial⟩, hS⟩
  ·replace hq59 := iteF hc65 hq59
   refine W.skip ?_
   subst hK64
   exact ⟨q57, Option.some.inj hq59, hE.pick _ ⟨rfl, rfl, rfl, rfl, rfl, rfl, rfl, rfl, rfl, rfl, rfl, trivial⟩, hS⟩
 ·clear hE hS a w; rintro a w ⟨q63, rfl, hE, hS⟩
  refine W.seq ?_
  refine W.seq (W.region ?_)
  refine vP hS hE (Gives.p hE rfl) rfl ?_; clear hE a; intro a hE
  refine vP hS hE (Gives.p hE rfl) rfl ?_; clear hE a; intro a hE
  refine WL.nil ?_
  obtain ⟨q69, hq68, hr⟩ := bindS hr
  refine W.cut (fun a w => ∃ (q72 : Int), q72 = q69 ∧ Rep a 142 [(2, .int .i64 x2), (3, .slice a3 x3.length c3), (4, .pointer (some ⟨b51, 0, none⟩)), (5, .pointer (some ⟨b52, 0, none⟩)), (9, .int .i64 q53.1), (10, .int .i64 q53.2.1), (11, .int .i64 q53.2.2), (12, .int .i64 q55.1), (13, .int .i64 q55.2.1), (14, .int .i64 q55.2.2), (15, .int .i64 q72)] ∧ St w s (pt b52 (.cells #[.slice a1_0 x1.Rides.length c1_0] 28 (0, 0)) :: pt b51 (.cells #[.slice a0_0 x0.Trains.length c0_0, .slice a0_1 x0.Turns.length c0_1] 25 (0, 0)) :: R)) ?_ ?_
  ·refine W.gen fun K73 hK73 => ?_
   refine W.cond hE rfl (fun hc74 => ?_) (fun hc74 => ?_)
   ·replace hq68 := iteT hc74 hq68
    refine W.region ?_
    refine vP hS hE (Gives.loadBA hE 1 rfl rfl ty25) rfl ?_; clear hE a; intro a hE
    refine vP hS hE (Gives.p hE rfl) rfl ?_; clear hE a; intro a hE
    obtain ⟨q75, hq76, hq68⟩ := bindS hq68
    have hc_ := Fishref2OddsFault_ok hS h0_0 h0_1 h3 hq76
    refine WL.fnq hE (hc_) (runs_plain rfl) bd33 rfl rfl rfl ?_
    clear hE hS hc_; rintro e w ⟨rfl, hS⟩; refine ⟨_, rfl, ?_⟩; clear a; intro a hE
    refine vP hS hE (Gives.p hE rfl) rfl ?_; clear hE a; intro a hE
    refine WL.nil ?_
    subst hK73
    exact ⟨q75, Option.some.inj hq68, hE.pick _ ⟨rfl, rfl, rfl, rfl, rfl, rfl, rfl, rfl, rfl, rfl, rfl, trivial⟩, hS⟩
   ·replace hq68 := iteF hc74 hq68
    refine W.skip ?_
    subst hK73
    exact ⟨q63, Option.some.inj hq68, hE.pick _ ⟨rfl, rfl, rfl, rfl, rfl, rfl, rfl, rfl, rfl, rfl, rfl, trivial⟩, hS⟩
  ·clear hE hS a w; rintro a w ⟨q72, rfl, hE, hS⟩
   refine W.seq ?_
   refine W.seq (W.region ?_)
   refine vP hS hE (Gives.p hE rfl) rfl ?_; clear hE a; intro a hE
   refine vP hS hE (Gives.p hE rfl) rfl ?_; clear hE a; intro a hE
   refine WL.nil ?_
   refine W.cond hE rfl (fun hc77 => ?_) (fun hc77 => ?_)
   ·replace hr := iteT hc77 hr
    refine W.seq ?_
    obtain ⟨q79, hq78, hr⟩ := bindS hr
    refine W.cut (fun a w => ∃ (q82 : Bool), q82 = q79 ∧ Rep a 142 [(8, .bool q82)] ∧ St w s (pt b52 (.cells #[.slice a1_0 x1.Rides.length c1_0] 28 (0, 0)) :: pt b51 (.cells #[.slice a0_0 x0.Trains.length c0_0, .slice a0_1 x0.Turns.length c0_1] 25 (0, 0)) :: R)) ?_ ?_
    ·refine W.gen fun K83 hK83 => ?_
     refine W.region ?_
     obtain ⟨q84, hq85, hq78⟩ := bindS hq78
     have hc_ := Fishlaw2guides_ok hS (TabS.mono (Sg.Le.refl _) hTab) hq85
     refine WL.fnq hE (hc_) (runs_plain rfl) bd13 rfl rfl rfl ?_
     clear hE hS hc_; rintro e w ⟨rfl, hS⟩; refine ⟨_, rfl, ?_⟩; clear a; intro a hE
     refine vP hS hE (Gives.p hE rfl) rfl ?_; clear hE a; intro a hE
     rcases Bool.eq_false_or_eq_true q84 with hg86 | hg86
     ·replace hq78 := iteT hg86 hq78
      refine WL.vS hS hE (runs_if hE rfl rfl rfl hg86) (Gives.p hE rfl) rfl ?_; clear hE a; intro a hE
      refine WL.vS hS hE (runs_if hE rfl rfl rfl hg86) (Gives.p hE rfl) rfl ?_; clear hE a; intro a hE
      refine WL.vS hS hE (runs_if hE rfl rfl rfl hg86) (Gives.p hE rfl) rfl ?_; clear hE a; intro a hE
      refine vP hS hE (Gives.pickT hE rfl hg86 rfl) rfl ?_; clear hE a; intro a hE
      refine vP hS hE (Gives.p hE rfl) rfl ?_; clear hE a; intro a hE
      rcases Bool.eq_false_or_eq_true (q53.2.2 == q72) with hg87 | hg87
      ·replace hq78 := iteT hg87 hq78
       refine WL.vS hS hE (runs_if hE rfl rfl rfl hg87) (Gives.p hE rfl) rfl ?_; clear hE a; intro a hE
       refine WL.vS hS hE (runs_if hE rfl rfl rfl hg87) (Gives.p hE rfl) rfl ?_; clear hE a; intro a hE
       refine WL.vS hS hE (runs_if hE rfl rfl rfl hg87) (Gives.p hE rfl) rfl ?_; clear hE a; intro a hE
       refine vP hS hE (Gives.pickT hE rfl hg87 rfl) rfl ?_; clear hE a; intro a hE
       refine vP hS hE (Gives.p hE rfl) rfl ?_; clear hE a; intro a hE
       rcases Bool.eq_false_or_eq_true (q55.2.2 == q72) with hg88 | hg88
       ·replace hq78 := iteT hg88 hq78
        refine WL.vS hS hE (runs_if hE rfl rfl rfl hg88) (Gives.p hE rfl) rfl ?_; clear hE a; intro a hE
        refine WL.vS hS hE (runs_if hE rfl rfl rfl hg88) (Gives.p hE rfl) rfl ?_; clear hE a; intro a hE
        refine vP hS hE (Gives.pickT hE rfl hg88 rfl) rfl ?_; clear hE a; intro a hE
        refine vP hS hE (Gives.p hE rfl) rfl ?_; clear hE a; intro a hE
        rcases Bool.eq_false_or_eq_true (q53.1 == 0) with hg89 | hg89
        ·replace hq78 := iteT hg89 hq78
         refine WL.vS hS hE (runs_if hE rfl rfl rfl hg89) (Gives.p hE rfl) rfl ?_; clear hE a; intro a hE
         refine WL.vS hS hE (runs_if hE rfl rfl rfl hg89) (Gives.p hE rfl) rfl ?_; clear hE a; intro a hE
         refine vP hS hE (Gives.pickT hE rfl hg89 rfl) rfl ?_; clear hE a; intro a hE
         refine vP hS hE (Gives.p hE rfl) rfl ?_; clear hE a; intro a hE
         rcases Bool.eq_false_or_eq_true (q53.2.1 == 0) with hg90 | hg90
         ·replace hq78 := iteT hg90 hq78
          refine WL.vS hS hE (runs_if hE rfl rfl rfl hg90) (Gives.p hE rfl) rfl ?_; clear hE a; intro a hE
          refine WL.vS hS hE (runs_if hE rfl rfl rfl hg90) (Gives.p hE rfl) rfl ?_; clear hE a; intro a hE
          refine vP hS hE (Gives.pickT hE rfl hg90 rfl) rfl ?_; clear hE a; intro a hE
          refine vP hS hE (Gives.p hE rfl) rfl ?_; clear hE a; intro a hE
          rcases Bool.eq_false_or_eq_true (q55.1 == 0) with hg91 | hg91
          ·replace hq78 := iteT hg91 hq78
           refine WL.vS hS hE (runs_if hE rfl rfl rfl hg91) (Gives.p hE rfl) rfl ?_; clear hE a; intro a hE
           refine WL.vS hS hE (runs_if hE rfl rfl rfl hg91) (Gives.p hE rfl) rfl ?_; clear hE a; intro a hE
           refine vP hS hE (Gives.pickT hE rfl hg91 rfl) rfl ?_; clear hE a; intro a hE
           refine vP hS hE (Gives.p hE rfl) rfl ?_; clear hE a; intro a hE
           refine WL.nil ?_
           subst hK83
           exact ⟨(q55.2.1 == 0), Option.some.inj hq78, hE.pick _ ⟨rfl, trivial⟩, hS⟩
          ·replace hq78 := iteF hg91 hq78
           refine WL.no hE (runs_not hE rfl rfl rfl (by rw [hg91]; decide)) rfl ?_; clear hE a; intro a hE
           refine WL.no hE (runs_not hE rfl rfl rfl (by rw [hg91]; decide)) rfl ?_; clear hE a; intro a hE
           refine vP hS hE (Gives.pickF hE rfl hg91 rfl) rfl ?_; clear hE a; intro a hE
           refine vP hS hE (Gives.p hE rfl) rfl ?_; clear hE a; intro a hE
           refine WL.nil ?_
           subst hK83
           exact ⟨false, Option.some.inj hq78, hE.pick _ ⟨rfl, trivial⟩, hS⟩
         ·replace hq78 := iteF hg90 hq78
          refine WL.no hE (runs_not hE rfl rfl rfl (by rw [hg90]; decide)) rfl ?_; clear hE a; intro a hE
          refine WL.no hE (runs_not hE rfl rfl rfl (by rw [hg90]; decide)) rfl ?_; clear hE a; intro a hE
          refine vP hS hE (Gives.pickF hE rfl hg90 rfl) rfl ?_; clear hE a; intro a hE
          refine vP hS hE (Gives.p hE rfl) rfl ?_; clear hE a; intro a hE
          refine WL.no hE (runs_not hE rfl rfl rfl (by decide)) rfl ?_; clear hE a; intro a hE
          refine WL.no hE (runs_not hE rfl rfl rfl (by decide)) rfl ?_; clear hE a; intro a hE
          refine vP hS hE (Gives.pickF hE rfl rfl rfl) rfl ?_; clear hE a; intro a hE
          refine vP hS hE (Gives.p hE rfl) rfl ?_; clear hE a; intro a hE
          refine WL.nil ?_
          subst hK83
          exact ⟨false, Option.some.inj hq78, hE.pick _ ⟨rfl, trivial⟩, hS⟩
        ·replace hq78 := iteF hg89 hq78
         refine WL.no hE (runs_not hE rfl rfl rfl (by rw [hg89]; decide)) rfl ?_; clear hE a; intro a hE
         refine WL.no hE (runs_not hE rfl rfl rfl (by rw [hg89]; decide)) rfl ?_; clear hE a; intro a hE
         refine vP hS hE (Gives.pickF hE rfl hg89 rfl) rfl ?_; clear hE a; intro a hE
         refine vP hS hE (Gives.p hE rfl) rfl ?_; clear hE a; intro a hE
         refine WL.no hE (runs_not hE rfl rfl rfl (by decide)) rfl ?_; clear hE a; intro a hE
         refine WL.no hE (runs_not hE rfl rfl rfl (by decide)) rfl ?_; clear hE a; intro a hE
         refine vP hS hE (Gives.pickF hE rfl rfl rfl) rfl ?_; clear hE a; intro a hE
         refine vP hS hE (Gives.p hE rfl) rfl ?_; clear hE a; intro a hE
         refine WL.no hE (runs_not hE rfl rfl rfl (by decide)) rfl ?_; clear hE a; intro a hE
         refine WL.no hE (runs_not hE rfl rfl rfl (by decide)) rfl ?_; clear hE a; intro a hE
         refine vP hS hE (Gives.pickF hE rfl rfl rfl) rfl ?_; clear hE a; intro a hE
         refine vP hS hE (Gives.p hE rfl) rfl ?_; clear hE a; intro a hE
         refine WL.nil ?_
         subst hK83
         exact ⟨false, Option.some.inj hq78, hE.pick _ ⟨rfl, trivial⟩, hS⟩
       ·replace hq78 := iteF hg88 hq78
        refine WL.no hE (runs_not hE rfl rfl rfl (by rw [hg88]; decide)) rfl ?_; clear hE a; intro a hE
        refine WL.no hE (runs_not hE rfl rfl rfl (by rw [hg88]; decide)) rfl ?_; clear hE a; intro a hE
        refine vP hS hE (Gives.pickF hE rfl hg88 rfl) rfl ?_; clear hE a; intro a hE
        refine vP hS hE (Gives.p hE rfl) rfl ?_; clear hE a; intro a hE
        refine WL.no hE (runs_not hE rfl rfl rfl (by decide)) rfl ?_; clear hE a; intro a hE
        refine WL.no hE (runs_not hE rfl rfl rfl (by decide)) rfl ?_; clear hE a; intro a hE
        refine vP hS hE (Gives.pickF hE rfl rfl rfl) rfl ?_; clear hE a; intro a hE
        refine vP hS hE (Gives.p hE rfl) rfl ?_; clear hE a; intro a hE
        refine WL.no hE (runs_not hE rfl rfl rfl (by decide)) rfl ?_; clear hE a; intro a hE
        refine WL.no hE (runs_not hE rfl rfl rfl (by decide)) rfl ?_; clear hE a; intro a hE
        refine vP hS hE (Gives.pickF hE rfl rfl rfl) rfl ?_; clear hE a; intro a hE
        refine vP hS hE (Gives.p hE rfl) rfl ?_; clear hE a; intro a hE
        refine WL.no hE (runs_not hE rfl rfl rfl (by decide)) rfl ?_; clear hE a; intro a hE
        refine WL.no hE (runs_not hE rfl rfl rfl (by decide)) rfl ?_; clear hE a; intro a hE
        refine vP hS hE (Gives.pickF hE rfl rfl rfl) rfl ?_; clear hE a; intro a hE
        refine vP hS hE (Gives.p hE rfl) rfl ?_; clear hE a; intro a hE
        refine WL.nil ?_
        subst hK83
        exact ⟨false, Option.some.inj hq78, hE.pick _ ⟨rfl, trivial⟩, hS⟩
      ·replace hq78 := iteF hg87 hq78
       refine WL.no hE (runs_not hE rfl rfl rfl (by rw [hg87]; decide)) rfl ?_; clear hE a; intro a hE
       refine WL.no hE (runs_not hE rfl rfl rfl (by rw [hg87]; decide)) rfl ?_; clear hE a; intro a hE
       refine WL.no hE (runs_not hE rfl rfl rfl (by rw [hg87]; decide)) rfl ?_; clear hE a; intro a hE
       refine vP hS hE (Gives.pickF hE rfl hg87 rfl) rfl ?_; clear hE a; intro a hE
       refine vP hS hE (Gives.p hE rfl) rfl ?_; clear hE a; intro a hE
       refine WL.no hE (runs_not hE rfl rfl rfl (by decide)) rfl ?_; clear hE a; intro a hE
       refine WL.no hE (runs_not hE rfl rfl rfl (by decide)) rfl ?_; clear hE a; intro a hE
       refine vP hS hE (Gives.pickF hE rfl rfl rfl) rfl ?_; clear hE a; intro a hE
       refine vP hS hE (Gives.p hE rfl) rfl ?_; clear hE a; intro a hE
       refine WL.no hE (runs_not hE rfl rfl rfl (by decide)) rfl ?_; clear hE a; intro a hE
       refine WL.no hE (runs_not hE rfl rfl rfl (by decide)) rfl ?_; clear hE a; intro a hE
       refine vP hS hE (Gives.pickF hE rfl rfl rfl) rfl ?_; clear hE a; intro a hE
       refine vP hS hE (Gives.p hE rfl) rfl ?_; clear hE a; intro a hE
       refine WL.no hE (runs_not hE rfl rfl rfl (by decide)) rfl ?_; clear hE a; intro a hE
       refine WL.no hE (runs_not hE rfl rfl rfl (by decide)) rfl ?_; clear hE a; intro a hE
       refine vP hS hE (Gives.pickF hE rfl rfl rfl) rfl ?_; clear hE a; intro a hE
       refine vP hS hE (Gives.p hE rfl) rfl ?_; clear hE a; intro a hE
       refine WL.no hE (runs_not hE rfl rfl rfl (by decide)) rfl ?_; clear hE a; intro a hE
       refine WL.no hE (runs_not hE rfl rfl rfl (by decide)) rfl ?_; clear hE a; intro a hE
       refine vP hS hE (Gives.pickF hE rfl rfl rfl) rfl ?_; clear hE a; intro a hE
       refine vP hS hE (Gives.p hE rfl) rfl ?_; clear hE a; intro a hE
       refine WL.nil ?_
       subst hK83
       exact ⟨false, Option.some.inj hq78, hE.pick _ ⟨rfl, trivial⟩, hS⟩
     ·replace hq78 := iteF hg86 hq78
      refine WL.no hE (runs_not hE rfl rfl rfl (by rw [hg86]; decide)) rfl ?_; clear hE a; intro a hE
      refine WL.no hE (runs_not hE rfl rfl rfl (by rw [hg86]; decide)) rfl ?_; clear hE a; intro a hE
      refine WL.no hE (runs_not hE rfl rfl rfl (by rw [hg86]; decide)) rfl ?_; clear hE a; intro a hE
      refine vP hS hE (Gives.pickF hE rfl hg86 rfl) rfl ?_; clear hE a; intro a hE
      refine vP hS hE (Gives.p hE rfl) rfl ?_; clear hE a; intro a hE
      refine WL.no hE (runs_not hE rfl rfl rfl (by decide)) rfl ?_; clear hE a; intro a hE
      refine WL.no hE (runs_not hE rfl rfl rfl (by decide)) rfl ?_; clear hE a; intro a hE
      refine WL.no hE (runs_not hE rfl rfl rfl (by decide)) rfl ?_; clear hE a; intro a hE
      refine vP hS hE (Gives.pickF hE rfl rfl rfl) rfl ?_; clear hE a; intro a hE
      refine vP hS hE (Gives.p hE rfl) rfl ?_; clear hE a; intro a hE
      refine WL.no hE (runs_not hE rfl rfl rfl (by decide)) rfl ?_; clear hE a; intro a hE
      refine WL.no hE (runs_not hE rfl rfl rfl (by decide)) rfl ?_; clear hE a; intro a hE
      refine vP hS hE (Gives.pickF hE rfl rfl rfl) rfl ?_; clear hE a; intro a hE
      refine vP hS hE (Gives.p hE rfl) rfl ?_; clear hE a; intro a hE
      refine WL.no hE (runs_not hE rfl rfl rfl (by decide)) rfl ?_; clear hE a; intro a hE
      refine WL.no hE (runs_not hE rfl rfl rfl (by decide)) rfl ?_; clear hE a; intro a hE
      refine vP hS hE (Gives.pickF hE rfl rfl rfl) rfl ?_; clear hE a; intro a hE
      refine vP hS hE (Gives.p hE rfl) rfl ?_; clear hE a; intro a hE
      refine WL.no hE (runs_not hE rfl rfl rfl (by decide)) rfl ?_; clear hE a; intro a hE
      refine WL.no hE (runs_not hE rfl rfl rfl (by decide)) rfl ?_; clear hE a; intro a hE
      refine vP hS hE (Gives.pickF hE rfl rfl rfl) rfl ?_; clear hE a; intro a hE
      refine vP hS hE (Gives.p hE rfl) rfl ?_; clear hE a; intro a hE
      refine WL.no hE (runs_not hE rfl rfl rfl (by decide)) rfl ?_; clear hE a; intro a hE
      refine WL.no hE (runs_not hE rfl rfl rfl (by decide)) rfl ?_; clear hE a; intro a hE
      refine vP hS hE (Gives.pickF hE rfl rfl rfl) rfl ?_; clear hE a; intro a hE
      refine vP hS hE (Gives.p hE rfl) rfl ?_; clear hE a; intro a hE
      refine WL.nil ?_
      subst hK83
      exact ⟨false, Option.some.inj hq78, hE.pick _ ⟨rfl, trivial⟩, hS⟩
    ·clear hE hS a w; rintro a w ⟨q82, rfl, hE, hS⟩
     refine W.ret ?_
     refine finG (fn := Tryd.f8) (rs := [.tmp 8]) (vs := [_]) hE rfl ⟨rfl, trivial⟩ ?_
     obtain rfl := Option.some.inj hr
     replace hS := hS.tail
     replace hS := hS.tail
     exact ⟨rfl, hS⟩
   ·replace hr := iteF hc77 hr
    refine W.skip ?_
    refine W.seq (W.region ?_)
    refine vP hS hE (Gives.loadBA hE 1 rfl rfl ty25) rfl ?_; clear hE a; intro a hE
    refine vP hS hE (Gives.loadBA hE 0 rfl rfl ty28) rfl ?_; clear hE a; intro a hE
    refine vP hS hE (Gives.p hE rfl) rfl ?_; clear hE a; intro a hE
    refine vP hS hE (Gives.p hE rfl) rfl ?_; clear hE a; intro a hE
    obtain ⟨q92, hq93, hr⟩ := bindS hr
    have hc_ := Fishref2Cases_ok hS h0_0 h0_1 h1_0 h3 hq93
    refine WL.fnq hE (hc_) (runs_plain rfl) bd34 rfl rfl rfl ?_
    clear hE hS hc_; rintro e w ⟨rfl, hS⟩; refine ⟨_, rfl, ?_⟩; clear a; intro a hE
    refine vP hS hE (Gives.p hE rfl) rfl ?_; clear hE a; intro a hE
    refine vP hS hE (Gives.p hE rfl) rfl ?_; clear hE a; intro a hE
    refine vP hS hE (Gives.p hE rfl) rfl ?_; clear hE a; intro a hE
    refine vP hS hE (Gives.p hE rfl) rfl ?_; clear hE a; intro a hE
    refine vP hS hE (Gives.p hE rfl) rfl ?_; clear hE a; intro a hE
    refine vP hS hE (Gives.p hE rfl) rfl ?_; clear hE a; intro a hE
    refine vP hS hE (Gives.p hE rfl) rfl ?_; clear hE a; intro a hE
    refine WL.nil ?_
    refine W.seq (W.region ?_)
    refine vP hS hE (Gives.p hE rfl) rfl ?_; clear hE a; intro a hE
    refine vP hS hE (Gives.p hE rfl) rfl ?_; clear hE a; intro a hE
    obtain ⟨q94, hq95, hr⟩ := bindS hr
    have hc_ := Fishref2Lowest_ok hS  hq95
    refine WL.fnq hE (hc_) (runs_plain rfl) bd35 rfl rfl rfl ?_
    clear hE hS hc_; rintro e w ⟨rfl, hS⟩; refine ⟨_, rfl, ?_⟩; clear a; intro a hE
    refine vP hS hE (Gives.p hE rfl) rfl ?_; clear hE a; intro a hE
    refine vP hS hE (Gives.p hE rfl) rfl ?_; clear hE a; intro a hE
    refine vP hS hE (Gives.p hE rfl) rfl ?_; clear hE a; intro a hE
    refine vP hS hE (Gives.p hE rfl) rfl ?_; clear hE a; intro a hE
    refine vP hS hE (Gives.p hE rfl) rfl ?_; clear hE a; intro a hE
    refine WL.nil ?_
    refine W.seq ?_
    refine W.seq ?_
    obtain ⟨q97, hq96, hr⟩ := bindS hr
    refine W.cut (fun a w => ∃ (q100 : Bool), q100 = q97 ∧ Rep a 142 [(12, .int .i64 q55.1), (13, .int .i64 q55.2.1), (14, .int .i64 q55.2.2), (17, .int .i64 q92.2.1), (18, .int .i64 q92.2.2), (111, .bool q100)] ∧ St w s (pt b52 (.cells #[.slice a1_0 x1.Rides.length c1_0] 28 (0, 0)) :: pt b51 (.cells #[.slice a0_0 x0.Trains.length c0_0, .slice a0_1 x0.Turns.length c0_1] 25 (0, 0)) :: R)) ?_ ?_
    ·refine W.gen fun K101 hK101 => ?_
     refine W.region ?_
     obtain ⟨q102, hq103, hq96⟩ := bindS hq96
     have hc_ := Fishlaw2guides_ok hS (TabS.mono (Sg.Le.refl _) hTab) hq103
     refine WL.fnq hE (hc_) (runs_plain rfl) bd13 rfl rfl rfl ?_
     clear hE hS hc_; rintro e w ⟨rfl, hS⟩; refine ⟨_, rfl, ?_⟩; clear a; intro a hE
     refine vP hS hE (Gives.p hE rfl) rfl ?_; clear hE a; intro a hE
     refine vP hS hE (Gives.p hE rfl) rfl ?_; clear hE a; intro a hE
     rcases Bool.eq_false_or_eq_true !q102 with hg104 | hg104
     ·replace hq96 := iteT hg104 hq96
      refine WL.no hE (runs_not hE rfl rfl rfl (by rw [hg104]; decide)) rfl ?_; clear hE a; intro a hE
      refine WL.no hE (runs_not hE rfl rfl rfl (by rw [hg104]; decide)) rfl ?_; clear hE a; intro a hE
      refine vP hS hE (Gives.pickT hE rfl hg104 rfl) rfl ?_; clear hE a; intro a hE
      refine vP hS hE (Gives.p hE rfl) rfl ?_; clear hE a; intro a hE
      refine WL.no hE (runs_not hE rfl rfl rfl (by decide)) rfl ?_; clear hE a; intro a hE
      refine WL.no hE (runs_not hE rfl rfl rfl (by decide)) rfl ?_; clear hE a; intro a hE
      refine WL.no hE (runs_not hE rfl rfl rfl (by decide)) rfl ?_; clear hE a; intro a hE
      refine vP hS hE (Gives.pickT hE rfl rfl rfl) rfl ?_; clear hE a; intro a hE
      refine vP hS hE (Gives.p hE rfl) rfl ?_; clear hE a; intro a hE
      refine WL.no hE (runs_not hE rfl rfl rfl (by decide)) rfl ?_; clear hE a; intro a hE
      refine WL.no hE (runs_not hE rfl rfl rfl (by decide)) rfl ?_; clear hE a; intro a hE
      refine WL.no hE (runs_not hE rfl rfl rfl (by decide)) rfl ?_; clear hE a; intro a hE
      refine vP hS hE (Gives.pickT hE rfl rfl rfl) rfl ?_; clear hE a; intro a hE
      refine WL.nil ?_
      subst hK101
      exact ⟨true, Option.some.inj hq96, hE.pick _ ⟨rfl, rfl, rfl, rfl, rfl, rfl, trivial⟩, hS⟩
     ·replace hq96 := iteF hg104 hq96
      refine WL.vS hS hE (runs_if hE rfl rfl rfl hg104) (Gives.p hE rfl) rfl ?_; clear hE a; intro a hE
      refine WL.vS hS hE (runs_if hE rfl rfl rfl hg104) (Gives.p hE rfl) rfl ?_; clear hE a; intro a hE
      refine vP hS hE (Gives.pickF hE rfl hg104 rfl) rfl ?_; clear hE a; intro a hE
      refine vP hS hE (Gives.p hE rfl) rfl ?_; clear hE a; intro a hE
      rcases Bool.eq_false_or_eq_true (q53.2.2 != 0) with hg105 | hg105
      ·replace hq96 := iteT hg105 hq96
       refine WL.no hE (runs_not hE rfl rfl rfl (by rw [hg105]; decide)) rfl ?_; clear hE a; intro a hE
       refine WL.no hE (runs_not hE rfl rfl rfl (by rw [hg105]; decide)) rfl ?_; clear hE a; intro a hE
       refine WL.no hE (runs_not hE rfl rfl rfl (by rw [hg105]; decide)) rfl ?_; clear hE a; intro a hE
       refine vP hS hE (Gives.pickT hE rfl hg105 rfl) rfl ?_; clear hE a; intro a hE
       refine vP hS hE (Gives.p hE rfl) rfl ?_; clear hE a; intro a hE
       refine WL.no hE (runs_not hE rfl rfl rfl (by decide)) rfl ?_; clear hE a; intro a hE
       refine WL.no hE (runs_not hE rfl rfl rfl (by decide)) rfl ?_; clear hE a; intro a hE
       refine WL.no hE (runs_not hE rfl rfl rfl (by decide)) rfl ?_; clear hE a; intro a hE
       refine vP hS hE (Gives.pickT hE rfl rfl rfl) rfl ?_; clear hE a; intro a hE
       refine WL.nil ?_
       subst hK101
       exact ⟨true, Option.some.inj hq96, hE.pick _ ⟨rfl, rfl, rfl, rfl, rfl, rfl, trivial⟩, hS⟩
      ·replace hq96 := iteF hg105 hq96
       refine WL.vS hS hE (runs_if hE rfl rfl rfl hg105) (Gives.p hE rfl) rfl ?_; clear hE a; intro a hE
       refine WL.vS hS hE (runs_if hE rfl rfl rfl hg105) (Gives.p hE rfl) rfl ?_; clear hE a; intro a hE
       refine WL.vS hS hE (runs_if hE rfl rfl rfl hg105) (Gives.p hE rfl) rfl ?_; clear hE a; intro a hE
       refine vP hS hE (Gives.pickF hE rfl hg105 rfl) rfl ?_; clear hE a; intro a hE
       refine vP hS hE (Gives.p hE rfl) rfl ?_; clear hE a; intro a hE
       rcases Bool.eq_false_or_eq_true (q53.1 != q94.1) with hg106 | hg106
       ·replace hq96 := iteT hg106 hq96
        refine WL.no hE (runs_not hE rfl rfl rfl (by rw [hg106]; decide)) rfl ?_; clear hE a; intro a hE
        refine WL.no hE (runs_not hE rfl rfl rfl (by rw [hg106]; decide)) rfl ?_; clear hE a; intro a hE
        refine WL.no hE (runs_not hE rfl rfl rfl (by rw [hg106]; decide)) rfl ?_; clear hE a; intro a hE
        refine vP hS hE (Gives.pickT hE rfl hg106 rfl) rfl ?_; clear hE a; intro a hE
        refine WL.nil ?_
        subst hK101
        exact ⟨true, Option.some.inj hq96, hE.pick _ ⟨rfl, rfl, rfl, rfl, rfl, rfl, trivial⟩, hS⟩
       ·replace hq96 := iteF hg106 hq96
        refine WL.vS hS hE (runs_if hE rfl rfl rfl hg106) (Gives.p hE rfl) rfl ?_; clear hE a; intro a hE
        refine WL.vS hS hE (runs_if hE rfl rfl rfl hg106) (Gives.p hE rfl) rfl ?_; clear hE a; intro a hE
        refine WL.vS hS hE (runs_if hE rfl rfl rfl hg106) (Gives.p hE rfl) rfl ?_; clear hE a; intro a hE
        refine vP hS hE (Gives.pickF hE rfl hg106 rfl) rfl ?_; clear hE a; intro a hE
        refine WL.nil ?_
        subst hK101
        exact ⟨(q53.2.1 != q94.2), Option.some.inj hq96, hE.pick _ ⟨rfl, rfl, rfl, rfl, rfl, rfl, trivial⟩, hS⟩
    ·clear hE hS a w; rintro a w ⟨q100, rfl, hE, hS⟩
     refine W.cond hE rfl (fun hc107 => ?_) (fun hc107 => ?_)
     ·replace hr := iteT hc107 hr
      refine W.seq (W.region ?_)
      refine vP hS hE (Gives.p hE rfl) rfl ?_; clear hE a; intro a hE
      refine WL.nil ?_
      refine W.ret ?_
      refine finG (fn := Tryd.f8) (rs := [.tmp 8]) (vs := [_]) hE rfl ⟨rfl, trivial⟩ ?_
      obtain rfl := Option.some.inj hr
      replace hS := hS.tail
      replace hS := hS.tail
      exact ⟨rfl, hS⟩
     ·replace hr := iteF hc107 hr
      refine W.skip ?_
      refine W.seq ?_
      refine W.seq (W.region ?_)
      refine vP hS hE (Gives.p hE rfl) rfl ?_; clear hE a; intro a hE
      refine vP hS hE (Gives.p hE rfl) rfl ?_; clear hE a; intro a hE
      refine WL.nil ?_
      refine W.cond hE rfl (fun hc108 => ?_) (fun hc108 => ?_)
      ·replace hr := iteT hc108 hr
       refine W.seq ?_
       obtain ⟨q110, hq109, hr⟩ := bndS hr
       refine W.cut (fun a w => ∃ (q113 : Bool), q113 = q110 ∧ Rep a 142 [(8, .bool q113)] ∧ St w s (pt b52 (.cells #[.slice a1_0 x1.Rides.length c1_0] 28 (0, 0)) :: pt b51 (.cells #[.slice a0_0 x0.Trains.length c0_0, .slice a0_1 x0.Turns.length c0_1] 25 (0, 0)) :: R)) ?_ ?_
       ·refine W.gen fun K114 hK114 => ?_
        refine W.region ?_
        refine vP hS hE (Gives.p hE rfl) rfl ?_; clear hE a; intro a hE
        refine vP hS hE (Gives.p hE rfl) rfl ?_; clear hE a; intro a hE
        refine vP hS hE (Gives.p hE rfl) rfl ?_; clear hE a; intro a hE
        rcases Bool.eq_false_or_eq_true (q55.2.2 == 9) with hg115 | hg115
        ·replace hq109 := iteT hg115 hq109
         refine WL.vS hS hE (runs_if hE rfl rfl rfl hg115) (Gives.p hE rfl) rfl ?_; clear hE a; intro a hE
         refine WL.vS hS hE (runs_if hE rfl rfl rfl hg115) (Gives.p hE rfl) rfl ?_; clear hE a; intro a hE
         refine vP hS hE (Gives.pickT hE rfl hg115 rfl) rfl ?_; clear hE a; intro a hE
         refine vP hS hE (Gives.p hE rfl) rfl ?_; clear hE a; intro a hE
         rcases Bool.eq_false_or_eq_true (q55.1 == 0) with hg116 | hg116
         ·replace hq109 := iteT hg116 hq109
          refine WL.vS hS hE (runs_if hE rfl rfl rfl hg116) (Gives.p hE rfl) rfl ?_; clear hE a; intro a hE
          refine WL.vS hS hE (runs_if hE rfl rfl rfl hg116) (Gives.p hE rfl) rfl ?_; clear hE a; intro a hE
          refine vP hS hE (Gives.pickT hE rfl hg116 rfl) rfl ?_; clear hE a; intro a hE
          refine vP hS hE (Gives.p hE rfl) rfl ?_; clear hE a; intro a hE
          refine WL.nil ?_
          subst hK114
          exact ⟨(q55.2.1 == 0), hq109, hE.pick _ ⟨rfl, trivial⟩, hS⟩
         ·replace hq109 := iteF hg116 hq109
          refine WL.no hE (runs_not hE rfl rfl rfl (by rw [hg116]; decide)) rfl ?_; clear hE a; intro a hE
          refine WL.no hE (runs_not hE rfl rfl rfl (by rw [hg116]; decide)) rfl ?_; clear hE a; intro a hE
          refine vP hS hE (Gives.pickF hE rfl hg116 rfl) rfl ?_; clear hE a; intro a hE
          refine vP hS hE (Gives.p hE rfl) rfl ?_; clear hE a; intro a hE
          refine WL.nil ?_
          subst hK114
          exact ⟨false, hq109, hE.pick _ ⟨rfl, trivial⟩, hS⟩
        ·replace hq109 := iteF hg115 hq109
         refine WL.no hE (runs_not hE rfl rfl rfl (by rw [hg115]; decide)) rfl ?_; clear hE a; intro a hE
         refine WL.no hE (runs_not hE rfl rfl rfl (by rw [hg115]; decide)) rfl ?_; clear hE a; intro a hE
         refine vP hS hE (Gives.pickF hE rfl hg115 rfl) rfl ?_; clear hE a; intro a hE
         refine vP hS hE (Gives.p hE rfl) rfl ?_; clear hE a; intro a hE
         refine WL.no hE (runs_not hE rfl rfl rfl (by decide)) rfl ?_; clear hE a; intro a hE
         refine WL.no hE (runs_not hE rfl rfl rfl (by decide)) rfl ?_; clear hE a; intro a hE
         refine vP hS hE (Gives.pickF hE rfl rfl rfl) rfl ?_; clear hE a; intro a hE
         refine vP hS hE (Gives.p hE rfl) rfl ?_; clear hE a; intro a hE
         refine WL.nil ?_
         subst hK114
         exact ⟨false, hq109, hE.pick _ ⟨rfl, trivial⟩, hS⟩
       ·clear hE hS a w; rintro a w ⟨q113, rfl, hE, hS⟩
        refine W.ret ?_
        refine finG (fn := Tryd.f8) (rs := [.tmp 8]) (vs := [_]) hE rfl ⟨rfl, trivial⟩ ?_
        obtain rfl := Option.some.inj hr
        replace hS := hS.tail
        replace hS := hS.tail
        exact ⟨rfl, hS⟩
      ·replace hr := iteF hc108 hr
       refine W.skip ?_
       refine W.seq (W.region ?_)
       refine vP hS hE (Gives.p hE rfl) rfl ?_; clear hE a; intro a hE
       refine vP hS hE (Gives.p hE rfl) rfl ?_; clear hE a; intro a hE
       obtain ⟨q117, hq118, hr⟩ := bindS hr
       have hc_ := Fishref2Lowest_ok hS  hq118
       refine WL.fnq hE (hc_) (runs_plain rfl) bd35 rfl rfl rfl ?_
       clear hE hS hc_; rintro e w ⟨rfl, hS⟩; refine ⟨_, rfl, ?_⟩; clear a; intro a hE
       refine vP hS hE (Gives.p hE rfl) rfl ?_; clear hE a; intro a hE
       refine vP hS hE (Gives.p hE rfl) rfl ?_; clear hE a; intro a hE
       refine vP hS hE (Gives.p hE rfl) rfl ?_; clear hE a; intro a hE
       refine vP hS hE (Gives.p hE rfl) rfl ?_; clear hE a; intro a hE
       refine vP hS hE (Gives.p hE rfl) rfl ?_; clear hE a; intro a hE
       refine WL.nil ?_
       refine W.seq ?_
       obtain ⟨q120, hq119, hr⟩ := bndS hr
       refine W.cut (fun a w => ∃ (q123 : Bool), q123 = q120 ∧ Rep a 142 [(8, .bool q123)] ∧ St w s (pt b52 (.cells #[.slice a1_0 x1.Rides.length c1_0] 28 (0, 0)) :: pt b51 (.cells #[.slice a0_0 x0.Trains.length c0_0, .slice a0_1 x0.Turns.length c0_1] 25 (0, 0)) :: R)) ?_ ?_
       ·refine W.gen fun K124 hK124 => ?_
        refine W.region ?_
        refine vP hS hE (Gives.p hE rfl) rfl ?_; clear hE a; intro a hE
        refine vP hS hE (Gives.p hE rfl) rfl ?_; clear hE a; intro a hE
        refine vP hS hE (Gives.p hE rfl) rfl ?_; clear hE a; intro a hE
        rcases Bool.eq_false_or_eq_true (q55.2.2 == 0) with hg125 | hg125
        ·replace hq119 := iteT hg125 hq119
         refine WL.vS hS hE (runs_if hE rfl rfl rfl hg125) (Gives.p hE rfl) rfl ?_; clear hE a; intro a hE
         refine WL.vS hS hE (runs_if hE rfl rfl rfl hg125) (Gives.p hE rfl) rfl ?_; clear hE a; intro a hE
         refine WL.vS hS hE (runs_if hE rfl rfl rfl hg125) (Gives.p hE rfl) rfl ?_; clear hE a; intro a hE
         refine vP hS hE (Gives.pickT hE rfl hg125 rfl) rfl ?_; clear hE a; intro a hE
         refine vP hS hE (Gives.p hE rfl) rfl ?_; clear hE a; intro a hE
         rcases Bool.eq_false_or_eq_true (q55.1 == q117.1) with hg126 | hg126
         ·replace hq119 := iteT hg126 hq119
          refine WL.vS hS hE (runs_if hE rfl rfl rfl hg126) (Gives.p hE rfl) rfl ?_; clear hE a; intro a hE
          refine WL.vS hS hE (runs_if hE rfl rfl rfl hg126) (Gives.p hE rfl) rfl ?_; clear hE a; intro a hE
          refine WL.vS hS hE (runs_if hE rfl rfl rfl hg126) (Gives.p hE rfl) rfl ?_; clear hE a; intro a hE
          refine vP hS hE (Gives.pickT hE rfl hg126 rfl) rfl ?_; clear hE a; intro a hE
          refine vP hS hE (Gives.p hE rfl) rfl ?_; clear hE a; intro a hE
          refine WL.nil ?_
          subst hK124
          exact ⟨(q55.2.1 == q117.2), hq119, hE.pick _ ⟨rfl, trivial⟩, hS⟩
         ·replace hq119 := iteF hg126 hq119
          refine WL.no hE (runs_not hE rfl rfl rfl (by rw [hg126]; decide)) rfl ?_; clear hE a; intro a hE
          refine WL.no hE (runs_not hE rfl rfl rfl (by rw [hg126]; decide)) rfl ?_; clear hE a; intro a hE
          refine WL.no hE (runs_not hE rfl rfl rfl (by rw [hg126]; decide)) rfl ?_; clear hE a; intro a hE
          refine vP hS hE (Gives.pickF hE rfl hg126 rfl) rfl ?_; clear hE a; intro a hE
          refine vP hS hE (Gives.p hE rfl) rfl ?_; clear hE a; intro a hE
          refine WL.nil ?_
          subst hK124
          exact ⟨false, hq119, hE.pick _ ⟨rfl, trivial⟩, hS⟩
        ·replace hq119 := iteF hg125 hq119
         refine WL.no hE (runs_not hE rfl rfl rfl (by rw [hg125]; decide)) rfl ?_; clear hE a; intro a hE
         refine WL.no hE (runs_not hE rfl rfl rfl (by rw [hg125]; decide)) rfl ?_; clear hE a; intro a hE
         refine WL.no hE (runs_not hE rfl rfl rfl (by rw [hg125]; decide)) rfl ?_; clear hE a; intro a hE
         refine vP hS hE (Gives.pickF hE rfl hg125 rfl) rfl ?_; clear hE a; intro a hE
         refine vP hS hE (Gives.p hE rfl) rfl ?_; clear hE a; intro a hE
         refine WL.no hE (runs_not hE rfl rfl rfl (by decide)) rfl ?_; clear hE a; intro a hE
         refine WL.no hE (runs_not hE rfl rfl rfl (by decide)) rfl ?_; clear hE a; intro a hE
         refine WL.no hE (runs_not hE rfl rfl rfl (by decide)) rfl ?_; clear hE a; intro a hE
         refine vP hS hE (Gives.pickF hE rfl rfl rfl) rfl ?_; clear hE a; intro a hE
         refine vP hS hE (Gives.p hE rfl) rfl ?_; clear hE a; intro a hE
         refine WL.nil ?_
         subst hK124
         exact ⟨false, hq119, hE.pick _ ⟨rfl, trivial⟩, hS⟩
       ·clear hE hS a w; rintro a w ⟨q123, rfl, hE, hS⟩
        refine W.ret ?_
        refine finG (fn := Tryd.f8) (rs := [.tmp 8]) (vs := [_]) hE rfl ⟨rfl, trivial⟩ ?_
        obtain rfl := Option.some.inj hr
        replace hS := hS.tail
        replace hS := hS.tail
        exact ⟨rfl, hS⟩
end Go.Proofs.YtpcebngchmgckaaDoor
