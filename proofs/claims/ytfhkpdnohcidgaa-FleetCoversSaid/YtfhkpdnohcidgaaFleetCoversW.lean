/- The walks of the functions that FleetCovers reaches: each call comes to what its mirror says. The conditions are those of each contract. -/
import Derived.Test.YtfhkpdnohcidgaaProg
import Derived.Test.YtfhkpdnohcidgaaFleetCoversM
import Derived.Test.YtfhkpdnohcidgaaFpMore
import Derived.Test.YtfhkpdnohcidgaaFleetCoversW2
namespace Go.Proofs.Ytfhkpdnohcidgaa
open Go Go.Fp
set_option maxHeartbeats 8000000 in
theorem SlicessymMergeCmpFuncint_v1_ok : ∀ {fu : Nat} {w : World} {s : Sg} {R : List HP} {pb0 : Nat} {x0 : List Int} {a_v0 : Option Addr} {c_v0 n_v0 : Nat} {cs_v0 : List Value} {x1 : Int} {x2 : Int} {x3 : Int} {y0 : List FleetTask} {a_y0_0 : Option Addr} {c_y0_0 : Nat} (_hS : St w s (pt pb0 (.cells #[.slice a_y0_0 y0.length c_y0_0] 32 (0, 0)) :: vecC 3 1 a_v0 c_v0 n_v0 cs_v0 :: R)) (_h_v0 : Ev 1 (RI .i64) s cs_v0 x0) (_hn_v0 : x0.length = n_v0) (_h_y0_0 : Sl 6 RFleetTask s a_y0_0 c_y0_0 y0) {r : (List Int)} (_hr : SlicessymMergeCmpFuncint_v1 fu x0 x1 x2 x3 y0 = some r),
    Calls Try.prog 160 [.slice a_v0 n_v0 c_v0, .int .i64 x1, .int .i64 x2, .int .i64 x3, .func (.func 104) #[] #[.pointer (some ⟨pb0, 0, none⟩)]].toArray w (fun e w => ∃ (cs55 : List Value), e = .returned (.tuple #[]) ∧ Ev 1 (RI .i64) s cs55 r ∧ r.length = n_v0 ∧ St w s (pt pb0 (.cells #[.slice a_y0_0 y0.length c_y0_0] 32 (0, 0)) :: vecC 3 1 a_v0 c_v0 n_v0 cs55 :: R)) := by
  intro fu
  induction fu with
  | zero => intro w s R pb0 x0 a_v0 c_v0 n_v0 cs_v0 x1 x2 x3 y0 a_y0_0 c_y0_0 hS h_v0 hn_v0 h_y0_0 r hr; rw [SlicessymMergeCmpFuncint_v1] at hr; exact absurd hr (by simp)
  | succ fu ih_SlicessymMergeCmpFuncint_v1 =>
    intro w s R pb0 x0 a_v0 c_v0 n_v0 cs_v0 x1 x2 x3 y0 a_y0_0 c_y0_0 hS h_v0 hn_v0 h_y0_0 r hr
    rw [SlicessymMergeCmpFuncint_v1] at hr
    generalize SlicessymMergeCmpFuncint_v1 fu = self_SlicessymMergeCmpFuncint_v1 at hr ih_SlicessymMergeCmpFuncint_v1
    refine enter Try.func160 rfl rfl rfl fun a hE => ?_
    subst hn_v0
    refine W.seq ?_
    refine W.seq ?_
    refine W.region ?_
    refine WL.vS hS hE (runs_plain rfl) (Gives.p hE rfl) rfl ?_; clear hE a; intro a hE
    refine WL.vS hS hE (runs_plain rfl) (Gives.p hE rfl) rfl ?_; clear hE a; intro a hE
    refine WL.vS hS hE (runs_plain rfl) (Gives.p hE rfl) rfl ?_; clear hE a; intro a hE
    refine WL.vS hS hE (runs_plain rfl) (Gives.p hE rfl) rfl ?_; clear hE a; intro a hE
    refine WL.nil ?_
    refine W.cond hE rfl (fun hc57 => ?_) (fun hc57 => ?_)
    · replace hr := iteT hc57 hr
      refine W.seq ?_
      refine W.region ?_
      refine WL.vS hS hE (runs_plain rfl) (Gives.p hE rfl) rfl ?_; clear hE a; intro a hE
      refine WL.vS hS hE (runs_plain rfl) (Gives.p hE rfl) rfl ?_; clear hE a; intro a hE
      refine WL.nil ?_
      refine W.seq ?_
      refine W.region ?_
      refine WL.vS hS hE (runs_plain rfl) (Gives.p hE rfl) rfl ?_; clear hE a; intro a hE
      refine WL.vS hS hE (runs_plain rfl) (Gives.p hE rfl) rfl ?_; clear hE a; intro a hE
      refine WL.nil ?_
      refine W.seq ?_
      obtain ⟨q59, hq58, hr⟩ := bindS hr
      refine W.cut (fun a w => ∃ (q64 : Int), ∃ (q65 : Int), (q64, q65) = q59 ∧ Rep a 220 [(0, .slice a_v0 x0.length c_v0), (1, .int .i64 x1), (10, .int .i64 q64)] ∧ St w s (pt pb0 (.cells #[.slice a_y0_0 y0.length c_y0_0] 32 (0, 0)) :: vecC 3 1 a_v0 c_v0 x0.length cs_v0 :: R)) ?_ ?_
      · refine W.block ?_
        refine W.loop (fun m a w => ∃ (n60 : Nat), ∃ (q64 : Int), ∃ (q65 : Int), n60 = m ∧ SlicessymMergeCmpFuncint_v1.loop1 x0 x1 y0 n60 q64 q65 = some q59 ∧ Rep a 220 [(0, .slice a_v0 x0.length c_v0), (1, .int .i64 x1), (4, .func (.func 104) #[] #[.pointer (some ⟨pb0, 0, none⟩)]), (10, .int .i64 q64), (11, .int .i64 q65)] ∧ St w s (pt pb0 (.cells #[.slice a_y0_0 y0.length c_y0_0] 32 (0, 0)) :: vecC 3 1 a_v0 c_v0 x0.length cs_v0 :: R)) (m := fu) ⟨fu, x2, x3, rfl, hq58, hE.pick _ ⟨rfl, rfl, rfl, rfl, rfl, trivial⟩, hS⟩ ?_
        clear hE hS a w hq58; rintro m61 a w ⟨n60, q64, q65, rfl, hq58, hE, hS⟩
        refine W.gen fun K66 hK66 => ?_
        rcases n60 with _ | n60
        · rw [SlicessymMergeCmpFuncint_v1.loop1] at hq58; exact absurd hq58 (by simp)
        rw [SlicessymMergeCmpFuncint_v1.loop1] at hq58
        refine W.seq ?_
        refine W.seq ?_
        refine W.region ?_
        refine WL.vS hS hE (runs_plain rfl) (Gives.p hE rfl) rfl ?_; clear hE a; intro a hE
        refine WL.vS hS hE (runs_plain rfl) (Gives.p hE rfl) rfl ?_; clear hE a; intro a hE
        refine WL.vS hS hE (runs_plain rfl) (Gives.p hE rfl) rfl ?_; clear hE a; intro a hE
        refine WL.nil ?_
        refine W.cond hE rfl (fun hc67 => ?_) (fun hc67 => ?_)
        · replace hq58 := iteT hc67 hq58
          refine W.skip ?_
          refine W.block ?_
          refine W.seq ?_
          refine W.region ?_
          refine WL.vS hS hE (runs_plain rfl) (Gives.p hE rfl) rfl ?_; clear hE a; intro a hE
          refine WL.vS hS hE (runs_plain rfl) (Gives.p hE rfl) rfl ?_; clear hE a; intro a hE
          refine WL.vS hS hE (runs_plain rfl) (Gives.p hE rfl) rfl ?_; clear hE a; intro a hE
          refine WL.vS hS hE (runs_plain rfl) (Gives.conv hE rfl hu3 ui162) rfl ?_; clear hE a; intro a hE
          refine WL.vS hS hE (runs_plain rfl) (Gives.shr hE rfl rfl (by decide)) rfl ?_; clear hE a; intro a hE
          refine WL.vS hS hE (runs_plain rfl) (Gives.conv hE rfl hu162 ui3) rfl ?_; clear hE a; intro a hE
          refine WL.vS hS hE (runs_plain rfl) (Gives.p hE rfl) rfl ?_; clear hE a; intro a hE
          refine WL.nil ?_
          refine W.seq ?_
          refine W.regionQ (C := fun w => St w s (pt pb0 (.cells #[.slice a_y0_0 y0.length c_y0_0] 32 (0, 0)) :: vecC 3 1 a_v0 c_v0 x0.length cs_v0 :: R)) mixed (by kernel_rfl) hS.drew ?_
          refine QL.v hE (runs_plain rfl) (Gives.p hE rfl) rfl ?_; clear hE a; intro a hE
          refine QL.v hE (runs_plain rfl) (Gives.p hE rfl) rfl ?_; clear hE a; intro a hE
          refine QL.v hE (runs_plain rfl) (Gives.p hE rfl) rfl ?_; clear hE a; intro a hE
          obtain ⟨x68, hx69, hq58⟩ := bindS hq58
          obtain ⟨hi70, hlt71, hy72⟩ := gx_some hx69
          obtain ⟨vs73, hl74, hR75, hd76, hget77⟩ := h_v0.at hy72
          subst hR75
          refine QL.v hE (runs_plain rfl) (Gives.idx hE ((w64 (Int.fdiv (IntKind.wrap .u64 (w64 (q64 + q65))) (2 ^ (min (Int.toNat 1) (IntKind.bits .u64))))).toNat) rfl rfl sl44 hi70 (by omega) (hS.vecAok 1 rfl (by omega : (w64 (Int.fdiv (IntKind.wrap .u64 (w64 (q64 + q65))) (2 ^ (min (Int.toNat 1) (IntKind.bits .u64))))).toNat < x0.length))) rfl ?_; clear hE a; intro a hE
          refine QL.v hE (runs_plain rfl) (Gives.load1 hE rfl (fun w h => St.vecSees h 1 rfl ((w64 (Int.fdiv (IntKind.wrap .u64 (w64 (q64 + q65))) (2 ^ (min (Int.toNat 1) (IntKind.bits .u64))))).toNat * 1) _ hget77) ty3) rfl ?_; clear hE a; intro a hE
          refine QL.v hE (runs_plain rfl) (Gives.p hE rfl) rfl ?_; clear hE a; intro a hE
          refine QL.v hE (runs_plain rfl) (Gives.p hE rfl) rfl ?_; clear hE a; intro a hE
          obtain ⟨x78, hx79, hq58⟩ := bindS hq58
          obtain ⟨hi80, hlt81, hy82⟩ := gx_some hx79
          obtain ⟨vs83, hl84, hR85, hd86, hget87⟩ := h_v0.at hy82
          subst hR85
          refine QL.v hE (runs_plain rfl) (Gives.idx hE ((x1).toNat) rfl rfl sl44 hi80 (by omega) (hS.vecAok 1 rfl (by omega : (x1).toNat < x0.length))) rfl ?_; clear hE a; intro a hE
          refine QL.v hE (runs_plain rfl) (Gives.load1 hE rfl (fun w h => St.vecSees h 1 rfl ((x1).toNat * 1) _ hget87) ty3) rfl ?_; clear hE a; intro a hE
          obtain ⟨q88, hq89, hq58⟩ := bindS hq58
          refine QL.fnw hE (fun w hS => Fleetorder_1_v1_ok hS h_y0_0 hq89) rfl (runs_plain rfl) bd104 rfl rfl rfl ?_; clear hE a; intro a hE
          refine QL.v hE (runs_plain rfl) (Gives.p hE rfl) rfl ?_; clear hE a; intro a hE
          refine QL.nil ?_; clear hS w; intro w hS
          obtain ⟨q91, hq90, hq58⟩ := bndS hq58
          refine W.cut (fun a w => ∃ (q94 : Int), ∃ (q95 : Int), (q94, q95) = q91 ∧ Rep a 220 [(0, .slice a_v0 x0.length c_v0), (1, .int .i64 x1), (4, .func (.func 104) #[] #[.pointer (some ⟨pb0, 0, none⟩)]), (10, .int .i64 q94), (11, .int .i64 q95)] ∧ St w s (pt pb0 (.cells #[.slice a_y0_0 y0.length c_y0_0] 32 (0, 0)) :: vecC 3 1 a_v0 c_v0 x0.length cs_v0 :: R)) ?_ ?_
          · refine W.gen fun K96 hK96 => ?_
            refine W.cond hE rfl (fun hc97 => ?_) (fun hc97 => ?_)
            · replace hq90 := iteT hc97 hq90
              refine W.region ?_
              refine WL.vS hS hE (runs_plain rfl) (Gives.p hE rfl) rfl ?_; clear hE a; intro a hE
              refine WL.vS hS hE (runs_plain rfl) (Gives.p hE rfl) rfl ?_; clear hE a; intro a hE
              refine WL.vS hS hE (runs_plain rfl) (Gives.p hE rfl) rfl ?_; clear hE a; intro a hE
              refine WL.nil ?_
              subst hK96
              exact ⟨w64 ((w64 (Int.fdiv (IntKind.wrap .u64 (w64 (q64 + q65))) (2 ^ (min (Int.toNat 1) (IntKind.bits .u64))))) + 1), q65, hq90, hE.pick _ ⟨rfl, rfl, rfl, rfl, rfl, trivial⟩, hS⟩
            · replace hq90 := iteF hc97 hq90
              refine W.region ?_
              refine WL.vS hS hE (runs_plain rfl) (Gives.p hE rfl) rfl ?_; clear hE a; intro a hE
              refine WL.vS hS hE (runs_plain rfl) (Gives.p hE rfl) rfl ?_; clear hE a; intro a hE
              refine WL.nil ?_
              subst hK96
              exact ⟨q64, w64 (Int.fdiv (IntKind.wrap .u64 (w64 (q64 + q65))) (2 ^ (min (Int.toNat 1) (IntKind.bits .u64)))), hq90, hE.pick _ ⟨rfl, rfl, rfl, rfl, rfl, trivial⟩, hS⟩
          · clear hE hS a w; rintro a w ⟨q94, q95, rfl, hE, hS⟩
            dsimp only at hq58
            subst hK66
            exact ⟨n60, Nat.lt_succ_self _, n60, q94, q95, rfl, hq58, hE.pick _ ⟨rfl, rfl, rfl, rfl, rfl, trivial⟩, hS⟩
        · replace hq58 := iteF hc67 hq58
          subst hK66
          refine W.exit rfl ?_
          exact ⟨q64, q65, Option.some.inj hq58, hE.pick _ ⟨rfl, rfl, rfl, trivial⟩, hS⟩
      · clear hE hS a w; rintro a w ⟨q64, q65, rfl, hE, hS⟩
        dsimp only at hr
        refine W.seq ?_
        refine W.seq ?_
        refine W.region ?_
        refine WL.vS hS hE (runs_plain rfl) (Gives.p hE rfl) rfl ?_; clear hE a; intro a hE
        refine WL.vS hS hE (runs_plain rfl) (Gives.p hE rfl) rfl ?_; clear hE a; intro a hE
        refine WL.nil ?_
        obtain ⟨q99, hq98, hr⟩ := bindS hr
        refine W.cut (fun a w => ∃ (q104 : Int), ∃ (q105 : List Int), ∃ (cs109 : List Value), (q104, q105) = q99 ∧ Ev 1 (RI .i64) s cs109 q105 ∧ q105.length = x0.length ∧ Rep a 220 [] ∧ St w s (pt pb0 (.cells #[.slice a_y0_0 y0.length c_y0_0] 32 (0, 0)) :: vecC 3 1 a_v0 c_v0 x0.length cs109 :: R)) ?_ ?_
        · refine W.block ?_
          refine W.loop (fun m a w => ∃ (n100 : Nat), ∃ (q104 : Int), ∃ (q105 : List Int), ∃ (cs109 : List Value), n100 = m ∧ SlicessymMergeCmpFuncint_v1.loop2 q64 n100 q104 q105 = some q99 ∧ Ev 1 (RI .i64) s cs109 q105 ∧ q105.length = x0.length ∧ Rep a 220 [(0, .slice a_v0 x0.length c_v0), (10, .int .i64 q64), (13, .int .i64 q104)] ∧ St w s (pt pb0 (.cells #[.slice a_y0_0 y0.length c_y0_0] 32 (0, 0)) :: vecC 3 1 a_v0 c_v0 x0.length cs109 :: R)) (m := fu) ⟨fu, x1, x0, cs_v0, rfl, hq98, h_v0, (rfl), hE.pick _ ⟨rfl, rfl, rfl, trivial⟩, hS⟩ ?_
          clear hE hS a w hq98; rintro m101 a w ⟨n100, q104, q105, cs109, rfl, hq98, h108, hn110, hE, hS⟩
          refine W.gen fun K111 hK111 => ?_
          rcases n100 with _ | n100
          · rw [SlicessymMergeCmpFuncint_v1.loop2] at hq98; exact absurd hq98 (by simp)
          rw [SlicessymMergeCmpFuncint_v1.loop2] at hq98
          refine W.seq ?_
          refine W.seq ?_
          refine W.region ?_
          refine WL.vS hS hE (runs_plain rfl) (Gives.p hE rfl) rfl ?_; clear hE a; intro a hE
          refine WL.vS hS hE (runs_plain rfl) (Gives.p hE rfl) rfl ?_; clear hE a; intro a hE
          refine WL.vS hS hE (runs_plain rfl) (Gives.p hE rfl) rfl ?_; clear hE a; intro a hE
          refine WL.vS hS hE (runs_plain rfl) (Gives.p hE rfl) rfl ?_; clear hE a; intro a hE
          refine WL.nil ?_
          refine W.cond hE rfl (fun hc112 => ?_) (fun hc112 => ?_)
          · replace hq98 := iteT hc112 hq98
            refine W.skip ?_
            refine W.seq ?_
            refine W.block ?_
            refine W.gen fun K113 hK113 => ?_
            refine W.regionE (sel (fun w => St w s (pt pb0 (.cells #[.slice a_y0_0 y0.length c_y0_0] 32 (0, 0)) :: vecC 3 1 a_v0 c_v0 x0.length cs109 :: R)) (fun w => St w s (pt pb0 (.cells #[.slice a_y0_0 y0.length c_y0_0] 32 (0, 0)) :: R))) (fun b i => cond b ([0, 1, 2, 3, 4, 5, 6, 7, 8, 9, 10, 11, 12, 13, 14, 16].contains i) ([0, 1, 2, 3, 4, 5, 6, 7, 8, 9, 10, 11, 12, 13, 14, 15, 16, 17].contains i)) mixed ?_
            replace hS := hS.drew
            refine Rg.takeP (i := 0) hE rfl (by kernel_rfl) (runs_plain rfl) (Gives.p hE rfl) rfl (tw_sel (fun _ => hS) (fun _ => (hS.dropAt 1))) ?_; clear hE a; intro a hE
            refine Rg.takeP (i := 1) hE rfl (by kernel_rfl) (runs_plain rfl) (Gives.p hE rfl) rfl (tw_sel (fun _ => hS) (fun _ => (hS.dropAt 1))) ?_; clear hE a; intro a hE
            refine Rg.takeP (i := 2) hE rfl (by kernel_rfl) (runs_plain rfl) (Gives.p hE rfl) rfl (tw_sel (fun _ => hS) (fun _ => (hS.dropAt 1))) ?_; clear hE a; intro a hE
            refine Rg.takeP (i := 3) hE rfl (by kernel_rfl) (runs_plain rfl) (Gives.p hE rfl) rfl (tw_sel (fun _ => hS) (fun _ => (hS.dropAt 1))) ?_; clear hE a; intro a hE
            refine Rg.takeP (i := 4) hE rfl (by kernel_rfl) (runs_plain rfl) (Gives.p hE rfl) rfl (tw_sel (fun _ => hS) (fun _ => (hS.dropAt 1))) ?_; clear hE a; intro a hE
            refine Rg.takeP (i := 5) hE rfl (by kernel_rfl) (runs_plain rfl) (Gives.p hE rfl) rfl (tw_sel (fun _ => hS) (fun _ => (hS.dropAt 1))) ?_; clear hE a; intro a hE
            refine Rg.takeP (i := 6) hE rfl (by kernel_rfl) (runs_plain rfl) (Gives.p hE rfl) rfl (tw_sel (fun _ => hS) (fun _ => (hS.dropAt 1))) ?_; clear hE a; intro a hE
            refine Rg.takeP (i := 7) hE rfl (by kernel_rfl) (runs_plain rfl) (Gives.p hE rfl) rfl (tw_sel (fun _ => hS) (fun _ => (hS.dropAt 1))) ?_; clear hE a; intro a hE
            obtain ⟨x114, hx115, hq98⟩ := bindS hq98
            obtain ⟨hi116, hlt117, hy118⟩ := gx_some hx115
            obtain ⟨vs119, hl120, hR121, hd122, hget123⟩ := h108.at hy118
            subst hR121
            refine Rg.takeP (i := 8) hE rfl (by kernel_rfl) (runs_plain rfl) (Gives.idx hE ((w64 (q104 + 1)).toNat) rfl rfl sl44 hi116 (by have := hn110; omega) (hS.vecAok 1 rfl (by have := hn110; omega : (w64 (q104 + 1)).toNat < x0.length))) rfl (tw_sel (fun _ => hS) (fun _ => (hS.dropAt 1))) ?_; clear hE a; intro a hE
            have hT := tw_sel (A := fun w => St w s (pt pb0 (.cells #[.slice a_y0_0 y0.length c_y0_0] 32 (0, 0)) :: vecC 3 1 a_v0 c_v0 x0.length cs109 :: R)) (B := fun w => St w s (pt pb0 (.cells #[.slice a_y0_0 y0.length c_y0_0] 32 (0, 0)) :: R)) (w := _) (x := true) (y := true) (fun _ => hS) (fun _ => (hS.dropAt 1))
            have hF := hS; replace hS := hS
            refine Rg.take (i := 9) true rfl hE rfl (by kernel_rfl) (runs_plain rfl) (Gives.load1 hE rfl (fun w h => St.vecSees h 1 rfl ((w64 (q104 + 1)).toNat * 1) _ hget123) ty3) rfl hT ?_; clear hE a; intro a hE
            replace hS := hF; clear hF hT
            refine Rg.takeP (i := 10) hE rfl (by kernel_rfl) (runs_plain rfl) (Gives.p hE rfl) rfl (tw_sel (fun _ => hS) (fun _ => (hS.dropAt 1))) ?_; clear hE a; intro a hE
            refine Rg.takeP (i := 11) hE rfl (by kernel_rfl) (runs_plain rfl) (Gives.p hE rfl) rfl (tw_sel (fun _ => hS) (fun _ => (hS.dropAt 1))) ?_; clear hE a; intro a hE
            obtain ⟨x124, hx125, hq98⟩ := bindS hq98
            obtain ⟨hi126, hlt127, hy128⟩ := gx_some hx125
            obtain ⟨vs129, hl130, hR131, hd132, hget133⟩ := h108.at hy128
            subst hR131
            refine Rg.takeP (i := 12) hE rfl (by kernel_rfl) (runs_plain rfl) (Gives.idx hE ((q104).toNat) rfl rfl sl44 hi126 (by have := hn110; omega) (hS.vecAok 1 rfl (by have := hn110; omega : (q104).toNat < x0.length))) rfl (tw_sel (fun _ => hS) (fun _ => (hS.dropAt 1))) ?_; clear hE a; intro a hE
            have hT := tw_sel (A := fun w => St w s (pt pb0 (.cells #[.slice a_y0_0 y0.length c_y0_0] 32 (0, 0)) :: vecC 3 1 a_v0 c_v0 x0.length cs109 :: R)) (B := fun w => St w s (pt pb0 (.cells #[.slice a_y0_0 y0.length c_y0_0] 32 (0, 0)) :: R)) (w := _) (x := true) (y := true) (fun _ => hS) (fun _ => (hS.dropAt 1))
            have hF := hS; replace hS := hS
            refine Rg.take (i := 13) true rfl hE rfl (by kernel_rfl) (runs_plain rfl) (Gives.load1 hE rfl (fun w h => St.vecSees h 1 rfl ((q104).toNat * 1) _ hget133) ty3) rfl hT ?_; clear hE a; intro a hE
            replace hS := hF; clear hF hT
            obtain ⟨_, hx135, hq98⟩ := bindS hq98
            obtain ⟨h136, h137⟩ := ix_some hx135
            refine Rg.takeP (i := 14) hE rfl (by kernel_rfl) (runs_plain rfl) (Gives.idx hE ((q104).toNat) rfl rfl sl44 h136 (by have := hn110; omega) (hS.vecAok 1 rfl (by have := hn110; omega : (q104).toNat < x0.length))) rfl (tw_sel (fun _ => hS) (fun _ => (hS.dropAt 1))) ?_; clear hE a; intro a hE
            refine Rg.one (i := 15) false true rfl (by kernel_rfl) (by kernel_rfl) (by kernel_rfl) ?_
            obtain ⟨x139, hx140, hq98⟩ := bindS hq98
            refine WL.setD hE hS 1 rfl (runs_plain rfl) rfl rfl (vs := [.int .i64 x114]) rfl ty3 rfl rfl rfl h108 hn110 (sx_some hx140).1 hx140 rfl rfl ?_; clear hE hS a w; intro cs141 a w h142 hn143 hE hS
            refine WL.nil ?_
            refine ⟨⟨fun h => absurd h (by decide), fun _ => (hS.dropAt 1)⟩, ?_⟩
            obtain ⟨_, hx145, hq98⟩ := bindS hq98
            obtain ⟨h146, h147⟩ := ix_some hx145
            refine Rg.takeP (i := 16) hE rfl (by kernel_rfl) (runs_plain rfl) (Gives.idx hE ((w64 (q104 + 1)).toNat) rfl rfl sl44 h146 (by have := hn143; omega) (hS.vecAok 1 rfl (by have := hn143; omega : (w64 (q104 + 1)).toNat < x0.length))) rfl (tw_sel (fun h => absurd h (by decide)) (fun _ => (hS.dropAt 1))) ?_; clear hE a; intro a hE
            refine Rg.one (i := 17) false true rfl (by kernel_rfl) (by kernel_rfl) (by kernel_rfl) ?_
            obtain ⟨x149, hx150, hq98⟩ := bindS hq98
            refine WL.setD hE hS 1 rfl (runs_plain rfl) rfl rfl (vs := [.int .i64 x124]) rfl ty3 rfl rfl rfl h142 hn143 (sx_some hx150).1 hx150 rfl rfl ?_; clear hE hS a w; intro cs151 a w h152 hn153 hE hS
            refine WL.nil ?_
            refine ⟨⟨fun h => absurd h (by decide), fun _ => (hS.dropAt 1)⟩, ?_⟩
            refine Rg.done (by kernel_rfl) ?_
            subst hK113
            refine W.region ?_
            refine WL.vS hS hE (runs_plain rfl) (Gives.p hE rfl) rfl ?_; clear hE a; intro a hE
            refine WL.vS hS hE (runs_plain rfl) (Gives.p hE rfl) rfl ?_; clear hE a; intro a hE
            refine WL.vS hS hE (runs_plain rfl) (Gives.p hE rfl) rfl ?_; clear hE a; intro a hE
            refine WL.nil ?_
            subst hK111
            exact ⟨n100, Nat.lt_succ_self _, n100, (w64 (q104 + 1)), x149, cs151, rfl, hq98, h152, hn153, hE.pick _ ⟨rfl, rfl, rfl, trivial⟩, hS⟩
          · replace hq98 := iteF hc112 hq98
            subst hK111
            refine W.exit rfl ?_
            exact ⟨q104, q105, cs109, Option.some.inj hq98, h108, hn110, hE.pick _ trivial, hS⟩
        · clear hE hS a w; rintro a w ⟨q104, q105, cs109, rfl, h108, hn110, hE, hS⟩
          dsimp only at hr
          refine W.ret ?_
          refine finG (fn := Try.f160) (rs := []) (vs := []) hE rfl trivial ?_
          obtain rfl := Option.some.inj hr
          exact ⟨cs109, rfl, h108, hn110, hS⟩
    · replace hr := iteF hc57 hr
      refine W.skip ?_
      refine W.seq ?_
      refine W.seq ?_
      refine W.region ?_
      refine WL.vS hS hE (runs_plain rfl) (Gives.p hE rfl) rfl ?_; clear hE a; intro a hE
      refine WL.vS hS hE (runs_plain rfl) (Gives.p hE rfl) rfl ?_; clear hE a; intro a hE
      refine WL.vS hS hE (runs_plain rfl) (Gives.p hE rfl) rfl ?_; clear hE a; intro a hE
      refine WL.vS hS hE (runs_plain rfl) (Gives.p hE rfl) rfl ?_; clear hE a; intro a hE
      refine WL.nil ?_
      refine W.cond hE rfl (fun hc154 => ?_) (fun hc154 => ?_)
      · replace hr := iteT hc154 hr
        refine W.seq ?_
        refine W.region ?_
        refine WL.vS hS hE (runs_plain rfl) (Gives.p hE rfl) rfl ?_; clear hE a; intro a hE
        refine WL.vS hS hE (runs_plain rfl) (Gives.p hE rfl) rfl ?_; clear hE a; intro a hE
        refine WL.nil ?_
        refine W.seq ?_
        refine W.region ?_
        refine WL.vS hS hE (runs_plain rfl) (Gives.p hE rfl) rfl ?_; clear hE a; intro a hE
        refine WL.vS hS hE (runs_plain rfl) (Gives.p hE rfl) rfl ?_; clear hE a; intro a hE
        refine WL.nil ?_
        refine W.seq ?_
        obtain ⟨q156, hq155, hr⟩ := bindS hr
        refine W.cut (fun a w => ∃ (q161 : Int), ∃ (q162 : Int), (q161, q162) = q156 ∧ Rep a 220 [(0, .slice a_v0 x0.length c_v0), (2, .int .i64 x2), (14, .int .i64 q161)] ∧ St w s (pt pb0 (.cells #[.slice a_y0_0 y0.length c_y0_0] 32 (0, 0)) :: vecC 3 1 a_v0 c_v0 x0.length cs_v0 :: R)) ?_ ?_
        · refine W.block ?_
          refine W.loop (fun m a w => ∃ (n157 : Nat), ∃ (q161 : Int), ∃ (q162 : Int), n157 = m ∧ SlicessymMergeCmpFuncint_v1.loop3 x0 x2 y0 n157 q161 q162 = some q156 ∧ Rep a 220 [(0, .slice a_v0 x0.length c_v0), (2, .int .i64 x2), (4, .func (.func 104) #[] #[.pointer (some ⟨pb0, 0, none⟩)]), (14, .int .i64 q161), (15, .int .i64 q162)] ∧ St w s (pt pb0 (.cells #[.slice a_y0_0 y0.length c_y0_0] 32 (0, 0)) :: vecC 3 1 a_v0 c_v0 x0.length cs_v0 :: R)) (m := fu) ⟨fu, x1, x2, rfl, hq155, hE.pick _ ⟨rfl, rfl, rfl, rfl, rfl, trivial⟩, hS⟩ ?_
          clear hE hS a w hq155; rintro m158 a w ⟨n157, q161, q162, rfl, hq155, hE, hS⟩
          refine W.gen fun K163 hK163 => ?_
          rcases n157 with _ | n157
          · rw [SlicessymMergeCmpFuncint_v1.loop3] at hq155; exact absurd hq155 (by simp)
          rw [SlicessymMergeCmpFuncint_v1.loop3] at hq155
          refine W.seq ?_
          refine W.seq ?_
          refine W.region ?_
          refine WL.vS hS hE (runs_plain rfl) (Gives.p hE rfl) rfl ?_; clear hE a; intro a hE
          refine WL.vS hS hE (runs_plain rfl) (Gives.p hE rfl) rfl ?_; clear hE a; intro a hE
          refine WL.vS hS hE (runs_plain rfl) (Gives.p hE rfl) rfl ?_; clear hE a; intro a hE
          refine WL.nil ?_
          refine W.cond hE rfl (fun hc164 => ?_) (fun hc164 => ?_)
          · replace hq155 := iteT hc164 hq155
            refine W.skip ?_
            refine W.block ?_
            refine W.seq ?_
            refine W.region ?_
            refine WL.vS hS hE (runs_plain rfl) (Gives.p hE rfl) rfl ?_; clear hE a; intro a hE
            refine WL.vS hS hE (runs_plain rfl) (Gives.p hE rfl) rfl ?_; clear hE a; intro a hE
            refine WL.vS hS hE (runs_plain rfl) (Gives.p hE rfl) rfl ?_; clear hE a; intro a hE
            refine WL.vS hS hE (runs_plain rfl) (Gives.conv hE rfl hu3 ui162) rfl ?_; clear hE a; intro a hE
            refine WL.vS hS hE (runs_plain rfl) (Gives.shr hE rfl rfl (by decide)) rfl ?_; clear hE a; intro a hE
            refine WL.vS hS hE (runs_plain rfl) (Gives.conv hE rfl hu162 ui3) rfl ?_; clear hE a; intro a hE
            refine WL.vS hS hE (runs_plain rfl) (Gives.p hE rfl) rfl ?_; clear hE a; intro a hE
            refine WL.nil ?_
            refine W.seq ?_
            refine W.regionQ (C := fun w => St w s (pt pb0 (.cells #[.slice a_y0_0 y0.length c_y0_0] 32 (0, 0)) :: vecC 3 1 a_v0 c_v0 x0.length cs_v0 :: R)) mixed (by kernel_rfl) hS.drew ?_
            refine QL.v hE (runs_plain rfl) (Gives.p hE rfl) rfl ?_; clear hE a; intro a hE
            refine QL.v hE (runs_plain rfl) (Gives.p hE rfl) rfl ?_; clear hE a; intro a hE
            refine QL.v hE (runs_plain rfl) (Gives.p hE rfl) rfl ?_; clear hE a; intro a hE
            obtain ⟨x165, hx166, hq155⟩ := bindS hq155
            obtain ⟨hi167, hlt168, hy169⟩ := gx_some hx166
            obtain ⟨vs170, hl171, hR172, hd173, hget174⟩ := h_v0.at hy169
            subst hR172
            refine QL.v hE (runs_plain rfl) (Gives.idx hE ((x2).toNat) rfl rfl sl44 hi167 (by omega) (hS.vecAok 1 rfl (by omega : (x2).toNat < x0.length))) rfl ?_; clear hE a; intro a hE
            refine QL.v hE (runs_plain rfl) (Gives.load1 hE rfl (fun w h => St.vecSees h 1 rfl ((x2).toNat * 1) _ hget174) ty3) rfl ?_; clear hE a; intro a hE
            refine QL.v hE (runs_plain rfl) (Gives.p hE rfl) rfl ?_; clear hE a; intro a hE
            refine QL.v hE (runs_plain rfl) (Gives.p hE rfl) rfl ?_; clear hE a; intro a hE
            obtain ⟨x175, hx176, hq155⟩ := bindS hq155
            obtain ⟨hi177, hlt178, hy179⟩ := gx_some hx176
            obtain ⟨vs180, hl181, hR182, hd183, hget184⟩ := h_v0.at hy179
            subst hR182
            refine QL.v hE (runs_plain rfl) (Gives.idx hE ((w64 (Int.fdiv (IntKind.wrap .u64 (w64 (q161 + q162))) (2 ^ (min (Int.toNat 1) (IntKind.bits .u64))))).toNat) rfl rfl sl44 hi177 (by omega) (hS.vecAok 1 rfl (by omega : (w64 (Int.fdiv (IntKind.wrap .u64 (w64 (q161 + q162))) (2 ^ (min (Int.toNat 1) (IntKind.bits .u64))))).toNat < x0.length))) rfl ?_; clear hE a; intro a hE
            refine QL.v hE (runs_plain rfl) (Gives.load1 hE rfl (fun w h => St.vecSees h 1 rfl ((w64 (Int.fdiv (IntKind.wrap .u64 (w64 (q161 + q162))) (2 ^ (min (Int.toNat 1) (IntKind.bits .u64))))).toNat * 1) _ hget184) ty3) rfl ?_; clear hE a; intro a hE
            obtain ⟨q185, hq186, hq155⟩ := bindS hq155
            refine QL.fnw hE (fun w hS => Fleetorder_1_v1_ok hS h_y0_0 hq186) rfl (runs_plain rfl) bd104 rfl rfl rfl ?_; clear hE a; intro a hE
            refine QL.v hE (runs_plain rfl) (Gives.p hE rfl) rfl ?_; clear hE a; intro a hE
            refine QL.v hE (runs_plain rfl) (Gives.p hE rfl) rfl ?_; clear hE a; intro a hE
            refine QL.nil ?_; clear hS w; intro w hS
            obtain ⟨q188, hq187, hq155⟩ := bndS hq155
            refine W.cut (fun a w => ∃ (q191 : Int), ∃ (q192 : Int), (q191, q192) = q188 ∧ Rep a 220 [(0, .slice a_v0 x0.length c_v0), (2, .int .i64 x2), (4, .func (.func 104) #[] #[.pointer (some ⟨pb0, 0, none⟩)]), (14, .int .i64 q191), (15, .int .i64 q192)] ∧ St w s (pt pb0 (.cells #[.slice a_y0_0 y0.length c_y0_0] 32 (0, 0)) :: vecC 3 1 a_v0 c_v0 x0.length cs_v0 :: R)) ?_ ?_
            · refine W.gen fun K193 hK193 => ?_
              refine W.cond hE rfl (fun hc194 => ?_) (fun hc194 => ?_)
              · replace hq187 := iteT hc194 hq187
                refine W.region ?_
                refine WL.vS hS hE (runs_plain rfl) (Gives.p hE rfl) rfl ?_; clear hE a; intro a hE
                refine WL.vS hS hE (runs_plain rfl) (Gives.p hE rfl) rfl ?_; clear hE a; intro a hE
                refine WL.vS hS hE (runs_plain rfl) (Gives.p hE rfl) rfl ?_; clear hE a; intro a hE
                refine WL.nil ?_
                subst hK193
                exact ⟨w64 ((w64 (Int.fdiv (IntKind.wrap .u64 (w64 (q161 + q162))) (2 ^ (min (Int.toNat 1) (IntKind.bits .u64))))) + 1), q162, hq187, hE.pick _ ⟨rfl, rfl, rfl, rfl, rfl, trivial⟩, hS⟩
              · replace hq187 := iteF hc194 hq187
                refine W.region ?_
                refine WL.vS hS hE (runs_plain rfl) (Gives.p hE rfl) rfl ?_; clear hE a; intro a hE
                refine WL.vS hS hE (runs_plain rfl) (Gives.p hE rfl) rfl ?_; clear hE a; intro a hE
                refine WL.nil ?_
                subst hK193
                exact ⟨q161, w64 (Int.fdiv (IntKind.wrap .u64 (w64 (q161 + q162))) (2 ^ (min (Int.toNat 1) (IntKind.bits .u64)))), hq187, hE.pick _ ⟨rfl, rfl, rfl, rfl, rfl, trivial⟩, hS⟩
            · clear hE hS a w; rintro a w ⟨q191, q192, rfl, hE, hS⟩
              dsimp only at hq155
              subst hK163
              exact ⟨n157, Nat.lt_succ_self _, n157, q191, q192, rfl, hq155, hE.pick _ ⟨rfl, rfl, rfl, rfl, rfl, trivial⟩, hS⟩
          · replace hq155 := iteF hc164 hq155
            subst hK163
            refine W.exit rfl ?_
            exact ⟨q161, q162, Option.some.inj hq155, hE.pick _ ⟨rfl, rfl, rfl, trivial⟩, hS⟩
        · clear hE hS a w; rintro a w ⟨q161, q162, rfl, hE, hS⟩
          dsimp only at hr
          refine W.seq ?_
          refine W.seq ?_
          refine W.region ?_
          refine WL.vS hS hE (runs_plain rfl) (Gives.p hE rfl) rfl ?_; clear hE a; intro a hE
          refine WL.vS hS hE (runs_plain rfl) (Gives.p hE rfl) rfl ?_; clear hE a; intro a hE
          refine WL.nil ?_
          obtain ⟨q196, hq195, hr⟩ := bindS hr
          refine W.cut (fun a w => ∃ (q201 : Int), ∃ (q202 : List Int), ∃ (cs206 : List Value), (q201, q202) = q196 ∧ Ev 1 (RI .i64) s cs206 q202 ∧ q202.length = x0.length ∧ Rep a 220 [] ∧ St w s (pt pb0 (.cells #[.slice a_y0_0 y0.length c_y0_0] 32 (0, 0)) :: vecC 3 1 a_v0 c_v0 x0.length cs206 :: R)) ?_ ?_
          · refine W.block ?_
            refine W.loop (fun m a w => ∃ (n197 : Nat), ∃ (q201 : Int), ∃ (q202 : List Int), ∃ (cs206 : List Value), n197 = m ∧ SlicessymMergeCmpFuncint_v1.loop4 q161 n197 q201 q202 = some q196 ∧ Ev 1 (RI .i64) s cs206 q202 ∧ q202.length = x0.length ∧ Rep a 220 [(0, .slice a_v0 x0.length c_v0), (14, .int .i64 q161), (17, .int .i64 q201)] ∧ St w s (pt pb0 (.cells #[.slice a_y0_0 y0.length c_y0_0] 32 (0, 0)) :: vecC 3 1 a_v0 c_v0 x0.length cs206 :: R)) (m := fu) ⟨fu, x2, x0, cs_v0, rfl, hq195, h_v0, (rfl), hE.pick _ ⟨rfl, rfl, rfl, trivial⟩, hS⟩ ?_
            clear hE hS a w hq195; rintro m198 a w ⟨n197, q201, q202, cs206, rfl, hq195, h205, hn207, hE, hS⟩
            refine W.gen fun K208 hK208 => ?_
            rcases n197 with _ | n197
            · rw [SlicessymMergeCmpFuncint_v1.loop4] at hq195; exact absurd hq195 (by simp)
            rw [SlicessymMergeCmpFuncint_v1.loop4] at hq195
            refine W.seq ?_
            refine W.seq ?_
            refine W.region ?_
            refine WL.vS hS hE (runs_plain rfl) (Gives.p hE rfl) rfl ?_; clear hE a; intro a hE
            refine WL.vS hS hE (runs_plain rfl) (Gives.p hE rfl) rfl ?_; clear hE a; intro a hE
            refine WL.vS hS hE (runs_plain rfl) (Gives.p hE rfl) rfl ?_; clear hE a; intro a hE
            refine WL.nil ?_
            refine W.cond hE rfl (fun hc209 => ?_) (fun hc209 => ?_)
            · replace hq195 := iteT hc209 hq195
              refine W.skip ?_
              refine W.seq ?_
              refine W.block ?_
              refine W.gen fun K210 hK210 => ?_
              refine W.regionE (sel (fun w => St w s (pt pb0 (.cells #[.slice a_y0_0 y0.length c_y0_0] 32 (0, 0)) :: vecC 3 1 a_v0 c_v0 x0.length cs206 :: R)) (fun w => St w s (pt pb0 (.cells #[.slice a_y0_0 y0.length c_y0_0] 32 (0, 0)) :: R))) (fun b i => cond b ([0, 1, 2, 3, 4, 5, 6, 7, 8, 9, 10, 11, 12, 13, 14, 16].contains i) ([0, 1, 2, 3, 4, 5, 6, 7, 8, 9, 10, 11, 12, 13, 14, 15, 16, 17].contains i)) mixed ?_
              replace hS := hS.drew
              refine Rg.takeP (i := 0) hE rfl (by kernel_rfl) (runs_plain rfl) (Gives.p hE rfl) rfl (tw_sel (fun _ => hS) (fun _ => (hS.dropAt 1))) ?_; clear hE a; intro a hE
              refine Rg.takeP (i := 1) hE rfl (by kernel_rfl) (runs_plain rfl) (Gives.p hE rfl) rfl (tw_sel (fun _ => hS) (fun _ => (hS.dropAt 1))) ?_; clear hE a; intro a hE
              refine Rg.takeP (i := 2) hE rfl (by kernel_rfl) (runs_plain rfl) (Gives.p hE rfl) rfl (tw_sel (fun _ => hS) (fun _ => (hS.dropAt 1))) ?_; clear hE a; intro a hE
              refine Rg.takeP (i := 3) hE rfl (by kernel_rfl) (runs_plain rfl) (Gives.p hE rfl) rfl (tw_sel (fun _ => hS) (fun _ => (hS.dropAt 1))) ?_; clear hE a; intro a hE
              refine Rg.takeP (i := 4) hE rfl (by kernel_rfl) (runs_plain rfl) (Gives.p hE rfl) rfl (tw_sel (fun _ => hS) (fun _ => (hS.dropAt 1))) ?_; clear hE a; intro a hE
              refine Rg.takeP (i := 5) hE rfl (by kernel_rfl) (runs_plain rfl) (Gives.p hE rfl) rfl (tw_sel (fun _ => hS) (fun _ => (hS.dropAt 1))) ?_; clear hE a; intro a hE
              refine Rg.takeP (i := 6) hE rfl (by kernel_rfl) (runs_plain rfl) (Gives.p hE rfl) rfl (tw_sel (fun _ => hS) (fun _ => (hS.dropAt 1))) ?_; clear hE a; intro a hE
              refine Rg.takeP (i := 7) hE rfl (by kernel_rfl) (runs_plain rfl) (Gives.p hE rfl) rfl (tw_sel (fun _ => hS) (fun _ => (hS.dropAt 1))) ?_; clear hE a; intro a hE
              obtain ⟨x211, hx212, hq195⟩ := bindS hq195
              obtain ⟨hi213, hlt214, hy215⟩ := gx_some hx212
              obtain ⟨vs216, hl217, hR218, hd219, hget220⟩ := h205.at hy215
              subst hR218
              refine Rg.takeP (i := 8) hE rfl (by kernel_rfl) (runs_plain rfl) (Gives.idx hE ((w64 (q201 - 1)).toNat) rfl rfl sl44 hi213 (by have := hn207; omega) (hS.vecAok 1 rfl (by have := hn207; omega : (w64 (q201 - 1)).toNat < x0.length))) rfl (tw_sel (fun _ => hS) (fun _ => (hS.dropAt 1))) ?_; clear hE a; intro a hE
              have hT := tw_sel (A := fun w => St w s (pt pb0 (.cells #[.slice a_y0_0 y0.length c_y0_0] 32 (0, 0)) :: vecC 3 1 a_v0 c_v0 x0.length cs206 :: R)) (B := fun w => St w s (pt pb0 (.cells #[.slice a_y0_0 y0.length c_y0_0] 32 (0, 0)) :: R)) (w := _) (x := true) (y := true) (fun _ => hS) (fun _ => (hS.dropAt 1))
              have hF := hS; replace hS := hS
              refine Rg.take (i := 9) true rfl hE rfl (by kernel_rfl) (runs_plain rfl) (Gives.load1 hE rfl (fun w h => St.vecSees h 1 rfl ((w64 (q201 - 1)).toNat * 1) _ hget220) ty3) rfl hT ?_; clear hE a; intro a hE
              replace hS := hF; clear hF hT
              refine Rg.takeP (i := 10) hE rfl (by kernel_rfl) (runs_plain rfl) (Gives.p hE rfl) rfl (tw_sel (fun _ => hS) (fun _ => (hS.dropAt 1))) ?_; clear hE a; intro a hE
              refine Rg.takeP (i := 11) hE rfl (by kernel_rfl) (runs_plain rfl) (Gives.p hE rfl) rfl (tw_sel (fun _ => hS) (fun _ => (hS.dropAt 1))) ?_; clear hE a; intro a hE
              obtain ⟨x221, hx222, hq195⟩ := bindS hq195
              obtain ⟨hi223, hlt224, hy225⟩ := gx_some hx222
              obtain ⟨vs226, hl227, hR228, hd229, hget230⟩ := h205.at hy225
              subst hR228
              refine Rg.takeP (i := 12) hE rfl (by kernel_rfl) (runs_plain rfl) (Gives.idx hE ((q201).toNat) rfl rfl sl44 hi223 (by have := hn207; omega) (hS.vecAok 1 rfl (by have := hn207; omega : (q201).toNat < x0.length))) rfl (tw_sel (fun _ => hS) (fun _ => (hS.dropAt 1))) ?_; clear hE a; intro a hE
              have hT := tw_sel (A := fun w => St w s (pt pb0 (.cells #[.slice a_y0_0 y0.length c_y0_0] 32 (0, 0)) :: vecC 3 1 a_v0 c_v0 x0.length cs206 :: R)) (B := fun w => St w s (pt pb0 (.cells #[.slice a_y0_0 y0.length c_y0_0] 32 (0, 0)) :: R)) (w := _) (x := true) (y := true) (fun _ => hS) (fun _ => (hS.dropAt 1))
              have hF := hS; replace hS := hS
              refine Rg.take (i := 13) true rfl hE rfl (by kernel_rfl) (runs_plain rfl) (Gives.load1 hE rfl (fun w h => St.vecSees h 1 rfl ((q201).toNat * 1) _ hget230) ty3) rfl hT ?_; clear hE a; intro a hE
              replace hS := hF; clear hF hT
              obtain ⟨_, hx232, hq195⟩ := bindS hq195
              obtain ⟨h233, h234⟩ := ix_some hx232
              refine Rg.takeP (i := 14) hE rfl (by kernel_rfl) (runs_plain rfl) (Gives.idx hE ((q201).toNat) rfl rfl sl44 h233 (by have := hn207; omega) (hS.vecAok 1 rfl (by have := hn207; omega : (q201).toNat < x0.length))) rfl (tw_sel (fun _ => hS) (fun _ => (hS.dropAt 1))) ?_; clear hE a; intro a hE
              refine Rg.one (i := 15) false true rfl (by kernel_rfl) (by kernel_rfl) (by kernel_rfl) ?_
              obtain ⟨x236, hx237, hq195⟩ := bindS hq195
              refine WL.setD hE hS 1 rfl (runs_plain rfl) rfl rfl (vs := [.int .i64 x211]) rfl ty3 rfl rfl rfl h205 hn207 (sx_some hx237).1 hx237 rfl rfl ?_; clear hE hS a w; intro cs238 a w h239 hn240 hE hS
              refine WL.nil ?_
              refine ⟨⟨fun h => absurd h (by decide), fun _ => (hS.dropAt 1)⟩, ?_⟩
              obtain ⟨_, hx242, hq195⟩ := bindS hq195
              obtain ⟨h243, h244⟩ := ix_some hx242
              refine Rg.takeP (i := 16) hE rfl (by kernel_rfl) (runs_plain rfl) (Gives.idx hE ((w64 (q201 - 1)).toNat) rfl rfl sl44 h243 (by have := hn240; omega) (hS.vecAok 1 rfl (by have := hn240; omega : (w64 (q201 - 1)).toNat < x0.length))) rfl (tw_sel (fun h => absurd h (by decide)) (fun _ => (hS.dropAt 1))) ?_; clear hE a; intro a hE
              refine Rg.one (i := 17) false true rfl (by kernel_rfl) (by kernel_rfl) (by kernel_rfl) ?_
              obtain ⟨x246, hx247, hq195⟩ := bindS hq195
              refine WL.setD hE hS 1 rfl (runs_plain rfl) rfl rfl (vs := [.int .i64 x221]) rfl ty3 rfl rfl rfl h239 hn240 (sx_some hx247).1 hx247 rfl rfl ?_; clear hE hS a w; intro cs248 a w h249 hn250 hE hS
              refine WL.nil ?_
              refine ⟨⟨fun h => absurd h (by decide), fun _ => (hS.dropAt 1)⟩, ?_⟩
              refine Rg.done (by kernel_rfl) ?_
              subst hK210
              refine W.region ?_
              refine WL.vS hS hE (runs_plain rfl) (Gives.p hE rfl) rfl ?_; clear hE a; intro a hE
              refine WL.vS hS hE (runs_plain rfl) (Gives.p hE rfl) rfl ?_; clear hE a; intro a hE
              refine WL.vS hS hE (runs_plain rfl) (Gives.p hE rfl) rfl ?_; clear hE a; intro a hE
              refine WL.nil ?_
              subst hK208
              exact ⟨n197, Nat.lt_succ_self _, n197, (w64 (q201 - 1)), x246, cs248, rfl, hq195, h249, hn250, hE.pick _ ⟨rfl, rfl, rfl, trivial⟩, hS⟩
            · replace hq195 := iteF hc209 hq195
              subst hK208
              refine W.exit rfl ?_
              exact ⟨q201, q202, cs206, Option.some.inj hq195, h205, hn207, hE.pick _ trivial, hS⟩
          · clear hE hS a w; rintro a w ⟨q201, q202, cs206, rfl, h205, hn207, hE, hS⟩
            dsimp only at hr
            refine W.ret ?_
            refine finG (fn := Try.f160) (rs := []) (vs := []) hE rfl trivial ?_
            obtain rfl := Option.some.inj hr
            exact ⟨cs206, rfl, h205, hn207, hS⟩
      · replace hr := iteF hc154 hr
        refine W.skip ?_
        refine W.seq ?_
        refine W.region ?_
        refine WL.vS hS hE (runs_plain rfl) (Gives.p hE rfl) rfl ?_; clear hE a; intro a hE
        refine WL.vS hS hE (runs_plain rfl) (Gives.p hE rfl) rfl ?_; clear hE a; intro a hE
        refine WL.vS hS hE (runs_plain rfl) (Gives.p hE rfl) rfl ?_; clear hE a; intro a hE
        refine WL.vS hS hE (runs_plain rfl) (Gives.conv hE rfl hu3 ui162) rfl ?_; clear hE a; intro a hE
        refine WL.vS hS hE (runs_plain rfl) (Gives.shr hE rfl rfl (by decide)) rfl ?_; clear hE a; intro a hE
        refine WL.vS hS hE (runs_plain rfl) (Gives.conv hE rfl hu162 ui3) rfl ?_; clear hE a; intro a hE
        refine WL.vS hS hE (runs_plain rfl) (Gives.p hE rfl) rfl ?_; clear hE a; intro a hE
        refine WL.nil ?_
        refine W.seq ?_
        refine W.region ?_
        refine WL.vS hS hE (runs_plain rfl) (Gives.p hE rfl) rfl ?_; clear hE a; intro a hE
        refine WL.vS hS hE (runs_plain rfl) (Gives.p hE rfl) rfl ?_; clear hE a; intro a hE
        refine WL.vS hS hE (runs_plain rfl) (Gives.p hE rfl) rfl ?_; clear hE a; intro a hE
        refine WL.vS hS hE (runs_plain rfl) (Gives.p hE rfl) rfl ?_; clear hE a; intro a hE
        refine WL.nil ?_
        refine W.seq ?_
        refine W.region ?_
        refine WL.vS hS hE (runs_plain rfl) (Gives.p hE rfl) rfl ?_; clear hE a; intro a hE
        refine WL.vS hS hE (runs_plain rfl) (Gives.p hE rfl) rfl ?_; clear hE a; intro a hE
        refine WL.nil ?_
        refine W.seq ?_
        refine W.seq ?_
        refine W.region ?_
        refine WL.vS hS hE (runs_plain rfl) (Gives.p hE rfl) rfl ?_; clear hE a; intro a hE
        refine WL.vS hS hE (runs_plain rfl) (Gives.p hE rfl) rfl ?_; clear hE a; intro a hE
        refine WL.vS hS hE (runs_plain rfl) (Gives.p hE rfl) rfl ?_; clear hE a; intro a hE
        refine WL.nil ?_
        obtain ⟨q252, hq251, hr⟩ := bndS hr
        refine W.cut (fun a w => ∃ (q255 : Int), ∃ (q256 : Int), (q255, q256) = q252 ∧ Rep a 220 [(0, .slice a_v0 x0.length c_v0), (1, .int .i64 x1), (2, .int .i64 x2), (3, .int .i64 x3), (4, .func (.func 104) #[] #[.pointer (some ⟨pb0, 0, none⟩)]), (18, .int .i64 (w64 (Int.fdiv (IntKind.wrap .u64 (w64 (x1 + x3))) (2 ^ (min (Int.toNat 1) (IntKind.bits .u64)))))), (19, .int .i64 (w64 ((w64 (Int.fdiv (IntKind.wrap .u64 (w64 (x1 + x3))) (2 ^ (min (Int.toNat 1) (IntKind.bits .u64))))) + x2))), (20, .int .i64 q255), (21, .int .i64 q256)] ∧ St w s (pt pb0 (.cells #[.slice a_y0_0 y0.length c_y0_0] 32 (0, 0)) :: vecC 3 1 a_v0 c_v0 x0.length cs_v0 :: R)) ?_ ?_
        · refine W.gen fun K257 hK257 => ?_
          refine W.cond hE rfl (fun hc258 => ?_) (fun hc258 => ?_)
          · replace hq251 := iteT hc258 hq251
            refine W.seq ?_
            refine W.region ?_
            refine WL.vS hS hE (runs_plain rfl) (Gives.p hE rfl) rfl ?_; clear hE a; intro a hE
            refine WL.vS hS hE (runs_plain rfl) (Gives.p hE rfl) rfl ?_; clear hE a; intro a hE
            refine WL.vS hS hE (runs_plain rfl) (Gives.p hE rfl) rfl ?_; clear hE a; intro a hE
            refine WL.vS hS hE (runs_plain rfl) (Gives.p hE rfl) rfl ?_; clear hE a; intro a hE
            refine WL.nil ?_
            refine W.region ?_
            refine WL.vS hS hE (runs_plain rfl) (Gives.p hE rfl) rfl ?_; clear hE a; intro a hE
            refine WL.vS hS hE (runs_plain rfl) (Gives.p hE rfl) rfl ?_; clear hE a; intro a hE
            refine WL.nil ?_
            subst hK257
            exact ⟨w64 ((w64 ((w64 (Int.fdiv (IntKind.wrap .u64 (w64 (x1 + x3))) (2 ^ (min (Int.toNat 1) (IntKind.bits .u64))))) + x2)) - x3), w64 (Int.fdiv (IntKind.wrap .u64 (w64 (x1 + x3))) (2 ^ (min (Int.toNat 1) (IntKind.bits .u64)))), hq251, hE.pick _ ⟨rfl, rfl, rfl, rfl, rfl, rfl, rfl, rfl, rfl, trivial⟩, hS⟩
          · replace hq251 := iteF hc258 hq251
            refine W.seq ?_
            refine W.region ?_
            refine WL.vS hS hE (runs_plain rfl) (Gives.p hE rfl) rfl ?_; clear hE a; intro a hE
            refine WL.vS hS hE (runs_plain rfl) (Gives.p hE rfl) rfl ?_; clear hE a; intro a hE
            refine WL.nil ?_
            refine W.region ?_
            refine WL.vS hS hE (runs_plain rfl) (Gives.p hE rfl) rfl ?_; clear hE a; intro a hE
            refine WL.vS hS hE (runs_plain rfl) (Gives.p hE rfl) rfl ?_; clear hE a; intro a hE
            refine WL.nil ?_
            subst hK257
            exact ⟨x1, x2, hq251, hE.pick _ ⟨rfl, rfl, rfl, rfl, rfl, rfl, rfl, rfl, rfl, trivial⟩, hS⟩
        · clear hE hS a w; rintro a w ⟨q255, q256, rfl, hE, hS⟩
          dsimp only at hr
          refine W.seq ?_
          refine W.region ?_
          refine WL.vS hS hE (runs_plain rfl) (Gives.p hE rfl) rfl ?_; clear hE a; intro a hE
          refine WL.vS hS hE (runs_plain rfl) (Gives.p hE rfl) rfl ?_; clear hE a; intro a hE
          refine WL.vS hS hE (runs_plain rfl) (Gives.p hE rfl) rfl ?_; clear hE a; intro a hE
          refine WL.nil ?_
          refine W.seq ?_
          obtain ⟨q260, hq259, hr⟩ := bindS hr
          refine W.cut (fun a w => ∃ (q265 : Int), ∃ (q266 : Int), (q265, q266) = q260 ∧ Rep a 220 [(0, .slice a_v0 x0.length c_v0), (1, .int .i64 x1), (2, .int .i64 x2), (3, .int .i64 x3), (4, .func (.func 104) #[] #[.pointer (some ⟨pb0, 0, none⟩)]), (18, .int .i64 (w64 (Int.fdiv (IntKind.wrap .u64 (w64 (x1 + x3))) (2 ^ (min (Int.toNat 1) (IntKind.bits .u64)))))), (19, .int .i64 (w64 ((w64 (Int.fdiv (IntKind.wrap .u64 (w64 (x1 + x3))) (2 ^ (min (Int.toNat 1) (IntKind.bits .u64))))) + x2))), (20, .int .i64 q265)] ∧ St w s (pt pb0 (.cells #[.slice a_y0_0 y0.length c_y0_0] 32 (0, 0)) :: vecC 3 1 a_v0 c_v0 x0.length cs_v0 :: R)) ?_ ?_
          · refine W.block ?_
            refine W.loop (fun m a w => ∃ (n261 : Nat), ∃ (q265 : Int), ∃ (q266 : Int), n261 = m ∧ SlicessymMergeCmpFuncint_v1.loop5 x0 x1 x2 x3 y0 n261 q265 q266 = some q260 ∧ Rep a 220 [(0, .slice a_v0 x0.length c_v0), (1, .int .i64 x1), (2, .int .i64 x2), (3, .int .i64 x3), (4, .func (.func 104) #[] #[.pointer (some ⟨pb0, 0, none⟩)]), (18, .int .i64 (w64 (Int.fdiv (IntKind.wrap .u64 (w64 (x1 + x3))) (2 ^ (min (Int.toNat 1) (IntKind.bits .u64)))))), (19, .int .i64 (w64 ((w64 (Int.fdiv (IntKind.wrap .u64 (w64 (x1 + x3))) (2 ^ (min (Int.toNat 1) (IntKind.bits .u64))))) + x2))), (20, .int .i64 q265), (21, .int .i64 q266), (22, .int .i64 (w64 ((w64 ((w64 (Int.fdiv (IntKind.wrap .u64 (w64 (x1 + x3))) (2 ^ (min (Int.toNat 1) (IntKind.bits .u64))))) + x2)) - 1)))] ∧ St w s (pt pb0 (.cells #[.slice a_y0_0 y0.length c_y0_0] 32 (0, 0)) :: vecC 3 1 a_v0 c_v0 x0.length cs_v0 :: R)) (m := fu) ⟨fu, q255, q256, rfl, hq259, hE.pick _ ⟨rfl, rfl, rfl, rfl, rfl, rfl, rfl, rfl, rfl, rfl, trivial⟩, hS⟩ ?_
            clear hE hS a w hq259; rintro m262 a w ⟨n261, q265, q266, rfl, hq259, hE, hS⟩
            refine W.gen fun K267 hK267 => ?_
            rcases n261 with _ | n261
            · rw [SlicessymMergeCmpFuncint_v1.loop5] at hq259; exact absurd hq259 (by simp)
            rw [SlicessymMergeCmpFuncint_v1.loop5] at hq259
            refine W.seq ?_
            refine W.seq ?_
            refine W.region ?_
            refine WL.vS hS hE (runs_plain rfl) (Gives.p hE rfl) rfl ?_; clear hE a; intro a hE
            refine WL.vS hS hE (runs_plain rfl) (Gives.p hE rfl) rfl ?_; clear hE a; intro a hE
            refine WL.vS hS hE (runs_plain rfl) (Gives.p hE rfl) rfl ?_; clear hE a; intro a hE
            refine WL.nil ?_
            refine W.cond hE rfl (fun hc268 => ?_) (fun hc268 => ?_)
            · replace hq259 := iteT hc268 hq259
              refine W.skip ?_
              refine W.block ?_
              refine W.seq ?_
              refine W.region ?_
              refine WL.vS hS hE (runs_plain rfl) (Gives.p hE rfl) rfl ?_; clear hE a; intro a hE
              refine WL.vS hS hE (runs_plain rfl) (Gives.p hE rfl) rfl ?_; clear hE a; intro a hE
              refine WL.vS hS hE (runs_plain rfl) (Gives.p hE rfl) rfl ?_; clear hE a; intro a hE
              refine WL.vS hS hE (runs_plain rfl) (Gives.conv hE rfl hu3 ui162) rfl ?_; clear hE a; intro a hE
              refine WL.vS hS hE (runs_plain rfl) (Gives.shr hE rfl rfl (by decide)) rfl ?_; clear hE a; intro a hE
              refine WL.vS hS hE (runs_plain rfl) (Gives.conv hE rfl hu162 ui3) rfl ?_; clear hE a; intro a hE
              refine WL.vS hS hE (runs_plain rfl) (Gives.p hE rfl) rfl ?_; clear hE a; intro a hE
              refine WL.nil ?_
              refine W.seq ?_
              refine W.regionQ (C := fun w => St w s (pt pb0 (.cells #[.slice a_y0_0 y0.length c_y0_0] 32 (0, 0)) :: vecC 3 1 a_v0 c_v0 x0.length cs_v0 :: R)) mixed (by kernel_rfl) hS.drew ?_
              refine QL.v hE (runs_plain rfl) (Gives.p hE rfl) rfl ?_; clear hE a; intro a hE
              refine QL.v hE (runs_plain rfl) (Gives.p hE rfl) rfl ?_; clear hE a; intro a hE
              refine QL.v hE (runs_plain rfl) (Gives.p hE rfl) rfl ?_; clear hE a; intro a hE
              refine QL.v hE (runs_plain rfl) (Gives.p hE rfl) rfl ?_; clear hE a; intro a hE
              refine QL.v hE (runs_plain rfl) (Gives.p hE rfl) rfl ?_; clear hE a; intro a hE
              obtain ⟨x269, hx270, hq259⟩ := bindS hq259
              obtain ⟨hi271, hlt272, hy273⟩ := gx_some hx270
              obtain ⟨vs274, hl275, hR276, hd277, hget278⟩ := h_v0.at hy273
              subst hR276
              refine QL.v hE (runs_plain rfl) (Gives.idx hE ((w64 ((w64 ((w64 ((w64 (Int.fdiv (IntKind.wrap .u64 (w64 (x1 + x3))) (2 ^ (min (Int.toNat 1) (IntKind.bits .u64))))) + x2)) - 1)) - (w64 (Int.fdiv (IntKind.wrap .u64 (w64 (q265 + q266))) (2 ^ (min (Int.toNat 1) (IntKind.bits .u64))))))).toNat) rfl rfl sl44 hi271 (by omega) (hS.vecAok 1 rfl (by omega : (w64 ((w64 ((w64 ((w64 (Int.fdiv (IntKind.wrap .u64 (w64 (x1 + x3))) (2 ^ (min (Int.toNat 1) (IntKind.bits .u64))))) + x2)) - 1)) - (w64 (Int.fdiv (IntKind.wrap .u64 (w64 (q265 + q266))) (2 ^ (min (Int.toNat 1) (IntKind.bits .u64))))))).toNat < x0.length))) rfl ?_; clear hE a; intro a hE
              refine QL.v hE (runs_plain rfl) (Gives.load1 hE rfl (fun w h => St.vecSees h 1 rfl ((w64 ((w64 ((w64 ((w64 (Int.fdiv (IntKind.wrap .u64 (w64 (x1 + x3))) (2 ^ (min (Int.toNat 1) (IntKind.bits .u64))))) + x2)) - 1)) - (w64 (Int.fdiv (IntKind.wrap .u64 (w64 (q265 + q266))) (2 ^ (min (Int.toNat 1) (IntKind.bits .u64))))))).toNat * 1) _ hget278) ty3) rfl ?_; clear hE a; intro a hE
              refine QL.v hE (runs_plain rfl) (Gives.p hE rfl) rfl ?_; clear hE a; intro a hE
              refine QL.v hE (runs_plain rfl) (Gives.p hE rfl) rfl ?_; clear hE a; intro a hE
              obtain ⟨x279, hx280, hq259⟩ := bindS hq259
              obtain ⟨hi281, hlt282, hy283⟩ := gx_some hx280
              obtain ⟨vs284, hl285, hR286, hd287, hget288⟩ := h_v0.at hy283
              subst hR286
              refine QL.v hE (runs_plain rfl) (Gives.idx hE ((w64 (Int.fdiv (IntKind.wrap .u64 (w64 (q265 + q266))) (2 ^ (min (Int.toNat 1) (IntKind.bits .u64))))).toNat) rfl rfl sl44 hi281 (by omega) (hS.vecAok 1 rfl (by omega : (w64 (Int.fdiv (IntKind.wrap .u64 (w64 (q265 + q266))) (2 ^ (min (Int.toNat 1) (IntKind.bits .u64))))).toNat < x0.length))) rfl ?_; clear hE a; intro a hE
              refine QL.v hE (runs_plain rfl) (Gives.load1 hE rfl (fun w h => St.vecSees h 1 rfl ((w64 (Int.fdiv (IntKind.wrap .u64 (w64 (q265 + q266))) (2 ^ (min (Int.toNat 1) (IntKind.bits .u64))))).toNat * 1) _ hget288) ty3) rfl ?_; clear hE a; intro a hE
              obtain ⟨q289, hq290, hq259⟩ := bindS hq259
              refine QL.fnw hE (fun w hS => Fleetorder_1_v1_ok hS h_y0_0 hq290) rfl (runs_plain rfl) bd104 rfl rfl rfl ?_; clear hE a; intro a hE
              refine QL.v hE (runs_plain rfl) (Gives.p hE rfl) rfl ?_; clear hE a; intro a hE
              refine QL.v hE (runs_plain rfl) (Gives.p hE rfl) rfl ?_; clear hE a; intro a hE
              refine QL.nil ?_; clear hS w; intro w hS
              obtain ⟨q292, hq291, hq259⟩ := bndS hq259
              refine W.cut (fun a w => ∃ (q295 : Int), ∃ (q296 : Int), (q295, q296) = q292 ∧ Rep a 220 [(0, .slice a_v0 x0.length c_v0), (1, .int .i64 x1), (2, .int .i64 x2), (3, .int .i64 x3), (4, .func (.func 104) #[] #[.pointer (some ⟨pb0, 0, none⟩)]), (18, .int .i64 (w64 (Int.fdiv (IntKind.wrap .u64 (w64 (x1 + x3))) (2 ^ (min (Int.toNat 1) (IntKind.bits .u64)))))), (19, .int .i64 (w64 ((w64 (Int.fdiv (IntKind.wrap .u64 (w64 (x1 + x3))) (2 ^ (min (Int.toNat 1) (IntKind.bits .u64))))) + x2))), (20, .int .i64 q295), (21, .int .i64 q296), (22, .int .i64 (w64 ((w64 ((w64 (Int.fdiv (IntKind.wrap .u64 (w64 (x1 + x3))) (2 ^ (min (Int.toNat 1) (IntKind.bits .u64))))) + x2)) - 1)))] ∧ St w s (pt pb0 (.cells #[.slice a_y0_0 y0.length c_y0_0] 32 (0, 0)) :: vecC 3 1 a_v0 c_v0 x0.length cs_v0 :: R)) ?_ ?_
              · refine W.gen fun K297 hK297 => ?_
                refine W.cond hE rfl (fun hc298 => ?_) (fun hc298 => ?_)
                · replace hq291 := iteT hc298 hq291
                  refine W.region ?_
                  refine WL.vS hS hE (runs_plain rfl) (Gives.p hE rfl) rfl ?_; clear hE a; intro a hE
                  refine WL.vS hS hE (runs_plain rfl) (Gives.p hE rfl) rfl ?_; clear hE a; intro a hE
                  refine WL.vS hS hE (runs_plain rfl) (Gives.p hE rfl) rfl ?_; clear hE a; intro a hE
                  refine WL.nil ?_
                  subst hK297
                  exact ⟨w64 ((w64 (Int.fdiv (IntKind.wrap .u64 (w64 (q265 + q266))) (2 ^ (min (Int.toNat 1) (IntKind.bits .u64))))) + 1), q266, hq291, hE.pick _ ⟨rfl, rfl, rfl, rfl, rfl, rfl, rfl, rfl, rfl, rfl, trivial⟩, hS⟩
                · replace hq291 := iteF hc298 hq291
                  refine W.region ?_
                  refine WL.vS hS hE (runs_plain rfl) (Gives.p hE rfl) rfl ?_; clear hE a; intro a hE
                  refine WL.vS hS hE (runs_plain rfl) (Gives.p hE rfl) rfl ?_; clear hE a; intro a hE
                  refine WL.nil ?_
                  subst hK297
                  exact ⟨q265, w64 (Int.fdiv (IntKind.wrap .u64 (w64 (q265 + q266))) (2 ^ (min (Int.toNat 1) (IntKind.bits .u64)))), hq291, hE.pick _ ⟨rfl, rfl, rfl, rfl, rfl, rfl, rfl, rfl, rfl, rfl, trivial⟩, hS⟩
              · clear hE hS a w; rintro a w ⟨q295, q296, rfl, hE, hS⟩
                dsimp only at hq259
                subst hK267
                exact ⟨n261, Nat.lt_succ_self _, n261, q295, q296, rfl, hq259, hE.pick _ ⟨rfl, rfl, rfl, rfl, rfl, rfl, rfl, rfl, rfl, rfl, trivial⟩, hS⟩
            · replace hq259 := iteF hc268 hq259
              subst hK267
              refine W.exit rfl ?_
              exact ⟨q265, q266, Option.some.inj hq259, hE.pick _ ⟨rfl, rfl, rfl, rfl, rfl, rfl, rfl, rfl, trivial⟩, hS⟩
          · clear hE hS a w; rintro a w ⟨q265, q266, rfl, hE, hS⟩
            dsimp only at hr
            refine W.seq ?_
            refine W.region ?_
            refine WL.vS hS hE (runs_plain rfl) (Gives.p hE rfl) rfl ?_; clear hE a; intro a hE
            refine WL.vS hS hE (runs_plain rfl) (Gives.p hE rfl) rfl ?_; clear hE a; intro a hE
            refine WL.vS hS hE (runs_plain rfl) (Gives.p hE rfl) rfl ?_; clear hE a; intro a hE
            refine WL.vS hS hE (runs_plain rfl) (Gives.p hE rfl) rfl ?_; clear hE a; intro a hE
            refine WL.nil ?_
            refine W.seq ?_
            refine W.seq ?_
            obtain ⟨q300, hq299, hr⟩ := bndS hr
            refine W.cut (fun a w => ∃ (q303 : Bool), q303 = q300 ∧ Rep a 220 [(0, .slice a_v0 x0.length c_v0), (1, .int .i64 x1), (2, .int .i64 x2), (3, .int .i64 x3), (4, .func (.func 104) #[] #[.pointer (some ⟨pb0, 0, none⟩)]), (18, .int .i64 (w64 (Int.fdiv (IntKind.wrap .u64 (w64 (x1 + x3))) (2 ^ (min (Int.toNat 1) (IntKind.bits .u64)))))), (20, .int .i64 q265), (24, .int .i64 (w64 ((w64 ((w64 (Int.fdiv (IntKind.wrap .u64 (w64 (x1 + x3))) (2 ^ (min (Int.toNat 1) (IntKind.bits .u64))))) + x2)) - q265))), (185, .bool q303)] ∧ St w s (pt pb0 (.cells #[.slice a_y0_0 y0.length c_y0_0] 32 (0, 0)) :: vecC 3 1 a_v0 c_v0 x0.length cs_v0 :: R)) ?_ ?_
            · refine W.gen fun K304 hK304 => ?_
              refine W.region ?_
              refine WL.vS hS hE (runs_plain rfl) (Gives.p hE rfl) rfl ?_; clear hE a; intro a hE
              refine WL.vS hS hE (runs_plain rfl) (Gives.p hE rfl) rfl ?_; clear hE a; intro a hE
              refine WL.vS hS hE (runs_plain rfl) (Gives.p hE rfl) rfl ?_; clear hE a; intro a hE
              refine WL.vS hS hE (runs_plain rfl) (Gives.p hE rfl) rfl ?_; clear hE a; intro a hE
              rcases Bool.eq_false_or_eq_true (decide (q265 < x2)) with hg305 | hg305
              · replace hq299 := iteT hg305 hq299
                refine WL.vS hS hE (runs_if hE rfl rfl rfl hg305) (Gives.p hE rfl) rfl ?_; clear hE a; intro a hE
                refine WL.vS hS hE (runs_if hE rfl rfl rfl hg305) (Gives.p hE rfl) rfl ?_; clear hE a; intro a hE
                refine WL.vS hS hE (runs_if hE rfl rfl rfl hg305) (Gives.p hE rfl) rfl ?_; clear hE a; intro a hE
                refine WL.vS hS hE (runs_plain rfl) (Gives.pickT hE rfl hg305 rfl) rfl ?_; clear hE a; intro a hE
                refine WL.nil ?_
                subst hK304
                exact ⟨decide (x2 < (w64 ((w64 ((w64 (Int.fdiv (IntKind.wrap .u64 (w64 (x1 + x3))) (2 ^ (min (Int.toNat 1) (IntKind.bits .u64))))) + x2)) - q265))), hq299, hE.pick _ ⟨rfl, rfl, rfl, rfl, rfl, rfl, rfl, rfl, rfl, trivial⟩, hS⟩
              · replace hq299 := iteF hg305 hq299
                refine WL.no hE (runs_not hE rfl rfl rfl (by rw [hg305]; decide)) rfl ?_; clear hE a; intro a hE
                refine WL.no hE (runs_not hE rfl rfl rfl (by rw [hg305]; decide)) rfl ?_; clear hE a; intro a hE
                refine WL.no hE (runs_not hE rfl rfl rfl (by rw [hg305]; decide)) rfl ?_; clear hE a; intro a hE
                refine WL.vS hS hE (runs_plain rfl) (Gives.pickF hE rfl hg305 rfl) rfl ?_; clear hE a; intro a hE
                refine WL.nil ?_
                subst hK304
                exact ⟨false, hq299, hE.pick _ ⟨rfl, rfl, rfl, rfl, rfl, rfl, rfl, rfl, rfl, trivial⟩, hS⟩
            · clear hE hS a w; rintro a w ⟨q303, rfl, hE, hS⟩
              refine W.cond hE rfl (fun hc306 => ?_) (fun hc306 => ?_)
              · replace hr := iteT hc306 hr
                refine W.region ?_
                refine WL.vS hS hE (runs_plain rfl) (Gives.p hE rfl) rfl ?_; clear hE a; intro a hE
                refine WL.vS hS hE (runs_plain rfl) (Gives.p hE rfl) rfl ?_; clear hE a; intro a hE
                refine WL.vS hS hE (runs_plain rfl) (Gives.p hE rfl) rfl ?_; clear hE a; intro a hE
                refine WL.vS hS hE (runs_plain rfl) (Gives.p hE rfl) rfl ?_; clear hE a; intro a hE
                refine WL.vS hS hE (runs_plain rfl) (Gives.p hE rfl) rfl ?_; clear hE a; intro a hE
                obtain ⟨q307, hq308, hr⟩ := bindS hr
                have hc_ := SlicesrotateCmpFuncint_v1_ok hS h_v0 (rfl) h_y0_0 hq308
                refine WL.fnq hE (hc_) (runs_plain rfl) bd187 rfl rfl rfl ?_
                clear hE hS hc_; rintro e w ⟨cs309, rfl, h310, hn311, hS⟩; refine ⟨_, rfl, ?_⟩; clear a; intro a hE
                refine WL.nil ?_
                refine W.seq ?_
                refine W.seq ?_
                obtain ⟨q313, hq312, hr⟩ := bndS hr
                refine W.cut (fun a w => ∃ (q316 : Bool), q316 = q313 ∧ Rep a 220 [(0, .slice a_v0 x0.length c_v0), (1, .int .i64 x1), (3, .int .i64 x3), (4, .func (.func 104) #[] #[.pointer (some ⟨pb0, 0, none⟩)]), (18, .int .i64 (w64 (Int.fdiv (IntKind.wrap .u64 (w64 (x1 + x3))) (2 ^ (min (Int.toNat 1) (IntKind.bits .u64)))))), (20, .int .i64 q265), (24, .int .i64 (w64 ((w64 ((w64 (Int.fdiv (IntKind.wrap .u64 (w64 (x1 + x3))) (2 ^ (min (Int.toNat 1) (IntKind.bits .u64))))) + x2)) - q265))), (199, .bool q316)] ∧ St w s (pt pb0 (.cells #[.slice a_y0_0 y0.length c_y0_0] 32 (0, 0)) :: vecC 3 1 a_v0 c_v0 x0.length cs309 :: R)) ?_ ?_
                · refine W.gen fun K317 hK317 => ?_
                  refine W.region ?_
                  refine WL.vS hS hE (runs_plain rfl) (Gives.p hE rfl) rfl ?_; clear hE a; intro a hE
                  refine WL.vS hS hE (runs_plain rfl) (Gives.p hE rfl) rfl ?_; clear hE a; intro a hE
                  refine WL.vS hS hE (runs_plain rfl) (Gives.p hE rfl) rfl ?_; clear hE a; intro a hE
                  refine WL.vS hS hE (runs_plain rfl) (Gives.p hE rfl) rfl ?_; clear hE a; intro a hE
                  rcases Bool.eq_false_or_eq_true (decide (x1 < q265)) with hg318 | hg318
                  · replace hq312 := iteT hg318 hq312
                    refine WL.vS hS hE (runs_if hE rfl rfl rfl hg318) (Gives.p hE rfl) rfl ?_; clear hE a; intro a hE
                    refine WL.vS hS hE (runs_if hE rfl rfl rfl hg318) (Gives.p hE rfl) rfl ?_; clear hE a; intro a hE
                    refine WL.vS hS hE (runs_if hE rfl rfl rfl hg318) (Gives.p hE rfl) rfl ?_; clear hE a; intro a hE
                    refine WL.vS hS hE (runs_plain rfl) (Gives.pickT hE rfl hg318 rfl) rfl ?_; clear hE a; intro a hE
                    refine WL.nil ?_
                    subst hK317
                    exact ⟨decide (q265 < (w64 (Int.fdiv (IntKind.wrap .u64 (w64 (x1 + x3))) (2 ^ (min (Int.toNat 1) (IntKind.bits .u64)))))), hq312, hE.pick _ ⟨rfl, rfl, rfl, rfl, rfl, rfl, rfl, rfl, trivial⟩, hS⟩
                  · replace hq312 := iteF hg318 hq312
                    refine WL.no hE (runs_not hE rfl rfl rfl (by rw [hg318]; decide)) rfl ?_; clear hE a; intro a hE
                    refine WL.no hE (runs_not hE rfl rfl rfl (by rw [hg318]; decide)) rfl ?_; clear hE a; intro a hE
                    refine WL.no hE (runs_not hE rfl rfl rfl (by rw [hg318]; decide)) rfl ?_; clear hE a; intro a hE
                    refine WL.vS hS hE (runs_plain rfl) (Gives.pickF hE rfl hg318 rfl) rfl ?_; clear hE a; intro a hE
                    refine WL.nil ?_
                    subst hK317
                    exact ⟨false, hq312, hE.pick _ ⟨rfl, rfl, rfl, rfl, rfl, rfl, rfl, rfl, trivial⟩, hS⟩
                · clear hE hS a w; rintro a w ⟨q316, rfl, hE, hS⟩
                  refine W.cond hE rfl (fun hc319 => ?_) (fun hc319 => ?_)
                  · replace hr := iteT hc319 hr
                    refine W.region ?_
                    refine WL.vS hS hE (runs_plain rfl) (Gives.p hE rfl) rfl ?_; clear hE a; intro a hE
                    refine WL.vS hS hE (runs_plain rfl) (Gives.p hE rfl) rfl ?_; clear hE a; intro a hE
                    refine WL.vS hS hE (runs_plain rfl) (Gives.p hE rfl) rfl ?_; clear hE a; intro a hE
                    refine WL.vS hS hE (runs_plain rfl) (Gives.p hE rfl) rfl ?_; clear hE a; intro a hE
                    refine WL.vS hS hE (runs_plain rfl) (Gives.p hE rfl) rfl ?_; clear hE a; intro a hE
                    obtain ⟨q320, hq321, hr⟩ := bindS hr
                    have hc_ := ih_SlicessymMergeCmpFuncint_v1 hS h310 hn311 h_y0_0 hq321
                    refine WL.fnq hE (hc_) (runs_plain rfl) bd160 rfl rfl rfl ?_
                    clear hE hS hc_; rintro e w ⟨cs322, rfl, h323, hn324, hS⟩; refine ⟨_, rfl, ?_⟩; clear a; intro a hE
                    refine WL.nil ?_
                    refine W.seq ?_
                    obtain ⟨q326, hq325, hr⟩ := bndS hr
                    refine W.cut (fun a w => ∃ (q329 : Bool), q329 = q326 ∧ Rep a 220 [(0, .slice a_v0 x0.length c_v0), (3, .int .i64 x3), (4, .func (.func 104) #[] #[.pointer (some ⟨pb0, 0, none⟩)]), (18, .int .i64 (w64 (Int.fdiv (IntKind.wrap .u64 (w64 (x1 + x3))) (2 ^ (min (Int.toNat 1) (IntKind.bits .u64)))))), (24, .int .i64 (w64 ((w64 ((w64 (Int.fdiv (IntKind.wrap .u64 (w64 (x1 + x3))) (2 ^ (min (Int.toNat 1) (IntKind.bits .u64))))) + x2)) - q265))), (213, .bool q329)] ∧ St w s (pt pb0 (.cells #[.slice a_y0_0 y0.length c_y0_0] 32 (0, 0)) :: vecC 3 1 a_v0 c_v0 x0.length cs322 :: R)) ?_ ?_
                    · refine W.gen fun K330 hK330 => ?_
                      refine W.region ?_
                      refine WL.vS hS hE (runs_plain rfl) (Gives.p hE rfl) rfl ?_; clear hE a; intro a hE
                      refine WL.vS hS hE (runs_plain rfl) (Gives.p hE rfl) rfl ?_; clear hE a; intro a hE
                      refine WL.vS hS hE (runs_plain rfl) (Gives.p hE rfl) rfl ?_; clear hE a; intro a hE
                      refine WL.vS hS hE (runs_plain rfl) (Gives.p hE rfl) rfl ?_; clear hE a; intro a hE
                      rcases Bool.eq_false_or_eq_true (decide ((w64 (Int.fdiv (IntKind.wrap .u64 (w64 (x1 + x3))) (2 ^ (min (Int.toNat 1) (IntKind.bits .u64))))) < (w64 ((w64 ((w64 (Int.fdiv (IntKind.wrap .u64 (w64 (x1 + x3))) (2 ^ (min (Int.toNat 1) (IntKind.bits .u64))))) + x2)) - q265)))) with hg331 | hg331
                      · replace hq325 := iteT hg331 hq325
                        refine WL.vS hS hE (runs_if hE rfl rfl rfl hg331) (Gives.p hE rfl) rfl ?_; clear hE a; intro a hE
                        refine WL.vS hS hE (runs_if hE rfl rfl rfl hg331) (Gives.p hE rfl) rfl ?_; clear hE a; intro a hE
                        refine WL.vS hS hE (runs_if hE rfl rfl rfl hg331) (Gives.p hE rfl) rfl ?_; clear hE a; intro a hE
                        refine WL.vS hS hE (runs_plain rfl) (Gives.pickT hE rfl hg331 rfl) rfl ?_; clear hE a; intro a hE
                        refine WL.nil ?_
                        subst hK330
                        exact ⟨decide ((w64 ((w64 ((w64 (Int.fdiv (IntKind.wrap .u64 (w64 (x1 + x3))) (2 ^ (min (Int.toNat 1) (IntKind.bits .u64))))) + x2)) - q265)) < x3), hq325, hE.pick _ ⟨rfl, rfl, rfl, rfl, rfl, rfl, trivial⟩, hS⟩
                      · replace hq325 := iteF hg331 hq325
                        refine WL.no hE (runs_not hE rfl rfl rfl (by rw [hg331]; decide)) rfl ?_; clear hE a; intro a hE
                        refine WL.no hE (runs_not hE rfl rfl rfl (by rw [hg331]; decide)) rfl ?_; clear hE a; intro a hE
                        refine WL.no hE (runs_not hE rfl rfl rfl (by rw [hg331]; decide)) rfl ?_; clear hE a; intro a hE
                        refine WL.vS hS hE (runs_plain rfl) (Gives.pickF hE rfl hg331 rfl) rfl ?_; clear hE a; intro a hE
                        refine WL.nil ?_
                        subst hK330
                        exact ⟨false, hq325, hE.pick _ ⟨rfl, rfl, rfl, rfl, rfl, rfl, trivial⟩, hS⟩
                    · clear hE hS a w; rintro a w ⟨q329, rfl, hE, hS⟩
                      refine W.cond hE rfl (fun hc332 => ?_) (fun hc332 => ?_)
                      · replace hr := iteT hc332 hr
                        refine W.region ?_
                        refine WL.vS hS hE (runs_plain rfl) (Gives.p hE rfl) rfl ?_; clear hE a; intro a hE
                        refine WL.vS hS hE (runs_plain rfl) (Gives.p hE rfl) rfl ?_; clear hE a; intro a hE
                        refine WL.vS hS hE (runs_plain rfl) (Gives.p hE rfl) rfl ?_; clear hE a; intro a hE
                        refine WL.vS hS hE (runs_plain rfl) (Gives.p hE rfl) rfl ?_; clear hE a; intro a hE
                        refine WL.vS hS hE (runs_plain rfl) (Gives.p hE rfl) rfl ?_; clear hE a; intro a hE
                        obtain ⟨q333, hq334, hr⟩ := bindS hr
                        have hc_ := ih_SlicessymMergeCmpFuncint_v1 hS h323 hn324 h_y0_0 hq334
                        refine WL.fnq hE (hc_) (runs_plain rfl) bd160 rfl rfl rfl ?_
                        clear hE hS hc_; rintro e w ⟨cs335, rfl, h336, hn337, hS⟩; refine ⟨_, rfl, ?_⟩; clear a; intro a hE
                        refine WL.nil ?_
                        refine finG (fn := Try.f160) (rs := []) (vs := []) hE rfl trivial ?_
                        obtain rfl := Option.some.inj hr
                        exact ⟨cs335, rfl, h336, hn337, hS⟩
                      · replace hr := iteF hc332 hr
                        refine W.skip ?_
                        refine finG (fn := Try.f160) (rs := []) (vs := []) hE rfl trivial ?_
                        obtain rfl := Option.some.inj hr
                        exact ⟨cs322, rfl, h323, hn324, hS⟩
                  · replace hr := iteF hc319 hr
                    refine W.skip ?_
                    refine W.seq ?_
                    obtain ⟨q339, hq338, hr⟩ := bndS hr
                    refine W.cut (fun a w => ∃ (q342 : Bool), q342 = q339 ∧ Rep a 220 [(0, .slice a_v0 x0.length c_v0), (3, .int .i64 x3), (4, .func (.func 104) #[] #[.pointer (some ⟨pb0, 0, none⟩)]), (18, .int .i64 (w64 (Int.fdiv (IntKind.wrap .u64 (w64 (x1 + x3))) (2 ^ (min (Int.toNat 1) (IntKind.bits .u64)))))), (24, .int .i64 (w64 ((w64 ((w64 (Int.fdiv (IntKind.wrap .u64 (w64 (x1 + x3))) (2 ^ (min (Int.toNat 1) (IntKind.bits .u64))))) + x2)) - q265))), (213, .bool q342)] ∧ St w s (pt pb0 (.cells #[.slice a_y0_0 y0.length c_y0_0] 32 (0, 0)) :: vecC 3 1 a_v0 c_v0 x0.length cs309 :: R)) ?_ ?_
                    · refine W.gen fun K343 hK343 => ?_
                      refine W.region ?_
                      refine WL.vS hS hE (runs_plain rfl) (Gives.p hE rfl) rfl ?_; clear hE a; intro a hE
                      refine WL.vS hS hE (runs_plain rfl) (Gives.p hE rfl) rfl ?_; clear hE a; intro a hE
                      refine WL.vS hS hE (runs_plain rfl) (Gives.p hE rfl) rfl ?_; clear hE a; intro a hE
                      refine WL.vS hS hE (runs_plain rfl) (Gives.p hE rfl) rfl ?_; clear hE a; intro a hE
                      rcases Bool.eq_false_or_eq_true (decide ((w64 (Int.fdiv (IntKind.wrap .u64 (w64 (x1 + x3))) (2 ^ (min (Int.toNat 1) (IntKind.bits .u64))))) < (w64 ((w64 ((w64 (Int.fdiv (IntKind.wrap .u64 (w64 (x1 + x3))) (2 ^ (min (Int.toNat 1) (IntKind.bits .u64))))) + x2)) - q265)))) with hg344 | hg344
                      · replace hq338 := iteT hg344 hq338
                        refine WL.vS hS hE (runs_if hE rfl rfl rfl hg344) (Gives.p hE rfl) rfl ?_; clear hE a; intro a hE
                        refine WL.vS hS hE (runs_if hE rfl rfl rfl hg344) (Gives.p hE rfl) rfl ?_; clear hE a; intro a hE
                        refine WL.vS hS hE (runs_if hE rfl rfl rfl hg344) (Gives.p hE rfl) rfl ?_; clear hE a; intro a hE
                        refine WL.vS hS hE (runs_plain rfl) (Gives.pickT hE rfl hg344 rfl) rfl ?_; clear hE a; intro a hE
                        refine WL.nil ?_
                        subst hK343
                        exact ⟨decide ((w64 ((w64 ((w64 (Int.fdiv (IntKind.wrap .u64 (w64 (x1 + x3))) (2 ^ (min (Int.toNat 1) (IntKind.bits .u64))))) + x2)) - q265)) < x3), hq338, hE.pick _ ⟨rfl, rfl, rfl, rfl, rfl, rfl, trivial⟩, hS⟩
                      · replace hq338 := iteF hg344 hq338
                        refine WL.no hE (runs_not hE rfl rfl rfl (by rw [hg344]; decide)) rfl ?_; clear hE a; intro a hE
                        refine WL.no hE (runs_not hE rfl rfl rfl (by rw [hg344]; decide)) rfl ?_; clear hE a; intro a hE
                        refine WL.no hE (runs_not hE rfl rfl rfl (by rw [hg344]; decide)) rfl ?_; clear hE a; intro a hE
                        refine WL.vS hS hE (runs_plain rfl) (Gives.pickF hE rfl hg344 rfl) rfl ?_; clear hE a; intro a hE
                        refine WL.nil ?_
                        subst hK343
                        exact ⟨false, hq338, hE.pick _ ⟨rfl, rfl, rfl, rfl, rfl, rfl, trivial⟩, hS⟩
                    · clear hE hS a w; rintro a w ⟨q342, rfl, hE, hS⟩
                      refine W.cond hE rfl (fun hc345 => ?_) (fun hc345 => ?_)
                      · replace hr := iteT hc345 hr
                        refine W.region ?_
                        refine WL.vS hS hE (runs_plain rfl) (Gives.p hE rfl) rfl ?_; clear hE a; intro a hE
                        refine WL.vS hS hE (runs_plain rfl) (Gives.p hE rfl) rfl ?_; clear hE a; intro a hE
                        refine WL.vS hS hE (runs_plain rfl) (Gives.p hE rfl) rfl ?_; clear hE a; intro a hE
                        refine WL.vS hS hE (runs_plain rfl) (Gives.p hE rfl) rfl ?_; clear hE a; intro a hE
                        refine WL.vS hS hE (runs_plain rfl) (Gives.p hE rfl) rfl ?_; clear hE a; intro a hE
                        obtain ⟨q346, hq347, hr⟩ := bindS hr
                        have hc_ := ih_SlicessymMergeCmpFuncint_v1 hS h310 hn311 h_y0_0 hq347
                        refine WL.fnq hE (hc_) (runs_plain rfl) bd160 rfl rfl rfl ?_
                        clear hE hS hc_; rintro e w ⟨cs348, rfl, h349, hn350, hS⟩; refine ⟨_, rfl, ?_⟩; clear a; intro a hE
                        refine WL.nil ?_
                        refine finG (fn := Try.f160) (rs := []) (vs := []) hE rfl trivial ?_
                        obtain rfl := Option.some.inj hr
                        exact ⟨cs348, rfl, h349, hn350, hS⟩
                      · replace hr := iteF hc345 hr
                        refine W.skip ?_
                        refine finG (fn := Try.f160) (rs := []) (vs := []) hE rfl trivial ?_
                        obtain rfl := Option.some.inj hr
                        exact ⟨cs309, rfl, h310, hn311, hS⟩
              · replace hr := iteF hc306 hr
                refine W.skip ?_
                refine W.seq ?_
                refine W.seq ?_
                obtain ⟨q352, hq351, hr⟩ := bndS hr
                refine W.cut (fun a w => ∃ (q355 : Bool), q355 = q352 ∧ Rep a 220 [(0, .slice a_v0 x0.length c_v0), (1, .int .i64 x1), (3, .int .i64 x3), (4, .func (.func 104) #[] #[.pointer (some ⟨pb0, 0, none⟩)]), (18, .int .i64 (w64 (Int.fdiv (IntKind.wrap .u64 (w64 (x1 + x3))) (2 ^ (min (Int.toNat 1) (IntKind.bits .u64)))))), (20, .int .i64 q265), (24, .int .i64 (w64 ((w64 ((w64 (Int.fdiv (IntKind.wrap .u64 (w64 (x1 + x3))) (2 ^ (min (Int.toNat 1) (IntKind.bits .u64))))) + x2)) - q265))), (199, .bool q355)] ∧ St w s (pt pb0 (.cells #[.slice a_y0_0 y0.length c_y0_0] 32 (0, 0)) :: vecC 3 1 a_v0 c_v0 x0.length cs_v0 :: R)) ?_ ?_
                · refine W.gen fun K356 hK356 => ?_
                  refine W.region ?_
                  refine WL.vS hS hE (runs_plain rfl) (Gives.p hE rfl) rfl ?_; clear hE a; intro a hE
                  refine WL.vS hS hE (runs_plain rfl) (Gives.p hE rfl) rfl ?_; clear hE a; intro a hE
                  refine WL.vS hS hE (runs_plain rfl) (Gives.p hE rfl) rfl ?_; clear hE a; intro a hE
                  refine WL.vS hS hE (runs_plain rfl) (Gives.p hE rfl) rfl ?_; clear hE a; intro a hE
                  rcases Bool.eq_false_or_eq_true (decide (x1 < q265)) with hg357 | hg357
                  · replace hq351 := iteT hg357 hq351
                    refine WL.vS hS hE (runs_if hE rfl rfl rfl hg357) (Gives.p hE rfl) rfl ?_; clear hE a; intro a hE
                    refine WL.vS hS hE (runs_if hE rfl rfl rfl hg357) (Gives.p hE rfl) rfl ?_; clear hE a; intro a hE
                    refine WL.vS hS hE (runs_if hE rfl rfl rfl hg357) (Gives.p hE rfl) rfl ?_; clear hE a; intro a hE
                    refine WL.vS hS hE (runs_plain rfl) (Gives.pickT hE rfl hg357 rfl) rfl ?_; clear hE a; intro a hE
                    refine WL.nil ?_
                    subst hK356
                    exact ⟨decide (q265 < (w64 (Int.fdiv (IntKind.wrap .u64 (w64 (x1 + x3))) (2 ^ (min (Int.toNat 1) (IntKind.bits .u64)))))), hq351, hE.pick _ ⟨rfl, rfl, rfl, rfl, rfl, rfl, rfl, rfl, trivial⟩, hS⟩
                  · replace hq351 := iteF hg357 hq351
                    refine WL.no hE (runs_not hE rfl rfl rfl (by rw [hg357]; decide)) rfl ?_; clear hE a; intro a hE
                    refine WL.no hE (runs_not hE rfl rfl rfl (by rw [hg357]; decide)) rfl ?_; clear hE a; intro a hE
                    refine WL.no hE (runs_not hE rfl rfl rfl (by rw [hg357]; decide)) rfl ?_; clear hE a; intro a hE
                    refine WL.vS hS hE (runs_plain rfl) (Gives.pickF hE rfl hg357 rfl) rfl ?_; clear hE a; intro a hE
                    refine WL.nil ?_
                    subst hK356
                    exact ⟨false, hq351, hE.pick _ ⟨rfl, rfl, rfl, rfl, rfl, rfl, rfl, rfl, trivial⟩, hS⟩
                · clear hE hS a w; rintro a w ⟨q355, rfl, hE, hS⟩
                  refine W.cond hE rfl (fun hc358 => ?_) (fun hc358 => ?_)
                  · replace hr := iteT hc358 hr
                    refine W.region ?_
                    refine WL.vS hS hE (runs_plain rfl) (Gives.p hE rfl) rfl ?_; clear hE a; intro a hE
                    refine WL.vS hS hE (runs_plain rfl) (Gives.p hE rfl) rfl ?_; clear hE a; intro a hE
                    refine WL.vS hS hE (runs_plain rfl) (Gives.p hE rfl) rfl ?_; clear hE a; intro a hE
                    refine WL.vS hS hE (runs_plain rfl) (Gives.p hE rfl) rfl ?_; clear hE a; intro a hE
                    refine WL.vS hS hE (runs_plain rfl) (Gives.p hE rfl) rfl ?_; clear hE a; intro a hE
                    obtain ⟨q359, hq360, hr⟩ := bindS hr
                    have hc_ := ih_SlicessymMergeCmpFuncint_v1 hS h_v0 (rfl) h_y0_0 hq360
                    refine WL.fnq hE (hc_) (runs_plain rfl) bd160 rfl rfl rfl ?_
                    clear hE hS hc_; rintro e w ⟨cs361, rfl, h362, hn363, hS⟩; refine ⟨_, rfl, ?_⟩; clear a; intro a hE
                    refine WL.nil ?_
                    refine W.seq ?_
                    obtain ⟨q365, hq364, hr⟩ := bndS hr
                    refine W.cut (fun a w => ∃ (q368 : Bool), q368 = q365 ∧ Rep a 220 [(0, .slice a_v0 x0.length c_v0), (3, .int .i64 x3), (4, .func (.func 104) #[] #[.pointer (some ⟨pb0, 0, none⟩)]), (18, .int .i64 (w64 (Int.fdiv (IntKind.wrap .u64 (w64 (x1 + x3))) (2 ^ (min (Int.toNat 1) (IntKind.bits .u64)))))), (24, .int .i64 (w64 ((w64 ((w64 (Int.fdiv (IntKind.wrap .u64 (w64 (x1 + x3))) (2 ^ (min (Int.toNat 1) (IntKind.bits .u64))))) + x2)) - q265))), (213, .bool q368)] ∧ St w s (pt pb0 (.cells #[.slice a_y0_0 y0.length c_y0_0] 32 (0, 0)) :: vecC 3 1 a_v0 c_v0 x0.length cs361 :: R)) ?_ ?_
                    · refine W.gen fun K369 hK369 => ?_
                      refine W.region ?_
                      refine WL.vS hS hE (runs_plain rfl) (Gives.p hE rfl) rfl ?_; clear hE a; intro a hE
                      refine WL.vS hS hE (runs_plain rfl) (Gives.p hE rfl) rfl ?_; clear hE a; intro a hE
                      refine WL.vS hS hE (runs_plain rfl) (Gives.p hE rfl) rfl ?_; clear hE a; intro a hE
                      refine WL.vS hS hE (runs_plain rfl) (Gives.p hE rfl) rfl ?_; clear hE a; intro a hE
                      rcases Bool.eq_false_or_eq_true (decide ((w64 (Int.fdiv (IntKind.wrap .u64 (w64 (x1 + x3))) (2 ^ (min (Int.toNat 1) (IntKind.bits .u64))))) < (w64 ((w64 ((w64 (Int.fdiv (IntKind.wrap .u64 (w64 (x1 + x3))) (2 ^ (min (Int.toNat 1) (IntKind.bits .u64))))) + x2)) - q265)))) with hg370 | hg370
                      · replace hq364 := iteT hg370 hq364
                        refine WL.vS hS hE (runs_if hE rfl rfl rfl hg370) (Gives.p hE rfl) rfl ?_; clear hE a; intro a hE
                        refine WL.vS hS hE (runs_if hE rfl rfl rfl hg370) (Gives.p hE rfl) rfl ?_; clear hE a; intro a hE
                        refine WL.vS hS hE (runs_if hE rfl rfl rfl hg370) (Gives.p hE rfl) rfl ?_; clear hE a; intro a hE
                        refine WL.vS hS hE (runs_plain rfl) (Gives.pickT hE rfl hg370 rfl) rfl ?_; clear hE a; intro a hE
                        refine WL.nil ?_
                        subst hK369
                        exact ⟨decide ((w64 ((w64 ((w64 (Int.fdiv (IntKind.wrap .u64 (w64 (x1 + x3))) (2 ^ (min (Int.toNat 1) (IntKind.bits .u64))))) + x2)) - q265)) < x3), hq364, hE.pick _ ⟨rfl, rfl, rfl, rfl, rfl, rfl, trivial⟩, hS⟩
                      · replace hq364 := iteF hg370 hq364
                        refine WL.no hE (runs_not hE rfl rfl rfl (by rw [hg370]; decide)) rfl ?_; clear hE a; intro a hE
                        refine WL.no hE (runs_not hE rfl rfl rfl (by rw [hg370]; decide)) rfl ?_; clear hE a; intro a hE
                        refine WL.no hE (runs_not hE rfl rfl rfl (by rw [hg370]; decide)) rfl ?_; clear hE a; intro a hE
                        refine WL.vS hS hE (runs_plain rfl) (Gives.pickF hE rfl hg370 rfl) rfl ?_; clear hE a; intro a hE
                        refine WL.nil ?_
                        subst hK369
                        exact ⟨false, hq364, hE.pick _ ⟨rfl, rfl, rfl, rfl, rfl, rfl, trivial⟩, hS⟩
                    · clear hE hS a w; rintro a w ⟨q368, rfl, hE, hS⟩
                      refine W.cond hE rfl (fun hc371 => ?_) (fun hc371 => ?_)
                      · replace hr := iteT hc371 hr
                        refine W.region ?_
                        refine WL.vS hS hE (runs_plain rfl) (Gives.p hE rfl) rfl ?_; clear hE a; intro a hE
                        refine WL.vS hS hE (runs_plain rfl) (Gives.p hE rfl) rfl ?_; clear hE a; intro a hE
                        refine WL.vS hS hE (runs_plain rfl) (Gives.p hE rfl) rfl ?_; clear hE a; intro a hE
                        refine WL.vS hS hE (runs_plain rfl) (Gives.p hE rfl) rfl ?_; clear hE a; intro a hE
                        refine WL.vS hS hE (runs_plain rfl) (Gives.p hE rfl) rfl ?_; clear hE a; intro a hE
                        obtain ⟨q372, hq373, hr⟩ := bindS hr
                        have hc_ := ih_SlicessymMergeCmpFuncint_v1 hS h362 hn363 h_y0_0 hq373
                        refine WL.fnq hE (hc_) (runs_plain rfl) bd160 rfl rfl rfl ?_
                        clear hE hS hc_; rintro e w ⟨cs374, rfl, h375, hn376, hS⟩; refine ⟨_, rfl, ?_⟩; clear a; intro a hE
                        refine WL.nil ?_
                        refine finG (fn := Try.f160) (rs := []) (vs := []) hE rfl trivial ?_
                        obtain rfl := Option.some.inj hr
                        exact ⟨cs374, rfl, h375, hn376, hS⟩
                      · replace hr := iteF hc371 hr
                        refine W.skip ?_
                        refine finG (fn := Try.f160) (rs := []) (vs := []) hE rfl trivial ?_
                        obtain rfl := Option.some.inj hr
                        exact ⟨cs361, rfl, h362, hn363, hS⟩
                  · replace hr := iteF hc358 hr
                    refine W.skip ?_
                    refine W.seq ?_
                    obtain ⟨q378, hq377, hr⟩ := bndS hr
                    refine W.cut (fun a w => ∃ (q381 : Bool), q381 = q378 ∧ Rep a 220 [(0, .slice a_v0 x0.length c_v0), (3, .int .i64 x3), (4, .func (.func 104) #[] #[.pointer (some ⟨pb0, 0, none⟩)]), (18, .int .i64 (w64 (Int.fdiv (IntKind.wrap .u64 (w64 (x1 + x3))) (2 ^ (min (Int.toNat 1) (IntKind.bits .u64)))))), (24, .int .i64 (w64 ((w64 ((w64 (Int.fdiv (IntKind.wrap .u64 (w64 (x1 + x3))) (2 ^ (min (Int.toNat 1) (IntKind.bits .u64))))) + x2)) - q265))), (213, .bool q381)] ∧ St w s (pt pb0 (.cells #[.slice a_y0_0 y0.length c_y0_0] 32 (0, 0)) :: vecC 3 1 a_v0 c_v0 x0.length cs_v0 :: R)) ?_ ?_
                    · refine W.gen fun K382 hK382 => ?_
                      refine W.region ?_
                      refine WL.vS hS hE (runs_plain rfl) (Gives.p hE rfl) rfl ?_; clear hE a; intro a hE
                      refine WL.vS hS hE (runs_plain rfl) (Gives.p hE rfl) rfl ?_; clear hE a; intro a hE
                      refine WL.vS hS hE (runs_plain rfl) (Gives.p hE rfl) rfl ?_; clear hE a; intro a hE
                      refine WL.vS hS hE (runs_plain rfl) (Gives.p hE rfl) rfl ?_; clear hE a; intro a hE
                      rcases Bool.eq_false_or_eq_true (decide ((w64 (Int.fdiv (IntKind.wrap .u64 (w64 (x1 + x3))) (2 ^ (min (Int.toNat 1) (IntKind.bits .u64))))) < (w64 ((w64 ((w64 (Int.fdiv (IntKind.wrap .u64 (w64 (x1 + x3))) (2 ^ (min (Int.toNat 1) (IntKind.bits .u64))))) + x2)) - q265)))) with hg383 | hg383
                      · replace hq377 := iteT hg383 hq377
                        refine WL.vS hS hE (runs_if hE rfl rfl rfl hg383) (Gives.p hE rfl) rfl ?_; clear hE a; intro a hE
                        refine WL.vS hS hE (runs_if hE rfl rfl rfl hg383) (Gives.p hE rfl) rfl ?_; clear hE a; intro a hE
                        refine WL.vS hS hE (runs_if hE rfl rfl rfl hg383) (Gives.p hE rfl) rfl ?_; clear hE a; intro a hE
                        refine WL.vS hS hE (runs_plain rfl) (Gives.pickT hE rfl hg383 rfl) rfl ?_; clear hE a; intro a hE
                        refine WL.nil ?_
                        subst hK382
                        exact ⟨decide ((w64 ((w64 ((w64 (Int.fdiv (IntKind.wrap .u64 (w64 (x1 + x3))) (2 ^ (min (Int.toNat 1) (IntKind.bits .u64))))) + x2)) - q265)) < x3), hq377, hE.pick _ ⟨rfl, rfl, rfl, rfl, rfl, rfl, trivial⟩, hS⟩
                      · replace hq377 := iteF hg383 hq377
                        refine WL.no hE (runs_not hE rfl rfl rfl (by rw [hg383]; decide)) rfl ?_; clear hE a; intro a hE
                        refine WL.no hE (runs_not hE rfl rfl rfl (by rw [hg383]; decide)) rfl ?_; clear hE a; intro a hE
                        refine WL.no hE (runs_not hE rfl rfl rfl (by rw [hg383]; decide)) rfl ?_; clear hE a; intro a hE
                        refine WL.vS hS hE (runs_plain rfl) (Gives.pickF hE rfl hg383 rfl) rfl ?_; clear hE a; intro a hE
                        refine WL.nil ?_
                        subst hK382
                        exact ⟨false, hq377, hE.pick _ ⟨rfl, rfl, rfl, rfl, rfl, rfl, trivial⟩, hS⟩
                    · clear hE hS a w; rintro a w ⟨q381, rfl, hE, hS⟩
                      refine W.cond hE rfl (fun hc384 => ?_) (fun hc384 => ?_)
                      · replace hr := iteT hc384 hr
                        refine W.region ?_
                        refine WL.vS hS hE (runs_plain rfl) (Gives.p hE rfl) rfl ?_; clear hE a; intro a hE
                        refine WL.vS hS hE (runs_plain rfl) (Gives.p hE rfl) rfl ?_; clear hE a; intro a hE
                        refine WL.vS hS hE (runs_plain rfl) (Gives.p hE rfl) rfl ?_; clear hE a; intro a hE
                        refine WL.vS hS hE (runs_plain rfl) (Gives.p hE rfl) rfl ?_; clear hE a; intro a hE
                        refine WL.vS hS hE (runs_plain rfl) (Gives.p hE rfl) rfl ?_; clear hE a; intro a hE
                        obtain ⟨q385, hq386, hr⟩ := bindS hr
                        have hc_ := ih_SlicessymMergeCmpFuncint_v1 hS h_v0 (rfl) h_y0_0 hq386
                        refine WL.fnq hE (hc_) (runs_plain rfl) bd160 rfl rfl rfl ?_
                        clear hE hS hc_; rintro e w ⟨cs387, rfl, h388, hn389, hS⟩; refine ⟨_, rfl, ?_⟩; clear a; intro a hE
                        refine WL.nil ?_
                        refine finG (fn := Try.f160) (rs := []) (vs := []) hE rfl trivial ?_
                        obtain rfl := Option.some.inj hr
                        exact ⟨cs387, rfl, h388, hn389, hS⟩
                      · replace hr := iteF hc384 hr
                        refine W.skip ?_
                        refine finG (fn := Try.f160) (rs := []) (vs := []) hE rfl trivial ?_
                        obtain rfl := Option.some.inj hr
                        exact ⟨cs_v0, rfl, h_v0, (rfl), hS⟩
set_option maxHeartbeats 8000000 in
theorem SlicesstableCmpFuncint_v1_ok {fu : Nat}  {w : World} {s : Sg} {R : List HP} {pb0 : Nat} {x0 : List Int} {a_v0 : Option Addr} {c_v0 n_v0 : Nat} {cs_v0 : List Value} {x1 : Int} {y0 : List FleetTask} {a_y0_0 : Option Addr} {c_y0_0 : Nat} (hS : St w s (pt pb0 (.cells #[.slice a_y0_0 y0.length c_y0_0] 32 (0, 0)) :: vecC 3 1 a_v0 c_v0 n_v0 cs_v0 :: R)) (h_v0 : Ev 1 (RI .i64) s cs_v0 x0) (hn_v0 : x0.length = n_v0) (h_y0_0 : Sl 6 RFleetTask s a_y0_0 c_y0_0 y0) {r : (List Int)} (hr : SlicesstableCmpFuncint_v1 fu x0 x1 y0 = some r) :
    Calls Try.prog 129 [.slice a_v0 n_v0 c_v0, .int .i64 x1, .func (.func 104) #[] #[.pointer (some ⟨pb0, 0, none⟩)]].toArray w (fun e w => ∃ (cs55 : List Value), e = .returned (.tuple #[]) ∧ Ev 1 (RI .i64) s cs55 r ∧ r.length = n_v0 ∧ St w s (pt pb0 (.cells #[.slice a_y0_0 y0.length c_y0_0] 32 (0, 0)) :: vecC 3 1 a_v0 c_v0 n_v0 cs55 :: R)) := by
  refine enter Try.func129 rfl rfl rfl fun a hE => ?_
  rw [SlicesstableCmpFuncint_v1] at hr
  subst hn_v0
  refine W.seq ?_
  refine W.region ?_
  refine WL.vS hS hE (runs_plain rfl) (Gives.p hE rfl) rfl ?_; clear hE a; intro a hE
  refine WL.nil ?_
  refine W.seq ?_
  refine W.region ?_
  refine WL.vS hS hE (runs_plain rfl) (Gives.p hE rfl) rfl ?_; clear hE a; intro a hE
  refine WL.vS hS hE (runs_plain rfl) (Gives.p hE rfl) rfl ?_; clear hE a; intro a hE
  refine WL.vS hS hE (runs_plain rfl) (Gives.p hE rfl) rfl ?_; clear hE a; intro a hE
  refine WL.nil ?_
  refine W.seq ?_
  obtain ⟨q58, hq57, hr⟩ := bindS hr
  refine W.cut (fun a w => ∃ (q63 : Int), ∃ (q64 : Int), ∃ (q65 : List Int), ∃ (cs69 : List Value), (q63, q64, q65) = q58 ∧ Ev 1 (RI .i64) s cs69 q65 ∧ q65.length = x0.length ∧ Rep a 63 [(0, .slice a_v0 x0.length c_v0), (1, .int .i64 x1), (2, .func (.func 104) #[] #[.pointer (some ⟨pb0, 0, none⟩)]), (6, .int .i64 20), (7, .int .i64 q63)] ∧ St w s (pt pb0 (.cells #[.slice a_y0_0 y0.length c_y0_0] 32 (0, 0)) :: vecC 3 1 a_v0 c_v0 x0.length cs69 :: R)) ?_ ?_
  · refine W.block ?_
    refine W.loop (fun m a w => ∃ (n59 : Nat), ∃ (q63 : Int), ∃ (q64 : Int), ∃ (q65 : List Int), ∃ (cs69 : List Value), n59 = m ∧ SlicesstableCmpFuncint_v1.loop1 x1 y0 fu n59 q63 q64 q65 = some q58 ∧ Ev 1 (RI .i64) s cs69 q65 ∧ q65.length = x0.length ∧ Rep a 63 [(0, .slice a_v0 x0.length c_v0), (1, .int .i64 x1), (2, .func (.func 104) #[] #[.pointer (some ⟨pb0, 0, none⟩)]), (6, .int .i64 20), (7, .int .i64 q63), (8, .int .i64 q64)] ∧ St w s (pt pb0 (.cells #[.slice a_y0_0 y0.length c_y0_0] 32 (0, 0)) :: vecC 3 1 a_v0 c_v0 x0.length cs69 :: R)) (m := fu) ⟨fu, 0, 20, x0, cs_v0, rfl, hq57, h_v0, (rfl), hE.pick _ ⟨rfl, rfl, rfl, rfl, rfl, rfl, trivial⟩, hS⟩ ?_
    clear hE hS a w hq57; rintro m60 a w ⟨n59, q63, q64, q65, cs69, rfl, hq57, h68, hn70, hE, hS⟩
    refine W.gen fun K71 hK71 => ?_
    rcases n59 with _ | n59
    · rw [SlicesstableCmpFuncint_v1.loop1] at hq57; exact absurd hq57 (by simp)
    rw [SlicesstableCmpFuncint_v1.loop1] at hq57
    refine W.seq ?_
    refine W.seq ?_
    refine W.region ?_
    refine WL.vS hS hE (runs_plain rfl) (Gives.p hE rfl) rfl ?_; clear hE a; intro a hE
    refine WL.vS hS hE (runs_plain rfl) (Gives.p hE rfl) rfl ?_; clear hE a; intro a hE
    refine WL.vS hS hE (runs_plain rfl) (Gives.p hE rfl) rfl ?_; clear hE a; intro a hE
    refine WL.nil ?_
    refine W.cond hE rfl (fun hc72 => ?_) (fun hc72 => ?_)
    · replace hq57 := iteT hc72 hq57
      refine W.skip ?_
      refine W.block ?_
      refine W.seq ?_
      refine W.region ?_
      refine WL.vS hS hE (runs_plain rfl) (Gives.p hE rfl) rfl ?_; clear hE a; intro a hE
      refine WL.vS hS hE (runs_plain rfl) (Gives.p hE rfl) rfl ?_; clear hE a; intro a hE
      refine WL.vS hS hE (runs_plain rfl) (Gives.p hE rfl) rfl ?_; clear hE a; intro a hE
      refine WL.vS hS hE (runs_plain rfl) (Gives.p hE rfl) rfl ?_; clear hE a; intro a hE
      obtain ⟨q73, hq74, hq57⟩ := bindS hq57
      have hc_ := SlicesinsertionSortCmpFuncint_v1_ok hS h68 hn70 h_y0_0 hq74
      refine WL.fnq hE (hc_) (runs_plain rfl) bd159 rfl rfl rfl ?_
      clear hE hS hc_; rintro e w ⟨cs75, rfl, h76, hn77, hS⟩; refine ⟨_, rfl, ?_⟩; clear a; intro a hE
      refine WL.nil ?_
      refine W.seq ?_
      refine W.region ?_
      refine WL.vS hS hE (runs_plain rfl) (Gives.p hE rfl) rfl ?_; clear hE a; intro a hE
      refine WL.vS hS hE (runs_plain rfl) (Gives.p hE rfl) rfl ?_; clear hE a; intro a hE
      refine WL.nil ?_
      refine W.region ?_
      refine WL.vS hS hE (runs_plain rfl) (Gives.p hE rfl) rfl ?_; clear hE a; intro a hE
      refine WL.vS hS hE (runs_plain rfl) (Gives.p hE rfl) rfl ?_; clear hE a; intro a hE
      refine WL.vS hS hE (runs_plain rfl) (Gives.p hE rfl) rfl ?_; clear hE a; intro a hE
      refine WL.vS hS hE (runs_plain rfl) (Gives.p hE rfl) rfl ?_; clear hE a; intro a hE
      refine WL.nil ?_
      subst hK71
      exact ⟨n59, Nat.lt_succ_self _, n59, q64, (w64 (q64 + 20)), q73, cs75, rfl, hq57, h76, hn77, hE.pick _ ⟨rfl, rfl, rfl, rfl, rfl, rfl, trivial⟩, hS⟩
    · replace hq57 := iteF hc72 hq57
      subst hK71
      refine W.exit rfl ?_
      exact ⟨q63, q64, q65, cs69, Option.some.inj hq57, h68, hn70, hE.pick _ ⟨rfl, rfl, rfl, rfl, rfl, trivial⟩, hS⟩
  · clear hE hS a w; rintro a w ⟨q63, q64, q65, cs69, rfl, h68, hn70, hE, hS⟩
    dsimp only at hr
    refine W.seq ?_
    refine W.region ?_
    refine WL.vS hS hE (runs_plain rfl) (Gives.p hE rfl) rfl ?_; clear hE a; intro a hE
    refine WL.vS hS hE (runs_plain rfl) (Gives.p hE rfl) rfl ?_; clear hE a; intro a hE
    refine WL.vS hS hE (runs_plain rfl) (Gives.p hE rfl) rfl ?_; clear hE a; intro a hE
    refine WL.vS hS hE (runs_plain rfl) (Gives.p hE rfl) rfl ?_; clear hE a; intro a hE
    obtain ⟨q78, hq79, hr⟩ := bindS hr
    have hc_ := SlicesinsertionSortCmpFuncint_v1_ok hS h68 hn70 h_y0_0 hq79
    refine WL.fnq hE (hc_) (runs_plain rfl) bd159 rfl rfl rfl ?_
    clear hE hS hc_; rintro e w ⟨cs80, rfl, h81, hn82, hS⟩; refine ⟨_, rfl, ?_⟩; clear a; intro a hE
    refine WL.nil ?_
    obtain ⟨q84, hq83, hr⟩ := bindS hr
    refine W.cut (fun a w => ∃ (q89 : Int), ∃ (q90 : List Int), ∃ (cs94 : List Value), (q89, q90) = q84 ∧ Ev 1 (RI .i64) s cs94 q90 ∧ q90.length = x0.length ∧ Rep a 63 [] ∧ St w s (pt pb0 (.cells #[.slice a_y0_0 y0.length c_y0_0] 32 (0, 0)) :: vecC 3 1 a_v0 c_v0 x0.length cs94 :: R)) ?_ ?_
    · refine W.block ?_
      refine W.loop (fun m a w => ∃ (n85 : Nat), ∃ (q89 : Int), ∃ (q90 : List Int), ∃ (cs94 : List Value), n85 = m ∧ SlicesstableCmpFuncint_v1.loop2 x1 y0 fu n85 q89 q90 = some q84 ∧ Ev 1 (RI .i64) s cs94 q90 ∧ q90.length = x0.length ∧ Rep a 63 [(0, .slice a_v0 x0.length c_v0), (1, .int .i64 x1), (2, .func (.func 104) #[] #[.pointer (some ⟨pb0, 0, none⟩)]), (6, .int .i64 q89)] ∧ St w s (pt pb0 (.cells #[.slice a_y0_0 y0.length c_y0_0] 32 (0, 0)) :: vecC 3 1 a_v0 c_v0 x0.length cs94 :: R)) (m := fu) ⟨fu, 20, q78, cs80, rfl, hq83, h81, hn82, hE.pick _ ⟨rfl, rfl, rfl, rfl, trivial⟩, hS⟩ ?_
      clear hE hS a w hq83; rintro m86 a w ⟨n85, q89, q90, cs94, rfl, hq83, h93, hn95, hE, hS⟩
      refine W.gen fun K96 hK96 => ?_
      rcases n85 with _ | n85
      · rw [SlicesstableCmpFuncint_v1.loop2] at hq83; exact absurd hq83 (by simp)
      rw [SlicesstableCmpFuncint_v1.loop2] at hq83
      refine W.seq ?_
      refine W.seq ?_
      refine W.region ?_
      refine WL.vS hS hE (runs_plain rfl) (Gives.p hE rfl) rfl ?_; clear hE a; intro a hE
      refine WL.vS hS hE (runs_plain rfl) (Gives.p hE rfl) rfl ?_; clear hE a; intro a hE
      refine WL.vS hS hE (runs_plain rfl) (Gives.p hE rfl) rfl ?_; clear hE a; intro a hE
      refine WL.nil ?_
      refine W.cond hE rfl (fun hc97 => ?_) (fun hc97 => ?_)
      · replace hq83 := iteT hc97 hq83
        refine W.skip ?_
        refine W.block ?_
        refine W.seq ?_
        refine W.region ?_
        refine WL.vS hS hE (runs_plain rfl) (Gives.p hE rfl) rfl ?_; clear hE a; intro a hE
        refine WL.vS hS hE (runs_plain rfl) (Gives.p hE rfl) rfl ?_; clear hE a; intro a hE
        refine WL.vS hS hE (runs_plain rfl) (Gives.p hE rfl) rfl ?_; clear hE a; intro a hE
        refine WL.vS hS hE (runs_plain rfl) (Gives.p hE rfl) rfl ?_; clear hE a; intro a hE
        refine WL.nil ?_
        refine W.seq ?_
        obtain ⟨q99, hq98, hq83⟩ := bindS hq83
        refine W.cut (fun a w => ∃ (q104 : Int), ∃ (q105 : Int), ∃ (q106 : List Int), ∃ (cs110 : List Value), (q104, q105, q106) = q99 ∧ Ev 1 (RI .i64) s cs110 q106 ∧ q106.length = x0.length ∧ Rep a 63 [(0, .slice a_v0 x0.length c_v0), (1, .int .i64 x1), (2, .func (.func 104) #[] #[.pointer (some ⟨pb0, 0, none⟩)]), (6, .int .i64 q89), (7, .int .i64 q104)] ∧ St w s (pt pb0 (.cells #[.slice a_y0_0 y0.length c_y0_0] 32 (0, 0)) :: vecC 3 1 a_v0 c_v0 x0.length cs110 :: R)) ?_ ?_
        · refine W.block ?_
          refine W.loop (fun m a w => ∃ (n100 : Nat), ∃ (q104 : Int), ∃ (q105 : Int), ∃ (q106 : List Int), ∃ (cs110 : List Value), n100 = m ∧ SlicesstableCmpFuncint_v1.loop3 x1 y0 fu q89 n100 q104 q105 q106 = some q99 ∧ Ev 1 (RI .i64) s cs110 q106 ∧ q106.length = x0.length ∧ Rep a 63 [(0, .slice a_v0 x0.length c_v0), (1, .int .i64 x1), (2, .func (.func 104) #[] #[.pointer (some ⟨pb0, 0, none⟩)]), (6, .int .i64 q89), (7, .int .i64 q104), (8, .int .i64 q105)] ∧ St w s (pt pb0 (.cells #[.slice a_y0_0 y0.length c_y0_0] 32 (0, 0)) :: vecC 3 1 a_v0 c_v0 x0.length cs110 :: R)) (m := fu) ⟨fu, 0, (w64 (2 * q89)), q90, cs94, rfl, hq98, h93, hn95, hE.pick _ ⟨rfl, rfl, rfl, rfl, rfl, rfl, trivial⟩, hS⟩ ?_
          clear hE hS a w hq98; rintro m101 a w ⟨n100, q104, q105, q106, cs110, rfl, hq98, h109, hn111, hE, hS⟩
          refine W.gen fun K112 hK112 => ?_
          rcases n100 with _ | n100
          · rw [SlicesstableCmpFuncint_v1.loop3] at hq98; exact absurd hq98 (by simp)
          rw [SlicesstableCmpFuncint_v1.loop3] at hq98
          refine W.seq ?_
          refine W.seq ?_
          refine W.region ?_
          refine WL.vS hS hE (runs_plain rfl) (Gives.p hE rfl) rfl ?_; clear hE a; intro a hE
          refine WL.vS hS hE (runs_plain rfl) (Gives.p hE rfl) rfl ?_; clear hE a; intro a hE
          refine WL.vS hS hE (runs_plain rfl) (Gives.p hE rfl) rfl ?_; clear hE a; intro a hE
          refine WL.nil ?_
          refine W.cond hE rfl (fun hc113 => ?_) (fun hc113 => ?_)
          · replace hq98 := iteT hc113 hq98
            refine W.skip ?_
            refine W.block ?_
            refine W.seq ?_
            refine W.region ?_
            refine WL.vS hS hE (runs_plain rfl) (Gives.p hE rfl) rfl ?_; clear hE a; intro a hE
            refine WL.vS hS hE (runs_plain rfl) (Gives.p hE rfl) rfl ?_; clear hE a; intro a hE
            refine WL.vS hS hE (runs_plain rfl) (Gives.p hE rfl) rfl ?_; clear hE a; intro a hE
            refine WL.vS hS hE (runs_plain rfl) (Gives.p hE rfl) rfl ?_; clear hE a; intro a hE
            refine WL.vS hS hE (runs_plain rfl) (Gives.p hE rfl) rfl ?_; clear hE a; intro a hE
            refine WL.vS hS hE (runs_plain rfl) (Gives.p hE rfl) rfl ?_; clear hE a; intro a hE
            refine WL.vS hS hE (runs_plain rfl) (Gives.p hE rfl) rfl ?_; clear hE a; intro a hE
            obtain ⟨q114, hq115, hq98⟩ := bindS hq98
            have hc_ := SlicessymMergeCmpFuncint_v1_ok hS h109 hn111 h_y0_0 hq115
            refine WL.fnq hE (hc_) (runs_plain rfl) bd160 rfl rfl rfl ?_
            clear hE hS hc_; rintro e w ⟨cs116, rfl, h117, hn118, hS⟩; refine ⟨_, rfl, ?_⟩; clear a; intro a hE
            refine WL.nil ?_
            refine W.seq ?_
            refine W.region ?_
            refine WL.vS hS hE (runs_plain rfl) (Gives.p hE rfl) rfl ?_; clear hE a; intro a hE
            refine WL.vS hS hE (runs_plain rfl) (Gives.p hE rfl) rfl ?_; clear hE a; intro a hE
            refine WL.nil ?_
            refine W.region ?_
            refine WL.vS hS hE (runs_plain rfl) (Gives.p hE rfl) rfl ?_; clear hE a; intro a hE
            refine WL.vS hS hE (runs_plain rfl) (Gives.p hE rfl) rfl ?_; clear hE a; intro a hE
            refine WL.vS hS hE (runs_plain rfl) (Gives.p hE rfl) rfl ?_; clear hE a; intro a hE
            refine WL.vS hS hE (runs_plain rfl) (Gives.p hE rfl) rfl ?_; clear hE a; intro a hE
            refine WL.vS hS hE (runs_plain rfl) (Gives.p hE rfl) rfl ?_; clear hE a; intro a hE
            refine WL.nil ?_
            subst hK112
            exact ⟨n100, Nat.lt_succ_self _, n100, q105, (w64 (q105 + (w64 (2 * q89)))), q114, cs116, rfl, hq98, h117, hn118, hE.pick _ ⟨rfl, rfl, rfl, rfl, rfl, rfl, trivial⟩, hS⟩
          · replace hq98 := iteF hc113 hq98
            subst hK112
            refine W.exit rfl ?_
            exact ⟨q104, q105, q106, cs110, Option.some.inj hq98, h109, hn111, hE.pick _ ⟨rfl, rfl, rfl, rfl, rfl, trivial⟩, hS⟩
        · clear hE hS a w; rintro a w ⟨q104, q105, q106, cs110, rfl, h109, hn111, hE, hS⟩
          dsimp only at hq83
          refine W.seq ?_
          refine W.seq ?_
          refine W.region ?_
          refine WL.vS hS hE (runs_plain rfl) (Gives.p hE rfl) rfl ?_; clear hE a; intro a hE
          refine WL.vS hS hE (runs_plain rfl) (Gives.p hE rfl) rfl ?_; clear hE a; intro a hE
          refine WL.vS hS hE (runs_plain rfl) (Gives.p hE rfl) rfl ?_; clear hE a; intro a hE
          refine WL.vS hS hE (runs_plain rfl) (Gives.p hE rfl) rfl ?_; clear hE a; intro a hE
          refine WL.nil ?_
          refine W.seq ?_
          refine W.region ?_
          refine WL.vS hS hE (runs_plain rfl) (Gives.p hE rfl) rfl ?_; clear hE a; intro a hE
          refine WL.vS hS hE (runs_plain rfl) (Gives.p hE rfl) rfl ?_; clear hE a; intro a hE
          refine WL.vS hS hE (runs_plain rfl) (Gives.p hE rfl) rfl ?_; clear hE a; intro a hE
          refine WL.nil ?_
          refine W.cond hE rfl (fun hc119 => ?_) (fun hc119 => ?_)
          · replace hq83 := iteT hc119 hq83
            refine W.region ?_
            refine WL.vS hS hE (runs_plain rfl) (Gives.p hE rfl) rfl ?_; clear hE a; intro a hE
            refine WL.vS hS hE (runs_plain rfl) (Gives.p hE rfl) rfl ?_; clear hE a; intro a hE
            refine WL.vS hS hE (runs_plain rfl) (Gives.p hE rfl) rfl ?_; clear hE a; intro a hE
            refine WL.vS hS hE (runs_plain rfl) (Gives.p hE rfl) rfl ?_; clear hE a; intro a hE
            refine WL.vS hS hE (runs_plain rfl) (Gives.p hE rfl) rfl ?_; clear hE a; intro a hE
            obtain ⟨q120, hq121, hq83⟩ := bindS hq83
            have hc_ := SlicessymMergeCmpFuncint_v1_ok hS h109 hn111 h_y0_0 hq121
            refine WL.fnq hE (hc_) (runs_plain rfl) bd160 rfl rfl rfl ?_
            clear hE hS hc_; rintro e w ⟨cs122, rfl, h123, hn124, hS⟩; refine ⟨_, rfl, ?_⟩; clear a; intro a hE
            refine WL.nil ?_
            refine W.region ?_
            refine WL.vS hS hE (runs_plain rfl) (Gives.p hE rfl) rfl ?_; clear hE a; intro a hE
            refine WL.vS hS hE (runs_plain rfl) (Gives.p hE rfl) rfl ?_; clear hE a; intro a hE
            refine WL.vS hS hE (runs_plain rfl) (Gives.p hE rfl) rfl ?_; clear hE a; intro a hE
            refine WL.nil ?_
            subst hK96
            exact ⟨n85, Nat.lt_succ_self _, n85, (w64 (q89 * 2)), q120, cs122, rfl, hq83, h123, hn124, hE.pick _ ⟨rfl, rfl, rfl, rfl, trivial⟩, hS⟩
          · replace hq83 := iteF hc119 hq83
            refine W.skip ?_
            refine W.region ?_
            refine WL.vS hS hE (runs_plain rfl) (Gives.p hE rfl) rfl ?_; clear hE a; intro a hE
            refine WL.vS hS hE (runs_plain rfl) (Gives.p hE rfl) rfl ?_; clear hE a; intro a hE
            refine WL.vS hS hE (runs_plain rfl) (Gives.p hE rfl) rfl ?_; clear hE a; intro a hE
            refine WL.nil ?_
            subst hK96
            exact ⟨n85, Nat.lt_succ_self _, n85, (w64 (q89 * 2)), q106, cs110, rfl, hq83, h109, hn111, hE.pick _ ⟨rfl, rfl, rfl, rfl, trivial⟩, hS⟩
      · replace hq83 := iteF hc97 hq83
        subst hK96
        refine W.exit rfl ?_
        exact ⟨q89, q90, cs94, Option.some.inj hq83, h93, hn95, hE.pick _ trivial, hS⟩
    · clear hE hS a w; rintro a w ⟨q89, q90, cs94, rfl, h93, hn95, hE, hS⟩
      dsimp only at hr
      refine finG (fn := Try.f129) (rs := []) (vs := []) hE rfl trivial ?_
      obtain rfl := Option.some.inj hr
      exact ⟨cs94, rfl, h93, hn95, hS⟩
set_option maxHeartbeats 8000000 in
theorem SlicesSortStableFuncLint_v1_ok {fu : Nat}  {w : World} {s : Sg} {R : List HP} {pb0 : Nat} {x0 : List Int} {a_v0 : Option Addr} {c_v0 n_v0 : Nat} {cs_v0 : List Value} {y0 : List FleetTask} {a_y0_0 : Option Addr} {c_y0_0 : Nat} (hS : St w s (pt pb0 (.cells #[.slice a_y0_0 y0.length c_y0_0] 32 (0, 0)) :: vecC 3 1 a_v0 c_v0 n_v0 cs_v0 :: R)) (h_v0 : Ev 1 (RI .i64) s cs_v0 x0) (hn_v0 : x0.length = n_v0) (h_y0_0 : Sl 6 RFleetTask s a_y0_0 c_y0_0 y0) {r : (List Int)} (hr : SlicesSortStableFuncLint_v1 fu x0 y0 = some r) :
    Calls Try.prog 103 [.slice a_v0 n_v0 c_v0, .func (.func 104) #[] #[.pointer (some ⟨pb0, 0, none⟩)]].toArray w (fun e w => ∃ (cs55 : List Value), e = .returned (.tuple #[]) ∧ Ev 1 (RI .i64) s cs55 r ∧ r.length = n_v0 ∧ St w s (pt pb0 (.cells #[.slice a_y0_0 y0.length c_y0_0] 32 (0, 0)) :: vecC 3 1 a_v0 c_v0 n_v0 cs55 :: R)) := by
  refine enter Try.func103 rfl rfl rfl fun a hE => ?_
  rw [SlicesSortStableFuncLint_v1] at hr
  subst hn_v0
  refine W.region ?_
  refine WL.vS hS hE (runs_plain rfl) (Gives.p hE rfl) rfl ?_; clear hE a; intro a hE
  refine WL.vS hS hE (runs_plain rfl) (Gives.p hE rfl) rfl ?_; clear hE a; intro a hE
  refine WL.vS hS hE (runs_plain rfl) (Gives.len hE rfl sl44) rfl ?_; clear hE a; intro a hE
  refine WL.vS hS hE (runs_plain rfl) (Gives.p hE rfl) rfl ?_; clear hE a; intro a hE
  obtain ⟨q57, hq58, hr⟩ := bindS hr
  have hc_ := SlicesstableCmpFuncint_v1_ok hS h_v0 (rfl) h_y0_0 hq58
  refine WL.fnq hE (hc_) (runs_plain rfl) bd129 rfl rfl rfl ?_
  clear hE hS hc_; rintro e w ⟨cs59, rfl, h60, hn61, hS⟩; refine ⟨_, rfl, ?_⟩; clear a; intro a hE
  refine WL.nil ?_
  refine finG (fn := Try.f103) (rs := []) (vs := []) hE rfl trivial ?_
  obtain rfl := Option.some.inj hr
  exact ⟨cs59, rfl, h60, hn61, hS⟩
set_option maxHeartbeats 8000000 in
theorem Fleetorder_ok {fu : Nat}  {w : World} {s : Sg} {R : List HP} {x0 : List FleetTask} {a0 : Option Addr} {c0 : Nat} (hS : St w s (R)) (h0 : Sl 6 RFleetTask s a0 c0 x0) {r : (List Int)} (hr : Fleetorder fu x0 = some r) :
    Calls Try.prog 62 [.slice a0 x0.length c0].toArray w (fun e w => ∃ (a0 : Option Addr) (c0 n0 : Nat) (cs0 : List Value), e = .returned (.slice a0 n0 c0) ∧ Ev 1 (RI .i64) s cs0 r ∧ r.length = n0 ∧ St w s (vecC 3 1 a0 c0 n0 cs0 :: R)) := by
  refine enter Try.func62 rfl rfl rfl fun a hE => ?_
  rw [Fleetorder] at hr
  refine W.seq ?_
  refine W.region ?_
  refine WL.box hE hS (runs_plain rfl) rfl rfl rfl ?_; clear hE hS a w; intro b51 a w hE hS
  refine WL.vS hS hE (runs_plain rfl) (Gives.p hE rfl) rfl ?_; clear hE a; intro a hE
  refine WL.nil ?_
  refine W.seq ?_
  refine W.region ?_
  refine WL.vS hS hE (runs_plain rfl) (Gives.loadB hE 0 rfl rfl rfl ty32) rfl ?_; clear hE a; intro a hE
  refine WL.vS hS hE (runs_plain rfl) (Gives.len hE rfl sl32) rfl ?_; clear hE a; intro a hE
  obtain ⟨x52, hx53, hr⟩ := bindS hr
  refine WL.mkD (Rr := RI .i64) hE hS (runs_plain rfl) rfl rfl ap44 zr3 rfl hx53 rfl ?_; clear hE hS a w; intro b54 cs55 a w h56 hE hS
  refine WL.vS hS hE (runs_plain rfl) (Gives.p hE rfl) rfl ?_; clear hE a; intro a hE
  refine WL.nil ?_
  refine W.seq ?_
  refine W.seq ?_
  refine W.region ?_
  refine WL.vS hS hE (runs_plain rfl) (Gives.p hE rfl) rfl ?_; clear hE a; intro a hE
  refine WL.vS hS hE (runs_plain rfl) (Gives.len hE rfl sl44) rfl ?_; clear hE a; intro a hE
  refine WL.vS hS hE (runs_plain rfl) (Gives.p hE rfl) rfl ?_; clear hE a; intro a hE
  refine WL.nil ?_
  have hb69 : x52.length ≤ 9223372036854775807 := by have := hS.vecCap 0 rfl; unfold maxLen at this; omega
  obtain ⟨q59, hq58, hr⟩ := bindS hr
  refine W.cut (fun a w => ∃ (q70 : List Int), ∃ (cs74 : List Value), q70 = q59 ∧ Ev 1 (RI .i64) s cs74 q70 ∧ q70.length = x52.length ∧ Rep a 22 [(1, .pointer (some ⟨b51, 0, none⟩)), (3, .slice (some ⟨b54, 0, none⟩) x52.length x52.length)] ∧ St w s (vecC 3 1 (some ⟨b54, 0, none⟩) x52.length x52.length cs74 :: pt b51 (.cells #[.slice a0 x0.length c0] 32 (0, 0)) :: R)) ?_ ?_
  · refine W.block ?_
    refine W.loop (fun m a w => ∃ (rest62 : Nat) (k60 : Nat), ∃ (q70 : List Int), ∃ (cs74 : List Value), rest62 = m ∧ k60 + rest62 = x52.length ∧ Fleetorder.loop1 rest62 k60 q70 = some q59 ∧ Ev 1 (RI .i64) s cs74 q70 ∧ q70.length = x52.length ∧ Rep a 22 [(1, .pointer (some ⟨b51, 0, none⟩)), (3, .slice (some ⟨b54, 0, none⟩) x52.length x52.length), (9, .int .i64 ((x52.length : Nat) : Int)), (10, .int .i64 ((k60 : Nat) : Int))] ∧ St w s (vecC 3 1 (some ⟨b54, 0, none⟩) x52.length x52.length cs74 :: pt b51 (.cells #[.slice a0 x0.length c0] 32 (0, 0)) :: R)) (m := x52.length) ⟨x52.length, 0, x52, cs55, rfl, by omega, hq58, h56, (rfl), hE.pick _ ⟨rfl, rfl, rfl, rfl, trivial⟩, hS⟩ ?_
    clear hE hS a w hq58; rintro m66 a w ⟨rest62, k60, q70, cs74, rfl, hd63, hq58, h73, hn75, hE, hS⟩
    refine W.gen fun K76 hK76 => ?_
    rcases rest62 with _ | rest62
    · skip
      refine W.seq ?_
      refine W.region ?_
      refine WL.vS hS hE (runs_plain rfl) (Gives.p hE rfl) rfl ?_; clear hE a; intro a hE
      refine WL.nil ?_
      refine W.seq ?_
      refine W.condF hE rfl (decide_eq_false (by omega)) ?_
      subst hK76
      refine W.exit rfl ?_
      exact ⟨q70, cs74, Option.some.inj hq58, h73, hn75, hE.pick _ ⟨rfl, rfl, trivial⟩, hS⟩
    · have hlt64 : k60 < x52.length := by omega
      rw [Fleetorder.loop1] at hq58
      refine W.seq ?_
      refine W.region ?_
      refine WL.vS hS hE (runs_plain rfl) (Gives.p hE rfl) rfl ?_; clear hE a; intro a hE
      refine WL.nil ?_
      refine W.seq ?_
      refine W.condT hE rfl (decide_eq_true (by omega)) ?_
      refine W.skip ?_
      refine W.seq ?_
      refine W.block ?_
      refine W.seq ?_
      refine W.region ?_
      refine WL.vS hS hE (runs_plain rfl) (Gives.p hE rfl) rfl ?_; clear hE a; intro a hE
      refine WL.vS hS hE (runs_plain rfl) (Gives.p hE rfl) rfl ?_; clear hE a; intro a hE
      refine WL.nil ?_
      refine W.region ?_
      refine WL.vS hS hE (runs_plain rfl) (Gives.p hE rfl) rfl ?_; clear hE a; intro a hE
      refine WL.vS hS hE (runs_plain rfl) (Gives.p hE rfl) rfl ?_; clear hE a; intro a hE
      refine WL.vS hS hE (runs_plain rfl) (Gives.p hE rfl) rfl ?_; clear hE a; intro a hE
      obtain ⟨_, hx78, hq58⟩ := bindS hq58
      obtain ⟨h79, h80⟩ := ix_some hx78
      refine WL.vS hS hE (runs_plain rfl) (Gives.idx hE ((((k60 : Nat) : Int)).toNat) rfl rfl sl44 h79 (by have := hn75; omega) (hS.vecAok 0 rfl (by have := hn75; omega : (((k60 : Nat) : Int)).toNat < x52.length))) rfl ?_; clear hE a; intro a hE
      obtain ⟨x82, hx83, hq58⟩ := bindS hq58
      refine WL.setD hE hS 0 rfl (runs_plain rfl) rfl rfl (vs := [.int .i64 ((k60 : Nat) : Int)]) rfl ty3 rfl rfl rfl h73 hn75 (sx_some hx83).1 hx83 rfl rfl ?_; clear hE hS a w; intro cs84 a w h85 hn86 hE hS
      refine WL.nil ?_
      refine W.region ?_
      refine WL.vS hS hE (runs_plain rfl) (Gives.inc hE rfl (by omega)) rfl ?_; clear hE a; intro a hE
      refine WL.vS hS hE (runs_plain rfl) (Gives.p hE rfl) rfl ?_; clear hE a; intro a hE
      refine WL.nil ?_
      subst hK76
      exact ⟨rest62, Nat.lt_succ_self _, rest62, k60 + 1, x82, cs84, rfl, (by omega), hq58, h85, hn86, hE.pick _ ⟨rfl, rfl, rfl, rfl, trivial⟩, hS⟩
  · clear hE hS a w; rintro a w ⟨q70, cs74, rfl, h73, hn75, hE, hS⟩
    refine W.seq ?_
    refine W.region ?_
    refine WL.vS hS hE (runs_plain rfl) (Gives.p hE rfl) rfl ?_; clear hE a; intro a hE
    refine WL.vS hS hE (runs_plain rfl) (Gives.mkfn hE (vs := [.pointer (some ⟨b51, 0, none⟩)]) rfl) rfl ?_; clear hE a; intro a hE
    obtain ⟨q87, hq88, hr⟩ := bindS hr
    replace hS := hS.front 0 rfl
    replace hS := hS.front 1 rfl
    have hc_ := SlicesSortStableFuncLint_v1_ok hS h73 hn75 h0 hq88
    refine WL.fnq hE (hc_) (runs_plain rfl) bd103 rfl rfl rfl ?_
    clear hE hS hc_; rintro e w ⟨cs89, rfl, h90, hn91, hS⟩; refine ⟨_, rfl, ?_⟩; clear a; intro a hE
    refine WL.nil ?_
    refine W.seq ?_
    refine W.region ?_
    refine WL.vS hS hE (runs_plain rfl) (Gives.p hE rfl) rfl ?_; clear hE a; intro a hE
    refine WL.vS hS hE (runs_plain rfl) (Gives.p hE rfl) rfl ?_; clear hE a; intro a hE
    refine WL.nil ?_
    refine W.ret ?_
    refine finG (fn := Try.f62) (rs := [.tmp 2]) (vs := [_]) hE rfl ⟨rfl, trivial⟩ ?_
    obtain rfl := Option.some.inj hr
    replace hS := hS.tail
    exact ⟨(some ⟨b54, 0, none⟩), x52.length, x52.length, cs89, rfl, h90, hn91, hS⟩
set_option maxHeartbeats 8000000 in
theorem Fleetfollows_ok  {w : World} {s : Sg} {R : List HP} {x0 : FleetTask} {x1 : FleetTask} {x2 : Int} (hS : St w s (R))  {r : Bool} (hr : Fleetfollows x0 x1 x2 = r) :
    Calls Try.prog 56 [.agg (FleetTask.cells x0).toArray, .agg (FleetTask.cells x1).toArray, .int .i64 x2].toArray w (fun e w => e = .returned (.bool r) ∧ St w s (R)) := by
  refine enter Try.func56 rfl rfl rfl fun a hE => ?_
  rw [Fleetfollows] at hr
  refine W.seq ?_
  refine W.region ?_
  refine WL.box hE hS (runs_plain rfl) rfl rfl rfl ?_; clear hE hS a w; intro b51 a w hE hS
  refine WL.box hE hS (runs_plain rfl) rfl rfl rfl ?_; clear hE hS a w; intro b52 a w hE hS
  refine WL.vS hS hE (runs_plain rfl) (Gives.p hE rfl) rfl ?_; clear hE a; intro a hE
  refine WL.nil ?_
  refine W.seq ?_
  obtain ⟨q54, hq53, hr⟩ := bndS hr
  refine W.cut (fun a w => ∃ (q57 : Bool), q57 = q54 ∧ Rep a 21 [(6, .bool q57)] ∧ St w s (pt b52 (.cells (FleetTask.cells x1).toArray 78 (0, 0)) :: pt b51 (.cells (FleetTask.cells x0).toArray 78 (0, 0)) :: R)) ?_ ?_
  · refine W.gen fun K58 hK58 => ?_
    refine W.region ?_
    refine WL.vS hS hE (runs_plain rfl) (Gives.fld hE rfl fl78_0) rfl ?_; clear hE a; intro a hE
    refine WL.vS hS hE (runs_plain rfl) (Gives.loadB hE 0 rfl rfl rfl ty3) rfl ?_; clear hE a; intro a hE
    refine WL.vS hS hE (runs_plain rfl) (Gives.fld hE rfl fl78_1) rfl ?_; clear hE a; intro a hE
    refine WL.vS hS hE (runs_plain rfl) (Gives.loadB hE 1 rfl rfl rfl ty3) rfl ?_; clear hE a; intro a hE
    refine WL.vS hS hE (runs_plain rfl) (Gives.p hE rfl) rfl ?_; clear hE a; intro a hE
    refine WL.vS hS hE (runs_plain rfl) (Gives.p hE rfl) rfl ?_; clear hE a; intro a hE
    rcases Bool.eq_false_or_eq_true (x1.From == x0.To) with hg59 | hg59
    · replace hq53 := iteT hg59 hq53
      refine WL.vS hS hE (runs_if hE rfl rfl rfl hg59) (Gives.fld hE rfl fl78_2) rfl ?_; clear hE a; intro a hE
      refine WL.vS hS hE (runs_if hE rfl rfl rfl hg59) (Gives.loadB hE 0 rfl rfl rfl ty3) rfl ?_; clear hE a; intro a hE
      refine WL.vS hS hE (runs_if hE rfl rfl rfl hg59) (Gives.fld hE rfl fl78_3) rfl ?_; clear hE a; intro a hE
      refine WL.vS hS hE (runs_if hE rfl rfl rfl hg59) (Gives.loadB hE 1 rfl rfl rfl ty3) rfl ?_; clear hE a; intro a hE
      refine WL.vS hS hE (runs_if hE rfl rfl rfl hg59) (Gives.p hE rfl) rfl ?_; clear hE a; intro a hE
      refine WL.vS hS hE (runs_if hE rfl rfl rfl hg59) (Gives.p hE rfl) rfl ?_; clear hE a; intro a hE
      refine WL.vS hS hE (runs_if hE rfl rfl rfl hg59) (Gives.p hE rfl) rfl ?_; clear hE a; intro a hE
      refine WL.vS hS hE (runs_plain rfl) (Gives.pickT hE rfl hg59 rfl) rfl ?_; clear hE a; intro a hE
      refine WL.vS hS hE (runs_plain rfl) (Gives.p hE rfl) rfl ?_; clear hE a; intro a hE
      refine WL.nil ?_
      subst hK58
      exact ⟨decide (x1.Dep ≥ (w64 (x0.Arr + x2))), hq53, hE.pick _ ⟨rfl, trivial⟩, hS⟩
    · replace hq53 := iteF hg59 hq53
      refine WL.no hE (runs_not hE rfl rfl rfl (by rw [hg59]; decide)) rfl ?_; clear hE a; intro a hE
      refine WL.no hE (runs_not hE rfl rfl rfl (by rw [hg59]; decide)) rfl ?_; clear hE a; intro a hE
      refine WL.no hE (runs_not hE rfl rfl rfl (by rw [hg59]; decide)) rfl ?_; clear hE a; intro a hE
      refine WL.no hE (runs_not hE rfl rfl rfl (by rw [hg59]; decide)) rfl ?_; clear hE a; intro a hE
      refine WL.no hE (runs_not hE rfl rfl rfl (by rw [hg59]; decide)) rfl ?_; clear hE a; intro a hE
      refine WL.no hE (runs_not hE rfl rfl rfl (by rw [hg59]; decide)) rfl ?_; clear hE a; intro a hE
      refine WL.no hE (runs_not hE rfl rfl rfl (by rw [hg59]; decide)) rfl ?_; clear hE a; intro a hE
      refine WL.vS hS hE (runs_plain rfl) (Gives.pickF hE rfl hg59 rfl) rfl ?_; clear hE a; intro a hE
      refine WL.vS hS hE (runs_plain rfl) (Gives.p hE rfl) rfl ?_; clear hE a; intro a hE
      refine WL.nil ?_
      subst hK58
      exact ⟨false, hq53, hE.pick _ ⟨rfl, trivial⟩, hS⟩
  · clear hE hS a w; rintro a w ⟨q57, rfl, hE, hS⟩
    refine W.ret ?_
    refine finG (fn := Try.f56) (rs := [.tmp 6]) (vs := [_]) hE rfl ⟨rfl, trivial⟩ ?_
    subst hr
    replace hS := hS.tail
    replace hS := hS.tail
    exact ⟨rfl, hS⟩
set_option maxHeartbeats 8000000 in
theorem FleetTurns_ok {fu : Nat}  {w : World} {s : Sg} {R : List HP} {x0 : List FleetTask} {a0 : Option Addr} {c0 : Nat} {x1 : Int} (hS : St w s (R)) (h0 : Sl 6 RFleetTask s a0 c0 x0) {r : (List (List Int)) × Int} (hr : FleetTurns fu x0 x1 = some r) :
    Calls Try.prog 60 [.slice a0 x0.length c0, .int .i64 x1].toArray w (fun e w => ∃ (a0 : Option Addr) (c0 : Nat) (t : Sg), e = .returned (.tuple #[.slice a0 r.1.length c0, .int .i64 r.2]) ∧ s.Le t ∧ Sl 1 (RL 1 (RI .i64)) t a0 c0 r.1 ∧ St w t (R)) := by
  refine enter Try.func60 rfl rfl rfl fun a hE => ?_
  rw [FleetTurns] at hr
  refine W.seq ?_
  refine W.region ?_
  refine WL.vS hS hE (runs_plain rfl) (Gives.p hE rfl) rfl ?_; clear hE a; intro a hE
  refine WL.vS hS hE (runs_plain rfl) (Gives.p hE rfl) rfl ?_; clear hE a; intro a hE
  refine WL.nil ?_
  refine W.seq ?_
  refine W.seq ?_
  refine W.region ?_
  refine WL.vS hS hE (runs_plain rfl) (Gives.p hE rfl) rfl ?_; clear hE a; intro a hE
  refine WL.vS hS hE (runs_plain rfl) (Gives.p hE rfl) rfl ?_; clear hE a; intro a hE
  refine WL.fnq hE (FleetcheckTurn_ok hS h0 rfl (r := FleetcheckTurn x0 x1)) (runs_plain rfl) bd61 rfl rfl rfl ?_
  clear hE hS; rintro e w ⟨rfl, hS⟩; refine ⟨_, rfl, ?_⟩; clear a; intro a hE
  refine WL.vS hS hE (runs_plain rfl) (Gives.p hE rfl) rfl ?_; clear hE a; intro a hE
  refine WL.nil ?_
  refine W.seq ?_
  refine W.region ?_
  refine WL.vS hS hE (runs_plain rfl) (Gives.p hE rfl) rfl ?_; clear hE a; intro a hE
  refine WL.vS hS hE (runs_plain rfl) (Gives.p hE rfl) rfl ?_; clear hE a; intro a hE
  refine WL.nil ?_
  refine W.cond hE rfl (fun hc51 => ?_) (fun hc51 => ?_)
  · replace hr := iteT hc51 hr
    refine W.seq ?_
    refine W.region ?_
    refine WL.vS hS hE (runs_plain rfl) (Gives.p hE rfl) rfl ?_; clear hE a; intro a hE
    refine WL.vS hS hE (runs_plain rfl) (Gives.p hE rfl) rfl ?_; clear hE a; intro a hE
    refine WL.vS hS hE (runs_plain rfl) (Gives.p hE rfl) rfl ?_; clear hE a; intro a hE
    refine WL.nil ?_
    refine W.ret ?_
    refine finG (fn := Try.f60) (rs := [.tmp 4, .tmp 5]) (vs := [_, _]) hE rfl ⟨rfl, rfl, trivial⟩ ?_
    obtain rfl := Option.some.inj hr
    exact ⟨none, 0, s, rfl, (Sg.Le.refl _), Sl.nil, hS⟩
  · replace hr := iteF hc51 hr
    refine W.skip ?_
    refine W.seq ?_
    refine W.region ?_
    replace hS := hS.nestNil 44 3 1
    refine WL.vS hS hE (runs_plain rfl) (Gives.p hE rfl) rfl ?_; clear hE a; intro a hE
    refine WL.nil ?_
    refine W.seq ?_
    refine W.seq ?_
    refine W.region ?_
    refine WL.vS hS hE (runs_plain rfl) (Gives.p hE rfl) rfl ?_; clear hE a; intro a hE
    obtain ⟨q53, hq54, hr⟩ := bindS hr
    have hc_ := Fleetorder_ok hS h0 hq54
    refine WL.fnq hE (hc_) (runs_plain rfl) bd62 rfl rfl rfl ?_
    clear hE hS hc_; rintro e w ⟨a55, c56, n57, cs58, rfl, h59, rfl, hS⟩; refine ⟨_, rfl, ?_⟩; clear a; intro a hE
    refine WL.vS hS hE (runs_plain rfl) (Gives.len hE rfl sl44) rfl ?_; clear hE a; intro a hE
    refine WL.vS hS hE (runs_plain rfl) (Gives.p hE rfl) rfl ?_; clear hE a; intro a hE
    refine WL.nil ?_
    have hb72 : q53.length ≤ 9223372036854775807 := by have := hS.vecCap 0 rfl; unfold maxLen at this; omega
    obtain ⟨q62, hq61, hr⟩ := bindS hr
    refine W.cut (fun a w => ∃ (q73 : List (List Int)), ∃ (a74 : Option Addr), ∃ (c75 : Nat), ∃ (n76 : Nat), ∃ (ds77 : List In), q73 = q62 ∧ NEv 1 (RI .i64) s ds77 q73 ∧ q73.length = n76 ∧ Rep a 113 [(7, .slice a74 n76 c75)] ∧ St w s (vecC 3 1 a55 c56 q53.length cs58 :: nestC 44 3 1 a74 c75 n76 ds77 :: R)) ?_ ?_
    · refine W.block ?_
      refine W.loop (fun m a w => ∃ (rest65 : Nat) (k63 : Nat), ∃ (q73 : List (List Int)), ∃ (a74 : Option Addr), ∃ (c75 : Nat), ∃ (n76 : Nat), ∃ (ds77 : List In), rest65 = m ∧ k63 + rest65 = q53.length ∧ FleetTurns.loop1 x0 x1 fu q53 rest65 k63 q73 = some q62 ∧ NEv 1 (RI .i64) s ds77 q73 ∧ q73.length = n76 ∧ Rep a 113 [(0, .slice a0 x0.length c0), (1, .int .i64 x1), (7, .slice a74 n76 c75), (21, .slice a55 q53.length c56), (22, .int .i64 ((q53.length : Nat) : Int)), (23, .int .i64 ((k63 : Nat) : Int))] ∧ St w s (vecC 3 1 a55 c56 q53.length cs58 :: nestC 44 3 1 a74 c75 n76 ds77 :: R)) (m := q53.length) ⟨q53.length, 0, [], none, 0, 0, [], rfl, by omega, hq61, (NEv.nil), (rfl), hE.pick _ ⟨rfl, rfl, rfl, rfl, rfl, rfl, trivial⟩, hS⟩ ?_
      clear hE hS a w hq61; rintro m69 a w ⟨rest65, k63, q73, a74, c75, n76, ds77, rfl, hd66, hq61, h78, rfl, hE, hS⟩
      refine W.gen fun K80 hK80 => ?_
      rcases rest65 with _ | rest65
      · skip
        refine W.seq ?_
        refine W.region ?_
        refine WL.vS hS hE (runs_plain rfl) (Gives.p hE rfl) rfl ?_; clear hE a; intro a hE
        refine WL.nil ?_
        refine W.seq ?_
        refine W.condF hE rfl (decide_eq_false (by omega)) ?_
        subst hK80
        refine W.exit rfl ?_
        exact ⟨q73, a74, c75, q73.length, ds77, Option.some.inj hq61, h78, rfl, hE.pick _ ⟨rfl, trivial⟩, hS⟩
      · have hlt67 : k63 < q53.length := by omega
        rw [FleetTurns.loop1] at hq61
        refine W.seq ?_
        refine W.region ?_
        refine WL.vS hS hE (runs_plain rfl) (Gives.p hE rfl) rfl ?_; clear hE a; intro a hE
        refine WL.nil ?_
        refine W.seq ?_
        refine W.condT hE rfl (decide_eq_true (by omega)) ?_
        refine W.skip ?_
        refine W.seq ?_
        refine W.block ?_
        refine W.seq ?_
        refine W.region ?_
        obtain ⟨x81, hx82, hq61⟩ := bindS hq61
        obtain ⟨hi83, hlt84, hy85⟩ := gx_some hx82
        obtain ⟨vs86, hl87, hR88, hd89, hget90⟩ := h59.at hy85
        subst hR88
        refine WL.vS hS hE (runs_plain rfl) (Gives.idx hE ((((k63 : Nat) : Int)).toNat) rfl rfl sl44 hi83 (by omega) (hS.vecAok 0 rfl (by omega : (((k63 : Nat) : Int)).toNat < q53.length))) rfl ?_; clear hE a; intro a hE
        refine WL.vS hS hE (runs_plain rfl) (Gives.load1 hE rfl (fun w h => St.vecSees h 0 rfl ((((k63 : Nat) : Int)).toNat * 1) _ hget90) ty3) rfl ?_; clear hE a; intro a hE
        refine WL.vS hS hE (runs_plain rfl) (Gives.p hE rfl) rfl ?_; clear hE a; intro a hE
        refine WL.nil ?_
        refine W.seq ?_
        refine W.region ?_
        refine WL.vS hS hE (runs_plain rfl) (Gives.p hE rfl) rfl ?_; clear hE a; intro a hE
        refine WL.vS hS hE (runs_plain rfl) (Gives.p hE rfl) rfl ?_; clear hE a; intro a hE
        obtain ⟨x91, hx92, hq61⟩ := bindS hq61
        obtain ⟨hi93, hlt94, hy95⟩ := gx_some hx92
        obtain ⟨cs96, hl97, hR98, hat99⟩ := h0.at hy95
        subst hR98
        refine WL.vS hS hE (runs_plain rfl) (Gives.idx hE (x81).toNat rfl rfl sl32 hi93 hlt94 (h0.aok hlt94)) rfl ?_; clear hE a; intro a hE
        refine WL.vS hS hE (runs_plain rfl) (Gives.fld hE rfl fl78_5) rfl ?_; clear hE a; intro a hE
        refine WL.vS hS hE (runs_plain rfl) (Gives.load1 hE rfl (fun w h => (hat99 w _ h).one rfl) ty3) rfl ?_; clear hE a; intro a hE
        refine WL.vS hS hE (runs_plain rfl) (Gives.p hE rfl) rfl ?_; clear hE a; intro a hE
        refine WL.nil ?_
        obtain ⟨q112, hq111, hq61⟩ := bindS hq61
        refine W.cut (fun a w => ∃ (q117 : List (List Int)), ∃ (q124 : Int), ∃ (a118 : Option Addr), ∃ (c119 : Nat), ∃ (n120 : Nat), ∃ (ds121 : List In), (q117, q124) = q112 ∧ NEv 1 (RI .i64) s ds121 q117 ∧ q117.length = n120 ∧ Rep a 113 [(0, .slice a0 x0.length c0), (1, .int .i64 x1), (7, .slice a118 n120 c119), (21, .slice a55 q53.length c56), (22, .int .i64 ((q53.length : Nat) : Int)), (23, .int .i64 ((k63 : Nat) : Int))] ∧ St w s (vecC 3 1 a55 c56 q53.length cs58 :: nestC 44 3 1 a118 c119 n120 ds121 :: R)) ?_ ?_
        · refine W.block ?_
          refine W.loop (fun m a w => ∃ (n113 : Nat), ∃ (q117 : List (List Int)), ∃ (q124 : Int), ∃ (a118 : Option Addr), ∃ (c119 : Nat), ∃ (n120 : Nat), ∃ (ds121 : List In), n113 = m ∧ FleetTurns.loop3 x0 x1 x81 x91 n113 q117 q124 = some q112 ∧ NEv 1 (RI .i64) s ds121 q117 ∧ q117.length = n120 ∧ Rep a 113 [(0, .slice a0 x0.length c0), (1, .int .i64 x1), (7, .slice a118 n120 c119), (9, .int .i64 x81), (21, .slice a55 q53.length c56), (22, .int .i64 ((q53.length : Nat) : Int)), (23, .int .i64 ((k63 : Nat) : Int)), (31, .int .i64 x91.Units), (32, .int .i64 q124)] ∧ St w s (vecC 3 1 a55 c56 q53.length cs58 :: nestC 44 3 1 a118 c119 n120 ds121 :: R)) (m := fu) ⟨fu, q73, 0, a74, c75, q73.length, ds77, rfl, hq111, h78, rfl, hE.pick _ ⟨rfl, rfl, rfl, rfl, rfl, rfl, rfl, rfl, rfl, trivial⟩, hS⟩ ?_
          clear hE hS a w hq111; rintro m114 a w ⟨n113, q117, q124, a118, c119, n120, ds121, rfl, hq111, h122, rfl, hE, hS⟩
          refine W.gen fun K125 hK125 => ?_
          rcases n113 with _ | n113
          · rw [FleetTurns.loop3] at hq111; exact absurd hq111 (by simp)
          rw [FleetTurns.loop3] at hq111
          refine W.seq ?_
          refine W.region ?_
          refine WL.vS hS hE (runs_plain rfl) (Gives.p hE rfl) rfl ?_; clear hE a; intro a hE
          refine WL.nil ?_
          refine W.seq ?_
          refine W.cond hE rfl (fun hc126 => ?_) (fun hc126 => ?_)
          · replace hq111 := iteT hc126 hq111
            refine W.skip ?_
            refine W.seq ?_
            refine W.block ?_
            refine W.seq ?_
            refine W.region ?_
            refine WL.vS hS hE (runs_plain rfl) (Gives.p hE rfl) rfl ?_; clear hE a; intro a hE
            refine WL.nil ?_
            refine W.seq ?_
            refine W.seq ?_
            refine W.region ?_
            refine WL.vS hS hE (runs_plain rfl) (Gives.p hE rfl) rfl ?_; clear hE a; intro a hE
            refine WL.vS hS hE (runs_plain rfl) (Gives.len hE rfl sl25) rfl ?_; clear hE a; intro a hE
            refine WL.vS hS hE (runs_plain rfl) (Gives.p hE rfl) rfl ?_; clear hE a; intro a hE
            refine WL.nil ?_
            have hb138 : q117.length ≤ 9223372036854775807 := by have := hS.nCap 1 rfl; unfold maxLen at this; omega
            obtain ⟨q128, hq127, hq111⟩ := bindS hq111
            refine W.cut (fun a w => ∃ (q139 : Int), q139 = q128 ∧ Rep a 113 [(0, .slice a0 x0.length c0), (1, .int .i64 x1), (7, .slice a118 q117.length c119), (9, .int .i64 x81), (10, .int .i64 q139), (21, .slice a55 q53.length c56), (22, .int .i64 ((q53.length : Nat) : Int)), (23, .int .i64 ((k63 : Nat) : Int)), (31, .int .i64 x91.Units), (32, .int .i64 q124)] ∧ St w s (vecC 3 1 a55 c56 q53.length cs58 :: nestC 44 3 1 a118 c119 q117.length ds121 :: R)) ?_ ?_
            · refine W.block ?_
              refine W.loop (fun m a w => ∃ (rest131 : Nat) (k129 : Nat), ∃ (q139 : Int), rest131 = m ∧ k129 + rest131 = q117.length ∧ FleetTurns.loop4 x0 x1 x81 q117 rest131 k129 q139 = some q128 ∧ Rep a 113 [(0, .slice a0 x0.length c0), (1, .int .i64 x1), (7, .slice a118 q117.length c119), (9, .int .i64 x81), (10, .int .i64 q139), (21, .slice a55 q53.length c56), (22, .int .i64 ((q53.length : Nat) : Int)), (23, .int .i64 ((k63 : Nat) : Int)), (31, .int .i64 x91.Units), (32, .int .i64 q124), (34, .slice a118 q117.length c119), (35, .int .i64 ((q117.length : Nat) : Int)), (36, .int .i64 ((k129 : Nat) : Int))] ∧ St w s (vecC 3 1 a55 c56 q53.length cs58 :: nestC 44 3 1 a118 c119 q117.length ds121 :: R)) (m := q117.length) ⟨q117.length, 0, (-1), rfl, by omega, hq127, hE.pick _ ⟨rfl, rfl, rfl, rfl, rfl, rfl, rfl, rfl, rfl, rfl, rfl, rfl, rfl, trivial⟩, hS⟩ ?_
              clear hE hS a w hq127; rintro m135 a w ⟨rest131, k129, q139, rfl, hd132, hq127, hE, hS⟩
              refine W.gen fun K140 hK140 => ?_
              rcases rest131 with _ | rest131
              · skip
                refine W.seq ?_
                refine W.region ?_
                refine WL.vS hS hE (runs_plain rfl) (Gives.p hE rfl) rfl ?_; clear hE a; intro a hE
                refine WL.nil ?_
                refine W.seq ?_
                refine W.condF hE rfl (decide_eq_false (by omega)) ?_
                subst hK140
                refine W.exit rfl ?_
                exact ⟨q139, Option.some.inj hq127, hE.pick _ ⟨rfl, rfl, rfl, rfl, rfl, rfl, rfl, rfl, rfl, rfl, trivial⟩, hS⟩
              · have hlt133 : k129 < q117.length := by omega
                rw [FleetTurns.loop4] at hq127
                refine W.seq ?_
                refine W.region ?_
                refine WL.vS hS hE (runs_plain rfl) (Gives.p hE rfl) rfl ?_; clear hE a; intro a hE
                refine WL.nil ?_
                refine W.seq ?_
                refine W.condT hE rfl (decide_eq_true (by omega)) ?_
                refine W.skip ?_
                refine W.seq ?_
                refine W.block ?_
                refine W.seq ?_
                refine W.region ?_
                refine WL.vS hS hE (runs_plain rfl) (Gives.p hE rfl) rfl ?_; clear hE a; intro a hE
                obtain ⟨x141, hx142, hq127⟩ := bindS hq127
                obtain ⟨hi143, hlt144, hy145⟩ := gx_some hx142
                obtain ⟨a146, c147, cs148, hd149, hev150⟩ := h122.at hy145
                refine WL.vS hS hE (runs_plain rfl) (Gives.idx hE ((((k129 : Nat) : Int)).toNat) rfl rfl sl25 hi143 (by omega) (hS.nAok 1 rfl (by omega : (((k129 : Nat) : Int)).toNat < q117.length))) rfl ?_; clear hE a; intro a hE
                refine WL.vS hS hE (runs_plain rfl) (Gives.load1 (v := .slice a146 x141.length c147) hE rfl (fun w h => St.nSees h 1 rfl hd149) ty44) rfl ?_; clear hE a; intro a hE
                refine WL.vS hS hE (runs_plain rfl) (Gives.p hE rfl) rfl ?_; clear hE a; intro a hE
                refine WL.vS hS hE (runs_plain rfl) (Gives.p hE rfl) rfl ?_; clear hE a; intro a hE
                refine WL.nil ?_
                refine W.seq ?_
                refine W.region ?_
                refine WL.vS hS hE (runs_plain rfl) (Gives.p hE rfl) rfl ?_; clear hE a; intro a hE
                refine WL.vS hS hE (runs_plain rfl) (Gives.p hE rfl) rfl ?_; clear hE a; intro a hE
                refine WL.vS hS hE (runs_plain rfl) (Gives.len hE rfl sl44) rfl ?_; clear hE a; intro a hE
                refine WL.vS hS hE (runs_plain rfl) (Gives.p hE rfl) rfl ?_; clear hE a; intro a hE
                obtain ⟨x151, hx152, hq127⟩ := bindS hq127
                obtain ⟨hi153, hlt154, hy155⟩ := gx_some hx152
                obtain ⟨vs156, hl157, hR158, hd159, hget160⟩ := hev150.at hy155
                subst hR158
                refine WL.vS hS hE (runs_plain rfl) (Gives.idx hE ((w64 (((x141).length : Int) - 1)).toNat) rfl rfl sl44 hi153 hlt154 (hS.nnAok 1 rfl hd149 hlt154)) rfl ?_; clear hE a; intro a hE
                refine WL.vS hS hE (runs_plain rfl) (Gives.load1 hE rfl (fun w h => St.nnSees h 1 rfl hd149 ((w64 (((x141).length : Int) - 1)).toNat * 1) _ hget160) ty3) rfl ?_; clear hE a; intro a hE
                refine WL.vS hS hE (runs_plain rfl) (Gives.p hE rfl) rfl ?_; clear hE a; intro a hE
                refine WL.nil ?_
                refine W.seq ?_
                obtain ⟨q162, hq161, hq127⟩ := bindS hq127
                refine W.cut (fun a w => ∃ (q165 : Bool), q165 = q162 ∧ Rep a 113 [(0, .slice a0 x0.length c0), (1, .int .i64 x1), (7, .slice a118 q117.length c119), (9, .int .i64 x81), (10, .int .i64 q139), (11, .int .i64 ((k129 : Nat) : Int)), (21, .slice a55 q53.length c56), (22, .int .i64 ((q53.length : Nat) : Int)), (23, .int .i64 ((k63 : Nat) : Int)), (31, .int .i64 x91.Units), (32, .int .i64 q124), (34, .slice a118 q117.length c119), (35, .int .i64 ((q117.length : Nat) : Int)), (36, .int .i64 ((k129 : Nat) : Int)), (89, .bool q165)] ∧ St w s (vecC 3 1 a55 c56 q53.length cs58 :: nestC 44 3 1 a118 c119 q117.length ds121 :: R)) ?_ ?_
                · refine W.gen fun K166 hK166 => ?_
                  refine W.regionQ (C := fun w => St w s (vecC 3 1 a55 c56 q53.length cs58 :: nestC 44 3 1 a118 c119 q117.length ds121 :: R)) mixed (by kernel_rfl) hS.drew ?_
                  refine QL.v hE (runs_plain rfl) (Gives.p hE rfl) rfl ?_; clear hE a; intro a hE
                  refine QL.v hE (runs_plain rfl) (Gives.p hE rfl) rfl ?_; clear hE a; intro a hE
                  refine QL.v hE (runs_plain rfl) (Gives.p hE rfl) rfl ?_; clear hE a; intro a hE
                  refine QL.v hE (runs_plain rfl) (Gives.p hE rfl) rfl ?_; clear hE a; intro a hE
                  rcases Bool.eq_false_or_eq_true (x151 != x81) with hg167 | hg167
                  · replace hq161 := iteT hg167 hq161
                    refine QL.v hE (runs_if hE rfl rfl rfl hg167) (Gives.p hE rfl) rfl ?_; clear hE a; intro a hE
                    refine QL.v hE (runs_if hE rfl rfl rfl hg167) (Gives.p hE rfl) rfl ?_; clear hE a; intro a hE
                    obtain ⟨x168, hx169, hq161⟩ := bindS hq161
                    obtain ⟨hi170, hlt171, hy172⟩ := gx_some hx169
                    obtain ⟨cs173, hl174, hR175, hat176⟩ := h0.at hy172
                    subst hR175
                    refine QL.v hE (runs_if hE rfl rfl rfl hg167) (Gives.idx hE (x151).toNat rfl rfl sl32 hi170 hlt171 (h0.aok hlt171)) rfl ?_; clear hE a; intro a hE
                    refine QL.v hE (runs_if hE rfl rfl rfl hg167) (Gives.loadA hE rfl (fun w h => hat176 w _ h) ty78) rfl ?_; clear hE a; intro a hE
                    refine QL.v hE (runs_if hE rfl rfl rfl hg167) (Gives.p hE rfl) rfl ?_; clear hE a; intro a hE
                    refine QL.v hE (runs_if hE rfl rfl rfl hg167) (Gives.p hE rfl) rfl ?_; clear hE a; intro a hE
                    obtain ⟨x177, hx178, hq161⟩ := bindS hq161
                    obtain ⟨hi179, hlt180, hy181⟩ := gx_some hx178
                    obtain ⟨cs182, hl183, hR184, hat185⟩ := h0.at hy181
                    subst hR184
                    refine QL.v hE (runs_if hE rfl rfl rfl hg167) (Gives.idx hE (x81).toNat rfl rfl sl32 hi179 hlt180 (h0.aok hlt180)) rfl ?_; clear hE a; intro a hE
                    refine QL.v hE (runs_if hE rfl rfl rfl hg167) (Gives.loadA hE rfl (fun w h => hat185 w _ h) ty78) rfl ?_; clear hE a; intro a hE
                    refine QL.v hE (runs_if hE rfl rfl rfl hg167) (Gives.p hE rfl) rfl ?_; clear hE a; intro a hE
                    refine QL.fnq hE (fun w hS => Fleetfollows_ok hS  rfl (r := Fleetfollows x168 x177 x1)) (runs_if hE rfl rfl rfl hg167) bd56 rfl rfl rfl ?_; clear hE a; intro a hE
                    refine QL.v hE (runs_plain rfl) (Gives.pickT hE rfl hg167 rfl) rfl ?_; clear hE a; intro a hE
                    refine QL.v hE (runs_plain rfl) (Gives.p hE rfl) rfl ?_; clear hE a; intro a hE
                    rcases Bool.eq_false_or_eq_true (Fleetfollows x168 x177 x1) with hg186 | hg186
                    · replace hq161 := iteT hg186 hq161
                      refine QL.v hE (runs_if hE rfl rfl rfl hg186) (Gives.p hE rfl) rfl ?_; clear hE a; intro a hE
                      refine QL.v hE (runs_if hE rfl rfl rfl hg186) (Gives.p hE rfl) rfl ?_; clear hE a; intro a hE
                      refine QL.v hE (runs_if hE rfl rfl rfl hg186) (Gives.p hE rfl) rfl ?_; clear hE a; intro a hE
                      rcases Bool.eq_false_or_eq_true (decide (q139 < 0)) with hg187 | hg187
                      · replace hq161 := iteT hg187 hq161
                        refine QL.no hE (runs_not hE rfl rfl rfl (by rw [hg187]; decide)) rfl ?_; clear hE a; intro a hE
                        refine QL.no hE (runs_not hE rfl rfl rfl (by rw [hg187]; decide)) rfl ?_; clear hE a; intro a hE
                        refine QL.no hE (runs_not hE rfl rfl rfl (by rw [hg187]; decide)) rfl ?_; clear hE a; intro a hE
                        refine QL.no hE (runs_not hE rfl rfl rfl (by rw [hg187]; decide)) rfl ?_; clear hE a; intro a hE
                        refine QL.no hE (runs_not hE rfl rfl rfl (by rw [hg187]; decide)) rfl ?_; clear hE a; intro a hE
                        refine QL.no hE (runs_not hE rfl rfl rfl (by rw [hg187]; decide)) rfl ?_; clear hE a; intro a hE
                        refine QL.no hE (runs_not hE rfl rfl rfl (by rw [hg187]; decide)) rfl ?_; clear hE a; intro a hE
                        refine QL.no hE (runs_not hE rfl rfl rfl (by rw [hg187]; decide)) rfl ?_; clear hE a; intro a hE
                        refine QL.no hE (runs_not hE rfl rfl rfl (by rw [hg187]; decide)) rfl ?_; clear hE a; intro a hE
                        refine QL.no hE (runs_not hE rfl rfl rfl (by rw [hg187]; decide)) rfl ?_; clear hE a; intro a hE
                        refine QL.no hE (runs_not hE rfl rfl rfl (by rw [hg187]; decide)) rfl ?_; clear hE a; intro a hE
                        refine QL.no hE (runs_not hE rfl rfl rfl (by rw [hg187]; decide)) rfl ?_; clear hE a; intro a hE
                        refine QL.no hE (runs_not hE rfl rfl rfl (by rw [hg187]; decide)) rfl ?_; clear hE a; intro a hE
                        refine QL.no hE (runs_not hE rfl rfl rfl (by rw [hg187]; decide)) rfl ?_; clear hE a; intro a hE
                        refine QL.no hE (runs_not hE rfl rfl rfl (by rw [hg187]; decide)) rfl ?_; clear hE a; intro a hE
                        refine QL.no hE (runs_not hE rfl rfl rfl (by rw [hg187]; decide)) rfl ?_; clear hE a; intro a hE
                        refine QL.no hE (runs_not hE rfl rfl rfl (by rw [hg187]; decide)) rfl ?_; clear hE a; intro a hE
                        refine QL.no hE (runs_not hE rfl rfl rfl (by rw [hg187]; decide)) rfl ?_; clear hE a; intro a hE
                        refine QL.no hE (runs_not hE rfl rfl rfl (by rw [hg187]; decide)) rfl ?_; clear hE a; intro a hE
                        refine QL.no hE (runs_not hE rfl rfl rfl (by rw [hg187]; decide)) rfl ?_; clear hE a; intro a hE
                        refine QL.no hE (runs_not hE rfl rfl rfl (by rw [hg187]; decide)) rfl ?_; clear hE a; intro a hE
                        refine QL.no hE (runs_not hE rfl rfl rfl (by rw [hg187]; decide)) rfl ?_; clear hE a; intro a hE
                        refine QL.v hE (runs_if hE rfl rfl rfl hg186) (Gives.pickT hE rfl hg187 rfl) rfl ?_; clear hE a; intro a hE
                        refine QL.v hE (runs_plain rfl) (Gives.pickT hE rfl hg186 rfl) rfl ?_; clear hE a; intro a hE
                        refine QL.nil ?_; clear hS w; intro w hS
                        subst hK166
                        exact ⟨true, Option.some.inj hq161, hE.pick _ ⟨rfl, rfl, rfl, rfl, rfl, rfl, rfl, rfl, rfl, rfl, rfl, rfl, rfl, rfl, rfl, trivial⟩, hS⟩
                      · replace hq161 := iteF hg187 hq161
                        refine QL.v hE (runs_if hE rfl rfl rfl hg187) (Gives.p hE rfl) rfl ?_; clear hE a; intro a hE
                        refine QL.v hE (runs_if hE rfl rfl rfl hg187) (Gives.p hE rfl) rfl ?_; clear hE a; intro a hE
                        obtain ⟨x188, hx189, hq161⟩ := bindS hq161
                        obtain ⟨hi190, hlt191, hy192⟩ := gx_some hx189
                        obtain ⟨cs193, hl194, hR195, hat196⟩ := h0.at hy192
                        subst hR195
                        refine QL.v hE (runs_if hE rfl rfl rfl hg187) (Gives.idx hE (x151).toNat rfl rfl sl32 hi190 hlt191 (h0.aok hlt191)) rfl ?_; clear hE a; intro a hE
                        refine QL.v hE (runs_if hE rfl rfl rfl hg187) (Gives.fld hE rfl fl78_3) rfl ?_; clear hE a; intro a hE
                        refine QL.v hE (runs_if hE rfl rfl rfl hg187) (Gives.load1 hE rfl (fun w h => (hat196 w _ h).one rfl) ty3) rfl ?_; clear hE a; intro a hE
                        refine QL.v hE (runs_if hE rfl rfl rfl hg187) (Gives.p hE rfl) rfl ?_; clear hE a; intro a hE
                        refine QL.v hE (runs_if hE rfl rfl rfl hg187) (Gives.p hE rfl) rfl ?_; clear hE a; intro a hE
                        refine QL.v hE (runs_if hE rfl rfl rfl hg187) (Gives.p hE rfl) rfl ?_; clear hE a; intro a hE
                        obtain ⟨x197, hx198, hq161⟩ := bindS hq161
                        obtain ⟨hi199, hlt200, hy201⟩ := gx_some hx198
                        obtain ⟨a202, c203, cs204, hd205, hev206⟩ := h122.at hy201
                        refine QL.v hE (runs_if hE rfl rfl rfl hg187) (Gives.idx hE ((q139).toNat) rfl rfl sl25 hi199 (by omega) (hS.nAok 1 rfl (by omega : (q139).toNat < q117.length))) rfl ?_; clear hE a; intro a hE
                        refine QL.v hE (runs_if hE rfl rfl rfl hg187) (Gives.load1 (v := .slice a202 x197.length c203) hE rfl (fun w h => St.nSees h 1 rfl hd205) ty44) rfl ?_; clear hE a; intro a hE
                        refine QL.v hE (runs_if hE rfl rfl rfl hg187) (Gives.p hE rfl) rfl ?_; clear hE a; intro a hE
                        refine QL.v hE (runs_if hE rfl rfl rfl hg187) (Gives.p hE rfl) rfl ?_; clear hE a; intro a hE
                        obtain ⟨x207, hx208, hq161⟩ := bindS hq161
                        obtain ⟨hi209, hlt210, hy211⟩ := gx_some hx208
                        obtain ⟨a212, c213, cs214, hd215, hev216⟩ := h122.at hy211
                        refine QL.v hE (runs_if hE rfl rfl rfl hg187) (Gives.idx hE ((q139).toNat) rfl rfl sl25 hi209 (by omega) (hS.nAok 1 rfl (by omega : (q139).toNat < q117.length))) rfl ?_; clear hE a; intro a hE
                        refine QL.v hE (runs_if hE rfl rfl rfl hg187) (Gives.load1 (v := .slice a212 x207.length c213) hE rfl (fun w h => St.nSees h 1 rfl hd215) ty44) rfl ?_; clear hE a; intro a hE
                        refine QL.v hE (runs_if hE rfl rfl rfl hg187) (Gives.len hE rfl sl44) rfl ?_; clear hE a; intro a hE
                        refine QL.v hE (runs_if hE rfl rfl rfl hg187) (Gives.p hE rfl) rfl ?_; clear hE a; intro a hE
                        obtain ⟨x217, hx218, hq161⟩ := bindS hq161
                        obtain ⟨hi219, hlt220, hy221⟩ := gx_some hx218
                        obtain ⟨vs222, hl223, hR224, hd225, hget226⟩ := hev206.at hy221
                        subst hR224
                        refine QL.v hE (runs_if hE rfl rfl rfl hg187) (Gives.idx hE ((w64 (((x207).length : Int) - 1)).toNat) rfl rfl sl44 hi219 hlt220 (hS.nnAok 1 rfl hd205 hlt220)) rfl ?_; clear hE a; intro a hE
                        refine QL.v hE (runs_if hE rfl rfl rfl hg187) (Gives.load1 hE rfl (fun w h => St.nnSees h 1 rfl hd205 ((w64 (((x207).length : Int) - 1)).toNat * 1) _ hget226) ty3) rfl ?_; clear hE a; intro a hE
                        obtain ⟨x227, hx228, hq161⟩ := bindS hq161
                        obtain ⟨hi229, hlt230, hy231⟩ := gx_some hx228
                        obtain ⟨cs232, hl233, hR234, hat235⟩ := h0.at hy231
                        subst hR234
                        refine QL.v hE (runs_if hE rfl rfl rfl hg187) (Gives.idx hE (x217).toNat rfl rfl sl32 hi229 hlt230 (h0.aok hlt230)) rfl ?_; clear hE a; intro a hE
                        refine QL.v hE (runs_if hE rfl rfl rfl hg187) (Gives.fld hE rfl fl78_3) rfl ?_; clear hE a; intro a hE
                        refine QL.v hE (runs_if hE rfl rfl rfl hg187) (Gives.load1 hE rfl (fun w h => (hat235 w _ h).one rfl) ty3) rfl ?_; clear hE a; intro a hE
                        refine QL.v hE (runs_if hE rfl rfl rfl hg187) (Gives.p hE rfl) rfl ?_; clear hE a; intro a hE
                        refine QL.v hE (runs_if hE rfl rfl rfl hg186) (Gives.pickF hE rfl hg187 rfl) rfl ?_; clear hE a; intro a hE
                        refine QL.v hE (runs_plain rfl) (Gives.pickT hE rfl hg186 rfl) rfl ?_; clear hE a; intro a hE
                        refine QL.nil ?_; clear hS w; intro w hS
                        subst hK166
                        exact ⟨decide (x188.Arr < x227.Arr), Option.some.inj hq161, hE.pick _ ⟨rfl, rfl, rfl, rfl, rfl, rfl, rfl, rfl, rfl, rfl, rfl, rfl, rfl, rfl, rfl, trivial⟩, hS⟩
                    · replace hq161 := iteF hg186 hq161
                      refine QL.no hE (runs_not hE rfl rfl rfl (by rw [hg186]; decide)) rfl ?_; clear hE a; intro a hE
                      refine QL.no hE (runs_not hE rfl rfl rfl (by rw [hg186]; decide)) rfl ?_; clear hE a; intro a hE
                      refine QL.no hE (runs_not hE rfl rfl rfl (by rw [hg186]; decide)) rfl ?_; clear hE a; intro a hE
                      refine QL.no hE (runs_undef hE rfl rfl rfl) rfl ?_; clear hE a; intro a hE
                      refine QL.no hE (runs_undef hE rfl rfl rfl) rfl ?_; clear hE a; intro a hE
                      refine QL.no hE (runs_undef hE rfl rfl rfl) rfl ?_; clear hE a; intro a hE
                      refine QL.no hE (runs_undef hE rfl rfl rfl) rfl ?_; clear hE a; intro a hE
                      refine QL.no hE (runs_undef hE rfl rfl rfl) rfl ?_; clear hE a; intro a hE
                      refine QL.no hE (runs_undef hE rfl rfl rfl) rfl ?_; clear hE a; intro a hE
                      refine QL.no hE (runs_undef hE rfl rfl rfl) rfl ?_; clear hE a; intro a hE
                      refine QL.no hE (runs_undef hE rfl rfl rfl) rfl ?_; clear hE a; intro a hE
                      refine QL.no hE (runs_undef hE rfl rfl rfl) rfl ?_; clear hE a; intro a hE
                      refine QL.no hE (runs_undef hE rfl rfl rfl) rfl ?_; clear hE a; intro a hE
                      refine QL.no hE (runs_undef hE rfl rfl rfl) rfl ?_; clear hE a; intro a hE
                      refine QL.no hE (runs_undef hE rfl rfl rfl) rfl ?_; clear hE a; intro a hE
                      refine QL.no hE (runs_undef hE rfl rfl rfl) rfl ?_; clear hE a; intro a hE
                      refine QL.no hE (runs_undef hE rfl rfl rfl) rfl ?_; clear hE a; intro a hE
                      refine QL.no hE (runs_undef hE rfl rfl rfl) rfl ?_; clear hE a; intro a hE
                      refine QL.no hE (runs_undef hE rfl rfl rfl) rfl ?_; clear hE a; intro a hE
                      refine QL.no hE (runs_undef hE rfl rfl rfl) rfl ?_; clear hE a; intro a hE
                      refine QL.no hE (runs_undef hE rfl rfl rfl) rfl ?_; clear hE a; intro a hE
                      refine QL.no hE (runs_undef hE rfl rfl rfl) rfl ?_; clear hE a; intro a hE
                      refine QL.no hE (runs_undef hE rfl rfl rfl) rfl ?_; clear hE a; intro a hE
                      refine QL.no hE (runs_undef hE rfl rfl rfl) rfl ?_; clear hE a; intro a hE
                      refine QL.no hE (runs_undef hE rfl rfl rfl) rfl ?_; clear hE a; intro a hE
                      refine QL.no hE (runs_not hE rfl rfl rfl (by rw [hg186]; decide)) rfl ?_; clear hE a; intro a hE
                      refine QL.v hE (runs_plain rfl) (Gives.pickF hE rfl hg186 rfl) rfl ?_; clear hE a; intro a hE
                      refine QL.nil ?_; clear hS w; intro w hS
                      subst hK166
                      exact ⟨false, Option.some.inj hq161, hE.pick _ ⟨rfl, rfl, rfl, rfl, rfl, rfl, rfl, rfl, rfl, rfl, rfl, rfl, rfl, rfl, rfl, trivial⟩, hS⟩
                  · replace hq161 := iteF hg167 hq161
                    refine QL.no hE (runs_not hE rfl rfl rfl (by rw [hg167]; decide)) rfl ?_; clear hE a; intro a hE
                    refine QL.no hE (runs_not hE rfl rfl rfl (by rw [hg167]; decide)) rfl ?_; clear hE a; intro a hE
                    refine QL.no hE (runs_not hE rfl rfl rfl (by rw [hg167]; decide)) rfl ?_; clear hE a; intro a hE
                    refine QL.no hE (runs_not hE rfl rfl rfl (by rw [hg167]; decide)) rfl ?_; clear hE a; intro a hE
                    refine QL.no hE (runs_not hE rfl rfl rfl (by rw [hg167]; decide)) rfl ?_; clear hE a; intro a hE
                    refine QL.no hE (runs_not hE rfl rfl rfl (by rw [hg167]; decide)) rfl ?_; clear hE a; intro a hE
                    refine QL.no hE (runs_not hE rfl rfl rfl (by rw [hg167]; decide)) rfl ?_; clear hE a; intro a hE
                    refine QL.no hE (runs_not hE rfl rfl rfl (by rw [hg167]; decide)) rfl ?_; clear hE a; intro a hE
                    refine QL.no hE (runs_not hE rfl rfl rfl (by rw [hg167]; decide)) rfl ?_; clear hE a; intro a hE
                    refine QL.no hE (runs_not hE rfl rfl rfl (by rw [hg167]; decide)) rfl ?_; clear hE a; intro a hE
                    refine QL.v hE (runs_plain rfl) (Gives.pickF hE rfl hg167 rfl) rfl ?_; clear hE a; intro a hE
                    refine QL.v hE (runs_plain rfl) (Gives.p hE rfl) rfl ?_; clear hE a; intro a hE
                    refine QL.no hE (runs_not hE rfl rfl rfl (by decide)) rfl ?_; clear hE a; intro a hE
                    refine QL.no hE (runs_not hE rfl rfl rfl (by decide)) rfl ?_; clear hE a; intro a hE
                    refine QL.no hE (runs_not hE rfl rfl rfl (by decide)) rfl ?_; clear hE a; intro a hE
                    refine QL.no hE (runs_undef hE rfl rfl rfl) rfl ?_; clear hE a; intro a hE
                    refine QL.no hE (runs_undef hE rfl rfl rfl) rfl ?_; clear hE a; intro a hE
                    refine QL.no hE (runs_undef hE rfl rfl rfl) rfl ?_; clear hE a; intro a hE
                    refine QL.no hE (runs_undef hE rfl rfl rfl) rfl ?_; clear hE a; intro a hE
                    refine QL.no hE (runs_undef hE rfl rfl rfl) rfl ?_; clear hE a; intro a hE
                    refine QL.no hE (runs_undef hE rfl rfl rfl) rfl ?_; clear hE a; intro a hE
                    refine QL.no hE (runs_undef hE rfl rfl rfl) rfl ?_; clear hE a; intro a hE
                    refine QL.no hE (runs_undef hE rfl rfl rfl) rfl ?_; clear hE a; intro a hE
                    refine QL.no hE (runs_undef hE rfl rfl rfl) rfl ?_; clear hE a; intro a hE
                    refine QL.no hE (runs_undef hE rfl rfl rfl) rfl ?_; clear hE a; intro a hE
                    refine QL.no hE (runs_undef hE rfl rfl rfl) rfl ?_; clear hE a; intro a hE
                    refine QL.no hE (runs_undef hE rfl rfl rfl) rfl ?_; clear hE a; intro a hE
                    refine QL.no hE (runs_undef hE rfl rfl rfl) rfl ?_; clear hE a; intro a hE
                    refine QL.no hE (runs_undef hE rfl rfl rfl) rfl ?_; clear hE a; intro a hE
                    refine QL.no hE (runs_undef hE rfl rfl rfl) rfl ?_; clear hE a; intro a hE
                    refine QL.no hE (runs_undef hE rfl rfl rfl) rfl ?_; clear hE a; intro a hE
                    refine QL.no hE (runs_undef hE rfl rfl rfl) rfl ?_; clear hE a; intro a hE
                    refine QL.no hE (runs_undef hE rfl rfl rfl) rfl ?_; clear hE a; intro a hE
                    refine QL.no hE (runs_undef hE rfl rfl rfl) rfl ?_; clear hE a; intro a hE
                    refine QL.no hE (runs_undef hE rfl rfl rfl) rfl ?_; clear hE a; intro a hE
                    refine QL.no hE (runs_undef hE rfl rfl rfl) rfl ?_; clear hE a; intro a hE
                    refine QL.no hE (runs_undef hE rfl rfl rfl) rfl ?_; clear hE a; intro a hE
                    refine QL.no hE (runs_not hE rfl rfl rfl (by decide)) rfl ?_; clear hE a; intro a hE
                    refine QL.v hE (runs_plain rfl) (Gives.pickF hE rfl rfl rfl) rfl ?_; clear hE a; intro a hE
                    refine QL.nil ?_; clear hS w; intro w hS
                    subst hK166
                    exact ⟨false, Option.some.inj hq161, hE.pick _ ⟨rfl, rfl, rfl, rfl, rfl, rfl, rfl, rfl, rfl, rfl, rfl, rfl, rfl, rfl, rfl, trivial⟩, hS⟩
                · clear hE hS a w; rintro a w ⟨q165, rfl, hE, hS⟩
                  obtain ⟨q237, hq236, hq127⟩ := bndS hq127
                  refine W.cut (fun a w => ∃ (q240 : Int), q240 = q237 ∧ Rep a 113 [(0, .slice a0 x0.length c0), (1, .int .i64 x1), (7, .slice a118 q117.length c119), (9, .int .i64 x81), (10, .int .i64 q240), (21, .slice a55 q53.length c56), (22, .int .i64 ((q53.length : Nat) : Int)), (23, .int .i64 ((k63 : Nat) : Int)), (31, .int .i64 x91.Units), (32, .int .i64 q124), (34, .slice a118 q117.length c119), (35, .int .i64 ((q117.length : Nat) : Int)), (36, .int .i64 ((k129 : Nat) : Int))] ∧ St w s (vecC 3 1 a55 c56 q53.length cs58 :: nestC 44 3 1 a118 c119 q117.length ds121 :: R)) ?_ ?_
                  · refine W.gen fun K241 hK241 => ?_
                    refine W.cond hE rfl (fun hc242 => ?_) (fun hc242 => ?_)
                    · replace hq236 := iteT hc242 hq236
                      refine W.region ?_
                      refine WL.vS hS hE (runs_plain rfl) (Gives.p hE rfl) rfl ?_; clear hE a; intro a hE
                      refine WL.vS hS hE (runs_plain rfl) (Gives.p hE rfl) rfl ?_; clear hE a; intro a hE
                      refine WL.nil ?_
                      subst hK241
                      exact ⟨((k129 : Nat) : Int), hq236, hE.pick _ ⟨rfl, rfl, rfl, rfl, rfl, rfl, rfl, rfl, rfl, rfl, rfl, rfl, rfl, trivial⟩, hS⟩
                    · replace hq236 := iteF hc242 hq236
                      refine W.skip ?_
                      subst hK241
                      exact ⟨q139, hq236, hE.pick _ ⟨rfl, rfl, rfl, rfl, rfl, rfl, rfl, rfl, rfl, rfl, rfl, rfl, rfl, trivial⟩, hS⟩
                  · clear hE hS a w; rintro a w ⟨q240, rfl, hE, hS⟩
                    refine W.region ?_
                    refine WL.vS hS hE (runs_plain rfl) (Gives.inc hE rfl (by omega)) rfl ?_; clear hE a; intro a hE
                    refine WL.vS hS hE (runs_plain rfl) (Gives.p hE rfl) rfl ?_; clear hE a; intro a hE
                    refine WL.nil ?_
                    subst hK140
                    exact ⟨rest131, Nat.lt_succ_self _, rest131, k129 + 1, q240, rfl, (by omega), hq127, hE.pick _ ⟨rfl, rfl, rfl, rfl, rfl, rfl, rfl, rfl, rfl, rfl, rfl, rfl, rfl, trivial⟩, hS⟩
            · clear hE hS a w; rintro a w ⟨q139, rfl, hE, hS⟩
              refine W.seq ?_
              refine W.seq ?_
              refine W.region ?_
              refine WL.vS hS hE (runs_plain rfl) (Gives.p hE rfl) rfl ?_; clear hE a; intro a hE
              refine WL.vS hS hE (runs_plain rfl) (Gives.p hE rfl) rfl ?_; clear hE a; intro a hE
              refine WL.nil ?_
              obtain ⟨q244, hq243, hq111⟩ := bindS hq111
              refine W.cut (fun a w => ∃ (q247 : List (List Int)), ∃ (q254 : Int), ∃ (a248 : Option Addr), ∃ (c249 : Nat), ∃ (n250 : Nat), ∃ (ds251 : List In), (q247, q254) = q244 ∧ NEv 1 (RI .i64) s ds251 q247 ∧ q247.length = n250 ∧ Rep a 113 [(0, .slice a0 x0.length c0), (1, .int .i64 x1), (7, .slice a248 n250 c249), (9, .int .i64 x81), (10, .int .i64 q254), (21, .slice a55 q53.length c56), (22, .int .i64 ((q53.length : Nat) : Int)), (23, .int .i64 ((k63 : Nat) : Int)), (31, .int .i64 x91.Units), (32, .int .i64 q124)] ∧ St w s (vecC 3 1 a55 c56 q53.length cs58 :: nestC 44 3 1 a248 c249 n250 ds251 :: R)) ?_ ?_
              · refine W.gen fun K255 hK255 => ?_
                refine W.cond hE rfl (fun hc256 => ?_) (fun hc256 => ?_)
                · replace hq243 := iteT hc256 hq243
                  refine W.seq ?_
                  refine W.region ?_
                  refine WL.vS hS hE (runs_plain rfl) (Gives.p hE rfl) rfl ?_; clear hE a; intro a hE
                  refine WL.lit hE hS (e := 44) (es := 1) (vs := [(0, .slice none 0 0)]) (cs := [.slice none 0 0]) (runs_plain rfl) rfl (by kernel_rfl) rfl ?_; clear hE hS a w; intro b257 a w hE hS
                  replace hS := hS.vecNil 3 1
                  obtain ⟨x259, hx260, hq243⟩ := bindS hq243
                  replace hS := hS.front 1 rfl
                  refine WL.appND hE hS 1 rfl (runs_plain rfl) rfl rfl ap25 h122 rfl (Ev.nil) (rfl) hx260 rfl ?_; clear hE hS a w; intro a261 c262 ds263 a w h264 hE hS
                  refine WL.vS hS hE (runs_plain rfl) (Gives.p hE rfl) rfl ?_; clear hE a; intro a hE
                  refine WL.nil ?_
                  refine W.region ?_
                  refine WL.vS hS hE (runs_plain rfl) (Gives.p hE rfl) rfl ?_; clear hE a; intro a hE
                  refine WL.vS hS hE (runs_plain rfl) (Gives.len hE rfl sl25) rfl ?_; clear hE a; intro a hE
                  refine WL.vS hS hE (runs_plain rfl) (Gives.p hE rfl) rfl ?_; clear hE a; intro a hE
                  refine WL.vS hS hE (runs_plain rfl) (Gives.p hE rfl) rfl ?_; clear hE a; intro a hE
                  refine WL.nil ?_
                  subst hK255
                  exact ⟨x259, w64 (((x259.length : Nat) : Int) - 1), a261, c262, x259.length, ds263, Option.some.inj hq243, h264, (rfl), hE.pick _ ⟨rfl, rfl, rfl, rfl, rfl, rfl, rfl, rfl, rfl, rfl, trivial⟩, hS⟩
                · replace hq243 := iteF hc256 hq243
                  refine W.skip ?_
                  subst hK255
                  exact ⟨q117, q139, a118, c119, q117.length, ds121, Option.some.inj hq243, h122, rfl, hE.pick _ ⟨rfl, rfl, rfl, rfl, rfl, rfl, rfl, rfl, rfl, rfl, trivial⟩, hS⟩
              · clear hE hS a w; rintro a w ⟨q247, q254, a248, c249, n250, ds251, rfl, h252, rfl, hE, hS⟩
                dsimp only at hq111
                refine W.region ?_
                refine WL.vS hS hE (runs_plain rfl) (Gives.p hE rfl) rfl ?_; clear hE a; intro a hE
                refine WL.vS hS hE (runs_plain rfl) (Gives.p hE rfl) rfl ?_; clear hE a; intro a hE
                refine WL.vS hS hE (runs_plain rfl) (Gives.p hE rfl) rfl ?_; clear hE a; intro a hE
                refine WL.vS hS hE (runs_plain rfl) (Gives.p hE rfl) rfl ?_; clear hE a; intro a hE
                obtain ⟨x265, hx266, hq111⟩ := bindS hq111
                obtain ⟨hi267, hlt268, hy269⟩ := gx_some hx266
                obtain ⟨a270, c271, cs272, hd273, hev274⟩ := h252.at hy269
                refine WL.vS hS hE (runs_plain rfl) (Gives.idx hE ((q254).toNat) rfl rfl sl25 hi267 (by omega) (hS.nAok 1 rfl (by omega : (q254).toNat < q247.length))) rfl ?_; clear hE a; intro a hE
                refine WL.vS hS hE (runs_plain rfl) (Gives.load1 (v := .slice a270 x265.length c271) hE rfl (fun w h => St.nSees h 1 rfl hd273) ty44) rfl ?_; clear hE a; intro a hE
                refine WL.vS hS hE (runs_plain rfl) (Gives.p hE rfl) rfl ?_; clear hE a; intro a hE
                refine WL.lit hE hS (e := 3) (es := 1) (vs := [(0, .int .i64 x81)]) (cs := [.int .i64 x81]) (runs_plain rfl) rfl (by kernel_rfl) rfl ?_; clear hE hS a w; intro b275 a w hE hS
                replace hS := hS.borrowM 2 rfl hd273
                replace hS := hS.front 1 rfl
                obtain ⟨x277, hx278, hq111⟩ := bindS hq111
                refine WL.appD hE hS 0 (m := 1) (runs_plain rfl) rfl rfl rfl ap44 rfl hev274 (rfl) (xs := [x81]) (Ev.cons (c1 := [.int .i64 x81]) rfl rfl (Ev.nil)) rfl rfl hx278 rfl ?_; clear hE hS a w; intro a279 c280 cs281 a w h282 hE hS
                obtain ⟨_, hx283, hq111⟩ := bindS hq111
                obtain ⟨h284, h285⟩ := ix_some hx283
                refine WL.vS hS hE (runs_plain rfl) (Gives.idx hE ((q254).toNat) rfl rfl sl25 h284 (by omega) (hS.hAok 2 rfl (by omega : (q254).toNat < q247.length))) rfl ?_; clear hE a; intro a hE
                obtain ⟨x286, hx287, hq111⟩ := bindS hq111
                refine WL.storeND hE hS 1 rfl (runs_plain rfl) rfl rfl ty44 h252 rfl (by have := (sx_some hx287).1; omega) hx287 h282 (rfl) rfl ?_; clear hE hS a w; intro ds288 a w h289 hn290 hE hS
                refine WL.nil ?_
                refine W.region ?_
                refine WL.vS hS hE (runs_plain rfl) (Gives.p hE rfl) rfl ?_; clear hE a; intro a hE
                refine WL.vS hS hE (runs_plain rfl) (Gives.p hE rfl) rfl ?_; clear hE a; intro a hE
                refine WL.nil ?_
                subst hK125
                exact ⟨n113, Nat.lt_succ_self _, n113, x286, (w64 (q124 + 1)), a248, c249, q247.length, ds288, rfl, hq111, h289, hn290, hE.pick _ ⟨rfl, rfl, rfl, rfl, rfl, rfl, rfl, rfl, rfl, trivial⟩, hS⟩
          · replace hq111 := iteF hc126 hq111
            subst hK125
            refine W.exit rfl ?_
            exact ⟨q117, q124, a118, c119, q117.length, ds121, Option.some.inj hq111, h122, rfl, hE.pick _ ⟨rfl, rfl, rfl, rfl, rfl, rfl, trivial⟩, hS⟩
        · clear hE hS a w; rintro a w ⟨q117, q124, a118, c119, n120, ds121, rfl, h122, rfl, hE, hS⟩
          dsimp only at hq61
          refine W.region ?_
          refine WL.vS hS hE (runs_plain rfl) (Gives.inc hE rfl (by omega)) rfl ?_; clear hE a; intro a hE
          refine WL.vS hS hE (runs_plain rfl) (Gives.p hE rfl) rfl ?_; clear hE a; intro a hE
          refine WL.nil ?_
          subst hK80
          exact ⟨rest65, Nat.lt_succ_self _, rest65, k63 + 1, q117, a118, c119, q117.length, ds121, rfl, (by omega), hq61, h122, rfl, hE.pick _ ⟨rfl, rfl, rfl, rfl, rfl, rfl, trivial⟩, hS⟩
    · clear hE hS a w; rintro a w ⟨q73, a74, c75, n76, ds77, rfl, h78, rfl, hE, hS⟩
      refine W.seq ?_
      refine W.region ?_
      refine WL.vS hS hE (runs_plain rfl) (Gives.p hE rfl) rfl ?_; clear hE a; intro a hE
      refine WL.vS hS hE (runs_plain rfl) (Gives.p hE rfl) rfl ?_; clear hE a; intro a hE
      refine WL.vS hS hE (runs_plain rfl) (Gives.p hE rfl) rfl ?_; clear hE a; intro a hE
      refine WL.nil ?_
      refine W.ret ?_
      have hF := hS.fixN RI.mono 1 rfl h78 rfl; clear hS; obtain ⟨s291, hle292, hS, h293⟩ := hF
      replace h59 := Ev.mono RI.mono hle292 h59
      refine finG (fn := Try.f60) (rs := [.tmp 4, .tmp 5]) (vs := [_, _]) hE rfl ⟨rfl, rfl, trivial⟩ ?_
      obtain rfl := Option.some.inj hr
      replace hS := hS.tail
      exact ⟨a74, c75, s291, rfl, hle292, h293, hS⟩
set_option maxHeartbeats 8000000 in
theorem SlicesEqualLint_ok  {w : World} {s : Sg} {R : List HP} {x0 : List Int} {a0 : Option Addr} {c0 : Nat} {x1 : List Int} {a1 : Option Addr} {c1 : Nat} (hS : St w s (R)) (h0 : Sl 1 (RI .i64) s a0 c0 x0) (h1 : Sl 1 (RI .i64) s a1 c1 x1) {r : Bool} (hr : SlicesEqualLint x0 x1 = some r) :
    Calls Try.prog 30 [.slice a0 x0.length c0, .slice a1 x1.length c1].toArray w (fun e w => e = .returned (.bool r) ∧ St w s (R)) := by
  refine enter Try.func30 rfl rfl rfl fun a hE => ?_
  rw [SlicesEqualLint] at hr
  refine W.seq ?_
  refine W.region ?_
  refine WL.vS hS hE (runs_plain rfl) (Gives.p hE rfl) rfl ?_; clear hE a; intro a hE
  refine WL.nil ?_
  refine W.seq ?_
  refine W.seq ?_
  refine W.region ?_
  refine WL.vS hS hE (runs_plain rfl) (Gives.p hE rfl) rfl ?_; clear hE a; intro a hE
  refine WL.vS hS hE (runs_plain rfl) (Gives.len hE rfl sl44) rfl ?_; clear hE a; intro a hE
  refine WL.vS hS hE (runs_plain rfl) (Gives.p hE rfl) rfl ?_; clear hE a; intro a hE
  refine WL.vS hS hE (runs_plain rfl) (Gives.len hE rfl sl44) rfl ?_; clear hE a; intro a hE
  refine WL.vS hS hE (runs_plain rfl) (Gives.p hE rfl) rfl ?_; clear hE a; intro a hE
  refine WL.nil ?_
  refine W.cond hE rfl (fun hc51 => ?_) (fun hc51 => ?_)
  · replace hr := iteT hc51 hr
    refine W.seq ?_
    refine W.region ?_
    refine WL.vS hS hE (runs_plain rfl) (Gives.p hE rfl) rfl ?_; clear hE a; intro a hE
    refine WL.nil ?_
    refine W.ret ?_
    refine finG (fn := Try.f30) (rs := [.tmp 4]) (vs := [_]) hE rfl ⟨rfl, trivial⟩ ?_
    obtain rfl := Option.some.inj hr
    exact ⟨rfl, hS⟩
  · replace hr := iteF hc51 hr
    refine W.skip ?_
    refine W.seq ?_
    refine W.seq ?_
    refine W.region ?_
    refine WL.vS hS hE (runs_plain rfl) (Gives.p hE rfl) rfl ?_; clear hE a; intro a hE
    refine WL.vS hS hE (runs_plain rfl) (Gives.len hE rfl sl44) rfl ?_; clear hE a; intro a hE
    refine WL.vS hS hE (runs_plain rfl) (Gives.p hE rfl) rfl ?_; clear hE a; intro a hE
    refine WL.nil ?_
    obtain ⟨q53, hq52, hr⟩ := bindS hr
    refine W.cut (fun a w => (.next ()) = q53 ∧ Rep a 26 [] ∧ St w s (R)) ?_ ?_
    · refine W.block ?_
      refine W.loop (fun m a w => ∃ (rest56 : List Int) (k54 : Nat), rest56.length = m ∧ x0.drop k54 = rest56 ∧ SlicesEqualLint.loop1 x1 rest56 k54 = some q53 ∧ Rep a 26 [(0, .slice a0 x0.length c0), (1, .slice a1 x1.length c1), (12, .int .i64 ((x0).length : Int)), (13, .int .i64 ((k54 : Nat) : Int))] ∧ St w s (R)) (m := x0.length) ⟨x0, 0, rfl, rfl, hq52, hE.pick _ ⟨rfl, rfl, rfl, rfl, trivial⟩, hS⟩ ?_
      clear hE hS a w hq52; rintro m60 a w ⟨rest56, k54, rfl, hd57, hq52, hE, hS⟩
      refine W.gen fun K63 hK63 => ?_
      rcases rest56 with _ | ⟨x55, rest56⟩
      · have hlt58 := drop_nil hd57
        refine W.seq ?_
        refine W.region ?_
        refine WL.vS hS hE (runs_plain rfl) (Gives.p hE rfl) rfl ?_; clear hE a; intro a hE
        refine WL.nil ?_
        refine W.seq ?_
        refine W.condF hE rfl (decide_eq_false (by omega)) ?_
        subst hK63
        refine W.exit rfl ?_
        exact ⟨Option.some.inj hq52, hE.pick _ trivial, hS⟩
      · obtain ⟨hlt58, hx59, hd57⟩ := drop_cons hd57
        rw [SlicesEqualLint.loop1] at hq52
        refine W.seq ?_
        refine W.region ?_
        refine WL.vS hS hE (runs_plain rfl) (Gives.p hE rfl) rfl ?_; clear hE a; intro a hE
        refine WL.nil ?_
        refine W.seq ?_
        refine W.condT hE rfl (decide_eq_true (by omega)) ?_
        refine W.skip ?_
        refine W.seq ?_
        refine W.block ?_
        refine W.seq ?_
        refine W.region ?_
        refine WL.vS hS hE (runs_plain rfl) (Gives.p hE rfl) rfl ?_; clear hE a; intro a hE
        refine WL.vS hS hE (runs_plain rfl) (Gives.p hE rfl) rfl ?_; clear hE a; intro a hE
        refine WL.nil ?_
        refine W.seq ?_
        refine W.regionQ (C := fun w => St w s (R)) mixed (by kernel_rfl) hS.drew ?_
        refine QL.v hE (runs_plain rfl) (Gives.p hE rfl) rfl ?_; clear hE a; intro a hE
        refine QL.v hE (runs_plain rfl) (Gives.p hE rfl) rfl ?_; clear hE a; intro a hE
        obtain ⟨cs64, hl65, hR66, hat67⟩ := h0.at hx59
        subst hR66
        refine QL.v hE (runs_plain rfl) (Gives.idx hE k54 rfl rfl sl44 rfl hlt58 (h0.aok hlt58)) rfl ?_; clear hE a; intro a hE
        refine QL.v hE (runs_plain rfl) (Gives.load1 hE rfl (fun w h => hat67 w _ h) ty3) rfl ?_; clear hE a; intro a hE
        refine QL.v hE (runs_plain rfl) (Gives.p hE rfl) rfl ?_; clear hE a; intro a hE
        refine QL.v hE (runs_plain rfl) (Gives.p hE rfl) rfl ?_; clear hE a; intro a hE
        obtain ⟨x68, hx69, hq52⟩ := bindS hq52
        obtain ⟨hi70, hlt71, hy72⟩ := gx_some hx69
        obtain ⟨cs73, hl74, hR75, hat76⟩ := h1.at hy72
        subst hR75
        refine QL.v hE (runs_plain rfl) (Gives.idx hE (((k54 : Nat) : Int)).toNat rfl rfl sl44 hi70 hlt71 (h1.aok hlt71)) rfl ?_; clear hE a; intro a hE
        refine QL.v hE (runs_plain rfl) (Gives.load1 hE rfl (fun w h => hat76 w _ h) ty3) rfl ?_; clear hE a; intro a hE
        refine QL.v hE (runs_plain rfl) (Gives.p hE rfl) rfl ?_; clear hE a; intro a hE
        refine QL.nil ?_; clear hS w; intro w hS
        refine W.cond hE rfl (fun hc77 => ?_) (fun hc77 => ?_)
        · replace hq52 := iteT hc77 hq52
          refine W.seq ?_
          refine W.region ?_
          refine WL.vS hS hE (runs_plain rfl) (Gives.p hE rfl) rfl ?_; clear hE a; intro a hE
          refine WL.nil ?_
          refine W.ret ?_
          subst hK63
          rw [← Option.some.inj hq52] at hr
          dsimp only at hr
          refine finG (fn := Try.f30) (rs := [.tmp 4]) (vs := [_]) hE rfl ⟨rfl, trivial⟩ ?_
          obtain rfl := Option.some.inj hr
          exact ⟨rfl, hS⟩
        · replace hq52 := iteF hc77 hq52
          refine W.skip ?_
          refine W.region ?_
          refine WL.vS hS hE (runs_plain rfl) (Gives.inc hE rfl (by have := h0.small; omega)) rfl ?_; clear hE a; intro a hE
          refine WL.vS hS hE (runs_plain rfl) (Gives.p hE rfl) rfl ?_; clear hE a; intro a hE
          refine WL.nil ?_
          subst hK63
          exact ⟨rest56.length, Nat.lt_succ_self _, rest56, k54 + 1, rfl, hd57, hq52, hE.pick _ ⟨rfl, rfl, rfl, rfl, trivial⟩, hS⟩
    · clear hE hS a w; rintro a w ⟨rfl, hE, hS⟩
      dsimp only at hr
      refine W.seq ?_
      refine W.region ?_
      refine WL.vS hS hE (runs_plain rfl) (Gives.p hE rfl) rfl ?_; clear hE a; intro a hE
      refine WL.nil ?_
      refine W.ret ?_
      refine finG (fn := Try.f30) (rs := [.tmp 4]) (vs := [_]) hE rfl ⟨rfl, trivial⟩ ?_
      obtain rfl := Option.some.inj hr
      exact ⟨rfl, hS⟩
set_option maxHeartbeats 8000000 in
theorem SlicesEqualFuncLLint_v1_ok  {w : World} {s : Sg} {R : List HP} {x0 : List (List Int)} {a0 : Option Addr} {c0 : Nat} {x1 : List (List Int)} {a1 : Option Addr} {c1 : Nat} (hS : St w s (R)) (h0 : Sl 1 (RL 1 (RI .i64)) s a0 c0 x0) (h1 : Sl 1 (RL 1 (RI .i64)) s a1 c1 x1) {r : Bool} (hr : SlicesEqualFuncLLint_v1 x0 x1 = some r) :
    Calls Try.prog 53 [.slice a0 x0.length c0, .slice a1 x1.length c1, .func (.func 30) #[] #[]].toArray w (fun e w => e = .returned (.bool r) ∧ St w s (R)) := by
  refine enter Try.func53 rfl rfl rfl fun a hE => ?_
  rw [SlicesEqualFuncLLint_v1] at hr
  refine W.seq ?_
  refine W.region ?_
  refine WL.vS hS hE (runs_plain rfl) (Gives.p hE rfl) rfl ?_; clear hE a; intro a hE
  refine WL.nil ?_
  refine W.seq ?_
  refine W.seq ?_
  refine W.region ?_
  refine WL.vS hS hE (runs_plain rfl) (Gives.p hE rfl) rfl ?_; clear hE a; intro a hE
  refine WL.vS hS hE (runs_plain rfl) (Gives.len hE rfl sl25) rfl ?_; clear hE a; intro a hE
  refine WL.vS hS hE (runs_plain rfl) (Gives.p hE rfl) rfl ?_; clear hE a; intro a hE
  refine WL.vS hS hE (runs_plain rfl) (Gives.len hE rfl sl25) rfl ?_; clear hE a; intro a hE
  refine WL.vS hS hE (runs_plain rfl) (Gives.p hE rfl) rfl ?_; clear hE a; intro a hE
  refine WL.nil ?_
  refine W.cond hE rfl (fun hc51 => ?_) (fun hc51 => ?_)
  · replace hr := iteT hc51 hr
    refine W.seq ?_
    refine W.region ?_
    refine WL.vS hS hE (runs_plain rfl) (Gives.p hE rfl) rfl ?_; clear hE a; intro a hE
    refine WL.nil ?_
    refine W.ret ?_
    refine finG (fn := Try.f53) (rs := [.tmp 6]) (vs := [_]) hE rfl ⟨rfl, trivial⟩ ?_
    obtain rfl := Option.some.inj hr
    exact ⟨rfl, hS⟩
  · replace hr := iteF hc51 hr
    refine W.skip ?_
    refine W.seq ?_
    refine W.seq ?_
    refine W.region ?_
    refine WL.vS hS hE (runs_plain rfl) (Gives.p hE rfl) rfl ?_; clear hE a; intro a hE
    refine WL.vS hS hE (runs_plain rfl) (Gives.len hE rfl sl25) rfl ?_; clear hE a; intro a hE
    refine WL.vS hS hE (runs_plain rfl) (Gives.p hE rfl) rfl ?_; clear hE a; intro a hE
    refine WL.nil ?_
    obtain ⟨q53, hq52, hr⟩ := bindS hr
    refine W.cut (fun a w => (.next ()) = q53 ∧ Rep a 32 [] ∧ St w s (R)) ?_ ?_
    · refine W.block ?_
      refine W.loop (fun m a w => ∃ (rest56 : List (List Int)) (k54 : Nat), rest56.length = m ∧ x0.drop k54 = rest56 ∧ SlicesEqualFuncLLint_v1.loop1 x1 rest56 k54 = some q53 ∧ Rep a 32 [(1, .slice a1 x1.length c1), (2, .func (.func 30) #[] #[]), (15, .slice a0 x0.length c0), (16, .int .i64 ((x0).length : Int)), (17, .int .i64 ((k54 : Nat) : Int))] ∧ St w s (R)) (m := x0.length) ⟨x0, 0, rfl, rfl, hq52, hE.pick _ ⟨rfl, rfl, rfl, rfl, rfl, trivial⟩, hS⟩ ?_
      clear hE hS a w hq52; rintro m60 a w ⟨rest56, k54, rfl, hd57, hq52, hE, hS⟩
      refine W.gen fun K63 hK63 => ?_
      rcases rest56 with _ | ⟨x55, rest56⟩
      · have hlt58 := drop_nil hd57
        refine W.seq ?_
        refine W.region ?_
        refine WL.vS hS hE (runs_plain rfl) (Gives.p hE rfl) rfl ?_; clear hE a; intro a hE
        refine WL.nil ?_
        refine W.seq ?_
        refine W.condF hE rfl (decide_eq_false (by omega)) ?_
        subst hK63
        refine W.exit rfl ?_
        exact ⟨Option.some.inj hq52, hE.pick _ trivial, hS⟩
      · obtain ⟨hlt58, hx59, hd57⟩ := drop_cons hd57
        rw [SlicesEqualFuncLLint_v1.loop1] at hq52
        refine W.seq ?_
        refine W.region ?_
        refine WL.vS hS hE (runs_plain rfl) (Gives.p hE rfl) rfl ?_; clear hE a; intro a hE
        refine WL.nil ?_
        refine W.seq ?_
        refine W.condT hE rfl (decide_eq_true (by omega)) ?_
        refine W.skip ?_
        refine W.seq ?_
        refine W.block ?_
        refine W.seq ?_
        refine W.region ?_
        refine WL.vS hS hE (runs_plain rfl) (Gives.p hE rfl) rfl ?_; clear hE a; intro a hE
        obtain ⟨cs64, hl65, hR66, hat67⟩ := h0.at hx59
        obtain ⟨a68, c69, rfl, h70⟩ := hR66
        refine WL.vS hS hE (runs_plain rfl) (Gives.idx hE k54 rfl rfl sl25 rfl hlt58 (h0.aok hlt58)) rfl ?_; clear hE a; intro a hE
        refine WL.vS hS hE (runs_plain rfl) (Gives.load1 hE rfl (fun w h => hat67 w _ h) ty44) rfl ?_; clear hE a; intro a hE
        refine WL.vS hS hE (runs_plain rfl) (Gives.p hE rfl) rfl ?_; clear hE a; intro a hE
        refine WL.vS hS hE (runs_plain rfl) (Gives.p hE rfl) rfl ?_; clear hE a; intro a hE
        refine WL.nil ?_
        refine W.seq ?_
        refine W.region ?_
        refine WL.vS hS hE (runs_plain rfl) (Gives.p hE rfl) rfl ?_; clear hE a; intro a hE
        refine WL.vS hS hE (runs_plain rfl) (Gives.p hE rfl) rfl ?_; clear hE a; intro a hE
        obtain ⟨x71, hx72, hq52⟩ := bindS hq52
        obtain ⟨hi73, hlt74, hy75⟩ := gx_some hx72
        obtain ⟨cs76, hl77, hR78, hat79⟩ := h1.at hy75
        obtain ⟨a80, c81, rfl, h82⟩ := hR78
        refine WL.vS hS hE (runs_plain rfl) (Gives.idx hE (((k54 : Nat) : Int)).toNat rfl rfl sl25 hi73 hlt74 (h1.aok hlt74)) rfl ?_; clear hE a; intro a hE
        refine WL.vS hS hE (runs_plain rfl) (Gives.load1 hE rfl (fun w h => hat79 w _ h) ty44) rfl ?_; clear hE a; intro a hE
        refine WL.vS hS hE (runs_plain rfl) (Gives.p hE rfl) rfl ?_; clear hE a; intro a hE
        refine WL.nil ?_
        refine W.seq ?_
        refine W.region ?_
        refine WL.vS hS hE (runs_plain rfl) (Gives.p hE rfl) rfl ?_; clear hE a; intro a hE
        refine WL.vS hS hE (runs_plain rfl) (Gives.p hE rfl) rfl ?_; clear hE a; intro a hE
        refine WL.vS hS hE (runs_plain rfl) (Gives.p hE rfl) rfl ?_; clear hE a; intro a hE
        obtain ⟨q83, hq84, hq52⟩ := bindS hq52
        have hc_ := SlicesEqualLint_ok hS h70 h82 hq84
        refine WL.fnw hE (hc_) rfl (runs_plain rfl) bd30 rfl rfl rfl ?_
        clear hE hS hc_; rintro e w ⟨rfl, hS⟩; refine ⟨_, rfl, ?_⟩; clear a; intro a hE
        refine WL.vS hS hE (runs_plain rfl) (Gives.p hE rfl) rfl ?_; clear hE a; intro a hE
        refine WL.nil ?_
        refine W.cond hE rfl (fun hc85 => ?_) (fun hc85 => ?_)
        · replace hq52 := iteT hc85 hq52
          refine W.seq ?_
          refine W.region ?_
          refine WL.vS hS hE (runs_plain rfl) (Gives.p hE rfl) rfl ?_; clear hE a; intro a hE
          refine WL.nil ?_
          refine W.ret ?_
          subst hK63
          rw [← Option.some.inj hq52] at hr
          dsimp only at hr
          refine finG (fn := Try.f53) (rs := [.tmp 6]) (vs := [_]) hE rfl ⟨rfl, trivial⟩ ?_
          obtain rfl := Option.some.inj hr
          exact ⟨rfl, hS⟩
        · replace hq52 := iteF hc85 hq52
          refine W.skip ?_
          refine W.region ?_
          refine WL.vS hS hE (runs_plain rfl) (Gives.inc hE rfl (by have := h0.small; omega)) rfl ?_; clear hE a; intro a hE
          refine WL.vS hS hE (runs_plain rfl) (Gives.p hE rfl) rfl ?_; clear hE a; intro a hE
          refine WL.nil ?_
          subst hK63
          exact ⟨rest56.length, Nat.lt_succ_self _, rest56, k54 + 1, rfl, hd57, hq52, hE.pick _ ⟨rfl, rfl, rfl, rfl, rfl, trivial⟩, hS⟩
    · clear hE hS a w; rintro a w ⟨rfl, hE, hS⟩
      dsimp only at hr
      refine W.seq ?_
      refine W.region ?_
      refine WL.vS hS hE (runs_plain rfl) (Gives.p hE rfl) rfl ?_; clear hE a; intro a hE
      refine WL.nil ?_
      refine W.ret ?_
      refine finG (fn := Try.f53) (rs := [.tmp 6]) (vs := [_]) hE rfl ⟨rfl, trivial⟩ ?_
      obtain rfl := Option.some.inj hr
      exact ⟨rfl, hS⟩
set_option maxHeartbeats 8000000 in
theorem Fishlaw2lists_ok  {w : World} {s : Sg} {R : List HP} {x0 : List (List Int)} {a0 : Option Addr} {c0 : Nat} {x1 : List (List Int)} {a1 : Option Addr} {c1 : Nat} (hS : St w s (R)) (h0 : Sl 1 (RL 1 (RI .i64)) s a0 c0 x0) (h1 : Sl 1 (RL 1 (RI .i64)) s a1 c1 x1) {r : Bool} (hr : Fishlaw2lists x0 x1 = some r) :
    Calls Try.prog 13 [.slice a0 x0.length c0, .slice a1 x1.length c1].toArray w (fun e w => e = .returned (.bool r) ∧ St w s (R)) := by
  refine enter Try.func13 rfl rfl rfl fun a hE => ?_
  rw [Fishlaw2lists] at hr
  refine W.seq ?_
  refine W.region ?_
  refine WL.vS hS hE (runs_plain rfl) (Gives.p hE rfl) rfl ?_; clear hE a; intro a hE
  refine WL.nil ?_
  refine W.seq ?_
  refine W.region ?_
  refine WL.vS hS hE (runs_plain rfl) (Gives.p hE rfl) rfl ?_; clear hE a; intro a hE
  refine WL.vS hS hE (runs_plain rfl) (Gives.p hE rfl) rfl ?_; clear hE a; intro a hE
  obtain ⟨q51, hq52, hr⟩ := bindS hr
  have hc_ := SlicesEqualFuncLLint_v1_ok hS h0 h1 hq52
  refine WL.fnq hE (hc_) (runs_plain rfl) bd53 rfl rfl rfl ?_
  clear hE hS hc_; rintro e w ⟨rfl, hS⟩; refine ⟨_, rfl, ?_⟩; clear a; intro a hE
  refine WL.vS hS hE (runs_plain rfl) (Gives.p hE rfl) rfl ?_; clear hE a; intro a hE
  refine WL.nil ?_
  refine W.ret ?_
  refine finG (fn := Try.f13) (rs := [.tmp 4]) (vs := [_]) hE rfl ⟨rfl, trivial⟩ ?_
  obtain rfl := Option.some.inj hr
  exact ⟨rfl, hS⟩
set_option maxHeartbeats 8000000 in
theorem Fishlaw2sets_ok {fu : Nat}  {w : World} {s : Sg} {R : List HP}  (hS : St w s (R))  {r : Bool} (hr : Fishlaw2sets fu = some r) :
    Calls Try.prog 17 [].toArray w (fun e w => e = .returned (.bool r) ∧ St w s (R)) := by
  refine enter Try.func17 rfl rfl rfl fun a hE => ?_
  rw [Fishlaw2sets] at hr
  refine W.seq ?_
  refine W.region ?_
  refine WL.vS hS hE (runs_plain rfl) (Gives.p hE rfl) rfl ?_; clear hE a; intro a hE
  refine WL.nil ?_
  refine W.seq ?_
  refine W.region ?_
  refine WL.vS hS hE (runs_plain rfl) (Gives.build hE (vs := [(0, .int .i64 0), (1, .int .i64 1), (2, .int .i64 10), (3, .int .i64 20), (5, .int .i64 1)]) [.int .i64 0, .int .i64 1, .int .i64 10, .int .i64 20, .int .i64 0, .int .i64 1] rfl (by kernel_rfl)) rfl ?_; clear hE a; intro a hE
  refine WL.vS hS hE (runs_plain rfl) (Gives.build hE (vs := [(0, .int .i64 0), (1, .int .i64 1), (2, .int .i64 30), (3, .int .i64 40), (5, .int .i64 1)]) [.int .i64 0, .int .i64 1, .int .i64 30, .int .i64 40, .int .i64 0, .int .i64 1] rfl (by kernel_rfl)) rfl ?_; clear hE a; intro a hE
  refine WL.vS hS hE (runs_plain rfl) (Gives.build hE (vs := [(0, .int .i64 1), (1, .int .i64 0), (2, .int .i64 25), (3, .int .i64 29), (5, .int .i64 1)]) [.int .i64 1, .int .i64 0, .int .i64 25, .int .i64 29, .int .i64 0, .int .i64 1] rfl (by kernel_rfl)) rfl ?_; clear hE a; intro a hE
  refine WL.lit hE hS (e := 78) (es := 6) (vs := [(0, .agg [.int .i64 0, .int .i64 1, .int .i64 10, .int .i64 20, .int .i64 0, .int .i64 1].toArray), (1, .agg [.int .i64 0, .int .i64 1, .int .i64 30, .int .i64 40, .int .i64 0, .int .i64 1].toArray), (2, .agg [.int .i64 1, .int .i64 0, .int .i64 25, .int .i64 29, .int .i64 0, .int .i64 1].toArray)]) (cs := [.int .i64 0, .int .i64 1, .int .i64 10, .int .i64 20, .int .i64 0, .int .i64 1, .int .i64 0, .int .i64 1, .int .i64 30, .int .i64 40, .int .i64 0, .int .i64 1, .int .i64 1, .int .i64 0, .int .i64 25, .int .i64 29, .int .i64 0, .int .i64 1]) (runs_plain rfl) rfl (by kernel_rfl) rfl ?_; clear hE hS a w; intro b51 a w hE hS
  replace hS := hS.ptVec (es := 6) (m := 3) rfl (by decide)
  have h53 : Ev 6 RFleetTask s [.int .i64 0, .int .i64 1, .int .i64 10, .int .i64 20, .int .i64 0, .int .i64 1, .int .i64 0, .int .i64 1, .int .i64 30, .int .i64 40, .int .i64 0, .int .i64 1, .int .i64 1, .int .i64 0, .int .i64 25, .int .i64 29, .int .i64 0, .int .i64 1] [(FleetTask.mk 0 1 10 20 0 1), (FleetTask.mk 0 1 30 40 0 1), (FleetTask.mk 1 0 25 29 0 1)] := (Ev.cons (c1 := [.int .i64 0, .int .i64 1, .int .i64 10, .int .i64 20, .int .i64 0, .int .i64 1]) rfl rfl (Ev.cons (c1 := [.int .i64 0, .int .i64 1, .int .i64 30, .int .i64 40, .int .i64 0, .int .i64 1]) rfl rfl (Ev.cons (c1 := [.int .i64 1, .int .i64 0, .int .i64 25, .int .i64 29, .int .i64 0, .int .i64 1]) rfl rfl (Ev.nil))))
  have hF := hS.fixD RFleetTask.mono 0 rfl h53 (rfl); clear hS; obtain ⟨s54, hle55, hS, h56⟩ := hF
  refine WL.vS hS hE (runs_plain rfl) (Gives.p hE rfl) rfl ?_; clear hE a; intro a hE
  refine WL.nil ?_
  refine W.seq ?_
  refine W.region ?_
  refine WL.vS hS hE (runs_plain rfl) (Gives.p hE rfl) rfl ?_; clear hE a; intro a hE
  obtain ⟨q57, hq58, hr⟩ := bindS hr
  have hc_ := FleetTurns_ok hS h56 hq58
  refine WL.fnq hE (hc_) (runs_plain rfl) bd60 rfl rfl rfl ?_
  clear hE hS hc_; rintro e w ⟨a59, c60, s62, rfl, hle63, h61, hS⟩; refine ⟨_, rfl, ?_⟩; clear a; intro a hE
  replace h56 := Sl.mono RFleetTask.mono hle63 h56
  refine WL.vS hS hE (runs_plain rfl) (Gives.p hE rfl) rfl ?_; clear hE a; intro a hE
  refine WL.vS hS hE (runs_plain rfl) (Gives.p hE rfl) rfl ?_; clear hE a; intro a hE
  refine WL.vS hS hE (runs_plain rfl) (Gives.p hE rfl) rfl ?_; clear hE a; intro a hE
  refine WL.vS hS hE (runs_plain rfl) (Gives.p hE rfl) rfl ?_; clear hE a; intro a hE
  refine WL.vS hS hE (runs_plain rfl) (Gives.p hE rfl) rfl ?_; clear hE a; intro a hE
  refine WL.nil ?_
  refine W.seq ?_
  obtain ⟨q65, hq64, hr⟩ := bindS hr
  refine W.cut (fun a w => ∃ (q68 : Bool), ∃ (s66 : Sg), s62.Le s66 ∧ q68 = q65 ∧ Rep a 21 [(0, .bool q68)] ∧ St w s66 (R)) ?_ ?_
  · refine W.gen fun K69 hK69 => ?_
    refine W.region ?_
    refine WL.vS hS hE (runs_plain rfl) (Gives.p hE rfl) rfl ?_; clear hE a; intro a hE
    refine WL.vS hS hE (runs_plain rfl) (Gives.p hE rfl) rfl ?_; clear hE a; intro a hE
    refine WL.vS hS hE (runs_plain rfl) (Gives.p hE rfl) rfl ?_; clear hE a; intro a hE
    rcases Bool.eq_false_or_eq_true (q57.2 == 0) with hg70 | hg70
    · replace hq64 := iteT hg70 hq64
      refine WL.vS hS hE (runs_if hE rfl rfl rfl hg70) (Gives.p hE rfl) rfl ?_; clear hE a; intro a hE
      refine WL.lit hE hS (e := 3) (es := 1) (vs := [(0, .int .i64 0), (1, .int .i64 2), (2, .int .i64 1)]) (cs := [.int .i64 0, .int .i64 2, .int .i64 1]) (runs_if hE rfl rfl rfl hg70) rfl (by kernel_rfl) rfl ?_; clear hE hS a w; intro b71 a w hE hS
      replace hS := hS.ptVec (es := 1) (m := 3) rfl (by decide)
      have h73 : Ev 1 (RI .i64) s62 [.int .i64 0, .int .i64 2, .int .i64 1] [0, 2, 1] := (Ev.cons (c1 := [.int .i64 0]) rfl rfl (Ev.cons (c1 := [.int .i64 2]) rfl rfl (Ev.cons (c1 := [.int .i64 1]) rfl rfl (Ev.nil))))
      have hF := hS.fixD RI.mono 0 rfl h73 (rfl); clear hS; obtain ⟨s74, hle75, hS, h76⟩ := hF
      replace h56 := Sl.mono RFleetTask.mono hle75 h56
      replace h61 := Sl.mono (RL.mono RI.mono) hle75 h61
      refine WL.lit hE hS (e := 44) (es := 1) (vs := [(0, .slice (some ⟨b71, 0, none⟩) 3 3)]) (cs := [.slice (some ⟨b71, 0, none⟩) 3 3]) (runs_if hE rfl rfl rfl hg70) rfl (by kernel_rfl) rfl ?_; clear hE hS a w; intro b77 a w hE hS
      replace hS := hS.ptVec (es := 1) (m := 1) rfl (by decide)
      have h79 : Ev 1 (RL 1 (RI .i64)) s74 [.slice (some ⟨b71, 0, none⟩) 3 3] [[0, 2, 1]] := (Ev.cons (c1 := [.slice (some ⟨b71, 0, none⟩) 3 3]) ⟨_, _, rfl, h76⟩ rfl (Ev.nil))
      have hF := hS.fixD (RL.mono RI.mono) 0 rfl h79 (rfl); clear hS; obtain ⟨s80, hle81, hS, h82⟩ := hF
      replace h56 := Sl.mono RFleetTask.mono hle81 h56
      replace h61 := Sl.mono (RL.mono RI.mono) hle81 h61
      replace h76 := Sl.mono RI.mono hle81 h76
      obtain ⟨q83, hq84, hq64⟩ := bindS hq64
      have hc_ := Fishlaw2lists_ok hS h61 h82 hq84
      refine WL.fnq hE (hc_) (runs_if hE rfl rfl rfl hg70) bd13 rfl rfl rfl ?_
      clear hE hS hc_; rintro e w ⟨rfl, hS⟩; refine ⟨_, rfl, ?_⟩; clear a; intro a hE
      refine WL.vS hS hE (runs_plain rfl) (Gives.pickT hE rfl hg70 rfl) rfl ?_; clear hE a; intro a hE
      refine WL.vS hS hE (runs_plain rfl) (Gives.p hE rfl) rfl ?_; clear hE a; intro a hE
      refine WL.nil ?_
      subst hK69
      exact ⟨q83, s80, (Sg.Le.trans hle75 hle81), Option.some.inj hq64, hE.pick _ ⟨rfl, trivial⟩, hS⟩
    · replace hq64 := iteF hg70 hq64
      refine WL.no hE (runs_not hE rfl rfl rfl (by rw [hg70]; decide)) rfl ?_; clear hE a; intro a hE
      refine WL.no hE (runs_not hE rfl rfl rfl (by rw [hg70]; decide)) rfl ?_; clear hE a; intro a hE
      refine WL.no hE (runs_not hE rfl rfl rfl (by rw [hg70]; decide)) rfl ?_; clear hE a; intro a hE
      refine WL.no hE (runs_not hE rfl rfl rfl (by rw [hg70]; decide)) rfl ?_; clear hE a; intro a hE
      refine WL.vS hS hE (runs_plain rfl) (Gives.pickF hE rfl hg70 rfl) rfl ?_; clear hE a; intro a hE
      refine WL.vS hS hE (runs_plain rfl) (Gives.p hE rfl) rfl ?_; clear hE a; intro a hE
      refine WL.nil ?_
      subst hK69
      exact ⟨false, s62, (Sg.Le.refl _), Option.some.inj hq64, hE.pick _ ⟨rfl, trivial⟩, hS⟩
  · clear hE hS a w; rintro a w ⟨q68, s66, hle67, rfl, hE, hS⟩
    refine W.ret ?_
    refine finG (fn := Try.f17) (rs := [.tmp 0]) (vs := [_]) hE rfl ⟨rfl, trivial⟩ ?_
    obtain rfl := Option.some.inj hr
    exact ⟨rfl, (hS.down (Sg.Le.trans (Sg.Le.trans hle55 hle63) hle67))⟩
set_option maxHeartbeats 8000000 in
theorem Fishref2After_ok  {w : World} {s : Sg} {R : List HP} {x0 : List FleetTask} {a0 : Option Addr} {c0 : Nat} {x1 : Int} {x2 : List (List Int)} {a2 : Option Addr} {c2 : Nat} {x3 : Int} {x4 : Int} (hS : St w s (R)) (h0 : Sl 6 RFleetTask s a0 c0 x0) (h2 : Sl 1 (RL 1 (RI .i64)) s a2 c2 x2) {r : Bool} (hr : Fishref2After x0 x1 x2 x3 x4 = some r) :
    Calls Try.prog 23 [.slice a0 x0.length c0, .int .i64 x1, .slice a2 x2.length c2, .int .i64 x3, .int .i64 x4].toArray w (fun e w => e = .returned (.bool r) ∧ St w s (R)) := by
  refine enter Try.func23 rfl rfl rfl fun a hE => ?_
  rw [Fishref2After] at hr
  refine W.seq ?_
  refine W.region ?_
  refine WL.vS hS hE (runs_plain rfl) (Gives.p hE rfl) rfl ?_; clear hE a; intro a hE
  refine WL.nil ?_
  refine W.seq ?_
  refine W.regionQ (C := fun w => St w s (R)) mixed (by kernel_rfl) hS.drew ?_
  refine QL.v hE (runs_plain rfl) (Gives.p hE rfl) rfl ?_; clear hE a; intro a hE
  refine QL.v hE (runs_plain rfl) (Gives.p hE rfl) rfl ?_; clear hE a; intro a hE
  obtain ⟨x51, hx52, hr⟩ := bindS hr
  obtain ⟨hi53, hlt54, hy55⟩ := gx_some hx52
  obtain ⟨cs56, hl57, hR58, hat59⟩ := h0.at hy55
  subst hR58
  refine QL.v hE (runs_plain rfl) (Gives.idx hE (x4).toNat rfl rfl sl32 hi53 hlt54 (h0.aok hlt54)) rfl ?_; clear hE a; intro a hE
  refine QL.v hE (runs_plain rfl) (Gives.fld hE rfl fl78_2) rfl ?_; clear hE a; intro a hE
  refine QL.v hE (runs_plain rfl) (Gives.load1 hE rfl (fun w h => (hat59 w _ h).one rfl) ty3) rfl ?_; clear hE a; intro a hE
  refine QL.v hE (runs_plain rfl) (Gives.p hE rfl) rfl ?_; clear hE a; intro a hE
  refine QL.v hE (runs_plain rfl) (Gives.p hE rfl) rfl ?_; clear hE a; intro a hE
  obtain ⟨x60, hx61, hr⟩ := bindS hr
  obtain ⟨hi62, hlt63, hy64⟩ := gx_some hx61
  obtain ⟨cs65, hl66, hR67, hat68⟩ := h0.at hy64
  subst hR67
  refine QL.v hE (runs_plain rfl) (Gives.idx hE (x3).toNat rfl rfl sl32 hi62 hlt63 (h0.aok hlt63)) rfl ?_; clear hE a; intro a hE
  refine QL.v hE (runs_plain rfl) (Gives.fld hE rfl fl78_3) rfl ?_; clear hE a; intro a hE
  refine QL.v hE (runs_plain rfl) (Gives.load1 hE rfl (fun w h => (hat68 w _ h).one rfl) ty3) rfl ?_; clear hE a; intro a hE
  refine QL.v hE (runs_plain rfl) (Gives.p hE rfl) rfl ?_; clear hE a; intro a hE
  refine QL.v hE (runs_plain rfl) (Gives.p hE rfl) rfl ?_; clear hE a; intro a hE
  refine QL.v hE (runs_plain rfl) (Gives.p hE rfl) rfl ?_; clear hE a; intro a hE
  refine QL.v hE (runs_plain rfl) (Gives.p hE rfl) rfl ?_; clear hE a; intro a hE
  refine QL.v hE (runs_plain rfl) (Gives.p hE rfl) rfl ?_; clear hE a; intro a hE
  obtain ⟨x69, hx70, hr⟩ := bindS hr
  obtain ⟨hi71, hlt72, hy73⟩ := gx_some hx70
  obtain ⟨cs74, hl75, hR76, hat77⟩ := h0.at hy73
  subst hR76
  refine QL.v hE (runs_plain rfl) (Gives.idx hE (x3).toNat rfl rfl sl32 hi71 hlt72 (h0.aok hlt72)) rfl ?_; clear hE a; intro a hE
  refine QL.v hE (runs_plain rfl) (Gives.fld hE rfl fl78_1) rfl ?_; clear hE a; intro a hE
  refine QL.v hE (runs_plain rfl) (Gives.load1 hE rfl (fun w h => (hat77 w _ h).one rfl) ty3) rfl ?_; clear hE a; intro a hE
  obtain ⟨x78, hx79, hr⟩ := bindS hr
  obtain ⟨hi80, hlt81, hy82⟩ := gx_some hx79
  obtain ⟨cs83, hl84, hR85, hat86⟩ := h2.at hy82
  obtain ⟨a87, c88, rfl, h89⟩ := hR85
  refine QL.v hE (runs_plain rfl) (Gives.idx hE (x69.To).toNat rfl rfl sl25 hi80 hlt81 (h2.aok hlt81)) rfl ?_; clear hE a; intro a hE
  refine QL.v hE (runs_plain rfl) (Gives.load1 hE rfl (fun w h => hat86 w _ h) ty44) rfl ?_; clear hE a; intro a hE
  refine QL.v hE (runs_plain rfl) (Gives.p hE rfl) rfl ?_; clear hE a; intro a hE
  refine QL.v hE (runs_plain rfl) (Gives.p hE rfl) rfl ?_; clear hE a; intro a hE
  obtain ⟨x90, hx91, hr⟩ := bindS hr
  obtain ⟨hi92, hlt93, hy94⟩ := gx_some hx91
  obtain ⟨cs95, hl96, hR97, hat98⟩ := h0.at hy94
  subst hR97
  refine QL.v hE (runs_plain rfl) (Gives.idx hE (x4).toNat rfl rfl sl32 hi92 hlt93 (h0.aok hlt93)) rfl ?_; clear hE a; intro a hE
  refine QL.v hE (runs_plain rfl) (Gives.fld hE rfl fl78_0) rfl ?_; clear hE a; intro a hE
  refine QL.v hE (runs_plain rfl) (Gives.load1 hE rfl (fun w h => (hat98 w _ h).one rfl) ty3) rfl ?_; clear hE a; intro a hE
  obtain ⟨x99, hx100, hr⟩ := bindS hr
  obtain ⟨hi101, hlt102, hy103⟩ := gx_some hx100
  obtain ⟨cs104, hl105, hR106, hat107⟩ := h89.at hy103
  subst hR106
  refine QL.v hE (runs_plain rfl) (Gives.idx hE (x90.From).toNat rfl rfl sl44 hi101 hlt102 (h89.aok hlt102)) rfl ?_; clear hE a; intro a hE
  refine QL.v hE (runs_plain rfl) (Gives.load1 hE rfl (fun w h => hat107 w _ h) ty3) rfl ?_; clear hE a; intro a hE
  refine QL.v hE (runs_plain rfl) (Gives.p hE rfl) rfl ?_; clear hE a; intro a hE
  refine QL.v hE (runs_plain rfl) (Gives.p hE rfl) rfl ?_; clear hE a; intro a hE
  refine QL.v hE (runs_plain rfl) (Gives.p hE rfl) rfl ?_; clear hE a; intro a hE
  refine QL.nil ?_; clear hS w; intro w hS
  refine W.ret ?_
  refine finG (fn := Try.f23) (rs := [.tmp 10]) (vs := [_]) hE rfl ⟨rfl, trivial⟩ ?_
  obtain rfl := Option.some.inj hr
  exact ⟨rfl, hS⟩
set_option maxHeartbeats 8000000 in
theorem SlicesIndexLint_ok  {w : World} {s : Sg} {R : List HP} {x0 : List Int} {a0 : Option Addr} {c0 : Nat} {x1 : Int} (hS : St w s (R)) (h0 : Sl 1 (RI .i64) s a0 c0 x0) {r : Int} (hr : SlicesIndexLint x0 x1 = r) :
    Calls Try.prog 71 [.slice a0 x0.length c0, .int .i64 x1].toArray w (fun e w => e = .returned (.int .i64 r) ∧ St w s (R)) := by
  refine enter Try.func71 rfl rfl rfl fun a hE => ?_
  rw [SlicesIndexLint] at hr
  refine W.seq ?_
  refine W.region ?_
  refine WL.vS hS hE (runs_plain rfl) (Gives.p hE rfl) rfl ?_; clear hE a; intro a hE
  refine WL.nil ?_
  refine W.seq ?_
  refine W.seq ?_
  refine W.region ?_
  refine WL.vS hS hE (runs_plain rfl) (Gives.p hE rfl) rfl ?_; clear hE a; intro a hE
  refine WL.vS hS hE (runs_plain rfl) (Gives.len hE rfl sl44) rfl ?_; clear hE a; intro a hE
  refine WL.vS hS hE (runs_plain rfl) (Gives.p hE rfl) rfl ?_; clear hE a; intro a hE
  refine WL.nil ?_
  obtain ⟨q52, hq51, hr⟩ := bndS hr
  refine W.cut (fun a w => (.next ()) = q52 ∧ Rep a 19 [] ∧ St w s (R)) ?_ ?_
  · refine W.block ?_
    refine W.loop (fun m a w => ∃ (rest55 : List Int) (k53 : Nat), rest55.length = m ∧ x0.drop k53 = rest55 ∧ SlicesIndexLint.loop1 x1 rest55 k53 = q52 ∧ Rep a 19 [(0, .slice a0 x0.length c0), (1, .int .i64 x1), (7, .int .i64 ((x0).length : Int)), (8, .int .i64 ((k53 : Nat) : Int))] ∧ St w s (R)) (m := x0.length) ⟨x0, 0, rfl, rfl, hq51, hE.pick _ ⟨rfl, rfl, rfl, rfl, trivial⟩, hS⟩ ?_
    clear hE hS a w hq51; rintro m59 a w ⟨rest55, k53, rfl, hd56, hq51, hE, hS⟩
    refine W.gen fun K62 hK62 => ?_
    rcases rest55 with _ | ⟨x54, rest55⟩
    · have hlt57 := drop_nil hd56
      refine W.seq ?_
      refine W.region ?_
      refine WL.vS hS hE (runs_plain rfl) (Gives.p hE rfl) rfl ?_; clear hE a; intro a hE
      refine WL.nil ?_
      refine W.seq ?_
      refine W.condF hE rfl (decide_eq_false (by omega)) ?_
      subst hK62
      refine W.exit rfl ?_
      exact ⟨hq51, hE.pick _ trivial, hS⟩
    · obtain ⟨hlt57, hx58, hd56⟩ := drop_cons hd56
      rw [SlicesIndexLint.loop1] at hq51
      refine W.seq ?_
      refine W.region ?_
      refine WL.vS hS hE (runs_plain rfl) (Gives.p hE rfl) rfl ?_; clear hE a; intro a hE
      refine WL.nil ?_
      refine W.seq ?_
      refine W.condT hE rfl (decide_eq_true (by omega)) ?_
      refine W.skip ?_
      refine W.seq ?_
      refine W.block ?_
      refine W.seq ?_
      refine W.region ?_
      refine WL.vS hS hE (runs_plain rfl) (Gives.p hE rfl) rfl ?_; clear hE a; intro a hE
      refine WL.vS hS hE (runs_plain rfl) (Gives.p hE rfl) rfl ?_; clear hE a; intro a hE
      refine WL.nil ?_
      refine W.seq ?_
      refine W.region ?_
      refine WL.vS hS hE (runs_plain rfl) (Gives.p hE rfl) rfl ?_; clear hE a; intro a hE
      refine WL.vS hS hE (runs_plain rfl) (Gives.p hE rfl) rfl ?_; clear hE a; intro a hE
      refine WL.vS hS hE (runs_plain rfl) (Gives.p hE rfl) rfl ?_; clear hE a; intro a hE
      obtain ⟨cs63, hl64, hR65, hat66⟩ := h0.at hx58
      subst hR65
      refine WL.vS hS hE (runs_plain rfl) (Gives.idx hE k53 rfl rfl sl44 rfl hlt57 (h0.aok hlt57)) rfl ?_; clear hE a; intro a hE
      refine WL.vS hS hE (runs_plain rfl) (Gives.load1 hE rfl (fun w h => hat66 w _ h) ty3) rfl ?_; clear hE a; intro a hE
      refine WL.vS hS hE (runs_plain rfl) (Gives.p hE rfl) rfl ?_; clear hE a; intro a hE
      refine WL.nil ?_
      refine W.cond hE rfl (fun hc67 => ?_) (fun hc67 => ?_)
      · replace hq51 := iteT hc67 hq51
        refine W.seq ?_
        refine W.region ?_
        refine WL.vS hS hE (runs_plain rfl) (Gives.p hE rfl) rfl ?_; clear hE a; intro a hE
        refine WL.vS hS hE (runs_plain rfl) (Gives.p hE rfl) rfl ?_; clear hE a; intro a hE
        refine WL.nil ?_
        refine W.ret ?_
        subst hK62
        rw [← hq51] at hr
        dsimp only at hr
        refine finG (fn := Try.f71) (rs := [.tmp 4]) (vs := [_]) hE rfl ⟨rfl, trivial⟩ ?_
        subst hr
        exact ⟨rfl, hS⟩
      · replace hq51 := iteF hc67 hq51
        refine W.skip ?_
        refine W.region ?_
        refine WL.vS hS hE (runs_plain rfl) (Gives.inc hE rfl (by have := h0.small; omega)) rfl ?_; clear hE a; intro a hE
        refine WL.vS hS hE (runs_plain rfl) (Gives.p hE rfl) rfl ?_; clear hE a; intro a hE
        refine WL.nil ?_
        subst hK62
        exact ⟨rest55.length, Nat.lt_succ_self _, rest55, k53 + 1, rfl, hd56, hq51, hE.pick _ ⟨rfl, rfl, rfl, rfl, trivial⟩, hS⟩
  · clear hE hS a w; rintro a w ⟨rfl, hE, hS⟩
    dsimp only at hr
    refine W.seq ?_
    refine W.region ?_
    refine WL.vS hS hE (runs_plain rfl) (Gives.p hE rfl) rfl ?_; clear hE a; intro a hE
    refine WL.nil ?_
    refine W.ret ?_
    refine finG (fn := Try.f71) (rs := [.tmp 4]) (vs := [_]) hE rfl ⟨rfl, trivial⟩ ?_
    subst hr
    exact ⟨rfl, hS⟩
set_option maxHeartbeats 8000000 in
theorem SlicesContainsLint_ok  {w : World} {s : Sg} {R : List HP} {x0 : List Int} {a0 : Option Addr} {c0 : Nat} {x1 : Int} (hS : St w s (R)) (h0 : Sl 1 (RI .i64) s a0 c0 x0) {r : Bool} (hr : SlicesContainsLint x0 x1 = r) :
    Calls Try.prog 24 [.slice a0 x0.length c0, .int .i64 x1].toArray w (fun e w => e = .returned (.bool r) ∧ St w s (R)) := by
  refine enter Try.func24 rfl rfl rfl fun a hE => ?_
  rw [SlicesContainsLint] at hr
  refine W.seq ?_
  refine W.region ?_
  refine WL.vS hS hE (runs_plain rfl) (Gives.p hE rfl) rfl ?_; clear hE a; intro a hE
  refine WL.nil ?_
  refine W.seq ?_
  refine W.region ?_
  refine WL.vS hS hE (runs_plain rfl) (Gives.p hE rfl) rfl ?_; clear hE a; intro a hE
  refine WL.vS hS hE (runs_plain rfl) (Gives.p hE rfl) rfl ?_; clear hE a; intro a hE
  refine WL.fnq hE (SlicesIndexLint_ok hS h0 rfl (r := SlicesIndexLint x0 x1)) (runs_plain rfl) bd71 rfl rfl rfl ?_
  clear hE hS; rintro e w ⟨rfl, hS⟩; refine ⟨_, rfl, ?_⟩; clear a; intro a hE
  refine WL.vS hS hE (runs_plain rfl) (Gives.p hE rfl) rfl ?_; clear hE a; intro a hE
  refine WL.vS hS hE (runs_plain rfl) (Gives.p hE rfl) rfl ?_; clear hE a; intro a hE
  refine WL.nil ?_
  refine W.ret ?_
  refine finG (fn := Try.f24) (rs := [.tmp 4]) (vs := [_]) hE rfl ⟨rfl, trivial⟩ ?_
  subst hr
  exact ⟨rfl, hS⟩
set_option maxHeartbeats 8000000 in
theorem Fishlaw2FleetCovers_1_ok  {w : World} {s : Sg} {R : List HP} {x0 : Int} (hS : St w s (R))  {r : Bool} (hr : Fishlaw2FleetCovers_1 x0 = r) :
    Calls Try.prog 26 [.int .i64 x0].toArray w (fun e w => e = .returned (.bool r) ∧ St w s (R)) := by
  refine enter Try.func26 rfl rfl rfl fun a hE => ?_
  rw [Fishlaw2FleetCovers_1] at hr
  refine W.seq ?_
  refine W.region ?_
  refine WL.vS hS hE (runs_plain rfl) (Gives.p hE rfl) rfl ?_; clear hE a; intro a hE
  refine WL.nil ?_
  refine W.seq ?_
  refine W.region ?_
  refine WL.vS hS hE (runs_plain rfl) (Gives.p hE rfl) rfl ?_; clear hE a; intro a hE
  refine WL.vS hS hE (runs_plain rfl) (Gives.p hE rfl) rfl ?_; clear hE a; intro a hE
  refine WL.vS hS hE (runs_plain rfl) (Gives.p hE rfl) rfl ?_; clear hE a; intro a hE
  refine WL.nil ?_
  refine W.ret ?_
  refine finG (fn := Try.f26) (rs := [.tmp 2]) (vs := [_]) hE rfl ⟨rfl, trivial⟩ ?_
  subst hr
  exact ⟨rfl, hS⟩
set_option maxHeartbeats 8000000 in
theorem SlicesIndexFuncLint_v1_ok  {w : World} {s : Sg} {R : List HP} {x0 : List Int} {a0 : Option Addr} {c0 : Nat} (hS : St w s (R)) (h0 : Sl 1 (RI .i64) s a0 c0 x0) {r : Int} (hr : SlicesIndexFuncLint_v1 x0 = r) :
    Calls Try.prog 72 [.slice a0 x0.length c0, .func (.func 26) #[] #[]].toArray w (fun e w => e = .returned (.int .i64 r) ∧ St w s (R)) := by
  refine enter Try.func72 rfl rfl rfl fun a hE => ?_
  rw [SlicesIndexFuncLint_v1] at hr
  refine W.seq ?_
  refine W.region ?_
  refine WL.vS hS hE (runs_plain rfl) (Gives.p hE rfl) rfl ?_; clear hE a; intro a hE
  refine WL.nil ?_
  refine W.seq ?_
  refine W.seq ?_
  refine W.region ?_
  refine WL.vS hS hE (runs_plain rfl) (Gives.p hE rfl) rfl ?_; clear hE a; intro a hE
  refine WL.vS hS hE (runs_plain rfl) (Gives.len hE rfl sl44) rfl ?_; clear hE a; intro a hE
  refine WL.vS hS hE (runs_plain rfl) (Gives.p hE rfl) rfl ?_; clear hE a; intro a hE
  refine WL.nil ?_
  obtain ⟨q52, hq51, hr⟩ := bndS hr
  refine W.cut (fun a w => (.next ()) = q52 ∧ Rep a 19 [] ∧ St w s (R)) ?_ ?_
  · refine W.block ?_
    refine W.loop (fun m a w => ∃ (rest55 : List Int) (k53 : Nat), rest55.length = m ∧ x0.drop k53 = rest55 ∧ SlicesIndexFuncLint_v1.loop1 rest55 k53 = q52 ∧ Rep a 19 [(0, .slice a0 x0.length c0), (1, .func (.func 26) #[] #[]), (7, .int .i64 ((x0).length : Int)), (8, .int .i64 ((k53 : Nat) : Int))] ∧ St w s (R)) (m := x0.length) ⟨x0, 0, rfl, rfl, hq51, hE.pick _ ⟨rfl, rfl, rfl, rfl, trivial⟩, hS⟩ ?_
    clear hE hS a w hq51; rintro m59 a w ⟨rest55, k53, rfl, hd56, hq51, hE, hS⟩
    refine W.gen fun K62 hK62 => ?_
    rcases rest55 with _ | ⟨x54, rest55⟩
    · have hlt57 := drop_nil hd56
      refine W.seq ?_
      refine W.region ?_
      refine WL.vS hS hE (runs_plain rfl) (Gives.p hE rfl) rfl ?_; clear hE a; intro a hE
      refine WL.nil ?_
      refine W.seq ?_
      refine W.condF hE rfl (decide_eq_false (by omega)) ?_
      subst hK62
      refine W.exit rfl ?_
      exact ⟨hq51, hE.pick _ trivial, hS⟩
    · obtain ⟨hlt57, hx58, hd56⟩ := drop_cons hd56
      rw [SlicesIndexFuncLint_v1.loop1] at hq51
      refine W.seq ?_
      refine W.region ?_
      refine WL.vS hS hE (runs_plain rfl) (Gives.p hE rfl) rfl ?_; clear hE a; intro a hE
      refine WL.nil ?_
      refine W.seq ?_
      refine W.condT hE rfl (decide_eq_true (by omega)) ?_
      refine W.skip ?_
      refine W.seq ?_
      refine W.block ?_
      refine W.seq ?_
      refine W.region ?_
      refine WL.vS hS hE (runs_plain rfl) (Gives.p hE rfl) rfl ?_; clear hE a; intro a hE
      refine WL.vS hS hE (runs_plain rfl) (Gives.p hE rfl) rfl ?_; clear hE a; intro a hE
      refine WL.nil ?_
      refine W.seq ?_
      refine W.region ?_
      refine WL.vS hS hE (runs_plain rfl) (Gives.p hE rfl) rfl ?_; clear hE a; intro a hE
      refine WL.vS hS hE (runs_plain rfl) (Gives.p hE rfl) rfl ?_; clear hE a; intro a hE
      refine WL.vS hS hE (runs_plain rfl) (Gives.p hE rfl) rfl ?_; clear hE a; intro a hE
      obtain ⟨cs63, hl64, hR65, hat66⟩ := h0.at hx58
      subst hR65
      refine WL.vS hS hE (runs_plain rfl) (Gives.idx hE k53 rfl rfl sl44 rfl hlt57 (h0.aok hlt57)) rfl ?_; clear hE a; intro a hE
      refine WL.vS hS hE (runs_plain rfl) (Gives.load1 hE rfl (fun w h => hat66 w _ h) ty3) rfl ?_; clear hE a; intro a hE
      refine WL.fnw hE (Fishlaw2FleetCovers_1_ok hS  rfl (r := Fishlaw2FleetCovers_1 x54)) rfl (runs_plain rfl) bd26 rfl rfl rfl ?_
      clear hE hS; rintro e w ⟨rfl, hS⟩; refine ⟨_, rfl, ?_⟩; clear a; intro a hE
      refine WL.nil ?_
      refine W.cond hE rfl (fun hc67 => ?_) (fun hc67 => ?_)
      · replace hq51 := iteT hc67 hq51
        refine W.seq ?_
        refine W.region ?_
        refine WL.vS hS hE (runs_plain rfl) (Gives.p hE rfl) rfl ?_; clear hE a; intro a hE
        refine WL.vS hS hE (runs_plain rfl) (Gives.p hE rfl) rfl ?_; clear hE a; intro a hE
        refine WL.nil ?_
        refine W.ret ?_
        subst hK62
        rw [← hq51] at hr
        dsimp only at hr
        refine finG (fn := Try.f72) (rs := [.tmp 4]) (vs := [_]) hE rfl ⟨rfl, trivial⟩ ?_
        subst hr
        exact ⟨rfl, hS⟩
      · replace hq51 := iteF hc67 hq51
        refine W.skip ?_
        refine W.region ?_
        refine WL.vS hS hE (runs_plain rfl) (Gives.inc hE rfl (by have := h0.small; omega)) rfl ?_; clear hE a; intro a hE
        refine WL.vS hS hE (runs_plain rfl) (Gives.p hE rfl) rfl ?_; clear hE a; intro a hE
        refine WL.nil ?_
        subst hK62
        exact ⟨rest55.length, Nat.lt_succ_self _, rest55, k53 + 1, rfl, hd56, hq51, hE.pick _ ⟨rfl, rfl, rfl, rfl, trivial⟩, hS⟩
  · clear hE hS a w; rintro a w ⟨rfl, hE, hS⟩
    dsimp only at hr
    refine W.seq ?_
    refine W.region ?_
    refine WL.vS hS hE (runs_plain rfl) (Gives.p hE rfl) rfl ?_; clear hE a; intro a hE
    refine WL.nil ?_
    refine W.ret ?_
    refine finG (fn := Try.f72) (rs := [.tmp 4]) (vs := [_]) hE rfl ⟨rfl, trivial⟩ ?_
    subst hr
    exact ⟨rfl, hS⟩
set_option maxHeartbeats 8000000 in
theorem SlicesContainsFuncLint_v1_ok  {w : World} {s : Sg} {R : List HP} {x0 : List Int} {a0 : Option Addr} {c0 : Nat} (hS : St w s (R)) (h0 : Sl 1 (RI .i64) s a0 c0 x0) {r : Bool} (hr : SlicesContainsFuncLint_v1 x0 = r) :
    Calls Try.prog 25 [.slice a0 x0.length c0, .func (.func 26) #[] #[]].toArray w (fun e w => e = .returned (.bool r) ∧ St w s (R)) := by
  refine enter Try.func25 rfl rfl rfl fun a hE => ?_
  rw [SlicesContainsFuncLint_v1] at hr
  refine W.seq ?_
  refine W.region ?_
  refine WL.vS hS hE (runs_plain rfl) (Gives.p hE rfl) rfl ?_; clear hE a; intro a hE
  refine WL.nil ?_
  refine W.seq ?_
  refine W.region ?_
  refine WL.vS hS hE (runs_plain rfl) (Gives.p hE rfl) rfl ?_; clear hE a; intro a hE
  refine WL.vS hS hE (runs_plain rfl) (Gives.p hE rfl) rfl ?_; clear hE a; intro a hE
  refine WL.fnq hE (SlicesIndexFuncLint_v1_ok hS h0 rfl (r := SlicesIndexFuncLint_v1 x0)) (runs_plain rfl) bd72 rfl rfl rfl ?_
  clear hE hS; rintro e w ⟨rfl, hS⟩; refine ⟨_, rfl, ?_⟩; clear a; intro a hE
  refine WL.vS hS hE (runs_plain rfl) (Gives.p hE rfl) rfl ?_; clear hE a; intro a hE
  refine WL.vS hS hE (runs_plain rfl) (Gives.p hE rfl) rfl ?_; clear hE a; intro a hE
  refine WL.nil ?_
  refine W.ret ?_
  refine finG (fn := Try.f25) (rs := [.tmp 4]) (vs := [_]) hE rfl ⟨rfl, trivial⟩ ?_
  subst hr
  exact ⟨rfl, hS⟩
set_option maxHeartbeats 8000000 in
theorem Fishlaw2FleetCovers_ok {fu : Nat}  {w : World} {s : Sg} {R : List HP} {x0 : List FleetTask} {a0 : Option Addr} {c0 : Nat} {x1 : Int} {x2 : List (List Int)} {a2 : Option Addr} {c2 : Nat} (hS : St w s (R)) (h0 : Sl 6 RFleetTask s a0 c0 x0) (h2 : Sl 1 (RL 1 (RI .i64)) s a2 c2 x2) {r : Bool} (hr : Fishlaw2FleetCovers fu x0 x1 x2 = some r) :
    Calls Try.prog 6 [.slice a0 x0.length c0, .int .i64 x1, .slice a2 x2.length c2].toArray w (fun e w => e = .returned (.bool r) ∧ St w s (R)) := by
  refine enter Try.func6 rfl rfl rfl fun a hE => ?_
  rw [Fishlaw2FleetCovers] at hr
  refine W.seq ?_
  refine W.region ?_
  refine WL.vS hS hE (runs_plain rfl) (Gives.p hE rfl) rfl ?_; clear hE a; intro a hE
  refine WL.nil ?_
  refine W.seq ?_
  refine W.region ?_
  refine WL.vS hS hE (runs_plain rfl) (Gives.p hE rfl) rfl ?_; clear hE a; intro a hE
  refine WL.vS hS hE (runs_plain rfl) (Gives.p hE rfl) rfl ?_; clear hE a; intro a hE
  refine WL.vS hS hE (runs_plain rfl) (Gives.p hE rfl) rfl ?_; clear hE a; intro a hE
  obtain ⟨q51, hq52, hr⟩ := bindS hr
  have hc_ := FleetCovers_ok hS h0 h2 hq52
  refine WL.fnq hE (hc_) (runs_plain rfl) bd20 rfl rfl rfl ?_
  clear hE hS hc_; rintro e w ⟨a53, c54, n55, cs56, s59, rfl, hle60, h57, rfl, hS⟩; refine ⟨_, rfl, ?_⟩; clear a; intro a hE
  replace h0 := Sl.mono RFleetTask.mono hle60 h0
  replace h2 := Sl.mono (RL.mono RI.mono) hle60 h2
  refine WL.vS hS hE (runs_plain rfl) (Gives.p hE rfl) rfl ?_; clear hE a; intro a hE
  refine WL.vS hS hE (runs_plain rfl) (Gives.p hE rfl) rfl ?_; clear hE a; intro a hE
  refine WL.vS hS hE (runs_plain rfl) (Gives.p hE rfl) rfl ?_; clear hE a; intro a hE
  refine WL.vS hS hE (runs_plain rfl) (Gives.p hE rfl) rfl ?_; clear hE a; intro a hE
  refine WL.vS hS hE (runs_plain rfl) (Gives.p hE rfl) rfl ?_; clear hE a; intro a hE
  refine WL.nil ?_
  refine W.seq ?_
  refine W.region ?_
  refine WL.vS hS hE (runs_plain rfl) (Gives.p hE rfl) rfl ?_; clear hE a; intro a hE
  refine WL.vS hS hE (runs_plain rfl) (Gives.p hE rfl) rfl ?_; clear hE a; intro a hE
  refine WL.vS hS hE (runs_plain rfl) (Gives.p hE rfl) rfl ?_; clear hE a; intro a hE
  obtain ⟨q61, hq62, hr⟩ := bindS hr
  have hc_ := FleetApart_ok hS h0 h2 hq62
  refine WL.fnq hE (hc_) (runs_plain rfl) bd21 rfl rfl rfl ?_
  clear hE hS hc_; rintro e w ⟨a63, c64, n65, cs66, s69, rfl, hle70, h67, rfl, hS⟩; refine ⟨_, rfl, ?_⟩; clear a; intro a hE
  replace h0 := Sl.mono RFleetTask.mono hle70 h0
  replace h2 := Sl.mono (RL.mono RI.mono) hle70 h2
  replace h57 := Ev.mono (RL.mono RI.mono) hle70 h57
  refine WL.vS hS hE (runs_plain rfl) (Gives.p hE rfl) rfl ?_; clear hE a; intro a hE
  refine WL.vS hS hE (runs_plain rfl) (Gives.p hE rfl) rfl ?_; clear hE a; intro a hE
  refine WL.vS hS hE (runs_plain rfl) (Gives.p hE rfl) rfl ?_; clear hE a; intro a hE
  refine WL.vS hS hE (runs_plain rfl) (Gives.p hE rfl) rfl ?_; clear hE a; intro a hE
  refine WL.vS hS hE (runs_plain rfl) (Gives.p hE rfl) rfl ?_; clear hE a; intro a hE
  refine WL.nil ?_
  refine W.seq ?_
  refine W.seq ?_
  refine W.region ?_
  refine WL.vS hS hE (runs_plain rfl) (Gives.p hE rfl) rfl ?_; clear hE a; intro a hE
  refine WL.vS hS hE (runs_plain rfl) (Gives.p hE rfl) rfl ?_; clear hE a; intro a hE
  refine WL.vS hS hE (runs_plain rfl) (Gives.p hE rfl) rfl ?_; clear hE a; intro a hE
  obtain ⟨q71, hq72, hr⟩ := bindS hr
  have hc_ := Fishref2EmptyFault_ok hS h0 h2 hq72
  refine WL.fnq hE (hc_) (runs_plain rfl) bd22 rfl rfl rfl ?_
  clear hE hS hc_; rintro e w ⟨rfl, hS⟩; refine ⟨_, rfl, ?_⟩; clear a; intro a hE
  refine WL.vS hS hE (runs_plain rfl) (Gives.p hE rfl) rfl ?_; clear hE a; intro a hE
  refine WL.nil ?_
  refine W.seq ?_
  refine W.region ?_
  refine WL.vS hS hE (runs_plain rfl) (Gives.p hE rfl) rfl ?_; clear hE a; intro a hE
  refine WL.vS hS hE (runs_plain rfl) (Gives.p hE rfl) rfl ?_; clear hE a; intro a hE
  refine WL.nil ?_
  refine W.cond hE rfl (fun hc73 => ?_) (fun hc73 => ?_)
  · replace hr := iteT hc73 hr
    refine W.seq ?_
    obtain ⟨q75, hq74, hr⟩ := bindS hr
    refine W.cut (fun a w => ∃ (q78 : Bool), q78 = q75 ∧ Rep a 168 [(6, .bool q78)] ∧ St w s69 (R)) ?_ ?_
    · refine W.gen fun K79 hK79 => ?_
      refine W.region ?_
      obtain ⟨q80, hq81, hq74⟩ := bindS hq74
      have hc_ := Fishlaw2sets_ok hS  hq81
      refine WL.fnq hE (hc_) (runs_plain rfl) bd17 rfl rfl rfl ?_
      clear hE hS hc_; rintro e w ⟨rfl, hS⟩; refine ⟨_, rfl, ?_⟩; clear a; intro a hE
      refine WL.vS hS hE (runs_plain rfl) (Gives.p hE rfl) rfl ?_; clear hE a; intro a hE
      rcases Bool.eq_false_or_eq_true q80 with hg82 | hg82
      · replace hq74 := iteT hg82 hq74
        refine WL.vS hS hE (runs_if hE rfl rfl rfl hg82) (Gives.p hE rfl) rfl ?_; clear hE a; intro a hE
        refine WL.vS hS hE (runs_if hE rfl rfl rfl hg82) (Gives.p hE rfl) rfl ?_; clear hE a; intro a hE
        refine WL.vS hS hE (runs_if hE rfl rfl rfl hg82) (Gives.p hE rfl) rfl ?_; clear hE a; intro a hE
        refine WL.vS hS hE (runs_plain rfl) (Gives.pickT hE rfl hg82 rfl) rfl ?_; clear hE a; intro a hE
        refine WL.vS hS hE (runs_plain rfl) (Gives.p hE rfl) rfl ?_; clear hE a; intro a hE
        rcases Bool.eq_false_or_eq_true (q51.2 == q71) with hg83 | hg83
        · replace hq74 := iteT hg83 hq74
          refine WL.vS hS hE (runs_if hE rfl rfl rfl hg83) (Gives.p hE rfl) rfl ?_; clear hE a; intro a hE
          refine WL.vS hS hE (runs_if hE rfl rfl rfl hg83) (Gives.p hE rfl) rfl ?_; clear hE a; intro a hE
          refine WL.vS hS hE (runs_if hE rfl rfl rfl hg83) (Gives.p hE rfl) rfl ?_; clear hE a; intro a hE
          refine WL.vS hS hE (runs_plain rfl) (Gives.pickT hE rfl hg83 rfl) rfl ?_; clear hE a; intro a hE
          refine WL.vS hS hE (runs_plain rfl) (Gives.p hE rfl) rfl ?_; clear hE a; intro a hE
          rcases Bool.eq_false_or_eq_true (q61.2 == q71) with hg84 | hg84
          · replace hq74 := iteT hg84 hq74
            refine WL.vS hS hE (runs_if hE rfl rfl rfl hg84) (Gives.p hE rfl) rfl ?_; clear hE a; intro a hE
            refine WL.vS hS hE (runs_if hE rfl rfl rfl hg84) (Gives.len hE rfl sl25) rfl ?_; clear hE a; intro a hE
            refine WL.vS hS hE (runs_if hE rfl rfl rfl hg84) (Gives.p hE rfl) rfl ?_; clear hE a; intro a hE
            refine WL.vS hS hE (runs_if hE rfl rfl rfl hg84) (Gives.len hE rfl sl44) rfl ?_; clear hE a; intro a hE
            refine WL.vS hS hE (runs_if hE rfl rfl rfl hg84) (Gives.p hE rfl) rfl ?_; clear hE a; intro a hE
            refine WL.vS hS hE (runs_if hE rfl rfl rfl hg84) (Gives.p hE rfl) rfl ?_; clear hE a; intro a hE
            refine WL.vS hS hE (runs_plain rfl) (Gives.pickT hE rfl hg84 rfl) rfl ?_; clear hE a; intro a hE
            refine WL.vS hS hE (runs_plain rfl) (Gives.p hE rfl) rfl ?_; clear hE a; intro a hE
            refine WL.nil ?_
            replace hS := hS.tail
            replace hS := hS.tail
            subst hK79
            exact ⟨((w64 (((q51.1.length : Nat) : Int) + ((q61.1.length : Nat) : Int))) == 0), Option.some.inj hq74, hE.pick _ ⟨rfl, trivial⟩, hS⟩
          · replace hq74 := iteF hg84 hq74
            refine WL.no hE (runs_not hE rfl rfl rfl (by rw [hg84]; decide)) rfl ?_; clear hE a; intro a hE
            refine WL.no hE (runs_not hE rfl rfl rfl (by rw [hg84]; decide)) rfl ?_; clear hE a; intro a hE
            refine WL.no hE (runs_not hE rfl rfl rfl (by rw [hg84]; decide)) rfl ?_; clear hE a; intro a hE
            refine WL.no hE (runs_not hE rfl rfl rfl (by rw [hg84]; decide)) rfl ?_; clear hE a; intro a hE
            refine WL.no hE (runs_not hE rfl rfl rfl (by rw [hg84]; decide)) rfl ?_; clear hE a; intro a hE
            refine WL.no hE (runs_not hE rfl rfl rfl (by rw [hg84]; decide)) rfl ?_; clear hE a; intro a hE
            refine WL.vS hS hE (runs_plain rfl) (Gives.pickF hE rfl hg84 rfl) rfl ?_; clear hE a; intro a hE
            refine WL.vS hS hE (runs_plain rfl) (Gives.p hE rfl) rfl ?_; clear hE a; intro a hE
            refine WL.nil ?_
            replace hS := hS.tail
            replace hS := hS.tail
            subst hK79
            exact ⟨false, Option.some.inj hq74, hE.pick _ ⟨rfl, trivial⟩, hS⟩
        · replace hq74 := iteF hg83 hq74
          refine WL.no hE (runs_not hE rfl rfl rfl (by rw [hg83]; decide)) rfl ?_; clear hE a; intro a hE
          refine WL.no hE (runs_not hE rfl rfl rfl (by rw [hg83]; decide)) rfl ?_; clear hE a; intro a hE
          refine WL.no hE (runs_not hE rfl rfl rfl (by rw [hg83]; decide)) rfl ?_; clear hE a; intro a hE
          refine WL.vS hS hE (runs_plain rfl) (Gives.pickF hE rfl hg83 rfl) rfl ?_; clear hE a; intro a hE
          refine WL.vS hS hE (runs_plain rfl) (Gives.p hE rfl) rfl ?_; clear hE a; intro a hE
          refine WL.no hE (runs_not hE rfl rfl rfl (by decide)) rfl ?_; clear hE a; intro a hE
          refine WL.no hE (runs_not hE rfl rfl rfl (by decide)) rfl ?_; clear hE a; intro a hE
          refine WL.no hE (runs_not hE rfl rfl rfl (by decide)) rfl ?_; clear hE a; intro a hE
          refine WL.no hE (runs_not hE rfl rfl rfl (by decide)) rfl ?_; clear hE a; intro a hE
          refine WL.no hE (runs_not hE rfl rfl rfl (by decide)) rfl ?_; clear hE a; intro a hE
          refine WL.no hE (runs_not hE rfl rfl rfl (by decide)) rfl ?_; clear hE a; intro a hE
          refine WL.vS hS hE (runs_plain rfl) (Gives.pickF hE rfl rfl rfl) rfl ?_; clear hE a; intro a hE
          refine WL.vS hS hE (runs_plain rfl) (Gives.p hE rfl) rfl ?_; clear hE a; intro a hE
          refine WL.nil ?_
          replace hS := hS.tail
          replace hS := hS.tail
          subst hK79
          exact ⟨false, Option.some.inj hq74, hE.pick _ ⟨rfl, trivial⟩, hS⟩
      · replace hq74 := iteF hg82 hq74
        refine WL.no hE (runs_not hE rfl rfl rfl (by rw [hg82]; decide)) rfl ?_; clear hE a; intro a hE
        refine WL.no hE (runs_not hE rfl rfl rfl (by rw [hg82]; decide)) rfl ?_; clear hE a; intro a hE
        refine WL.no hE (runs_not hE rfl rfl rfl (by rw [hg82]; decide)) rfl ?_; clear hE a; intro a hE
        refine WL.vS hS hE (runs_plain rfl) (Gives.pickF hE rfl hg82 rfl) rfl ?_; clear hE a; intro a hE
        refine WL.vS hS hE (runs_plain rfl) (Gives.p hE rfl) rfl ?_; clear hE a; intro a hE
        refine WL.no hE (runs_not hE rfl rfl rfl (by decide)) rfl ?_; clear hE a; intro a hE
        refine WL.no hE (runs_not hE rfl rfl rfl (by decide)) rfl ?_; clear hE a; intro a hE
        refine WL.no hE (runs_not hE rfl rfl rfl (by decide)) rfl ?_; clear hE a; intro a hE
        refine WL.vS hS hE (runs_plain rfl) (Gives.pickF hE rfl rfl rfl) rfl ?_; clear hE a; intro a hE
        refine WL.vS hS hE (runs_plain rfl) (Gives.p hE rfl) rfl ?_; clear hE a; intro a hE
        refine WL.no hE (runs_not hE rfl rfl rfl (by decide)) rfl ?_; clear hE a; intro a hE
        refine WL.no hE (runs_not hE rfl rfl rfl (by decide)) rfl ?_; clear hE a; intro a hE
        refine WL.no hE (runs_not hE rfl rfl rfl (by decide)) rfl ?_; clear hE a; intro a hE
        refine WL.no hE (runs_not hE rfl rfl rfl (by decide)) rfl ?_; clear hE a; intro a hE
        refine WL.no hE (runs_not hE rfl rfl rfl (by decide)) rfl ?_; clear hE a; intro a hE
        refine WL.no hE (runs_not hE rfl rfl rfl (by decide)) rfl ?_; clear hE a; intro a hE
        refine WL.vS hS hE (runs_plain rfl) (Gives.pickF hE rfl rfl rfl) rfl ?_; clear hE a; intro a hE
        refine WL.vS hS hE (runs_plain rfl) (Gives.p hE rfl) rfl ?_; clear hE a; intro a hE
        refine WL.nil ?_
        replace hS := hS.tail
        replace hS := hS.tail
        subst hK79
        exact ⟨false, Option.some.inj hq74, hE.pick _ ⟨rfl, trivial⟩, hS⟩
    · clear hE hS a w; rintro a w ⟨q78, rfl, hE, hS⟩
      refine W.ret ?_
      refine finG (fn := Try.f6) (rs := [.tmp 6]) (vs := [_]) hE rfl ⟨rfl, trivial⟩ ?_
      obtain rfl := Option.some.inj hr
      exact ⟨rfl, (hS.down (Sg.Le.trans hle60 hle70))⟩
  · replace hr := iteF hc73 hr
    refine W.skip ?_
    refine W.seq ?_
    refine W.seq ?_
    obtain ⟨q86, hq85, hr⟩ := bindS hr
    refine W.cut (fun a w => ∃ (q89 : Bool), q89 = q86 ∧ Rep a 168 [(0, .slice a0 x0.length c0), (1, .int .i64 x1), (2, .slice a2 x2.length c2), (7, .slice a53 q51.1.length c54), (9, .slice a63 q61.1.length c64), (76, .bool q89)] ∧ St w s69 (vecC 3 1 a63 c64 q61.1.length cs66 :: vecC 44 1 a53 c54 q51.1.length cs56 :: R)) ?_ ?_
    · refine W.gen fun K90 hK90 => ?_
      refine W.region ?_
      obtain ⟨q91, hq92, hq85⟩ := bindS hq85
      have hc_ := Fishlaw2sets_ok hS  hq92
      refine WL.fnq hE (hc_) (runs_plain rfl) bd17 rfl rfl rfl ?_
      clear hE hS hc_; rintro e w ⟨rfl, hS⟩; refine ⟨_, rfl, ?_⟩; clear a; intro a hE
      refine WL.vS hS hE (runs_plain rfl) (Gives.p hE rfl) rfl ?_; clear hE a; intro a hE
      refine WL.vS hS hE (runs_plain rfl) (Gives.p hE rfl) rfl ?_; clear hE a; intro a hE
      rcases Bool.eq_false_or_eq_true !q91 with hg93 | hg93
      · replace hq85 := iteT hg93 hq85
        refine WL.no hE (runs_not hE rfl rfl rfl (by rw [hg93]; decide)) rfl ?_; clear hE a; intro a hE
        refine WL.no hE (runs_not hE rfl rfl rfl (by rw [hg93]; decide)) rfl ?_; clear hE a; intro a hE
        refine WL.vS hS hE (runs_plain rfl) (Gives.pickT hE rfl hg93 rfl) rfl ?_; clear hE a; intro a hE
        refine WL.vS hS hE (runs_plain rfl) (Gives.p hE rfl) rfl ?_; clear hE a; intro a hE
        refine WL.no hE (runs_not hE rfl rfl rfl (by decide)) rfl ?_; clear hE a; intro a hE
        refine WL.no hE (runs_not hE rfl rfl rfl (by decide)) rfl ?_; clear hE a; intro a hE
        refine WL.vS hS hE (runs_plain rfl) (Gives.pickT hE rfl rfl rfl) rfl ?_; clear hE a; intro a hE
        refine WL.vS hS hE (runs_plain rfl) (Gives.p hE rfl) rfl ?_; clear hE a; intro a hE
        refine WL.no hE (runs_not hE rfl rfl rfl (by decide)) rfl ?_; clear hE a; intro a hE
        refine WL.no hE (runs_not hE rfl rfl rfl (by decide)) rfl ?_; clear hE a; intro a hE
        refine WL.no hE (runs_not hE rfl rfl rfl (by decide)) rfl ?_; clear hE a; intro a hE
        refine WL.no hE (runs_not hE rfl rfl rfl (by decide)) rfl ?_; clear hE a; intro a hE
        refine WL.no hE (runs_not hE rfl rfl rfl (by decide)) rfl ?_; clear hE a; intro a hE
        refine WL.vS hS hE (runs_plain rfl) (Gives.pickT hE rfl rfl rfl) rfl ?_; clear hE a; intro a hE
        refine WL.nil ?_
        subst hK90
        exact ⟨true, Option.some.inj hq85, hE.pick _ ⟨rfl, rfl, rfl, rfl, rfl, rfl, trivial⟩, hS⟩
      · replace hq85 := iteF hg93 hq85
        refine WL.vS hS hE (runs_if hE rfl rfl rfl hg93) (Gives.p hE rfl) rfl ?_; clear hE a; intro a hE
        refine WL.vS hS hE (runs_if hE rfl rfl rfl hg93) (Gives.p hE rfl) rfl ?_; clear hE a; intro a hE
        refine WL.vS hS hE (runs_plain rfl) (Gives.pickF hE rfl hg93 rfl) rfl ?_; clear hE a; intro a hE
        refine WL.vS hS hE (runs_plain rfl) (Gives.p hE rfl) rfl ?_; clear hE a; intro a hE
        rcases Bool.eq_false_or_eq_true (q51.2 != 0) with hg94 | hg94
        · replace hq85 := iteT hg94 hq85
          refine WL.no hE (runs_not hE rfl rfl rfl (by rw [hg94]; decide)) rfl ?_; clear hE a; intro a hE
          refine WL.no hE (runs_not hE rfl rfl rfl (by rw [hg94]; decide)) rfl ?_; clear hE a; intro a hE
          refine WL.vS hS hE (runs_plain rfl) (Gives.pickT hE rfl hg94 rfl) rfl ?_; clear hE a; intro a hE
          refine WL.vS hS hE (runs_plain rfl) (Gives.p hE rfl) rfl ?_; clear hE a; intro a hE
          refine WL.no hE (runs_not hE rfl rfl rfl (by decide)) rfl ?_; clear hE a; intro a hE
          refine WL.no hE (runs_not hE rfl rfl rfl (by decide)) rfl ?_; clear hE a; intro a hE
          refine WL.no hE (runs_not hE rfl rfl rfl (by decide)) rfl ?_; clear hE a; intro a hE
          refine WL.no hE (runs_not hE rfl rfl rfl (by decide)) rfl ?_; clear hE a; intro a hE
          refine WL.no hE (runs_not hE rfl rfl rfl (by decide)) rfl ?_; clear hE a; intro a hE
          refine WL.vS hS hE (runs_plain rfl) (Gives.pickT hE rfl rfl rfl) rfl ?_; clear hE a; intro a hE
          refine WL.nil ?_
          subst hK90
          exact ⟨true, Option.some.inj hq85, hE.pick _ ⟨rfl, rfl, rfl, rfl, rfl, rfl, trivial⟩, hS⟩
        · replace hq85 := iteF hg94 hq85
          refine WL.vS hS hE (runs_if hE rfl rfl rfl hg94) (Gives.p hE rfl) rfl ?_; clear hE a; intro a hE
          refine WL.vS hS hE (runs_if hE rfl rfl rfl hg94) (Gives.p hE rfl) rfl ?_; clear hE a; intro a hE
          refine WL.vS hS hE (runs_plain rfl) (Gives.pickF hE rfl hg94 rfl) rfl ?_; clear hE a; intro a hE
          refine WL.vS hS hE (runs_plain rfl) (Gives.p hE rfl) rfl ?_; clear hE a; intro a hE
          rcases Bool.eq_false_or_eq_true (q61.2 != 0) with hg95 | hg95
          · replace hq85 := iteT hg95 hq85
            refine WL.no hE (runs_not hE rfl rfl rfl (by rw [hg95]; decide)) rfl ?_; clear hE a; intro a hE
            refine WL.no hE (runs_not hE rfl rfl rfl (by rw [hg95]; decide)) rfl ?_; clear hE a; intro a hE
            refine WL.no hE (runs_not hE rfl rfl rfl (by rw [hg95]; decide)) rfl ?_; clear hE a; intro a hE
            refine WL.no hE (runs_not hE rfl rfl rfl (by rw [hg95]; decide)) rfl ?_; clear hE a; intro a hE
            refine WL.no hE (runs_not hE rfl rfl rfl (by rw [hg95]; decide)) rfl ?_; clear hE a; intro a hE
            refine WL.vS hS hE (runs_plain rfl) (Gives.pickT hE rfl hg95 rfl) rfl ?_; clear hE a; intro a hE
            refine WL.nil ?_
            subst hK90
            exact ⟨true, Option.some.inj hq85, hE.pick _ ⟨rfl, rfl, rfl, rfl, rfl, rfl, trivial⟩, hS⟩
          · replace hq85 := iteF hg95 hq85
            refine WL.vS hS hE (runs_if hE rfl rfl rfl hg95) (Gives.p hE rfl) rfl ?_; clear hE a; intro a hE
            refine WL.vS hS hE (runs_if hE rfl rfl rfl hg95) (Gives.len hE rfl sl25) rfl ?_; clear hE a; intro a hE
            refine WL.vS hS hE (runs_if hE rfl rfl rfl hg95) (Gives.p hE rfl) rfl ?_; clear hE a; intro a hE
            refine WL.vS hS hE (runs_if hE rfl rfl rfl hg95) (Gives.len hE rfl sl44) rfl ?_; clear hE a; intro a hE
            refine WL.vS hS hE (runs_if hE rfl rfl rfl hg95) (Gives.p hE rfl) rfl ?_; clear hE a; intro a hE
            refine WL.vS hS hE (runs_plain rfl) (Gives.pickF hE rfl hg95 rfl) rfl ?_; clear hE a; intro a hE
            refine WL.nil ?_
            subst hK90
            exact ⟨(((q51.1.length : Nat) : Int) != ((q61.1.length : Nat) : Int)), Option.some.inj hq85, hE.pick _ ⟨rfl, rfl, rfl, rfl, rfl, rfl, trivial⟩, hS⟩
    · clear hE hS a w; rintro a w ⟨q89, rfl, hE, hS⟩
      refine W.cond hE rfl (fun hc96 => ?_) (fun hc96 => ?_)
      · replace hr := iteT hc96 hr
        refine W.seq ?_
        refine W.region ?_
        refine WL.vS hS hE (runs_plain rfl) (Gives.p hE rfl) rfl ?_; clear hE a; intro a hE
        refine WL.nil ?_
        refine W.ret ?_
        refine finG (fn := Try.f6) (rs := [.tmp 6]) (vs := [_]) hE rfl ⟨rfl, trivial⟩ ?_
        obtain rfl := Option.some.inj hr
        replace hS := hS.tail
        replace hS := hS.tail
        exact ⟨rfl, (hS.down (Sg.Le.trans hle60 hle70))⟩
      · replace hr := iteF hc96 hr
        refine W.skip ?_
        refine W.seq ?_
        refine W.region ?_
        refine WL.vS hS hE (runs_plain rfl) (Gives.p hE rfl) rfl ?_; clear hE a; intro a hE
        refine WL.vS hS hE (runs_plain rfl) (Gives.len hE rfl sl32) rfl ?_; clear hE a; intro a hE
        obtain ⟨x97, hx98, hr⟩ := bindS hr
        refine WL.mkD (Rr := RI .i64) hE hS (runs_plain rfl) rfl rfl ap44 zr3 rfl hx98 rfl ?_; clear hE hS a w; intro b99 cs100 a w h101 hE hS
        refine WL.vS hS hE (runs_plain rfl) (Gives.p hE rfl) rfl ?_; clear hE a; intro a hE
        refine WL.nil ?_
        refine W.seq ?_
        refine W.seq ?_
        refine W.region ?_
        refine WL.vS hS hE (runs_plain rfl) (Gives.p hE rfl) rfl ?_; clear hE a; intro a hE
        refine WL.vS hS hE (runs_plain rfl) (Gives.len hE rfl sl25) rfl ?_; clear hE a; intro a hE
        refine WL.vS hS hE (runs_plain rfl) (Gives.p hE rfl) rfl ?_; clear hE a; intro a hE
        refine WL.nil ?_
        have hb114 : q51.1.length ≤ 9223372036854775807 := by have := hS.vecCap 2 rfl; unfold maxLen at this; omega
        obtain ⟨q104, hq103, hr⟩ := bindS hr
        refine W.cut (fun a w => ∃ (q115 : List Int), ∃ (cs119 : List Value), (.next q115) = q104 ∧ Ev 1 (RI .i64) s69 cs119 q115 ∧ q115.length = x97.length ∧ Rep a 168 [(0, .slice a0 x0.length c0), (1, .int .i64 x1), (2, .slice a2 x2.length c2), (9, .slice a63 q61.1.length c64), (12, .slice (some ⟨b99, 0, none⟩) x97.length x97.length)] ∧ St w s69 (vecC 3 1 (some ⟨b99, 0, none⟩) x97.length x97.length cs119 :: vecC 3 1 a63 c64 q61.1.length cs66 :: vecC 44 1 a53 c54 q51.1.length cs56 :: R)) ?_ ?_
        · refine W.block ?_
          refine W.loop (fun m a w => ∃ (rest107 : Nat) (k105 : Nat), ∃ (q115 : List Int), ∃ (cs119 : List Value), rest107 = m ∧ k105 + rest107 = q51.1.length ∧ Fishlaw2FleetCovers.loop1 x0 x1 x2 q51 rest107 k105 q115 = some q104 ∧ Ev 1 (RI .i64) s69 cs119 q115 ∧ q115.length = x97.length ∧ Rep a 168 [(0, .slice a0 x0.length c0), (1, .int .i64 x1), (2, .slice a2 x2.length c2), (9, .slice a63 q61.1.length c64), (12, .slice (some ⟨b99, 0, none⟩) x97.length x97.length), (80, .slice a53 q51.1.length c54), (81, .int .i64 ((q51.1.length : Nat) : Int)), (82, .int .i64 ((k105 : Nat) : Int))] ∧ St w s69 (vecC 3 1 (some ⟨b99, 0, none⟩) x97.length x97.length cs119 :: vecC 3 1 a63 c64 q61.1.length cs66 :: vecC 44 1 a53 c54 q51.1.length cs56 :: R)) (m := q51.1.length) ⟨q51.1.length, 0, x97, cs100, rfl, by omega, hq103, h101, (rfl), hE.pick _ ⟨rfl, rfl, rfl, rfl, rfl, rfl, rfl, rfl, trivial⟩, hS⟩ ?_
          clear hE hS a w hq103; rintro m111 a w ⟨rest107, k105, q115, cs119, rfl, hd108, hq103, h118, hn120, hE, hS⟩
          refine W.gen fun K121 hK121 => ?_
          rcases rest107 with _ | rest107
          · skip
            refine W.seq ?_
            refine W.region ?_
            refine WL.vS hS hE (runs_plain rfl) (Gives.p hE rfl) rfl ?_; clear hE a; intro a hE
            refine WL.nil ?_
            refine W.seq ?_
            refine W.condF hE rfl (decide_eq_false (by omega)) ?_
            subst hK121
            refine W.exit rfl ?_
            exact ⟨q115, cs119, Option.some.inj hq103, h118, hn120, hE.pick _ ⟨rfl, rfl, rfl, rfl, rfl, trivial⟩, hS⟩
          · have hlt109 : k105 < q51.1.length := by omega
            rw [Fishlaw2FleetCovers.loop1] at hq103
            refine W.seq ?_
            refine W.region ?_
            refine WL.vS hS hE (runs_plain rfl) (Gives.p hE rfl) rfl ?_; clear hE a; intro a hE
            refine WL.nil ?_
            refine W.seq ?_
            refine W.condT hE rfl (decide_eq_true (by omega)) ?_
            refine W.skip ?_
            refine W.seq ?_
            refine W.block ?_
            refine W.seq ?_
            refine W.region ?_
            obtain ⟨x122, hx123, hq103⟩ := bindS hq103
            obtain ⟨hi124, hlt125, hy126⟩ := gx_some hx123
            obtain ⟨vs127, hl128, hR129, hd130, hget131⟩ := h57.at hy126
            obtain ⟨a132, c133, rfl, h134⟩ := hR129
            refine WL.vS hS hE (runs_plain rfl) (Gives.idx hE ((((k105 : Nat) : Int)).toNat) rfl rfl sl25 hi124 (by omega) (hS.vecAok 2 rfl (by omega : (((k105 : Nat) : Int)).toNat < q51.1.length))) rfl ?_; clear hE a; intro a hE
            refine WL.vS hS hE (runs_plain rfl) (Gives.load1 hE rfl (fun w h => St.vecSees h 2 rfl ((((k105 : Nat) : Int)).toNat * 1) _ hget131) ty44) rfl ?_; clear hE a; intro a hE
            refine WL.vS hS hE (runs_plain rfl) (Gives.p hE rfl) rfl ?_; clear hE a; intro a hE
            refine WL.nil ?_
            refine W.seq ?_
            refine W.seq ?_
            refine W.region ?_
            refine WL.vS hS hE (runs_plain rfl) (Gives.p hE rfl) rfl ?_; clear hE a; intro a hE
            refine WL.vS hS hE (runs_plain rfl) (Gives.len hE rfl sl44) rfl ?_; clear hE a; intro a hE
            refine WL.vS hS hE (runs_plain rfl) (Gives.p hE rfl) rfl ?_; clear hE a; intro a hE
            refine WL.nil ?_
            obtain ⟨q136, hq135, hq103⟩ := bindS hq103
            refine W.cut (fun a w => ∃ (q146 : List Int), ∃ (cs150 : List Value), (.next q146) = q136 ∧ Ev 1 (RI .i64) s69 cs150 q146 ∧ q146.length = x97.length ∧ Rep a 168 [(0, .slice a0 x0.length c0), (1, .int .i64 x1), (2, .slice a2 x2.length c2), (9, .slice a63 q61.1.length c64), (12, .slice (some ⟨b99, 0, none⟩) x97.length x97.length), (14, .slice a132 x122.length c133), (80, .slice a53 q51.1.length c54), (81, .int .i64 ((q51.1.length : Nat) : Int)), (82, .int .i64 ((k105 : Nat) : Int))] ∧ St w s69 (vecC 3 1 (some ⟨b99, 0, none⟩) x97.length x97.length cs150 :: vecC 3 1 a63 c64 q61.1.length cs66 :: vecC 44 1 a53 c54 q51.1.length cs56 :: R)) ?_ ?_
            · refine W.block ?_
              refine W.loop (fun m a w => ∃ (rest139 : List Int) (k137 : Nat), ∃ (q146 : List Int), ∃ (cs150 : List Value), rest139.length = m ∧ x122.drop k137 = rest139 ∧ Fishlaw2FleetCovers.loop2 x0 x1 x2 x122 rest139 k137 q146 = some q136 ∧ Ev 1 (RI .i64) s69 cs150 q146 ∧ q146.length = x97.length ∧ Rep a 168 [(0, .slice a0 x0.length c0), (1, .int .i64 x1), (2, .slice a2 x2.length c2), (9, .slice a63 q61.1.length c64), (12, .slice (some ⟨b99, 0, none⟩) x97.length x97.length), (14, .slice a132 x122.length c133), (80, .slice a53 q51.1.length c54), (81, .int .i64 ((q51.1.length : Nat) : Int)), (82, .int .i64 ((k105 : Nat) : Int)), (86, .slice a132 x122.length c133), (87, .int .i64 ((x122).length : Int)), (88, .int .i64 ((k137 : Nat) : Int))] ∧ St w s69 (vecC 3 1 (some ⟨b99, 0, none⟩) x97.length x97.length cs150 :: vecC 3 1 a63 c64 q61.1.length cs66 :: vecC 44 1 a53 c54 q51.1.length cs56 :: R)) (m := x122.length) ⟨x122, 0, q115, cs119, rfl, rfl, hq135, h118, hn120, hE.pick _ ⟨rfl, rfl, rfl, rfl, rfl, rfl, rfl, rfl, rfl, rfl, rfl, rfl, trivial⟩, hS⟩ ?_
              clear hE hS a w hq135; rintro m143 a w ⟨rest139, k137, q146, cs150, rfl, hd140, hq135, h149, hn151, hE, hS⟩
              refine W.gen fun K152 hK152 => ?_
              rcases rest139 with _ | ⟨x138, rest139⟩
              · have hlt141 := drop_nil hd140
                refine W.seq ?_
                refine W.region ?_
                refine WL.vS hS hE (runs_plain rfl) (Gives.p hE rfl) rfl ?_; clear hE a; intro a hE
                refine WL.nil ?_
                refine W.seq ?_
                refine W.condF hE rfl (decide_eq_false (by omega)) ?_
                subst hK152
                refine W.exit rfl ?_
                exact ⟨q146, cs150, Option.some.inj hq135, h149, hn151, hE.pick _ ⟨rfl, rfl, rfl, rfl, rfl, rfl, rfl, rfl, rfl, trivial⟩, hS⟩
              · obtain ⟨hlt141, hx142, hd140⟩ := drop_cons hd140
                rw [Fishlaw2FleetCovers.loop2] at hq135
                refine W.seq ?_
                refine W.region ?_
                refine WL.vS hS hE (runs_plain rfl) (Gives.p hE rfl) rfl ?_; clear hE a; intro a hE
                refine WL.nil ?_
                refine W.seq ?_
                refine W.condT hE rfl (decide_eq_true (by omega)) ?_
                refine W.skip ?_
                refine W.seq ?_
                refine W.block ?_
                refine W.seq ?_
                refine W.region ?_
                refine WL.vS hS hE (runs_plain rfl) (Gives.p hE rfl) rfl ?_; clear hE a; intro a hE
                obtain ⟨cs153, hl154, hR155, hat156⟩ := h134.at hx142
                subst hR155
                refine WL.vS hS hE (runs_plain rfl) (Gives.idx hE k137 rfl rfl sl44 rfl hlt141 (h134.aok hlt141)) rfl ?_; clear hE a; intro a hE
                refine WL.vS hS hE (runs_plain rfl) (Gives.load1 hE rfl (fun w h => hat156 w _ h) ty3) rfl ?_; clear hE a; intro a hE
                refine WL.vS hS hE (runs_plain rfl) (Gives.p hE rfl) rfl ?_; clear hE a; intro a hE
                refine WL.vS hS hE (runs_plain rfl) (Gives.p hE rfl) rfl ?_; clear hE a; intro a hE
                refine WL.nil ?_
                refine W.seq ?_
                refine W.seq ?_
                obtain ⟨q158, hq157, hq135⟩ := bindS hq135
                refine W.cut (fun a w => ∃ (q161 : Bool), q161 = q158 ∧ Rep a 168 [(0, .slice a0 x0.length c0), (1, .int .i64 x1), (2, .slice a2 x2.length c2), (9, .slice a63 q61.1.length c64), (12, .slice (some ⟨b99, 0, none⟩) x97.length x97.length), (14, .slice a132 x122.length c133), (16, .int .i64 x138), (80, .slice a53 q51.1.length c54), (81, .int .i64 ((q51.1.length : Nat) : Int)), (82, .int .i64 ((k105 : Nat) : Int)), (86, .slice a132 x122.length c133), (87, .int .i64 ((x122).length : Int)), (88, .int .i64 ((k137 : Nat) : Int)), (117, .bool q161)] ∧ St w s69 (vecC 3 1 (some ⟨b99, 0, none⟩) x97.length x97.length cs150 :: vecC 3 1 a63 c64 q61.1.length cs66 :: vecC 44 1 a53 c54 q51.1.length cs56 :: R)) ?_ ?_
                · refine W.gen fun K162 hK162 => ?_
                  refine W.region ?_
                  refine WL.vS hS hE (runs_plain rfl) (Gives.p hE rfl) rfl ?_; clear hE a; intro a hE
                  refine WL.vS hS hE (runs_plain rfl) (Gives.p hE rfl) rfl ?_; clear hE a; intro a hE
                  refine WL.vS hS hE (runs_plain rfl) (Gives.p hE rfl) rfl ?_; clear hE a; intro a hE
                  rcases Bool.eq_false_or_eq_true (decide (x138 < 0)) with hg163 | hg163
                  · replace hq157 := iteT hg163 hq157
                    refine WL.no hE (runs_not hE rfl rfl rfl (by rw [hg163]; decide)) rfl ?_; clear hE a; intro a hE
                    refine WL.no hE (runs_not hE rfl rfl rfl (by rw [hg163]; decide)) rfl ?_; clear hE a; intro a hE
                    refine WL.no hE (runs_not hE rfl rfl rfl (by rw [hg163]; decide)) rfl ?_; clear hE a; intro a hE
                    refine WL.no hE (runs_not hE rfl rfl rfl (by rw [hg163]; decide)) rfl ?_; clear hE a; intro a hE
                    refine WL.vS hS hE (runs_plain rfl) (Gives.pickT hE rfl hg163 rfl) rfl ?_; clear hE a; intro a hE
                    refine WL.vS hS hE (runs_plain rfl) (Gives.p hE rfl) rfl ?_; clear hE a; intro a hE
                    refine WL.no hE (runs_not hE rfl rfl rfl (by decide)) rfl ?_; clear hE a; intro a hE
                    refine WL.no hE (runs_not hE rfl rfl rfl (by decide)) rfl ?_; clear hE a; intro a hE
                    refine WL.no hE (runs_not hE rfl rfl rfl (by decide)) rfl ?_; clear hE a; intro a hE
                    refine WL.no hE (runs_undef hE rfl rfl rfl) rfl ?_; clear hE a; intro a hE
                    refine WL.no hE (runs_undef hE rfl rfl rfl) rfl ?_; clear hE a; intro a hE
                    refine WL.no hE (runs_undef hE rfl rfl rfl) rfl ?_; clear hE a; intro a hE
                    refine WL.no hE (runs_undef hE rfl rfl rfl) rfl ?_; clear hE a; intro a hE
                    refine WL.no hE (runs_undef hE rfl rfl rfl) rfl ?_; clear hE a; intro a hE
                    refine WL.no hE (runs_undef hE rfl rfl rfl) rfl ?_; clear hE a; intro a hE
                    refine WL.no hE (runs_undef hE rfl rfl rfl) rfl ?_; clear hE a; intro a hE
                    refine WL.no hE (runs_undef hE rfl rfl rfl) rfl ?_; clear hE a; intro a hE
                    refine WL.no hE (runs_undef hE rfl rfl rfl) rfl ?_; clear hE a; intro a hE
                    refine WL.no hE (runs_undef hE rfl rfl rfl) rfl ?_; clear hE a; intro a hE
                    refine WL.no hE (runs_undef hE rfl rfl rfl) rfl ?_; clear hE a; intro a hE
                    refine WL.no hE (runs_not hE rfl rfl rfl (by decide)) rfl ?_; clear hE a; intro a hE
                    refine WL.vS hS hE (runs_plain rfl) (Gives.pickT hE rfl rfl rfl) rfl ?_; clear hE a; intro a hE
                    refine WL.nil ?_
                    subst hK162
                    exact ⟨true, Option.some.inj hq157, hE.pick _ ⟨rfl, rfl, rfl, rfl, rfl, rfl, rfl, rfl, rfl, rfl, rfl, rfl, rfl, rfl, trivial⟩, hS⟩
                  · replace hq157 := iteF hg163 hq157
                    refine WL.vS hS hE (runs_if hE rfl rfl rfl hg163) (Gives.p hE rfl) rfl ?_; clear hE a; intro a hE
                    refine WL.vS hS hE (runs_if hE rfl rfl rfl hg163) (Gives.p hE rfl) rfl ?_; clear hE a; intro a hE
                    refine WL.vS hS hE (runs_if hE rfl rfl rfl hg163) (Gives.len hE rfl sl32) rfl ?_; clear hE a; intro a hE
                    refine WL.vS hS hE (runs_if hE rfl rfl rfl hg163) (Gives.p hE rfl) rfl ?_; clear hE a; intro a hE
                    refine WL.vS hS hE (runs_plain rfl) (Gives.pickF hE rfl hg163 rfl) rfl ?_; clear hE a; intro a hE
                    refine WL.vS hS hE (runs_plain rfl) (Gives.p hE rfl) rfl ?_; clear hE a; intro a hE
                    rcases Bool.eq_false_or_eq_true (decide (x138 ≥ ((x0).length : Int))) with hg164 | hg164
                    · replace hq157 := iteT hg164 hq157
                      refine WL.no hE (runs_not hE rfl rfl rfl (by rw [hg164]; decide)) rfl ?_; clear hE a; intro a hE
                      refine WL.no hE (runs_not hE rfl rfl rfl (by rw [hg164]; decide)) rfl ?_; clear hE a; intro a hE
                      refine WL.no hE (runs_not hE rfl rfl rfl (by rw [hg164]; decide)) rfl ?_; clear hE a; intro a hE
                      refine WL.no hE (runs_undef hE rfl rfl rfl) rfl ?_; clear hE a; intro a hE
                      refine WL.no hE (runs_undef hE rfl rfl rfl) rfl ?_; clear hE a; intro a hE
                      refine WL.no hE (runs_undef hE rfl rfl rfl) rfl ?_; clear hE a; intro a hE
                      refine WL.no hE (runs_undef hE rfl rfl rfl) rfl ?_; clear hE a; intro a hE
                      refine WL.no hE (runs_undef hE rfl rfl rfl) rfl ?_; clear hE a; intro a hE
                      refine WL.no hE (runs_undef hE rfl rfl rfl) rfl ?_; clear hE a; intro a hE
                      refine WL.no hE (runs_undef hE rfl rfl rfl) rfl ?_; clear hE a; intro a hE
                      refine WL.no hE (runs_undef hE rfl rfl rfl) rfl ?_; clear hE a; intro a hE
                      refine WL.no hE (runs_undef hE rfl rfl rfl) rfl ?_; clear hE a; intro a hE
                      refine WL.no hE (runs_undef hE rfl rfl rfl) rfl ?_; clear hE a; intro a hE
                      refine WL.no hE (runs_undef hE rfl rfl rfl) rfl ?_; clear hE a; intro a hE
                      refine WL.no hE (runs_not hE rfl rfl rfl (by rw [hg164]; decide)) rfl ?_; clear hE a; intro a hE
                      refine WL.vS hS hE (runs_plain rfl) (Gives.pickT hE rfl hg164 rfl) rfl ?_; clear hE a; intro a hE
                      refine WL.nil ?_
                      subst hK162
                      exact ⟨true, Option.some.inj hq157, hE.pick _ ⟨rfl, rfl, rfl, rfl, rfl, rfl, rfl, rfl, rfl, rfl, rfl, rfl, rfl, rfl, trivial⟩, hS⟩
                    · replace hq157 := iteF hg164 hq157
                      refine WL.vS hS hE (runs_if hE rfl rfl rfl hg164) (Gives.p hE rfl) rfl ?_; clear hE a; intro a hE
                      refine WL.vS hS hE (runs_if hE rfl rfl rfl hg164) (Gives.p hE rfl) rfl ?_; clear hE a; intro a hE
                      refine WL.vS hS hE (runs_if hE rfl rfl rfl hg164) (Gives.p hE rfl) rfl ?_; clear hE a; intro a hE
                      rcases Bool.eq_false_or_eq_true (decide (((k137 : Nat) : Int) > 0)) with hg165 | hg165
                      · replace hq157 := iteT hg165 hq157
                        refine WL.vS hS hE (runs_if hE rfl rfl rfl hg165) (Gives.p hE rfl) rfl ?_; clear hE a; intro a hE
                        refine WL.vS hS hE (runs_if hE rfl rfl rfl hg165) (Gives.p hE rfl) rfl ?_; clear hE a; intro a hE
                        refine WL.vS hS hE (runs_if hE rfl rfl rfl hg165) (Gives.p hE rfl) rfl ?_; clear hE a; intro a hE
                        refine WL.vS hS hE (runs_if hE rfl rfl rfl hg165) (Gives.p hE rfl) rfl ?_; clear hE a; intro a hE
                        refine WL.vS hS hE (runs_if hE rfl rfl rfl hg165) (Gives.p hE rfl) rfl ?_; clear hE a; intro a hE
                        refine WL.vS hS hE (runs_if hE rfl rfl rfl hg165) (Gives.p hE rfl) rfl ?_; clear hE a; intro a hE
                        obtain ⟨x166, hx167, hq157⟩ := bindS hq157
                        obtain ⟨hi168, hlt169, hy170⟩ := gx_some hx167
                        obtain ⟨cs171, hl172, hR173, hat174⟩ := h134.at hy170
                        subst hR173
                        refine WL.vS hS hE (runs_if hE rfl rfl rfl hg165) (Gives.idx hE (w64 (((k137 : Nat) : Int) - 1)).toNat rfl rfl sl44 hi168 hlt169 (h134.aok hlt169)) rfl ?_; clear hE a; intro a hE
                        refine WL.vS hS hE (runs_if hE rfl rfl rfl hg165) (Gives.load1 hE rfl (fun w h => hat174 w _ h) ty3) rfl ?_; clear hE a; intro a hE
                        refine WL.vS hS hE (runs_if hE rfl rfl rfl hg165) (Gives.p hE rfl) rfl ?_; clear hE a; intro a hE
                        obtain ⟨q175, hq176, hq157⟩ := bindS hq157
                        have hc_ := Fishref2After_ok hS h0 h2 hq176
                        refine WL.fnq hE (hc_) (runs_if hE rfl rfl rfl hg165) bd23 rfl rfl rfl ?_
                        clear hE hS hc_; rintro e w ⟨rfl, hS⟩; refine ⟨_, rfl, ?_⟩; clear a; intro a hE
                        refine WL.vS hS hE (runs_if hE rfl rfl rfl hg165) (Gives.p hE rfl) rfl ?_; clear hE a; intro a hE
                        refine WL.vS hS hE (runs_if hE rfl rfl rfl hg164) (Gives.pickT hE rfl hg165 rfl) rfl ?_; clear hE a; intro a hE
                        refine WL.vS hS hE (runs_plain rfl) (Gives.pickF hE rfl hg164 rfl) rfl ?_; clear hE a; intro a hE
                        refine WL.nil ?_
                        subst hK162
                        exact ⟨!q175, Option.some.inj hq157, hE.pick _ ⟨rfl, rfl, rfl, rfl, rfl, rfl, rfl, rfl, rfl, rfl, rfl, rfl, rfl, rfl, trivial⟩, hS⟩
                      · replace hq157 := iteF hg165 hq157
                        refine WL.no hE (runs_not hE rfl rfl rfl (by rw [hg165]; decide)) rfl ?_; clear hE a; intro a hE
                        refine WL.no hE (runs_not hE rfl rfl rfl (by rw [hg165]; decide)) rfl ?_; clear hE a; intro a hE
                        refine WL.no hE (runs_not hE rfl rfl rfl (by rw [hg165]; decide)) rfl ?_; clear hE a; intro a hE
                        refine WL.no hE (runs_not hE rfl rfl rfl (by rw [hg165]; decide)) rfl ?_; clear hE a; intro a hE
                        refine WL.no hE (runs_not hE rfl rfl rfl (by rw [hg165]; decide)) rfl ?_; clear hE a; intro a hE
                        refine WL.no hE (runs_not hE rfl rfl rfl (by rw [hg165]; decide)) rfl ?_; clear hE a; intro a hE
                        refine WL.no hE (runs_not hE rfl rfl rfl (by rw [hg165]; decide)) rfl ?_; clear hE a; intro a hE
                        refine WL.no hE (runs_not hE rfl rfl rfl (by rw [hg165]; decide)) rfl ?_; clear hE a; intro a hE
                        refine WL.no hE (runs_not hE rfl rfl rfl (by rw [hg165]; decide)) rfl ?_; clear hE a; intro a hE
                        refine WL.no hE (runs_not hE rfl rfl rfl (by rw [hg165]; decide)) rfl ?_; clear hE a; intro a hE
                        refine WL.no hE (runs_not hE rfl rfl rfl (by rw [hg165]; decide)) rfl ?_; clear hE a; intro a hE
                        refine WL.vS hS hE (runs_if hE rfl rfl rfl hg164) (Gives.pickF hE rfl hg165 rfl) rfl ?_; clear hE a; intro a hE
                        refine WL.vS hS hE (runs_plain rfl) (Gives.pickF hE rfl hg164 rfl) rfl ?_; clear hE a; intro a hE
                        refine WL.nil ?_
                        subst hK162
                        exact ⟨false, Option.some.inj hq157, hE.pick _ ⟨rfl, rfl, rfl, rfl, rfl, rfl, rfl, rfl, rfl, rfl, rfl, rfl, rfl, rfl, trivial⟩, hS⟩
                · clear hE hS a w; rintro a w ⟨q161, rfl, hE, hS⟩
                  refine W.cond hE rfl (fun hc177 => ?_) (fun hc177 => ?_)
                  · replace hq135 := iteT hc177 hq135
                    refine W.seq ?_
                    refine W.region ?_
                    refine WL.vS hS hE (runs_plain rfl) (Gives.p hE rfl) rfl ?_; clear hE a; intro a hE
                    refine WL.nil ?_
                    refine W.ret ?_
                    subst hK152
                    subst hK121
                    rw [← Option.some.inj hq135] at hq103
                    dsimp only at hq103
                    rw [← Option.some.inj hq103] at hr
                    dsimp only at hr
                    refine finG (fn := Try.f6) (rs := [.tmp 6]) (vs := [_]) hE rfl ⟨rfl, trivial⟩ ?_
                    obtain rfl := Option.some.inj hr
                    replace hS := hS.tail
                    replace hS := hS.tail
                    replace hS := hS.tail
                    exact ⟨rfl, (hS.down (Sg.Le.trans hle60 hle70))⟩
                  · replace hq135 := iteF hc177 hq135
                    refine W.skip ?_
                    refine W.region ?_
                    refine WL.vS hS hE (runs_plain rfl) (Gives.p hE rfl) rfl ?_; clear hE a; intro a hE
                    refine WL.vS hS hE (runs_plain rfl) (Gives.p hE rfl) rfl ?_; clear hE a; intro a hE
                    obtain ⟨x178, hx179, hq135⟩ := bindS hq135
                    obtain ⟨hi180, hlt181, hy182⟩ := gx_some hx179
                    obtain ⟨vs183, hl184, hR185, hd186, hget187⟩ := h149.at hy182
                    subst hR185
                    refine WL.vS hS hE (runs_plain rfl) (Gives.idx hE ((x138).toNat) rfl rfl sl44 hi180 (by have := hn151; omega) (hS.vecAok 0 rfl (by have := hn151; omega : (x138).toNat < x97.length))) rfl ?_; clear hE a; intro a hE
                    refine WL.vS hS hE (runs_plain rfl) (Gives.load1 hE rfl (fun w h => St.vecSees h 0 rfl ((x138).toNat * 1) _ hget187) ty3) rfl ?_; clear hE a; intro a hE
                    refine WL.vS hS hE (runs_plain rfl) (Gives.p hE rfl) rfl ?_; clear hE a; intro a hE
                    obtain ⟨_, hx189, hq135⟩ := bindS hq135
                    obtain ⟨h190, h191⟩ := ix_some hx189
                    refine WL.vS hS hE (runs_plain rfl) (Gives.idx hE ((x138).toNat) rfl rfl sl44 h190 (by have := hn151; omega) (hS.vecAok 0 rfl (by have := hn151; omega : (x138).toNat < x97.length))) rfl ?_; clear hE a; intro a hE
                    obtain ⟨x193, hx194, hq135⟩ := bindS hq135
                    refine WL.setD hE hS 0 rfl (runs_plain rfl) rfl rfl (vs := [.int .i64 (w64 (x178 + 1))]) rfl ty3 rfl rfl rfl h149 hn151 (sx_some hx194).1 hx194 rfl rfl ?_; clear hE hS a w; intro cs195 a w h196 hn197 hE hS
                    refine WL.nil ?_
                    refine W.region ?_
                    refine WL.vS hS hE (runs_plain rfl) (Gives.inc hE rfl (by have := h134.small; omega)) rfl ?_; clear hE a; intro a hE
                    refine WL.vS hS hE (runs_plain rfl) (Gives.p hE rfl) rfl ?_; clear hE a; intro a hE
                    refine WL.nil ?_
                    subst hK152
                    exact ⟨rest139.length, Nat.lt_succ_self _, rest139, k137 + 1, x193, cs195, rfl, hd140, hq135, h196, hn197, hE.pick _ ⟨rfl, rfl, rfl, rfl, rfl, rfl, rfl, rfl, rfl, rfl, rfl, rfl, trivial⟩, hS⟩
            · clear hE hS a w; rintro a w ⟨q146, cs150, rfl, h149, hn151, hE, hS⟩
              dsimp only at hq103
              refine W.seq ?_
              refine W.region ?_
              refine WL.vS hS hE (runs_plain rfl) (Gives.p hE rfl) rfl ?_; clear hE a; intro a hE
              refine WL.vS hS hE (runs_plain rfl) (Gives.len hE rfl sl44) rfl ?_; clear hE a; intro a hE
              refine WL.vS hS hE (runs_plain rfl) (Gives.p hE rfl) rfl ?_; clear hE a; intro a hE
              refine WL.nil ?_
              refine W.cond hE rfl (fun hc198 => ?_) (fun hc198 => ?_)
              · replace hq103 := iteT hc198 hq103
                refine W.seq ?_
                refine W.region ?_
                refine WL.vS hS hE (runs_plain rfl) (Gives.p hE rfl) rfl ?_; clear hE a; intro a hE
                refine WL.nil ?_
                refine W.ret ?_
                subst hK121
                rw [← Option.some.inj hq103] at hr
                dsimp only at hr
                refine finG (fn := Try.f6) (rs := [.tmp 6]) (vs := [_]) hE rfl ⟨rfl, trivial⟩ ?_
                obtain rfl := Option.some.inj hr
                replace hS := hS.tail
                replace hS := hS.tail
                replace hS := hS.tail
                exact ⟨rfl, (hS.down (Sg.Le.trans hle60 hle70))⟩
              · replace hq103 := iteF hc198 hq103
                refine W.skip ?_
                refine W.region ?_
                refine WL.vS hS hE (runs_plain rfl) (Gives.inc hE rfl (by omega)) rfl ?_; clear hE a; intro a hE
                refine WL.vS hS hE (runs_plain rfl) (Gives.p hE rfl) rfl ?_; clear hE a; intro a hE
                refine WL.nil ?_
                subst hK121
                exact ⟨rest107, Nat.lt_succ_self _, rest107, k105 + 1, q146, cs150, rfl, (by omega), hq103, h149, hn151, hE.pick _ ⟨rfl, rfl, rfl, rfl, rfl, rfl, rfl, rfl, trivial⟩, hS⟩
        · clear hE hS a w; rintro a w ⟨q115, cs119, rfl, h118, hn120, hE, hS⟩
          dsimp only at hr
          refine W.seq ?_
          refine W.seq ?_
          refine W.region ?_
          refine WL.vS hS hE (runs_plain rfl) (Gives.p hE rfl) rfl ?_; clear hE a; intro a hE
          refine WL.vS hS hE (runs_plain rfl) (Gives.len hE rfl sl44) rfl ?_; clear hE a; intro a hE
          refine WL.vS hS hE (runs_plain rfl) (Gives.p hE rfl) rfl ?_; clear hE a; intro a hE
          refine WL.nil ?_
          have hF := hS.fixD RI.mono 1 rfl h67 rfl; clear hS; obtain ⟨s199, hle200, hS, h201⟩ := hF
          replace h0 := Sl.mono RFleetTask.mono hle200 h0
          replace h2 := Sl.mono (RL.mono RI.mono) hle200 h2
          replace h118 := Ev.mono RI.mono hle200 h118
          replace h57 := Ev.mono (RL.mono RI.mono) hle200 h57
          replace hS := hS.dropAt 1
          have hb213 : q61.1.length ≤ 9223372036854775807 := h201.small
          obtain ⟨q203, hq202, hr⟩ := bindS hr
          refine W.cut (fun a w => (.next ()) = q203 ∧ Rep a 168 [(12, .slice (some ⟨b99, 0, none⟩) x97.length x97.length)] ∧ St w s199 (vecC 3 1 (some ⟨b99, 0, none⟩) x97.length x97.length cs119 :: R)) ?_ ?_
          · refine W.block ?_
            refine W.loop (fun m a w => ∃ (rest206 : Nat) (k204 : Nat), rest206 = m ∧ k204 + rest206 = q61.1.length ∧ Fishlaw2FleetCovers.loop3 x0 x1 x2 q61 rest206 k204 = some q203 ∧ Rep a 168 [(0, .slice a0 x0.length c0), (1, .int .i64 x1), (2, .slice a2 x2.length c2), (9, .slice a63 q61.1.length c64), (12, .slice (some ⟨b99, 0, none⟩) x97.length x97.length), (129, .slice a63 q61.1.length c64), (130, .int .i64 ((q61.1.length : Nat) : Int)), (131, .int .i64 ((k204 : Nat) : Int))] ∧ St w s199 (vecC 3 1 (some ⟨b99, 0, none⟩) x97.length x97.length cs119 :: R)) (m := q61.1.length) ⟨q61.1.length, 0, rfl, by omega, hq202, hE.pick _ ⟨rfl, rfl, rfl, rfl, rfl, rfl, rfl, rfl, trivial⟩, hS⟩ ?_
            clear hE hS a w hq202; rintro m210 a w ⟨rest206, k204, rfl, hd207, hq202, hE, hS⟩
            refine W.gen fun K214 hK214 => ?_
            rcases rest206 with _ | rest206
            · skip
              refine W.seq ?_
              refine W.region ?_
              refine WL.vS hS hE (runs_plain rfl) (Gives.p hE rfl) rfl ?_; clear hE a; intro a hE
              refine WL.nil ?_
              refine W.seq ?_
              refine W.condF hE rfl (decide_eq_false (by omega)) ?_
              subst hK214
              refine W.exit rfl ?_
              exact ⟨Option.some.inj hq202, hE.pick _ ⟨rfl, trivial⟩, hS⟩
            · have hlt208 : k204 < q61.1.length := by omega
              rw [Fishlaw2FleetCovers.loop3] at hq202
              refine W.seq ?_
              refine W.region ?_
              refine WL.vS hS hE (runs_plain rfl) (Gives.p hE rfl) rfl ?_; clear hE a; intro a hE
              refine WL.nil ?_
              refine W.seq ?_
              refine W.condT hE rfl (decide_eq_true (by omega)) ?_
              refine W.skip ?_
              refine W.seq ?_
              refine W.block ?_
              refine W.seq ?_
              refine W.region ?_
              refine WL.vS hS hE (runs_plain rfl) (Gives.p hE rfl) rfl ?_; clear hE a; intro a hE
              obtain ⟨x215, hx216, hq202⟩ := bindS hq202
              obtain ⟨hi217, hlt218, hy219⟩ := gx_some hx216
              obtain ⟨cs220, hl221, hR222, hat223⟩ := h201.at hy219
              subst hR222
              refine WL.vS hS hE (runs_plain rfl) (Gives.idx hE (((k204 : Nat) : Int)).toNat rfl rfl sl44 hi217 hlt218 (h201.aok hlt218)) rfl ?_; clear hE a; intro a hE
              refine WL.vS hS hE (runs_plain rfl) (Gives.load1 hE rfl (fun w h => hat223 w _ h) ty3) rfl ?_; clear hE a; intro a hE
              refine WL.vS hS hE (runs_plain rfl) (Gives.p hE rfl) rfl ?_; clear hE a; intro a hE
              refine WL.vS hS hE (runs_plain rfl) (Gives.p hE rfl) rfl ?_; clear hE a; intro a hE
              refine WL.nil ?_
              refine W.seq ?_
              refine W.seq ?_
              obtain ⟨q225, hq224, hq202⟩ := bindS hq202
              refine W.cut (fun a w => ∃ (q228 : Bool), q228 = q225 ∧ Rep a 168 [(0, .slice a0 x0.length c0), (1, .int .i64 x1), (2, .slice a2 x2.length c2), (9, .slice a63 q61.1.length c64), (12, .slice (some ⟨b99, 0, none⟩) x97.length x97.length), (18, .int .i64 x215), (129, .slice a63 q61.1.length c64), (130, .int .i64 ((q61.1.length : Nat) : Int)), (131, .int .i64 ((k204 : Nat) : Int)), (150, .bool q228)] ∧ St w s199 (vecC 3 1 (some ⟨b99, 0, none⟩) x97.length x97.length cs119 :: R)) ?_ ?_
              · refine W.gen fun K229 hK229 => ?_
                refine W.region ?_
                refine WL.vS hS hE (runs_plain rfl) (Gives.p hE rfl) rfl ?_; clear hE a; intro a hE
                refine WL.vS hS hE (runs_plain rfl) (Gives.p hE rfl) rfl ?_; clear hE a; intro a hE
                refine WL.vS hS hE (runs_plain rfl) (Gives.p hE rfl) rfl ?_; clear hE a; intro a hE
                rcases Bool.eq_false_or_eq_true (decide (x215 < 0)) with hg230 | hg230
                · replace hq224 := iteT hg230 hq224
                  refine WL.no hE (runs_not hE rfl rfl rfl (by rw [hg230]; decide)) rfl ?_; clear hE a; intro a hE
                  refine WL.no hE (runs_not hE rfl rfl rfl (by rw [hg230]; decide)) rfl ?_; clear hE a; intro a hE
                  refine WL.no hE (runs_not hE rfl rfl rfl (by rw [hg230]; decide)) rfl ?_; clear hE a; intro a hE
                  refine WL.no hE (runs_not hE rfl rfl rfl (by rw [hg230]; decide)) rfl ?_; clear hE a; intro a hE
                  refine WL.vS hS hE (runs_plain rfl) (Gives.pickT hE rfl hg230 rfl) rfl ?_; clear hE a; intro a hE
                  refine WL.vS hS hE (runs_plain rfl) (Gives.p hE rfl) rfl ?_; clear hE a; intro a hE
                  refine WL.no hE (runs_not hE rfl rfl rfl (by decide)) rfl ?_; clear hE a; intro a hE
                  refine WL.no hE (runs_not hE rfl rfl rfl (by decide)) rfl ?_; clear hE a; intro a hE
                  refine WL.no hE (runs_not hE rfl rfl rfl (by decide)) rfl ?_; clear hE a; intro a hE
                  refine WL.no hE (runs_not hE rfl rfl rfl (by decide)) rfl ?_; clear hE a; intro a hE
                  refine WL.no hE (runs_not hE rfl rfl rfl (by decide)) rfl ?_; clear hE a; intro a hE
                  refine WL.vS hS hE (runs_plain rfl) (Gives.pickT hE rfl rfl rfl) rfl ?_; clear hE a; intro a hE
                  refine WL.nil ?_
                  subst hK229
                  exact ⟨true, Option.some.inj hq224, hE.pick _ ⟨rfl, rfl, rfl, rfl, rfl, rfl, rfl, rfl, rfl, rfl, trivial⟩, hS⟩
                · replace hq224 := iteF hg230 hq224
                  refine WL.vS hS hE (runs_if hE rfl rfl rfl hg230) (Gives.p hE rfl) rfl ?_; clear hE a; intro a hE
                  refine WL.vS hS hE (runs_if hE rfl rfl rfl hg230) (Gives.p hE rfl) rfl ?_; clear hE a; intro a hE
                  refine WL.vS hS hE (runs_if hE rfl rfl rfl hg230) (Gives.len hE rfl sl32) rfl ?_; clear hE a; intro a hE
                  refine WL.vS hS hE (runs_if hE rfl rfl rfl hg230) (Gives.p hE rfl) rfl ?_; clear hE a; intro a hE
                  refine WL.vS hS hE (runs_plain rfl) (Gives.pickF hE rfl hg230 rfl) rfl ?_; clear hE a; intro a hE
                  refine WL.vS hS hE (runs_plain rfl) (Gives.p hE rfl) rfl ?_; clear hE a; intro a hE
                  rcases Bool.eq_false_or_eq_true (decide (x215 ≥ ((x0).length : Int))) with hg231 | hg231
                  · replace hq224 := iteT hg231 hq224
                    refine WL.no hE (runs_not hE rfl rfl rfl (by rw [hg231]; decide)) rfl ?_; clear hE a; intro a hE
                    refine WL.no hE (runs_not hE rfl rfl rfl (by rw [hg231]; decide)) rfl ?_; clear hE a; intro a hE
                    refine WL.no hE (runs_not hE rfl rfl rfl (by rw [hg231]; decide)) rfl ?_; clear hE a; intro a hE
                    refine WL.no hE (runs_not hE rfl rfl rfl (by rw [hg231]; decide)) rfl ?_; clear hE a; intro a hE
                    refine WL.no hE (runs_not hE rfl rfl rfl (by rw [hg231]; decide)) rfl ?_; clear hE a; intro a hE
                    refine WL.vS hS hE (runs_plain rfl) (Gives.pickT hE rfl hg231 rfl) rfl ?_; clear hE a; intro a hE
                    refine WL.nil ?_
                    subst hK229
                    exact ⟨true, Option.some.inj hq224, hE.pick _ ⟨rfl, rfl, rfl, rfl, rfl, rfl, rfl, rfl, rfl, rfl, trivial⟩, hS⟩
                  · replace hq224 := iteF hg231 hq224
                    refine WL.vS hS hE (runs_if hE rfl rfl rfl hg231) (Gives.p hE rfl) rfl ?_; clear hE a; intro a hE
                    refine WL.vS hS hE (runs_if hE rfl rfl rfl hg231) (Gives.p hE rfl) rfl ?_; clear hE a; intro a hE
                    obtain ⟨x232, hx233, hq224⟩ := bindS hq224
                    obtain ⟨a234, c235, heq236, h237⟩ := h201.cut hx233
                    obtain ⟨h238, h239, h240, _⟩ := cutl_some hx233
                    refine WL.vS hS hE (runs_if hE rfl rfl rfl hg231) (Gives.slH hE sl44 rfl rfl (by omega) (by have := h201.len; omega) heq236) rfl ?_; clear hE a; intro a hE
                    refine WL.vS hS hE (runs_if hE rfl rfl rfl hg231) (Gives.p hE rfl) rfl ?_; clear hE a; intro a hE
                    refine WL.fnq hE (SlicesContainsLint_ok hS h237 rfl (r := SlicesContainsLint x232 x215)) (runs_if hE rfl rfl rfl hg231) bd24 rfl rfl rfl ?_
                    clear hE hS; rintro e w ⟨rfl, hS⟩; refine ⟨_, rfl, ?_⟩; clear a; intro a hE
                    refine WL.vS hS hE (runs_plain rfl) (Gives.pickF hE rfl hg231 rfl) rfl ?_; clear hE a; intro a hE
                    refine WL.nil ?_
                    subst hK229
                    exact ⟨(SlicesContainsLint x232 x215), Option.some.inj hq224, hE.pick _ ⟨rfl, rfl, rfl, rfl, rfl, rfl, rfl, rfl, rfl, rfl, trivial⟩, hS⟩
              · clear hE hS a w; rintro a w ⟨q228, rfl, hE, hS⟩
                refine W.cond hE rfl (fun hc241 => ?_) (fun hc241 => ?_)
                · replace hq202 := iteT hc241 hq202
                  refine W.seq ?_
                  refine W.region ?_
                  refine WL.vS hS hE (runs_plain rfl) (Gives.p hE rfl) rfl ?_; clear hE a; intro a hE
                  refine WL.nil ?_
                  refine W.ret ?_
                  subst hK214
                  rw [← Option.some.inj hq202] at hr
                  dsimp only at hr
                  refine finG (fn := Try.f6) (rs := [.tmp 6]) (vs := [_]) hE rfl ⟨rfl, trivial⟩ ?_
                  obtain rfl := Option.some.inj hr
                  replace hS := hS.tail
                  exact ⟨rfl, (hS.down (Sg.Le.trans (Sg.Le.trans hle60 hle70) hle200))⟩
                · replace hq202 := iteF hc241 hq202
                  refine W.skip ?_
                  refine W.seq ?_
                  refine W.region ?_
                  refine WL.vS hS hE (runs_plain rfl) (Gives.p hE rfl) rfl ?_; clear hE a; intro a hE
                  refine WL.vS hS hE (runs_plain rfl) (Gives.len hE rfl sl44) rfl ?_; clear hE a; intro a hE
                  refine WL.vS hS hE (runs_plain rfl) (Gives.p hE rfl) rfl ?_; clear hE a; intro a hE
                  refine WL.nil ?_
                  obtain ⟨q243, hq242, hq202⟩ := bindS hq202
                  refine W.cut (fun a w => (.next ()) = q243 ∧ Rep a 168 [(0, .slice a0 x0.length c0), (1, .int .i64 x1), (2, .slice a2 x2.length c2), (9, .slice a63 q61.1.length c64), (12, .slice (some ⟨b99, 0, none⟩) x97.length x97.length), (129, .slice a63 q61.1.length c64), (130, .int .i64 ((q61.1.length : Nat) : Int)), (131, .int .i64 ((k204 : Nat) : Int))] ∧ St w s199 (vecC 3 1 (some ⟨b99, 0, none⟩) x97.length x97.length cs119 :: R)) ?_ ?_
                  · refine W.block ?_
                    refine W.loop (fun m a w => ∃ (rest246 : List Int) (k244 : Nat), rest246.length = m ∧ q61.1.drop k244 = rest246 ∧ Fishlaw2FleetCovers.loop4 x0 x1 x2 x215 rest246 = some q243 ∧ Rep a 168 [(0, .slice a0 x0.length c0), (1, .int .i64 x1), (2, .slice a2 x2.length c2), (9, .slice a63 q61.1.length c64), (12, .slice (some ⟨b99, 0, none⟩) x97.length x97.length), (18, .int .i64 x215), (129, .slice a63 q61.1.length c64), (130, .int .i64 ((q61.1.length : Nat) : Int)), (131, .int .i64 ((k204 : Nat) : Int)), (151, .slice a63 q61.1.length c64), (152, .int .i64 ((q61.1).length : Int)), (153, .int .i64 ((k244 : Nat) : Int))] ∧ St w s199 (vecC 3 1 (some ⟨b99, 0, none⟩) x97.length x97.length cs119 :: R)) (m := q61.1.length) ⟨q61.1, 0, rfl, rfl, hq242, hE.pick _ ⟨rfl, rfl, rfl, rfl, rfl, rfl, rfl, rfl, rfl, rfl, rfl, rfl, trivial⟩, hS⟩ ?_
                    clear hE hS a w hq242; rintro m250 a w ⟨rest246, k244, rfl, hd247, hq242, hE, hS⟩
                    refine W.gen fun K253 hK253 => ?_
                    rcases rest246 with _ | ⟨x245, rest246⟩
                    · have hlt248 := drop_nil hd247
                      refine W.seq ?_
                      refine W.region ?_
                      refine WL.vS hS hE (runs_plain rfl) (Gives.p hE rfl) rfl ?_; clear hE a; intro a hE
                      refine WL.nil ?_
                      refine W.seq ?_
                      refine W.condF hE rfl (decide_eq_false (by omega)) ?_
                      subst hK253
                      refine W.exit rfl ?_
                      exact ⟨Option.some.inj hq242, hE.pick _ ⟨rfl, rfl, rfl, rfl, rfl, rfl, rfl, rfl, trivial⟩, hS⟩
                    · obtain ⟨hlt248, hx249, hd247⟩ := drop_cons hd247
                      rw [Fishlaw2FleetCovers.loop4] at hq242
                      refine W.seq ?_
                      refine W.region ?_
                      refine WL.vS hS hE (runs_plain rfl) (Gives.p hE rfl) rfl ?_; clear hE a; intro a hE
                      refine WL.nil ?_
                      refine W.seq ?_
                      refine W.condT hE rfl (decide_eq_true (by omega)) ?_
                      refine W.skip ?_
                      refine W.seq ?_
                      refine W.block ?_
                      refine W.seq ?_
                      refine W.region ?_
                      obtain ⟨cs254, hl255, hR256, hat257⟩ := h201.at hx249
                      subst hR256
                      refine WL.vS hS hE (runs_plain rfl) (Gives.idx hE k244 rfl rfl sl44 rfl hlt248 (h201.aok hlt248)) rfl ?_; clear hE a; intro a hE
                      refine WL.vS hS hE (runs_plain rfl) (Gives.load1 hE rfl (fun w h => hat257 w _ h) ty3) rfl ?_; clear hE a; intro a hE
                      refine WL.vS hS hE (runs_plain rfl) (Gives.p hE rfl) rfl ?_; clear hE a; intro a hE
                      refine WL.nil ?_
                      refine W.seq ?_
                      refine W.region ?_
                      refine WL.vS hS hE (runs_plain rfl) (Gives.p hE rfl) rfl ?_; clear hE a; intro a hE
                      refine WL.vS hS hE (runs_plain rfl) (Gives.p hE rfl) rfl ?_; clear hE a; intro a hE
                      refine WL.vS hS hE (runs_plain rfl) (Gives.p hE rfl) rfl ?_; clear hE a; intro a hE
                      refine WL.vS hS hE (runs_plain rfl) (Gives.p hE rfl) rfl ?_; clear hE a; intro a hE
                      refine WL.vS hS hE (runs_plain rfl) (Gives.p hE rfl) rfl ?_; clear hE a; intro a hE
                      obtain ⟨q258, hq259, hq242⟩ := bindS hq242
                      have hc_ := Fishref2After_ok hS h0 h2 hq259
                      refine WL.fnq hE (hc_) (runs_plain rfl) bd23 rfl rfl rfl ?_
                      clear hE hS hc_; rintro e w ⟨rfl, hS⟩; refine ⟨_, rfl, ?_⟩; clear a; intro a hE
                      refine WL.nil ?_
                      refine W.cond hE rfl (fun hc260 => ?_) (fun hc260 => ?_)
                      · replace hq242 := iteT hc260 hq242
                        refine W.seq ?_
                        refine W.region ?_
                        refine WL.vS hS hE (runs_plain rfl) (Gives.p hE rfl) rfl ?_; clear hE a; intro a hE
                        refine WL.nil ?_
                        refine W.ret ?_
                        subst hK253
                        subst hK214
                        rw [← Option.some.inj hq242] at hq202
                        dsimp only at hq202
                        rw [← Option.some.inj hq202] at hr
                        dsimp only at hr
                        refine finG (fn := Try.f6) (rs := [.tmp 6]) (vs := [_]) hE rfl ⟨rfl, trivial⟩ ?_
                        obtain rfl := Option.some.inj hr
                        replace hS := hS.tail
                        exact ⟨rfl, (hS.down (Sg.Le.trans (Sg.Le.trans hle60 hle70) hle200))⟩
                      · replace hq242 := iteF hc260 hq242
                        refine W.skip ?_
                        refine W.region ?_
                        refine WL.vS hS hE (runs_plain rfl) (Gives.inc hE rfl (by have := h201.small; omega)) rfl ?_; clear hE a; intro a hE
                        refine WL.vS hS hE (runs_plain rfl) (Gives.p hE rfl) rfl ?_; clear hE a; intro a hE
                        refine WL.nil ?_
                        subst hK253
                        exact ⟨rest246.length, Nat.lt_succ_self _, rest246, k244 + 1, rfl, hd247, hq242, hE.pick _ ⟨rfl, rfl, rfl, rfl, rfl, rfl, rfl, rfl, rfl, rfl, rfl, rfl, trivial⟩, hS⟩
                  · clear hE hS a w; rintro a w ⟨rfl, hE, hS⟩
                    dsimp only at hq202
                    refine W.region ?_
                    refine WL.vS hS hE (runs_plain rfl) (Gives.inc hE rfl (by omega)) rfl ?_; clear hE a; intro a hE
                    refine WL.vS hS hE (runs_plain rfl) (Gives.p hE rfl) rfl ?_; clear hE a; intro a hE
                    refine WL.nil ?_
                    subst hK214
                    exact ⟨rest206, Nat.lt_succ_self _, rest206, k204 + 1, rfl, (by omega), hq202, hE.pick _ ⟨rfl, rfl, rfl, rfl, rfl, rfl, rfl, rfl, trivial⟩, hS⟩
          · clear hE hS a w; rintro a w ⟨rfl, hE, hS⟩
            dsimp only at hr
            refine W.seq ?_
            refine W.region ?_
            refine WL.vS hS hE (runs_plain rfl) (Gives.p hE rfl) rfl ?_; clear hE a; intro a hE
            have hF := hS.lendV RI.mono 0 rfl h118 hn120; clear hS; obtain ⟨t261, hle262, hS, hs263, bk264⟩ := hF
            refine WL.fnq hE ((by have hc_ := SlicesContainsFuncLint_v1_ok hS hs263 rfl (r := SlicesContainsFuncLint_v1 q115); rw [hn120] at hc_; exact hc_)) (runs_plain rfl) bd25 rfl rfl rfl ?_
            clear hE hS; rintro e w ⟨rfl, hS⟩; refine ⟨_, rfl, ?_⟩; clear a; intro a hE
            replace hS := bk264 _ _ hS
            refine WL.vS hS hE (runs_plain rfl) (Gives.p hE rfl) rfl ?_; clear hE a; intro a hE
            refine WL.vS hS hE (runs_plain rfl) (Gives.p hE rfl) rfl ?_; clear hE a; intro a hE
            refine WL.nil ?_
            refine W.ret ?_
            refine finG (fn := Try.f6) (rs := [.tmp 6]) (vs := [_]) hE rfl ⟨rfl, trivial⟩ ?_
            obtain rfl := Option.some.inj hr
            replace hS := hS.tail
            exact ⟨rfl, (hS.down (Sg.Le.trans (Sg.Le.trans hle60 hle70) hle200))⟩
end Go.Proofs.Ytfhkpdnohcidgaa
