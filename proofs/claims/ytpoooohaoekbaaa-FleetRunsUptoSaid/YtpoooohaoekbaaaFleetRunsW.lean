/- The walks of the functions that FleetRuns reaches: each call comes to what its mirror says. The conditions are those of each contract. -/
import Derived.Test.YtpoooohaoekbaaaProg
import Derived.Test.YtpoooohaoekbaaaFleetRunsM
import Derived.Test.YtpoooohaoekbaaaFpMore
import Derived.Test.YtpoooohaoekbaaaFleetRunsW1
namespace Go.Proofs.Ytpoooohaoekbaaa
open Go Go.Fp
set_option maxHeartbeats 8000000 in
theorem FleetTurns_ok {fu : Nat}  {w : World} {s : Sg} {R : List HP} {x0 : List FleetTask} {a0 : Option Addr} {c0 : Nat} {x1 : Int} (hS : St w s (R)) (h0 : Sl 6 RFleetTask s a0 c0 x0) {r : (List (List Int)) × Int} (hr : FleetTurns fu x0 x1 = some r) :
    Calls Try.prog 47 [.slice a0 x0.length c0, .int .i64 x1].toArray w (fun e w => ∃ (a0 : Option Addr) (c0 : Nat) (t : Sg), e = .returned (.tuple #[.slice a0 r.1.length c0, .int .i64 r.2]) ∧ s.Le t ∧ Sl 1 (RL 1 (RI .i64)) t a0 c0 r.1 ∧ St w t (R)) := by
  refine enter Try.func47 rfl rfl rfl fun a hE => ?_
  rw [FleetTurns] at hr
  refine W.seq ?_
  refine W.region ?_
  refine WL.vS hS hE (runs_plain rfl) (Gives.p hE rfl) rfl ?_; clear hE a; intro a hE
  refine WL.vS hS hE (runs_plain rfl) (Gives.p hE rfl) rfl ?_; clear hE a; intro a hE
  refine WL.nil ?_
  refine W.seq ?_
  refine W.seq ?_
  refine W.region ?_
  refine WL.vS hS hE (runs_plain rfl) (Gives.p hE rfl) rfl ?_; clear hE a; intro a hE
  refine WL.vS hS hE (runs_plain rfl) (Gives.p hE rfl) rfl ?_; clear hE a; intro a hE
  refine WL.fn hE (FleetcheckTurn_ok hS h0 rfl) (runs_plain rfl) bd62 rfl rfl ?_
  clear hE hS; rintro e w ⟨rfl, hS⟩; refine ⟨_, rfl, ?_⟩; clear a; intro a hE
  refine WL.vS hS hE (runs_plain rfl) (Gives.p hE rfl) rfl ?_; clear hE a; intro a hE
  refine WL.nil ?_
  refine W.seq ?_
  refine W.region ?_
  refine WL.vS hS hE (runs_plain rfl) (Gives.p hE rfl) rfl ?_; clear hE a; intro a hE
  refine WL.vS hS hE (runs_plain rfl) (Gives.p hE rfl) rfl ?_; clear hE a; intro a hE
  refine WL.nil ?_
  refine W.cond hE rfl (fun hc51 => ?_) (fun hc51 => ?_)
  · replace hr := iteT hc51 hr
    refine W.seq ?_
    refine W.region ?_
    refine WL.vS hS hE (runs_plain rfl) (Gives.p hE rfl) rfl ?_; clear hE a; intro a hE
    refine WL.vS hS hE (runs_plain rfl) (Gives.p hE rfl) rfl ?_; clear hE a; intro a hE
    refine WL.vS hS hE (runs_plain rfl) (Gives.p hE rfl) rfl ?_; clear hE a; intro a hE
    refine WL.nil ?_
    refine W.ret ?_
    refine finG (fn := Try.f47) (rs := [.tmp 4, .tmp 5]) (vs := [_, _]) hE rfl ⟨rfl, rfl, trivial⟩ ?_
    obtain rfl := Option.some.inj hr
    exact ⟨none, 0, s, rfl, (Sg.Le.refl _), Sl.nil, hS⟩
  · replace hr := iteF hc51 hr
    refine W.skip ?_
    refine W.seq ?_
    refine W.region ?_
    replace hS := hS.nestNil 22 3 1
    refine WL.vS hS hE (runs_plain rfl) (Gives.p hE rfl) rfl ?_; clear hE a; intro a hE
    refine WL.nil ?_
    refine W.seq ?_
    refine W.seq ?_
    refine W.region ?_
    refine WL.vS hS hE (runs_plain rfl) (Gives.p hE rfl) rfl ?_; clear hE a; intro a hE
    obtain ⟨q53, hq54, hr⟩ := bindS hr
    refine WL.fn hE (Fleetorder_ok hS h0 hq54) (runs_plain rfl) bd63 rfl rfl ?_
    clear hE hS; rintro e w ⟨a55, c56, n57, cs58, s61, rfl, hle62, h59, rfl, hS⟩; refine ⟨_, rfl, ?_⟩; clear a; intro a hE
    replace h0 := Sl.mono RFleetTask.mono hle62 h0
    refine WL.vS hS hE (runs_plain rfl) (Gives.len hE rfl sl22) rfl ?_; clear hE a; intro a hE
    refine WL.vS hS hE (runs_plain rfl) (Gives.p hE rfl) rfl ?_; clear hE a; intro a hE
    refine WL.nil ?_
    have hb74 : q53.length ≤ 9223372036854775807 := by have := hS.vecCap 0 rfl; unfold maxLen at this; omega
    obtain ⟨q64, hq63, hr⟩ := bindS hr
    refine W.cut (fun a w => ∃ (q75 : List (List Int)), ∃ (a76 : Option Addr), ∃ (c77 : Nat), ∃ (n78 : Nat), ∃ (ds79 : List In), q75 = q64 ∧ NEv 1 (RI .i64) s61 ds79 q75 ∧ q75.length = n78 ∧ Rep a 113 [(7, .slice a76 n78 c77)] ∧ St w s61 (vecC 3 1 a55 c56 q53.length cs58 :: nestC 22 3 1 a76 c77 n78 ds79 :: R)) ?_ ?_
    · refine W.block ?_
      refine W.loop (fun m a w => ∃ (rest67 : Nat) (k65 : Nat), ∃ (q75 : List (List Int)), ∃ (a76 : Option Addr), ∃ (c77 : Nat), ∃ (n78 : Nat), ∃ (ds79 : List In), rest67 = m ∧ k65 + rest67 = q53.length ∧ FleetTurns.loop1 x0 x1 fu q53 rest67 k65 q75 = some q64 ∧ NEv 1 (RI .i64) s61 ds79 q75 ∧ q75.length = n78 ∧ Rep a 113 [(0, .slice a0 x0.length c0), (1, .int .i64 x1), (7, .slice a76 n78 c77), (21, .slice a55 q53.length c56), (22, .int .i64 ((q53.length : Nat) : Int)), (23, .int .i64 ((k65 : Nat) : Int))] ∧ St w s61 (vecC 3 1 a55 c56 q53.length cs58 :: nestC 22 3 1 a76 c77 n78 ds79 :: R)) (m := q53.length) ⟨q53.length, 0, [], none, 0, 0, [], rfl, by omega, hq63, (NEv.nil), (rfl), hE.pick _ ⟨rfl, rfl, rfl, rfl, rfl, rfl, trivial⟩, hS⟩ ?_
      clear hE hS a w hq63; rintro m71 a w ⟨rest67, k65, q75, a76, c77, n78, ds79, rfl, hd68, hq63, h80, rfl, hE, hS⟩
      refine W.gen fun K82 hK82 => ?_
      rcases rest67 with _ | rest67
      · skip
        refine W.seq ?_
        refine W.region ?_
        refine WL.vS hS hE (runs_plain rfl) (Gives.p hE rfl) rfl ?_; clear hE a; intro a hE
        refine WL.nil ?_
        refine W.seq ?_
        refine W.condF hE rfl (decide_eq_false (by omega)) ?_
        subst hK82
        refine W.exit rfl ?_
        exact ⟨q75, a76, c77, q75.length, ds79, Option.some.inj hq63, h80, rfl, hE.pick _ ⟨rfl, trivial⟩, hS⟩
      · have hlt69 : k65 < q53.length := by omega
        rw [FleetTurns.loop1] at hq63
        refine W.seq ?_
        refine W.region ?_
        refine WL.vS hS hE (runs_plain rfl) (Gives.p hE rfl) rfl ?_; clear hE a; intro a hE
        refine WL.nil ?_
        refine W.seq ?_
        refine W.condT hE rfl (decide_eq_true (by omega)) ?_
        refine W.skip ?_
        refine W.seq ?_
        refine W.block ?_
        refine W.seq ?_
        refine W.region ?_
        obtain ⟨x83, hx84, hq63⟩ := bindS hq63
        obtain ⟨hi85, hlt86, hy87⟩ := gx_some hx84
        obtain ⟨vs88, hl89, hR90, hd91, hget92⟩ := h59.at hy87
        subst hR90
        refine WL.vS hS hE (runs_plain rfl) (Gives.idx hE ((((k65 : Nat) : Int)).toNat) rfl rfl sl22 hi85 (by omega) (hS.vecAok 0 rfl (by omega : (((k65 : Nat) : Int)).toNat < q53.length))) rfl ?_; clear hE a; intro a hE
        refine WL.vS hS hE (runs_plain rfl) (Gives.load1 hE rfl (fun w h => St.vecSees h 0 rfl ((((k65 : Nat) : Int)).toNat * 1) _ hget92) ty3) rfl ?_; clear hE a; intro a hE
        refine WL.vS hS hE (runs_plain rfl) (Gives.p hE rfl) rfl ?_; clear hE a; intro a hE
        refine WL.nil ?_
        refine W.seq ?_
        refine W.region ?_
        refine WL.vS hS hE (runs_plain rfl) (Gives.p hE rfl) rfl ?_; clear hE a; intro a hE
        refine WL.vS hS hE (runs_plain rfl) (Gives.p hE rfl) rfl ?_; clear hE a; intro a hE
        obtain ⟨x93, hx94, hq63⟩ := bindS hq63
        obtain ⟨hi95, hlt96, hy97⟩ := gx_some hx94
        obtain ⟨cs98, hl99, hR100, hat101⟩ := h0.at hy97
        subst hR100
        refine WL.vS hS hE (runs_plain rfl) (Gives.idx hE (x83).toNat rfl rfl sl33 hi95 hlt96 (h0.aok hlt96)) rfl ?_; clear hE a; intro a hE
        refine WL.vS hS hE (runs_plain rfl) (Gives.fld hE rfl fl84_5) rfl ?_; clear hE a; intro a hE
        refine WL.vS hS hE (runs_plain rfl) (Gives.load1 hE rfl (fun w h => (hat101 w _ h).one rfl) ty3) rfl ?_; clear hE a; intro a hE
        refine WL.vS hS hE (runs_plain rfl) (Gives.p hE rfl) rfl ?_; clear hE a; intro a hE
        refine WL.nil ?_
        obtain ⟨q114, hq113, hq63⟩ := bindS hq63
        refine W.cut (fun a w => ∃ (q119 : List (List Int)), ∃ (q126 : Int), ∃ (a120 : Option Addr), ∃ (c121 : Nat), ∃ (n122 : Nat), ∃ (ds123 : List In), (q119, q126) = q114 ∧ NEv 1 (RI .i64) s61 ds123 q119 ∧ q119.length = n122 ∧ Rep a 113 [(0, .slice a0 x0.length c0), (1, .int .i64 x1), (7, .slice a120 n122 c121), (21, .slice a55 q53.length c56), (22, .int .i64 ((q53.length : Nat) : Int)), (23, .int .i64 ((k65 : Nat) : Int))] ∧ St w s61 (vecC 3 1 a55 c56 q53.length cs58 :: nestC 22 3 1 a120 c121 n122 ds123 :: R)) ?_ ?_
        · refine W.block ?_
          refine W.loop (fun m a w => ∃ (n115 : Nat), ∃ (q119 : List (List Int)), ∃ (q126 : Int), ∃ (a120 : Option Addr), ∃ (c121 : Nat), ∃ (n122 : Nat), ∃ (ds123 : List In), n115 = m ∧ FleetTurns.loop3 x0 x1 x83 x93 n115 q119 q126 = some q114 ∧ NEv 1 (RI .i64) s61 ds123 q119 ∧ q119.length = n122 ∧ Rep a 113 [(0, .slice a0 x0.length c0), (1, .int .i64 x1), (7, .slice a120 n122 c121), (9, .int .i64 x83), (21, .slice a55 q53.length c56), (22, .int .i64 ((q53.length : Nat) : Int)), (23, .int .i64 ((k65 : Nat) : Int)), (31, .int .i64 x93.Units), (32, .int .i64 q126)] ∧ St w s61 (vecC 3 1 a55 c56 q53.length cs58 :: nestC 22 3 1 a120 c121 n122 ds123 :: R)) (m := fu) ⟨fu, q75, 0, a76, c77, q75.length, ds79, rfl, hq113, h80, rfl, hE.pick _ ⟨rfl, rfl, rfl, rfl, rfl, rfl, rfl, rfl, rfl, trivial⟩, hS⟩ ?_
          clear hE hS a w hq113; rintro m116 a w ⟨n115, q119, q126, a120, c121, n122, ds123, rfl, hq113, h124, rfl, hE, hS⟩
          refine W.gen fun K127 hK127 => ?_
          rcases n115 with _ | n115
          · rw [FleetTurns.loop3] at hq113; exact absurd hq113 (by simp)
          rw [FleetTurns.loop3] at hq113
          refine W.seq ?_
          refine W.region ?_
          refine WL.vS hS hE (runs_plain rfl) (Gives.p hE rfl) rfl ?_; clear hE a; intro a hE
          refine WL.nil ?_
          refine W.seq ?_
          refine W.cond hE rfl (fun hc128 => ?_) (fun hc128 => ?_)
          · replace hq113 := iteT hc128 hq113
            refine W.skip ?_
            refine W.seq ?_
            refine W.block ?_
            refine W.seq ?_
            refine W.region ?_
            refine WL.vS hS hE (runs_plain rfl) (Gives.p hE rfl) rfl ?_; clear hE a; intro a hE
            refine WL.nil ?_
            refine W.seq ?_
            refine W.seq ?_
            refine W.region ?_
            refine WL.vS hS hE (runs_plain rfl) (Gives.p hE rfl) rfl ?_; clear hE a; intro a hE
            refine WL.vS hS hE (runs_plain rfl) (Gives.len hE rfl sl23) rfl ?_; clear hE a; intro a hE
            refine WL.vS hS hE (runs_plain rfl) (Gives.p hE rfl) rfl ?_; clear hE a; intro a hE
            refine WL.nil ?_
            have hb140 : q119.length ≤ 9223372036854775807 := by have := hS.nCap 1 rfl; unfold maxLen at this; omega
            obtain ⟨q130, hq129, hq113⟩ := bindS hq113
            refine W.cut (fun a w => ∃ (q141 : Int), q141 = q130 ∧ Rep a 113 [(0, .slice a0 x0.length c0), (1, .int .i64 x1), (7, .slice a120 q119.length c121), (9, .int .i64 x83), (10, .int .i64 q141), (21, .slice a55 q53.length c56), (22, .int .i64 ((q53.length : Nat) : Int)), (23, .int .i64 ((k65 : Nat) : Int)), (31, .int .i64 x93.Units), (32, .int .i64 q126)] ∧ St w s61 (vecC 3 1 a55 c56 q53.length cs58 :: nestC 22 3 1 a120 c121 q119.length ds123 :: R)) ?_ ?_
            · refine W.block ?_
              refine W.loop (fun m a w => ∃ (rest133 : Nat) (k131 : Nat), ∃ (q141 : Int), rest133 = m ∧ k131 + rest133 = q119.length ∧ FleetTurns.loop4 x0 x1 x83 q119 rest133 k131 q141 = some q130 ∧ Rep a 113 [(0, .slice a0 x0.length c0), (1, .int .i64 x1), (7, .slice a120 q119.length c121), (9, .int .i64 x83), (10, .int .i64 q141), (21, .slice a55 q53.length c56), (22, .int .i64 ((q53.length : Nat) : Int)), (23, .int .i64 ((k65 : Nat) : Int)), (31, .int .i64 x93.Units), (32, .int .i64 q126), (34, .slice a120 q119.length c121), (35, .int .i64 ((q119.length : Nat) : Int)), (36, .int .i64 ((k131 : Nat) : Int))] ∧ St w s61 (vecC 3 1 a55 c56 q53.length cs58 :: nestC 22 3 1 a120 c121 q119.length ds123 :: R)) (m := q119.length) ⟨q119.length, 0, (-1), rfl, by omega, hq129, hE.pick _ ⟨rfl, rfl, rfl, rfl, rfl, rfl, rfl, rfl, rfl, rfl, rfl, rfl, rfl, trivial⟩, hS⟩ ?_
              clear hE hS a w hq129; rintro m137 a w ⟨rest133, k131, q141, rfl, hd134, hq129, hE, hS⟩
              refine W.gen fun K142 hK142 => ?_
              rcases rest133 with _ | rest133
              · skip
                refine W.seq ?_
                refine W.region ?_
                refine WL.vS hS hE (runs_plain rfl) (Gives.p hE rfl) rfl ?_; clear hE a; intro a hE
                refine WL.nil ?_
                refine W.seq ?_
                refine W.condF hE rfl (decide_eq_false (by omega)) ?_
                subst hK142
                refine W.exit rfl ?_
                exact ⟨q141, Option.some.inj hq129, hE.pick _ ⟨rfl, rfl, rfl, rfl, rfl, rfl, rfl, rfl, rfl, rfl, trivial⟩, hS⟩
              · have hlt135 : k131 < q119.length := by omega
                rw [FleetTurns.loop4] at hq129
                refine W.seq ?_
                refine W.region ?_
                refine WL.vS hS hE (runs_plain rfl) (Gives.p hE rfl) rfl ?_; clear hE a; intro a hE
                refine WL.nil ?_
                refine W.seq ?_
                refine W.condT hE rfl (decide_eq_true (by omega)) ?_
                refine W.skip ?_
                refine W.seq ?_
                refine W.block ?_
                refine W.seq ?_
                refine W.region ?_
                refine WL.vS hS hE (runs_plain rfl) (Gives.p hE rfl) rfl ?_; clear hE a; intro a hE
                obtain ⟨x143, hx144, hq129⟩ := bindS hq129
                obtain ⟨hi145, hlt146, hy147⟩ := gx_some hx144
                obtain ⟨a148, c149, cs150, hd151, hev152⟩ := h124.at hy147
                refine WL.vS hS hE (runs_plain rfl) (Gives.idx hE ((((k131 : Nat) : Int)).toNat) rfl rfl sl23 hi145 (by omega) (hS.nAok 1 rfl (by omega : (((k131 : Nat) : Int)).toNat < q119.length))) rfl ?_; clear hE a; intro a hE
                refine WL.vS hS hE (runs_plain rfl) (Gives.load1 (v := .slice a148 x143.length c149) hE rfl (fun w h => St.nSees h 1 rfl hd151) ty22) rfl ?_; clear hE a; intro a hE
                refine WL.vS hS hE (runs_plain rfl) (Gives.p hE rfl) rfl ?_; clear hE a; intro a hE
                refine WL.vS hS hE (runs_plain rfl) (Gives.p hE rfl) rfl ?_; clear hE a; intro a hE
                refine WL.nil ?_
                refine W.seq ?_
                refine W.region ?_
                refine WL.vS hS hE (runs_plain rfl) (Gives.p hE rfl) rfl ?_; clear hE a; intro a hE
                refine WL.vS hS hE (runs_plain rfl) (Gives.p hE rfl) rfl ?_; clear hE a; intro a hE
                refine WL.vS hS hE (runs_plain rfl) (Gives.len hE rfl sl22) rfl ?_; clear hE a; intro a hE
                refine WL.vS hS hE (runs_plain rfl) (Gives.p hE rfl) rfl ?_; clear hE a; intro a hE
                obtain ⟨x153, hx154, hq129⟩ := bindS hq129
                obtain ⟨hi155, hlt156, hy157⟩ := gx_some hx154
                obtain ⟨vs158, hl159, hR160, hd161, hget162⟩ := hev152.at hy157
                subst hR160
                refine WL.vS hS hE (runs_plain rfl) (Gives.idx hE ((w64 (((x143).length : Int) - 1)).toNat) rfl rfl sl22 hi155 hlt156 (hS.nnAok 1 rfl hd151 hlt156)) rfl ?_; clear hE a; intro a hE
                refine WL.vS hS hE (runs_plain rfl) (Gives.load1 hE rfl (fun w h => St.nnSees h 1 rfl hd151 ((w64 (((x143).length : Int) - 1)).toNat * 1) _ hget162) ty3) rfl ?_; clear hE a; intro a hE
                refine WL.vS hS hE (runs_plain rfl) (Gives.p hE rfl) rfl ?_; clear hE a; intro a hE
                refine WL.nil ?_
                refine W.seq ?_
                obtain ⟨q164, hq163, hq129⟩ := bindS hq129
                refine W.cut (fun a w => ∃ (q167 : Bool), q167 = q164 ∧ Rep a 113 [(0, .slice a0 x0.length c0), (1, .int .i64 x1), (7, .slice a120 q119.length c121), (9, .int .i64 x83), (10, .int .i64 q141), (11, .int .i64 ((k131 : Nat) : Int)), (21, .slice a55 q53.length c56), (22, .int .i64 ((q53.length : Nat) : Int)), (23, .int .i64 ((k65 : Nat) : Int)), (31, .int .i64 x93.Units), (32, .int .i64 q126), (34, .slice a120 q119.length c121), (35, .int .i64 ((q119.length : Nat) : Int)), (36, .int .i64 ((k131 : Nat) : Int)), (89, .bool q167)] ∧ St w s61 (vecC 3 1 a55 c56 q53.length cs58 :: nestC 22 3 1 a120 c121 q119.length ds123 :: R)) ?_ ?_
                · refine W.gen fun K168 hK168 => ?_
                  refine W.regionQ (C := fun w => St w s61 (vecC 3 1 a55 c56 q53.length cs58 :: nestC 22 3 1 a120 c121 q119.length ds123 :: R)) mixed (by kernel_rfl) hS.drew ?_
                  refine QL.v hE (runs_plain rfl) (Gives.p hE rfl) rfl ?_; clear hE a; intro a hE
                  refine QL.v hE (runs_plain rfl) (Gives.p hE rfl) rfl ?_; clear hE a; intro a hE
                  refine QL.v hE (runs_plain rfl) (Gives.p hE rfl) rfl ?_; clear hE a; intro a hE
                  refine QL.v hE (runs_plain rfl) (Gives.p hE rfl) rfl ?_; clear hE a; intro a hE
                  rcases Bool.eq_false_or_eq_true (x153 != x83) with hg169 | hg169
                  · replace hq163 := iteT hg169 hq163
                    refine QL.v hE (runs_if hE rfl rfl rfl hg169) (Gives.p hE rfl) rfl ?_; clear hE a; intro a hE
                    refine QL.v hE (runs_if hE rfl rfl rfl hg169) (Gives.p hE rfl) rfl ?_; clear hE a; intro a hE
                    obtain ⟨x170, hx171, hq163⟩ := bindS hq163
                    obtain ⟨hi172, hlt173, hy174⟩ := gx_some hx171
                    obtain ⟨cs175, hl176, hR177, hat178⟩ := h0.at hy174
                    subst hR177
                    refine QL.v hE (runs_if hE rfl rfl rfl hg169) (Gives.idx hE (x153).toNat rfl rfl sl33 hi172 hlt173 (h0.aok hlt173)) rfl ?_; clear hE a; intro a hE
                    refine QL.v hE (runs_if hE rfl rfl rfl hg169) (Gives.loadA hE rfl (fun w h => hat178 w _ h) ty84) rfl ?_; clear hE a; intro a hE
                    refine QL.v hE (runs_if hE rfl rfl rfl hg169) (Gives.p hE rfl) rfl ?_; clear hE a; intro a hE
                    refine QL.v hE (runs_if hE rfl rfl rfl hg169) (Gives.p hE rfl) rfl ?_; clear hE a; intro a hE
                    obtain ⟨x179, hx180, hq163⟩ := bindS hq163
                    obtain ⟨hi181, hlt182, hy183⟩ := gx_some hx180
                    obtain ⟨cs184, hl185, hR186, hat187⟩ := h0.at hy183
                    subst hR186
                    refine QL.v hE (runs_if hE rfl rfl rfl hg169) (Gives.idx hE (x83).toNat rfl rfl sl33 hi181 hlt182 (h0.aok hlt182)) rfl ?_; clear hE a; intro a hE
                    refine QL.v hE (runs_if hE rfl rfl rfl hg169) (Gives.loadA hE rfl (fun w h => hat187 w _ h) ty84) rfl ?_; clear hE a; intro a hE
                    refine QL.v hE (runs_if hE rfl rfl rfl hg169) (Gives.p hE rfl) rfl ?_; clear hE a; intro a hE
                    refine QL.fn hE (fun w hS => Fleetfollows_ok hS  rfl) (runs_if hE rfl rfl rfl hg169) bd65 rfl rfl ?_; clear hE a; intro a hE
                    refine QL.v hE (runs_plain rfl) (Gives.pickT hE rfl hg169 rfl) rfl ?_; clear hE a; intro a hE
                    refine QL.v hE (runs_plain rfl) (Gives.p hE rfl) rfl ?_; clear hE a; intro a hE
                    rcases Bool.eq_false_or_eq_true (Fleetfollows x170 x179 x1) with hg188 | hg188
                    · replace hq163 := iteT hg188 hq163
                      refine QL.v hE (runs_if hE rfl rfl rfl hg188) (Gives.p hE rfl) rfl ?_; clear hE a; intro a hE
                      refine QL.v hE (runs_if hE rfl rfl rfl hg188) (Gives.p hE rfl) rfl ?_; clear hE a; intro a hE
                      refine QL.v hE (runs_if hE rfl rfl rfl hg188) (Gives.p hE rfl) rfl ?_; clear hE a; intro a hE
                      rcases Bool.eq_false_or_eq_true (decide (q141 < 0)) with hg189 | hg189
                      · replace hq163 := iteT hg189 hq163
                        refine QL.no hE (runs_not hE rfl rfl rfl (by rw [hg189]; decide)) rfl ?_; clear hE a; intro a hE
                        refine QL.no hE (runs_not hE rfl rfl rfl (by rw [hg189]; decide)) rfl ?_; clear hE a; intro a hE
                        refine QL.no hE (runs_not hE rfl rfl rfl (by rw [hg189]; decide)) rfl ?_; clear hE a; intro a hE
                        refine QL.no hE (runs_not hE rfl rfl rfl (by rw [hg189]; decide)) rfl ?_; clear hE a; intro a hE
                        refine QL.no hE (runs_not hE rfl rfl rfl (by rw [hg189]; decide)) rfl ?_; clear hE a; intro a hE
                        refine QL.no hE (runs_not hE rfl rfl rfl (by rw [hg189]; decide)) rfl ?_; clear hE a; intro a hE
                        refine QL.no hE (runs_not hE rfl rfl rfl (by rw [hg189]; decide)) rfl ?_; clear hE a; intro a hE
                        refine QL.no hE (runs_not hE rfl rfl rfl (by rw [hg189]; decide)) rfl ?_; clear hE a; intro a hE
                        refine QL.no hE (runs_not hE rfl rfl rfl (by rw [hg189]; decide)) rfl ?_; clear hE a; intro a hE
                        refine QL.no hE (runs_not hE rfl rfl rfl (by rw [hg189]; decide)) rfl ?_; clear hE a; intro a hE
                        refine QL.no hE (runs_not hE rfl rfl rfl (by rw [hg189]; decide)) rfl ?_; clear hE a; intro a hE
                        refine QL.no hE (runs_not hE rfl rfl rfl (by rw [hg189]; decide)) rfl ?_; clear hE a; intro a hE
                        refine QL.no hE (runs_not hE rfl rfl rfl (by rw [hg189]; decide)) rfl ?_; clear hE a; intro a hE
                        refine QL.no hE (runs_not hE rfl rfl rfl (by rw [hg189]; decide)) rfl ?_; clear hE a; intro a hE
                        refine QL.no hE (runs_not hE rfl rfl rfl (by rw [hg189]; decide)) rfl ?_; clear hE a; intro a hE
                        refine QL.no hE (runs_not hE rfl rfl rfl (by rw [hg189]; decide)) rfl ?_; clear hE a; intro a hE
                        refine QL.no hE (runs_not hE rfl rfl rfl (by rw [hg189]; decide)) rfl ?_; clear hE a; intro a hE
                        refine QL.no hE (runs_not hE rfl rfl rfl (by rw [hg189]; decide)) rfl ?_; clear hE a; intro a hE
                        refine QL.no hE (runs_not hE rfl rfl rfl (by rw [hg189]; decide)) rfl ?_; clear hE a; intro a hE
                        refine QL.no hE (runs_not hE rfl rfl rfl (by rw [hg189]; decide)) rfl ?_; clear hE a; intro a hE
                        refine QL.no hE (runs_not hE rfl rfl rfl (by rw [hg189]; decide)) rfl ?_; clear hE a; intro a hE
                        refine QL.no hE (runs_not hE rfl rfl rfl (by rw [hg189]; decide)) rfl ?_; clear hE a; intro a hE
                        refine QL.v hE (runs_if hE rfl rfl rfl hg188) (Gives.pickT hE rfl hg189 rfl) rfl ?_; clear hE a; intro a hE
                        refine QL.v hE (runs_plain rfl) (Gives.pickT hE rfl hg188 rfl) rfl ?_; clear hE a; intro a hE
                        refine QL.nil ?_; clear hS w; intro w hS
                        subst hK168
                        exact ⟨true, Option.some.inj hq163, hE.pick _ ⟨rfl, rfl, rfl, rfl, rfl, rfl, rfl, rfl, rfl, rfl, rfl, rfl, rfl, rfl, rfl, trivial⟩, hS⟩
                      · replace hq163 := iteF hg189 hq163
                        refine QL.v hE (runs_if hE rfl rfl rfl hg189) (Gives.p hE rfl) rfl ?_; clear hE a; intro a hE
                        refine QL.v hE (runs_if hE rfl rfl rfl hg189) (Gives.p hE rfl) rfl ?_; clear hE a; intro a hE
                        obtain ⟨x190, hx191, hq163⟩ := bindS hq163
                        obtain ⟨hi192, hlt193, hy194⟩ := gx_some hx191
                        obtain ⟨cs195, hl196, hR197, hat198⟩ := h0.at hy194
                        subst hR197
                        refine QL.v hE (runs_if hE rfl rfl rfl hg189) (Gives.idx hE (x153).toNat rfl rfl sl33 hi192 hlt193 (h0.aok hlt193)) rfl ?_; clear hE a; intro a hE
                        refine QL.v hE (runs_if hE rfl rfl rfl hg189) (Gives.fld hE rfl fl84_3) rfl ?_; clear hE a; intro a hE
                        refine QL.v hE (runs_if hE rfl rfl rfl hg189) (Gives.load1 hE rfl (fun w h => (hat198 w _ h).one rfl) ty3) rfl ?_; clear hE a; intro a hE
                        refine QL.v hE (runs_if hE rfl rfl rfl hg189) (Gives.p hE rfl) rfl ?_; clear hE a; intro a hE
                        refine QL.v hE (runs_if hE rfl rfl rfl hg189) (Gives.p hE rfl) rfl ?_; clear hE a; intro a hE
                        refine QL.v hE (runs_if hE rfl rfl rfl hg189) (Gives.p hE rfl) rfl ?_; clear hE a; intro a hE
                        obtain ⟨x199, hx200, hq163⟩ := bindS hq163
                        obtain ⟨hi201, hlt202, hy203⟩ := gx_some hx200
                        obtain ⟨a204, c205, cs206, hd207, hev208⟩ := h124.at hy203
                        refine QL.v hE (runs_if hE rfl rfl rfl hg189) (Gives.idx hE ((q141).toNat) rfl rfl sl23 hi201 (by omega) (hS.nAok 1 rfl (by omega : (q141).toNat < q119.length))) rfl ?_; clear hE a; intro a hE
                        refine QL.v hE (runs_if hE rfl rfl rfl hg189) (Gives.load1 (v := .slice a204 x199.length c205) hE rfl (fun w h => St.nSees h 1 rfl hd207) ty22) rfl ?_; clear hE a; intro a hE
                        refine QL.v hE (runs_if hE rfl rfl rfl hg189) (Gives.p hE rfl) rfl ?_; clear hE a; intro a hE
                        refine QL.v hE (runs_if hE rfl rfl rfl hg189) (Gives.p hE rfl) rfl ?_; clear hE a; intro a hE
                        obtain ⟨x209, hx210, hq163⟩ := bindS hq163
                        obtain ⟨hi211, hlt212, hy213⟩ := gx_some hx210
                        obtain ⟨a214, c215, cs216, hd217, hev218⟩ := h124.at hy213
                        refine QL.v hE (runs_if hE rfl rfl rfl hg189) (Gives.idx hE ((q141).toNat) rfl rfl sl23 hi211 (by omega) (hS.nAok 1 rfl (by omega : (q141).toNat < q119.length))) rfl ?_; clear hE a; intro a hE
                        refine QL.v hE (runs_if hE rfl rfl rfl hg189) (Gives.load1 (v := .slice a214 x209.length c215) hE rfl (fun w h => St.nSees h 1 rfl hd217) ty22) rfl ?_; clear hE a; intro a hE
                        refine QL.v hE (runs_if hE rfl rfl rfl hg189) (Gives.len hE rfl sl22) rfl ?_; clear hE a; intro a hE
                        refine QL.v hE (runs_if hE rfl rfl rfl hg189) (Gives.p hE rfl) rfl ?_; clear hE a; intro a hE
                        obtain ⟨x219, hx220, hq163⟩ := bindS hq163
                        obtain ⟨hi221, hlt222, hy223⟩ := gx_some hx220
                        obtain ⟨vs224, hl225, hR226, hd227, hget228⟩ := hev208.at hy223
                        subst hR226
                        refine QL.v hE (runs_if hE rfl rfl rfl hg189) (Gives.idx hE ((w64 (((x209).length : Int) - 1)).toNat) rfl rfl sl22 hi221 hlt222 (hS.nnAok 1 rfl hd207 hlt222)) rfl ?_; clear hE a; intro a hE
                        refine QL.v hE (runs_if hE rfl rfl rfl hg189) (Gives.load1 hE rfl (fun w h => St.nnSees h 1 rfl hd207 ((w64 (((x209).length : Int) - 1)).toNat * 1) _ hget228) ty3) rfl ?_; clear hE a; intro a hE
                        obtain ⟨x229, hx230, hq163⟩ := bindS hq163
                        obtain ⟨hi231, hlt232, hy233⟩ := gx_some hx230
                        obtain ⟨cs234, hl235, hR236, hat237⟩ := h0.at hy233
                        subst hR236
                        refine QL.v hE (runs_if hE rfl rfl rfl hg189) (Gives.idx hE (x219).toNat rfl rfl sl33 hi231 hlt232 (h0.aok hlt232)) rfl ?_; clear hE a; intro a hE
                        refine QL.v hE (runs_if hE rfl rfl rfl hg189) (Gives.fld hE rfl fl84_3) rfl ?_; clear hE a; intro a hE
                        refine QL.v hE (runs_if hE rfl rfl rfl hg189) (Gives.load1 hE rfl (fun w h => (hat237 w _ h).one rfl) ty3) rfl ?_; clear hE a; intro a hE
                        refine QL.v hE (runs_if hE rfl rfl rfl hg189) (Gives.p hE rfl) rfl ?_; clear hE a; intro a hE
                        refine QL.v hE (runs_if hE rfl rfl rfl hg188) (Gives.pickF hE rfl hg189 rfl) rfl ?_; clear hE a; intro a hE
                        refine QL.v hE (runs_plain rfl) (Gives.pickT hE rfl hg188 rfl) rfl ?_; clear hE a; intro a hE
                        refine QL.nil ?_; clear hS w; intro w hS
                        subst hK168
                        exact ⟨decide (x190.Arr < x229.Arr), Option.some.inj hq163, hE.pick _ ⟨rfl, rfl, rfl, rfl, rfl, rfl, rfl, rfl, rfl, rfl, rfl, rfl, rfl, rfl, rfl, trivial⟩, hS⟩
                    · replace hq163 := iteF hg188 hq163
                      refine QL.no hE (runs_not hE rfl rfl rfl (by rw [hg188]; decide)) rfl ?_; clear hE a; intro a hE
                      refine QL.no hE (runs_not hE rfl rfl rfl (by rw [hg188]; decide)) rfl ?_; clear hE a; intro a hE
                      refine QL.no hE (runs_not hE rfl rfl rfl (by rw [hg188]; decide)) rfl ?_; clear hE a; intro a hE
                      refine QL.no hE (runs_undef hE rfl rfl rfl) rfl ?_; clear hE a; intro a hE
                      refine QL.no hE (runs_undef hE rfl rfl rfl) rfl ?_; clear hE a; intro a hE
                      refine QL.no hE (runs_undef hE rfl rfl rfl) rfl ?_; clear hE a; intro a hE
                      refine QL.no hE (runs_undef hE rfl rfl rfl) rfl ?_; clear hE a; intro a hE
                      refine QL.no hE (runs_undef hE rfl rfl rfl) rfl ?_; clear hE a; intro a hE
                      refine QL.no hE (runs_undef hE rfl rfl rfl) rfl ?_; clear hE a; intro a hE
                      refine QL.no hE (runs_undef hE rfl rfl rfl) rfl ?_; clear hE a; intro a hE
                      refine QL.no hE (runs_undef hE rfl rfl rfl) rfl ?_; clear hE a; intro a hE
                      refine QL.no hE (runs_undef hE rfl rfl rfl) rfl ?_; clear hE a; intro a hE
                      refine QL.no hE (runs_undef hE rfl rfl rfl) rfl ?_; clear hE a; intro a hE
                      refine QL.no hE (runs_undef hE rfl rfl rfl) rfl ?_; clear hE a; intro a hE
                      refine QL.no hE (runs_undef hE rfl rfl rfl) rfl ?_; clear hE a; intro a hE
                      refine QL.no hE (runs_undef hE rfl rfl rfl) rfl ?_; clear hE a; intro a hE
                      refine QL.no hE (runs_undef hE rfl rfl rfl) rfl ?_; clear hE a; intro a hE
                      refine QL.no hE (runs_undef hE rfl rfl rfl) rfl ?_; clear hE a; intro a hE
                      refine QL.no hE (runs_undef hE rfl rfl rfl) rfl ?_; clear hE a; intro a hE
                      refine QL.no hE (runs_undef hE rfl rfl rfl) rfl ?_; clear hE a; intro a hE
                      refine QL.no hE (runs_undef hE rfl rfl rfl) rfl ?_; clear hE a; intro a hE
                      refine QL.no hE (runs_undef hE rfl rfl rfl) rfl ?_; clear hE a; intro a hE
                      refine QL.no hE (runs_undef hE rfl rfl rfl) rfl ?_; clear hE a; intro a hE
                      refine QL.no hE (runs_undef hE rfl rfl rfl) rfl ?_; clear hE a; intro a hE
                      refine QL.no hE (runs_undef hE rfl rfl rfl) rfl ?_; clear hE a; intro a hE
                      refine QL.no hE (runs_not hE rfl rfl rfl (by rw [hg188]; decide)) rfl ?_; clear hE a; intro a hE
                      refine QL.v hE (runs_plain rfl) (Gives.pickF hE rfl hg188 rfl) rfl ?_; clear hE a; intro a hE
                      refine QL.nil ?_; clear hS w; intro w hS
                      subst hK168
                      exact ⟨false, Option.some.inj hq163, hE.pick _ ⟨rfl, rfl, rfl, rfl, rfl, rfl, rfl, rfl, rfl, rfl, rfl, rfl, rfl, rfl, rfl, trivial⟩, hS⟩
                  · replace hq163 := iteF hg169 hq163
                    refine QL.no hE (runs_not hE rfl rfl rfl (by rw [hg169]; decide)) rfl ?_; clear hE a; intro a hE
                    refine QL.no hE (runs_not hE rfl rfl rfl (by rw [hg169]; decide)) rfl ?_; clear hE a; intro a hE
                    refine QL.no hE (runs_not hE rfl rfl rfl (by rw [hg169]; decide)) rfl ?_; clear hE a; intro a hE
                    refine QL.no hE (runs_not hE rfl rfl rfl (by rw [hg169]; decide)) rfl ?_; clear hE a; intro a hE
                    refine QL.no hE (runs_not hE rfl rfl rfl (by rw [hg169]; decide)) rfl ?_; clear hE a; intro a hE
                    refine QL.no hE (runs_not hE rfl rfl rfl (by rw [hg169]; decide)) rfl ?_; clear hE a; intro a hE
                    refine QL.no hE (runs_not hE rfl rfl rfl (by rw [hg169]; decide)) rfl ?_; clear hE a; intro a hE
                    refine QL.no hE (runs_not hE rfl rfl rfl (by rw [hg169]; decide)) rfl ?_; clear hE a; intro a hE
                    refine QL.no hE (runs_not hE rfl rfl rfl (by rw [hg169]; decide)) rfl ?_; clear hE a; intro a hE
                    refine QL.no hE (runs_not hE rfl rfl rfl (by rw [hg169]; decide)) rfl ?_; clear hE a; intro a hE
                    refine QL.v hE (runs_plain rfl) (Gives.pickF hE rfl hg169 rfl) rfl ?_; clear hE a; intro a hE
                    refine QL.v hE (runs_plain rfl) (Gives.p hE rfl) rfl ?_; clear hE a; intro a hE
                    refine QL.no hE (runs_not hE rfl rfl rfl (by decide)) rfl ?_; clear hE a; intro a hE
                    refine QL.no hE (runs_not hE rfl rfl rfl (by decide)) rfl ?_; clear hE a; intro a hE
                    refine QL.no hE (runs_not hE rfl rfl rfl (by decide)) rfl ?_; clear hE a; intro a hE
                    refine QL.no hE (runs_undef hE rfl rfl rfl) rfl ?_; clear hE a; intro a hE
                    refine QL.no hE (runs_undef hE rfl rfl rfl) rfl ?_; clear hE a; intro a hE
                    refine QL.no hE (runs_undef hE rfl rfl rfl) rfl ?_; clear hE a; intro a hE
                    refine QL.no hE (runs_undef hE rfl rfl rfl) rfl ?_; clear hE a; intro a hE
                    refine QL.no hE (runs_undef hE rfl rfl rfl) rfl ?_; clear hE a; intro a hE
                    refine QL.no hE (runs_undef hE rfl rfl rfl) rfl ?_; clear hE a; intro a hE
                    refine QL.no hE (runs_undef hE rfl rfl rfl) rfl ?_; clear hE a; intro a hE
                    refine QL.no hE (runs_undef hE rfl rfl rfl) rfl ?_; clear hE a; intro a hE
                    refine QL.no hE (runs_undef hE rfl rfl rfl) rfl ?_; clear hE a; intro a hE
                    refine QL.no hE (runs_undef hE rfl rfl rfl) rfl ?_; clear hE a; intro a hE
                    refine QL.no hE (runs_undef hE rfl rfl rfl) rfl ?_; clear hE a; intro a hE
                    refine QL.no hE (runs_undef hE rfl rfl rfl) rfl ?_; clear hE a; intro a hE
                    refine QL.no hE (runs_undef hE rfl rfl rfl) rfl ?_; clear hE a; intro a hE
                    refine QL.no hE (runs_undef hE rfl rfl rfl) rfl ?_; clear hE a; intro a hE
                    refine QL.no hE (runs_undef hE rfl rfl rfl) rfl ?_; clear hE a; intro a hE
                    refine QL.no hE (runs_undef hE rfl rfl rfl) rfl ?_; clear hE a; intro a hE
                    refine QL.no hE (runs_undef hE rfl rfl rfl) rfl ?_; clear hE a; intro a hE
                    refine QL.no hE (runs_undef hE rfl rfl rfl) rfl ?_; clear hE a; intro a hE
                    refine QL.no hE (runs_undef hE rfl rfl rfl) rfl ?_; clear hE a; intro a hE
                    refine QL.no hE (runs_undef hE rfl rfl rfl) rfl ?_; clear hE a; intro a hE
                    refine QL.no hE (runs_undef hE rfl rfl rfl) rfl ?_; clear hE a; intro a hE
                    refine QL.no hE (runs_undef hE rfl rfl rfl) rfl ?_; clear hE a; intro a hE
                    refine QL.no hE (runs_not hE rfl rfl rfl (by decide)) rfl ?_; clear hE a; intro a hE
                    refine QL.v hE (runs_plain rfl) (Gives.pickF hE rfl rfl rfl) rfl ?_; clear hE a; intro a hE
                    refine QL.nil ?_; clear hS w; intro w hS
                    subst hK168
                    exact ⟨false, Option.some.inj hq163, hE.pick _ ⟨rfl, rfl, rfl, rfl, rfl, rfl, rfl, rfl, rfl, rfl, rfl, rfl, rfl, rfl, rfl, trivial⟩, hS⟩
                · clear hE hS a w; rintro a w ⟨q167, rfl, hE, hS⟩
                  obtain ⟨q239, hq238, hq129⟩ := bndS hq129
                  refine W.cut (fun a w => ∃ (q242 : Int), q242 = q239 ∧ Rep a 113 [(0, .slice a0 x0.length c0), (1, .int .i64 x1), (7, .slice a120 q119.length c121), (9, .int .i64 x83), (10, .int .i64 q242), (21, .slice a55 q53.length c56), (22, .int .i64 ((q53.length : Nat) : Int)), (23, .int .i64 ((k65 : Nat) : Int)), (31, .int .i64 x93.Units), (32, .int .i64 q126), (34, .slice a120 q119.length c121), (35, .int .i64 ((q119.length : Nat) : Int)), (36, .int .i64 ((k131 : Nat) : Int))] ∧ St w s61 (vecC 3 1 a55 c56 q53.length cs58 :: nestC 22 3 1 a120 c121 q119.length ds123 :: R)) ?_ ?_
                  · refine W.gen fun K243 hK243 => ?_
                    refine W.cond hE rfl (fun hc244 => ?_) (fun hc244 => ?_)
                    · replace hq238 := iteT hc244 hq238
                      refine W.region ?_
                      refine WL.vS hS hE (runs_plain rfl) (Gives.p hE rfl) rfl ?_; clear hE a; intro a hE
                      refine WL.vS hS hE (runs_plain rfl) (Gives.p hE rfl) rfl ?_; clear hE a; intro a hE
                      refine WL.nil ?_
                      subst hK243
                      exact ⟨((k131 : Nat) : Int), hq238, hE.pick _ ⟨rfl, rfl, rfl, rfl, rfl, rfl, rfl, rfl, rfl, rfl, rfl, rfl, rfl, trivial⟩, hS⟩
                    · replace hq238 := iteF hc244 hq238
                      refine W.skip ?_
                      subst hK243
                      exact ⟨q141, hq238, hE.pick _ ⟨rfl, rfl, rfl, rfl, rfl, rfl, rfl, rfl, rfl, rfl, rfl, rfl, rfl, trivial⟩, hS⟩
                  · clear hE hS a w; rintro a w ⟨q242, rfl, hE, hS⟩
                    refine W.region ?_
                    refine WL.vS hS hE (runs_plain rfl) (Gives.inc hE rfl (by omega)) rfl ?_; clear hE a; intro a hE
                    refine WL.vS hS hE (runs_plain rfl) (Gives.p hE rfl) rfl ?_; clear hE a; intro a hE
                    refine WL.nil ?_
                    subst hK142
                    exact ⟨rest133, Nat.lt_succ_self _, rest133, k131 + 1, q242, rfl, (by omega), hq129, hE.pick _ ⟨rfl, rfl, rfl, rfl, rfl, rfl, rfl, rfl, rfl, rfl, rfl, rfl, rfl, trivial⟩, hS⟩
            · clear hE hS a w; rintro a w ⟨q141, rfl, hE, hS⟩
              refine W.seq ?_
              refine W.seq ?_
              refine W.region ?_
              refine WL.vS hS hE (runs_plain rfl) (Gives.p hE rfl) rfl ?_; clear hE a; intro a hE
              refine WL.vS hS hE (runs_plain rfl) (Gives.p hE rfl) rfl ?_; clear hE a; intro a hE
              refine WL.nil ?_
              obtain ⟨q246, hq245, hq113⟩ := bindS hq113
              refine W.cut (fun a w => ∃ (q249 : List (List Int)), ∃ (q256 : Int), ∃ (a250 : Option Addr), ∃ (c251 : Nat), ∃ (n252 : Nat), ∃ (ds253 : List In), (q249, q256) = q246 ∧ NEv 1 (RI .i64) s61 ds253 q249 ∧ q249.length = n252 ∧ Rep a 113 [(0, .slice a0 x0.length c0), (1, .int .i64 x1), (7, .slice a250 n252 c251), (9, .int .i64 x83), (10, .int .i64 q256), (21, .slice a55 q53.length c56), (22, .int .i64 ((q53.length : Nat) : Int)), (23, .int .i64 ((k65 : Nat) : Int)), (31, .int .i64 x93.Units), (32, .int .i64 q126)] ∧ St w s61 (vecC 3 1 a55 c56 q53.length cs58 :: nestC 22 3 1 a250 c251 n252 ds253 :: R)) ?_ ?_
              · refine W.gen fun K257 hK257 => ?_
                refine W.cond hE rfl (fun hc258 => ?_) (fun hc258 => ?_)
                · replace hq245 := iteT hc258 hq245
                  refine W.seq ?_
                  refine W.region ?_
                  refine WL.vS hS hE (runs_plain rfl) (Gives.p hE rfl) rfl ?_; clear hE a; intro a hE
                  refine WL.lit hE hS (e := 22) (es := 1) (vs := [(0, .slice none 0 0)]) (cs := [.slice none 0 0]) (runs_plain rfl) rfl (by kernel_rfl) rfl ?_; clear hE hS a w; intro b259 a w hE hS
                  replace hS := hS.vecNil 3 1
                  obtain ⟨x261, hx262, hq245⟩ := bindS hq245
                  replace hS := hS.front 1 rfl
                  refine WL.appND hE hS 1 rfl (runs_plain rfl) rfl rfl ap23 h124 rfl (Ev.nil) (rfl) hx262 rfl ?_; clear hE hS a w; intro a263 c264 ds265 a w h266 hE hS
                  refine WL.vS hS hE (runs_plain rfl) (Gives.p hE rfl) rfl ?_; clear hE a; intro a hE
                  refine WL.nil ?_
                  refine W.region ?_
                  refine WL.vS hS hE (runs_plain rfl) (Gives.p hE rfl) rfl ?_; clear hE a; intro a hE
                  refine WL.vS hS hE (runs_plain rfl) (Gives.len hE rfl sl23) rfl ?_; clear hE a; intro a hE
                  refine WL.vS hS hE (runs_plain rfl) (Gives.p hE rfl) rfl ?_; clear hE a; intro a hE
                  refine WL.vS hS hE (runs_plain rfl) (Gives.p hE rfl) rfl ?_; clear hE a; intro a hE
                  refine WL.nil ?_
                  subst hK257
                  exact ⟨x261, w64 (((x261.length : Nat) : Int) - 1), a263, c264, x261.length, ds265, Option.some.inj hq245, h266, (rfl), hE.pick _ ⟨rfl, rfl, rfl, rfl, rfl, rfl, rfl, rfl, rfl, rfl, trivial⟩, hS⟩
                · replace hq245 := iteF hc258 hq245
                  refine W.skip ?_
                  subst hK257
                  exact ⟨q119, q141, a120, c121, q119.length, ds123, Option.some.inj hq245, h124, rfl, hE.pick _ ⟨rfl, rfl, rfl, rfl, rfl, rfl, rfl, rfl, rfl, rfl, trivial⟩, hS⟩
              · clear hE hS a w; rintro a w ⟨q249, q256, a250, c251, n252, ds253, rfl, h254, rfl, hE, hS⟩
                dsimp only at hq113
                refine W.region ?_
                refine WL.vS hS hE (runs_plain rfl) (Gives.p hE rfl) rfl ?_; clear hE a; intro a hE
                refine WL.vS hS hE (runs_plain rfl) (Gives.p hE rfl) rfl ?_; clear hE a; intro a hE
                refine WL.vS hS hE (runs_plain rfl) (Gives.p hE rfl) rfl ?_; clear hE a; intro a hE
                refine WL.vS hS hE (runs_plain rfl) (Gives.p hE rfl) rfl ?_; clear hE a; intro a hE
                obtain ⟨x267, hx268, hq113⟩ := bindS hq113
                obtain ⟨hi269, hlt270, hy271⟩ := gx_some hx268
                obtain ⟨a272, c273, cs274, hd275, hev276⟩ := h254.at hy271
                refine WL.vS hS hE (runs_plain rfl) (Gives.idx hE ((q256).toNat) rfl rfl sl23 hi269 (by omega) (hS.nAok 1 rfl (by omega : (q256).toNat < q249.length))) rfl ?_; clear hE a; intro a hE
                refine WL.vS hS hE (runs_plain rfl) (Gives.load1 (v := .slice a272 x267.length c273) hE rfl (fun w h => St.nSees h 1 rfl hd275) ty22) rfl ?_; clear hE a; intro a hE
                refine WL.vS hS hE (runs_plain rfl) (Gives.p hE rfl) rfl ?_; clear hE a; intro a hE
                refine WL.lit hE hS (e := 3) (es := 1) (vs := [(0, .int .i64 x83)]) (cs := [.int .i64 x83]) (runs_plain rfl) rfl (by kernel_rfl) rfl ?_; clear hE hS a w; intro b277 a w hE hS
                replace hS := hS.borrowM 2 rfl hd275
                replace hS := hS.front 1 rfl
                obtain ⟨x279, hx280, hq113⟩ := bindS hq113
                refine WL.appD hE hS 0 (m := 1) (runs_plain rfl) rfl rfl rfl ap22 rfl hev276 (rfl) (xs := [x83]) (Ev.cons (c1 := [.int .i64 x83]) rfl rfl (Ev.nil)) rfl rfl hx280 rfl ?_; clear hE hS a w; intro a281 c282 cs283 a w h284 hE hS
                obtain ⟨_, hx285, hq113⟩ := bindS hq113
                obtain ⟨h286, h287⟩ := ix_some hx285
                refine WL.vS hS hE (runs_plain rfl) (Gives.idx hE ((q256).toNat) rfl rfl sl23 h286 (by omega) (hS.hAok 2 rfl (by omega : (q256).toNat < q249.length))) rfl ?_; clear hE a; intro a hE
                obtain ⟨x288, hx289, hq113⟩ := bindS hq113
                refine WL.storeND hE hS 1 rfl (runs_plain rfl) rfl rfl ty22 h254 rfl (by have := (sx_some hx289).1; omega) hx289 h284 (rfl) rfl ?_; clear hE hS a w; intro ds290 a w h291 hn292 hE hS
                refine WL.nil ?_
                refine W.region ?_
                refine WL.vS hS hE (runs_plain rfl) (Gives.p hE rfl) rfl ?_; clear hE a; intro a hE
                refine WL.vS hS hE (runs_plain rfl) (Gives.p hE rfl) rfl ?_; clear hE a; intro a hE
                refine WL.nil ?_
                subst hK127
                exact ⟨n115, Nat.lt_succ_self _, n115, x288, (w64 (q126 + 1)), a250, c251, q249.length, ds290, rfl, hq113, h291, hn292, hE.pick _ ⟨rfl, rfl, rfl, rfl, rfl, rfl, rfl, rfl, rfl, trivial⟩, hS⟩
          · replace hq113 := iteF hc128 hq113
            subst hK127
            refine W.exit rfl ?_
            exact ⟨q119, q126, a120, c121, q119.length, ds123, Option.some.inj hq113, h124, rfl, hE.pick _ ⟨rfl, rfl, rfl, rfl, rfl, rfl, trivial⟩, hS⟩
        · clear hE hS a w; rintro a w ⟨q119, q126, a120, c121, n122, ds123, rfl, h124, rfl, hE, hS⟩
          dsimp only at hq63
          refine W.region ?_
          refine WL.vS hS hE (runs_plain rfl) (Gives.inc hE rfl (by omega)) rfl ?_; clear hE a; intro a hE
          refine WL.vS hS hE (runs_plain rfl) (Gives.p hE rfl) rfl ?_; clear hE a; intro a hE
          refine WL.nil ?_
          subst hK82
          exact ⟨rest67, Nat.lt_succ_self _, rest67, k65 + 1, q119, a120, c121, q119.length, ds123, rfl, (by omega), hq63, h124, rfl, hE.pick _ ⟨rfl, rfl, rfl, rfl, rfl, rfl, trivial⟩, hS⟩
    · clear hE hS a w; rintro a w ⟨q75, a76, c77, n78, ds79, rfl, h80, rfl, hE, hS⟩
      refine W.seq ?_
      refine W.region ?_
      refine WL.vS hS hE (runs_plain rfl) (Gives.p hE rfl) rfl ?_; clear hE a; intro a hE
      refine WL.vS hS hE (runs_plain rfl) (Gives.p hE rfl) rfl ?_; clear hE a; intro a hE
      refine WL.vS hS hE (runs_plain rfl) (Gives.p hE rfl) rfl ?_; clear hE a; intro a hE
      refine WL.nil ?_
      refine W.ret ?_
      have hF := hS.fixN RI.mono 1 rfl h80 rfl; clear hS; obtain ⟨s293, hle294, hS, h295⟩ := hF
      replace h59 := Ev.mono RI.mono hle294 h59
      refine finG (fn := Try.f47) (rs := [.tmp 4, .tmp 5]) (vs := [_, _]) hE rfl ⟨rfl, rfl, trivial⟩ ?_
      obtain rfl := Option.some.inj hr
      replace hS := hS.tail
      exact ⟨a76, c77, s293, rfl, (Sg.Le.trans hle62 hle294), h295, hS⟩
set_option maxHeartbeats 8000000 in
theorem SlicesEqualLint_ok  {w : World} {s : Sg} {R : List HP} {x0 : List Int} {a0 : Option Addr} {c0 : Nat} {x1 : List Int} {a1 : Option Addr} {c1 : Nat} (hS : St w s (R)) (h0 : Sl 1 (RI .i64) s a0 c0 x0) (h1 : Sl 1 (RI .i64) s a1 c1 x1) {r : Bool} (hr : SlicesEqualLint x0 x1 = some r) :
    Calls Try.prog 24 [.slice a0 x0.length c0, .slice a1 x1.length c1].toArray w (fun e w => e = .returned (.bool r) ∧ St w s (R)) := by
  refine enter Try.func24 rfl rfl rfl fun a hE => ?_
  rw [SlicesEqualLint] at hr
  refine W.seq ?_
  refine W.region ?_
  refine WL.vS hS hE (runs_plain rfl) (Gives.p hE rfl) rfl ?_; clear hE a; intro a hE
  refine WL.nil ?_
  refine W.seq ?_
  refine W.seq ?_
  refine W.region ?_
  refine WL.vS hS hE (runs_plain rfl) (Gives.p hE rfl) rfl ?_; clear hE a; intro a hE
  refine WL.vS hS hE (runs_plain rfl) (Gives.len hE rfl sl22) rfl ?_; clear hE a; intro a hE
  refine WL.vS hS hE (runs_plain rfl) (Gives.p hE rfl) rfl ?_; clear hE a; intro a hE
  refine WL.vS hS hE (runs_plain rfl) (Gives.len hE rfl sl22) rfl ?_; clear hE a; intro a hE
  refine WL.vS hS hE (runs_plain rfl) (Gives.p hE rfl) rfl ?_; clear hE a; intro a hE
  refine WL.nil ?_
  refine W.cond hE rfl (fun hc51 => ?_) (fun hc51 => ?_)
  · replace hr := iteT hc51 hr
    refine W.seq ?_
    refine W.region ?_
    refine WL.vS hS hE (runs_plain rfl) (Gives.p hE rfl) rfl ?_; clear hE a; intro a hE
    refine WL.nil ?_
    refine W.ret ?_
    refine finG (fn := Try.f24) (rs := [.tmp 4]) (vs := [_]) hE rfl ⟨rfl, trivial⟩ ?_
    obtain rfl := Option.some.inj hr
    exact ⟨rfl, hS⟩
  · replace hr := iteF hc51 hr
    refine W.skip ?_
    refine W.seq ?_
    refine W.seq ?_
    refine W.region ?_
    refine WL.vS hS hE (runs_plain rfl) (Gives.p hE rfl) rfl ?_; clear hE a; intro a hE
    refine WL.vS hS hE (runs_plain rfl) (Gives.len hE rfl sl22) rfl ?_; clear hE a; intro a hE
    refine WL.vS hS hE (runs_plain rfl) (Gives.p hE rfl) rfl ?_; clear hE a; intro a hE
    refine WL.nil ?_
    obtain ⟨q53, hq52, hr⟩ := bindS hr
    refine W.cut (fun a w => (.next ()) = q53 ∧ Rep a 26 [] ∧ St w s (R)) ?_ ?_
    · refine W.block ?_
      refine W.loop (fun m a w => ∃ (rest56 : List Int) (k54 : Nat), rest56.length = m ∧ x0.drop k54 = rest56 ∧ SlicesEqualLint.loop1 x1 rest56 k54 = some q53 ∧ Rep a 26 [(0, .slice a0 x0.length c0), (1, .slice a1 x1.length c1), (12, .int .i64 ((x0).length : Int)), (13, .int .i64 ((k54 : Nat) : Int))] ∧ St w s (R)) (m := x0.length) ⟨x0, 0, rfl, rfl, hq52, hE.pick _ ⟨rfl, rfl, rfl, rfl, trivial⟩, hS⟩ ?_
      clear hE hS a w hq52; rintro m60 a w ⟨rest56, k54, rfl, hd57, hq52, hE, hS⟩
      refine W.gen fun K63 hK63 => ?_
      rcases rest56 with _ | ⟨x55, rest56⟩
      · have hlt58 := drop_nil hd57
        refine W.seq ?_
        refine W.region ?_
        refine WL.vS hS hE (runs_plain rfl) (Gives.p hE rfl) rfl ?_; clear hE a; intro a hE
        refine WL.nil ?_
        refine W.seq ?_
        refine W.condF hE rfl (decide_eq_false (by omega)) ?_
        subst hK63
        refine W.exit rfl ?_
        exact ⟨Option.some.inj hq52, hE.pick _ trivial, hS⟩
      · obtain ⟨hlt58, hx59, hd57⟩ := drop_cons hd57
        rw [SlicesEqualLint.loop1] at hq52
        refine W.seq ?_
        refine W.region ?_
        refine WL.vS hS hE (runs_plain rfl) (Gives.p hE rfl) rfl ?_; clear hE a; intro a hE
        refine WL.nil ?_
        refine W.seq ?_
        refine W.condT hE rfl (decide_eq_true (by omega)) ?_
        refine W.skip ?_
        refine W.seq ?_
        refine W.block ?_
        refine W.seq ?_
        refine W.region ?_
        refine WL.vS hS hE (runs_plain rfl) (Gives.p hE rfl) rfl ?_; clear hE a; intro a hE
        refine WL.vS hS hE (runs_plain rfl) (Gives.p hE rfl) rfl ?_; clear hE a; intro a hE
        refine WL.nil ?_
        refine W.seq ?_
        refine W.regionQ (C := fun w => St w s (R)) mixed (by kernel_rfl) hS.drew ?_
        refine QL.v hE (runs_plain rfl) (Gives.p hE rfl) rfl ?_; clear hE a; intro a hE
        refine QL.v hE (runs_plain rfl) (Gives.p hE rfl) rfl ?_; clear hE a; intro a hE
        obtain ⟨cs64, hl65, hR66, hat67⟩ := h0.at hx59
        subst hR66
        refine QL.v hE (runs_plain rfl) (Gives.idx hE k54 rfl rfl sl22 rfl hlt58 (h0.aok hlt58)) rfl ?_; clear hE a; intro a hE
        refine QL.v hE (runs_plain rfl) (Gives.load1 hE rfl (fun w h => hat67 w _ h) ty3) rfl ?_; clear hE a; intro a hE
        refine QL.v hE (runs_plain rfl) (Gives.p hE rfl) rfl ?_; clear hE a; intro a hE
        refine QL.v hE (runs_plain rfl) (Gives.p hE rfl) rfl ?_; clear hE a; intro a hE
        obtain ⟨x68, hx69, hq52⟩ := bindS hq52
        obtain ⟨hi70, hlt71, hy72⟩ := gx_some hx69
        obtain ⟨cs73, hl74, hR75, hat76⟩ := h1.at hy72
        subst hR75
        refine QL.v hE (runs_plain rfl) (Gives.idx hE (((k54 : Nat) : Int)).toNat rfl rfl sl22 hi70 hlt71 (h1.aok hlt71)) rfl ?_; clear hE a; intro a hE
        refine QL.v hE (runs_plain rfl) (Gives.load1 hE rfl (fun w h => hat76 w _ h) ty3) rfl ?_; clear hE a; intro a hE
        refine QL.v hE (runs_plain rfl) (Gives.p hE rfl) rfl ?_; clear hE a; intro a hE
        refine QL.nil ?_; clear hS w; intro w hS
        refine W.cond hE rfl (fun hc77 => ?_) (fun hc77 => ?_)
        · replace hq52 := iteT hc77 hq52
          refine W.seq ?_
          refine W.region ?_
          refine WL.vS hS hE (runs_plain rfl) (Gives.p hE rfl) rfl ?_; clear hE a; intro a hE
          refine WL.nil ?_
          refine W.ret ?_
          subst hK63
          rw [← Option.some.inj hq52] at hr
          dsimp only at hr
          refine finG (fn := Try.f24) (rs := [.tmp 4]) (vs := [_]) hE rfl ⟨rfl, trivial⟩ ?_
          obtain rfl := Option.some.inj hr
          exact ⟨rfl, hS⟩
        · replace hq52 := iteF hc77 hq52
          refine W.skip ?_
          refine W.region ?_
          refine WL.vS hS hE (runs_plain rfl) (Gives.inc hE rfl (by have := h0.small; omega)) rfl ?_; clear hE a; intro a hE
          refine WL.vS hS hE (runs_plain rfl) (Gives.p hE rfl) rfl ?_; clear hE a; intro a hE
          refine WL.nil ?_
          subst hK63
          exact ⟨rest56.length, Nat.lt_succ_self _, rest56, k54 + 1, rfl, hd57, hq52, hE.pick _ ⟨rfl, rfl, rfl, rfl, trivial⟩, hS⟩
    · clear hE hS a w; rintro a w ⟨rfl, hE, hS⟩
      dsimp only at hr
      refine W.seq ?_
      refine W.region ?_
      refine WL.vS hS hE (runs_plain rfl) (Gives.p hE rfl) rfl ?_; clear hE a; intro a hE
      refine WL.nil ?_
      refine W.ret ?_
      refine finG (fn := Try.f24) (rs := [.tmp 4]) (vs := [_]) hE rfl ⟨rfl, trivial⟩ ?_
      obtain rfl := Option.some.inj hr
      exact ⟨rfl, hS⟩
set_option maxHeartbeats 8000000 in
theorem SlicesEqualFuncLLint_v1_ok  {w : World} {s : Sg} {R : List HP} {x0 : List (List Int)} {a0 : Option Addr} {c0 : Nat} {x1 : List (List Int)} {a1 : Option Addr} {c1 : Nat} (hS : St w s (R)) (h0 : Sl 1 (RL 1 (RI .i64)) s a0 c0 x0) (h1 : Sl 1 (RL 1 (RI .i64)) s a1 c1 x1) {r : Bool} (hr : SlicesEqualFuncLLint_v1 x0 x1 = some r) :
    Calls Try.prog 57 [.slice a0 x0.length c0, .slice a1 x1.length c1, .func (.func 24) #[] #[]].toArray w (fun e w => e = .returned (.bool r) ∧ St w s (R)) := by
  refine enter Try.func57 rfl rfl rfl fun a hE => ?_
  rw [SlicesEqualFuncLLint_v1] at hr
  refine W.seq ?_
  refine W.region ?_
  refine WL.vS hS hE (runs_plain rfl) (Gives.p hE rfl) rfl ?_; clear hE a; intro a hE
  refine WL.nil ?_
  refine W.seq ?_
  refine W.seq ?_
  refine W.region ?_
  refine WL.vS hS hE (runs_plain rfl) (Gives.p hE rfl) rfl ?_; clear hE a; intro a hE
  refine WL.vS hS hE (runs_plain rfl) (Gives.len hE rfl sl23) rfl ?_; clear hE a; intro a hE
  refine WL.vS hS hE (runs_plain rfl) (Gives.p hE rfl) rfl ?_; clear hE a; intro a hE
  refine WL.vS hS hE (runs_plain rfl) (Gives.len hE rfl sl23) rfl ?_; clear hE a; intro a hE
  refine WL.vS hS hE (runs_plain rfl) (Gives.p hE rfl) rfl ?_; clear hE a; intro a hE
  refine WL.nil ?_
  refine W.cond hE rfl (fun hc51 => ?_) (fun hc51 => ?_)
  · replace hr := iteT hc51 hr
    refine W.seq ?_
    refine W.region ?_
    refine WL.vS hS hE (runs_plain rfl) (Gives.p hE rfl) rfl ?_; clear hE a; intro a hE
    refine WL.nil ?_
    refine W.ret ?_
    refine finG (fn := Try.f57) (rs := [.tmp 6]) (vs := [_]) hE rfl ⟨rfl, trivial⟩ ?_
    obtain rfl := Option.some.inj hr
    exact ⟨rfl, hS⟩
  · replace hr := iteF hc51 hr
    refine W.skip ?_
    refine W.seq ?_
    refine W.seq ?_
    refine W.region ?_
    refine WL.vS hS hE (runs_plain rfl) (Gives.p hE rfl) rfl ?_; clear hE a; intro a hE
    refine WL.vS hS hE (runs_plain rfl) (Gives.len hE rfl sl23) rfl ?_; clear hE a; intro a hE
    refine WL.vS hS hE (runs_plain rfl) (Gives.p hE rfl) rfl ?_; clear hE a; intro a hE
    refine WL.nil ?_
    obtain ⟨q53, hq52, hr⟩ := bindS hr
    refine W.cut (fun a w => (.next ()) = q53 ∧ Rep a 32 [] ∧ St w s (R)) ?_ ?_
    · refine W.block ?_
      refine W.loop (fun m a w => ∃ (rest56 : List (List Int)) (k54 : Nat), rest56.length = m ∧ x0.drop k54 = rest56 ∧ SlicesEqualFuncLLint_v1.loop1 x1 rest56 k54 = some q53 ∧ Rep a 32 [(1, .slice a1 x1.length c1), (2, .func (.func 24) #[] #[]), (15, .slice a0 x0.length c0), (16, .int .i64 ((x0).length : Int)), (17, .int .i64 ((k54 : Nat) : Int))] ∧ St w s (R)) (m := x0.length) ⟨x0, 0, rfl, rfl, hq52, hE.pick _ ⟨rfl, rfl, rfl, rfl, rfl, trivial⟩, hS⟩ ?_
      clear hE hS a w hq52; rintro m60 a w ⟨rest56, k54, rfl, hd57, hq52, hE, hS⟩
      refine W.gen fun K63 hK63 => ?_
      rcases rest56 with _ | ⟨x55, rest56⟩
      · have hlt58 := drop_nil hd57
        refine W.seq ?_
        refine W.region ?_
        refine WL.vS hS hE (runs_plain rfl) (Gives.p hE rfl) rfl ?_; clear hE a; intro a hE
        refine WL.nil ?_
        refine W.seq ?_
        refine W.condF hE rfl (decide_eq_false (by omega)) ?_
        subst hK63
        refine W.exit rfl ?_
        exact ⟨Option.some.inj hq52, hE.pick _ trivial, hS⟩
      · obtain ⟨hlt58, hx59, hd57⟩ := drop_cons hd57
        rw [SlicesEqualFuncLLint_v1.loop1] at hq52
        refine W.seq ?_
        refine W.region ?_
        refine WL.vS hS hE (runs_plain rfl) (Gives.p hE rfl) rfl ?_; clear hE a; intro a hE
        refine WL.nil ?_
        refine W.seq ?_
        refine W.condT hE rfl (decide_eq_true (by omega)) ?_
        refine W.skip ?_
        refine W.seq ?_
        refine W.block ?_
        refine W.seq ?_
        refine W.region ?_
        refine WL.vS hS hE (runs_plain rfl) (Gives.p hE rfl) rfl ?_; clear hE a; intro a hE
        obtain ⟨cs64, hl65, hR66, hat67⟩ := h0.at hx59
        obtain ⟨a68, c69, rfl, h70⟩ := hR66
        refine WL.vS hS hE (runs_plain rfl) (Gives.idx hE k54 rfl rfl sl23 rfl hlt58 (h0.aok hlt58)) rfl ?_; clear hE a; intro a hE
        refine WL.vS hS hE (runs_plain rfl) (Gives.load1 hE rfl (fun w h => hat67 w _ h) ty22) rfl ?_; clear hE a; intro a hE
        refine WL.vS hS hE (runs_plain rfl) (Gives.p hE rfl) rfl ?_; clear hE a; intro a hE
        refine WL.vS hS hE (runs_plain rfl) (Gives.p hE rfl) rfl ?_; clear hE a; intro a hE
        refine WL.nil ?_
        refine W.seq ?_
        refine W.region ?_
        refine WL.vS hS hE (runs_plain rfl) (Gives.p hE rfl) rfl ?_; clear hE a; intro a hE
        refine WL.vS hS hE (runs_plain rfl) (Gives.p hE rfl) rfl ?_; clear hE a; intro a hE
        obtain ⟨x71, hx72, hq52⟩ := bindS hq52
        obtain ⟨hi73, hlt74, hy75⟩ := gx_some hx72
        obtain ⟨cs76, hl77, hR78, hat79⟩ := h1.at hy75
        obtain ⟨a80, c81, rfl, h82⟩ := hR78
        refine WL.vS hS hE (runs_plain rfl) (Gives.idx hE (((k54 : Nat) : Int)).toNat rfl rfl sl23 hi73 hlt74 (h1.aok hlt74)) rfl ?_; clear hE a; intro a hE
        refine WL.vS hS hE (runs_plain rfl) (Gives.load1 hE rfl (fun w h => hat79 w _ h) ty22) rfl ?_; clear hE a; intro a hE
        refine WL.vS hS hE (runs_plain rfl) (Gives.p hE rfl) rfl ?_; clear hE a; intro a hE
        refine WL.nil ?_
        refine W.seq ?_
        refine W.region ?_
        refine WL.vS hS hE (runs_plain rfl) (Gives.p hE rfl) rfl ?_; clear hE a; intro a hE
        refine WL.vS hS hE (runs_plain rfl) (Gives.p hE rfl) rfl ?_; clear hE a; intro a hE
        refine WL.vS hS hE (runs_plain rfl) (Gives.p hE rfl) rfl ?_; clear hE a; intro a hE
        obtain ⟨q83, hq84, hq52⟩ := bindS hq52
        refine WL.fnv hE (vs := [.slice a68 x55.length c69, .slice a80 x71.length c81]) (cs := []) rfl (SlicesEqualLint_ok hS h70 h82 hq84) (runs_plain rfl) bd24 rfl rfl ?_
        clear hE hS; rintro e w ⟨rfl, hS⟩; refine ⟨_, rfl, ?_⟩; clear a; intro a hE
        refine WL.vS hS hE (runs_plain rfl) (Gives.p hE rfl) rfl ?_; clear hE a; intro a hE
        refine WL.nil ?_
        refine W.cond hE rfl (fun hc85 => ?_) (fun hc85 => ?_)
        · replace hq52 := iteT hc85 hq52
          refine W.seq ?_
          refine W.region ?_
          refine WL.vS hS hE (runs_plain rfl) (Gives.p hE rfl) rfl ?_; clear hE a; intro a hE
          refine WL.nil ?_
          refine W.ret ?_
          subst hK63
          rw [← Option.some.inj hq52] at hr
          dsimp only at hr
          refine finG (fn := Try.f57) (rs := [.tmp 6]) (vs := [_]) hE rfl ⟨rfl, trivial⟩ ?_
          obtain rfl := Option.some.inj hr
          exact ⟨rfl, hS⟩
        · replace hq52 := iteF hc85 hq52
          refine W.skip ?_
          refine W.region ?_
          refine WL.vS hS hE (runs_plain rfl) (Gives.inc hE rfl (by have := h0.small; omega)) rfl ?_; clear hE a; intro a hE
          refine WL.vS hS hE (runs_plain rfl) (Gives.p hE rfl) rfl ?_; clear hE a; intro a hE
          refine WL.nil ?_
          subst hK63
          exact ⟨rest56.length, Nat.lt_succ_self _, rest56, k54 + 1, rfl, hd57, hq52, hE.pick _ ⟨rfl, rfl, rfl, rfl, rfl, trivial⟩, hS⟩
    · clear hE hS a w; rintro a w ⟨rfl, hE, hS⟩
      dsimp only at hr
      refine W.seq ?_
      refine W.region ?_
      refine WL.vS hS hE (runs_plain rfl) (Gives.p hE rfl) rfl ?_; clear hE a; intro a hE
      refine WL.nil ?_
      refine W.ret ?_
      refine finG (fn := Try.f57) (rs := [.tmp 6]) (vs := [_]) hE rfl ⟨rfl, trivial⟩ ?_
      obtain rfl := Option.some.inj hr
      exact ⟨rfl, hS⟩
set_option maxHeartbeats 8000000 in
theorem Fishlaw2lists_ok  {w : World} {s : Sg} {R : List HP} {x0 : List (List Int)} {a0 : Option Addr} {c0 : Nat} {x1 : List (List Int)} {a1 : Option Addr} {c1 : Nat} (hS : St w s (R)) (h0 : Sl 1 (RL 1 (RI .i64)) s a0 c0 x0) (h1 : Sl 1 (RL 1 (RI .i64)) s a1 c1 x1) {r : Bool} (hr : Fishlaw2lists x0 x1 = some r) :
    Calls Try.prog 40 [.slice a0 x0.length c0, .slice a1 x1.length c1].toArray w (fun e w => e = .returned (.bool r) ∧ St w s (R)) := by
  refine enter Try.func40 rfl rfl rfl fun a hE => ?_
  rw [Fishlaw2lists] at hr
  refine W.seq ?_
  refine W.region ?_
  refine WL.vS hS hE (runs_plain rfl) (Gives.p hE rfl) rfl ?_; clear hE a; intro a hE
  refine WL.nil ?_
  refine W.seq ?_
  refine W.region ?_
  refine WL.vS hS hE (runs_plain rfl) (Gives.p hE rfl) rfl ?_; clear hE a; intro a hE
  refine WL.vS hS hE (runs_plain rfl) (Gives.p hE rfl) rfl ?_; clear hE a; intro a hE
  obtain ⟨q51, hq52, hr⟩ := bindS hr
  refine WL.fn hE (SlicesEqualFuncLLint_v1_ok hS h0 h1 hq52) (runs_plain rfl) bd57 rfl rfl ?_
  clear hE hS; rintro e w ⟨rfl, hS⟩; refine ⟨_, rfl, ?_⟩; clear a; intro a hE
  refine WL.vS hS hE (runs_plain rfl) (Gives.p hE rfl) rfl ?_; clear hE a; intro a hE
  refine WL.nil ?_
  refine W.ret ?_
  refine finG (fn := Try.f40) (rs := [.tmp 4]) (vs := [_]) hE rfl ⟨rfl, trivial⟩ ?_
  obtain rfl := Option.some.inj hr
  exact ⟨rfl, hS⟩
set_option maxHeartbeats 8000000 in
theorem Fishlaw2sets_ok {fu : Nat}  {w : World} {s : Sg} {R : List HP}  (hS : St w s (R))  {r : Bool} (hr : Fishlaw2sets fu = some r) :
    Calls Try.prog 33 [].toArray w (fun e w => e = .returned (.bool r) ∧ St w s (R)) := by
  refine enter Try.func33 rfl rfl rfl fun a hE => ?_
  rw [Fishlaw2sets] at hr
  refine W.seq ?_
  refine W.region ?_
  refine WL.vS hS hE (runs_plain rfl) (Gives.p hE rfl) rfl ?_; clear hE a; intro a hE
  refine WL.nil ?_
  refine W.seq ?_
  refine W.region ?_
  refine WL.vS hS hE (runs_plain rfl) (Gives.build hE (vs := [(0, .int .i64 0), (1, .int .i64 1), (2, .int .i64 10), (3, .int .i64 20), (5, .int .i64 1)]) [.int .i64 0, .int .i64 1, .int .i64 10, .int .i64 20, .int .i64 0, .int .i64 1] rfl (by kernel_rfl)) rfl ?_; clear hE a; intro a hE
  refine WL.vS hS hE (runs_plain rfl) (Gives.build hE (vs := [(0, .int .i64 0), (1, .int .i64 1), (2, .int .i64 30), (3, .int .i64 40), (5, .int .i64 1)]) [.int .i64 0, .int .i64 1, .int .i64 30, .int .i64 40, .int .i64 0, .int .i64 1] rfl (by kernel_rfl)) rfl ?_; clear hE a; intro a hE
  refine WL.vS hS hE (runs_plain rfl) (Gives.build hE (vs := [(0, .int .i64 1), (1, .int .i64 0), (2, .int .i64 25), (3, .int .i64 29), (5, .int .i64 1)]) [.int .i64 1, .int .i64 0, .int .i64 25, .int .i64 29, .int .i64 0, .int .i64 1] rfl (by kernel_rfl)) rfl ?_; clear hE a; intro a hE
  refine WL.lit hE hS (e := 84) (es := 6) (vs := [(0, .agg [.int .i64 0, .int .i64 1, .int .i64 10, .int .i64 20, .int .i64 0, .int .i64 1].toArray), (1, .agg [.int .i64 0, .int .i64 1, .int .i64 30, .int .i64 40, .int .i64 0, .int .i64 1].toArray), (2, .agg [.int .i64 1, .int .i64 0, .int .i64 25, .int .i64 29, .int .i64 0, .int .i64 1].toArray)]) (cs := [.int .i64 0, .int .i64 1, .int .i64 10, .int .i64 20, .int .i64 0, .int .i64 1, .int .i64 0, .int .i64 1, .int .i64 30, .int .i64 40, .int .i64 0, .int .i64 1, .int .i64 1, .int .i64 0, .int .i64 25, .int .i64 29, .int .i64 0, .int .i64 1]) (runs_plain rfl) rfl (by kernel_rfl) rfl ?_; clear hE hS a w; intro b51 a w hE hS
  replace hS := hS.ptVec (es := 6) (m := 3) rfl (by decide)
  have h53 : Ev 6 RFleetTask s [.int .i64 0, .int .i64 1, .int .i64 10, .int .i64 20, .int .i64 0, .int .i64 1, .int .i64 0, .int .i64 1, .int .i64 30, .int .i64 40, .int .i64 0, .int .i64 1, .int .i64 1, .int .i64 0, .int .i64 25, .int .i64 29, .int .i64 0, .int .i64 1] [(FleetTask.mk 0 1 10 20 0 1), (FleetTask.mk 0 1 30 40 0 1), (FleetTask.mk 1 0 25 29 0 1)] := (Ev.cons (c1 := [.int .i64 0, .int .i64 1, .int .i64 10, .int .i64 20, .int .i64 0, .int .i64 1]) rfl rfl (Ev.cons (c1 := [.int .i64 0, .int .i64 1, .int .i64 30, .int .i64 40, .int .i64 0, .int .i64 1]) rfl rfl (Ev.cons (c1 := [.int .i64 1, .int .i64 0, .int .i64 25, .int .i64 29, .int .i64 0, .int .i64 1]) rfl rfl (Ev.nil))))
  have hF := hS.fixD RFleetTask.mono 0 rfl h53 (rfl); clear hS; obtain ⟨s54, hle55, hS, h56⟩ := hF
  refine WL.vS hS hE (runs_plain rfl) (Gives.p hE rfl) rfl ?_; clear hE a; intro a hE
  refine WL.nil ?_
  refine W.seq ?_
  refine W.region ?_
  refine WL.vS hS hE (runs_plain rfl) (Gives.p hE rfl) rfl ?_; clear hE a; intro a hE
  obtain ⟨q57, hq58, hr⟩ := bindS hr
  refine WL.fn hE (FleetTurns_ok hS h56 hq58) (runs_plain rfl) bd47 rfl rfl ?_
  clear hE hS; rintro e w ⟨a59, c60, s62, rfl, hle63, h61, hS⟩; refine ⟨_, rfl, ?_⟩; clear a; intro a hE
  replace h56 := Sl.mono RFleetTask.mono hle63 h56
  refine WL.vS hS hE (runs_plain rfl) (Gives.p hE rfl) rfl ?_; clear hE a; intro a hE
  refine WL.vS hS hE (runs_plain rfl) (Gives.p hE rfl) rfl ?_; clear hE a; intro a hE
  refine WL.vS hS hE (runs_plain rfl) (Gives.p hE rfl) rfl ?_; clear hE a; intro a hE
  refine WL.vS hS hE (runs_plain rfl) (Gives.p hE rfl) rfl ?_; clear hE a; intro a hE
  refine WL.vS hS hE (runs_plain rfl) (Gives.p hE rfl) rfl ?_; clear hE a; intro a hE
  refine WL.nil ?_
  refine W.seq ?_
  obtain ⟨q65, hq64, hr⟩ := bindS hr
  refine W.cut (fun a w => ∃ (q68 : Bool), ∃ (s66 : Sg), s62.Le s66 ∧ q68 = q65 ∧ Rep a 21 [(0, .bool q68)] ∧ St w s66 (R)) ?_ ?_
  · refine W.gen fun K69 hK69 => ?_
    refine W.region ?_
    refine WL.vS hS hE (runs_plain rfl) (Gives.p hE rfl) rfl ?_; clear hE a; intro a hE
    refine WL.vS hS hE (runs_plain rfl) (Gives.p hE rfl) rfl ?_; clear hE a; intro a hE
    refine WL.vS hS hE (runs_plain rfl) (Gives.p hE rfl) rfl ?_; clear hE a; intro a hE
    rcases Bool.eq_false_or_eq_true (q57.2 == 0) with hg70 | hg70
    · replace hq64 := iteT hg70 hq64
      refine WL.vS hS hE (runs_if hE rfl rfl rfl hg70) (Gives.p hE rfl) rfl ?_; clear hE a; intro a hE
      refine WL.lit hE hS (e := 3) (es := 1) (vs := [(0, .int .i64 0), (1, .int .i64 2), (2, .int .i64 1)]) (cs := [.int .i64 0, .int .i64 2, .int .i64 1]) (runs_if hE rfl rfl rfl hg70) rfl (by kernel_rfl) rfl ?_; clear hE hS a w; intro b71 a w hE hS
      replace hS := hS.ptVec (es := 1) (m := 3) rfl (by decide)
      have h73 : Ev 1 (RI .i64) s62 [.int .i64 0, .int .i64 2, .int .i64 1] [0, 2, 1] := (Ev.cons (c1 := [.int .i64 0]) rfl rfl (Ev.cons (c1 := [.int .i64 2]) rfl rfl (Ev.cons (c1 := [.int .i64 1]) rfl rfl (Ev.nil))))
      have hF := hS.fixD RI.mono 0 rfl h73 (rfl); clear hS; obtain ⟨s74, hle75, hS, h76⟩ := hF
      replace h56 := Sl.mono RFleetTask.mono hle75 h56
      replace h61 := Sl.mono (RL.mono RI.mono) hle75 h61
      refine WL.lit hE hS (e := 22) (es := 1) (vs := [(0, .slice (some ⟨b71, 0, none⟩) 3 3)]) (cs := [.slice (some ⟨b71, 0, none⟩) 3 3]) (runs_if hE rfl rfl rfl hg70) rfl (by kernel_rfl) rfl ?_; clear hE hS a w; intro b77 a w hE hS
      replace hS := hS.ptVec (es := 1) (m := 1) rfl (by decide)
      have h79 : Ev 1 (RL 1 (RI .i64)) s74 [.slice (some ⟨b71, 0, none⟩) 3 3] [[0, 2, 1]] := (Ev.cons (c1 := [.slice (some ⟨b71, 0, none⟩) 3 3]) ⟨_, _, rfl, h76⟩ rfl (Ev.nil))
      have hF := hS.fixD (RL.mono RI.mono) 0 rfl h79 (rfl); clear hS; obtain ⟨s80, hle81, hS, h82⟩ := hF
      replace h56 := Sl.mono RFleetTask.mono hle81 h56
      replace h61 := Sl.mono (RL.mono RI.mono) hle81 h61
      replace h76 := Sl.mono RI.mono hle81 h76
      obtain ⟨q83, hq84, hq64⟩ := bindS hq64
      refine WL.fn hE (Fishlaw2lists_ok hS h61 h82 hq84) (runs_if hE rfl rfl rfl hg70) bd40 rfl rfl ?_
      clear hE hS; rintro e w ⟨rfl, hS⟩; refine ⟨_, rfl, ?_⟩; clear a; intro a hE
      refine WL.vS hS hE (runs_plain rfl) (Gives.pickT hE rfl hg70 rfl) rfl ?_; clear hE a; intro a hE
      refine WL.vS hS hE (runs_plain rfl) (Gives.p hE rfl) rfl ?_; clear hE a; intro a hE
      refine WL.nil ?_
      subst hK69
      exact ⟨q83, s80, (Sg.Le.trans hle75 hle81), Option.some.inj hq64, hE.pick _ ⟨rfl, trivial⟩, hS⟩
    · replace hq64 := iteF hg70 hq64
      refine WL.no hE (runs_not hE rfl rfl rfl (by rw [hg70]; decide)) rfl ?_; clear hE a; intro a hE
      refine WL.no hE (runs_not hE rfl rfl rfl (by rw [hg70]; decide)) rfl ?_; clear hE a; intro a hE
      refine WL.no hE (runs_not hE rfl rfl rfl (by rw [hg70]; decide)) rfl ?_; clear hE a; intro a hE
      refine WL.no hE (runs_not hE rfl rfl rfl (by rw [hg70]; decide)) rfl ?_; clear hE a; intro a hE
      refine WL.vS hS hE (runs_plain rfl) (Gives.pickF hE rfl hg70 rfl) rfl ?_; clear hE a; intro a hE
      refine WL.vS hS hE (runs_plain rfl) (Gives.p hE rfl) rfl ?_; clear hE a; intro a hE
      refine WL.nil ?_
      subst hK69
      exact ⟨false, s62, (Sg.Le.refl _), Option.some.inj hq64, hE.pick _ ⟨rfl, trivial⟩, hS⟩
  · clear hE hS a w; rintro a w ⟨q68, s66, hle67, rfl, hE, hS⟩
    replace h56 := Sl.mono RFleetTask.mono hle67 h56
    replace h61 := Sl.mono (RL.mono RI.mono) hle67 h61
    refine W.ret ?_
    refine finG (fn := Try.f33) (rs := [.tmp 0]) (vs := [_]) hE rfl ⟨rfl, trivial⟩ ?_
    obtain rfl := Option.some.inj hr
    exact ⟨rfl, (hS.down (Sg.Le.trans (Sg.Le.trans hle55 hle63) hle67))⟩
set_option maxHeartbeats 8000000 in
theorem Fishlaw2FleetRuns_ok {fu : Nat}  {w : World} {s : Sg} {R : List HP} {x0 : List FleetTask} {a0 : Option Addr} {c0 : Nat} {x1 : List (List Int)} {a1 : Option Addr} {c1 : Nat} (hS : St w s (R)) (h0 : Sl 6 RFleetTask s a0 c0 x0) (h1 : Sl 1 (RL 1 (RI .i64)) s a1 c1 x1) {r : Bool} (hr : Fishlaw2FleetRuns fu x0 x1 = some r) :
    Calls Try.prog 8 [.slice a0 x0.length c0, .slice a1 x1.length c1].toArray w (fun e w => e = .returned (.bool r) ∧ St w s (R)) := by
  refine enter Try.func8 rfl rfl rfl fun a hE => ?_
  rw [Fishlaw2FleetRuns] at hr
  refine W.seq ?_
  refine W.region ?_
  refine WL.vS hS hE (runs_plain rfl) (Gives.p hE rfl) rfl ?_; clear hE a; intro a hE
  refine WL.nil ?_
  refine W.seq ?_
  refine W.region ?_
  refine WL.vS hS hE (runs_plain rfl) (Gives.p hE rfl) rfl ?_; clear hE a; intro a hE
  refine WL.vS hS hE (runs_plain rfl) (Gives.p hE rfl) rfl ?_; clear hE a; intro a hE
  obtain ⟨q51, hq52, hr⟩ := bindS hr
  refine WL.fn hE (FleetRuns_ok hS h0 h1 hq52) (runs_plain rfl) bd38 rfl rfl ?_
  clear hE hS; rintro e w ⟨a53, c54, n55, cs56, s59, rfl, hle60, h57, rfl, hS⟩; refine ⟨_, rfl, ?_⟩; clear a; intro a hE
  replace h0 := Sl.mono RFleetTask.mono hle60 h0
  replace h1 := Sl.mono (RL.mono RI.mono) hle60 h1
  refine WL.vS hS hE (runs_plain rfl) (Gives.p hE rfl) rfl ?_; clear hE a; intro a hE
  refine WL.vS hS hE (runs_plain rfl) (Gives.p hE rfl) rfl ?_; clear hE a; intro a hE
  refine WL.vS hS hE (runs_plain rfl) (Gives.p hE rfl) rfl ?_; clear hE a; intro a hE
  refine WL.vS hS hE (runs_plain rfl) (Gives.p hE rfl) rfl ?_; clear hE a; intro a hE
  refine WL.vS hS hE (runs_plain rfl) (Gives.p hE rfl) rfl ?_; clear hE a; intro a hE
  refine WL.nil ?_
  refine W.seq ?_
  refine W.region ?_
  refine WL.vS hS hE (runs_plain rfl) (Gives.p hE rfl) rfl ?_; clear hE a; intro a hE
  refine WL.fn hE (Fishref2TasksFault_ok hS h0 rfl) (runs_plain rfl) bd35 rfl rfl ?_
  clear hE hS; rintro e w ⟨rfl, hS⟩; refine ⟨_, rfl, ?_⟩; clear a; intro a hE
  refine WL.vS hS hE (runs_plain rfl) (Gives.p hE rfl) rfl ?_; clear hE a; intro a hE
  refine WL.nil ?_
  refine W.seq ?_
  refine W.region ?_
  refine WL.vS hS hE (runs_plain rfl) (Gives.p hE rfl) rfl ?_; clear hE a; intro a hE
  refine WL.nil ?_
  refine W.seq ?_
  refine W.seq ?_
  refine W.region ?_
  refine WL.vS hS hE (runs_plain rfl) (Gives.p hE rfl) rfl ?_; clear hE a; intro a hE
  refine WL.vS hS hE (runs_plain rfl) (Gives.p hE rfl) rfl ?_; clear hE a; intro a hE
  refine WL.nil ?_
  obtain ⟨q62, hq61, hr⟩ := bindS hr
  refine W.cut (fun a w => ∃ (q65 : Int), ∃ (q66 : List (List Int)), ∃ (a67 : Option Addr), ∃ (c68 : Nat), ∃ (s63 : Sg), s59.Le s63 ∧ (q65, q66) = q62 ∧ Sl 1 (RL 1 (RI .i64)) s63 a67 c68 q66 ∧ Rep a 36 [(5, .slice a53 q51.1.length c54), (6, .int .i64 q51.2), (7, .int .i64 q65), (8, .slice a67 q66.length c68)] ∧ St w s63 (vecC 22 1 a53 c54 q51.1.length cs56 :: R)) ?_ ?_
  · refine W.gen fun K70 hK70 => ?_
    refine W.cond hE rfl (fun hc71 => ?_) (fun hc71 => ?_)
    · replace hq61 := iteT hc71 hq61
      refine W.region ?_
      refine WL.vS hS hE (runs_plain rfl) (Gives.p hE rfl) rfl ?_; clear hE a; intro a hE
      refine WL.vS hS hE (runs_plain rfl) (Gives.p hE rfl) rfl ?_; clear hE a; intro a hE
      obtain ⟨q72, hq73, hq61⟩ := bindS hq61
      refine WL.fn hE (Fishref2SumsOf_ok hS h0 h1 hq73) (runs_plain rfl) bd39 rfl rfl ?_
      clear hE hS; rintro e w ⟨a74, c75, n76, cs77, s80, rfl, hle81, h78, rfl, hS⟩; refine ⟨_, rfl, ?_⟩; clear a; intro a hE
      replace h0 := Sl.mono RFleetTask.mono hle81 h0
      replace h1 := Sl.mono (RL.mono RI.mono) hle81 h1
      replace h57 := Ev.mono (RL.mono RI.mono) hle81 h57
      refine WL.vS hS hE (runs_plain rfl) (Gives.p hE rfl) rfl ?_; clear hE a; intro a hE
      refine WL.vS hS hE (runs_plain rfl) (Gives.p hE rfl) rfl ?_; clear hE a; intro a hE
      refine WL.vS hS hE (runs_plain rfl) (Gives.p hE rfl) rfl ?_; clear hE a; intro a hE
      refine WL.vS hS hE (runs_plain rfl) (Gives.p hE rfl) rfl ?_; clear hE a; intro a hE
      refine WL.vS hS hE (runs_plain rfl) (Gives.p hE rfl) rfl ?_; clear hE a; intro a hE
      refine WL.nil ?_
      have hF := hS.fixD (RL.mono RI.mono) 0 rfl h78 rfl; clear hS; obtain ⟨s82, hle83, hS, h84⟩ := hF
      replace h0 := Sl.mono RFleetTask.mono hle83 h0
      replace h1 := Sl.mono (RL.mono RI.mono) hle83 h1
      replace h57 := Ev.mono (RL.mono RI.mono) hle83 h57
      subst hK70
      exact ⟨q72.2, q72.1, a74, c75, s82, (Sg.Le.trans hle81 hle83), Option.some.inj hq61, h84, hE.pick _ ⟨rfl, rfl, rfl, rfl, trivial⟩, hS⟩
    · replace hq61 := iteF hc71 hq61
      refine W.skip ?_
      subst hK70
      exact ⟨(Fishref2TasksFault x0), [], none, 0, s59, (Sg.Le.refl _), Option.some.inj hq61, Sl.nil, hE.pick _ ⟨rfl, rfl, rfl, rfl, trivial⟩, hS⟩
  · clear hE hS a w; rintro a w ⟨q65, q66, a67, c68, s63, hle64, rfl, h69, hE, hS⟩
    dsimp only at hr
    replace h0 := Sl.mono RFleetTask.mono hle64 h0
    replace h1 := Sl.mono (RL.mono RI.mono) hle64 h1
    replace h57 := Ev.mono (RL.mono RI.mono) hle64 h57
    refine W.seq ?_
    obtain ⟨q86, hq85, hr⟩ := bindS hr
    refine W.cut (fun a w => ∃ (q89 : Bool), q89 = q86 ∧ Rep a 36 [(4, .bool q89)] ∧ St w s63 (vecC 22 1 a53 c54 q51.1.length cs56 :: R)) ?_ ?_
    · refine W.gen fun K90 hK90 => ?_
      refine W.region ?_
      obtain ⟨q91, hq92, hq85⟩ := bindS hq85
      refine WL.fn hE (Fishlaw2sets_ok hS  hq92) (runs_plain rfl) bd33 rfl rfl ?_
      clear hE hS; rintro e w ⟨rfl, hS⟩; refine ⟨_, rfl, ?_⟩; clear a; intro a hE
      refine WL.vS hS hE (runs_plain rfl) (Gives.p hE rfl) rfl ?_; clear hE a; intro a hE
      rcases Bool.eq_false_or_eq_true q91 with hg93 | hg93
      · replace hq85 := iteT hg93 hq85
        refine WL.vS hS hE (runs_if hE rfl rfl rfl hg93) (Gives.p hE rfl) rfl ?_; clear hE a; intro a hE
        refine WL.vS hS hE (runs_if hE rfl rfl rfl hg93) (Gives.p hE rfl) rfl ?_; clear hE a; intro a hE
        refine WL.vS hS hE (runs_if hE rfl rfl rfl hg93) (Gives.p hE rfl) rfl ?_; clear hE a; intro a hE
        refine WL.vS hS hE (runs_plain rfl) (Gives.pickT hE rfl hg93 rfl) rfl ?_; clear hE a; intro a hE
        refine WL.vS hS hE (runs_plain rfl) (Gives.p hE rfl) rfl ?_; clear hE a; intro a hE
        rcases Bool.eq_false_or_eq_true (q51.2 == q65) with hg94 | hg94
        · replace hq85 := iteT hg94 hq85
          refine WL.vS hS hE (runs_if hE rfl rfl rfl hg94) (Gives.p hE rfl) rfl ?_; clear hE a; intro a hE
          refine WL.vS hS hE (runs_if hE rfl rfl rfl hg94) (Gives.p hE rfl) rfl ?_; clear hE a; intro a hE
          obtain ⟨q95, hq96, hq85⟩ := bindS hq85
          have hF := hS.lendV (RL.mono RI.mono) 0 rfl h57 rfl; clear hS; obtain ⟨t97, hle98, hS, hs99, bk100⟩ := hF
          refine WL.fn hE (Fishlaw2lists_ok hS hs99 (Sl.mono (RL.mono RI.mono) hle98 h69) hq96) (runs_if hE rfl rfl rfl hg94) bd40 rfl rfl ?_
          clear hE hS; rintro e w ⟨rfl, hS⟩; refine ⟨_, rfl, ?_⟩; clear a; intro a hE
          replace hS := bk100 _ _ hS
          refine WL.vS hS hE (runs_plain rfl) (Gives.pickT hE rfl hg94 rfl) rfl ?_; clear hE a; intro a hE
          refine WL.vS hS hE (runs_plain rfl) (Gives.p hE rfl) rfl ?_; clear hE a; intro a hE
          refine WL.nil ?_
          subst hK90
          exact ⟨q95, Option.some.inj hq85, hE.pick _ ⟨rfl, trivial⟩, hS⟩
        · replace hq85 := iteF hg94 hq85
          refine WL.no hE (runs_not hE rfl rfl rfl (by rw [hg94]; decide)) rfl ?_; clear hE a; intro a hE
          refine WL.no hE (runs_not hE rfl rfl rfl (by rw [hg94]; decide)) rfl ?_; clear hE a; intro a hE
          refine WL.no hE (runs_not hE rfl rfl rfl (by rw [hg94]; decide)) rfl ?_; clear hE a; intro a hE
          refine WL.vS hS hE (runs_plain rfl) (Gives.pickF hE rfl hg94 rfl) rfl ?_; clear hE a; intro a hE
          refine WL.vS hS hE (runs_plain rfl) (Gives.p hE rfl) rfl ?_; clear hE a; intro a hE
          refine WL.nil ?_
          subst hK90
          exact ⟨false, Option.some.inj hq85, hE.pick _ ⟨rfl, trivial⟩, hS⟩
      · replace hq85 := iteF hg93 hq85
        refine WL.no hE (runs_not hE rfl rfl rfl (by rw [hg93]; decide)) rfl ?_; clear hE a; intro a hE
        refine WL.no hE (runs_not hE rfl rfl rfl (by rw [hg93]; decide)) rfl ?_; clear hE a; intro a hE
        refine WL.no hE (runs_not hE rfl rfl rfl (by rw [hg93]; decide)) rfl ?_; clear hE a; intro a hE
        refine WL.vS hS hE (runs_plain rfl) (Gives.pickF hE rfl hg93 rfl) rfl ?_; clear hE a; intro a hE
        refine WL.vS hS hE (runs_plain rfl) (Gives.p hE rfl) rfl ?_; clear hE a; intro a hE
        refine WL.no hE (runs_not hE rfl rfl rfl (by decide)) rfl ?_; clear hE a; intro a hE
        refine WL.no hE (runs_not hE rfl rfl rfl (by decide)) rfl ?_; clear hE a; intro a hE
        refine WL.no hE (runs_not hE rfl rfl rfl (by decide)) rfl ?_; clear hE a; intro a hE
        refine WL.vS hS hE (runs_plain rfl) (Gives.pickF hE rfl rfl rfl) rfl ?_; clear hE a; intro a hE
        refine WL.vS hS hE (runs_plain rfl) (Gives.p hE rfl) rfl ?_; clear hE a; intro a hE
        refine WL.nil ?_
        subst hK90
        exact ⟨false, Option.some.inj hq85, hE.pick _ ⟨rfl, trivial⟩, hS⟩
    · clear hE hS a w; rintro a w ⟨q89, rfl, hE, hS⟩
      refine W.ret ?_
      refine finG (fn := Try.f8) (rs := [.tmp 4]) (vs := [_]) hE rfl ⟨rfl, trivial⟩ ?_
      obtain rfl := Option.some.inj hr
      replace hS := hS.tail
      exact ⟨rfl, (hS.down (Sg.Le.trans hle60 hle64))⟩
end Go.Proofs.Ytpoooohaoekbaaa
