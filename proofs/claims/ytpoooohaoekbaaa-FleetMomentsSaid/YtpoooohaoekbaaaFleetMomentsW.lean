/- The walks of the functions that FleetMoments reaches: each call comes to what its mirror says. The conditions are those of each contract. -/
import Derived.Test.YtpoooohaoekbaaaProg
import Derived.Test.YtpoooohaoekbaaaFleetMomentsM
import Derived.Test.YtpoooohaoekbaaaFpMore
import Derived.Test.YtpoooohaoekbaaaFleetMomentsW1
namespace Go.Proofs.Ytpoooohaoekbaaa
open Go Go.Fp
set_option maxHeartbeats 8000000 in
theorem FleetTurns_ok {fu : Nat}  {w : World} {s : Sg} {R : List HP} {x0 : List FleetTask} {a0 : Option Addr} {c0 : Nat} {x1 : Int} (hS : St w s (R)) (h0 : Sl 6 RFleetTask s a0 c0 x0) {r : (List (List Int)) × Int} (hr : FleetTurns fu x0 x1 = some r) :
    Calls Try.prog 47 [.slice a0 x0.length c0, .int .i64 x1].toArray w (fun e w => ∃ (a0 : Option Addr) (c0 : Nat) (t : Sg), e = .returned (.tuple #[.slice a0 r.1.length c0, .int .i64 r.2]) ∧ s.Le t ∧ Sl 1 (RL 1 (RI .i64)) t a0 c0 r.1 ∧ St w t (R)) := by
  refine enter Try.func47 rfl rfl rfl fun a hE => ?_
  rw [FleetTurns] at hr
  refine W.seq ?_
  refine W.region ?_
  refine WL.vS hS hE (runs_plain rfl) (Gives.p hE rfl) rfl ?_; clear hE a; intro a hE
  refine WL.vS hS hE (runs_plain rfl) (Gives.p hE rfl) rfl ?_; clear hE a; intro a hE
  refine WL.nil ?_
  refine W.seq ?_
  refine W.seq ?_
  refine W.region ?_
  refine WL.vS hS hE (runs_plain rfl) (Gives.p hE rfl) rfl ?_; clear hE a; intro a hE
  refine WL.vS hS hE (runs_plain rfl) (Gives.p hE rfl) rfl ?_; clear hE a; intro a hE
  refine WL.fn hE (FleetcheckTurn_ok hS h0 rfl) (runs_plain rfl) bd62 rfl rfl ?_
  clear hE hS; rintro e w ⟨rfl, hS⟩; refine ⟨_, rfl, ?_⟩; clear a; intro a hE
  refine WL.vS hS hE (runs_plain rfl) (Gives.p hE rfl) rfl ?_; clear hE a; intro a hE
  refine WL.nil ?_
  refine W.seq ?_
  refine W.region ?_
  refine WL.vS hS hE (runs_plain rfl) (Gives.p hE rfl) rfl ?_; clear hE a; intro a hE
  refine WL.vS hS hE (runs_plain rfl) (Gives.p hE rfl) rfl ?_; clear hE a; intro a hE
  refine WL.nil ?_
  refine W.cond hE rfl (fun hc51 => ?_) (fun hc51 => ?_)
  · replace hr := iteT hc51 hr
    refine W.seq ?_
    refine W.region ?_
    refine WL.vS hS hE (runs_plain rfl) (Gives.p hE rfl) rfl ?_; clear hE a; intro a hE
    refine WL.vS hS hE (runs_plain rfl) (Gives.p hE rfl) rfl ?_; clear hE a; intro a hE
    refine WL.vS hS hE (runs_plain rfl) (Gives.p hE rfl) rfl ?_; clear hE a; intro a hE
    refine WL.nil ?_
    refine W.ret ?_
    refine finG (fn := Try.f47) (rs := [.tmp 4, .tmp 5]) (vs := [_, _]) hE rfl ⟨rfl, rfl, trivial⟩ ?_
    obtain rfl := Option.some.inj hr
    exact ⟨none, 0, s, rfl, (Sg.Le.refl _), Sl.nil, hS⟩
  · replace hr := iteF hc51 hr
    refine W.skip ?_
    refine W.seq ?_
    refine W.region ?_
    replace hS := hS.nestNil 22 3 1
    refine WL.vS hS hE (runs_plain rfl) (Gives.p hE rfl) rfl ?_; clear hE a; intro a hE
    refine WL.nil ?_
    refine W.seq ?_
    refine W.seq ?_
    refine W.region ?_
    refine WL.vS hS hE (runs_plain rfl) (Gives.p hE rfl) rfl ?_; clear hE a; intro a hE
    obtain ⟨q53, hq54, hr⟩ := bindS hr
    refine WL.fn hE (Fleetorder_ok hS h0 hq54) (runs_plain rfl) bd63 rfl rfl ?_
    clear hE hS; rintro e w ⟨a55, c56, n57, cs58, s61, rfl, hle62, h59, rfl, hS⟩; refine ⟨_, rfl, ?_⟩; clear a; intro a hE
    replace h0 := Sl.mono RFleetTask.mono hle62 h0
    refine WL.vS hS hE (runs_plain rfl) (Gives.len hE rfl sl22) rfl ?_; clear hE a; intro a hE
    refine WL.vS hS hE (runs_plain rfl) (Gives.p hE rfl) rfl ?_; clear hE a; intro a hE
    refine WL.nil ?_
    have hb74 : q53.length ≤ 9223372036854775807 := by have := hS.vecCap 0 rfl; unfold maxLen at this; omega
    obtain ⟨q64, hq63, hr⟩ := bindS hr
    refine W.cut (fun a w => ∃ (q75 : List (List Int)), ∃ (a76 : Option Addr), ∃ (c77 : Nat), ∃ (n78 : Nat), ∃ (ds79 : List In), q75 = q64 ∧ NEv 1 (RI .i64) s61 ds79 q75 ∧ q75.length = n78 ∧ Rep a 113 [(7, .slice a76 n78 c77)] ∧ St w s61 (vecC 3 1 a55 c56 q53.length cs58 :: nestC 22 3 1 a76 c77 n78 ds79 :: R)) ?_ ?_
    · refine W.block ?_
      refine W.loop (fun m a w => ∃ (rest67 : Nat) (k65 : Nat), ∃ (q75 : List (List Int)), ∃ (a76 : Option Addr), ∃ (c77 : Nat), ∃ (n78 : Nat), ∃ (ds79 : List In), rest67 = m ∧ k65 + rest67 = q53.length ∧ FleetTurns.loop1 x0 x1 fu q53 rest67 k65 q75 = some q64 ∧ NEv 1 (RI .i64) s61 ds79 q75 ∧ q75.length = n78 ∧ Rep a 113 [(0, .slice a0 x0.length c0), (1, .int .i64 x1), (7, .slice a76 n78 c77), (21, .slice a55 q53.length c56), (22, .int .i64 ((q53.length : Nat) : Int)), (23, .int .i64 ((k65 : Nat) : Int))] ∧ St w s61 (vecC 3 1 a55 c56 q53.length cs58 :: nestC 22 3 1 a76 c77 n78 ds79 :: R)) (m := q53.length) ⟨q53.length, 0, [], none, 0, 0, [], rfl, by omega, hq63, (NEv.nil), (rfl), hE.pick _ ⟨rfl, rfl, rfl, rfl, rfl, rfl, trivial⟩, hS⟩ ?_
      clear hE hS a w hq63; rintro m71 a w ⟨rest67, k65, q75, a76, c77, n78, ds79, rfl, hd68, hq63, h80, rfl, hE, hS⟩
      refine W.gen fun K82 hK82 => ?_
      rcases rest67 with _ | rest67
      · skip
        refine W.seq ?_
        refine W.region ?_
        refine WL.vS hS hE (runs_plain rfl) (Gives.p hE rfl) rfl ?_; clear hE a; intro a hE
        refine WL.nil ?_
        refine W.seq ?_
        refine W.condF hE rfl (decide_eq_false (by omega)) ?_
        subst hK82
        refine W.exit rfl ?_
        exact ⟨q75, a76, c77, q75.length, ds79, Option.some.inj hq63, h80, rfl, hE.pick _ ⟨rfl, trivial⟩, hS⟩
      · have hlt69 : k65 < q53.length := by omega
        rw [FleetTurns.loop1] at hq63
        refine W.seq ?_
        refine W.region ?_
        refine WL.vS hS hE (runs_plain rfl) (Gives.p hE rfl) rfl ?_; clear hE a; intro a hE
        refine WL.nil ?_
        refine W.seq ?_
        refine W.condT hE rfl (decide_eq_true (by omega)) ?_
        refine W.skip ?_
        refine W.seq ?_
        refine W.block ?_
        refine W.seq ?_
        refine W.region ?_
        obtain ⟨x83, hx84, hq63⟩ := bindS hq63
        obtain ⟨hi85, hlt86, hy87⟩ := gx_some hx84
        obtain ⟨vs88, hl89, hR90, hd91, hget92⟩ := h59.at hy87
        subst hR90
        refine WL.vS hS hE (runs_plain rfl) (Gives.idx hE ((((k65 : Nat) : Int)).toNat) rfl rfl sl22 hi85 (by omega) (hS.vecAok 0 rfl (by omega : (((k65 : Nat) : Int)).toNat < q53.length))) rfl ?_; clear hE a; intro a hE
        refine WL.vS hS hE (runs_plain rfl) (Gives.load1 hE rfl (fun w h => St.vecSees h 0 rfl ((((k65 : Nat) : Int)).toNat * 1) _ hget92) ty3) rfl ?_; clear hE a; intro a hE
        refine WL.vS hS hE (runs_plain rfl) (Gives.p hE rfl) rfl ?_; clear hE a; intro a hE
        refine WL.nil ?_
        refine W.seq ?_
        refine W.region ?_
        refine WL.vS hS hE (runs_plain rfl) (Gives.p hE rfl) rfl ?_; clear hE a; intro a hE
        refine WL.vS hS hE (runs_plain rfl) (Gives.p hE rfl) rfl ?_; clear hE a; intro a hE
        obtain ⟨x93, hx94, hq63⟩ := bindS hq63
        obtain ⟨hi95, hlt96, hy97⟩ := gx_some hx94
        obtain ⟨cs98, hl99, hR100, hat101⟩ := h0.at hy97
        subst hR100
        refine WL.vS hS hE (runs_plain rfl) (Gives.idx hE (x83).toNat rfl rfl sl33 hi95 hlt96 (h0.aok hlt96)) rfl ?_; clear hE a; intro a hE
        refine WL.vS hS hE (runs_plain rfl) (Gives.fld hE rfl fl84_5) rfl ?_; clear hE a; intro a hE
        refine WL.vS hS hE (runs_plain rfl) (Gives.load1 hE rfl (fun w h => (hat101 w _ h).one rfl) ty3) rfl ?_; clear hE a; intro a hE
        refine WL.vS hS hE (runs_plain rfl) (Gives.p hE rfl) rfl ?_; clear hE a; intro a hE
        refine WL.nil ?_
        obtain ⟨q114, hq113, hq63⟩ := bindS hq63
        refine W.cut (fun a w => ∃ (q119 : List (List Int)), ∃ (q126 : Int), ∃ (a120 : Option Addr), ∃ (c121 : Nat), ∃ (n122 : Nat), ∃ (ds123 : List In), (q119, q126) = q114 ∧ NEv 1 (RI .i64) s61 ds123 q119 ∧ q119.length = n122 ∧ Rep a 113 [(0, .slice a0 x0.length c0), (1, .int .i64 x1), (7, .slice a120 n122 c121), (21, .slice a55 q53.length c56), (22, .int .i64 ((q53.length : Nat) : Int)), (23, .int .i64 ((k65 : Nat) : Int))] ∧ St w s61 (vecC 3 1 a55 c56 q53.length cs58 :: nestC 22 3 1 a120 c121 n122 ds123 :: R)) ?_ ?_
        · refine W.block ?_
          refine W.loop (fun m a w => ∃ (n115 : Nat), ∃ (q119 : List (List Int)), ∃ (q126 : Int), ∃ (a120 : Option Addr), ∃ (c121 : Nat), ∃ (n122 : Nat), ∃ (ds123 : List In), n115 = m ∧ FleetTurns.loop3 x0 x1 x83 x93 n115 q119 q126 = some q114 ∧ NEv 1 (RI .i64) s61 ds123 q119 ∧ q119.length = n122 ∧ Rep a 113 [(0, .slice a0 x0.length c0), (1, .int .i64 x1), (7, .slice a120 n122 c121), (9, .int .i64 x83), (21, .slice a55 q53.length c56), (22, .int .i64 ((q53.length : Nat) : Int)), (23, .int .i64 ((k65 : Nat) : Int)), (31, .int .i64 x93.Units), (32, .int .i64 q126)] ∧ St w s61 (vecC 3 1 a55 c56 q53.length cs58 :: nestC 22 3 1 a120 c121 n122 ds123 :: R)) (m := fu) ⟨fu, q75, 0, a76, c77, q75.length, ds79, rfl, hq113, h80, rfl, hE.pick _ ⟨rfl, rfl, rfl, rfl, rfl, rfl, rfl, rfl, rfl, trivial⟩, hS⟩ ?_
          clear hE hS a w hq113; rintro m116 a w ⟨n115, q119, q126, a120, c121, n122, ds123, rfl, hq113, h124, rfl, hE, hS⟩
          refine W.gen fun K127 hK127 => ?_
          rcases n115 with _ | n115
          · rw [FleetTurns.loop3] at hq113; exact absurd hq113 (by simp)
          rw [FleetTurns.loop3] at hq113
          refine W.seq ?_
          refine W.region ?_
          refine WL.vS hS hE (runs_plain rfl) (Gives.p hE rfl) rfl ?_; clear hE a; intro a hE
          refine WL.nil ?_
          refine W.seq ?_
          refine W.cond hE rfl (fun hc128 => ?_) (fun hc128 => ?_)
          · replace hq113 := iteT hc128 hq113
            refine W.skip ?_
            refine W.seq ?_
            refine W.block ?_
            refine W.seq ?_
            refine W.region ?_
            refine WL.vS hS hE (runs_plain rfl) (Gives.p hE rfl) rfl ?_; clear hE a; intro a hE
            refine WL.nil ?_
            refine W.seq ?_
            refine W.seq ?_
            refine W.region ?_
            refine WL.vS hS hE (runs_plain rfl) (Gives.p hE rfl) rfl ?_; clear hE a; intro a hE
            refine WL.vS hS hE (runs_plain rfl) (Gives.len hE rfl sl23) rfl ?_; clear hE a; intro a hE
            refine WL.vS hS hE (runs_plain rfl) (Gives.p hE rfl) rfl ?_; clear hE a; intro a hE
            refine WL.nil ?_
            have hb140 : q119.length ≤ 9223372036854775807 := by have := hS.nCap 1 rfl; unfold maxLen at this; omega
            obtain ⟨q130, hq129, hq113⟩ := bindS hq113
            refine W.cut (fun a w => ∃ (q141 : Int), q141 = q130 ∧ Rep a 113 [(0, .slice a0 x0.length c0), (1, .int .i64 x1), (7, .slice a120 q119.length c121), (9, .int .i64 x83), (10, .int .i64 q141), (21, .slice a55 q53.length c56), (22, .int .i64 ((q53.length : Nat) : Int)), (23, .int .i64 ((k65 : Nat) : Int)), (31, .int .i64 x93.Units), (32, .int .i64 q126)] ∧ St w s61 (vecC 3 1 a55 c56 q53.length cs58 :: nestC 22 3 1 a120 c121 q119.length ds123 :: R)) ?_ ?_
            · refine W.block ?_
              refine W.loop (fun m a w => ∃ (rest133 : Nat) (k131 : Nat), ∃ (q141 : Int), rest133 = m ∧ k131 + rest133 = q119.length ∧ FleetTurns.loop4 x0 x1 x83 q119 rest133 k131 q141 = some q130 ∧ Rep a 113 [(0, .slice a0 x0.length c0), (1, .int .i64 x1), (7, .slice a120 q119.length c121), (9, .int .i64 x83), (10, .int .i64 q141), (21, .slice a55 q53.length c56), (22, .int .i64 ((q53.length : Nat) : Int)), (23, .int .i64 ((k65 : Nat) : Int)), (31, .int .i64 x93.Units), (32, .int .i64 q126), (34, .slice a120 q119.length c121), (35, .int .i64 ((q119.length : Nat) : Int)), (36, .int .i64 ((k131 : Nat) : Int))] ∧ St w s61 (vecC 3 1 a55 c56 q53.length cs58 :: nestC 22 3 1 a120 c121 q119.length ds123 :: R)) (m := q119.length) ⟨q119.length, 0, (-1), rfl, by omega, hq129, hE.pick _ ⟨rfl, rfl, rfl, rfl, rfl, rfl, rfl, rfl, rfl, rfl, rfl, rfl, rfl, trivial⟩, hS⟩ ?_
              clear hE hS a w hq129; rintro m137 a w ⟨rest133, k131, q141, rfl, hd134, hq129, hE, hS⟩
              refine W.gen fun K142 hK142 => ?_
              rcases rest133 with _ | rest133
              · skip
                refine W.seq ?_
                refine W.region ?_
                refine WL.vS hS hE (runs_plain rfl) (Gives.p hE rfl) rfl ?_; clear hE a; intro a hE
                refine WL.nil ?_
                refine W.seq ?_
                refine W.condF hE rfl (decide_eq_false (by omega)) ?_
                subst hK142
                refine W.exit rfl ?_
                exact ⟨q141, Option.some.inj hq129, hE.pick _ ⟨rfl, rfl, rfl, rfl, rfl, rfl, rfl, rfl, rfl, rfl, trivial⟩, hS⟩
              · have hlt135 : k131 < q119.length := by omega
                rw [FleetTurns.loop4] at hq129
                refine W.seq ?_
                refine W.region ?_
                refine WL.vS hS hE (runs_plain rfl) (Gives.p hE rfl) rfl ?_; clear hE a; intro a hE
                refine WL.nil ?_
                refine W.seq ?_
                refine W.condT hE rfl (decide_eq_true (by omega)) ?_
                refine W.skip ?_
                refine W.seq ?_
                refine W.block ?_
                refine W.seq ?_
                refine W.region ?_
                refine WL.vS hS hE (runs_plain rfl) (Gives.p hE rfl) rfl ?_; clear hE a; intro a hE
                obtain ⟨x143, hx144, hq129⟩ := bindS hq129
                obtain ⟨hi145, hlt146, hy147⟩ := gx_some hx144
                obtain ⟨a148, c149, cs150, hd151, hev152⟩ := h124.at hy147
                refine WL.vS hS hE (runs_plain rfl) (Gives.idx hE ((((k131 : Nat) : Int)).toNat) rfl rfl sl23 hi145 (by omega) (hS.nAok 1 rfl (by omega : (((k131 : Nat) : Int)).toNat < q119.length))) rfl ?_; clear hE a; intro a hE
                refine WL.vS hS hE (runs_plain rfl) (Gives.load1 (v := .slice a148 x143.length c149) hE rfl (fun w h => St.nSees h 1 rfl hd151) ty22) rfl ?_; clear hE a; intro a hE
                refine WL.vS hS hE (runs_plain rfl) (Gives.p hE rfl) rfl ?_; clear hE a; intro a hE
                refine WL.vS hS hE (runs_plain rfl) (Gives.p hE rfl) rfl ?_; clear hE a; intro a hE
                refine WL.nil ?_
                refine W.seq ?_
                refine W.region ?_
                refine WL.vS hS hE (runs_plain rfl) (Gives.p hE rfl) rfl ?_; clear hE a; intro a hE
                refine WL.vS hS hE (runs_plain rfl) (Gives.p hE rfl) rfl ?_; clear hE a; intro a hE
                refine WL.vS hS hE (runs_plain rfl) (Gives.len hE rfl sl22) rfl ?_; clear hE a; intro a hE
                refine WL.vS hS hE (runs_plain rfl) (Gives.p hE rfl) rfl ?_; clear hE a; intro a hE
                obtain ⟨x153, hx154, hq129⟩ := bindS hq129
                obtain ⟨hi155, hlt156, hy157⟩ := gx_some hx154
                obtain ⟨vs158, hl159, hR160, hd161, hget162⟩ := hev152.at hy157
                subst hR160
                refine WL.vS hS hE (runs_plain rfl) (Gives.idx hE ((w64 (((x143).length : Int) - 1)).toNat) rfl rfl sl22 hi155 hlt156 (hS.nnAok 1 rfl hd151 hlt156)) rfl ?_; clear hE a; intro a hE
                refine WL.vS hS hE (runs_plain rfl) (Gives.load1 hE rfl (fun w h => St.nnSees h 1 rfl hd151 ((w64 (((x143).length : Int) - 1)).toNat * 1) _ hget162) ty3) rfl ?_; clear hE a; intro a hE
                refine WL.vS hS hE (runs_plain rfl) (Gives.p hE rfl) rfl ?_; clear hE a; intro a hE
                refine WL.nil ?_
                refine W.seq ?_
                obtain ⟨q164, hq163, hq129⟩ := bindS hq129
                refine W.cut (fun a w => ∃ (q167 : Bool), q167 = q164 ∧ Rep a 113 [(0, .slice a0 x0.length c0), (1, .int .i64 x1), (7, .slice a120 q119.length c121), (9, .int .i64 x83), (10, .int .i64 q141), (11, .int .i64 ((k131 : Nat) : Int)), (21, .slice a55 q53.length c56), (22, .int .i64 ((q53.length : Nat) : Int)), (23, .int .i64 ((k65 : Nat) : Int)), (31, .int .i64 x93.Units), (32, .int .i64 q126), (34, .slice a120 q119.length c121), (35, .int .i64 ((q119.length : Nat) : Int)), (36, .int .i64 ((k131 : Nat) : Int)), (89, .bool q167)] ∧ St w s61 (vecC 3 1 a55 c56 q53.length cs58 :: nestC 22 3 1 a120 c121 q119.length ds123 :: R)) ?_ ?_
                · refine W.gen fun K168 hK168 => ?_
                  refine W.regionQ (C := fun w => St w s61 (vecC 3 1 a55 c56 q53.length cs58 :: nestC 22 3 1 a120 c121 q119.length ds123 :: R)) mixed (by kernel_rfl) hS.drew ?_
                  refine QL.v hE (runs_plain rfl) (Gives.p hE rfl) rfl ?_; clear hE a; intro a hE
                  refine QL.v hE (runs_plain rfl) (Gives.p hE rfl) rfl ?_; clear hE a; intro a hE
                  refine QL.v hE (runs_plain rfl) (Gives.p hE rfl) rfl ?_; clear hE a; intro a hE
                  refine QL.v hE (runs_plain rfl) (Gives.p hE rfl) rfl ?_; clear hE a; intro a hE
                  rcases Bool.eq_false_or_eq_true (x153 != x83) with hg169 | hg169
                  · replace hq163 := iteT hg169 hq163
                    refine QL.v hE (runs_if hE rfl rfl rfl hg169) (Gives.p hE rfl) rfl ?_; clear hE a; intro a hE
                    refine QL.v hE (runs_if hE rfl rfl rfl hg169) (Gives.p hE rfl) rfl ?_; clear hE a; intro a hE
                    obtain ⟨x170, hx171, hq163⟩ := bindS hq163
                    obtain ⟨hi172, hlt173, hy174⟩ := gx_some hx171
                    obtain ⟨cs175, hl176, hR177, hat178⟩ := h0.at hy174
                    subst hR177
                    refine QL.v hE (runs_if hE rfl rfl rfl hg169) (Gives.idx hE (x153).toNat rfl rfl sl33 hi172 hlt173 (h0.aok hlt173)) rfl ?_; clear hE a; intro a hE
                    refine QL.v hE (runs_if hE rfl rfl rfl hg169) (Gives.loadA hE rfl (fun w h => hat178 w _ h) ty84) rfl ?_; clear hE a; intro a hE
                    refine QL.v hE (runs_if hE rfl rfl rfl hg169) (Gives.p hE rfl) rfl ?_; clear hE a; intro a hE
                    refine QL.v hE (runs_if hE rfl rfl rfl hg169) (Gives.p hE rfl) rfl ?_; clear hE a; intro a hE
                    obtain ⟨x179, hx180, hq163⟩ := bindS hq163
                    obtain ⟨hi181, hlt182, hy183⟩ := gx_some hx180
                    obtain ⟨cs184, hl185, hR186, hat187⟩ := h0.at hy183
                    subst hR186
                    refine QL.v hE (runs_if hE rfl rfl rfl hg169) (Gives.idx hE (x83).toNat rfl rfl sl33 hi181 hlt182 (h0.aok hlt182)) rfl ?_; clear hE a; intro a hE
                    refine QL.v hE (runs_if hE rfl rfl rfl hg169) (Gives.loadA hE rfl (fun w h => hat187 w _ h) ty84) rfl ?_; clear hE a; intro a hE
                    refine QL.v hE (runs_if hE rfl rfl rfl hg169) (Gives.p hE rfl) rfl ?_; clear hE a; intro a hE
                    refine QL.fn hE (fun w hS => Fleetfollows_ok hS  rfl) (runs_if hE rfl rfl rfl hg169) bd65 rfl rfl ?_; clear hE a; intro a hE
                    refine QL.v hE (runs_plain rfl) (Gives.pickT hE rfl hg169 rfl) rfl ?_; clear hE a; intro a hE
                    refine QL.v hE (runs_plain rfl) (Gives.p hE rfl) rfl ?_; clear hE a; intro a hE
                    rcases Bool.eq_false_or_eq_true (Fleetfollows x170 x179 x1) with hg188 | hg188
                    · replace hq163 := iteT hg188 hq163
                      refine QL.v hE (runs_if hE rfl rfl rfl hg188) (Gives.p hE rfl) rfl ?_; clear hE a; intro a hE
                      refine QL.v hE (runs_if hE rfl rfl rfl hg188) (Gives.p hE rfl) rfl ?_; clear hE a; intro a hE
                      refine QL.v hE (runs_if hE rfl rfl rfl hg188) (Gives.p hE rfl) rfl ?_; clear hE a; intro a hE
                      rcases Bool.eq_false_or_eq_true (decide (q141 < 0)) with hg189 | hg189
                      · replace hq163 := iteT hg189 hq163
                        refine QL.no hE (runs_not hE rfl rfl rfl (by rw [hg189]; decide)) rfl ?_; clear hE a; intro a hE
                        refine QL.no hE (runs_not hE rfl rfl rfl (by rw [hg189]; decide)) rfl ?_; clear hE a; intro a hE
                        refine QL.no hE (runs_not hE rfl rfl rfl (by rw [hg189]; decide)) rfl ?_; clear hE a; intro a hE
                        refine QL.no hE (runs_not hE rfl rfl rfl (by rw [hg189]; decide)) rfl ?_; clear hE a; intro a hE
                        refine QL.no hE (runs_not hE rfl rfl rfl (by rw [hg189]; decide)) rfl ?_; clear hE a; intro a hE
                        refine QL.no hE (runs_not hE rfl rfl rfl (by rw [hg189]; decide)) rfl ?_; clear hE a; intro a hE
                        refine QL.no hE (runs_not hE rfl rfl rfl (by rw [hg189]; decide)) rfl ?_; clear hE a; intro a hE
                        refine QL.no hE (runs_not hE rfl rfl rfl (by rw [hg189]; decide)) rfl ?_; clear hE a; intro a hE
                        refine QL.no hE (runs_not hE rfl rfl rfl (by rw [hg189]; decide)) rfl ?_; clear hE a; intro a hE
                        refine QL.no hE (runs_not hE rfl rfl rfl (by rw [hg189]; decide)) rfl ?_; clear hE a; intro a hE
                        refine QL.no hE (runs_not hE rfl rfl rfl (by rw [hg189]; decide)) rfl ?_; clear hE a; intro a hE
                        refine QL.no hE (runs_not hE rfl rfl rfl (by rw [hg189]; decide)) rfl ?_; clear hE a; intro a hE
                        refine QL.no hE (runs_not hE rfl rfl rfl (by rw [hg189]; decide)) rfl ?_; clear hE a; intro a hE
                        refine QL.no hE (runs_not hE rfl rfl rfl (by rw [hg189]; decide)) rfl ?_; clear hE a; intro a hE
                        refine QL.no hE (runs_not hE rfl rfl rfl (by rw [hg189]; decide)) rfl ?_; clear hE a; intro a hE
                        refine QL.no hE (runs_not hE rfl rfl rfl (by rw [hg189]; decide)) rfl ?_; clear hE a; intro a hE
                        refine QL.no hE (runs_not hE rfl rfl rfl (by rw [hg189]; decide)) rfl ?_; clear hE a; intro a hE
                        refine QL.no hE (runs_not hE rfl rfl rfl (by rw [hg189]; decide)) rfl ?_; clear hE a; intro a hE
                        refine QL.no hE (runs_not hE rfl rfl rfl (by rw [hg189]; decide)) rfl ?_; clear hE a; intro a hE
                        refine QL.no hE (runs_not hE rfl rfl rfl (by rw [hg189]; decide)) rfl ?_; clear hE a; intro a hE
                        refine QL.no hE (runs_not hE rfl rfl rfl (by rw [hg189]; decide)) rfl ?_; clear hE a; intro a hE
                        refine QL.no hE (runs_not hE rfl rfl rfl (by rw [hg189]; decide)) rfl ?_; clear hE a; intro a hE
                        refine QL.v hE (runs_if hE rfl rfl rfl hg188) (Gives.pickT hE rfl hg189 rfl) rfl ?_; clear hE a; intro a hE
                        refine QL.v hE (runs_plain rfl) (Gives.pickT hE rfl hg188 rfl) rfl ?_; clear hE a; intro a hE
                        refine QL.nil ?_; clear hS w; intro w hS
                        subst hK168
                        exact ⟨true, Option.some.inj hq163, hE.pick _ ⟨rfl, rfl, rfl, rfl, rfl, rfl, rfl, rfl, rfl, rfl, rfl, rfl, rfl, rfl, rfl, trivial⟩, hS⟩
                      · replace hq163 := iteF hg189 hq163
                        refine QL.v hE (runs_if hE rfl rfl rfl hg189) (Gives.p hE rfl) rfl ?_; clear hE a; intro a hE
                        refine QL.v hE (runs_if hE rfl rfl rfl hg189) (Gives.p hE rfl) rfl ?_; clear hE a; intro a hE
                        obtain ⟨x190, hx191, hq163⟩ := bindS hq163
                        obtain ⟨hi192, hlt193, hy194⟩ := gx_some hx191
                        obtain ⟨cs195, hl196, hR197, hat198⟩ := h0.at hy194
                        subst hR197
                        refine QL.v hE (runs_if hE rfl rfl rfl hg189) (Gives.idx hE (x153).toNat rfl rfl sl33 hi192 hlt193 (h0.aok hlt193)) rfl ?_; clear hE a; intro a hE
                        refine QL.v hE (runs_if hE rfl rfl rfl hg189) (Gives.fld hE rfl fl84_3) rfl ?_; clear hE a; intro a hE
                        refine QL.v hE (runs_if hE rfl rfl rfl hg189) (Gives.load1 hE rfl (fun w h => (hat198 w _ h).one rfl) ty3) rfl ?_; clear hE a; intro a hE
                        refine QL.v hE (runs_if hE rfl rfl rfl hg189) (Gives.p hE rfl) rfl ?_; clear hE a; intro a hE
                        refine QL.v hE (runs_if hE rfl rfl rfl hg189) (Gives.p hE rfl) rfl ?_; clear hE a; intro a hE
                        refine QL.v hE (runs_if hE rfl rfl rfl hg189) (Gives.p hE rfl) rfl ?_; clear hE a; intro a hE
                        obtain ⟨x199, hx200, hq163⟩ := bindS hq163
                        obtain ⟨hi201, hlt202, hy203⟩ := gx_some hx200
                        obtain ⟨a204, c205, cs206, hd207, hev208⟩ := h124.at hy203
                        refine QL.v hE (runs_if hE rfl rfl rfl hg189) (Gives.idx hE ((q141).toNat) rfl rfl sl23 hi201 (by omega) (hS.nAok 1 rfl (by omega : (q141).toNat < q119.length))) rfl ?_; clear hE a; intro a hE
                        refine QL.v hE (runs_if hE rfl rfl rfl hg189) (Gives.load1 (v := .slice a204 x199.length c205) hE rfl (fun w h => St.nSees h 1 rfl hd207) ty22) rfl ?_; clear hE a; intro a hE
                        refine QL.v hE (runs_if hE rfl rfl rfl hg189) (Gives.p hE rfl) rfl ?_; clear hE a; intro a hE
                        refine QL.v hE (runs_if hE rfl rfl rfl hg189) (Gives.p hE rfl) rfl ?_; clear hE a; intro a hE
                        obtain ⟨x209, hx210, hq163⟩ := bindS hq163
                        obtain ⟨hi211, hlt212, hy213⟩ := gx_some hx210
                        obtain ⟨a214, c215, cs216, hd217, hev218⟩ := h124.at hy213
                        refine QL.v hE (runs_if hE rfl rfl rfl hg189) (Gives.idx hE ((q141).toNat) rfl rfl sl23 hi211 (by omega) (hS.nAok 1 rfl (by omega : (q141).toNat < q119.length))) rfl ?_; clear hE a; intro a hE
                        refine QL.v hE (runs_if hE rfl rfl rfl hg189) (Gives.load1 (v := .slice a214 x209.length c215) hE rfl (fun w h => St.nSees h 1 rfl hd217) ty22) rfl ?_; clear hE a; intro a hE
                        refine QL.v hE (runs_if hE rfl rfl rfl hg189) (Gives.len hE rfl sl22) rfl ?_; clear hE a; intro a hE
                        refine QL.v hE (runs_if hE rfl rfl rfl hg189) (Gives.p hE rfl) rfl ?_; clear hE a; intro a hE
                        obtain ⟨x219, hx220, hq163⟩ := bindS hq163
                        obtain ⟨hi221, hlt222, hy223⟩ := gx_some hx220
                        obtain ⟨vs224, hl225, hR226, hd227, hget228⟩ := hev208.at hy223
                        subst hR226
                        refine QL.v hE (runs_if hE rfl rfl rfl hg189) (Gives.idx hE ((w64 (((x209).length : Int) - 1)).toNat) rfl rfl sl22 hi221 hlt222 (hS.nnAok 1 rfl hd207 hlt222)) rfl ?_; clear hE a; intro a hE
                        refine QL.v hE (runs_if hE rfl rfl rfl hg189) (Gives.load1 hE rfl (fun w h => St.nnSees h 1 rfl hd207 ((w64 (((x209).length : Int) - 1)).toNat * 1) _ hget228) ty3) rfl ?_; clear hE a; intro a hE
                        obtain ⟨x229, hx230, hq163⟩ := bindS hq163
                        obtain ⟨hi231, hlt232, hy233⟩ := gx_some hx230
                        obtain ⟨cs234, hl235, hR236, hat237⟩ := h0.at hy233
                        subst hR236
                        refine QL.v hE (runs_if hE rfl rfl rfl hg189) (Gives.idx hE (x219).toNat rfl rfl sl33 hi231 hlt232 (h0.aok hlt232)) rfl ?_; clear hE a; intro a hE
                        refine QL.v hE (runs_if hE rfl rfl rfl hg189) (Gives.fld hE rfl fl84_3) rfl ?_; clear hE a; intro a hE
                        refine QL.v hE (runs_if hE rfl rfl rfl hg189) (Gives.load1 hE rfl (fun w h => (hat237 w _ h).one rfl) ty3) rfl ?_; clear hE a; intro a hE
                        refine QL.v hE (runs_if hE rfl rfl rfl hg189) (Gives.p hE rfl) rfl ?_; clear hE a; intro a hE
                        refine QL.v hE (runs_if hE rfl rfl rfl hg188) (Gives.pickF hE rfl hg189 rfl) rfl ?_; clear hE a; intro a hE
                        refine QL.v hE (runs_plain rfl) (Gives.pickT hE rfl hg188 rfl) rfl ?_; clear hE a; intro a hE
                        refine QL.nil ?_; clear hS w; intro w hS
                        subst hK168
                        exact ⟨decide (x190.Arr < x229.Arr), Option.some.inj hq163, hE.pick _ ⟨rfl, rfl, rfl, rfl, rfl, rfl, rfl, rfl, rfl, rfl, rfl, rfl, rfl, rfl, rfl, trivial⟩, hS⟩
                    · replace hq163 := iteF hg188 hq163
                      refine QL.no hE (runs_not hE rfl rfl rfl (by rw [hg188]; decide)) rfl ?_; clear hE a; intro a hE
                      refine QL.no hE (runs_not hE rfl rfl rfl (by rw [hg188]; decide)) rfl ?_; clear hE a; intro a hE
                      refine QL.no hE (runs_not hE rfl rfl rfl (by rw [hg188]; decide)) rfl ?_; clear hE a; intro a hE
                      refine QL.no hE (runs_undef hE rfl rfl rfl) rfl ?_; clear hE a; intro a hE
                      refine QL.no hE (runs_undef hE rfl rfl rfl) rfl ?_; clear hE a; intro a hE
                      refine QL.no hE (runs_undef hE rfl rfl rfl) rfl ?_; clear hE a; intro a hE
                      refine QL.no hE (runs_undef hE rfl rfl rfl) rfl ?_; clear hE a; intro a hE
                      refine QL.no hE (runs_undef hE rfl rfl rfl) rfl ?_; clear hE a; intro a hE
                      refine QL.no hE (runs_undef hE rfl rfl rfl) rfl ?_; clear hE a; intro a hE
                      refine QL.no hE (runs_undef hE rfl rfl rfl) rfl ?_; clear hE a; intro a hE
                      refine QL.no hE (runs_undef hE rfl rfl rfl) rfl ?_; clear hE a; intro a hE
                      refine QL.no hE (runs_undef hE rfl rfl rfl) rfl ?_; clear hE a; intro a hE
                      refine QL.no hE (runs_undef hE rfl rfl rfl) rfl ?_; clear hE a; intro a hE
                      refine QL.no hE (runs_undef hE rfl rfl rfl) rfl ?_; clear hE a; intro a hE
                      refine QL.no hE (runs_undef hE rfl rfl rfl) rfl ?_; clear hE a; intro a hE
                      refine QL.no hE (runs_undef hE rfl rfl rfl) rfl ?_; clear hE a; intro a hE
                      refine QL.no hE (runs_undef hE rfl rfl rfl) rfl ?_; clear hE a; intro a hE
                      refine QL.no hE (runs_undef hE rfl rfl rfl) rfl ?_; clear hE a; intro a hE
                      refine QL.no hE (runs_undef hE rfl rfl rfl) rfl ?_; clear hE a; intro a hE
                      refine QL.no hE (runs_undef hE rfl rfl rfl) rfl ?_; clear hE a; intro a hE
                      refine QL.no hE (runs_undef hE rfl rfl rfl) rfl ?_; clear hE a; intro a hE
                      refine QL.no hE (runs_undef hE rfl rfl rfl) rfl ?_; clear hE a; intro a hE
                      refine QL.no hE (runs_undef hE rfl rfl rfl) rfl ?_; clear hE a; intro a hE
                      refine QL.no hE (runs_undef hE rfl rfl rfl) rfl ?_; clear hE a; intro a hE
                      refine QL.no hE (runs_undef hE rfl rfl rfl) rfl ?_; clear hE a; intro a hE
                      refine QL.no hE (runs_not hE rfl rfl rfl (by rw [hg188]; decide)) rfl ?_; clear hE a; intro a hE
                      refine QL.v hE (runs_plain rfl) (Gives.pickF hE rfl hg188 rfl) rfl ?_; clear hE a; intro a hE
                      refine QL.nil ?_; clear hS w; intro w hS
                      subst hK168
                      exact ⟨false, Option.some.inj hq163, hE.pick _ ⟨rfl, rfl, rfl, rfl, rfl, rfl, rfl, rfl, rfl, rfl, rfl, rfl, rfl, rfl, rfl, trivial⟩, hS⟩
                  · replace hq163 := iteF hg169 hq163
                    refine QL.no hE (runs_not hE rfl rfl rfl (by rw [hg169]; decide)) rfl ?_; clear hE a; intro a hE
                    refine QL.no hE (runs_not hE rfl rfl rfl (by rw [hg169]; decide)) rfl ?_; clear hE a; intro a hE
                    refine QL.no hE (runs_not hE rfl rfl rfl (by rw [hg169]; decide)) rfl ?_; clear hE a; intro a hE
                    refine QL.no hE (runs_not hE rfl rfl rfl (by rw [hg169]; decide)) rfl ?_; clear hE a; intro a hE
                    refine QL.no hE (runs_not hE rfl rfl rfl (by rw [hg169]; decide)) rfl ?_; clear hE a; intro a hE
                    refine QL.no hE (runs_not hE rfl rfl rfl (by rw [hg169]; decide)) rfl ?_; clear hE a; intro a hE
                    refine QL.no hE (runs_not hE rfl rfl rfl (by rw [hg169]; decide)) rfl ?_; clear hE a; intro a hE
                    refine QL.no hE (runs_not hE rfl rfl rfl (by rw [hg169]; decide)) rfl ?_; clear hE a; intro a hE
                    refine QL.no hE (runs_not hE rfl rfl rfl (by rw [hg169]; decide)) rfl ?_; clear hE a; intro a hE
                    refine QL.no hE (runs_not hE rfl rfl rfl (by rw [hg169]; decide)) rfl ?_; clear hE a; intro a hE
                    refine QL.v hE (runs_plain rfl) (Gives.pickF hE rfl hg169 rfl) rfl ?_; clear hE a; intro a hE
                    refine QL.v hE (runs_plain rfl) (Gives.p hE rfl) rfl ?_; clear hE a; intro a hE
                    refine QL.no hE (runs_not hE rfl rfl rfl (by decide)) rfl ?_; clear hE a; intro a hE
                    refine QL.no hE (runs_not hE rfl rfl rfl (by decide)) rfl ?_; clear hE a; intro a hE
                    refine QL.no hE (runs_not hE rfl rfl rfl (by decide)) rfl ?_; clear hE a; intro a hE
                    refine QL.no hE (runs_undef hE rfl rfl rfl) rfl ?_; clear hE a; intro a hE
                    refine QL.no hE (runs_undef hE rfl rfl rfl) rfl ?_; clear hE a; intro a hE
                    refine QL.no hE (runs_undef hE rfl rfl rfl) rfl ?_; clear hE a; intro a hE
                    refine QL.no hE (runs_undef hE rfl rfl rfl) rfl ?_; clear hE a; intro a hE
                    refine QL.no hE (runs_undef hE rfl rfl rfl) rfl ?_; clear hE a; intro a hE
                    refine QL.no hE (runs_undef hE rfl rfl rfl) rfl ?_; clear hE a; intro a hE
                    refine QL.no hE (runs_undef hE rfl rfl rfl) rfl ?_; clear hE a; intro a hE
                    refine QL.no hE (runs_undef hE rfl rfl rfl) rfl ?_; clear hE a; intro a hE
                    refine QL.no hE (runs_undef hE rfl rfl rfl) rfl ?_; clear hE a; intro a hE
                    refine QL.no hE (runs_undef hE rfl rfl rfl) rfl ?_; clear hE a; intro a hE
                    refine QL.no hE (runs_undef hE rfl rfl rfl) rfl ?_; clear hE a; intro a hE
                    refine QL.no hE (runs_undef hE rfl rfl rfl) rfl ?_; clear hE a; intro a hE
                    refine QL.no hE (runs_undef hE rfl rfl rfl) rfl ?_; clear hE a; intro a hE
                    refine QL.no hE (runs_undef hE rfl rfl rfl) rfl ?_; clear hE a; intro a hE
                    refine QL.no hE (runs_undef hE rfl rfl rfl) rfl ?_; clear hE a; intro a hE
                    refine QL.no hE (runs_undef hE rfl rfl rfl) rfl ?_; clear hE a; intro a hE
                    refine QL.no hE (runs_undef hE rfl rfl rfl) rfl ?_; clear hE a; intro a hE
                    refine QL.no hE (runs_undef hE rfl rfl rfl) rfl ?_; clear hE a; intro a hE
                    refine QL.no hE (runs_undef hE rfl rfl rfl) rfl ?_; clear hE a; intro a hE
                    refine QL.no hE (runs_undef hE rfl rfl rfl) rfl ?_; clear hE a; intro a hE
                    refine QL.no hE (runs_undef hE rfl rfl rfl) rfl ?_; clear hE a; intro a hE
                    refine QL.no hE (runs_undef hE rfl rfl rfl) rfl ?_; clear hE a; intro a hE
                    refine QL.no hE (runs_not hE rfl rfl rfl (by decide)) rfl ?_; clear hE a; intro a hE
                    refine QL.v hE (runs_plain rfl) (Gives.pickF hE rfl rfl rfl) rfl ?_; clear hE a; intro a hE
                    refine QL.nil ?_; clear hS w; intro w hS
                    subst hK168
                    exact ⟨false, Option.some.inj hq163, hE.pick _ ⟨rfl, rfl, rfl, rfl, rfl, rfl, rfl, rfl, rfl, rfl, rfl, rfl, rfl, rfl, rfl, trivial⟩, hS⟩
                · clear hE hS a w; rintro a w ⟨q167, rfl, hE, hS⟩
                  obtain ⟨q239, hq238, hq129⟩ := bndS hq129
                  refine W.cut (fun a w => ∃ (q242 : Int), q242 = q239 ∧ Rep a 113 [(0, .slice a0 x0.length c0), (1, .int .i64 x1), (7, .slice a120 q119.length c121), (9, .int .i64 x83), (10, .int .i64 q242), (21, .slice a55 q53.length c56), (22, .int .i64 ((q53.length : Nat) : Int)), (23, .int .i64 ((k65 : Nat) : Int)), (31, .int .i64 x93.Units), (32, .int .i64 q126), (34, .slice a120 q119.length c121), (35, .int .i64 ((q119.length : Nat) : Int)), (36, .int .i64 ((k131 : Nat) : Int))] ∧ St w s61 (vecC 3 1 a55 c56 q53.length cs58 :: nestC 22 3 1 a120 c121 q119.length ds123 :: R)) ?_ ?_
                  · refine W.gen fun K243 hK243 => ?_
                    refine W.cond hE rfl (fun hc244 => ?_) (fun hc244 => ?_)
                    · replace hq238 := iteT hc244 hq238
                      refine W.region ?_
                      refine WL.vS hS hE (runs_plain rfl) (Gives.p hE rfl) rfl ?_; clear hE a; intro a hE
                      refine WL.vS hS hE (runs_plain rfl) (Gives.p hE rfl) rfl ?_; clear hE a; intro a hE
                      refine WL.nil ?_
                      subst hK243
                      exact ⟨((k131 : Nat) : Int), hq238, hE.pick _ ⟨rfl, rfl, rfl, rfl, rfl, rfl, rfl, rfl, rfl, rfl, rfl, rfl, rfl, trivial⟩, hS⟩
                    · replace hq238 := iteF hc244 hq238
                      refine W.skip ?_
                      subst hK243
                      exact ⟨q141, hq238, hE.pick _ ⟨rfl, rfl, rfl, rfl, rfl, rfl, rfl, rfl, rfl, rfl, rfl, rfl, rfl, trivial⟩, hS⟩
                  · clear hE hS a w; rintro a w ⟨q242, rfl, hE, hS⟩
                    refine W.region ?_
                    refine WL.vS hS hE (runs_plain rfl) (Gives.inc hE rfl (by omega)) rfl ?_; clear hE a; intro a hE
                    refine WL.vS hS hE (runs_plain rfl) (Gives.p hE rfl) rfl ?_; clear hE a; intro a hE
                    refine WL.nil ?_
                    subst hK142
                    exact ⟨rest133, Nat.lt_succ_self _, rest133, k131 + 1, q242, rfl, (by omega), hq129, hE.pick _ ⟨rfl, rfl, rfl, rfl, rfl, rfl, rfl, rfl, rfl, rfl, rfl, rfl, rfl, trivial⟩, hS⟩
            · clear hE hS a w; rintro a w ⟨q141, rfl, hE, hS⟩
              refine W.seq ?_
              refine W.seq ?_
              refine W.region ?_
              refine WL.vS hS hE (runs_plain rfl) (Gives.p hE rfl) rfl ?_; clear hE a; intro a hE
              refine WL.vS hS hE (runs_plain rfl) (Gives.p hE rfl) rfl ?_; clear hE a; intro a hE
              refine WL.nil ?_
              obtain ⟨q246, hq245, hq113⟩ := bindS hq113
              refine W.cut (fun a w => ∃ (q249 : List (List Int)), ∃ (q256 : Int), ∃ (a250 : Option Addr), ∃ (c251 : Nat), ∃ (n252 : Nat), ∃ (ds253 : List In), (q249, q256) = q246 ∧ NEv 1 (RI .i64) s61 ds253 q249 ∧ q249.length = n252 ∧ Rep a 113 [(0, .slice a0 x0.length c0), (1, .int .i64 x1), (7, .slice a250 n252 c251), (9, .int .i64 x83), (10, .int .i64 q256), (21, .slice a55 q53.length c56), (22, .int .i64 ((q53.length : Nat) : Int)), (23, .int .i64 ((k65 : Nat) : Int)), (31, .int .i64 x93.Units), (32, .int .i64 q126)] ∧ St w s61 (vecC 3 1 a55 c56 q53.length cs58 :: nestC 22 3 1 a250 c251 n252 ds253 :: R)) ?_ ?_
              · refine W.gen fun K257 hK257 => ?_
                refine W.cond hE rfl (fun hc258 => ?_) (fun hc258 => ?_)
                · replace hq245 := iteT hc258 hq245
                  refine W.seq ?_
                  refine W.region ?_
                  refine WL.vS hS hE (runs_plain rfl) (Gives.p hE rfl) rfl ?_; clear hE a; intro a hE
                  refine WL.lit hE hS (e := 22) (es := 1) (vs := [(0, .slice none 0 0)]) (cs := [.slice none 0 0]) (runs_plain rfl) rfl (by kernel_rfl) rfl ?_; clear hE hS a w; intro b259 a w hE hS
                  replace hS := hS.vecNil 3 1
                  obtain ⟨x261, hx262, hq245⟩ := bindS hq245
                  replace hS := hS.front 1 rfl
                  refine WL.appND hE hS 1 rfl (runs_plain rfl) rfl rfl ap23 h124 rfl (Ev.nil) (rfl) hx262 rfl ?_; clear hE hS a w; intro a263 c264 ds265 a w h266 hE hS
                  refine WL.vS hS hE (runs_plain rfl) (Gives.p hE rfl) rfl ?_; clear hE a; intro a hE
                  refine WL.nil ?_
                  refine W.region ?_
                  refine WL.vS hS hE (runs_plain rfl) (Gives.p hE rfl) rfl ?_; clear hE a; intro a hE
                  refine WL.vS hS hE (runs_plain rfl) (Gives.len hE rfl sl23) rfl ?_; clear hE a; intro a hE
                  refine WL.vS hS hE (runs_plain rfl) (Gives.p hE rfl) rfl ?_; clear hE a; intro a hE
                  refine WL.vS hS hE (runs_plain rfl) (Gives.p hE rfl) rfl ?_; clear hE a; intro a hE
                  refine WL.nil ?_
                  subst hK257
                  exact ⟨x261, w64 (((x261.length : Nat) : Int) - 1), a263, c264, x261.length, ds265, Option.some.inj hq245, h266, (rfl), hE.pick _ ⟨rfl, rfl, rfl, rfl, rfl, rfl, rfl, rfl, rfl, rfl, trivial⟩, hS⟩
                · replace hq245 := iteF hc258 hq245
                  refine W.skip ?_
                  subst hK257
                  exact ⟨q119, q141, a120, c121, q119.length, ds123, Option.some.inj hq245, h124, rfl, hE.pick _ ⟨rfl, rfl, rfl, rfl, rfl, rfl, rfl, rfl, rfl, rfl, trivial⟩, hS⟩
              · clear hE hS a w; rintro a w ⟨q249, q256, a250, c251, n252, ds253, rfl, h254, rfl, hE, hS⟩
                dsimp only at hq113
                refine W.region ?_
                refine WL.vS hS hE (runs_plain rfl) (Gives.p hE rfl) rfl ?_; clear hE a; intro a hE
                refine WL.vS hS hE (runs_plain rfl) (Gives.p hE rfl) rfl ?_; clear hE a; intro a hE
                refine WL.vS hS hE (runs_plain rfl) (Gives.p hE rfl) rfl ?_; clear hE a; intro a hE
                refine WL.vS hS hE (runs_plain rfl) (Gives.p hE rfl) rfl ?_; clear hE a; intro a hE
                obtain ⟨x267, hx268, hq113⟩ := bindS hq113
                obtain ⟨hi269, hlt270, hy271⟩ := gx_some hx268
                obtain ⟨a272, c273, cs274, hd275, hev276⟩ := h254.at hy271
                refine WL.vS hS hE (runs_plain rfl) (Gives.idx hE ((q256).toNat) rfl rfl sl23 hi269 (by omega) (hS.nAok 1 rfl (by omega : (q256).toNat < q249.length))) rfl ?_; clear hE a; intro a hE
                refine WL.vS hS hE (runs_plain rfl) (Gives.load1 (v := .slice a272 x267.length c273) hE rfl (fun w h => St.nSees h 1 rfl hd275) ty22) rfl ?_; clear hE a; intro a hE
                refine WL.vS hS hE (runs_plain rfl) (Gives.p hE rfl) rfl ?_; clear hE a; intro a hE
                refine WL.lit hE hS (e := 3) (es := 1) (vs := [(0, .int .i64 x83)]) (cs := [.int .i64 x83]) (runs_plain rfl) rfl (by kernel_rfl) rfl ?_; clear hE hS a w; intro b277 a w hE hS
                replace hS := hS.borrowM 2 rfl hd275
                replace hS := hS.front 1 rfl
                obtain ⟨x279, hx280, hq113⟩ := bindS hq113
                refine WL.appD hE hS 0 (m := 1) (runs_plain rfl) rfl rfl rfl ap22 rfl hev276 (rfl) (xs := [x83]) (Ev.cons (c1 := [.int .i64 x83]) rfl rfl (Ev.nil)) rfl rfl hx280 rfl ?_; clear hE hS a w; intro a281 c282 cs283 a w h284 hE hS
                obtain ⟨_, hx285, hq113⟩ := bindS hq113
                obtain ⟨h286, h287⟩ := ix_some hx285
                refine WL.vS hS hE (runs_plain rfl) (Gives.idx hE ((q256).toNat) rfl rfl sl23 h286 (by omega) (hS.hAok 2 rfl (by omega : (q256).toNat < q249.length))) rfl ?_; clear hE a; intro a hE
                obtain ⟨x288, hx289, hq113⟩ := bindS hq113
                refine WL.storeND hE hS 1 rfl (runs_plain rfl) rfl rfl ty22 h254 rfl (by have := (sx_some hx289).1; omega) hx289 h284 (rfl) rfl ?_; clear hE hS a w; intro ds290 a w h291 hn292 hE hS
                refine WL.nil ?_
                refine W.region ?_
                refine WL.vS hS hE (runs_plain rfl) (Gives.p hE rfl) rfl ?_; clear hE a; intro a hE
                refine WL.vS hS hE (runs_plain rfl) (Gives.p hE rfl) rfl ?_; clear hE a; intro a hE
                refine WL.nil ?_
                subst hK127
                exact ⟨n115, Nat.lt_succ_self _, n115, x288, (w64 (q126 + 1)), a250, c251, q249.length, ds290, rfl, hq113, h291, hn292, hE.pick _ ⟨rfl, rfl, rfl, rfl, rfl, rfl, rfl, rfl, rfl, trivial⟩, hS⟩
          · replace hq113 := iteF hc128 hq113
            subst hK127
            refine W.exit rfl ?_
            exact ⟨q119, q126, a120, c121, q119.length, ds123, Option.some.inj hq113, h124, rfl, hE.pick _ ⟨rfl, rfl, rfl, rfl, rfl, rfl, trivial⟩, hS⟩
        · clear hE hS a w; rintro a w ⟨q119, q126, a120, c121, n122, ds123, rfl, h124, rfl, hE, hS⟩
          dsimp only at hq63
          refine W.region ?_
          refine WL.vS hS hE (runs_plain rfl) (Gives.inc hE rfl (by omega)) rfl ?_; clear hE a; intro a hE
          refine WL.vS hS hE (runs_plain rfl) (Gives.p hE rfl) rfl ?_; clear hE a; intro a hE
          refine WL.nil ?_
          subst hK82
          exact ⟨rest67, Nat.lt_succ_self _, rest67, k65 + 1, q119, a120, c121, q119.length, ds123, rfl, (by omega), hq63, h124, rfl, hE.pick _ ⟨rfl, rfl, rfl, rfl, rfl, rfl, trivial⟩, hS⟩
    · clear hE hS a w; rintro a w ⟨q75, a76, c77, n78, ds79, rfl, h80, rfl, hE, hS⟩
      refine W.seq ?_
      refine W.region ?_
      refine WL.vS hS hE (runs_plain rfl) (Gives.p hE rfl) rfl ?_; clear hE a; intro a hE
      refine WL.vS hS hE (runs_plain rfl) (Gives.p hE rfl) rfl ?_; clear hE a; intro a hE
      refine WL.vS hS hE (runs_plain rfl) (Gives.p hE rfl) rfl ?_; clear hE a; intro a hE
      refine WL.nil ?_
      refine W.ret ?_
      have hF := hS.fixN RI.mono 1 rfl h80 rfl; clear hS; obtain ⟨s293, hle294, hS, h295⟩ := hF
      replace h59 := Ev.mono RI.mono hle294 h59
      refine finG (fn := Try.f47) (rs := [.tmp 4, .tmp 5]) (vs := [_, _]) hE rfl ⟨rfl, rfl, trivial⟩ ?_
      obtain rfl := Option.some.inj hr
      replace hS := hS.tail
      exact ⟨a76, c77, s293, rfl, (Sg.Le.trans hle62 hle294), h295, hS⟩
set_option maxHeartbeats 8000000 in
theorem SlicesEqualLint_ok  {w : World} {s : Sg} {R : List HP} {x0 : List Int} {a0 : Option Addr} {c0 : Nat} {x1 : List Int} {a1 : Option Addr} {c1 : Nat} (hS : St w s (R)) (h0 : Sl 1 (RI .i64) s a0 c0 x0) (h1 : Sl 1 (RI .i64) s a1 c1 x1) {r : Bool} (hr : SlicesEqualLint x0 x1 = some r) :
    Calls Try.prog 24 [.slice a0 x0.length c0, .slice a1 x1.length c1].toArray w (fun e w => e = .returned (.bool r) ∧ St w s (R)) := by
  refine enter Try.func24 rfl rfl rfl fun a hE => ?_
  rw [SlicesEqualLint] at hr
  refine W.seq ?_
  refine W.region ?_
  refine WL.vS hS hE (runs_plain rfl) (Gives.p hE rfl) rfl ?_; clear hE a; intro a hE
  refine WL.nil ?_
  refine W.seq ?_
  refine W.seq ?_
  refine W.region ?_
  refine WL.vS hS hE (runs_plain rfl) (Gives.p hE rfl) rfl ?_; clear hE a; intro a hE
  refine WL.vS hS hE (runs_plain rfl) (Gives.len hE rfl sl22) rfl ?_; clear hE a; intro a hE
  refine WL.vS hS hE (runs_plain rfl) (Gives.p hE rfl) rfl ?_; clear hE a; intro a hE
  refine WL.vS hS hE (runs_plain rfl) (Gives.len hE rfl sl22) rfl ?_; clear hE a; intro a hE
  refine WL.vS hS hE (runs_plain rfl) (Gives.p hE rfl) rfl ?_; clear hE a; intro a hE
  refine WL.nil ?_
  refine W.cond hE rfl (fun hc51 => ?_) (fun hc51 => ?_)
  · replace hr := iteT hc51 hr
    refine W.seq ?_
    refine W.region ?_
    refine WL.vS hS hE (runs_plain rfl) (Gives.p hE rfl) rfl ?_; clear hE a; intro a hE
    refine WL.nil ?_
    refine W.ret ?_
    refine finG (fn := Try.f24) (rs := [.tmp 4]) (vs := [_]) hE rfl ⟨rfl, trivial⟩ ?_
    obtain rfl := Option.some.inj hr
    exact ⟨rfl, hS⟩
  · replace hr := iteF hc51 hr
    refine W.skip ?_
    refine W.seq ?_
    refine W.seq ?_
    refine W.region ?_
    refine WL.vS hS hE (runs_plain rfl) (Gives.p hE rfl) rfl ?_; clear hE a; intro a hE
    refine WL.vS hS hE (runs_plain rfl) (Gives.len hE rfl sl22) rfl ?_; clear hE a; intro a hE
    refine WL.vS hS hE (runs_plain rfl) (Gives.p hE rfl) rfl ?_; clear hE a; intro a hE
    refine WL.nil ?_
    obtain ⟨q53, hq52, hr⟩ := bindS hr
    refine W.cut (fun a w => (.next ()) = q53 ∧ Rep a 26 [] ∧ St w s (R)) ?_ ?_
    · refine W.block ?_
      refine W.loop (fun m a w => ∃ (rest56 : List Int) (k54 : Nat), rest56.length = m ∧ x0.drop k54 = rest56 ∧ SlicesEqualLint.loop1 x1 rest56 k54 = some q53 ∧ Rep a 26 [(0, .slice a0 x0.length c0), (1, .slice a1 x1.length c1), (12, .int .i64 ((x0).length : Int)), (13, .int .i64 ((k54 : Nat) : Int))] ∧ St w s (R)) (m := x0.length) ⟨x0, 0, rfl, rfl, hq52, hE.pick _ ⟨rfl, rfl, rfl, rfl, trivial⟩, hS⟩ ?_
      clear hE hS a w hq52; rintro m60 a w ⟨rest56, k54, rfl, hd57, hq52, hE, hS⟩
      refine W.gen fun K63 hK63 => ?_
      rcases rest56 with _ | ⟨x55, rest56⟩
      · have hlt58 := drop_nil hd57
        refine W.seq ?_
        refine W.region ?_
        refine WL.vS hS hE (runs_plain rfl) (Gives.p hE rfl) rfl ?_; clear hE a; intro a hE
        refine WL.nil ?_
        refine W.seq ?_
        refine W.condF hE rfl (decide_eq_false (by omega)) ?_
        subst hK63
        refine W.exit rfl ?_
        exact ⟨Option.some.inj hq52, hE.pick _ trivial, hS⟩
      · obtain ⟨hlt58, hx59, hd57⟩ := drop_cons hd57
        rw [SlicesEqualLint.loop1] at hq52
        refine W.seq ?_
        refine W.region ?_
        refine WL.vS hS hE (runs_plain rfl) (Gives.p hE rfl) rfl ?_; clear hE a; intro a hE
        refine WL.nil ?_
        refine W.seq ?_
        refine W.condT hE rfl (decide_eq_true (by omega)) ?_
        refine W.skip ?_
        refine W.seq ?_
        refine W.block ?_
        refine W.seq ?_
        refine W.region ?_
        refine WL.vS hS hE (runs_plain rfl) (Gives.p hE rfl) rfl ?_; clear hE a; intro a hE
        refine WL.vS hS hE (runs_plain rfl) (Gives.p hE rfl) rfl ?_; clear hE a; intro a hE
        refine WL.nil ?_
        refine W.seq ?_
        refine W.regionQ (C := fun w => St w s (R)) mixed (by kernel_rfl) hS.drew ?_
        refine QL.v hE (runs_plain rfl) (Gives.p hE rfl) rfl ?_; clear hE a; intro a hE
        refine QL.v hE (runs_plain rfl) (Gives.p hE rfl) rfl ?_; clear hE a; intro a hE
        obtain ⟨cs64, hl65, hR66, hat67⟩ := h0.at hx59
        subst hR66
        refine QL.v hE (runs_plain rfl) (Gives.idx hE k54 rfl rfl sl22 rfl hlt58 (h0.aok hlt58)) rfl ?_; clear hE a; intro a hE
        refine QL.v hE (runs_plain rfl) (Gives.load1 hE rfl (fun w h => hat67 w _ h) ty3) rfl ?_; clear hE a; intro a hE
        refine QL.v hE (runs_plain rfl) (Gives.p hE rfl) rfl ?_; clear hE a; intro a hE
        refine QL.v hE (runs_plain rfl) (Gives.p hE rfl) rfl ?_; clear hE a; intro a hE
        obtain ⟨x68, hx69, hq52⟩ := bindS hq52
        obtain ⟨hi70, hlt71, hy72⟩ := gx_some hx69
        obtain ⟨cs73, hl74, hR75, hat76⟩ := h1.at hy72
        subst hR75
        refine QL.v hE (runs_plain rfl) (Gives.idx hE (((k54 : Nat) : Int)).toNat rfl rfl sl22 hi70 hlt71 (h1.aok hlt71)) rfl ?_; clear hE a; intro a hE
        refine QL.v hE (runs_plain rfl) (Gives.load1 hE rfl (fun w h => hat76 w _ h) ty3) rfl ?_; clear hE a; intro a hE
        refine QL.v hE (runs_plain rfl) (Gives.p hE rfl) rfl ?_; clear hE a; intro a hE
        refine QL.nil ?_; clear hS w; intro w hS
        refine W.cond hE rfl (fun hc77 => ?_) (fun hc77 => ?_)
        · replace hq52 := iteT hc77 hq52
          refine W.seq ?_
          refine W.region ?_
          refine WL.vS hS hE (runs_plain rfl) (Gives.p hE rfl) rfl ?_; clear hE a; intro a hE
          refine WL.nil ?_
          refine W.ret ?_
          subst hK63
          rw [← Option.some.inj hq52] at hr
          dsimp only at hr
          refine finG (fn := Try.f24) (rs := [.tmp 4]) (vs := [_]) hE rfl ⟨rfl, trivial⟩ ?_
          obtain rfl := Option.some.inj hr
          exact ⟨rfl, hS⟩
        · replace hq52 := iteF hc77 hq52
          refine W.skip ?_
          refine W.region ?_
          refine WL.vS hS hE (runs_plain rfl) (Gives.inc hE rfl (by have := h0.small; omega)) rfl ?_; clear hE a; intro a hE
          refine WL.vS hS hE (runs_plain rfl) (Gives.p hE rfl) rfl ?_; clear hE a; intro a hE
          refine WL.nil ?_
          subst hK63
          exact ⟨rest56.length, Nat.lt_succ_self _, rest56, k54 + 1, rfl, hd57, hq52, hE.pick _ ⟨rfl, rfl, rfl, rfl, trivial⟩, hS⟩
    · clear hE hS a w; rintro a w ⟨rfl, hE, hS⟩
      dsimp only at hr
      refine W.seq ?_
      refine W.region ?_
      refine WL.vS hS hE (runs_plain rfl) (Gives.p hE rfl) rfl ?_; clear hE a; intro a hE
      refine WL.nil ?_
      refine W.ret ?_
      refine finG (fn := Try.f24) (rs := [.tmp 4]) (vs := [_]) hE rfl ⟨rfl, trivial⟩ ?_
      obtain rfl := Option.some.inj hr
      exact ⟨rfl, hS⟩
set_option maxHeartbeats 8000000 in
theorem SlicesEqualFuncLLint_v1_ok  {w : World} {s : Sg} {R : List HP} {x0 : List (List Int)} {a0 : Option Addr} {c0 : Nat} {x1 : List (List Int)} {a1 : Option Addr} {c1 : Nat} (hS : St w s (R)) (h0 : Sl 1 (RL 1 (RI .i64)) s a0 c0 x0) (h1 : Sl 1 (RL 1 (RI .i64)) s a1 c1 x1) {r : Bool} (hr : SlicesEqualFuncLLint_v1 x0 x1 = some r) :
    Calls Try.prog 57 [.slice a0 x0.length c0, .slice a1 x1.length c1, .func (.func 24) #[] #[]].toArray w (fun e w => e = .returned (.bool r) ∧ St w s (R)) := by
  refine enter Try.func57 rfl rfl rfl fun a hE => ?_
  rw [SlicesEqualFuncLLint_v1] at hr
  refine W.seq ?_
  refine W.region ?_
  refine WL.vS hS hE (runs_plain rfl) (Gives.p hE rfl) rfl ?_; clear hE a; intro a hE
  refine WL.nil ?_
  refine W.seq ?_
  refine W.seq ?_
  refine W.region ?_
  refine WL.vS hS hE (runs_plain rfl) (Gives.p hE rfl) rfl ?_; clear hE a; intro a hE
  refine WL.vS hS hE (runs_plain rfl) (Gives.len hE rfl sl23) rfl ?_; clear hE a; intro a hE
  refine WL.vS hS hE (runs_plain rfl) (Gives.p hE rfl) rfl ?_; clear hE a; intro a hE
  refine WL.vS hS hE (runs_plain rfl) (Gives.len hE rfl sl23) rfl ?_; clear hE a; intro a hE
  refine WL.vS hS hE (runs_plain rfl) (Gives.p hE rfl) rfl ?_; clear hE a; intro a hE
  refine WL.nil ?_
  refine W.cond hE rfl (fun hc51 => ?_) (fun hc51 => ?_)
  · replace hr := iteT hc51 hr
    refine W.seq ?_
    refine W.region ?_
    refine WL.vS hS hE (runs_plain rfl) (Gives.p hE rfl) rfl ?_; clear hE a; intro a hE
    refine WL.nil ?_
    refine W.ret ?_
    refine finG (fn := Try.f57) (rs := [.tmp 6]) (vs := [_]) hE rfl ⟨rfl, trivial⟩ ?_
    obtain rfl := Option.some.inj hr
    exact ⟨rfl, hS⟩
  · replace hr := iteF hc51 hr
    refine W.skip ?_
    refine W.seq ?_
    refine W.seq ?_
    refine W.region ?_
    refine WL.vS hS hE (runs_plain rfl) (Gives.p hE rfl) rfl ?_; clear hE a; intro a hE
    refine WL.vS hS hE (runs_plain rfl) (Gives.len hE rfl sl23) rfl ?_; clear hE a; intro a hE
    refine WL.vS hS hE (runs_plain rfl) (Gives.p hE rfl) rfl ?_; clear hE a; intro a hE
    refine WL.nil ?_
    obtain ⟨q53, hq52, hr⟩ := bindS hr
    refine W.cut (fun a w => (.next ()) = q53 ∧ Rep a 32 [] ∧ St w s (R)) ?_ ?_
    · refine W.block ?_
      refine W.loop (fun m a w => ∃ (rest56 : List (List Int)) (k54 : Nat), rest56.length = m ∧ x0.drop k54 = rest56 ∧ SlicesEqualFuncLLint_v1.loop1 x1 rest56 k54 = some q53 ∧ Rep a 32 [(1, .slice a1 x1.length c1), (2, .func (.func 24) #[] #[]), (15, .slice a0 x0.length c0), (16, .int .i64 ((x0).length : Int)), (17, .int .i64 ((k54 : Nat) : Int))] ∧ St w s (R)) (m := x0.length) ⟨x0, 0, rfl, rfl, hq52, hE.pick _ ⟨rfl, rfl, rfl, rfl, rfl, trivial⟩, hS⟩ ?_
      clear hE hS a w hq52; rintro m60 a w ⟨rest56, k54, rfl, hd57, hq52, hE, hS⟩
      refine W.gen fun K63 hK63 => ?_
      rcases rest56 with _ | ⟨x55, rest56⟩
      · have hlt58 := drop_nil hd57
        refine W.seq ?_
        refine W.region ?_
        refine WL.vS hS hE (runs_plain rfl) (Gives.p hE rfl) rfl ?_; clear hE a; intro a hE
        refine WL.nil ?_
        refine W.seq ?_
        refine W.condF hE rfl (decide_eq_false (by omega)) ?_
        subst hK63
        refine W.exit rfl ?_
        exact ⟨Option.some.inj hq52, hE.pick _ trivial, hS⟩
      · obtain ⟨hlt58, hx59, hd57⟩ := drop_cons hd57
        rw [SlicesEqualFuncLLint_v1.loop1] at hq52
        refine W.seq ?_
        refine W.region ?_
        refine WL.vS hS hE (runs_plain rfl) (Gives.p hE rfl) rfl ?_; clear hE a; intro a hE
        refine WL.nil ?_
        refine W.seq ?_
        refine W.condT hE rfl (decide_eq_true (by omega)) ?_
        refine W.skip ?_
        refine W.seq ?_
        refine W.block ?_
        refine W.seq ?_
        refine W.region ?_
        refine WL.vS hS hE (runs_plain rfl) (Gives.p hE rfl) rfl ?_; clear hE a; intro a hE
        obtain ⟨cs64, hl65, hR66, hat67⟩ := h0.at hx59
        obtain ⟨a68, c69, rfl, h70⟩ := hR66
        refine WL.vS hS hE (runs_plain rfl) (Gives.idx hE k54 rfl rfl sl23 rfl hlt58 (h0.aok hlt58)) rfl ?_; clear hE a; intro a hE
        refine WL.vS hS hE (runs_plain rfl) (Gives.load1 hE rfl (fun w h => hat67 w _ h) ty22) rfl ?_; clear hE a; intro a hE
        refine WL.vS hS hE (runs_plain rfl) (Gives.p hE rfl) rfl ?_; clear hE a; intro a hE
        refine WL.vS hS hE (runs_plain rfl) (Gives.p hE rfl) rfl ?_; clear hE a; intro a hE
        refine WL.nil ?_
        refine W.seq ?_
        refine W.region ?_
        refine WL.vS hS hE (runs_plain rfl) (Gives.p hE rfl) rfl ?_; clear hE a; intro a hE
        refine WL.vS hS hE (runs_plain rfl) (Gives.p hE rfl) rfl ?_; clear hE a; intro a hE
        obtain ⟨x71, hx72, hq52⟩ := bindS hq52
        obtain ⟨hi73, hlt74, hy75⟩ := gx_some hx72
        obtain ⟨cs76, hl77, hR78, hat79⟩ := h1.at hy75
        obtain ⟨a80, c81, rfl, h82⟩ := hR78
        refine WL.vS hS hE (runs_plain rfl) (Gives.idx hE (((k54 : Nat) : Int)).toNat rfl rfl sl23 hi73 hlt74 (h1.aok hlt74)) rfl ?_; clear hE a; intro a hE
        refine WL.vS hS hE (runs_plain rfl) (Gives.load1 hE rfl (fun w h => hat79 w _ h) ty22) rfl ?_; clear hE a; intro a hE
        refine WL.vS hS hE (runs_plain rfl) (Gives.p hE rfl) rfl ?_; clear hE a; intro a hE
        refine WL.nil ?_
        refine W.seq ?_
        refine W.region ?_
        refine WL.vS hS hE (runs_plain rfl) (Gives.p hE rfl) rfl ?_; clear hE a; intro a hE
        refine WL.vS hS hE (runs_plain rfl) (Gives.p hE rfl) rfl ?_; clear hE a; intro a hE
        refine WL.vS hS hE (runs_plain rfl) (Gives.p hE rfl) rfl ?_; clear hE a; intro a hE
        obtain ⟨q83, hq84, hq52⟩ := bindS hq52
        refine WL.fnv hE (vs := [.slice a68 x55.length c69, .slice a80 x71.length c81]) (cs := []) rfl (SlicesEqualLint_ok hS h70 h82 hq84) (runs_plain rfl) bd24 rfl rfl ?_
        clear hE hS; rintro e w ⟨rfl, hS⟩; refine ⟨_, rfl, ?_⟩; clear a; intro a hE
        refine WL.vS hS hE (runs_plain rfl) (Gives.p hE rfl) rfl ?_; clear hE a; intro a hE
        refine WL.nil ?_
        refine W.cond hE rfl (fun hc85 => ?_) (fun hc85 => ?_)
        · replace hq52 := iteT hc85 hq52
          refine W.seq ?_
          refine W.region ?_
          refine WL.vS hS hE (runs_plain rfl) (Gives.p hE rfl) rfl ?_; clear hE a; intro a hE
          refine WL.nil ?_
          refine W.ret ?_
          subst hK63
          rw [← Option.some.inj hq52] at hr
          dsimp only at hr
          refine finG (fn := Try.f57) (rs := [.tmp 6]) (vs := [_]) hE rfl ⟨rfl, trivial⟩ ?_
          obtain rfl := Option.some.inj hr
          exact ⟨rfl, hS⟩
        · replace hq52 := iteF hc85 hq52
          refine W.skip ?_
          refine W.region ?_
          refine WL.vS hS hE (runs_plain rfl) (Gives.inc hE rfl (by have := h0.small; omega)) rfl ?_; clear hE a; intro a hE
          refine WL.vS hS hE (runs_plain rfl) (Gives.p hE rfl) rfl ?_; clear hE a; intro a hE
          refine WL.nil ?_
          subst hK63
          exact ⟨rest56.length, Nat.lt_succ_self _, rest56, k54 + 1, rfl, hd57, hq52, hE.pick _ ⟨rfl, rfl, rfl, rfl, rfl, trivial⟩, hS⟩
    · clear hE hS a w; rintro a w ⟨rfl, hE, hS⟩
      dsimp only at hr
      refine W.seq ?_
      refine W.region ?_
      refine WL.vS hS hE (runs_plain rfl) (Gives.p hE rfl) rfl ?_; clear hE a; intro a hE
      refine WL.nil ?_
      refine W.ret ?_
      refine finG (fn := Try.f57) (rs := [.tmp 6]) (vs := [_]) hE rfl ⟨rfl, trivial⟩ ?_
      obtain rfl := Option.some.inj hr
      exact ⟨rfl, hS⟩
set_option maxHeartbeats 8000000 in
theorem Fishlaw2lists_ok  {w : World} {s : Sg} {R : List HP} {x0 : List (List Int)} {a0 : Option Addr} {c0 : Nat} {x1 : List (List Int)} {a1 : Option Addr} {c1 : Nat} (hS : St w s (R)) (h0 : Sl 1 (RL 1 (RI .i64)) s a0 c0 x0) (h1 : Sl 1 (RL 1 (RI .i64)) s a1 c1 x1) {r : Bool} (hr : Fishlaw2lists x0 x1 = some r) :
    Calls Try.prog 40 [.slice a0 x0.length c0, .slice a1 x1.length c1].toArray w (fun e w => e = .returned (.bool r) ∧ St w s (R)) := by
  refine enter Try.func40 rfl rfl rfl fun a hE => ?_
  rw [Fishlaw2lists] at hr
  refine W.seq ?_
  refine W.region ?_
  refine WL.vS hS hE (runs_plain rfl) (Gives.p hE rfl) rfl ?_; clear hE a; intro a hE
  refine WL.nil ?_
  refine W.seq ?_
  refine W.region ?_
  refine WL.vS hS hE (runs_plain rfl) (Gives.p hE rfl) rfl ?_; clear hE a; intro a hE
  refine WL.vS hS hE (runs_plain rfl) (Gives.p hE rfl) rfl ?_; clear hE a; intro a hE
  obtain ⟨q51, hq52, hr⟩ := bindS hr
  refine WL.fn hE (SlicesEqualFuncLLint_v1_ok hS h0 h1 hq52) (runs_plain rfl) bd57 rfl rfl ?_
  clear hE hS; rintro e w ⟨rfl, hS⟩; refine ⟨_, rfl, ?_⟩; clear a; intro a hE
  refine WL.vS hS hE (runs_plain rfl) (Gives.p hE rfl) rfl ?_; clear hE a; intro a hE
  refine WL.nil ?_
  refine W.ret ?_
  refine finG (fn := Try.f40) (rs := [.tmp 4]) (vs := [_]) hE rfl ⟨rfl, trivial⟩ ?_
  obtain rfl := Option.some.inj hr
  exact ⟨rfl, hS⟩
set_option maxHeartbeats 8000000 in
theorem Fishlaw2sets_ok {fu : Nat}  {w : World} {s : Sg} {R : List HP}  (hS : St w s (R))  {r : Bool} (hr : Fishlaw2sets fu = some r) :
    Calls Try.prog 33 [].toArray w (fun e w => e = .returned (.bool r) ∧ St w s (R)) := by
  refine enter Try.func33 rfl rfl rfl fun a hE => ?_
  rw [Fishlaw2sets] at hr
  refine W.seq ?_
  refine W.region ?_
  refine WL.vS hS hE (runs_plain rfl) (Gives.p hE rfl) rfl ?_; clear hE a; intro a hE
  refine WL.nil ?_
  refine W.seq ?_
  refine W.region ?_
  refine WL.vS hS hE (runs_plain rfl) (Gives.build hE (vs := [(0, .int .i64 0), (1, .int .i64 1), (2, .int .i64 10), (3, .int .i64 20), (5, .int .i64 1)]) [.int .i64 0, .int .i64 1, .int .i64 10, .int .i64 20, .int .i64 0, .int .i64 1] rfl (by kernel_rfl)) rfl ?_; clear hE a; intro a hE
  refine WL.vS hS hE (runs_plain rfl) (Gives.build hE (vs := [(0, .int .i64 0), (1, .int .i64 1), (2, .int .i64 30), (3, .int .i64 40), (5, .int .i64 1)]) [.int .i64 0, .int .i64 1, .int .i64 30, .int .i64 40, .int .i64 0, .int .i64 1] rfl (by kernel_rfl)) rfl ?_; clear hE a; intro a hE
  refine WL.vS hS hE (runs_plain rfl) (Gives.build hE (vs := [(0, .int .i64 1), (1, .int .i64 0), (2, .int .i64 25), (3, .int .i64 29), (5, .int .i64 1)]) [.int .i64 1, .int .i64 0, .int .i64 25, .int .i64 29, .int .i64 0, .int .i64 1] rfl (by kernel_rfl)) rfl ?_; clear hE a; intro a hE
  refine WL.lit hE hS (e := 84) (es := 6) (vs := [(0, .agg [.int .i64 0, .int .i64 1, .int .i64 10, .int .i64 20, .int .i64 0, .int .i64 1].toArray), (1, .agg [.int .i64 0, .int .i64 1, .int .i64 30, .int .i64 40, .int .i64 0, .int .i64 1].toArray), (2, .agg [.int .i64 1, .int .i64 0, .int .i64 25, .int .i64 29, .int .i64 0, .int .i64 1].toArray)]) (cs := [.int .i64 0, .int .i64 1, .int .i64 10, .int .i64 20, .int .i64 0, .int .i64 1, .int .i64 0, .int .i64 1, .int .i64 30, .int .i64 40, .int .i64 0, .int .i64 1, .int .i64 1, .int .i64 0, .int .i64 25, .int .i64 29, .int .i64 0, .int .i64 1]) (runs_plain rfl) rfl (by kernel_rfl) rfl ?_; clear hE hS a w; intro b51 a w hE hS
  replace hS := hS.ptVec (es := 6) (m := 3) rfl (by decide)
  have h53 : Ev 6 RFleetTask s [.int .i64 0, .int .i64 1, .int .i64 10, .int .i64 20, .int .i64 0, .int .i64 1, .int .i64 0, .int .i64 1, .int .i64 30, .int .i64 40, .int .i64 0, .int .i64 1, .int .i64 1, .int .i64 0, .int .i64 25, .int .i64 29, .int .i64 0, .int .i64 1] [(FleetTask.mk 0 1 10 20 0 1), (FleetTask.mk 0 1 30 40 0 1), (FleetTask.mk 1 0 25 29 0 1)] := (Ev.cons (c1 := [.int .i64 0, .int .i64 1, .int .i64 10, .int .i64 20, .int .i64 0, .int .i64 1]) rfl rfl (Ev.cons (c1 := [.int .i64 0, .int .i64 1, .int .i64 30, .int .i64 40, .int .i64 0, .int .i64 1]) rfl rfl (Ev.cons (c1 := [.int .i64 1, .int .i64 0, .int .i64 25, .int .i64 29, .int .i64 0, .int .i64 1]) rfl rfl (Ev.nil))))
  have hF := hS.fixD RFleetTask.mono 0 rfl h53 (rfl); clear hS; obtain ⟨s54, hle55, hS, h56⟩ := hF
  refine WL.vS hS hE (runs_plain rfl) (Gives.p hE rfl) rfl ?_; clear hE a; intro a hE
  refine WL.nil ?_
  refine W.seq ?_
  refine W.region ?_
  refine WL.vS hS hE (runs_plain rfl) (Gives.p hE rfl) rfl ?_; clear hE a; intro a hE
  obtain ⟨q57, hq58, hr⟩ := bindS hr
  refine WL.fn hE (FleetTurns_ok hS h56 hq58) (runs_plain rfl) bd47 rfl rfl ?_
  clear hE hS; rintro e w ⟨a59, c60, s62, rfl, hle63, h61, hS⟩; refine ⟨_, rfl, ?_⟩; clear a; intro a hE
  replace h56 := Sl.mono RFleetTask.mono hle63 h56
  refine WL.vS hS hE (runs_plain rfl) (Gives.p hE rfl) rfl ?_; clear hE a; intro a hE
  refine WL.vS hS hE (runs_plain rfl) (Gives.p hE rfl) rfl ?_; clear hE a; intro a hE
  refine WL.vS hS hE (runs_plain rfl) (Gives.p hE rfl) rfl ?_; clear hE a; intro a hE
  refine WL.vS hS hE (runs_plain rfl) (Gives.p hE rfl) rfl ?_; clear hE a; intro a hE
  refine WL.vS hS hE (runs_plain rfl) (Gives.p hE rfl) rfl ?_; clear hE a; intro a hE
  refine WL.nil ?_
  refine W.seq ?_
  obtain ⟨q65, hq64, hr⟩ := bindS hr
  refine W.cut (fun a w => ∃ (q68 : Bool), ∃ (s66 : Sg), s62.Le s66 ∧ q68 = q65 ∧ Rep a 21 [(0, .bool q68)] ∧ St w s66 (R)) ?_ ?_
  · refine W.gen fun K69 hK69 => ?_
    refine W.region ?_
    refine WL.vS hS hE (runs_plain rfl) (Gives.p hE rfl) rfl ?_; clear hE a; intro a hE
    refine WL.vS hS hE (runs_plain rfl) (Gives.p hE rfl) rfl ?_; clear hE a; intro a hE
    refine WL.vS hS hE (runs_plain rfl) (Gives.p hE rfl) rfl ?_; clear hE a; intro a hE
    rcases Bool.eq_false_or_eq_true (q57.2 == 0) with hg70 | hg70
    · replace hq64 := iteT hg70 hq64
      refine WL.vS hS hE (runs_if hE rfl rfl rfl hg70) (Gives.p hE rfl) rfl ?_; clear hE a; intro a hE
      refine WL.lit hE hS (e := 3) (es := 1) (vs := [(0, .int .i64 0), (1, .int .i64 2), (2, .int .i64 1)]) (cs := [.int .i64 0, .int .i64 2, .int .i64 1]) (runs_if hE rfl rfl rfl hg70) rfl (by kernel_rfl) rfl ?_; clear hE hS a w; intro b71 a w hE hS
      replace hS := hS.ptVec (es := 1) (m := 3) rfl (by decide)
      have h73 : Ev 1 (RI .i64) s62 [.int .i64 0, .int .i64 2, .int .i64 1] [0, 2, 1] := (Ev.cons (c1 := [.int .i64 0]) rfl rfl (Ev.cons (c1 := [.int .i64 2]) rfl rfl (Ev.cons (c1 := [.int .i64 1]) rfl rfl (Ev.nil))))
      have hF := hS.fixD RI.mono 0 rfl h73 (rfl); clear hS; obtain ⟨s74, hle75, hS, h76⟩ := hF
      replace h56 := Sl.mono RFleetTask.mono hle75 h56
      replace h61 := Sl.mono (RL.mono RI.mono) hle75 h61
      refine WL.lit hE hS (e := 22) (es := 1) (vs := [(0, .slice (some ⟨b71, 0, none⟩) 3 3)]) (cs := [.slice (some ⟨b71, 0, none⟩) 3 3]) (runs_if hE rfl rfl rfl hg70) rfl (by kernel_rfl) rfl ?_; clear hE hS a w; intro b77 a w hE hS
      replace hS := hS.ptVec (es := 1) (m := 1) rfl (by decide)
      have h79 : Ev 1 (RL 1 (RI .i64)) s74 [.slice (some ⟨b71, 0, none⟩) 3 3] [[0, 2, 1]] := (Ev.cons (c1 := [.slice (some ⟨b71, 0, none⟩) 3 3]) ⟨_, _, rfl, h76⟩ rfl (Ev.nil))
      have hF := hS.fixD (RL.mono RI.mono) 0 rfl h79 (rfl); clear hS; obtain ⟨s80, hle81, hS, h82⟩ := hF
      replace h56 := Sl.mono RFleetTask.mono hle81 h56
      replace h61 := Sl.mono (RL.mono RI.mono) hle81 h61
      replace h76 := Sl.mono RI.mono hle81 h76
      obtain ⟨q83, hq84, hq64⟩ := bindS hq64
      refine WL.fn hE (Fishlaw2lists_ok hS h61 h82 hq84) (runs_if hE rfl rfl rfl hg70) bd40 rfl rfl ?_
      clear hE hS; rintro e w ⟨rfl, hS⟩; refine ⟨_, rfl, ?_⟩; clear a; intro a hE
      refine WL.vS hS hE (runs_plain rfl) (Gives.pickT hE rfl hg70 rfl) rfl ?_; clear hE a; intro a hE
      refine WL.vS hS hE (runs_plain rfl) (Gives.p hE rfl) rfl ?_; clear hE a; intro a hE
      refine WL.nil ?_
      subst hK69
      exact ⟨q83, s80, (Sg.Le.trans hle75 hle81), Option.some.inj hq64, hE.pick _ ⟨rfl, trivial⟩, hS⟩
    · replace hq64 := iteF hg70 hq64
      refine WL.no hE (runs_not hE rfl rfl rfl (by rw [hg70]; decide)) rfl ?_; clear hE a; intro a hE
      refine WL.no hE (runs_not hE rfl rfl rfl (by rw [hg70]; decide)) rfl ?_; clear hE a; intro a hE
      refine WL.no hE (runs_not hE rfl rfl rfl (by rw [hg70]; decide)) rfl ?_; clear hE a; intro a hE
      refine WL.no hE (runs_not hE rfl rfl rfl (by rw [hg70]; decide)) rfl ?_; clear hE a; intro a hE
      refine WL.vS hS hE (runs_plain rfl) (Gives.pickF hE rfl hg70 rfl) rfl ?_; clear hE a; intro a hE
      refine WL.vS hS hE (runs_plain rfl) (Gives.p hE rfl) rfl ?_; clear hE a; intro a hE
      refine WL.nil ?_
      subst hK69
      exact ⟨false, s62, (Sg.Le.refl _), Option.some.inj hq64, hE.pick _ ⟨rfl, trivial⟩, hS⟩
  · clear hE hS a w; rintro a w ⟨q68, s66, hle67, rfl, hE, hS⟩
    replace h56 := Sl.mono RFleetTask.mono hle67 h56
    replace h61 := Sl.mono (RL.mono RI.mono) hle67 h61
    refine W.ret ?_
    refine finG (fn := Try.f33) (rs := [.tmp 0]) (vs := [_]) hE rfl ⟨rfl, trivial⟩ ?_
    obtain rfl := Option.some.inj hr
    exact ⟨rfl, (hS.down (Sg.Le.trans (Sg.Le.trans hle55 hle63) hle67))⟩
set_option maxHeartbeats 8000000 in
theorem Fishref2short_ok  {w : World} {s : Sg} {R : List HP} {x0 : List FleetTask} {a0 : Option Addr} {c0 : Nat} {x1 : Int} {x2 : Int} {x3 : Int} (hS : St w s (R)) (h0 : Sl 6 RFleetTask s a0 c0 x0) {r : Int} (hr : Fishref2short x0 x1 x2 x3 = r) :
    Calls Try.prog 64 [.slice a0 x0.length c0, .int .i64 x1, .int .i64 x2, .int .i64 x3].toArray w (fun e w => e = .returned (.int .i64 r) ∧ St w s (R)) := by
  refine enter Try.func64 rfl rfl rfl fun a hE => ?_
  rw [Fishref2short] at hr
  refine W.seq ?_
  refine W.region ?_
  refine WL.vS hS hE (runs_plain rfl) (Gives.p hE rfl) rfl ?_; clear hE a; intro a hE
  refine WL.nil ?_
  refine W.seq ?_
  refine W.region ?_
  refine WL.vS hS hE (runs_plain rfl) (Gives.p hE rfl) rfl ?_; clear hE a; intro a hE
  refine WL.nil ?_
  refine W.seq ?_
  refine W.seq ?_
  refine W.region ?_
  refine WL.vS hS hE (runs_plain rfl) (Gives.p hE rfl) rfl ?_; clear hE a; intro a hE
  refine WL.vS hS hE (runs_plain rfl) (Gives.len hE rfl sl33) rfl ?_; clear hE a; intro a hE
  refine WL.vS hS hE (runs_plain rfl) (Gives.p hE rfl) rfl ?_; clear hE a; intro a hE
  refine WL.nil ?_
  obtain ⟨q52, hq51, hr⟩ := bndS hr
  refine W.cut (fun a w => ∃ (q62 : Int), q62 = q52 ∧ Rep a 50 [(9, .int .i64 q62)] ∧ St w s (R)) ?_ ?_
  · refine W.block ?_
    refine W.loop (fun m a w => ∃ (rest55 : List FleetTask) (k53 : Nat), ∃ (q62 : Int), rest55.length = m ∧ x0.drop k53 = rest55 ∧ Fishref2short.loop1 x1 x2 x3 rest55 q62 = q52 ∧ Rep a 50 [(1, .int .i64 x1), (2, .int .i64 x2), (3, .int .i64 x3), (9, .int .i64 q62), (12, .slice a0 x0.length c0), (13, .int .i64 ((x0).length : Int)), (14, .int .i64 ((k53 : Nat) : Int))] ∧ St w s (R)) (m := x0.length) ⟨x0, 0, 0, rfl, rfl, hq51, hE.pick _ ⟨rfl, rfl, rfl, rfl, rfl, rfl, rfl, trivial⟩, hS⟩ ?_
    clear hE hS a w hq51; rintro m59 a w ⟨rest55, k53, q62, rfl, hd56, hq51, hE, hS⟩
    refine W.gen fun K63 hK63 => ?_
    rcases rest55 with _ | ⟨x54, rest55⟩
    · have hlt57 := drop_nil hd56
      refine W.seq ?_
      refine W.region ?_
      refine WL.vS hS hE (runs_plain rfl) (Gives.p hE rfl) rfl ?_; clear hE a; intro a hE
      refine WL.nil ?_
      refine W.seq ?_
      refine W.condF hE rfl (decide_eq_false (by omega)) ?_
      subst hK63
      refine W.exit rfl ?_
      exact ⟨q62, hq51, hE.pick _ ⟨rfl, trivial⟩, hS⟩
    · obtain ⟨hlt57, hx58, hd56⟩ := drop_cons hd56
      rw [Fishref2short.loop1] at hq51
      refine W.seq ?_
      refine W.region ?_
      refine WL.vS hS hE (runs_plain rfl) (Gives.p hE rfl) rfl ?_; clear hE a; intro a hE
      refine WL.nil ?_
      refine W.seq ?_
      refine W.condT hE rfl (decide_eq_true (by omega)) ?_
      refine W.skip ?_
      refine W.seq ?_
      refine W.block ?_
      refine W.seq ?_
      refine W.region ?_
      obtain ⟨cs64, hl65, hR66, hat67⟩ := h0.at hx58
      subst hR66
      refine WL.vS hS hE (runs_plain rfl) (Gives.idx hE k53 rfl rfl sl33 rfl hlt57 (h0.aok hlt57)) rfl ?_; clear hE a; intro a hE
      refine WL.vS hS hE (runs_plain rfl) (Gives.loadA hE rfl (fun w h => hat67 w _ h) ty84) rfl ?_; clear hE a; intro a hE
      refine WL.alloc hE hS (runs_plain rfl) zr84 rfl ?_; clear hE hS a w; intro b68 a w hE hS
      refine WL.storeI hE hS 0 rfl (FleetTask.cells x54) (runs_plain rfl) rfl rfl rfl ty84 rfl rfl rfl rfl ?_; clear hE hS a w; intro a w hE hS
      refine WL.nil ?_
      refine W.seq ?_
      refine W.seq ?_
      obtain ⟨q70, hq69, hq51⟩ := bndS hq51
      refine W.cut (fun a w => ∃ (q73 : Bool), q73 = q70 ∧ Rep a 50 [(1, .int .i64 x1), (2, .int .i64 x2), (3, .int .i64 x3), (9, .int .i64 q62), (11, .pointer (some ⟨b68, 0, none⟩)), (12, .slice a0 x0.length c0), (13, .int .i64 ((x0).length : Int)), (14, .int .i64 ((k53 : Nat) : Int)), (27, .bool q73)] ∧ St w s (pt b68 (.cells (FleetTask.cells x54).toArray 84 (0, 0)) :: R)) ?_ ?_
      · refine W.gen fun K74 hK74 => ?_
        refine W.region ?_
        refine WL.vS hS hE (runs_plain rfl) (Gives.fld hE rfl fl84_0) rfl ?_; clear hE a; intro a hE
        refine WL.vS hS hE (runs_plain rfl) (Gives.loadB hE 0 rfl rfl rfl ty3) rfl ?_; clear hE a; intro a hE
        refine WL.vS hS hE (runs_plain rfl) (Gives.p hE rfl) rfl ?_; clear hE a; intro a hE
        refine WL.vS hS hE (runs_plain rfl) (Gives.p hE rfl) rfl ?_; clear hE a; intro a hE
        refine WL.vS hS hE (runs_plain rfl) (Gives.p hE rfl) rfl ?_; clear hE a; intro a hE
        rcases Bool.eq_false_or_eq_true (x54.From == x2) with hg75 | hg75
        · replace hq69 := iteT hg75 hq69
          refine WL.vS hS hE (runs_if hE rfl rfl rfl hg75) (Gives.fld hE rfl fl84_2) rfl ?_; clear hE a; intro a hE
          refine WL.vS hS hE (runs_if hE rfl rfl rfl hg75) (Gives.loadB hE 0 rfl rfl rfl ty3) rfl ?_; clear hE a; intro a hE
          refine WL.vS hS hE (runs_if hE rfl rfl rfl hg75) (Gives.p hE rfl) rfl ?_; clear hE a; intro a hE
          refine WL.vS hS hE (runs_if hE rfl rfl rfl hg75) (Gives.p hE rfl) rfl ?_; clear hE a; intro a hE
          refine WL.vS hS hE (runs_plain rfl) (Gives.pickT hE rfl hg75 rfl) rfl ?_; clear hE a; intro a hE
          refine WL.nil ?_
          subst hK74
          exact ⟨decide (x54.Dep ≤ x3), hq69, hE.pick _ ⟨rfl, rfl, rfl, rfl, rfl, rfl, rfl, rfl, rfl, trivial⟩, hS⟩
        · replace hq69 := iteF hg75 hq69
          refine WL.no hE (runs_not hE rfl rfl rfl (by rw [hg75]; decide)) rfl ?_; clear hE a; intro a hE
          refine WL.no hE (runs_not hE rfl rfl rfl (by rw [hg75]; decide)) rfl ?_; clear hE a; intro a hE
          refine WL.no hE (runs_not hE rfl rfl rfl (by rw [hg75]; decide)) rfl ?_; clear hE a; intro a hE
          refine WL.no hE (runs_not hE rfl rfl rfl (by rw [hg75]; decide)) rfl ?_; clear hE a; intro a hE
          refine WL.vS hS hE (runs_plain rfl) (Gives.pickF hE rfl hg75 rfl) rfl ?_; clear hE a; intro a hE
          refine WL.nil ?_
          subst hK74
          exact ⟨false, hq69, hE.pick _ ⟨rfl, rfl, rfl, rfl, rfl, rfl, rfl, rfl, rfl, trivial⟩, hS⟩
      · clear hE hS a w; rintro a w ⟨q73, rfl, hE, hS⟩
        obtain ⟨q77, hq76, hq51⟩ := bndS hq51
        refine W.cut (fun a w => ∃ (q80 : Int), q80 = q77 ∧ Rep a 50 [(1, .int .i64 x1), (2, .int .i64 x2), (3, .int .i64 x3), (9, .int .i64 q80), (11, .pointer (some ⟨b68, 0, none⟩)), (12, .slice a0 x0.length c0), (13, .int .i64 ((x0).length : Int)), (14, .int .i64 ((k53 : Nat) : Int))] ∧ St w s (pt b68 (.cells (FleetTask.cells x54).toArray 84 (0, 0)) :: R)) ?_ ?_
        · refine W.gen fun K81 hK81 => ?_
          refine W.cond hE rfl (fun hc82 => ?_) (fun hc82 => ?_)
          · replace hq76 := iteT hc82 hq76
            refine W.region ?_
            refine WL.vS hS hE (runs_plain rfl) (Gives.p hE rfl) rfl ?_; clear hE a; intro a hE
            refine WL.vS hS hE (runs_plain rfl) (Gives.fld hE rfl fl84_5) rfl ?_; clear hE a; intro a hE
            refine WL.vS hS hE (runs_plain rfl) (Gives.loadB hE 0 rfl rfl rfl ty3) rfl ?_; clear hE a; intro a hE
            refine WL.vS hS hE (runs_plain rfl) (Gives.p hE rfl) rfl ?_; clear hE a; intro a hE
            refine WL.vS hS hE (runs_plain rfl) (Gives.p hE rfl) rfl ?_; clear hE a; intro a hE
            refine WL.nil ?_
            subst hK81
            exact ⟨w64 (q62 + x54.Units), hq76, hE.pick _ ⟨rfl, rfl, rfl, rfl, rfl, rfl, rfl, rfl, trivial⟩, hS⟩
          · replace hq76 := iteF hc82 hq76
            refine W.skip ?_
            subst hK81
            exact ⟨q62, hq76, hE.pick _ ⟨rfl, rfl, rfl, rfl, rfl, rfl, rfl, rfl, trivial⟩, hS⟩
        · clear hE hS a w; rintro a w ⟨q80, rfl, hE, hS⟩
          refine W.seq ?_
          obtain ⟨q84, hq83, hq51⟩ := bndS hq51
          refine W.cut (fun a w => ∃ (q87 : Bool), q87 = q84 ∧ Rep a 50 [(1, .int .i64 x1), (2, .int .i64 x2), (3, .int .i64 x3), (9, .int .i64 q80), (11, .pointer (some ⟨b68, 0, none⟩)), (12, .slice a0 x0.length c0), (13, .int .i64 ((x0).length : Int)), (14, .int .i64 ((k53 : Nat) : Int)), (43, .bool q87)] ∧ St w s (pt b68 (.cells (FleetTask.cells x54).toArray 84 (0, 0)) :: R)) ?_ ?_
          · refine W.gen fun K88 hK88 => ?_
            refine W.region ?_
            refine WL.vS hS hE (runs_plain rfl) (Gives.fld hE rfl fl84_1) rfl ?_; clear hE a; intro a hE
            refine WL.vS hS hE (runs_plain rfl) (Gives.loadB hE 0 rfl rfl rfl ty3) rfl ?_; clear hE a; intro a hE
            refine WL.vS hS hE (runs_plain rfl) (Gives.p hE rfl) rfl ?_; clear hE a; intro a hE
            refine WL.vS hS hE (runs_plain rfl) (Gives.p hE rfl) rfl ?_; clear hE a; intro a hE
            refine WL.vS hS hE (runs_plain rfl) (Gives.p hE rfl) rfl ?_; clear hE a; intro a hE
            rcases Bool.eq_false_or_eq_true (x54.To == x2) with hg89 | hg89
            · replace hq83 := iteT hg89 hq83
              refine WL.vS hS hE (runs_if hE rfl rfl rfl hg89) (Gives.fld hE rfl fl84_3) rfl ?_; clear hE a; intro a hE
              refine WL.vS hS hE (runs_if hE rfl rfl rfl hg89) (Gives.loadB hE 0 rfl rfl rfl ty3) rfl ?_; clear hE a; intro a hE
              refine WL.vS hS hE (runs_if hE rfl rfl rfl hg89) (Gives.p hE rfl) rfl ?_; clear hE a; intro a hE
              refine WL.vS hS hE (runs_if hE rfl rfl rfl hg89) (Gives.p hE rfl) rfl ?_; clear hE a; intro a hE
              refine WL.vS hS hE (runs_if hE rfl rfl rfl hg89) (Gives.p hE rfl) rfl ?_; clear hE a; intro a hE
              refine WL.vS hS hE (runs_if hE rfl rfl rfl hg89) (Gives.p hE rfl) rfl ?_; clear hE a; intro a hE
              refine WL.vS hS hE (runs_plain rfl) (Gives.pickT hE rfl hg89 rfl) rfl ?_; clear hE a; intro a hE
              refine WL.nil ?_
              subst hK88
              exact ⟨decide ((w64 (x54.Arr + x1)) ≤ x3), hq83, hE.pick _ ⟨rfl, rfl, rfl, rfl, rfl, rfl, rfl, rfl, rfl, trivial⟩, hS⟩
            · replace hq83 := iteF hg89 hq83
              refine WL.no hE (runs_not hE rfl rfl rfl (by rw [hg89]; decide)) rfl ?_; clear hE a; intro a hE
              refine WL.no hE (runs_not hE rfl rfl rfl (by rw [hg89]; decide)) rfl ?_; clear hE a; intro a hE
              refine WL.no hE (runs_not hE rfl rfl rfl (by rw [hg89]; decide)) rfl ?_; clear hE a; intro a hE
              refine WL.no hE (runs_not hE rfl rfl rfl (by rw [hg89]; decide)) rfl ?_; clear hE a; intro a hE
              refine WL.no hE (runs_not hE rfl rfl rfl (by rw [hg89]; decide)) rfl ?_; clear hE a; intro a hE
              refine WL.no hE (runs_not hE rfl rfl rfl (by rw [hg89]; decide)) rfl ?_; clear hE a; intro a hE
              refine WL.vS hS hE (runs_plain rfl) (Gives.pickF hE rfl hg89 rfl) rfl ?_; clear hE a; intro a hE
              refine WL.nil ?_
              subst hK88
              exact ⟨false, hq83, hE.pick _ ⟨rfl, rfl, rfl, rfl, rfl, rfl, rfl, rfl, rfl, trivial⟩, hS⟩
          · clear hE hS a w; rintro a w ⟨q87, rfl, hE, hS⟩
            obtain ⟨q91, hq90, hq51⟩ := bndS hq51
            refine W.cut (fun a w => ∃ (q94 : Int), q94 = q91 ∧ Rep a 50 [(1, .int .i64 x1), (2, .int .i64 x2), (3, .int .i64 x3), (9, .int .i64 q94), (12, .slice a0 x0.length c0), (13, .int .i64 ((x0).length : Int)), (14, .int .i64 ((k53 : Nat) : Int))] ∧ St w s (pt b68 (.cells (FleetTask.cells x54).toArray 84 (0, 0)) :: R)) ?_ ?_
            · refine W.gen fun K95 hK95 => ?_
              refine W.cond hE rfl (fun hc96 => ?_) (fun hc96 => ?_)
              · replace hq90 := iteT hc96 hq90
                refine W.region ?_
                refine WL.vS hS hE (runs_plain rfl) (Gives.p hE rfl) rfl ?_; clear hE a; intro a hE
                refine WL.vS hS hE (runs_plain rfl) (Gives.fld hE rfl fl84_5) rfl ?_; clear hE a; intro a hE
                refine WL.vS hS hE (runs_plain rfl) (Gives.loadB hE 0 rfl rfl rfl ty3) rfl ?_; clear hE a; intro a hE
                refine WL.vS hS hE (runs_plain rfl) (Gives.p hE rfl) rfl ?_; clear hE a; intro a hE
                refine WL.vS hS hE (runs_plain rfl) (Gives.p hE rfl) rfl ?_; clear hE a; intro a hE
                refine WL.nil ?_
                subst hK95
                exact ⟨w64 (q80 - x54.Units), hq90, hE.pick _ ⟨rfl, rfl, rfl, rfl, rfl, rfl, rfl, trivial⟩, hS⟩
              · replace hq90 := iteF hc96 hq90
                refine W.skip ?_
                subst hK95
                exact ⟨q80, hq90, hE.pick _ ⟨rfl, rfl, rfl, rfl, rfl, rfl, rfl, trivial⟩, hS⟩
            · clear hE hS a w; rintro a w ⟨q94, rfl, hE, hS⟩
              refine W.region ?_
              refine WL.vS hS hE (runs_plain rfl) (Gives.inc hE rfl (by have := h0.small; omega)) rfl ?_; clear hE a; intro a hE
              refine WL.vS hS hE (runs_plain rfl) (Gives.p hE rfl) rfl ?_; clear hE a; intro a hE
              refine WL.nil ?_
              replace hS := hS.tail
              subst hK63
              exact ⟨rest55.length, Nat.lt_succ_self _, rest55, k53 + 1, q94, rfl, hd56, hq51, hE.pick _ ⟨rfl, rfl, rfl, rfl, rfl, rfl, rfl, trivial⟩, hS⟩
  · clear hE hS a w; rintro a w ⟨q62, rfl, hE, hS⟩
    refine W.seq ?_
    refine W.region ?_
    refine WL.vS hS hE (runs_plain rfl) (Gives.p hE rfl) rfl ?_; clear hE a; intro a hE
    refine WL.vS hS hE (runs_plain rfl) (Gives.p hE rfl) rfl ?_; clear hE a; intro a hE
    refine WL.nil ?_
    refine W.ret ?_
    refine finG (fn := Try.f64) (rs := [.tmp 8]) (vs := [_]) hE rfl ⟨rfl, trivial⟩ ?_
    subst hr
    exact ⟨rfl, hS⟩
set_option maxHeartbeats 8000000 in
theorem Fishref2MomentsOf_ok  {w : World} {s : Sg} {R : List HP} {x0 : List FleetTask} {a0 : Option Addr} {c0 : Nat} {x1 : Int} (hS : St w s (R)) (h0 : Sl 6 RFleetTask s a0 c0 x0) {r : (List FleetMoment)} (hr : Fishref2MomentsOf x0 x1 = some r) :
    Calls Try.prog 44 [.slice a0 x0.length c0, .int .i64 x1].toArray w (fun e w => ∃ (a0 : Option Addr) (c0 n0 : Nat) (cs0 : List Value), e = .returned (.slice a0 n0 c0) ∧ Ev 3 RFleetMoment s cs0 r ∧ r.length = n0 ∧ St w s (vecC 71 3 a0 c0 n0 cs0 :: R)) := by
  refine enter Try.func44 rfl rfl rfl fun a hE => ?_
  rw [Fishref2MomentsOf] at hr
  refine W.seq ?_
  refine W.region ?_
  refine WL.vS hS hE (runs_plain rfl) (Gives.p hE rfl) rfl ?_; clear hE a; intro a hE
  refine WL.nil ?_
  refine W.seq ?_
  refine W.region ?_
  replace hS := hS.vecNil 71 3
  refine WL.vS hS hE (runs_plain rfl) (Gives.p hE rfl) rfl ?_; clear hE a; intro a hE
  refine WL.nil ?_
  refine W.seq ?_
  refine W.seq ?_
  refine W.region ?_
  refine WL.vS hS hE (runs_plain rfl) (Gives.p hE rfl) rfl ?_; clear hE a; intro a hE
  refine WL.nil ?_
  obtain ⟨q53, hq52, hr⟩ := bindS hr
  refine W.cut (fun a w => ∃ (q63 : List FleetMoment), ∃ (a64 : Option Addr), ∃ (c65 : Nat), ∃ (n67 : Nat), ∃ (cs68 : List Value), q63 = q53 ∧ Ev 3 RFleetMoment s cs68 q63 ∧ q63.length = n67 ∧ Rep a 64 [(5, .slice a64 n67 c65)] ∧ St w s (vecC 71 3 a64 c65 n67 cs68 :: R)) ?_ ?_
  · refine W.block ?_
    refine W.loop (fun m a w => ∃ (rest56 : Nat) (k54 : Nat), ∃ (q63 : List FleetMoment), ∃ (a64 : Option Addr), ∃ (c65 : Nat), ∃ (n67 : Nat), ∃ (cs68 : List Value), rest56 = m ∧ k54 + rest56 = 12 ∧ Fishref2MomentsOf.loop1 x0 x1 rest56 k54 q63 = some q53 ∧ Ev 3 RFleetMoment s cs68 q63 ∧ q63.length = n67 ∧ Rep a 64 [(0, .slice a0 x0.length c0), (1, .int .i64 x1), (5, .slice a64 n67 c65), (11, .int .i64 ((k54 : Nat) : Int))] ∧ St w s (vecC 71 3 a64 c65 n67 cs68 :: R)) (m := 12) ⟨12, 0, [], none, 0, 0, [], rfl, by omega, hq52, (Ev.nil), (rfl), hE.pick _ ⟨rfl, rfl, rfl, rfl, trivial⟩, hS⟩ ?_
    clear hE hS a w hq52; rintro m60 a w ⟨rest56, k54, q63, a64, c65, n67, cs68, rfl, hd57, hq52, h66, rfl, hE, hS⟩
    refine W.gen fun K70 hK70 => ?_
    rcases rest56 with _ | rest56
    · skip
      refine W.seq ?_
      refine W.region ?_
      refine WL.vS hS hE (runs_plain rfl) (Gives.p hE rfl) rfl ?_; clear hE a; intro a hE
      refine WL.nil ?_
      refine W.seq ?_
      refine W.condF hE rfl (decide_eq_false (by omega)) ?_
      subst hK70
      refine W.exit rfl ?_
      exact ⟨q63, a64, c65, q63.length, cs68, Option.some.inj hq52, h66, rfl, hE.pick _ ⟨rfl, trivial⟩, hS⟩
    · have hlt58 : k54 < 12 := by omega
      rw [Fishref2MomentsOf.loop1] at hq52
      refine W.seq ?_
      refine W.region ?_
      refine WL.vS hS hE (runs_plain rfl) (Gives.p hE rfl) rfl ?_; clear hE a; intro a hE
      refine WL.nil ?_
      refine W.seq ?_
      refine W.condT hE rfl (decide_eq_true (by omega)) ?_
      refine W.skip ?_
      refine W.seq ?_
      refine W.block ?_
      refine W.seq ?_
      refine W.region ?_
      refine WL.vS hS hE (runs_plain rfl) (Gives.p hE rfl) rfl ?_; clear hE a; intro a hE
      refine WL.vS hS hE (runs_plain rfl) (Gives.p hE rfl) rfl ?_; clear hE a; intro a hE
      refine WL.nil ?_
      refine W.seq ?_
      refine W.region ?_
      refine WL.vS hS hE (runs_plain rfl) (Gives.p hE rfl) rfl ?_; clear hE a; intro a hE
      refine WL.vS hS hE (runs_plain rfl) (Gives.build hE (vs := [(0, .int .i64 ((k54 : Nat) : Int))]) [.int .i64 ((k54 : Nat) : Int), .int .i64 0, .int .i64 0] rfl (by kernel_rfl)) rfl ?_; clear hE a; intro a hE
      refine WL.alloc hE hS (runs_plain rfl) zr71 rfl ?_; clear hE hS a w; intro b71 a w hE hS
      refine WL.storeI hE hS 0 rfl [.int .i64 ((k54 : Nat) : Int), .int .i64 0, .int .i64 0] (runs_plain rfl) rfl rfl rfl ty71 rfl rfl rfl rfl ?_; clear hE hS a w; intro a w hE hS
      refine WL.nil ?_
      refine W.seq ?_
      refine W.seq ?_
      refine W.region ?_
      refine WL.vS hS hE (runs_plain rfl) (Gives.p hE rfl) rfl ?_; clear hE a; intro a hE
      refine WL.vS hS hE (runs_plain rfl) (Gives.len hE rfl sl33) rfl ?_; clear hE a; intro a hE
      refine WL.vS hS hE (runs_plain rfl) (Gives.p hE rfl) rfl ?_; clear hE a; intro a hE
      refine WL.nil ?_
      obtain ⟨q73, hq72, hq52⟩ := bndS hq52
      refine W.cut (fun a w => ∃ (q83 : Int), ∃ (q84 : Int), (q83, q84) = q73 ∧ Rep a 64 [(0, .slice a0 x0.length c0), (1, .int .i64 x1), (5, .slice a64 q63.length c65), (7, .pointer (some ⟨b71, 0, none⟩)), (11, .int .i64 ((k54 : Nat) : Int))] ∧ St w s (pt b71 (.cells #[.int .i64 ((k54 : Nat) : Int), .int .i64 q83, .int .i64 q84] 71 (0, 0)) :: vecC 71 3 a64 c65 q63.length cs68 :: R)) ?_ ?_
      · refine W.block ?_
        refine W.loop (fun m a w => ∃ (rest76 : List FleetTask) (k74 : Nat), ∃ (q83 : Int), ∃ (q84 : Int), rest76.length = m ∧ x0.drop k74 = rest76 ∧ Fishref2MomentsOf.loop2 x0 x1 k54 rest76 q83 q84 = q73 ∧ Rep a 64 [(0, .slice a0 x0.length c0), (1, .int .i64 x1), (5, .slice a64 q63.length c65), (6, .int .i64 ((k54 : Nat) : Int)), (7, .pointer (some ⟨b71, 0, none⟩)), (11, .int .i64 ((k54 : Nat) : Int)), (16, .slice a0 x0.length c0), (17, .int .i64 ((x0).length : Int)), (18, .int .i64 ((k74 : Nat) : Int))] ∧ St w s (pt b71 (.cells #[.int .i64 ((k54 : Nat) : Int), .int .i64 q83, .int .i64 q84] 71 (0, 0)) :: vecC 71 3 a64 c65 q63.length cs68 :: R)) (m := x0.length) ⟨x0, 0, 0, 0, rfl, rfl, hq72, hE.pick _ ⟨rfl, rfl, rfl, rfl, rfl, rfl, rfl, rfl, rfl, trivial⟩, hS⟩ ?_
        clear hE hS a w hq72; rintro m80 a w ⟨rest76, k74, q83, q84, rfl, hd77, hq72, hE, hS⟩
        refine W.gen fun K85 hK85 => ?_
        rcases rest76 with _ | ⟨x75, rest76⟩
        · have hlt78 := drop_nil hd77
          refine W.seq ?_
          refine W.region ?_
          refine WL.vS hS hE (runs_plain rfl) (Gives.p hE rfl) rfl ?_; clear hE a; intro a hE
          refine WL.nil ?_
          refine W.seq ?_
          refine W.condF hE rfl (decide_eq_false (by omega)) ?_
          subst hK85
          refine W.exit rfl ?_
          exact ⟨q83, q84, hq72, hE.pick _ ⟨rfl, rfl, rfl, rfl, rfl, trivial⟩, hS⟩
        · obtain ⟨hlt78, hx79, hd77⟩ := drop_cons hd77
          rw [Fishref2MomentsOf.loop2] at hq72
          refine W.seq ?_
          refine W.region ?_
          refine WL.vS hS hE (runs_plain rfl) (Gives.p hE rfl) rfl ?_; clear hE a; intro a hE
          refine WL.nil ?_
          refine W.seq ?_
          refine W.condT hE rfl (decide_eq_true (by omega)) ?_
          refine W.skip ?_
          refine W.seq ?_
          refine W.block ?_
          refine W.seq ?_
          refine W.region ?_
          obtain ⟨cs86, hl87, hR88, hat89⟩ := h0.at hx79
          subst hR88
          refine WL.vS hS hE (runs_plain rfl) (Gives.idx hE k74 rfl rfl sl33 rfl hlt78 (h0.aok hlt78)) rfl ?_; clear hE a; intro a hE
          refine WL.vS hS hE (runs_plain rfl) (Gives.loadA hE rfl (fun w h => hat89 w _ h) ty84) rfl ?_; clear hE a; intro a hE
          refine WL.alloc hE hS (runs_plain rfl) zr84 rfl ?_; clear hE hS a w; intro b90 a w hE hS
          refine WL.storeI hE hS 0 rfl (FleetTask.cells x75) (runs_plain rfl) rfl rfl rfl ty84 rfl rfl rfl rfl ?_; clear hE hS a w; intro a w hE hS
          refine WL.nil ?_
          refine W.seq ?_
          refine W.region ?_
          refine WL.vS hS hE (runs_plain rfl) (Gives.p hE rfl) rfl ?_; clear hE a; intro a hE
          refine WL.vS hS hE (runs_plain rfl) (Gives.p hE rfl) rfl ?_; clear hE a; intro a hE
          refine WL.vS hS hE (runs_plain rfl) (Gives.p hE rfl) rfl ?_; clear hE a; intro a hE
          refine WL.vS hS hE (runs_plain rfl) (Gives.fld hE rfl fl84_2) rfl ?_; clear hE a; intro a hE
          refine WL.vS hS hE (runs_plain rfl) (Gives.loadB hE 0 rfl rfl rfl ty3) rfl ?_; clear hE a; intro a hE
          refine WL.fn hE (Fishref2short_ok hS h0 rfl) (runs_plain rfl) bd64 rfl rfl ?_
          clear hE hS; rintro e w ⟨rfl, hS⟩; refine ⟨_, rfl, ?_⟩; clear a; intro a hE
          refine WL.vS hS hE (runs_plain rfl) (Gives.p hE rfl) rfl ?_; clear hE a; intro a hE
          refine WL.nil ?_
          refine W.seq ?_
          obtain ⟨q92, hq91, hq72⟩ := bndS hq72
          refine W.cut (fun a w => ∃ (q95 : Bool), q95 = q92 ∧ Rep a 64 [(0, .slice a0 x0.length c0), (1, .int .i64 x1), (5, .slice a64 q63.length c65), (6, .int .i64 ((k54 : Nat) : Int)), (7, .pointer (some ⟨b71, 0, none⟩)), (9, .pointer (some ⟨b90, 0, none⟩)), (10, .int .i64 (Fishref2short x0 x1 ((k54 : Nat) : Int) x75.Dep)), (11, .int .i64 ((k54 : Nat) : Int)), (16, .slice a0 x0.length c0), (17, .int .i64 ((x0).length : Int)), (18, .int .i64 ((k74 : Nat) : Int)), (48, .bool q95)] ∧ St w s (pt b90 (.cells (FleetTask.cells x75).toArray 84 (0, 0)) :: pt b71 (.cells #[.int .i64 ((k54 : Nat) : Int), .int .i64 q83, .int .i64 q84] 71 (0, 0)) :: vecC 71 3 a64 c65 q63.length cs68 :: R)) ?_ ?_
          · refine W.gen fun K96 hK96 => ?_
            refine W.region ?_
            refine WL.vS hS hE (runs_plain rfl) (Gives.p hE rfl) rfl ?_; clear hE a; intro a hE
            refine WL.vS hS hE (runs_plain rfl) (Gives.fld hE rfl fl71_2) rfl ?_; clear hE a; intro a hE
            refine WL.vS hS hE (runs_plain rfl) (Gives.loadB hE 1 rfl rfl rfl ty3) rfl ?_; clear hE a; intro a hE
            refine WL.vS hS hE (runs_plain rfl) (Gives.p hE rfl) rfl ?_; clear hE a; intro a hE
            refine WL.vS hS hE (runs_plain rfl) (Gives.p hE rfl) rfl ?_; clear hE a; intro a hE
            rcases Bool.eq_false_or_eq_true (decide ((Fishref2short x0 x1 ((k54 : Nat) : Int) x75.Dep) > q84)) with hg97 | hg97
            · replace hq91 := iteT hg97 hq91
              refine WL.no hE (runs_not hE rfl rfl rfl (by rw [hg97]; decide)) rfl ?_; clear hE a; intro a hE
              refine WL.no hE (runs_not hE rfl rfl rfl (by rw [hg97]; decide)) rfl ?_; clear hE a; intro a hE
              refine WL.no hE (runs_not hE rfl rfl rfl (by rw [hg97]; decide)) rfl ?_; clear hE a; intro a hE
              refine WL.no hE (runs_not hE rfl rfl rfl (by rw [hg97]; decide)) rfl ?_; clear hE a; intro a hE
              refine WL.no hE (runs_not hE rfl rfl rfl (by rw [hg97]; decide)) rfl ?_; clear hE a; intro a hE
              refine WL.no hE (runs_undef hE rfl rfl rfl) rfl ?_; clear hE a; intro a hE
              refine WL.no hE (runs_undef hE rfl rfl rfl) rfl ?_; clear hE a; intro a hE
              refine WL.no hE (runs_not hE rfl rfl rfl (by rw [hg97]; decide)) rfl ?_; clear hE a; intro a hE
              refine WL.no hE (runs_not hE rfl rfl rfl (by rw [hg97]; decide)) rfl ?_; clear hE a; intro a hE
              refine WL.no hE (runs_undef hE rfl rfl rfl) rfl ?_; clear hE a; intro a hE
              refine WL.no hE (runs_undef hE rfl rfl rfl) rfl ?_; clear hE a; intro a hE
              refine WL.no hE (runs_undef hE rfl rfl rfl) rfl ?_; clear hE a; intro a hE
              refine WL.no hE (runs_undef hE rfl rfl rfl) rfl ?_; clear hE a; intro a hE
              refine WL.no hE (runs_undef hE rfl rfl rfl) rfl ?_; clear hE a; intro a hE
              refine WL.no hE (runs_not hE rfl rfl rfl (by rw [hg97]; decide)) rfl ?_; clear hE a; intro a hE
              refine WL.vS hS hE (runs_plain rfl) (Gives.pickT hE rfl hg97 rfl) rfl ?_; clear hE a; intro a hE
              refine WL.nil ?_
              subst hK96
              exact ⟨true, hq91, hE.pick _ ⟨rfl, rfl, rfl, rfl, rfl, rfl, rfl, rfl, rfl, rfl, rfl, rfl, trivial⟩, hS⟩
            · replace hq91 := iteF hg97 hq91
              refine WL.vS hS hE (runs_if hE rfl rfl rfl hg97) (Gives.p hE rfl) rfl ?_; clear hE a; intro a hE
              refine WL.vS hS hE (runs_if hE rfl rfl rfl hg97) (Gives.fld hE rfl fl71_2) rfl ?_; clear hE a; intro a hE
              refine WL.vS hS hE (runs_if hE rfl rfl rfl hg97) (Gives.loadB hE 1 rfl rfl rfl ty3) rfl ?_; clear hE a; intro a hE
              refine WL.vS hS hE (runs_if hE rfl rfl rfl hg97) (Gives.p hE rfl) rfl ?_; clear hE a; intro a hE
              refine WL.vS hS hE (runs_if hE rfl rfl rfl hg97) (Gives.p hE rfl) rfl ?_; clear hE a; intro a hE
              rcases Bool.eq_false_or_eq_true ((Fishref2short x0 x1 ((k54 : Nat) : Int) x75.Dep) == q84) with hg98 | hg98
              · replace hq91 := iteT hg98 hq91
                refine WL.vS hS hE (runs_if hE rfl rfl rfl hg98) (Gives.p hE rfl) rfl ?_; clear hE a; intro a hE
                refine WL.vS hS hE (runs_if hE rfl rfl rfl hg98) (Gives.p hE rfl) rfl ?_; clear hE a; intro a hE
                refine WL.vS hS hE (runs_if hE rfl rfl rfl hg97) (Gives.pickT hE rfl hg98 rfl) rfl ?_; clear hE a; intro a hE
                refine WL.vS hS hE (runs_if hE rfl rfl rfl hg97) (Gives.p hE rfl) rfl ?_; clear hE a; intro a hE
                rcases Bool.eq_false_or_eq_true (decide ((Fishref2short x0 x1 ((k54 : Nat) : Int) x75.Dep) > 0)) with hg99 | hg99
                · replace hq91 := iteT hg99 hq91
                  refine WL.vS hS hE (runs_if hE rfl rfl rfl hg99) (Gives.fld hE rfl fl84_2) rfl ?_; clear hE a; intro a hE
                  refine WL.vS hS hE (runs_if hE rfl rfl rfl hg99) (Gives.loadB hE 0 rfl rfl rfl ty3) rfl ?_; clear hE a; intro a hE
                  refine WL.vS hS hE (runs_if hE rfl rfl rfl hg99) (Gives.fld hE rfl fl71_1) rfl ?_; clear hE a; intro a hE
                  refine WL.vS hS hE (runs_if hE rfl rfl rfl hg99) (Gives.loadB hE 1 rfl rfl rfl ty3) rfl ?_; clear hE a; intro a hE
                  refine WL.vS hS hE (runs_if hE rfl rfl rfl hg99) (Gives.p hE rfl) rfl ?_; clear hE a; intro a hE
                  refine WL.vS hS hE (runs_if hE rfl rfl rfl hg97) (Gives.pickT hE rfl hg99 rfl) rfl ?_; clear hE a; intro a hE
                  refine WL.vS hS hE (runs_plain rfl) (Gives.pickF hE rfl hg97 rfl) rfl ?_; clear hE a; intro a hE
                  refine WL.nil ?_
                  subst hK96
                  exact ⟨decide (x75.Dep < q83), hq91, hE.pick _ ⟨rfl, rfl, rfl, rfl, rfl, rfl, rfl, rfl, rfl, rfl, rfl, rfl, trivial⟩, hS⟩
                · replace hq91 := iteF hg99 hq91
                  refine WL.no hE (runs_not hE rfl rfl rfl (by rw [hg99]; decide)) rfl ?_; clear hE a; intro a hE
                  refine WL.no hE (runs_not hE rfl rfl rfl (by rw [hg99]; decide)) rfl ?_; clear hE a; intro a hE
                  refine WL.no hE (runs_not hE rfl rfl rfl (by rw [hg99]; decide)) rfl ?_; clear hE a; intro a hE
                  refine WL.no hE (runs_not hE rfl rfl rfl (by rw [hg99]; decide)) rfl ?_; clear hE a; intro a hE
                  refine WL.no hE (runs_not hE rfl rfl rfl (by rw [hg99]; decide)) rfl ?_; clear hE a; intro a hE
                  refine WL.vS hS hE (runs_if hE rfl rfl rfl hg97) (Gives.pickF hE rfl hg99 rfl) rfl ?_; clear hE a; intro a hE
                  refine WL.vS hS hE (runs_plain rfl) (Gives.pickF hE rfl hg97 rfl) rfl ?_; clear hE a; intro a hE
                  refine WL.nil ?_
                  subst hK96
                  exact ⟨false, hq91, hE.pick _ ⟨rfl, rfl, rfl, rfl, rfl, rfl, rfl, rfl, rfl, rfl, rfl, rfl, trivial⟩, hS⟩
              · replace hq91 := iteF hg98 hq91
                refine WL.no hE (runs_not hE rfl rfl rfl (by rw [hg98]; decide)) rfl ?_; clear hE a; intro a hE
                refine WL.no hE (runs_not hE rfl rfl rfl (by rw [hg98]; decide)) rfl ?_; clear hE a; intro a hE
                refine WL.vS hS hE (runs_if hE rfl rfl rfl hg97) (Gives.pickF hE rfl hg98 rfl) rfl ?_; clear hE a; intro a hE
                refine WL.vS hS hE (runs_if hE rfl rfl rfl hg97) (Gives.p hE rfl) rfl ?_; clear hE a; intro a hE
                refine WL.no hE (runs_not hE rfl rfl rfl (by decide)) rfl ?_; clear hE a; intro a hE
                refine WL.no hE (runs_not hE rfl rfl rfl (by decide)) rfl ?_; clear hE a; intro a hE
                refine WL.no hE (runs_not hE rfl rfl rfl (by decide)) rfl ?_; clear hE a; intro a hE
                refine WL.no hE (runs_not hE rfl rfl rfl (by decide)) rfl ?_; clear hE a; intro a hE
                refine WL.no hE (runs_not hE rfl rfl rfl (by decide)) rfl ?_; clear hE a; intro a hE
                refine WL.vS hS hE (runs_if hE rfl rfl rfl hg97) (Gives.pickF hE rfl rfl rfl) rfl ?_; clear hE a; intro a hE
                refine WL.vS hS hE (runs_plain rfl) (Gives.pickF hE rfl hg97 rfl) rfl ?_; clear hE a; intro a hE
                refine WL.nil ?_
                subst hK96
                exact ⟨false, hq91, hE.pick _ ⟨rfl, rfl, rfl, rfl, rfl, rfl, rfl, rfl, rfl, rfl, rfl, rfl, trivial⟩, hS⟩
          · clear hE hS a w; rintro a w ⟨q95, rfl, hE, hS⟩
            obtain ⟨q101, hq100, hq72⟩ := bndS hq72
            refine W.cut (fun a w => ∃ (q104 : Int), ∃ (q105 : Int), (q104, q105) = q101 ∧ Rep a 64 [(0, .slice a0 x0.length c0), (1, .int .i64 x1), (5, .slice a64 q63.length c65), (6, .int .i64 ((k54 : Nat) : Int)), (7, .pointer (some ⟨b71, 0, none⟩)), (11, .int .i64 ((k54 : Nat) : Int)), (16, .slice a0 x0.length c0), (17, .int .i64 ((x0).length : Int)), (18, .int .i64 ((k74 : Nat) : Int))] ∧ St w s (pt b90 (.cells (FleetTask.cells x75).toArray 84 (0, 0)) :: pt b71 (.cells #[.int .i64 ((k54 : Nat) : Int), .int .i64 q104, .int .i64 q105] 71 (0, 0)) :: vecC 71 3 a64 c65 q63.length cs68 :: R)) ?_ ?_
            · refine W.gen fun K106 hK106 => ?_
              refine W.cond hE rfl (fun hc107 => ?_) (fun hc107 => ?_)
              · replace hq100 := iteT hc107 hq100
                refine W.region ?_
                refine WL.vS hS hE (runs_plain rfl) (Gives.fld hE rfl fl84_2) rfl ?_; clear hE a; intro a hE
                refine WL.vS hS hE (runs_plain rfl) (Gives.loadB hE 0 rfl rfl rfl ty3) rfl ?_; clear hE a; intro a hE
                refine WL.vS hS hE (runs_plain rfl) (Gives.p hE rfl) rfl ?_; clear hE a; intro a hE
                refine WL.vS hS hE (runs_plain rfl) (Gives.fld hE rfl fl71_1) rfl ?_; clear hE a; intro a hE
                refine WL.storeI hE hS 1 rfl [.int .i64 ((k54 : Nat) : Int), .int .i64 x75.Dep, .int .i64 q84] (runs_plain rfl) rfl rfl rfl ty3 rfl rfl rfl rfl ?_; clear hE hS a w; intro a w hE hS
                refine WL.vS hS hE (runs_plain rfl) (Gives.fld hE rfl fl71_2) rfl ?_; clear hE a; intro a hE
                refine WL.storeI hE hS 1 rfl [.int .i64 ((k54 : Nat) : Int), .int .i64 x75.Dep, .int .i64 (Fishref2short x0 x1 ((k54 : Nat) : Int) x75.Dep)] (runs_plain rfl) rfl rfl rfl ty3 rfl rfl rfl rfl ?_; clear hE hS a w; intro a w hE hS
                refine WL.nil ?_
                subst hK106
                exact ⟨x75.Dep, (Fishref2short x0 x1 ((k54 : Nat) : Int) x75.Dep), hq100, hE.pick _ ⟨rfl, rfl, rfl, rfl, rfl, rfl, rfl, rfl, rfl, trivial⟩, hS⟩
              · replace hq100 := iteF hc107 hq100
                refine W.skip ?_
                subst hK106
                exact ⟨q83, q84, hq100, hE.pick _ ⟨rfl, rfl, rfl, rfl, rfl, rfl, rfl, rfl, rfl, trivial⟩, hS⟩
            · clear hE hS a w; rintro a w ⟨q104, q105, rfl, hE, hS⟩
              dsimp only at hq72
              refine W.region ?_
              refine WL.vS hS hE (runs_plain rfl) (Gives.inc hE rfl (by have := h0.small; omega)) rfl ?_; clear hE a; intro a hE
              refine WL.vS hS hE (runs_plain rfl) (Gives.p hE rfl) rfl ?_; clear hE a; intro a hE
              refine WL.nil ?_
              replace hS := hS.tail
              subst hK85
              exact ⟨rest76.length, Nat.lt_succ_self _, rest76, k74 + 1, q104, q105, rfl, hd77, hq72, hE.pick _ ⟨rfl, rfl, rfl, rfl, rfl, rfl, rfl, rfl, rfl, trivial⟩, hS⟩
      · clear hE hS a w; rintro a w ⟨q83, q84, rfl, hE, hS⟩
        dsimp only at hq52
        refine W.seq ?_
        refine W.region ?_
        refine WL.vS hS hE (runs_plain rfl) (Gives.fld hE rfl fl71_2) rfl ?_; clear hE a; intro a hE
        refine WL.vS hS hE (runs_plain rfl) (Gives.loadB hE 0 rfl rfl rfl ty3) rfl ?_; clear hE a; intro a hE
        refine WL.vS hS hE (runs_plain rfl) (Gives.p hE rfl) rfl ?_; clear hE a; intro a hE
        refine WL.nil ?_
        obtain ⟨q109, hq108, hq52⟩ := bindS hq52
        refine W.cut (fun a w => ∃ (q112 : List FleetMoment), ∃ (a113 : Option Addr), ∃ (c114 : Nat), ∃ (n116 : Nat), ∃ (cs117 : List Value), q112 = q109 ∧ Ev 3 RFleetMoment s cs117 q112 ∧ q112.length = n116 ∧ Rep a 64 [(0, .slice a0 x0.length c0), (1, .int .i64 x1), (5, .slice a113 n116 c114), (11, .int .i64 ((k54 : Nat) : Int))] ∧ St w s (pt b71 (.cells #[.int .i64 ((k54 : Nat) : Int), .int .i64 q83, .int .i64 q84] 71 (0, 0)) :: vecC 71 3 a113 c114 n116 cs117 :: R)) ?_ ?_
        · refine W.gen fun K119 hK119 => ?_
          refine W.cond hE rfl (fun hc120 => ?_) (fun hc120 => ?_)
          · replace hq108 := iteT hc120 hq108
            refine W.region ?_
            refine WL.vS hS hE (runs_plain rfl) (Gives.p hE rfl) rfl ?_; clear hE a; intro a hE
            refine WL.vS hS hE (runs_plain rfl) (Gives.loadBA hE 0 rfl rfl ty71) rfl ?_; clear hE a; intro a hE
            refine WL.lit hE hS (e := 71) (es := 3) (vs := [(0, .agg [.int .i64 ((k54 : Nat) : Int), .int .i64 q83, .int .i64 q84].toArray)]) (cs := [.int .i64 ((k54 : Nat) : Int), .int .i64 q83, .int .i64 q84]) (runs_plain rfl) rfl (by kernel_rfl) rfl ?_; clear hE hS a w; intro b121 a w hE hS
            obtain ⟨x122, hx123, hq108⟩ := bindS hq108
            refine WL.appD hE hS 1 (m := 1) (runs_plain rfl) rfl rfl rfl ap65 rfl h66 rfl (xs := [(FleetMoment.mk ((k54 : Nat) : Int) q83 q84)]) (Ev.cons (c1 := [.int .i64 ((k54 : Nat) : Int), .int .i64 q83, .int .i64 q84]) rfl rfl (Ev.nil)) rfl rfl hx123 rfl ?_; clear hE hS a w; intro a124 c125 cs126 a w h127 hE hS
            refine WL.vS hS hE (runs_plain rfl) (Gives.p hE rfl) rfl ?_; clear hE a; intro a hE
            refine WL.nil ?_
            subst hK119
            exact ⟨x122, a124, c125, x122.length, cs126, Option.some.inj hq108, h127, (rfl), hE.pick _ ⟨rfl, rfl, rfl, rfl, trivial⟩, hS⟩
          · replace hq108 := iteF hc120 hq108
            refine W.skip ?_
            subst hK119
            exact ⟨q63, a64, c65, q63.length, cs68, Option.some.inj hq108, h66, rfl, hE.pick _ ⟨rfl, rfl, rfl, rfl, trivial⟩, hS⟩
        · clear hE hS a w; rintro a w ⟨q112, a113, c114, n116, cs117, rfl, h115, rfl, hE, hS⟩
          refine W.region ?_
          refine WL.vS hS hE (runs_plain rfl) (Gives.inc hE rfl (by omega)) rfl ?_; clear hE a; intro a hE
          refine WL.vS hS hE (runs_plain rfl) (Gives.p hE rfl) rfl ?_; clear hE a; intro a hE
          refine WL.nil ?_
          replace hS := hS.tail
          subst hK70
          exact ⟨rest56, Nat.lt_succ_self _, rest56, k54 + 1, q112, a113, c114, q112.length, cs117, rfl, (by omega), hq52, h115, rfl, hE.pick _ ⟨rfl, rfl, rfl, rfl, trivial⟩, hS⟩
  · clear hE hS a w; rintro a w ⟨q63, a64, c65, n67, cs68, rfl, h66, rfl, hE, hS⟩
    refine W.seq ?_
    refine W.region ?_
    refine WL.vS hS hE (runs_plain rfl) (Gives.p hE rfl) rfl ?_; clear hE a; intro a hE
    refine WL.vS hS hE (runs_plain rfl) (Gives.p hE rfl) rfl ?_; clear hE a; intro a hE
    refine WL.nil ?_
    refine W.ret ?_
    refine finG (fn := Try.f44) (rs := [.tmp 4]) (vs := [_]) hE rfl ⟨rfl, trivial⟩ ?_
    obtain rfl := Option.some.inj hr
    exact ⟨a64, c65, q63.length, cs68, rfl, h66, rfl, hS⟩
set_option maxHeartbeats 8000000 in
theorem SlicesEqualLfleetMoment_ok  {w : World} {s : Sg} {R : List HP} {x0 : List FleetMoment} {a0 : Option Addr} {c0 : Nat} {x1 : List FleetMoment} {a1 : Option Addr} {c1 : Nat} (hS : St w s (R)) (h0 : Sl 3 RFleetMoment s a0 c0 x0) (h1 : Sl 3 RFleetMoment s a1 c1 x1) {r : Bool} (hr : SlicesEqualLfleetMoment x0 x1 = some r) :
    Calls Try.prog 43 [.slice a0 x0.length c0, .slice a1 x1.length c1].toArray w (fun e w => e = .returned (.bool r) ∧ St w s (R)) := by
  refine enter Try.func43 rfl rfl rfl fun a hE => ?_
  rw [SlicesEqualLfleetMoment] at hr
  refine W.seq ?_
  refine W.region ?_
  refine WL.vS hS hE (runs_plain rfl) (Gives.p hE rfl) rfl ?_; clear hE a; intro a hE
  refine WL.nil ?_
  refine W.seq ?_
  refine W.seq ?_
  refine W.region ?_
  refine WL.vS hS hE (runs_plain rfl) (Gives.p hE rfl) rfl ?_; clear hE a; intro a hE
  refine WL.vS hS hE (runs_plain rfl) (Gives.len hE rfl sl65) rfl ?_; clear hE a; intro a hE
  refine WL.vS hS hE (runs_plain rfl) (Gives.p hE rfl) rfl ?_; clear hE a; intro a hE
  refine WL.vS hS hE (runs_plain rfl) (Gives.len hE rfl sl65) rfl ?_; clear hE a; intro a hE
  refine WL.vS hS hE (runs_plain rfl) (Gives.p hE rfl) rfl ?_; clear hE a; intro a hE
  refine WL.nil ?_
  refine W.cond hE rfl (fun hc51 => ?_) (fun hc51 => ?_)
  · replace hr := iteT hc51 hr
    refine W.seq ?_
    refine W.region ?_
    refine WL.vS hS hE (runs_plain rfl) (Gives.p hE rfl) rfl ?_; clear hE a; intro a hE
    refine WL.nil ?_
    refine W.ret ?_
    refine finG (fn := Try.f43) (rs := [.tmp 4]) (vs := [_]) hE rfl ⟨rfl, trivial⟩ ?_
    obtain rfl := Option.some.inj hr
    exact ⟨rfl, hS⟩
  · replace hr := iteF hc51 hr
    refine W.skip ?_
    refine W.seq ?_
    refine W.seq ?_
    refine W.region ?_
    refine WL.vS hS hE (runs_plain rfl) (Gives.p hE rfl) rfl ?_; clear hE a; intro a hE
    refine WL.vS hS hE (runs_plain rfl) (Gives.len hE rfl sl65) rfl ?_; clear hE a; intro a hE
    refine WL.vS hS hE (runs_plain rfl) (Gives.p hE rfl) rfl ?_; clear hE a; intro a hE
    refine WL.nil ?_
    obtain ⟨q53, hq52, hr⟩ := bindS hr
    refine W.cut (fun a w => (.next ()) = q53 ∧ Rep a 26 [] ∧ St w s (R)) ?_ ?_
    · refine W.block ?_
      refine W.loop (fun m a w => ∃ (rest56 : List FleetMoment) (k54 : Nat), rest56.length = m ∧ x0.drop k54 = rest56 ∧ SlicesEqualLfleetMoment.loop1 x1 rest56 k54 = some q53 ∧ Rep a 26 [(0, .slice a0 x0.length c0), (1, .slice a1 x1.length c1), (12, .int .i64 ((x0).length : Int)), (13, .int .i64 ((k54 : Nat) : Int))] ∧ St w s (R)) (m := x0.length) ⟨x0, 0, rfl, rfl, hq52, hE.pick _ ⟨rfl, rfl, rfl, rfl, trivial⟩, hS⟩ ?_
      clear hE hS a w hq52; rintro m60 a w ⟨rest56, k54, rfl, hd57, hq52, hE, hS⟩
      refine W.gen fun K63 hK63 => ?_
      rcases rest56 with _ | ⟨x55, rest56⟩
      · have hlt58 := drop_nil hd57
        refine W.seq ?_
        refine W.region ?_
        refine WL.vS hS hE (runs_plain rfl) (Gives.p hE rfl) rfl ?_; clear hE a; intro a hE
        refine WL.nil ?_
        refine W.seq ?_
        refine W.condF hE rfl (decide_eq_false (by omega)) ?_
        subst hK63
        refine W.exit rfl ?_
        exact ⟨Option.some.inj hq52, hE.pick _ trivial, hS⟩
      · obtain ⟨hlt58, hx59, hd57⟩ := drop_cons hd57
        rw [SlicesEqualLfleetMoment.loop1] at hq52
        refine W.seq ?_
        refine W.region ?_
        refine WL.vS hS hE (runs_plain rfl) (Gives.p hE rfl) rfl ?_; clear hE a; intro a hE
        refine WL.nil ?_
        refine W.seq ?_
        refine W.condT hE rfl (decide_eq_true (by omega)) ?_
        refine W.skip ?_
        refine W.seq ?_
        refine W.block ?_
        refine W.seq ?_
        refine W.region ?_
        refine WL.vS hS hE (runs_plain rfl) (Gives.p hE rfl) rfl ?_; clear hE a; intro a hE
        refine WL.vS hS hE (runs_plain rfl) (Gives.p hE rfl) rfl ?_; clear hE a; intro a hE
        refine WL.nil ?_
        refine W.seq ?_
        refine W.regionQ (C := fun w => St w s (R)) mixed (by kernel_rfl) hS.drew ?_
        refine QL.v hE (runs_plain rfl) (Gives.p hE rfl) rfl ?_; clear hE a; intro a hE
        refine QL.v hE (runs_plain rfl) (Gives.p hE rfl) rfl ?_; clear hE a; intro a hE
        obtain ⟨cs64, hl65, hR66, hat67⟩ := h0.at hx59
        subst hR66
        refine QL.v hE (runs_plain rfl) (Gives.idx hE k54 rfl rfl sl65 rfl hlt58 (h0.aok hlt58)) rfl ?_; clear hE a; intro a hE
        refine QL.v hE (runs_plain rfl) (Gives.loadA hE rfl (fun w h => hat67 w _ h) ty71) rfl ?_; clear hE a; intro a hE
        refine QL.v hE (runs_plain rfl) (Gives.p hE rfl) rfl ?_; clear hE a; intro a hE
        refine QL.v hE (runs_plain rfl) (Gives.p hE rfl) rfl ?_; clear hE a; intro a hE
        obtain ⟨x68, hx69, hq52⟩ := bindS hq52
        obtain ⟨hi70, hlt71, hy72⟩ := gx_some hx69
        obtain ⟨cs73, hl74, hR75, hat76⟩ := h1.at hy72
        subst hR75
        refine QL.v hE (runs_plain rfl) (Gives.idx hE (((k54 : Nat) : Int)).toNat rfl rfl sl65 hi70 hlt71 (h1.aok hlt71)) rfl ?_; clear hE a; intro a hE
        refine QL.v hE (runs_plain rfl) (Gives.loadA hE rfl (fun w h => hat76 w _ h) ty71) rfl ?_; clear hE a; intro a hE
        refine QL.v hE (runs_plain rfl) (show Gives _ _ _ _ (Value.bool (!((x55.Place == x68.Place) && ((x55.At == x68.At) && (x55.Short == x68.Short))))) from Gives.neS hE [.i .i64, .i .i64, .i .i64] [.i .i64 x55.Place, .i .i64 x55.At, .i .i64 x55.Short] [.i .i64 x68.Place, .i .i64 x68.At, .i .i64 x68.Short] rfl rfl se71 rfl rfl rfl rfl) rfl ?_; clear hE a; intro a hE
        refine QL.nil ?_; clear hS w; intro w hS
        refine W.cond hE rfl (fun hc77 => ?_) (fun hc77 => ?_)
        · replace hq52 := iteT hc77 hq52
          refine W.seq ?_
          refine W.region ?_
          refine WL.vS hS hE (runs_plain rfl) (Gives.p hE rfl) rfl ?_; clear hE a; intro a hE
          refine WL.nil ?_
          refine W.ret ?_
          subst hK63
          rw [← Option.some.inj hq52] at hr
          dsimp only at hr
          refine finG (fn := Try.f43) (rs := [.tmp 4]) (vs := [_]) hE rfl ⟨rfl, trivial⟩ ?_
          obtain rfl := Option.some.inj hr
          exact ⟨rfl, hS⟩
        · replace hq52 := iteF hc77 hq52
          refine W.skip ?_
          refine W.region ?_
          refine WL.vS hS hE (runs_plain rfl) (Gives.inc hE rfl (by have := h0.small; omega)) rfl ?_; clear hE a; intro a hE
          refine WL.vS hS hE (runs_plain rfl) (Gives.p hE rfl) rfl ?_; clear hE a; intro a hE
          refine WL.nil ?_
          subst hK63
          exact ⟨rest56.length, Nat.lt_succ_self _, rest56, k54 + 1, rfl, hd57, hq52, hE.pick _ ⟨rfl, rfl, rfl, rfl, trivial⟩, hS⟩
    · clear hE hS a w; rintro a w ⟨rfl, hE, hS⟩
      dsimp only at hr
      refine W.seq ?_
      refine W.region ?_
      refine WL.vS hS hE (runs_plain rfl) (Gives.p hE rfl) rfl ?_; clear hE a; intro a hE
      refine WL.nil ?_
      refine W.ret ?_
      refine finG (fn := Try.f43) (rs := [.tmp 4]) (vs := [_]) hE rfl ⟨rfl, trivial⟩ ?_
      obtain rfl := Option.some.inj hr
      exact ⟨rfl, hS⟩
set_option maxHeartbeats 8000000 in
theorem Fishlaw2FleetMoments_ok {fu : Nat}  {w : World} {s : Sg} {R : List HP} {x0 : List FleetTask} {a0 : Option Addr} {c0 : Nat} {x1 : Int} (hS : St w s (R)) (h0 : Sl 6 RFleetTask s a0 c0 x0) {r : Bool} (hr : Fishlaw2FleetMoments fu x0 x1 = some r) :
    Calls Try.prog 9 [.slice a0 x0.length c0, .int .i64 x1].toArray w (fun e w => e = .returned (.bool r) ∧ St w s (R)) := by
  refine enter Try.func9 rfl rfl rfl fun a hE => ?_
  rw [Fishlaw2FleetMoments] at hr
  refine W.seq ?_
  refine W.region ?_
  refine WL.vS hS hE (runs_plain rfl) (Gives.p hE rfl) rfl ?_; clear hE a; intro a hE
  refine WL.nil ?_
  refine W.seq ?_
  refine W.region ?_
  refine WL.vS hS hE (runs_plain rfl) (Gives.p hE rfl) rfl ?_; clear hE a; intro a hE
  refine WL.vS hS hE (runs_plain rfl) (Gives.p hE rfl) rfl ?_; clear hE a; intro a hE
  obtain ⟨q51, hq52, hr⟩ := bindS hr
  refine WL.fn hE (FleetMoments_ok hS h0 hq52) (runs_plain rfl) bd41 rfl rfl ?_
  clear hE hS; rintro e w ⟨a53, c54, n55, cs56, s59, rfl, hle60, h57, rfl, hS⟩; refine ⟨_, rfl, ?_⟩; clear a; intro a hE
  replace h0 := Sl.mono RFleetTask.mono hle60 h0
  refine WL.vS hS hE (runs_plain rfl) (Gives.p hE rfl) rfl ?_; clear hE a; intro a hE
  refine WL.vS hS hE (runs_plain rfl) (Gives.p hE rfl) rfl ?_; clear hE a; intro a hE
  refine WL.vS hS hE (runs_plain rfl) (Gives.p hE rfl) rfl ?_; clear hE a; intro a hE
  refine WL.vS hS hE (runs_plain rfl) (Gives.p hE rfl) rfl ?_; clear hE a; intro a hE
  refine WL.vS hS hE (runs_plain rfl) (Gives.p hE rfl) rfl ?_; clear hE a; intro a hE
  refine WL.nil ?_
  refine W.seq ?_
  refine W.region ?_
  refine WL.vS hS hE (runs_plain rfl) (Gives.p hE rfl) rfl ?_; clear hE a; intro a hE
  refine WL.vS hS hE (runs_plain rfl) (Gives.p hE rfl) rfl ?_; clear hE a; intro a hE
  refine WL.fn hE (Fishref2TurnFault_ok hS h0 rfl) (runs_plain rfl) bd42 rfl rfl ?_
  clear hE hS; rintro e w ⟨rfl, hS⟩; refine ⟨_, rfl, ?_⟩; clear a; intro a hE
  refine WL.vS hS hE (runs_plain rfl) (Gives.p hE rfl) rfl ?_; clear hE a; intro a hE
  refine WL.nil ?_
  refine W.seq ?_
  refine W.seq ?_
  refine W.region ?_
  refine WL.vS hS hE (runs_plain rfl) (Gives.p hE rfl) rfl ?_; clear hE a; intro a hE
  refine WL.vS hS hE (runs_plain rfl) (Gives.p hE rfl) rfl ?_; clear hE a; intro a hE
  refine WL.nil ?_
  refine W.cond hE rfl (fun hc61 => ?_) (fun hc61 => ?_)
  · replace hr := iteT hc61 hr
    refine W.seq ?_
    obtain ⟨q63, hq62, hr⟩ := bindS hr
    refine W.cut (fun a w => ∃ (q66 : Bool), q66 = q63 ∧ Rep a 42 [(4, .bool q66)] ∧ St w s59 (vecC 71 3 a53 c54 q51.1.length cs56 :: R)) ?_ ?_
    · refine W.gen fun K67 hK67 => ?_
      refine W.region ?_
      obtain ⟨q68, hq69, hq62⟩ := bindS hq62
      refine WL.fn hE (Fishlaw2sets_ok hS  hq69) (runs_plain rfl) bd33 rfl rfl ?_
      clear hE hS; rintro e w ⟨rfl, hS⟩; refine ⟨_, rfl, ?_⟩; clear a; intro a hE
      refine WL.vS hS hE (runs_plain rfl) (Gives.p hE rfl) rfl ?_; clear hE a; intro a hE
      rcases Bool.eq_false_or_eq_true q68 with hg70 | hg70
      · replace hq62 := iteT hg70 hq62
        refine WL.vS hS hE (runs_if hE rfl rfl rfl hg70) (Gives.p hE rfl) rfl ?_; clear hE a; intro a hE
        refine WL.vS hS hE (runs_if hE rfl rfl rfl hg70) (Gives.p hE rfl) rfl ?_; clear hE a; intro a hE
        refine WL.vS hS hE (runs_if hE rfl rfl rfl hg70) (Gives.p hE rfl) rfl ?_; clear hE a; intro a hE
        refine WL.vS hS hE (runs_plain rfl) (Gives.pickT hE rfl hg70 rfl) rfl ?_; clear hE a; intro a hE
        refine WL.vS hS hE (runs_plain rfl) (Gives.p hE rfl) rfl ?_; clear hE a; intro a hE
        rcases Bool.eq_false_or_eq_true (q51.2 == (Fishref2TurnFault x0 x1)) with hg71 | hg71
        · replace hq62 := iteT hg71 hq62
          refine WL.vS hS hE (runs_if hE rfl rfl rfl hg71) (Gives.p hE rfl) rfl ?_; clear hE a; intro a hE
          refine WL.vS hS hE (runs_if hE rfl rfl rfl hg71) (Gives.len hE rfl sl65) rfl ?_; clear hE a; intro a hE
          refine WL.vS hS hE (runs_if hE rfl rfl rfl hg71) (Gives.p hE rfl) rfl ?_; clear hE a; intro a hE
          refine WL.vS hS hE (runs_plain rfl) (Gives.pickT hE rfl hg71 rfl) rfl ?_; clear hE a; intro a hE
          refine WL.vS hS hE (runs_plain rfl) (Gives.p hE rfl) rfl ?_; clear hE a; intro a hE
          refine WL.nil ?_
          subst hK67
          exact ⟨(((q51.1.length : Nat) : Int) == 0), Option.some.inj hq62, hE.pick _ ⟨rfl, trivial⟩, hS⟩
        · replace hq62 := iteF hg71 hq62
          refine WL.no hE (runs_not hE rfl rfl rfl (by rw [hg71]; decide)) rfl ?_; clear hE a; intro a hE
          refine WL.no hE (runs_not hE rfl rfl rfl (by rw [hg71]; decide)) rfl ?_; clear hE a; intro a hE
          refine WL.no hE (runs_not hE rfl rfl rfl (by rw [hg71]; decide)) rfl ?_; clear hE a; intro a hE
          refine WL.vS hS hE (runs_plain rfl) (Gives.pickF hE rfl hg71 rfl) rfl ?_; clear hE a; intro a hE
          refine WL.vS hS hE (runs_plain rfl) (Gives.p hE rfl) rfl ?_; clear hE a; intro a hE
          refine WL.nil ?_
          subst hK67
          exact ⟨false, Option.some.inj hq62, hE.pick _ ⟨rfl, trivial⟩, hS⟩
      · replace hq62 := iteF hg70 hq62
        refine WL.no hE (runs_not hE rfl rfl rfl (by rw [hg70]; decide)) rfl ?_; clear hE a; intro a hE
        refine WL.no hE (runs_not hE rfl rfl rfl (by rw [hg70]; decide)) rfl ?_; clear hE a; intro a hE
        refine WL.no hE (runs_not hE rfl rfl rfl (by rw [hg70]; decide)) rfl ?_; clear hE a; intro a hE
        refine WL.vS hS hE (runs_plain rfl) (Gives.pickF hE rfl hg70 rfl) rfl ?_; clear hE a; intro a hE
        refine WL.vS hS hE (runs_plain rfl) (Gives.p hE rfl) rfl ?_; clear hE a; intro a hE
        refine WL.no hE (runs_not hE rfl rfl rfl (by decide)) rfl ?_; clear hE a; intro a hE
        refine WL.no hE (runs_not hE rfl rfl rfl (by decide)) rfl ?_; clear hE a; intro a hE
        refine WL.no hE (runs_not hE rfl rfl rfl (by decide)) rfl ?_; clear hE a; intro a hE
        refine WL.vS hS hE (runs_plain rfl) (Gives.pickF hE rfl rfl rfl) rfl ?_; clear hE a; intro a hE
        refine WL.vS hS hE (runs_plain rfl) (Gives.p hE rfl) rfl ?_; clear hE a; intro a hE
        refine WL.nil ?_
        subst hK67
        exact ⟨false, Option.some.inj hq62, hE.pick _ ⟨rfl, trivial⟩, hS⟩
    · clear hE hS a w; rintro a w ⟨q66, rfl, hE, hS⟩
      refine W.ret ?_
      refine finG (fn := Try.f9) (rs := [.tmp 4]) (vs := [_]) hE rfl ⟨rfl, trivial⟩ ?_
      obtain rfl := Option.some.inj hr
      replace hS := hS.tail
      exact ⟨rfl, (hS.down hle60)⟩
  · replace hr := iteF hc61 hr
    refine W.skip ?_
    refine W.seq ?_
    obtain ⟨q73, hq72, hr⟩ := bindS hr
    refine W.cut (fun a w => ∃ (q76 : Bool), q76 = q73 ∧ Rep a 42 [(4, .bool q76)] ∧ St w s59 (vecC 71 3 a53 c54 q51.1.length cs56 :: R)) ?_ ?_
    · refine W.gen fun K77 hK77 => ?_
      refine W.region ?_
      obtain ⟨q78, hq79, hq72⟩ := bindS hq72
      refine WL.fn hE (Fishlaw2sets_ok hS  hq79) (runs_plain rfl) bd33 rfl rfl ?_
      clear hE hS; rintro e w ⟨rfl, hS⟩; refine ⟨_, rfl, ?_⟩; clear a; intro a hE
      refine WL.vS hS hE (runs_plain rfl) (Gives.p hE rfl) rfl ?_; clear hE a; intro a hE
      rcases Bool.eq_false_or_eq_true q78 with hg80 | hg80
      · replace hq72 := iteT hg80 hq72
        refine WL.vS hS hE (runs_if hE rfl rfl rfl hg80) (Gives.p hE rfl) rfl ?_; clear hE a; intro a hE
        refine WL.vS hS hE (runs_if hE rfl rfl rfl hg80) (Gives.p hE rfl) rfl ?_; clear hE a; intro a hE
        refine WL.vS hS hE (runs_plain rfl) (Gives.pickT hE rfl hg80 rfl) rfl ?_; clear hE a; intro a hE
        refine WL.vS hS hE (runs_plain rfl) (Gives.p hE rfl) rfl ?_; clear hE a; intro a hE
        rcases Bool.eq_false_or_eq_true (q51.2 == 0) with hg81 | hg81
        · replace hq72 := iteT hg81 hq72
          refine WL.vS hS hE (runs_if hE rfl rfl rfl hg81) (Gives.p hE rfl) rfl ?_; clear hE a; intro a hE
          refine WL.vS hS hE (runs_if hE rfl rfl rfl hg81) (Gives.p hE rfl) rfl ?_; clear hE a; intro a hE
          refine WL.vS hS hE (runs_if hE rfl rfl rfl hg81) (Gives.p hE rfl) rfl ?_; clear hE a; intro a hE
          obtain ⟨q82, hq83, hq72⟩ := bindS hq72
          refine WL.fn hE (Fishref2MomentsOf_ok hS h0 hq83) (runs_if hE rfl rfl rfl hg81) bd44 rfl rfl ?_
          clear hE hS; rintro e w ⟨a84, c85, n86, cs87, rfl, h88, rfl, hS⟩; refine ⟨_, rfl, ?_⟩; clear a; intro a hE
          obtain ⟨q90, hq91, hq72⟩ := bindS hq72
          have hF := hS.lendV RFleetMoment.mono 1 rfl h57 rfl; clear hS; obtain ⟨t92, hle93, hS, hs94, bk95⟩ := hF
          have hF := hS.lendV RFleetMoment.mono 0 rfl (Ev.mono RFleetMoment.mono hle93 h88) rfl; clear hS; obtain ⟨t96, hle97, hS, hs98, bk99⟩ := hF
          refine WL.fn hE (SlicesEqualLfleetMoment_ok hS (Sl.mono RFleetMoment.mono hle97 hs94) hs98 hq91) (runs_if hE rfl rfl rfl hg81) bd43 rfl rfl ?_
          clear hE hS; rintro e w ⟨rfl, hS⟩; refine ⟨_, rfl, ?_⟩; clear a; intro a hE
          replace hS := bk99 _ _ hS
          replace hS := bk95 _ _ hS
          refine WL.vS hS hE (runs_plain rfl) (Gives.pickT hE rfl hg81 rfl) rfl ?_; clear hE a; intro a hE
          refine WL.vS hS hE (runs_plain rfl) (Gives.p hE rfl) rfl ?_; clear hE a; intro a hE
          refine WL.nil ?_
          replace hS := hS.dropAt 1
          subst hK77
          exact ⟨q90, Option.some.inj hq72, hE.pick _ ⟨rfl, trivial⟩, hS⟩
        · replace hq72 := iteF hg81 hq72
          refine WL.no hE (runs_not hE rfl rfl rfl (by rw [hg81]; decide)) rfl ?_; clear hE a; intro a hE
          refine WL.no hE (runs_not hE rfl rfl rfl (by rw [hg81]; decide)) rfl ?_; clear hE a; intro a hE
          refine WL.no hE (runs_not hE rfl rfl rfl (by rw [hg81]; decide)) rfl ?_; clear hE a; intro a hE
          refine WL.no hE (runs_not hE rfl rfl rfl (by rw [hg81]; decide)) rfl ?_; clear hE a; intro a hE
          refine WL.no hE (runs_not hE rfl rfl rfl (by rw [hg81]; decide)) rfl ?_; clear hE a; intro a hE
          refine WL.vS hS hE (runs_plain rfl) (Gives.pickF hE rfl hg81 rfl) rfl ?_; clear hE a; intro a hE
          refine WL.vS hS hE (runs_plain rfl) (Gives.p hE rfl) rfl ?_; clear hE a; intro a hE
          refine WL.nil ?_
          subst hK77
          exact ⟨false, Option.some.inj hq72, hE.pick _ ⟨rfl, trivial⟩, hS⟩
      · replace hq72 := iteF hg80 hq72
        refine WL.no hE (runs_not hE rfl rfl rfl (by rw [hg80]; decide)) rfl ?_; clear hE a; intro a hE
        refine WL.no hE (runs_not hE rfl rfl rfl (by rw [hg80]; decide)) rfl ?_; clear hE a; intro a hE
        refine WL.vS hS hE (runs_plain rfl) (Gives.pickF hE rfl hg80 rfl) rfl ?_; clear hE a; intro a hE
        refine WL.vS hS hE (runs_plain rfl) (Gives.p hE rfl) rfl ?_; clear hE a; intro a hE
        refine WL.no hE (runs_not hE rfl rfl rfl (by decide)) rfl ?_; clear hE a; intro a hE
        refine WL.no hE (runs_not hE rfl rfl rfl (by decide)) rfl ?_; clear hE a; intro a hE
        refine WL.no hE (runs_not hE rfl rfl rfl (by decide)) rfl ?_; clear hE a; intro a hE
        refine WL.no hE (runs_not hE rfl rfl rfl (by decide)) rfl ?_; clear hE a; intro a hE
        refine WL.no hE (runs_not hE rfl rfl rfl (by decide)) rfl ?_; clear hE a; intro a hE
        refine WL.vS hS hE (runs_plain rfl) (Gives.pickF hE rfl rfl rfl) rfl ?_; clear hE a; intro a hE
        refine WL.vS hS hE (runs_plain rfl) (Gives.p hE rfl) rfl ?_; clear hE a; intro a hE
        refine WL.nil ?_
        subst hK77
        exact ⟨false, Option.some.inj hq72, hE.pick _ ⟨rfl, trivial⟩, hS⟩
    · clear hE hS a w; rintro a w ⟨q76, rfl, hE, hS⟩
      refine W.ret ?_
      refine finG (fn := Try.f9) (rs := [.tmp 4]) (vs := [_]) hE rfl ⟨rfl, trivial⟩ ?_
      obtain rfl := Option.some.inj hr
      replace hS := hS.tail
      exact ⟨rfl, (hS.down hle60)⟩
end Go.Proofs.Ytpoooohaoekbaaa
