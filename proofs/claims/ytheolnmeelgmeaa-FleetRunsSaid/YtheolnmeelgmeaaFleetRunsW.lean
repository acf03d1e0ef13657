/- The walks of the functions that FleetRuns reaches: each call comes to what its mirror says. The conditions are those of each contract. -/
import Derived.Test.YtheolnmeelgmeaaProg
import Derived.Test.YtheolnmeelgmeaaFleetRunsM
import Derived.Test.YtheolnmeelgmeaaFpMore
import Derived.Test.YtheolnmeelgmeaaFpRgn
import Derived.Test.YtheolnmeelgmeaaFleetRunsW1
set_option maxRecDepth 10000
namespace Go.Proofs.Ytheolnmeelgmeaa
open Go Go.Fp
set_option maxHeartbeats 8000000 in
theorem FleetTurns_ok {fu : Nat}  {w : World} {s : Sg} {R : List HP} {x0 : List FleetTask} {a0 : Option Addr} {c0 : Nat} {x1 : Int} (hS : St w s (R)) (h0 : Sl 6 RFleetTask s a0 c0 x0) {r : (List (List Int)) × Int} (hr : FleetTurns fu x0 x1 = some r) :
    Calls Try.prog 12 [.slice a0 x0.length c0, .int .i64 x1].toArray w (fun e w => ∃ (a0 : Option Addr) (c0 : Nat) (t : Sg), e = .returned (.tuple #[.slice a0 r.1.length c0, .int .i64 r.2]) ∧ s.Le t ∧ Sl 1 (RL 1 (RI .i64)) t a0 c0 r.1 ∧ St w t (R)) := by
  refine enter Try.func12 rfl rfl rfl fun a hE => ?_
  rw [FleetTurns] at hr
  refine W.seq ?_
  refine W.region ?_
  refine WL.vS hS hE (runs_plain rfl) (Gives.p hE rfl) rfl ?_; clear hE a; intro a hE
  refine WL.vS hS hE (runs_plain rfl) (Gives.p hE rfl) rfl ?_; clear hE a; intro a hE
  refine WL.nil ?_
  refine W.seq ?_
  refine W.seq ?_
  refine W.region ?_
  refine WL.vS hS hE (runs_plain rfl) (Gives.p hE rfl) rfl ?_; clear hE a; intro a hE
  refine WL.vS hS hE (runs_plain rfl) (Gives.p hE rfl) rfl ?_; clear hE a; intro a hE
  refine WL.fnq hE (FleetcheckTurn_ok hS h0 rfl (r := FleetcheckTurn x0 x1)) (runs_plain rfl) bd15 rfl rfl rfl ?_
  clear hE hS; rintro e w ⟨rfl, hS⟩; refine ⟨_, rfl, ?_⟩; clear a; intro a hE
  refine WL.vS hS hE (runs_plain rfl) (Gives.p hE rfl) rfl ?_; clear hE a; intro a hE
  refine WL.nil ?_
  refine W.seq ?_
  refine W.region ?_
  refine WL.vS hS hE (runs_plain rfl) (Gives.p hE rfl) rfl ?_; clear hE a; intro a hE
  refine WL.vS hS hE (runs_plain rfl) (Gives.p hE rfl) rfl ?_; clear hE a; intro a hE
  refine WL.nil ?_
  refine W.cond hE rfl (fun hc51 => ?_) (fun hc51 => ?_)
  · replace hr := iteT hc51 hr
    refine W.seq ?_
    refine W.region ?_
    refine WL.vS hS hE (runs_plain rfl) (Gives.p hE rfl) rfl ?_; clear hE a; intro a hE
    refine WL.vS hS hE (runs_plain rfl) (Gives.p hE rfl) rfl ?_; clear hE a; intro a hE
    refine WL.vS hS hE (runs_plain rfl) (Gives.p hE rfl) rfl ?_; clear hE a; intro a hE
    refine WL.nil ?_
    refine W.ret ?_
    refine finG (fn := Try.f12) (rs := [.tmp 4, .tmp 5]) (vs := [_, _]) hE rfl ⟨rfl, rfl, trivial⟩ ?_
    obtain rfl := Option.some.inj hr
    exact ⟨none, 0, s, rfl, (Sg.Le.refl _), Sl.nil, hS⟩
  · replace hr := iteF hc51 hr
    refine W.skip ?_
    refine W.seq ?_
    refine W.region ?_
    replace hS := hS.nestNil 31 3 1
    refine WL.vS hS hE (runs_plain rfl) (Gives.p hE rfl) rfl ?_; clear hE a; intro a hE
    refine WL.nil ?_
    refine W.seq ?_
    refine W.seq ?_
    refine W.region ?_
    refine WL.vS hS hE (runs_plain rfl) (Gives.p hE rfl) rfl ?_; clear hE a; intro a hE
    obtain ⟨q53, hq54, hr⟩ := bindS hr
    have hc_ := Fleetorder_ok hS h0 hq54
    refine WL.fnq hE (hc_) (runs_plain rfl) bd16 rfl rfl rfl ?_
    clear hE hS hc_; rintro e w ⟨a55, c56, n57, cs58, rfl, h59, rfl, hS⟩; refine ⟨_, rfl, ?_⟩; clear a; intro a hE
    refine WL.vS hS hE (runs_plain rfl) (Gives.len hE rfl sl31) rfl ?_; clear hE a; intro a hE
    refine WL.vS hS hE (runs_plain rfl) (Gives.p hE rfl) rfl ?_; clear hE a; intro a hE
    refine WL.nil ?_
    have hb72 : q53.length ≤ 9223372036854775807 := by have := hS.vecCap 0 rfl; unfold maxLen at this; omega
    obtain ⟨q62, hq61, hr⟩ := bindS hr
    refine W.cut (fun a w => ∃ (q73 : List (List Int)), ∃ (a74 : Option Addr), ∃ (c75 : Nat), ∃ (n76 : Nat), ∃ (ds77 : List In), q73 = q62 ∧ NEv 1 (RI .i64) s ds77 q73 ∧ q73.length = n76 ∧ Rep a 113 [(7, .slice a74 n76 c75)] ∧ St w s (vecC 3 1 a55 c56 q53.length cs58 :: nestC 31 3 1 a74 c75 n76 ds77 :: R)) ?_ ?_
    · refine W.block ?_
      refine W.loop (fun m a w => ∃ (rest65 : Nat) (k63 : Nat), ∃ (q73 : List (List Int)), ∃ (a74 : Option Addr), ∃ (c75 : Nat), ∃ (n76 : Nat), ∃ (ds77 : List In), rest65 = m ∧ k63 + rest65 = q53.length ∧ FleetTurns.loop1 x0 x1 fu q53 rest65 k63 q73 = some q62 ∧ NEv 1 (RI .i64) s ds77 q73 ∧ q73.length = n76 ∧ Rep a 113 [(0, .slice a0 x0.length c0), (1, .int .i64 x1), (7, .slice a74 n76 c75), (21, .slice a55 q53.length c56), (22, .int .i64 ((q53.length : Nat) : Int)), (23, .int .i64 ((k63 : Nat) : Int))] ∧ St w s (vecC 3 1 a55 c56 q53.length cs58 :: nestC 31 3 1 a74 c75 n76 ds77 :: R)) (m := q53.length) ⟨q53.length, 0, [], none, 0, 0, [], rfl, by omega, hq61, (NEv.nil), (rfl), hE.pick _ ⟨rfl, rfl, rfl, rfl, rfl, rfl, trivial⟩, hS⟩ ?_
      clear hE hS a w hq61; rintro m69 a w ⟨rest65, k63, q73, a74, c75, n76, ds77, rfl, hd66, hq61, h78, rfl, hE, hS⟩
      refine W.gen fun K80 hK80 => ?_
      rcases rest65 with _ | rest65
      · skip
        refine W.seq ?_
        refine W.region ?_
        refine WL.vS hS hE (runs_plain rfl) (Gives.p hE rfl) rfl ?_; clear hE a; intro a hE
        refine WL.nil ?_
        refine W.seq ?_
        refine W.condF hE rfl (decide_eq_false (by omega)) ?_
        subst hK80
        refine W.exit rfl ?_
        exact ⟨q73, a74, c75, q73.length, ds77, Option.some.inj hq61, h78, rfl, hE.pick _ ⟨rfl, trivial⟩, hS⟩
      · have hlt67 : k63 < q53.length := by omega
        rw [FleetTurns.loop1] at hq61
        refine W.seq ?_
        refine W.region ?_
        refine WL.vS hS hE (runs_plain rfl) (Gives.p hE rfl) rfl ?_; clear hE a; intro a hE
        refine WL.nil ?_
        refine W.seq ?_
        refine W.condT hE rfl (decide_eq_true (by omega)) ?_
        refine W.skip ?_
        refine W.seq ?_
        refine W.block ?_
        refine W.seq ?_
        refine W.region ?_
        obtain ⟨x81, hx82, hq61⟩ := bindS hq61
        obtain ⟨hi83, hlt84, hy85⟩ := gx_some hx82
        obtain ⟨vs86, hl87, hR88, hd89, hget90⟩ := h59.at hy85
        subst hR88
        refine WL.vS hS hE (runs_plain rfl) (Gives.idx hE ((((k63 : Nat) : Int)).toNat) rfl rfl sl31 hi83 (by omega) (hS.vecAok 0 rfl (by omega : (((k63 : Nat) : Int)).toNat < q53.length))) rfl ?_; clear hE a; intro a hE
        refine WL.vS hS hE (runs_plain rfl) (Gives.load1 hE rfl (fun w h => St.vecSees h 0 rfl ((((k63 : Nat) : Int)).toNat * 1) _ hget90) ty3) rfl ?_; clear hE a; intro a hE
        refine WL.vS hS hE (runs_plain rfl) (Gives.p hE rfl) rfl ?_; clear hE a; intro a hE
        refine WL.nil ?_
        refine W.seq ?_
        refine W.region ?_
        refine WL.vS hS hE (runs_plain rfl) (Gives.p hE rfl) rfl ?_; clear hE a; intro a hE
        refine WL.vS hS hE (runs_plain rfl) (Gives.p hE rfl) rfl ?_; clear hE a; intro a hE
        obtain ⟨x91, hx92, hq61⟩ := bindS hq61
        obtain ⟨hi93, hlt94, hy95⟩ := gx_some hx92
        obtain ⟨cs96, hl97, hR98, hat99⟩ := h0.at hy95
        subst hR98
        refine WL.vS hS hE (runs_plain rfl) (Gives.idx hE (x81).toNat rfl rfl sl22 hi93 hlt94 (h0.aok hlt94)) rfl ?_; clear hE a; intro a hE
        refine WL.vS hS hE (runs_plain rfl) (Gives.fld hE rfl fl34_5) rfl ?_; clear hE a; intro a hE
        refine WL.vS hS hE (runs_plain rfl) (Gives.load1 hE rfl (fun w h => (hat99 w _ h).one rfl) ty3) rfl ?_; clear hE a; intro a hE
        refine WL.vS hS hE (runs_plain rfl) (Gives.p hE rfl) rfl ?_; clear hE a; intro a hE
        refine WL.nil ?_
        obtain ⟨q112, hq111, hq61⟩ := bindS hq61
        refine W.cut (fun a w => ∃ (q117 : List (List Int)), ∃ (q124 : Int), ∃ (a118 : Option Addr), ∃ (c119 : Nat), ∃ (n120 : Nat), ∃ (ds121 : List In), (q117, q124) = q112 ∧ NEv 1 (RI .i64) s ds121 q117 ∧ q117.length = n120 ∧ Rep a 113 [(0, .slice a0 x0.length c0), (1, .int .i64 x1), (7, .slice a118 n120 c119), (21, .slice a55 q53.length c56), (22, .int .i64 ((q53.length : Nat) : Int)), (23, .int .i64 ((k63 : Nat) : Int))] ∧ St w s (vecC 3 1 a55 c56 q53.length cs58 :: nestC 31 3 1 a118 c119 n120 ds121 :: R)) ?_ ?_
        · refine W.block ?_
          refine W.loop (fun m a w => ∃ (n113 : Nat), ∃ (q117 : List (List Int)), ∃ (q124 : Int), ∃ (a118 : Option Addr), ∃ (c119 : Nat), ∃ (n120 : Nat), ∃ (ds121 : List In), n113 = m ∧ FleetTurns.loop3 x0 x1 x81 x91 n113 q117 q124 = some q112 ∧ NEv 1 (RI .i64) s ds121 q117 ∧ q117.length = n120 ∧ Rep a 113 [(0, .slice a0 x0.length c0), (1, .int .i64 x1), (7, .slice a118 n120 c119), (9, .int .i64 x81), (21, .slice a55 q53.length c56), (22, .int .i64 ((q53.length : Nat) : Int)), (23, .int .i64 ((k63 : Nat) : Int)), (31, .int .i64 x91.Units), (32, .int .i64 q124)] ∧ St w s (vecC 3 1 a55 c56 q53.length cs58 :: nestC 31 3 1 a118 c119 n120 ds121 :: R)) (m := fu) ⟨fu, q73, 0, a74, c75, q73.length, ds77, rfl, hq111, h78, rfl, hE.pick _ ⟨rfl, rfl, rfl, rfl, rfl, rfl, rfl, rfl, rfl, trivial⟩, hS⟩ ?_
          clear hE hS a w hq111; rintro m114 a w ⟨n113, q117, q124, a118, c119, n120, ds121, rfl, hq111, h122, rfl, hE, hS⟩
          refine W.gen fun K125 hK125 => ?_
          rcases n113 with _ | n113
          · rw [FleetTurns.loop3] at hq111; exact absurd hq111 (by simp)
          rw [FleetTurns.loop3] at hq111
          refine W.seq ?_
          refine W.region ?_
          refine WL.vS hS hE (runs_plain rfl) (Gives.p hE rfl) rfl ?_; clear hE a; intro a hE
          refine WL.nil ?_
          refine W.seq ?_
          refine W.cond hE rfl (fun hc126 => ?_) (fun hc126 => ?_)
          · replace hq111 := iteT hc126 hq111
            refine W.skip ?_
            refine W.seq ?_
            refine W.block ?_
            refine W.seq ?_
            refine W.region ?_
            refine WL.vS hS hE (runs_plain rfl) (Gives.p hE rfl) rfl ?_; clear hE a; intro a hE
            refine WL.nil ?_
            refine W.seq ?_
            refine W.seq ?_
            refine W.region ?_
            refine WL.vS hS hE (runs_plain rfl) (Gives.p hE rfl) rfl ?_; clear hE a; intro a hE
            refine WL.vS hS hE (runs_plain rfl) (Gives.len hE rfl sl23) rfl ?_; clear hE a; intro a hE
            refine WL.vS hS hE (runs_plain rfl) (Gives.p hE rfl) rfl ?_; clear hE a; intro a hE
            refine WL.nil ?_
            have hb138 : q117.length ≤ 9223372036854775807 := by have := hS.nCap 1 rfl; unfold maxLen at this; omega
            obtain ⟨q128, hq127, hq111⟩ := bindS hq111
            refine W.cut (fun a w => ∃ (q139 : Int), q139 = q128 ∧ Rep a 113 [(0, .slice a0 x0.length c0), (1, .int .i64 x1), (7, .slice a118 q117.length c119), (9, .int .i64 x81), (10, .int .i64 q139), (21, .slice a55 q53.length c56), (22, .int .i64 ((q53.length : Nat) : Int)), (23, .int .i64 ((k63 : Nat) : Int)), (31, .int .i64 x91.Units), (32, .int .i64 q124)] ∧ St w s (vecC 3 1 a55 c56 q53.length cs58 :: nestC 31 3 1 a118 c119 q117.length ds121 :: R)) ?_ ?_
            · refine W.block ?_
              refine W.loop (fun m a w => ∃ (rest131 : Nat) (k129 : Nat), ∃ (q139 : Int), rest131 = m ∧ k129 + rest131 = q117.length ∧ FleetTurns.loop4 x0 x1 x81 q117 rest131 k129 q139 = some q128 ∧ Rep a 113 [(0, .slice a0 x0.length c0), (1, .int .i64 x1), (7, .slice a118 q117.length c119), (9, .int .i64 x81), (10, .int .i64 q139), (21, .slice a55 q53.length c56), (22, .int .i64 ((q53.length : Nat) : Int)), (23, .int .i64 ((k63 : Nat) : Int)), (31, .int .i64 x91.Units), (32, .int .i64 q124), (34, .slice a118 q117.length c119), (35, .int .i64 ((q117.length : Nat) : Int)), (36, .int .i64 ((k129 : Nat) : Int))] ∧ St w s (vecC 3 1 a55 c56 q53.length cs58 :: nestC 31 3 1 a118 c119 q117.length ds121 :: R)) (m := q117.length) ⟨q117.length, 0, (-1), rfl, by omega, hq127, hE.pick _ ⟨rfl, rfl, rfl, rfl, rfl, rfl, rfl, rfl, rfl, rfl, rfl, rfl, rfl, trivial⟩, hS⟩ ?_
              clear hE hS a w hq127; rintro m135 a w ⟨rest131, k129, q139, rfl, hd132, hq127, hE, hS⟩
              refine W.gen fun K140 hK140 => ?_
              rcases rest131 with _ | rest131
              · skip
                refine W.seq ?_
                refine W.region ?_
                refine WL.vS hS hE (runs_plain rfl) (Gives.p hE rfl) rfl ?_; clear hE a; intro a hE
                refine WL.nil ?_
                refine W.seq ?_
                refine W.condF hE rfl (decide_eq_false (by omega)) ?_
                subst hK140
                refine W.exit rfl ?_
                exact ⟨q139, Option.some.inj hq127, hE.pick _ ⟨rfl, rfl, rfl, rfl, rfl, rfl, rfl, rfl, rfl, rfl, trivial⟩, hS⟩
              · have hlt133 : k129 < q117.length := by omega
                rw [FleetTurns.loop4] at hq127
                refine W.seq ?_
                refine W.region ?_
                refine WL.vS hS hE (runs_plain rfl) (Gives.p hE rfl) rfl ?_; clear hE a; intro a hE
                refine WL.nil ?_
                refine W.seq ?_
                refine W.condT hE rfl (decide_eq_true (by omega)) ?_
                refine W.skip ?_
                refine W.seq ?_
                refine W.block ?_
                refine W.seq ?_
                refine W.region ?_
                refine WL.vS hS hE (runs_plain rfl) (Gives.p hE rfl) rfl ?_; clear hE a; intro a hE
                obtain ⟨x141, hx142, hq127⟩ := bindS hq127
                obtain ⟨hi143, hlt144, hy145⟩ := gx_some hx142
                obtain ⟨a146, c147, cs148, hd149, hev150⟩ := h122.at hy145
                refine WL.vS hS hE (runs_plain rfl) (Gives.idx hE ((((k129 : Nat) : Int)).toNat) rfl rfl sl23 hi143 (by omega) (hS.nAok 1 rfl (by omega : (((k129 : Nat) : Int)).toNat < q117.length))) rfl ?_; clear hE a; intro a hE
                refine WL.vS hS hE (runs_plain rfl) (Gives.load1 (v := .slice a146 x141.length c147) hE rfl (fun w h => St.nSees h 1 rfl hd149) ty31) rfl ?_; clear hE a; intro a hE
                refine WL.vS hS hE (runs_plain rfl) (Gives.p hE rfl) rfl ?_; clear hE a; intro a hE
                refine WL.vS hS hE (runs_plain rfl) (Gives.p hE rfl) rfl ?_; clear hE a; intro a hE
                refine WL.nil ?_
                refine W.seq ?_
                refine W.region ?_
                refine WL.vS hS hE (runs_plain rfl) (Gives.p hE rfl) rfl ?_; clear hE a; intro a hE
                refine WL.vS hS hE (runs_plain rfl) (Gives.p hE rfl) rfl ?_; clear hE a; intro a hE
                refine WL.vS hS hE (runs_plain rfl) (Gives.len hE rfl sl31) rfl ?_; clear hE a; intro a hE
                refine WL.vS hS hE (runs_plain rfl) (Gives.p hE rfl) rfl ?_; clear hE a; intro a hE
                obtain ⟨x151, hx152, hq127⟩ := bindS hq127
                obtain ⟨hi153, hlt154, hy155⟩ := gx_some hx152
                obtain ⟨vs156, hl157, hR158, hd159, hget160⟩ := hev150.at hy155
                subst hR158
                refine WL.vS hS hE (runs_plain rfl) (Gives.idx hE ((w64 (((x141).length : Int) - 1)).toNat) rfl rfl sl31 hi153 hlt154 (hS.nnAok 1 rfl hd149 hlt154)) rfl ?_; clear hE a; intro a hE
                refine WL.vS hS hE (runs_plain rfl) (Gives.load1 hE rfl (fun w h => St.nnSees h 1 rfl hd149 ((w64 (((x141).length : Int) - 1)).toNat * 1) _ hget160) ty3) rfl ?_; clear hE a; intro a hE
                refine WL.vS hS hE (runs_plain rfl) (Gives.p hE rfl) rfl ?_; clear hE a; intro a hE
                refine WL.nil ?_
                refine W.seq ?_
                obtain ⟨q162, hq161, hq127⟩ := bindS hq127
                refine W.cut (fun a w => ∃ (q165 : Bool), q165 = q162 ∧ Rep a 113 [(0, .slice a0 x0.length c0), (1, .int .i64 x1), (7, .slice a118 q117.length c119), (9, .int .i64 x81), (10, .int .i64 q139), (11, .int .i64 ((k129 : Nat) : Int)), (21, .slice a55 q53.length c56), (22, .int .i64 ((q53.length : Nat) : Int)), (23, .int .i64 ((k63 : Nat) : Int)), (31, .int .i64 x91.Units), (32, .int .i64 q124), (34, .slice a118 q117.length c119), (35, .int .i64 ((q117.length : Nat) : Int)), (36, .int .i64 ((k129 : Nat) : Int)), (89, .bool q165)] ∧ St w s (vecC 3 1 a55 c56 q53.length cs58 :: nestC 31 3 1 a118 c119 q117.length ds121 :: R)) ?_ ?_
                · refine W.gen fun K166 hK166 => ?_
                  refine W.regionQ (C := fun w => St w s (vecC 3 1 a55 c56 q53.length cs58 :: nestC 31 3 1 a118 c119 q117.length ds121 :: R)) mixed (by kernel_rfl) hS.drew ?_
                  refine QL.v hE (runs_plain rfl) (Gives.p hE rfl) rfl ?_; clear hE a; intro a hE
                  refine QL.v hE (runs_plain rfl) (Gives.p hE rfl) rfl ?_; clear hE a; intro a hE
                  refine QL.v hE (runs_plain rfl) (Gives.p hE rfl) rfl ?_; clear hE a; intro a hE
                  refine QL.v hE (runs_plain rfl) (Gives.p hE rfl) rfl ?_; clear hE a; intro a hE
                  rcases Bool.eq_false_or_eq_true (x151 != x81) with hg167 | hg167
                  · replace hq161 := iteT hg167 hq161
                    refine QL.v hE (runs_if hE rfl rfl rfl hg167) (Gives.p hE rfl) rfl ?_; clear hE a; intro a hE
                    refine QL.v hE (runs_if hE rfl rfl rfl hg167) (Gives.p hE rfl) rfl ?_; clear hE a; intro a hE
                    obtain ⟨x168, hx169, hq161⟩ := bindS hq161
                    obtain ⟨hi170, hlt171, hy172⟩ := gx_some hx169
                    obtain ⟨cs173, hl174, hR175, hat176⟩ := h0.at hy172
                    subst hR175
                    refine QL.v hE (runs_if hE rfl rfl rfl hg167) (Gives.idx hE (x151).toNat rfl rfl sl22 hi170 hlt171 (h0.aok hlt171)) rfl ?_; clear hE a; intro a hE
                    refine QL.v hE (runs_if hE rfl rfl rfl hg167) (Gives.loadA hE rfl (fun w h => hat176 w _ h) ty34) rfl ?_; clear hE a; intro a hE
                    refine QL.v hE (runs_if hE rfl rfl rfl hg167) (Gives.p hE rfl) rfl ?_; clear hE a; intro a hE
                    refine QL.v hE (runs_if hE rfl rfl rfl hg167) (Gives.p hE rfl) rfl ?_; clear hE a; intro a hE
                    obtain ⟨x177, hx178, hq161⟩ := bindS hq161
                    obtain ⟨hi179, hlt180, hy181⟩ := gx_some hx178
                    obtain ⟨cs182, hl183, hR184, hat185⟩ := h0.at hy181
                    subst hR184
                    refine QL.v hE (runs_if hE rfl rfl rfl hg167) (Gives.idx hE (x81).toNat rfl rfl sl22 hi179 hlt180 (h0.aok hlt180)) rfl ?_; clear hE a; intro a hE
                    refine QL.v hE (runs_if hE rfl rfl rfl hg167) (Gives.loadA hE rfl (fun w h => hat185 w _ h) ty34) rfl ?_; clear hE a; intro a hE
                    refine QL.v hE (runs_if hE rfl rfl rfl hg167) (Gives.p hE rfl) rfl ?_; clear hE a; intro a hE
                    refine QL.fnq hE (fun w hS => Fleetfollows_ok hS  rfl (r := Fleetfollows x168 x177 x1)) (runs_if hE rfl rfl rfl hg167) bd17 rfl rfl rfl ?_; clear hE a; intro a hE
                    refine QL.v hE (runs_plain rfl) (Gives.pickT hE rfl hg167 rfl) rfl ?_; clear hE a; intro a hE
                    refine QL.v hE (runs_plain rfl) (Gives.p hE rfl) rfl ?_; clear hE a; intro a hE
                    rcases Bool.eq_false_or_eq_true (Fleetfollows x168 x177 x1) with hg186 | hg186
                    · replace hq161 := iteT hg186 hq161
                      refine QL.v hE (runs_if hE rfl rfl rfl hg186) (Gives.p hE rfl) rfl ?_; clear hE a; intro a hE
                      refine QL.v hE (runs_if hE rfl rfl rfl hg186) (Gives.p hE rfl) rfl ?_; clear hE a; intro a hE
                      refine QL.v hE (runs_if hE rfl rfl rfl hg186) (Gives.p hE rfl) rfl ?_; clear hE a; intro a hE
                      rcases Bool.eq_false_or_eq_true (decide (q139 < 0)) with hg187 | hg187
                      · replace hq161 := iteT hg187 hq161
                        refine QL.no hE (runs_not hE rfl rfl rfl (by rw [hg187]; decide)) rfl ?_; clear hE a; intro a hE
                        refine QL.no hE (runs_not hE rfl rfl rfl (by rw [hg187]; decide)) rfl ?_; clear hE a; intro a hE
                        refine QL.no hE (runs_not hE rfl rfl rfl (by rw [hg187]; decide)) rfl ?_; clear hE a; intro a hE
                        refine QL.no hE (runs_not hE rfl rfl rfl (by rw [hg187]; decide)) rfl ?_; clear hE a; intro a hE
                        refine QL.no hE (runs_not hE rfl rfl rfl (by rw [hg187]; decide)) rfl ?_; clear hE a; intro a hE
                        refine QL.no hE (runs_not hE rfl rfl rfl (by rw [hg187]; decide)) rfl ?_; clear hE a; intro a hE
                        refine QL.no hE (runs_not hE rfl rfl rfl (by rw [hg187]; decide)) rfl ?_; clear hE a; intro a hE
                        refine QL.no hE (runs_not hE rfl rfl rfl (by rw [hg187]; decide)) rfl ?_; clear hE a; intro a hE
                        refine QL.no hE (runs_not hE rfl rfl rfl (by rw [hg187]; decide)) rfl ?_; clear hE a; intro a hE
                        refine QL.no hE (runs_not hE rfl rfl rfl (by rw [hg187]; decide)) rfl ?_; clear hE a; intro a hE
                        refine QL.no hE (runs_not hE rfl rfl rfl (by rw [hg187]; decide)) rfl ?_; clear hE a; intro a hE
                        refine QL.no hE (runs_not hE rfl rfl rfl (by rw [hg187]; decide)) rfl ?_; clear hE a; intro a hE
                        refine QL.no hE (runs_not hE rfl rfl rfl (by rw [hg187]; decide)) rfl ?_; clear hE a; intro a hE
                        refine QL.no hE (runs_not hE rfl rfl rfl (by rw [hg187]; decide)) rfl ?_; clear hE a; intro a hE
                        refine QL.no hE (runs_not hE rfl rfl rfl (by rw [hg187]; decide)) rfl ?_; clear hE a; intro a hE
                        refine QL.no hE (runs_not hE rfl rfl rfl (by rw [hg187]; decide)) rfl ?_; clear hE a; intro a hE
                        refine QL.no hE (runs_not hE rfl rfl rfl (by rw [hg187]; decide)) rfl ?_; clear hE a; intro a hE
                        refine QL.no hE (runs_not hE rfl rfl rfl (by rw [hg187]; decide)) rfl ?_; clear hE a; intro a hE
                        refine QL.no hE (runs_not hE rfl rfl rfl (by rw [hg187]; decide)) rfl ?_; clear hE a; intro a hE
                        refine QL.no hE (runs_not hE rfl rfl rfl (by rw [hg187]; decide)) rfl ?_; clear hE a; intro a hE
                        refine QL.no hE (runs_not hE rfl rfl rfl (by rw [hg187]; decide)) rfl ?_; clear hE a; intro a hE
                        refine QL.no hE (runs_not hE rfl rfl rfl (by rw [hg187]; decide)) rfl ?_; clear hE a; intro a hE
                        refine QL.v hE (runs_if hE rfl rfl rfl hg186) (Gives.pickT hE rfl hg187 rfl) rfl ?_; clear hE a; intro a hE
                        refine QL.v hE (runs_plain rfl) (Gives.pickT hE rfl hg186 rfl) rfl ?_; clear hE a; intro a hE
                        refine QL.nil ?_; clear hS w; intro w hS
                        subst hK166
                        exact ⟨true, Option.some.inj hq161, hE.pick _ ⟨rfl, rfl, rfl, rfl, rfl, rfl, rfl, rfl, rfl, rfl, rfl, rfl, rfl, rfl, rfl, trivial⟩, hS⟩
                      · replace hq161 := iteF hg187 hq161
                        refine QL.v hE (runs_if hE rfl rfl rfl hg187) (Gives.p hE rfl) rfl ?_; clear hE a; intro a hE
                        refine QL.v hE (runs_if hE rfl rfl rfl hg187) (Gives.p hE rfl) rfl ?_; clear hE a; intro a hE
                        obtain ⟨x188, hx189, hq161⟩ := bindS hq161
                        obtain ⟨hi190, hlt191, hy192⟩ := gx_some hx189
                        obtain ⟨cs193, hl194, hR195, hat196⟩ := h0.at hy192
                        subst hR195
                        refine QL.v hE (runs_if hE rfl rfl rfl hg187) (Gives.idx hE (x151).toNat rfl rfl sl22 hi190 hlt191 (h0.aok hlt191)) rfl ?_; clear hE a; intro a hE
                        refine QL.v hE (runs_if hE rfl rfl rfl hg187) (Gives.fld hE rfl fl34_3) rfl ?_; clear hE a; intro a hE
                        refine QL.v hE (runs_if hE rfl rfl rfl hg187) (Gives.load1 hE rfl (fun w h => (hat196 w _ h).one rfl) ty3) rfl ?_; clear hE a; intro a hE
                        refine QL.v hE (runs_if hE rfl rfl rfl hg187) (Gives.p hE rfl) rfl ?_; clear hE a; intro a hE
                        refine QL.v hE (runs_if hE rfl rfl rfl hg187) (Gives.p hE rfl) rfl ?_; clear hE a; intro a hE
                        refine QL.v hE (runs_if hE rfl rfl rfl hg187) (Gives.p hE rfl) rfl ?_; clear hE a; intro a hE
                        obtain ⟨x197, hx198, hq161⟩ := bindS hq161
                        obtain ⟨hi199, hlt200, hy201⟩ := gx_some hx198
                        obtain ⟨a202, c203, cs204, hd205, hev206⟩ := h122.at hy201
                        refine QL.v hE (runs_if hE rfl rfl rfl hg187) (Gives.idx hE ((q139).toNat) rfl rfl sl23 hi199 (by omega) (hS.nAok 1 rfl (by omega : (q139).toNat < q117.length))) rfl ?_; clear hE a; intro a hE
                        refine QL.v hE (runs_if hE rfl rfl rfl hg187) (Gives.load1 (v := .slice a202 x197.length c203) hE rfl (fun w h => St.nSees h 1 rfl hd205) ty31) rfl ?_; clear hE a; intro a hE
                        refine QL.v hE (runs_if hE rfl rfl rfl hg187) (Gives.p hE rfl) rfl ?_; clear hE a; intro a hE
                        refine QL.v hE (runs_if hE rfl rfl rfl hg187) (Gives.p hE rfl) rfl ?_; clear hE a; intro a hE
                        obtain ⟨x207, hx208, hq161⟩ := bindS hq161
                        obtain ⟨hi209, hlt210, hy211⟩ := gx_some hx208
                        obtain ⟨a212, c213, cs214, hd215, hev216⟩ := h122.at hy211
                        refine QL.v hE (runs_if hE rfl rfl rfl hg187) (Gives.idx hE ((q139).toNat) rfl rfl sl23 hi209 (by omega) (hS.nAok 1 rfl (by omega : (q139).toNat < q117.length))) rfl ?_; clear hE a; intro a hE
                        refine QL.v hE (runs_if hE rfl rfl rfl hg187) (Gives.load1 (v := .slice a212 x207.length c213) hE rfl (fun w h => St.nSees h 1 rfl hd215) ty31) rfl ?_; clear hE a; intro a hE
                        refine QL.v hE (runs_if hE rfl rfl rfl hg187) (Gives.len hE rfl sl31) rfl ?_; clear hE a; intro a hE
                        refine QL.v hE (runs_if hE rfl rfl rfl hg187) (Gives.p hE rfl) rfl ?_; clear hE a; intro a hE
                        obtain ⟨x217, hx218, hq161⟩ := bindS hq161
                        obtain ⟨hi219, hlt220, hy221⟩ := gx_some hx218
                        obtain ⟨vs222, hl223, hR224, hd225, hget226⟩ := hev206.at hy221
                        subst hR224
                        refine QL.v hE (runs_if hE rfl rfl rfl hg187) (Gives.idx hE ((w64 (((x207).length : Int) - 1)).toNat) rfl rfl sl31 hi219 hlt220 (hS.nnAok 1 rfl hd205 hlt220)) rfl ?_; clear hE a; intro a hE
                        refine QL.v hE (runs_if hE rfl rfl rfl hg187) (Gives.load1 hE rfl (fun w h => St.nnSees h 1 rfl hd205 ((w64 (((x207).length : Int) - 1)).toNat * 1) _ hget226) ty3) rfl ?_; clear hE a; intro a hE
                        obtain ⟨x227, hx228, hq161⟩ := bindS hq161
                        obtain ⟨hi229, hlt230, hy231⟩ := gx_some hx228
                        obtain ⟨cs232, hl233, hR234, hat235⟩ := h0.at hy231
                        subst hR234
                        refine QL.v hE (runs_if hE rfl rfl rfl hg187) (Gives.idx hE (x217).toNat rfl rfl sl22 hi229 hlt230 (h0.aok hlt230)) rfl ?_; clear hE a; intro a hE
                        refine QL.v hE (runs_if hE rfl rfl rfl hg187) (Gives.fld hE rfl fl34_3) rfl ?_; clear hE a; intro a hE
                        refine QL.v hE (runs_if hE rfl rfl rfl hg187) (Gives.load1 hE rfl (fun w h => (hat235 w _ h).one rfl) ty3) rfl ?_; clear hE a; intro a hE
                        refine QL.v hE (runs_if hE rfl rfl rfl hg187) (Gives.p hE rfl) rfl ?_; clear hE a; intro a hE
                        refine QL.v hE (runs_if hE rfl rfl rfl hg186) (Gives.pickF hE rfl hg187 rfl) rfl ?_; clear hE a; intro a hE
                        refine QL.v hE (runs_plain rfl) (Gives.pickT hE rfl hg186 rfl) rfl ?_; clear hE a; intro a hE
                        refine QL.nil ?_; clear hS w; intro w hS
                        subst hK166
                        exact ⟨decide (x188.Arr < x227.Arr), Option.some.inj hq161, hE.pick _ ⟨rfl, rfl, rfl, rfl, rfl, rfl, rfl, rfl, rfl, rfl, rfl, rfl, rfl, rfl, rfl, trivial⟩, hS⟩
                    · replace hq161 := iteF hg186 hq161
                      refine QL.no hE (runs_not hE rfl rfl rfl (by rw [hg186]; decide)) rfl ?_; clear hE a; intro a hE
                      refine QL.no hE (runs_not hE rfl rfl rfl (by rw [hg186]; decide)) rfl ?_; clear hE a; intro a hE
                      refine QL.no hE (runs_not hE rfl rfl rfl (by rw [hg186]; decide)) rfl ?_; clear hE a; intro a hE
                      refine QL.no hE (runs_undef hE rfl rfl rfl) rfl ?_; clear hE a; intro a hE
                      refine QL.no hE (runs_undef hE rfl rfl rfl) rfl ?_; clear hE a; intro a hE
                      refine QL.no hE (runs_undef hE rfl rfl rfl) rfl ?_; clear hE a; intro a hE
                      refine QL.no hE (runs_undef hE rfl rfl rfl) rfl ?_; clear hE a; intro a hE
                      refine QL.no hE (runs_undef hE rfl rfl rfl) rfl ?_; clear hE a; intro a hE
                      refine QL.no hE (runs_undef hE rfl rfl rfl) rfl ?_; clear hE a; intro a hE
                      refine QL.no hE (runs_undef hE rfl rfl rfl) rfl ?_; clear hE a; intro a hE
                      refine QL.no hE (runs_undef hE rfl rfl rfl) rfl ?_; clear hE a; intro a hE
                      refine QL.no hE (runs_undef hE rfl rfl rfl) rfl ?_; clear hE a; intro a hE
                      refine QL.no hE (runs_undef hE rfl rfl rfl) rfl ?_; clear hE a; intro a hE
                      refine QL.no hE (runs_undef hE rfl rfl rfl) rfl ?_; clear hE a; intro a hE
                      refine QL.no hE (runs_undef hE rfl rfl rfl) rfl ?_; clear hE a; intro a hE
                      refine QL.no hE (runs_undef hE rfl rfl rfl) rfl ?_; clear hE a; intro a hE
                      refine QL.no hE (runs_undef hE rfl rfl rfl) rfl ?_; clear hE a; intro a hE
                      refine QL.no hE (runs_undef hE rfl rfl rfl) rfl ?_; clear hE a; intro a hE
                      refine QL.no hE (runs_undef hE rfl rfl rfl) rfl ?_; clear hE a; intro a hE
                      refine QL.no hE (runs_undef hE rfl rfl rfl) rfl ?_; clear hE a; intro a hE
                      refine QL.no hE (runs_undef hE rfl rfl rfl) rfl ?_; clear hE a; intro a hE
                      refine QL.no hE (runs_undef hE rfl rfl rfl) rfl ?_; clear hE a; intro a hE
                      refine QL.no hE (runs_undef hE rfl rfl rfl) rfl ?_; clear hE a; intro a hE
                      refine QL.no hE (runs_undef hE rfl rfl rfl) rfl ?_; clear hE a; intro a hE
                      refine QL.no hE (runs_undef hE rfl rfl rfl) rfl ?_; clear hE a; intro a hE
                      refine QL.no hE (runs_not hE rfl rfl rfl (by rw [hg186]; decide)) rfl ?_; clear hE a; intro a hE
                      refine QL.v hE (runs_plain rfl) (Gives.pickF hE rfl hg186 rfl) rfl ?_; clear hE a; intro a hE
                      refine QL.nil ?_; clear hS w; intro w hS
                      subst hK166
                      exact ⟨false, Option.some.inj hq161, hE.pick _ ⟨rfl, rfl, rfl, rfl, rfl, rfl, rfl, rfl, rfl, rfl, rfl, rfl, rfl, rfl, rfl, trivial⟩, hS⟩
                  · replace hq161 := iteF hg167 hq161
                    refine QL.no hE (runs_not hE rfl rfl rfl (by rw [hg167]; decide)) rfl ?_; clear hE a; intro a hE
                    refine QL.no hE (runs_not hE rfl rfl rfl (by rw [hg167]; decide)) rfl ?_; clear hE a; intro a hE
                    refine QL.no hE (runs_not hE rfl rfl rfl (by rw [hg167]; decide)) rfl ?_; clear hE a; intro a hE
                    refine QL.no hE (runs_not hE rfl rfl rfl (by rw [hg167]; decide)) rfl ?_; clear hE a; intro a hE
                    refine QL.no hE (runs_not hE rfl rfl rfl (by rw [hg167]; decide)) rfl ?_; clear hE a; intro a hE
                    refine QL.no hE (runs_not hE rfl rfl rfl (by rw [hg167]; decide)) rfl ?_; clear hE a; intro a hE
                    refine QL.no hE (runs_not hE rfl rfl rfl (by rw [hg167]; decide)) rfl ?_; clear hE a; intro a hE
                    refine QL.no hE (runs_not hE rfl rfl rfl (by rw [hg167]; decide)) rfl ?_; clear hE a; intro a hE
                    refine QL.no hE (runs_not hE rfl rfl rfl (by rw [hg167]; decide)) rfl ?_; clear hE a; intro a hE
                    refine QL.no hE (runs_not hE rfl rfl rfl (by rw [hg167]; decide)) rfl ?_; clear hE a; intro a hE
                    refine QL.v hE (runs_plain rfl) (Gives.pickF hE rfl hg167 rfl) rfl ?_; clear hE a; intro a hE
                    refine QL.v hE (runs_plain rfl) (Gives.p hE rfl) rfl ?_; clear hE a; intro a hE
                    refine QL.no hE (runs_not hE rfl rfl rfl (by decide)) rfl ?_; clear hE a; intro a hE
                    refine QL.no hE (runs_not hE rfl rfl rfl (by decide)) rfl ?_; clear hE a; intro a hE
                    refine QL.no hE (runs_not hE rfl rfl rfl (by decide)) rfl ?_; clear hE a; intro a hE
                    refine QL.no hE (runs_undef hE rfl rfl rfl) rfl ?_; clear hE a; intro a hE
                    refine QL.no hE (runs_undef hE rfl rfl rfl) rfl ?_; clear hE a; intro a hE
                    refine QL.no hE (runs_undef hE rfl rfl rfl) rfl ?_; clear hE a; intro a hE
                    refine QL.no hE (runs_undef hE rfl rfl rfl) rfl ?_; clear hE a; intro a hE
                    refine QL.no hE (runs_undef hE rfl rfl rfl) rfl ?_; clear hE a; intro a hE
                    refine QL.no hE (runs_undef hE rfl rfl rfl) rfl ?_; clear hE a; intro a hE
                    refine QL.no hE (runs_undef hE rfl rfl rfl) rfl ?_; clear hE a; intro a hE
                    refine QL.no hE (runs_undef hE rfl rfl rfl) rfl ?_; clear hE a; intro a hE
                    refine QL.no hE (runs_undef hE rfl rfl rfl) rfl ?_; clear hE a; intro a hE
                    refine QL.no hE (runs_undef hE rfl rfl rfl) rfl ?_; clear hE a; intro a hE
                    refine QL.no hE (runs_undef hE rfl rfl rfl) rfl ?_; clear hE a; intro a hE
                    refine QL.no hE (runs_undef hE rfl rfl rfl) rfl ?_; clear hE a; intro a hE
                    refine QL.no hE (runs_undef hE rfl rfl rfl) rfl ?_; clear hE a; intro a hE
                    refine QL.no hE (runs_undef hE rfl rfl rfl) rfl ?_; clear hE a; intro a hE
                    refine QL.no hE (runs_undef hE rfl rfl rfl) rfl ?_; clear hE a; intro a hE
                    refine QL.no hE (runs_undef hE rfl rfl rfl) rfl ?_; clear hE a; intro a hE
                    refine QL.no hE (runs_undef hE rfl rfl rfl) rfl ?_; clear hE a; intro a hE
                    refine QL.no hE (runs_undef hE rfl rfl rfl) rfl ?_; clear hE a; intro a hE
                    refine QL.no hE (runs_undef hE rfl rfl rfl) rfl ?_; clear hE a; intro a hE
                    refine QL.no hE (runs_undef hE rfl rfl rfl) rfl ?_; clear hE a; intro a hE
                    refine QL.no hE (runs_undef hE rfl rfl rfl) rfl ?_; clear hE a; intro a hE
                    refine QL.no hE (runs_undef hE rfl rfl rfl) rfl ?_; clear hE a; intro a hE
                    refine QL.no hE (runs_not hE rfl rfl rfl (by decide)) rfl ?_; clear hE a; intro a hE
                    refine QL.v hE (runs_plain rfl) (Gives.pickF hE rfl rfl rfl) rfl ?_; clear hE a; intro a hE
                    refine QL.nil ?_; clear hS w; intro w hS
                    subst hK166
                    exact ⟨false, Option.some.inj hq161, hE.pick _ ⟨rfl, rfl, rfl, rfl, rfl, rfl, rfl, rfl, rfl, rfl, rfl, rfl, rfl, rfl, rfl, trivial⟩, hS⟩
                · clear hE hS a w; rintro a w ⟨q165, rfl, hE, hS⟩
                  obtain ⟨q237, hq236, hq127⟩ := bndS hq127
                  refine W.cut (fun a w => ∃ (q240 : Int), q240 = q237 ∧ Rep a 113 [(0, .slice a0 x0.length c0), (1, .int .i64 x1), (7, .slice a118 q117.length c119), (9, .int .i64 x81), (10, .int .i64 q240), (21, .slice a55 q53.length c56), (22, .int .i64 ((q53.length : Nat) : Int)), (23, .int .i64 ((k63 : Nat) : Int)), (31, .int .i64 x91.Units), (32, .int .i64 q124), (34, .slice a118 q117.length c119), (35, .int .i64 ((q117.length : Nat) : Int)), (36, .int .i64 ((k129 : Nat) : Int))] ∧ St w s (vecC 3 1 a55 c56 q53.length cs58 :: nestC 31 3 1 a118 c119 q117.length ds121 :: R)) ?_ ?_
                  · refine W.gen fun K241 hK241 => ?_
                    refine W.cond hE rfl (fun hc242 => ?_) (fun hc242 => ?_)
                    · replace hq236 := iteT hc242 hq236
                      refine W.region ?_
                      refine WL.vS hS hE (runs_plain rfl) (Gives.p hE rfl) rfl ?_; clear hE a; intro a hE
                      refine WL.vS hS hE (runs_plain rfl) (Gives.p hE rfl) rfl ?_; clear hE a; intro a hE
                      refine WL.nil ?_
                      subst hK241
                      exact ⟨((k129 : Nat) : Int), hq236, hE.pick _ ⟨rfl, rfl, rfl, rfl, rfl, rfl, rfl, rfl, rfl, rfl, rfl, rfl, rfl, trivial⟩, hS⟩
                    · replace hq236 := iteF hc242 hq236
                      refine W.skip ?_
                      subst hK241
                      exact ⟨q139, hq236, hE.pick _ ⟨rfl, rfl, rfl, rfl, rfl, rfl, rfl, rfl, rfl, rfl, rfl, rfl, rfl, trivial⟩, hS⟩
                  · clear hE hS a w; rintro a w ⟨q240, rfl, hE, hS⟩
                    refine W.region ?_
                    refine WL.vS hS hE (runs_plain rfl) (Gives.inc hE rfl (by omega)) rfl ?_; clear hE a; intro a hE
                    refine WL.vS hS hE (runs_plain rfl) (Gives.p hE rfl) rfl ?_; clear hE a; intro a hE
                    refine WL.nil ?_
                    subst hK140
                    exact ⟨rest131, Nat.lt_succ_self _, rest131, k129 + 1, q240, rfl, (by omega), hq127, hE.pick _ ⟨rfl, rfl, rfl, rfl, rfl, rfl, rfl, rfl, rfl, rfl, rfl, rfl, rfl, trivial⟩, hS⟩
            · clear hE hS a w; rintro a w ⟨q139, rfl, hE, hS⟩
              refine W.seq ?_
              refine W.seq ?_
              refine W.region ?_
              refine WL.vS hS hE (runs_plain rfl) (Gives.p hE rfl) rfl ?_; clear hE a; intro a hE
              refine WL.vS hS hE (runs_plain rfl) (Gives.p hE rfl) rfl ?_; clear hE a; intro a hE
              refine WL.nil ?_
              obtain ⟨q244, hq243, hq111⟩ := bindS hq111
              refine W.cut (fun a w => ∃ (q247 : List (List Int)), ∃ (q254 : Int), ∃ (a248 : Option Addr), ∃ (c249 : Nat), ∃ (n250 : Nat), ∃ (ds251 : List In), (q247, q254) = q244 ∧ NEv 1 (RI .i64) s ds251 q247 ∧ q247.length = n250 ∧ Rep a 113 [(0, .slice a0 x0.length c0), (1, .int .i64 x1), (7, .slice a248 n250 c249), (9, .int .i64 x81), (10, .int .i64 q254), (21, .slice a55 q53.length c56), (22, .int .i64 ((q53.length : Nat) : Int)), (23, .int .i64 ((k63 : Nat) : Int)), (31, .int .i64 x91.Units), (32, .int .i64 q124)] ∧ St w s (vecC 3 1 a55 c56 q53.length cs58 :: nestC 31 3 1 a248 c249 n250 ds251 :: R)) ?_ ?_
              · refine W.gen fun K255 hK255 => ?_
                refine W.cond hE rfl (fun hc256 => ?_) (fun hc256 => ?_)
                · replace hq243 := iteT hc256 hq243
                  refine W.seq ?_
                  refine W.region ?_
                  refine WL.vS hS hE (runs_plain rfl) (Gives.p hE rfl) rfl ?_; clear hE a; intro a hE
                  refine WL.lit hE hS (e := 31) (es := 1) (vs := [(0, .slice none 0 0)]) (cs := [.slice none 0 0]) (runs_plain rfl) rfl (by kernel_rfl) rfl ?_; clear hE hS a w; intro b257 a w hE hS
                  replace hS := hS.vecNil 3 1
                  obtain ⟨x259, hx260, hq243⟩ := bindS hq243
                  replace hS := hS.front 1 rfl
                  refine WL.appND hE hS 1 rfl (runs_plain rfl) rfl rfl ap23 h122 rfl (Ev.nil) (rfl) hx260 rfl ?_; clear hE hS a w; intro a261 c262 ds263 a w h264 hE hS
                  refine WL.vS hS hE (runs_plain rfl) (Gives.p hE rfl) rfl ?_; clear hE a; intro a hE
                  refine WL.nil ?_
                  refine W.region ?_
                  refine WL.vS hS hE (runs_plain rfl) (Gives.p hE rfl) rfl ?_; clear hE a; intro a hE
                  refine WL.vS hS hE (runs_plain rfl) (Gives.len hE rfl sl23) rfl ?_; clear hE a; intro a hE
                  refine WL.vS hS hE (runs_plain rfl) (Gives.p hE rfl) rfl ?_; clear hE a; intro a hE
                  refine WL.vS hS hE (runs_plain rfl) (Gives.p hE rfl) rfl ?_; clear hE a; intro a hE
                  refine WL.nil ?_
                  subst hK255
                  exact ⟨x259, w64 (((x259.length : Nat) : Int) - 1), a261, c262, x259.length, ds263, Option.some.inj hq243, h264, (rfl), hE.pick _ ⟨rfl, rfl, rfl, rfl, rfl, rfl, rfl, rfl, rfl, rfl, trivial⟩, hS⟩
                · replace hq243 := iteF hc256 hq243
                  refine W.skip ?_
                  subst hK255
                  exact ⟨q117, q139, a118, c119, q117.length, ds121, Option.some.inj hq243, h122, rfl, hE.pick _ ⟨rfl, rfl, rfl, rfl, rfl, rfl, rfl, rfl, rfl, rfl, trivial⟩, hS⟩
              · clear hE hS a w; rintro a w ⟨q247, q254, a248, c249, n250, ds251, rfl, h252, rfl, hE, hS⟩
                dsimp only at hq111
                refine W.region ?_
                refine WL.vS hS hE (runs_plain rfl) (Gives.p hE rfl) rfl ?_; clear hE a; intro a hE
                refine WL.vS hS hE (runs_plain rfl) (Gives.p hE rfl) rfl ?_; clear hE a; intro a hE
                refine WL.vS hS hE (runs_plain rfl) (Gives.p hE rfl) rfl ?_; clear hE a; intro a hE
                refine WL.vS hS hE (runs_plain rfl) (Gives.p hE rfl) rfl ?_; clear hE a; intro a hE
                obtain ⟨x265, hx266, hq111⟩ := bindS hq111
                obtain ⟨hi267, hlt268, hy269⟩ := gx_some hx266
                obtain ⟨a270, c271, cs272, hd273, hev274⟩ := h252.at hy269
                refine WL.vS hS hE (runs_plain rfl) (Gives.idx hE ((q254).toNat) rfl rfl sl23 hi267 (by omega) (hS.nAok 1 rfl (by omega : (q254).toNat < q247.length))) rfl ?_; clear hE a; intro a hE
                refine WL.vS hS hE (runs_plain rfl) (Gives.load1 (v := .slice a270 x265.length c271) hE rfl (fun w h => St.nSees h 1 rfl hd273) ty31) rfl ?_; clear hE a; intro a hE
                refine WL.vS hS hE (runs_plain rfl) (Gives.p hE rfl) rfl ?_; clear hE a; intro a hE
                refine WL.lit hE hS (e := 3) (es := 1) (vs := [(0, .int .i64 x81)]) (cs := [.int .i64 x81]) (runs_plain rfl) rfl (by kernel_rfl) rfl ?_; clear hE hS a w; intro b275 a w hE hS
                replace hS := hS.borrowM 2 rfl hd273
                replace hS := hS.front 1 rfl
                obtain ⟨x277, hx278, hq111⟩ := bindS hq111
                refine WL.appD hE hS 0 (m := 1) (runs_plain rfl) rfl rfl rfl ap31 rfl hev274 (rfl) (xs := [x81]) (Ev.cons (c1 := [.int .i64 x81]) rfl rfl (Ev.nil)) rfl rfl hx278 rfl ?_; clear hE hS a w; intro a279 c280 cs281 a w h282 hE hS
                obtain ⟨_, hx283, hq111⟩ := bindS hq111
                obtain ⟨h284, h285⟩ := ix_some hx283
                refine WL.vS hS hE (runs_plain rfl) (Gives.idx hE ((q254).toNat) rfl rfl sl23 h284 (by omega) (hS.hAok 2 rfl (by omega : (q254).toNat < q247.length))) rfl ?_; clear hE a; intro a hE
                obtain ⟨x286, hx287, hq111⟩ := bindS hq111
                refine WL.storeND hE hS 1 rfl (runs_plain rfl) rfl rfl ty31 h252 rfl (by have := (sx_some hx287).1; omega) hx287 h282 (rfl) rfl ?_; clear hE hS a w; intro ds288 a w h289 hn290 hE hS
                refine WL.nil ?_
                refine W.region ?_
                refine WL.vS hS hE (runs_plain rfl) (Gives.p hE rfl) rfl ?_; clear hE a; intro a hE
                refine WL.vS hS hE (runs_plain rfl) (Gives.p hE rfl) rfl ?_; clear hE a; intro a hE
                refine WL.nil ?_
                subst hK125
                exact ⟨n113, Nat.lt_succ_self _, n113, x286, (w64 (q124 + 1)), a248, c249, q247.length, ds288, rfl, hq111, h289, hn290, hE.pick _ ⟨rfl, rfl, rfl, rfl, rfl, rfl, rfl, rfl, rfl, trivial⟩, hS⟩
          · replace hq111 := iteF hc126 hq111
            subst hK125
            refine W.exit rfl ?_
            exact ⟨q117, q124, a118, c119, q117.length, ds121, Option.some.inj hq111, h122, rfl, hE.pick _ ⟨rfl, rfl, rfl, rfl, rfl, rfl, trivial⟩, hS⟩
        · clear hE hS a w; rintro a w ⟨q117, q124, a118, c119, n120, ds121, rfl, h122, rfl, hE, hS⟩
          dsimp only at hq61
          refine W.region ?_
          refine WL.vS hS hE (runs_plain rfl) (Gives.inc hE rfl (by omega)) rfl ?_; clear hE a; intro a hE
          refine WL.vS hS hE (runs_plain rfl) (Gives.p hE rfl) rfl ?_; clear hE a; intro a hE
          refine WL.nil ?_
          subst hK80
          exact ⟨rest65, Nat.lt_succ_self _, rest65, k63 + 1, q117, a118, c119, q117.length, ds121, rfl, (by omega), hq61, h122, rfl, hE.pick _ ⟨rfl, rfl, rfl, rfl, rfl, rfl, trivial⟩, hS⟩
    · clear hE hS a w; rintro a w ⟨q73, a74, c75, n76, ds77, rfl, h78, rfl, hE, hS⟩
      refine W.seq ?_
      refine W.region ?_
      refine WL.vS hS hE (runs_plain rfl) (Gives.p hE rfl) rfl ?_; clear hE a; intro a hE
      refine WL.vS hS hE (runs_plain rfl) (Gives.p hE rfl) rfl ?_; clear hE a; intro a hE
      refine WL.vS hS hE (runs_plain rfl) (Gives.p hE rfl) rfl ?_; clear hE a; intro a hE
      refine WL.nil ?_
      refine W.ret ?_
      have hF := hS.fixN RI.mono 1 rfl h78 rfl; clear hS; obtain ⟨s291, hle292, hS, h293⟩ := hF
      replace h59 := Ev.mono RI.mono hle292 h59
      refine finG (fn := Try.f12) (rs := [.tmp 4, .tmp 5]) (vs := [_, _]) hE rfl ⟨rfl, rfl, trivial⟩ ?_
      obtain rfl := Option.some.inj hr
      replace hS := hS.tail
      exact ⟨a74, c75, s291, rfl, hle292, h293, hS⟩
set_option maxHeartbeats 8000000 in
theorem SlicesEqualLint_ok  {w : World} {s : Sg} {R : List HP} {x0 : List Int} {a0 : Option Addr} {c0 : Nat} {x1 : List Int} {a1 : Option Addr} {c1 : Nat} (hS : St w s (R)) (h0 : Sl 1 (RI .i64) s a0 c0 x0) (h1 : Sl 1 (RI .i64) s a1 c1 x1) {r : Bool} (hr : SlicesEqualLint x0 x1 = some r) :
    Calls Try.prog 14 [.slice a0 x0.length c0, .slice a1 x1.length c1].toArray w (fun e w => e = .returned (.bool r) ∧ St w s (R)) := by
  refine enter Try.func14 rfl rfl rfl fun a hE => ?_
  rw [SlicesEqualLint] at hr
  refine W.seq ?_
  refine W.region ?_
  refine WL.vS hS hE (runs_plain rfl) (Gives.p hE rfl) rfl ?_; clear hE a; intro a hE
  refine WL.nil ?_
  refine W.seq ?_
  refine W.seq ?_
  refine W.region ?_
  refine WL.vS hS hE (runs_plain rfl) (Gives.p hE rfl) rfl ?_; clear hE a; intro a hE
  refine WL.vS hS hE (runs_plain rfl) (Gives.len hE rfl sl31) rfl ?_; clear hE a; intro a hE
  refine WL.vS hS hE (runs_plain rfl) (Gives.p hE rfl) rfl ?_; clear hE a; intro a hE
  refine WL.vS hS hE (runs_plain rfl) (Gives.len hE rfl sl31) rfl ?_; clear hE a; intro a hE
  refine WL.vS hS hE (runs_plain rfl) (Gives.p hE rfl) rfl ?_; clear hE a; intro a hE
  refine WL.nil ?_
  refine W.cond hE rfl (fun hc51 => ?_) (fun hc51 => ?_)
  · replace hr := iteT hc51 hr
    refine W.seq ?_
    refine W.region ?_
    refine WL.vS hS hE (runs_plain rfl) (Gives.p hE rfl) rfl ?_; clear hE a; intro a hE
    refine WL.nil ?_
    refine W.ret ?_
    refine finG (fn := Try.f14) (rs := [.tmp 4]) (vs := [_]) hE rfl ⟨rfl, trivial⟩ ?_
    obtain rfl := Option.some.inj hr
    exact ⟨rfl, hS⟩
  · replace hr := iteF hc51 hr
    refine W.skip ?_
    refine W.seq ?_
    refine W.seq ?_
    refine W.region ?_
    refine WL.vS hS hE (runs_plain rfl) (Gives.p hE rfl) rfl ?_; clear hE a; intro a hE
    refine WL.vS hS hE (runs_plain rfl) (Gives.len hE rfl sl31) rfl ?_; clear hE a; intro a hE
    refine WL.vS hS hE (runs_plain rfl) (Gives.p hE rfl) rfl ?_; clear hE a; intro a hE
    refine WL.nil ?_
    obtain ⟨q53, hq52, hr⟩ := bindS hr
    refine W.cut (fun a w => (.next ()) = q53 ∧ Rep a 26 [] ∧ St w s (R)) ?_ ?_
    · refine W.block ?_
      refine W.loop (fun m a w => ∃ (rest56 : List Int) (k54 : Nat), rest56.length = m ∧ x0.drop k54 = rest56 ∧ SlicesEqualLint.loop1 x1 rest56 k54 = some q53 ∧ Rep a 26 [(0, .slice a0 x0.length c0), (1, .slice a1 x1.length c1), (12, .int .i64 ((x0).length : Int)), (13, .int .i64 ((k54 : Nat) : Int))] ∧ St w s (R)) (m := x0.length) ⟨x0, 0, rfl, rfl, hq52, hE.pick _ ⟨rfl, rfl, rfl, rfl, trivial⟩, hS⟩ ?_
      clear hE hS a w hq52; rintro m60 a w ⟨rest56, k54, rfl, hd57, hq52, hE, hS⟩
      refine W.gen fun K63 hK63 => ?_
      rcases rest56 with _ | ⟨x55, rest56⟩
      · have hlt58 := drop_nil hd57
        refine W.seq ?_
        refine W.region ?_
        refine WL.vS hS hE (runs_plain rfl) (Gives.p hE rfl) rfl ?_; clear hE a; intro a hE
        refine WL.nil ?_
        refine W.seq ?_
        refine W.condF hE rfl (decide_eq_false (by omega)) ?_
        subst hK63
        refine W.exit rfl ?_
        exact ⟨Option.some.inj hq52, hE.pick _ trivial, hS⟩
      · obtain ⟨hlt58, hx59, hd57⟩ := drop_cons hd57
        rw [SlicesEqualLint.loop1] at hq52
        refine W.seq ?_
        refine W.region ?_
        refine WL.vS hS hE (runs_plain rfl) (Gives.p hE rfl) rfl ?_; clear hE a; intro a hE
        refine WL.nil ?_
        refine W.seq ?_
        refine W.condT hE rfl (decide_eq_true (by omega)) ?_
        refine W.skip ?_
        refine W.seq ?_
        refine W.block ?_
        refine W.seq ?_
        refine W.region ?_
        refine WL.vS hS hE (runs_plain rfl) (Gives.p hE rfl) rfl ?_; clear hE a; intro a hE
        refine WL.vS hS hE (runs_plain rfl) (Gives.p hE rfl) rfl ?_; clear hE a; intro a hE
        refine WL.nil ?_
        refine W.seq ?_
        refine W.regionQ (C := fun w => St w s (R)) mixed (by kernel_rfl) hS.drew ?_
        refine QL.v hE (runs_plain rfl) (Gives.p hE rfl) rfl ?_; clear hE a; intro a hE
        refine QL.v hE (runs_plain rfl) (Gives.p hE rfl) rfl ?_; clear hE a; intro a hE
        obtain ⟨cs64, hl65, hR66, hat67⟩ := h0.at hx59
        subst hR66
        refine QL.v hE (runs_plain rfl) (Gives.idx hE k54 rfl rfl sl31 rfl hlt58 (h0.aok hlt58)) rfl ?_; clear hE a; intro a hE
        refine QL.v hE (runs_plain rfl) (Gives.load1 hE rfl (fun w h => hat67 w _ h) ty3) rfl ?_; clear hE a; intro a hE
        refine QL.v hE (runs_plain rfl) (Gives.p hE rfl) rfl ?_; clear hE a; intro a hE
        refine QL.v hE (runs_plain rfl) (Gives.p hE rfl) rfl ?_; clear hE a; intro a hE
        obtain ⟨x68, hx69, hq52⟩ := bindS hq52
        obtain ⟨hi70, hlt71, hy72⟩ := gx_some hx69
        obtain ⟨cs73, hl74, hR75, hat76⟩ := h1.at hy72
        subst hR75
        refine QL.v hE (runs_plain rfl) (Gives.idx hE (((k54 : Nat) : Int)).toNat rfl rfl sl31 hi70 hlt71 (h1.aok hlt71)) rfl ?_; clear hE a; intro a hE
        refine QL.v hE (runs_plain rfl) (Gives.load1 hE rfl (fun w h => hat76 w _ h) ty3) rfl ?_; clear hE a; intro a hE
        refine QL.v hE (runs_plain rfl) (Gives.p hE rfl) rfl ?_; clear hE a; intro a hE
        refine QL.nil ?_; clear hS w; intro w hS
        refine W.cond hE rfl (fun hc77 => ?_) (fun hc77 => ?_)
        · replace hq52 := iteT hc77 hq52
          refine W.seq ?_
          refine W.region ?_
          refine WL.vS hS hE (runs_plain rfl) (Gives.p hE rfl) rfl ?_; clear hE a; intro a hE
          refine WL.nil ?_
          refine W.ret ?_
          subst hK63
          rw [← Option.some.inj hq52] at hr
          dsimp only at hr
          refine finG (fn := Try.f14) (rs := [.tmp 4]) (vs := [_]) hE rfl ⟨rfl, trivial⟩ ?_
          obtain rfl := Option.some.inj hr
          exact ⟨rfl, hS⟩
        · replace hq52 := iteF hc77 hq52
          refine W.skip ?_
          refine W.region ?_
          refine WL.vS hS hE (runs_plain rfl) (Gives.inc hE rfl (by have := h0.small; omega)) rfl ?_; clear hE a; intro a hE
          refine WL.vS hS hE (runs_plain rfl) (Gives.p hE rfl) rfl ?_; clear hE a; intro a hE
          refine WL.nil ?_
          subst hK63
          exact ⟨rest56.length, Nat.lt_succ_self _, rest56, k54 + 1, rfl, hd57, hq52, hE.pick _ ⟨rfl, rfl, rfl, rfl, trivial⟩, hS⟩
    · clear hE hS a w; rintro a w ⟨rfl, hE, hS⟩
      dsimp only at hr
      refine W.seq ?_
      refine W.region ?_
      refine WL.vS hS hE (runs_plain rfl) (Gives.p hE rfl) rfl ?_; clear hE a; intro a hE
      refine WL.nil ?_
      refine W.ret ?_
      refine finG (fn := Try.f14) (rs := [.tmp 4]) (vs := [_]) hE rfl ⟨rfl, trivial⟩ ?_
      obtain rfl := Option.some.inj hr
      exact ⟨rfl, hS⟩
set_option maxHeartbeats 8000000 in
theorem SlicesEqualFuncLLint_v1_ok  {w : World} {s : Sg} {R : List HP} {x0 : List (List Int)} {a0 : Option Addr} {c0 : Nat} {x1 : List (List Int)} {a1 : Option Addr} {c1 : Nat} (hS : St w s (R)) (h0 : Sl 1 (RL 1 (RI .i64)) s a0 c0 x0) (h1 : Sl 1 (RL 1 (RI .i64)) s a1 c1 x1) {r : Bool} (hr : SlicesEqualFuncLLint_v1 x0 x1 = some r) :
    Calls Try.prog 13 [.slice a0 x0.length c0, .slice a1 x1.length c1, .func (.func 14) #[] #[]].toArray w (fun e w => e = .returned (.bool r) ∧ St w s (R)) := by
  refine enter Try.func13 rfl rfl rfl fun a hE => ?_
  rw [SlicesEqualFuncLLint_v1] at hr
  refine W.seq ?_
  refine W.region ?_
  refine WL.vS hS hE (runs_plain rfl) (Gives.p hE rfl) rfl ?_; clear hE a; intro a hE
  refine WL.nil ?_
  refine W.seq ?_
  refine W.seq ?_
  refine W.region ?_
  refine WL.vS hS hE (runs_plain rfl) (Gives.p hE rfl) rfl ?_; clear hE a; intro a hE
  refine WL.vS hS hE (runs_plain rfl) (Gives.len hE rfl sl23) rfl ?_; clear hE a; intro a hE
  refine WL.vS hS hE (runs_plain rfl) (Gives.p hE rfl) rfl ?_; clear hE a; intro a hE
  refine WL.vS hS hE (runs_plain rfl) (Gives.len hE rfl sl23) rfl ?_; clear hE a; intro a hE
  refine WL.vS hS hE (runs_plain rfl) (Gives.p hE rfl) rfl ?_; clear hE a; intro a hE
  refine WL.nil ?_
  refine W.cond hE rfl (fun hc51 => ?_) (fun hc51 => ?_)
  · replace hr := iteT hc51 hr
    refine W.seq ?_
    refine W.region ?_
    refine WL.vS hS hE (runs_plain rfl) (Gives.p hE rfl) rfl ?_; clear hE a; intro a hE
    refine WL.nil ?_
    refine W.ret ?_
    refine finG (fn := Try.f13) (rs := [.tmp 6]) (vs := [_]) hE rfl ⟨rfl, trivial⟩ ?_
    obtain rfl := Option.some.inj hr
    exact ⟨rfl, hS⟩
  · replace hr := iteF hc51 hr
    refine W.skip ?_
    refine W.seq ?_
    refine W.seq ?_
    refine W.region ?_
    refine WL.vS hS hE (runs_plain rfl) (Gives.p hE rfl) rfl ?_; clear hE a; intro a hE
    refine WL.vS hS hE (runs_plain rfl) (Gives.len hE rfl sl23) rfl ?_; clear hE a; intro a hE
    refine WL.vS hS hE (runs_plain rfl) (Gives.p hE rfl) rfl ?_; clear hE a; intro a hE
    refine WL.nil ?_
    obtain ⟨q53, hq52, hr⟩ := bindS hr
    refine W.cut (fun a w => (.next ()) = q53 ∧ Rep a 32 [] ∧ St w s (R)) ?_ ?_
    · refine W.block ?_
      refine W.loop (fun m a w => ∃ (rest56 : List (List Int)) (k54 : Nat), rest56.length = m ∧ x0.drop k54 = rest56 ∧ SlicesEqualFuncLLint_v1.loop1 x1 rest56 k54 = some q53 ∧ Rep a 32 [(1, .slice a1 x1.length c1), (2, .func (.func 14) #[] #[]), (15, .slice a0 x0.length c0), (16, .int .i64 ((x0).length : Int)), (17, .int .i64 ((k54 : Nat) : Int))] ∧ St w s (R)) (m := x0.length) ⟨x0, 0, rfl, rfl, hq52, hE.pick _ ⟨rfl, rfl, rfl, rfl, rfl, trivial⟩, hS⟩ ?_
      clear hE hS a w hq52; rintro m60 a w ⟨rest56, k54, rfl, hd57, hq52, hE, hS⟩
      refine W.gen fun K63 hK63 => ?_
      rcases rest56 with _ | ⟨x55, rest56⟩
      · have hlt58 := drop_nil hd57
        refine W.seq ?_
        refine W.region ?_
        refine WL.vS hS hE (runs_plain rfl) (Gives.p hE rfl) rfl ?_; clear hE a; intro a hE
        refine WL.nil ?_
        refine W.seq ?_
        refine W.condF hE rfl (decide_eq_false (by omega)) ?_
        subst hK63
        refine W.exit rfl ?_
        exact ⟨Option.some.inj hq52, hE.pick _ trivial, hS⟩
      · obtain ⟨hlt58, hx59, hd57⟩ := drop_cons hd57
        rw [SlicesEqualFuncLLint_v1.loop1] at hq52
        refine W.seq ?_
        refine W.region ?_
        refine WL.vS hS hE (runs_plain rfl) (Gives.p hE rfl) rfl ?_; clear hE a; intro a hE
        refine WL.nil ?_
        refine W.seq ?_
        refine W.condT hE rfl (decide_eq_true (by omega)) ?_
        refine W.skip ?_
        refine W.seq ?_
        refine W.block ?_
        refine W.seq ?_
        refine W.region ?_
        refine WL.vS hS hE (runs_plain rfl) (Gives.p hE rfl) rfl ?_; clear hE a; intro a hE
        obtain ⟨cs64, hl65, hR66, hat67⟩ := h0.at hx59
        obtain ⟨a68, c69, rfl, h70⟩ := hR66
        refine WL.vS hS hE (runs_plain rfl) (Gives.idx hE k54 rfl rfl sl23 rfl hlt58 (h0.aok hlt58)) rfl ?_; clear hE a; intro a hE
        refine WL.vS hS hE (runs_plain rfl) (Gives.load1 hE rfl (fun w h => hat67 w _ h) ty31) rfl ?_; clear hE a; intro a hE
        refine WL.vS hS hE (runs_plain rfl) (Gives.p hE rfl) rfl ?_; clear hE a; intro a hE
        refine WL.vS hS hE (runs_plain rfl) (Gives.p hE rfl) rfl ?_; clear hE a; intro a hE
        refine WL.nil ?_
        refine W.seq ?_
        refine W.region ?_
        refine WL.vS hS hE (runs_plain rfl) (Gives.p hE rfl) rfl ?_; clear hE a; intro a hE
        refine WL.vS hS hE (runs_plain rfl) (Gives.p hE rfl) rfl ?_; clear hE a; intro a hE
        obtain ⟨x71, hx72, hq52⟩ := bindS hq52
        obtain ⟨hi73, hlt74, hy75⟩ := gx_some hx72
        obtain ⟨cs76, hl77, hR78, hat79⟩ := h1.at hy75
        obtain ⟨a80, c81, rfl, h82⟩ := hR78
        refine WL.vS hS hE (runs_plain rfl) (Gives.idx hE (((k54 : Nat) : Int)).toNat rfl rfl sl23 hi73 hlt74 (h1.aok hlt74)) rfl ?_; clear hE a; intro a hE
        refine WL.vS hS hE (runs_plain rfl) (Gives.load1 hE rfl (fun w h => hat79 w _ h) ty31) rfl ?_; clear hE a; intro a hE
        refine WL.vS hS hE (runs_plain rfl) (Gives.p hE rfl) rfl ?_; clear hE a; intro a hE
        refine WL.nil ?_
        refine W.seq ?_
        refine W.region ?_
        refine WL.vS hS hE (runs_plain rfl) (Gives.p hE rfl) rfl ?_; clear hE a; intro a hE
        refine WL.vS hS hE (runs_plain rfl) (Gives.p hE rfl) rfl ?_; clear hE a; intro a hE
        refine WL.vS hS hE (runs_plain rfl) (Gives.p hE rfl) rfl ?_; clear hE a; intro a hE
        obtain ⟨q83, hq84, hq52⟩ := bindS hq52
        have hc_ := SlicesEqualLint_ok hS h70 h82 hq84
        refine WL.fnw hE (hc_) rfl (runs_plain rfl) bd14 rfl rfl rfl ?_
        clear hE hS hc_; rintro e w ⟨rfl, hS⟩; refine ⟨_, rfl, ?_⟩; clear a; intro a hE
        refine WL.vS hS hE (runs_plain rfl) (Gives.p hE rfl) rfl ?_; clear hE a; intro a hE
        refine WL.nil ?_
        refine W.cond hE rfl (fun hc85 => ?_) (fun hc85 => ?_)
        · replace hq52 := iteT hc85 hq52
          refine W.seq ?_
          refine W.region ?_
          refine WL.vS hS hE (runs_plain rfl) (Gives.p hE rfl) rfl ?_; clear hE a; intro a hE
          refine WL.nil ?_
          refine W.ret ?_
          subst hK63
          rw [← Option.some.inj hq52] at hr
          dsimp only at hr
          refine finG (fn := Try.f13) (rs := [.tmp 6]) (vs := [_]) hE rfl ⟨rfl, trivial⟩ ?_
          obtain rfl := Option.some.inj hr
          exact ⟨rfl, hS⟩
        · replace hq52 := iteF hc85 hq52
          refine W.skip ?_
          refine W.region ?_
          refine WL.vS hS hE (runs_plain rfl) (Gives.inc hE rfl (by have := h0.small; omega)) rfl ?_; clear hE a; intro a hE
          refine WL.vS hS hE (runs_plain rfl) (Gives.p hE rfl) rfl ?_; clear hE a; intro a hE
          refine WL.nil ?_
          subst hK63
          exact ⟨rest56.length, Nat.lt_succ_self _, rest56, k54 + 1, rfl, hd57, hq52, hE.pick _ ⟨rfl, rfl, rfl, rfl, rfl, trivial⟩, hS⟩
    · clear hE hS a w; rintro a w ⟨rfl, hE, hS⟩
      dsimp only at hr
      refine W.seq ?_
      refine W.region ?_
      refine WL.vS hS hE (runs_plain rfl) (Gives.p hE rfl) rfl ?_; clear hE a; intro a hE
      refine WL.nil ?_
      refine W.ret ?_
      refine finG (fn := Try.f13) (rs := [.tmp 6]) (vs := [_]) hE rfl ⟨rfl, trivial⟩ ?_
      obtain rfl := Option.some.inj hr
      exact ⟨rfl, hS⟩
set_option maxHeartbeats 8000000 in
theorem Fishlaw2lists_ok  {w : World} {s : Sg} {R : List HP} {x0 : List (List Int)} {a0 : Option Addr} {c0 : Nat} {x1 : List (List Int)} {a1 : Option Addr} {c1 : Nat} (hS : St w s (R)) (h0 : Sl 1 (RL 1 (RI .i64)) s a0 c0 x0) (h1 : Sl 1 (RL 1 (RI .i64)) s a1 c1 x1) {r : Bool} (hr : Fishlaw2lists x0 x1 = some r) :
    Calls Try.prog 8 [.slice a0 x0.length c0, .slice a1 x1.length c1].toArray w (fun e w => e = .returned (.bool r) ∧ St w s (R)) := by
  refine enter Try.func8 rfl rfl rfl fun a hE => ?_
  rw [Fishlaw2lists] at hr
  refine W.seq ?_
  refine W.region ?_
  refine WL.vS hS hE (runs_plain rfl) (Gives.p hE rfl) rfl ?_; clear hE a; intro a hE
  refine WL.nil ?_
  refine W.seq ?_
  refine W.region ?_
  refine WL.vS hS hE (runs_plain rfl) (Gives.p hE rfl) rfl ?_; clear hE a; intro a hE
  refine WL.vS hS hE (runs_plain rfl) (Gives.p hE rfl) rfl ?_; clear hE a; intro a hE
  obtain ⟨q51, hq52, hr⟩ := bindS hr
  have hc_ := SlicesEqualFuncLLint_v1_ok hS h0 h1 hq52
  refine WL.fnq hE (hc_) (runs_plain rfl) bd13 rfl rfl rfl ?_
  clear hE hS hc_; rintro e w ⟨rfl, hS⟩; refine ⟨_, rfl, ?_⟩; clear a; intro a hE
  refine WL.vS hS hE (runs_plain rfl) (Gives.p hE rfl) rfl ?_; clear hE a; intro a hE
  refine WL.nil ?_
  refine W.ret ?_
  refine finG (fn := Try.f8) (rs := [.tmp 4]) (vs := [_]) hE rfl ⟨rfl, trivial⟩ ?_
  obtain rfl := Option.some.inj hr
  exact ⟨rfl, hS⟩
set_option maxHeartbeats 8000000 in
theorem Fishlaw2sets_ok {fu : Nat}  {w : World} {s : Sg} {R : List HP}  (hS : St w s (R))  {r : Bool} (hr : Fishlaw2sets fu = some r) :
    Calls Try.prog 7 [].toArray w (fun e w => e = .returned (.bool r) ∧ St w s (R)) := by
  refine enter Try.func7 rfl rfl rfl fun a hE => ?_
  rw [Fishlaw2sets] at hr
  refine W.seq ?_
  refine W.region ?_
  refine WL.vS hS hE (runs_plain rfl) (Gives.p hE rfl) rfl ?_; clear hE a; intro a hE
  refine WL.nil ?_
  refine W.seq ?_
  refine W.region ?_
  refine WL.vS hS hE (runs_plain rfl) (Gives.build hE (vs := [(0, .int .i64 0), (1, .int .i64 1), (2, .int .i64 10), (3, .int .i64 20), (5, .int .i64 1)]) [.int .i64 0, .int .i64 1, .int .i64 10, .int .i64 20, .int .i64 0, .int .i64 1] rfl (by kernel_rfl)) rfl ?_; clear hE a; intro a hE
  refine WL.vS hS hE (runs_plain rfl) (Gives.build hE (vs := [(0, .int .i64 0), (1, .int .i64 1), (2, .int .i64 30), (3, .int .i64 40), (5, .int .i64 1)]) [.int .i64 0, .int .i64 1, .int .i64 30, .int .i64 40, .int .i64 0, .int .i64 1] rfl (by kernel_rfl)) rfl ?_; clear hE a; intro a hE
  refine WL.vS hS hE (runs_plain rfl) (Gives.build hE (vs := [(0, .int .i64 1), (1, .int .i64 0), (2, .int .i64 25), (3, .int .i64 29), (5, .int .i64 1)]) [.int .i64 1, .int .i64 0, .int .i64 25, .int .i64 29, .int .i64 0, .int .i64 1] rfl (by kernel_rfl)) rfl ?_; clear hE a; intro a hE
  refine WL.lit hE hS (e := 34) (es := 6) (vs := [(0, .agg (List.toArray [.int .i64 0, .int .i64 1, .int .i64 10, .int .i64 20, .int .i64 0, .int .i64 1])), (1, .agg (List.toArray [.int .i64 0, .int .i64 1, .int .i64 30, .int .i64 40, .int .i64 0, .int .i64 1])), (2, .agg (List.toArray [.int .i64 1, .int .i64 0, .int .i64 25, .int .i64 29, .int .i64 0, .int .i64 1]))]) (cs := [.int .i64 0, .int .i64 1, .int .i64 10, .int .i64 20, .int .i64 0, .int .i64 1, .int .i64 0, .int .i64 1, .int .i64 30, .int .i64 40, .int .i64 0, .int .i64 1, .int .i64 1, .int .i64 0, .int .i64 25, .int .i64 29, .int .i64 0, .int .i64 1]) (runs_plain rfl) rfl (by kernel_rfl) rfl ?_; clear hE hS a w; intro b51 a w hE hS
  replace hS := hS.ptVec (es := 6) (m := 3) rfl (by decide)
  have h53 : Ev 6 RFleetTask s [.int .i64 0, .int .i64 1, .int .i64 10, .int .i64 20, .int .i64 0, .int .i64 1, .int .i64 0, .int .i64 1, .int .i64 30, .int .i64 40, .int .i64 0, .int .i64 1, .int .i64 1, .int .i64 0, .int .i64 25, .int .i64 29, .int .i64 0, .int .i64 1] [(FleetTask.mk 0 1 10 20 0 1), (FleetTask.mk 0 1 30 40 0 1), (FleetTask.mk 1 0 25 29 0 1)] := (Ev.cons (c1 := [.int .i64 0, .int .i64 1, .int .i64 10, .int .i64 20, .int .i64 0, .int .i64 1]) rfl rfl (Ev.cons (c1 := [.int .i64 0, .int .i64 1, .int .i64 30, .int .i64 40, .int .i64 0, .int .i64 1]) rfl rfl (Ev.cons (c1 := [.int .i64 1, .int .i64 0, .int .i64 25, .int .i64 29, .int .i64 0, .int .i64 1]) rfl rfl (Ev.nil))))
  have hF := hS.fixD RFleetTask.mono 0 rfl h53 (rfl); clear hS; obtain ⟨s54, hle55, hS, h56⟩ := hF
  refine WL.vS hS hE (runs_plain rfl) (Gives.p hE rfl) rfl ?_; clear hE a; intro a hE
  refine WL.nil ?_
  refine W.seq ?_
  refine W.region ?_
  refine WL.vS hS hE (runs_plain rfl) (Gives.p hE rfl) rfl ?_; clear hE a; intro a hE
  obtain ⟨q57, hq58, hr⟩ := bindS hr
  have hc_ := FleetTurns_ok hS h56 hq58
  refine WL.fnq hE (hc_) (runs_plain rfl) bd12 rfl rfl rfl ?_
  clear hE hS hc_; rintro e w ⟨a59, c60, s62, rfl, hle63, h61, hS⟩; refine ⟨_, rfl, ?_⟩; clear a; intro a hE
  replace h56 := Sl.mono RFleetTask.mono hle63 h56
  refine WL.vS hS hE (runs_plain rfl) (Gives.p hE rfl) rfl ?_; clear hE a; intro a hE
  refine WL.vS hS hE (runs_plain rfl) (Gives.p hE rfl) rfl ?_; clear hE a; intro a hE
  refine WL.vS hS hE (runs_plain rfl) (Gives.p hE rfl) rfl ?_; clear hE a; intro a hE
  refine WL.vS hS hE (runs_plain rfl) (Gives.p hE rfl) rfl ?_; clear hE a; intro a hE
  refine WL.vS hS hE (runs_plain rfl) (Gives.p hE rfl) rfl ?_; clear hE a; intro a hE
  refine WL.nil ?_
  refine W.seq ?_
  obtain ⟨q65, hq64, hr⟩ := bindS hr
  refine W.cut (fun a w => ∃ (q68 : Bool), ∃ (s66 : Sg), s62.Le s66 ∧ q68 = q65 ∧ Rep a 21 [(0, .bool q68)] ∧ St w s66 (R)) ?_ ?_
  · refine W.gen fun K69 hK69 => ?_
    refine W.region ?_
    refine WL.vS hS hE (runs_plain rfl) (Gives.p hE rfl) rfl ?_; clear hE a; intro a hE
    refine WL.vS hS hE (runs_plain rfl) (Gives.p hE rfl) rfl ?_; clear hE a; intro a hE
    refine WL.vS hS hE (runs_plain rfl) (Gives.p hE rfl) rfl ?_; clear hE a; intro a hE
    rcases Bool.eq_false_or_eq_true (q57.2 == 0) with hg70 | hg70
    · replace hq64 := iteT hg70 hq64
      refine WL.vS hS hE (runs_if hE rfl rfl rfl hg70) (Gives.p hE rfl) rfl ?_; clear hE a; intro a hE
      refine WL.lit hE hS (e := 3) (es := 1) (vs := [(0, .int .i64 0), (1, .int .i64 2), (2, .int .i64 1)]) (cs := [.int .i64 0, .int .i64 2, .int .i64 1]) (runs_if hE rfl rfl rfl hg70) rfl (by kernel_rfl) rfl ?_; clear hE hS a w; intro b71 a w hE hS
      replace hS := hS.ptVec (es := 1) (m := 3) rfl (by decide)
      have h73 : Ev 1 (RI .i64) s62 [.int .i64 0, .int .i64 2, .int .i64 1] [0, 2, 1] := (Ev.cons (c1 := [.int .i64 0]) rfl rfl (Ev.cons (c1 := [.int .i64 2]) rfl rfl (Ev.cons (c1 := [.int .i64 1]) rfl rfl (Ev.nil))))
      have hF := hS.fixD RI.mono 0 rfl h73 (rfl); clear hS; obtain ⟨s74, hle75, hS, h76⟩ := hF
      replace h56 := Sl.mono RFleetTask.mono hle75 h56
      replace h61 := Sl.mono (RL.mono RI.mono) hle75 h61
      refine WL.lit hE hS (e := 31) (es := 1) (vs := [(0, .slice (some ⟨b71, 0, none⟩) 3 3)]) (cs := [.slice (some ⟨b71, 0, none⟩) 3 3]) (runs_if hE rfl rfl rfl hg70) rfl (by kernel_rfl) rfl ?_; clear hE hS a w; intro b77 a w hE hS
      replace hS := hS.ptVec (es := 1) (m := 1) rfl (by decide)
      have h79 : Ev 1 (RL 1 (RI .i64)) s74 [.slice (some ⟨b71, 0, none⟩) 3 3] [[0, 2, 1]] := (Ev.cons (c1 := [.slice (some ⟨b71, 0, none⟩) 3 3]) ⟨_, _, rfl, h76⟩ rfl (Ev.nil))
      have hF := hS.fixD (RL.mono RI.mono) 0 rfl h79 (rfl); clear hS; obtain ⟨s80, hle81, hS, h82⟩ := hF
      replace h56 := Sl.mono RFleetTask.mono hle81 h56
      replace h61 := Sl.mono (RL.mono RI.mono) hle81 h61
      replace h76 := Sl.mono RI.mono hle81 h76
      obtain ⟨q83, hq84, hq64⟩ := bindS hq64
      have hc_ := Fishlaw2lists_ok hS h61 h82 hq84
      refine WL.fnq hE (hc_) (runs_if hE rfl rfl rfl hg70) bd8 rfl rfl rfl ?_
      clear hE hS hc_; rintro e w ⟨rfl, hS⟩; refine ⟨_, rfl, ?_⟩; clear a; intro a hE
      refine WL.vS hS hE (runs_plain rfl) (Gives.pickT hE rfl hg70 rfl) rfl ?_; clear hE a; intro a hE
      refine WL.vS hS hE (runs_plain rfl) (Gives.p hE rfl) rfl ?_; clear hE a; intro a hE
      refine WL.nil ?_
      subst hK69
      exact ⟨q83, s80, (Sg.Le.trans hle75 hle81), Option.some.inj hq64, hE.pick _ ⟨rfl, trivial⟩, hS⟩
    · replace hq64 := iteF hg70 hq64
      refine WL.no hE (runs_not hE rfl rfl rfl (by rw [hg70]; decide)) rfl ?_; clear hE a; intro a hE
      refine WL.no hE (runs_not hE rfl rfl rfl (by rw [hg70]; decide)) rfl ?_; clear hE a; intro a hE
      refine WL.no hE (runs_not hE rfl rfl rfl (by rw [hg70]; decide)) rfl ?_; clear hE a; intro a hE
      refine WL.no hE (runs_not hE rfl rfl rfl (by rw [hg70]; decide)) rfl ?_; clear hE a; intro a hE
      refine WL.vS hS hE (runs_plain rfl) (Gives.pickF hE rfl hg70 rfl) rfl ?_; clear hE a; intro a hE
      refine WL.vS hS hE (runs_plain rfl) (Gives.p hE rfl) rfl ?_; clear hE a; intro a hE
      refine WL.nil ?_
      subst hK69
      exact ⟨false, s62, (Sg.Le.refl _), Option.some.inj hq64, hE.pick _ ⟨rfl, trivial⟩, hS⟩
  · clear hE hS a w; rintro a w ⟨q68, s66, hle67, rfl, hE, hS⟩
    refine W.ret ?_
    refine finG (fn := Try.f7) (rs := [.tmp 0]) (vs := [_]) hE rfl ⟨rfl, trivial⟩ ?_
    obtain rfl := Option.some.inj hr
    exact ⟨rfl, (hS.down (Sg.Le.trans (Sg.Le.trans hle55 hle63) hle67))⟩
set_option maxHeartbeats 8000000 in
theorem Fishlaw2FleetRuns_ok {fu : Nat}  {w : World} {s : Sg} {R : List HP} {x0 : List FleetTask} {a0 : Option Addr} {c0 : Nat} {x1 : List (List Int)} {a1 : Option Addr} {c1 : Nat} (hS : St w s (R)) (h0 : Sl 6 RFleetTask s a0 c0 x0) (h1 : Sl 1 (RL 1 (RI .i64)) s a1 c1 x1) {r : Bool} (hr : Fishlaw2FleetRuns fu x0 x1 = some r) :
    Calls Try.prog 3 [.slice a0 x0.length c0, .slice a1 x1.length c1].toArray w (fun e w => e = .returned (.bool r) ∧ St w s (R)) := by
  refine enter Try.func3 rfl rfl rfl fun a hE => ?_
  rw [Fishlaw2FleetRuns] at hr
  refine W.seq ?_
  refine W.region ?_
  refine WL.vS hS hE (runs_plain rfl) (Gives.p hE rfl) rfl ?_; clear hE a; intro a hE
  refine WL.nil ?_
  refine W.seq ?_
  refine W.region ?_
  refine WL.vS hS hE (runs_plain rfl) (Gives.p hE rfl) rfl ?_; clear hE a; intro a hE
  refine WL.vS hS hE (runs_plain rfl) (Gives.p hE rfl) rfl ?_; clear hE a; intro a hE
  obtain ⟨q51, hq52, hr⟩ := bindS hr
  have hc_ := FleetRuns_ok hS h0 h1 hq52
  refine WL.fnq hE (hc_) (runs_plain rfl) bd4 rfl rfl rfl ?_
  clear hE hS hc_; rintro e w ⟨a53, c54, n55, cs56, s59, rfl, hle60, h57, rfl, hS⟩; refine ⟨_, rfl, ?_⟩; clear a; intro a hE
  replace h0 := Sl.mono RFleetTask.mono hle60 h0
  replace h1 := Sl.mono (RL.mono RI.mono) hle60 h1
  refine WL.vS hS hE (runs_plain rfl) (Gives.p hE rfl) rfl ?_; clear hE a; intro a hE
  refine WL.vS hS hE (runs_plain rfl) (Gives.p hE rfl) rfl ?_; clear hE a; intro a hE
  refine WL.vS hS hE (runs_plain rfl) (Gives.p hE rfl) rfl ?_; clear hE a; intro a hE
  refine WL.vS hS hE (runs_plain rfl) (Gives.p hE rfl) rfl ?_; clear hE a; intro a hE
  refine WL.vS hS hE (runs_plain rfl) (Gives.p hE rfl) rfl ?_; clear hE a; intro a hE
  refine WL.nil ?_
  refine W.seq ?_
  refine W.region ?_
  refine WL.vS hS hE (runs_plain rfl) (Gives.p hE rfl) rfl ?_; clear hE a; intro a hE
  refine WL.fnq hE (Fishref2TasksFault_ok hS h0 rfl (r := Fishref2TasksFault x0)) (runs_plain rfl) bd5 rfl rfl rfl ?_
  clear hE hS; rintro e w ⟨rfl, hS⟩; refine ⟨_, rfl, ?_⟩; clear a; intro a hE
  refine WL.vS hS hE (runs_plain rfl) (Gives.p hE rfl) rfl ?_; clear hE a; intro a hE
  refine WL.nil ?_
  refine W.seq ?_
  refine W.region ?_
  refine WL.vS hS hE (runs_plain rfl) (Gives.p hE rfl) rfl ?_; clear hE a; intro a hE
  refine WL.nil ?_
  refine W.seq ?_
  refine W.seq ?_
  refine W.region ?_
  refine WL.vS hS hE (runs_plain rfl) (Gives.p hE rfl) rfl ?_; clear hE a; intro a hE
  refine WL.vS hS hE (runs_plain rfl) (Gives.p hE rfl) rfl ?_; clear hE a; intro a hE
  refine WL.nil ?_
  obtain ⟨q62, hq61, hr⟩ := bindS hr
  refine W.cut (fun a w => ∃ (q65 : Int), ∃ (q66 : List (List Int)), ∃ (a67 : Option Addr), ∃ (c68 : Nat), ∃ (s63 : Sg), s59.Le s63 ∧ (q65, q66) = q62 ∧ Sl 1 (RL 1 (RI .i64)) s63 a67 c68 q66 ∧ Rep a 36 [(5, .slice a53 q51.1.length c54), (6, .int .i64 q51.2), (7, .int .i64 q65), (8, .slice a67 q66.length c68)] ∧ St w s63 (vecC 31 1 a53 c54 q51.1.length cs56 :: R)) ?_ ?_
  · refine W.gen fun K70 hK70 => ?_
    refine W.cond hE rfl (fun hc71 => ?_) (fun hc71 => ?_)
    · replace hq61 := iteT hc71 hq61
      refine W.region ?_
      refine WL.vS hS hE (runs_plain rfl) (Gives.p hE rfl) rfl ?_; clear hE a; intro a hE
      refine WL.vS hS hE (runs_plain rfl) (Gives.p hE rfl) rfl ?_; clear hE a; intro a hE
      obtain ⟨q72, hq73, hq61⟩ := bindS hq61
      have hc_ := Fishref2SumsOf_ok hS h0 h1 hq73
      refine WL.fnq hE (hc_) (runs_plain rfl) bd6 rfl rfl rfl ?_
      clear hE hS hc_; rintro e w ⟨a74, c75, n76, cs77, s80, rfl, hle81, h78, rfl, hS⟩; refine ⟨_, rfl, ?_⟩; clear a; intro a hE
      replace h0 := Sl.mono RFleetTask.mono hle81 h0
      replace h1 := Sl.mono (RL.mono RI.mono) hle81 h1
      replace h57 := Ev.mono (RL.mono RI.mono) hle81 h57
      refine WL.vS hS hE (runs_plain rfl) (Gives.p hE rfl) rfl ?_; clear hE a; intro a hE
      refine WL.vS hS hE (runs_plain rfl) (Gives.p hE rfl) rfl ?_; clear hE a; intro a hE
      refine WL.vS hS hE (runs_plain rfl) (Gives.p hE rfl) rfl ?_; clear hE a; intro a hE
      refine WL.vS hS hE (runs_plain rfl) (Gives.p hE rfl) rfl ?_; clear hE a; intro a hE
      refine WL.vS hS hE (runs_plain rfl) (Gives.p hE rfl) rfl ?_; clear hE a; intro a hE
      refine WL.nil ?_
      have hF := hS.fixD (RL.mono RI.mono) 0 rfl h78 rfl; clear hS; obtain ⟨s82, hle83, hS, h84⟩ := hF
      replace h0 := Sl.mono RFleetTask.mono hle83 h0
      replace h1 := Sl.mono (RL.mono RI.mono) hle83 h1
      replace h57 := Ev.mono (RL.mono RI.mono) hle83 h57
      subst hK70
      exact ⟨q72.2, q72.1, a74, c75, s82, (Sg.Le.trans hle81 hle83), Option.some.inj hq61, h84, hE.pick _ ⟨rfl, rfl, rfl, rfl, trivial⟩, hS⟩
    · replace hq61 := iteF hc71 hq61
      refine W.skip ?_
      subst hK70
      exact ⟨(Fishref2TasksFault x0), [], none, 0, s59, (Sg.Le.refl _), Option.some.inj hq61, Sl.nil, hE.pick _ ⟨rfl, rfl, rfl, rfl, trivial⟩, hS⟩
  · clear hE hS a w; rintro a w ⟨q65, q66, a67, c68, s63, hle64, rfl, h69, hE, hS⟩
    dsimp only at hr
    replace h57 := Ev.mono (RL.mono RI.mono) hle64 h57
    refine W.seq ?_
    obtain ⟨q86, hq85, hr⟩ := bindS hr
    refine W.cut (fun a w => ∃ (q89 : Bool), q89 = q86 ∧ Rep a 36 [(4, .bool q89)] ∧ St w s63 (R)) ?_ ?_
    · refine W.gen fun K90 hK90 => ?_
      refine W.region ?_
      obtain ⟨q91, hq92, hq85⟩ := bindS hq85
      have hc_ := Fishlaw2sets_ok hS  hq92
      refine WL.fnq hE (hc_) (runs_plain rfl) bd7 rfl rfl rfl ?_
      clear hE hS hc_; rintro e w ⟨rfl, hS⟩; refine ⟨_, rfl, ?_⟩; clear a; intro a hE
      refine WL.vS hS hE (runs_plain rfl) (Gives.p hE rfl) rfl ?_; clear hE a; intro a hE
      rcases Bool.eq_false_or_eq_true q91 with hg93 | hg93
      · replace hq85 := iteT hg93 hq85
        refine WL.vS hS hE (runs_if hE rfl rfl rfl hg93) (Gives.p hE rfl) rfl ?_; clear hE a; intro a hE
        refine WL.vS hS hE (runs_if hE rfl rfl rfl hg93) (Gives.p hE rfl) rfl ?_; clear hE a; intro a hE
        refine WL.vS hS hE (runs_if hE rfl rfl rfl hg93) (Gives.p hE rfl) rfl ?_; clear hE a; intro a hE
        refine WL.vS hS hE (runs_plain rfl) (Gives.pickT hE rfl hg93 rfl) rfl ?_; clear hE a; intro a hE
        refine WL.vS hS hE (runs_plain rfl) (Gives.p hE rfl) rfl ?_; clear hE a; intro a hE
        rcases Bool.eq_false_or_eq_true (q51.2 == q65) with hg94 | hg94
        · replace hq85 := iteT hg94 hq85
          refine WL.vS hS hE (runs_if hE rfl rfl rfl hg94) (Gives.p hE rfl) rfl ?_; clear hE a; intro a hE
          refine WL.vS hS hE (runs_if hE rfl rfl rfl hg94) (Gives.p hE rfl) rfl ?_; clear hE a; intro a hE
          obtain ⟨q95, hq96, hq85⟩ := bindS hq85
          have hF := hS.lendV (RL.mono RI.mono) 0 rfl h57 rfl; clear hS; obtain ⟨t97, hle98, hS, hs99, bk100⟩ := hF
          have hc_ := Fishlaw2lists_ok hS hs99 (Sl.mono (RL.mono RI.mono) hle98 h69) hq96
          refine WL.fnq hE (hc_) (runs_if hE rfl rfl rfl hg94) bd8 rfl rfl rfl ?_
          clear hE hS hc_; rintro e w ⟨rfl, hS⟩; refine ⟨_, rfl, ?_⟩; clear a; intro a hE
          replace hS := bk100 _ _ hS
          refine WL.vS hS hE (runs_plain rfl) (Gives.pickT hE rfl hg94 rfl) rfl ?_; clear hE a; intro a hE
          refine WL.vS hS hE (runs_plain rfl) (Gives.p hE rfl) rfl ?_; clear hE a; intro a hE
          refine WL.nil ?_
          replace hS := hS.tail
          subst hK90
          exact ⟨q95, Option.some.inj hq85, hE.pick _ ⟨rfl, trivial⟩, hS⟩
        · replace hq85 := iteF hg94 hq85
          refine WL.no hE (runs_not hE rfl rfl rfl (by rw [hg94]; decide)) rfl ?_; clear hE a; intro a hE
          refine WL.no hE (runs_not hE rfl rfl rfl (by rw [hg94]; decide)) rfl ?_; clear hE a; intro a hE
          refine WL.no hE (runs_not hE rfl rfl rfl (by rw [hg94]; decide)) rfl ?_; clear hE a; intro a hE
          refine WL.vS hS hE (runs_plain rfl) (Gives.pickF hE rfl hg94 rfl) rfl ?_; clear hE a; intro a hE
          refine WL.vS hS hE (runs_plain rfl) (Gives.p hE rfl) rfl ?_; clear hE a; intro a hE
          refine WL.nil ?_
          replace hS := hS.tail
          subst hK90
          exact ⟨false, Option.some.inj hq85, hE.pick _ ⟨rfl, trivial⟩, hS⟩
      · replace hq85 := iteF hg93 hq85
        refine WL.no hE (runs_not hE rfl rfl rfl (by rw [hg93]; decide)) rfl ?_; clear hE a; intro a hE
        refine WL.no hE (runs_not hE rfl rfl rfl (by rw [hg93]; decide)) rfl ?_; clear hE a; intro a hE
        refine WL.no hE (runs_not hE rfl rfl rfl (by rw [hg93]; decide)) rfl ?_; clear hE a; intro a hE
        refine WL.vS hS hE (runs_plain rfl) (Gives.pickF hE rfl hg93 rfl) rfl ?_; clear hE a; intro a hE
        refine WL.vS hS hE (runs_plain rfl) (Gives.p hE rfl) rfl ?_; clear hE a; intro a hE
        refine WL.no hE (runs_not hE rfl rfl rfl (by decide)) rfl ?_; clear hE a; intro a hE
        refine WL.no hE (runs_not hE rfl rfl rfl (by decide)) rfl ?_; clear hE a; intro a hE
        refine WL.no hE (runs_not hE rfl rfl rfl (by decide)) rfl ?_; clear hE a; intro a hE
        refine WL.vS hS hE (runs_plain rfl) (Gives.pickF hE rfl rfl rfl) rfl ?_; clear hE a; intro a hE
        refine WL.vS hS hE (runs_plain rfl) (Gives.p hE rfl) rfl ?_; clear hE a; intro a hE
        refine WL.nil ?_
        replace hS := hS.tail
        subst hK90
        exact ⟨false, Option.some.inj hq85, hE.pick _ ⟨rfl, trivial⟩, hS⟩
    · clear hE hS a w; rintro a w ⟨q89, rfl, hE, hS⟩
      refine W.ret ?_
      refine finG (fn := Try.f3) (rs := [.tmp 4]) (vs := [_]) hE rfl ⟨rfl, trivial⟩ ?_
      obtain rfl := Option.some.inj hr
      exact ⟨rfl, (hS.down (Sg.Le.trans hle60 hle64))⟩
end Go.Proofs.Ytheolnmeelgmeaa
