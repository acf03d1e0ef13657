/- The walks of the functions that FleetStands reaches: each call comes to what its mirror says. The conditions are those of each contract. -/
import Derived.Test.YtfhkpdnohcidgaaProg
import Derived.Test.YtfhkpdnohcidgaaFleetStandsM
import Derived.Test.YtfhkpdnohcidgaaFpAllS
import Derived.Test.YtfhkpdnohcidgaaFleetStandsS
import Derived.Test.YtfhkpdnohcidgaaFpMapS
import Derived.Test.YtfhkpdnohcidgaaFpCalm
import Derived.Test.YtfhkpdnohcidgaaFpOrd
import Derived.Test.YtfhkpdnohcidgaaFpRow
import Derived.Test.YtfhkpdnohcidgaaFleetStandsW2
namespace Go.Proofs.Ytfhkpdnohcidgaa
open Go Go.Fp
set_option maxHeartbeats 8000000 in
theorem Fishref2StandInsOf_2_v2_ok  {w : World} {s : Sg} {R : List HP} {pb0 : Nat} {pb1 : Nat} {pb2 : Nat} {pb3 : Nat} {pb4 : Nat} {pb5 : Nat} {pb6 : Nat} {pb7 : Nat} {pb8 : Nat} {x0 : List Int} {a_v0 : Option Addr} {c_v0 n_v0 : Nat} {cs_v0 : List Value} {y0 : List Int} {a_v1 : Option Addr} {c_v1 n_v1 : Nat} {cs_v1 : List Value} {y1 : List Int} {a_v2 : Option Addr} {c_v2 n_v2 : Nat} {cs_v2 : List Value} {y2 : Int} {y4 : List FleetShift} {a_y4_0 : Option Addr} {c_y4_0 : Nat} {y5 : FleetLimits} {y6 : Int} {y7 : List Int} {a_y7_0 : Option Addr} {c_y7_0 : Nat} {y8 : List FleetAbsence} {a_y8_0 : Option Addr} {c_y8_0 : Nat} (hS : St w s (pt pb0 (.cells #[.slice a_v1 n_v1 c_v1] 44 (0, 0)) :: pt pb1 (.cells #[.slice a_v2 n_v2 c_v2] 44 (0, 0)) :: pt pb2 (.cells #[.int .i64 y2] 3 (0, 0)) :: pt pb3 (.cells #[.func (.func 91) #[] #[.pointer (some ⟨pb8, 0, none⟩)]] 130 (0, 0)) :: pt pb4 (.cells #[.slice a_y4_0 y4.length c_y4_0] 22 (0, 0)) :: pt pb5 (.cells #[.int .i64 y5.Change, .int .i64 y5.Long, .int .i64 y5.Work, .int .i64 y5.After, .int .i64 y5.Break, .int .i64 y5.Rest, .int .i64 y5.Row] 24 (0, 0)) :: pt pb6 (.cells #[.int .i64 y6] 3 (0, 0)) :: pt pb7 (.cells #[.slice a_y7_0 y7.length c_y7_0] 44 (0, 0)) :: pt pb8 (.cells #[.slice a_y8_0 y8.length c_y8_0] 59 (0, 0)) :: vecC 3 1 a_v0 c_v0 n_v0 cs_v0 :: vecC 3 1 a_v1 c_v1 n_v1 cs_v1 :: vecC 3 1 a_v2 c_v2 n_v2 cs_v2 :: R)) (h_v0 : Ev 1 (RI .i64) s cs_v0 x0) (hn_v0 : x0.length = n_v0) (h_v1 : Ev 1 (RI .i64) s cs_v1 y0) (hn_v1 : y0.length = n_v1) (h_v2 : Ev 1 (RI .i64) s cs_v2 y1) (hn_v2 : y1.length = n_v2) (h_y4_0 : Sl 3 RFleetShift s a_y4_0 c_y4_0 y4) (h_y7_0 : Sl 1 (RI .i64) s a_y7_0 c_y7_0 y7) (h_y8_0 : Sl 2 RFleetAbsence s a_y8_0 c_y8_0 y8) {r : Bool × Int × (List Int)} (hr : Fishref2StandInsOf_2_v2 x0 y0 y1 y2 y4 y5 y6 y7 y8 = some r) :
    Calls Try.prog 93 [.slice a_v0 n_v0 c_v0, .pointer (some ⟨pb0, 0, none⟩), .pointer (some ⟨pb1, 0, none⟩), .pointer (some ⟨pb2, 0, none⟩), .pointer (some ⟨pb3, 0, none⟩), .pointer (some ⟨pb4, 0, none⟩), .pointer (some ⟨pb5, 0, none⟩), .pointer (some ⟨pb6, 0, none⟩), .pointer (some ⟨pb7, 0, none⟩)].toArray w (fun e w => ∃ (a58 : Option Addr) (c59 : Nat) (t : Sg), e = .returned (.bool r.1) ∧ s.Le t ∧ Sl 1 (RI .i64) t a58 c59 r.2.2 ∧ St w t (pt pb0 (.cells #[.slice a_v1 n_v1 c_v1] 44 (0, 0)) :: pt pb1 (.cells #[.slice a_v2 n_v2 c_v2] 44 (0, 0)) :: pt pb2 (.cells #[.int .i64 y2] 3 (0, 0)) :: pt pb3 (.cells #[.func (.func 91) #[] #[.pointer (some ⟨pb8, 0, none⟩)]] 130 (0, 0)) :: pt pb4 (.cells #[.slice a_y4_0 y4.length c_y4_0] 22 (0, 0)) :: pt pb5 (.cells #[.int .i64 y5.Change, .int .i64 y5.Long, .int .i64 y5.Work, .int .i64 y5.After, .int .i64 y5.Break, .int .i64 y5.Rest, .int .i64 y5.Row] 24 (0, 0)) :: pt pb6 (.cells #[.int .i64 r.2.1] 3 (0, 0)) :: pt pb7 (.cells #[.slice a58 r.2.2.length c59] 44 (0, 0)) :: pt pb8 (.cells #[.slice a_y8_0 y8.length c_y8_0] 59 (0, 0)) :: vecC 3 1 a_v0 c_v0 n_v0 cs_v0 :: vecC 3 1 a_v1 c_v1 n_v1 cs_v1 :: vecC 3 1 a_v2 c_v2 n_v2 cs_v2 :: R)) := by
  refine enter Try.func93 rfl rfl rfl fun a hE => ?_
  rw [Fishref2StandInsOf_2_v2] at hr
  subst hn_v0
  subst hn_v1
  subst hn_v2
  refine W.seq ?_
  refine W.region ?_
  refine WL.vS hS hE (runs_plain rfl) (Gives.p hE rfl) rfl ?_; clear hE a; intro a hE
  refine WL.nil ?_
  refine W.seq ?_
  refine W.region ?_
  refine WL.vS hS hE (runs_plain rfl) (Gives.loadB hE 0 rfl rfl rfl ty44) rfl ?_; clear hE a; intro a hE
  obtain ⟨q61, hq62, hr⟩ := bindS hr
  have hF := hS.lendV RI.mono 10 rfl h_v1 (rfl); clear hS; obtain ⟨t69, hle70, hS, hs71, bk72⟩ := hF
  have hc_ := SlicesCloneLint_ok hS hs71 hq62
  refine WL.fnq hE (hc_) (runs_plain rfl) bd41 rfl rfl rfl ?_
  clear hE hS hc_; rintro e w ⟨a63, c64, n65, cs66, rfl, h67, rfl, hS⟩; refine ⟨_, rfl, ?_⟩; clear a; intro a hE
  replace hS := bk72 _ _ hS
  replace h67 := Ev.flat (s2 := s) (fun _ _ _ _ h => h) h67
  refine WL.vS hS hE (runs_plain rfl) (Gives.p hE rfl) rfl ?_; clear hE a; intro a hE
  refine WL.nil ?_
  refine W.seq ?_
  refine W.region ?_
  refine WL.vS hS hE (runs_plain rfl) (Gives.p hE rfl) rfl ?_; clear hE a; intro a hE
  refine WL.nil ?_
  refine W.seq ?_
  refine W.seq ?_
  refine W.region ?_
  refine WL.vS hS hE (runs_plain rfl) (Gives.loadB hE 3 rfl rfl rfl ty44) rfl ?_; clear hE a; intro a hE
  refine WL.vS hS hE (runs_plain rfl) (Gives.len hE rfl sl44) rfl ?_; clear hE a; intro a hE
  refine WL.vS hS hE (runs_plain rfl) (Gives.p hE rfl) rfl ?_; clear hE a; intro a hE
  refine WL.nil ?_
  have hb84 : y1.length ≤ 9223372036854775807 := by have := hS.vecCap 12 rfl; unfold maxLen at this; omega
  obtain ⟨q74, hq73, hr⟩ := bindS hr
  refine W.cut (fun a w => ∃ (q85 : Int), ∃ (q86 : List Int), ∃ (cs90 : List Value), (.next (q85, q86)) = q74 ∧ Ev 1 (RI .i64) s cs90 q86 ∧ q86.length = q61.length ∧ Rep a 63 [(3, .pointer (some ⟨pb2, 0, none⟩)), (5, .pointer (some ⟨pb4, 0, none⟩)), (6, .pointer (some ⟨pb5, 0, none⟩)), (7, .pointer (some ⟨pb6, 0, none⟩)), (8, .pointer (some ⟨pb7, 0, none⟩)), (11, .slice a63 q61.length c64), (12, .int .i64 q85)] ∧ St w s (vecC 3 1 a_v1 c_v1 y0.length cs_v1 :: vecC 3 1 a63 c64 q61.length cs90 :: pt pb0 (.cells #[.slice a_v1 y0.length c_v1] 44 (0, 0)) :: pt pb1 (.cells #[.slice a_v2 y1.length c_v2] 44 (0, 0)) :: pt pb2 (.cells #[.int .i64 y2] 3 (0, 0)) :: pt pb3 (.cells #[.func (.func 91) #[] #[.pointer (some ⟨pb8, 0, none⟩)]] 130 (0, 0)) :: pt pb4 (.cells #[.slice a_y4_0 y4.length c_y4_0] 22 (0, 0)) :: pt pb5 (.cells #[.int .i64 y5.Change, .int .i64 y5.Long, .int .i64 y5.Work, .int .i64 y5.After, .int .i64 y5.Break, .int .i64 y5.Rest, .int .i64 y5.Row] 24 (0, 0)) :: pt pb6 (.cells #[.int .i64 y6] 3 (0, 0)) :: pt pb7 (.cells #[.slice a_y7_0 y7.length c_y7_0] 44 (0, 0)) :: pt pb8 (.cells #[.slice a_y8_0 y8.length c_y8_0] 59 (0, 0)) :: vecC 3 1 a_v0 c_v0 x0.length cs_v0 :: vecC 3 1 a_v2 c_v2 y1.length cs_v2 :: R)) ?_ ?_
  · refine W.block ?_
    refine W.loop (fun m a w => ∃ (rest77 : Nat) (k75 : Nat), ∃ (q85 : Int), ∃ (q86 : List Int), ∃ (cs90 : List Value), rest77 = m ∧ k75 + rest77 = y1.length ∧ Fishref2StandInsOf_2_v2.loop1 x0 y1 y2 y4 y6 y7 y8 rest77 k75 q85 q86 = some q74 ∧ Ev 1 (RI .i64) s cs90 q86 ∧ q86.length = q61.length ∧ Rep a 63 [(0, .slice a_v0 x0.length c_v0), (3, .pointer (some ⟨pb2, 0, none⟩)), (4, .pointer (some ⟨pb3, 0, none⟩)), (5, .pointer (some ⟨pb4, 0, none⟩)), (6, .pointer (some ⟨pb5, 0, none⟩)), (7, .pointer (some ⟨pb6, 0, none⟩)), (8, .pointer (some ⟨pb7, 0, none⟩)), (11, .slice a63 q61.length c64), (12, .int .i64 q85), (18, .slice a_v2 y1.length c_v2), (19, .int .i64 ((y1.length : Nat) : Int)), (20, .int .i64 ((k75 : Nat) : Int))] ∧ St w s (vecC 3 1 a_v1 c_v1 y0.length cs_v1 :: vecC 3 1 a63 c64 q61.length cs90 :: pt pb0 (.cells #[.slice a_v1 y0.length c_v1] 44 (0, 0)) :: pt pb1 (.cells #[.slice a_v2 y1.length c_v2] 44 (0, 0)) :: pt pb2 (.cells #[.int .i64 y2] 3 (0, 0)) :: pt pb3 (.cells #[.func (.func 91) #[] #[.pointer (some ⟨pb8, 0, none⟩)]] 130 (0, 0)) :: pt pb4 (.cells #[.slice a_y4_0 y4.length c_y4_0] 22 (0, 0)) :: pt pb5 (.cells #[.int .i64 y5.Change, .int .i64 y5.Long, .int .i64 y5.Work, .int .i64 y5.After, .int .i64 y5.Break, .int .i64 y5.Rest, .int .i64 y5.Row] 24 (0, 0)) :: pt pb6 (.cells #[.int .i64 y6] 3 (0, 0)) :: pt pb7 (.cells #[.slice a_y7_0 y7.length c_y7_0] 44 (0, 0)) :: pt pb8 (.cells #[.slice a_y8_0 y8.length c_y8_0] 59 (0, 0)) :: vecC 3 1 a_v0 c_v0 x0.length cs_v0 :: vecC 3 1 a_v2 c_v2 y1.length cs_v2 :: R)) (m := y1.length) ⟨y1.length, 0, 0, q61, cs66, rfl, by omega, hq73, h67, rfl, hE.pick _ ⟨rfl, rfl, rfl, rfl, rfl, rfl, rfl, rfl, rfl, rfl, rfl, rfl, trivial⟩, hS⟩ ?_
    clear hE hS a w hq73; rintro m81 a w ⟨rest77, k75, q85, q86, cs90, rfl, hd78, hq73, h89, hn91, hE, hS⟩
    refine W.gen fun K92 hK92 => ?_
    rcases rest77 with _ | rest77
    · skip
      refine W.seq ?_
      refine W.region ?_
      refine WL.vS hS hE (runs_plain rfl) (Gives.p hE rfl) rfl ?_; clear hE a; intro a hE
      refine WL.nil ?_
      refine W.seq ?_
      refine W.condF hE rfl (decide_eq_false (by omega)) ?_
      subst hK92
      refine W.exit rfl ?_
      exact ⟨q85, q86, cs90, Option.some.inj hq73, h89, hn91, hE.pick _ ⟨rfl, rfl, rfl, rfl, rfl, rfl, rfl, trivial⟩, hS⟩
    · have hlt79 : k75 < y1.length := by omega
      rw [Fishref2StandInsOf_2_v2.loop1] at hq73
      refine W.seq ?_
      refine W.region ?_
      refine WL.vS hS hE (runs_plain rfl) (Gives.p hE rfl) rfl ?_; clear hE a; intro a hE
      refine WL.nil ?_
      refine W.seq ?_
      refine W.condT hE rfl (decide_eq_true (by omega)) ?_
      refine W.skip ?_
      refine W.seq ?_
      refine W.block ?_
      refine W.seq ?_
      refine W.region ?_
      refine WL.vS hS hE (runs_plain rfl) (Gives.p hE rfl) rfl ?_; clear hE a; intro a hE
      obtain ⟨x93, hx94, hq73⟩ := bindS hq73
      obtain ⟨hi95, hlt96, hy97⟩ := gx_some hx94
      obtain ⟨vs98, hl99, hR100, hd101, hget102⟩ := h_v2.at hy97
      subst hR100
      refine WL.vS hS hE (runs_plain rfl) (Gives.idx hE ((((k75 : Nat) : Int)).toNat) rfl rfl sl44 hi95 (by omega) (hS.vecAok 12 rfl (by omega : (((k75 : Nat) : Int)).toNat < y1.length))) rfl ?_; clear hE a; intro a hE
      refine WL.vS hS hE (runs_plain rfl) (Gives.load1 hE rfl (fun w h => St.vecSees h 12 rfl ((((k75 : Nat) : Int)).toNat * 1) _ hget102) ty3) rfl ?_; clear hE a; intro a hE
      refine WL.vS hS hE (runs_plain rfl) (Gives.p hE rfl) rfl ?_; clear hE a; intro a hE
      refine WL.vS hS hE (runs_plain rfl) (Gives.p hE rfl) rfl ?_; clear hE a; intro a hE
      refine WL.nil ?_
      refine W.seq ?_
      refine W.region ?_
      refine WL.vS hS hE (runs_plain rfl) (Gives.p hE rfl) rfl ?_; clear hE a; intro a hE
      refine WL.vS hS hE (runs_plain rfl) (Gives.p hE rfl) rfl ?_; clear hE a; intro a hE
      obtain ⟨x103, hx104, hq73⟩ := bindS hq73
      obtain ⟨hi105, hlt106, hy107⟩ := gx_some hx104
      obtain ⟨vs108, hl109, hR110, hd111, hget112⟩ := h_v0.at hy107
      subst hR110
      refine WL.vS hS hE (runs_plain rfl) (Gives.idx hE ((((k75 : Nat) : Int)).toNat) rfl rfl sl44 hi105 (by omega) (hS.vecAok 11 rfl (by omega : (((k75 : Nat) : Int)).toNat < x0.length))) rfl ?_; clear hE a; intro a hE
      refine WL.vS hS hE (runs_plain rfl) (Gives.load1 hE rfl (fun w h => St.vecSees h 11 rfl ((((k75 : Nat) : Int)).toNat * 1) _ hget112) ty3) rfl ?_; clear hE a; intro a hE
      refine WL.vS hS hE (runs_plain rfl) (Gives.p hE rfl) rfl ?_; clear hE a; intro a hE
      refine WL.nil ?_
      refine W.seq ?_
      refine W.region ?_
      refine WL.vS hS hE (runs_plain rfl) (Gives.p hE rfl) rfl ?_; clear hE a; intro a hE
      refine WL.vS hS hE (runs_plain rfl) (Gives.p hE rfl) rfl ?_; clear hE a; intro a hE
      refine WL.vS hS hE (runs_plain rfl) (Gives.p hE rfl) rfl ?_; clear hE a; intro a hE
      obtain ⟨_, hx114, hq73⟩ := bindS hq73
      obtain ⟨h115, h116⟩ := ix_some hx114
      refine WL.vS hS hE (runs_plain rfl) (Gives.idx hE ((x93).toNat) rfl rfl sl44 h115 (by have := hn91; omega) (hS.vecAok 1 rfl (by have := hn91; omega : (x93).toNat < q61.length))) rfl ?_; clear hE a; intro a hE
      obtain ⟨x118, hx119, hq73⟩ := bindS hq73
      refine WL.setD hE hS 1 rfl (runs_plain rfl) rfl rfl (vs := [.int .i64 x103]) rfl ty3 rfl rfl rfl h89 hn91 (sx_some hx119).1 hx119 rfl rfl ?_; clear hE hS a w; intro cs120 a w h121 hn122 hE hS
      refine WL.nil ?_
      refine W.seq ?_
      refine W.region ?_
      refine WL.vS hS hE (runs_plain rfl) (Gives.p hE rfl) rfl ?_; clear hE a; intro a hE
      refine WL.vS hS hE (runs_plain rfl) (Gives.loadB hE 4 rfl rfl rfl ty3) rfl ?_; clear hE a; intro a hE
      refine WL.vS hS hE (runs_plain rfl) (Gives.p hE rfl) rfl ?_; clear hE a; intro a hE
      refine WL.nil ?_
      obtain ⟨q124, hq123, hq73⟩ := bindS hq73
      refine W.cut (fun a w => ∃ (q127 : Int), .next q127 = q124 ∧ Rep a 63 [(0, .slice a_v0 x0.length c_v0), (3, .pointer (some ⟨pb2, 0, none⟩)), (4, .pointer (some ⟨pb3, 0, none⟩)), (5, .pointer (some ⟨pb4, 0, none⟩)), (6, .pointer (some ⟨pb5, 0, none⟩)), (7, .pointer (some ⟨pb6, 0, none⟩)), (8, .pointer (some ⟨pb7, 0, none⟩)), (11, .slice a63 q61.length c64), (12, .int .i64 q127), (18, .slice a_v2 y1.length c_v2), (19, .int .i64 ((y1.length : Nat) : Int)), (20, .int .i64 ((k75 : Nat) : Int))] ∧ St w s (vecC 3 1 a_v1 c_v1 y0.length cs_v1 :: vecC 3 1 a63 c64 q61.length cs120 :: pt pb0 (.cells #[.slice a_v1 y0.length c_v1] 44 (0, 0)) :: pt pb1 (.cells #[.slice a_v2 y1.length c_v2] 44 (0, 0)) :: pt pb2 (.cells #[.int .i64 y2] 3 (0, 0)) :: pt pb3 (.cells #[.func (.func 91) #[] #[.pointer (some ⟨pb8, 0, none⟩)]] 130 (0, 0)) :: pt pb4 (.cells #[.slice a_y4_0 y4.length c_y4_0] 22 (0, 0)) :: pt pb5 (.cells #[.int .i64 y5.Change, .int .i64 y5.Long, .int .i64 y5.Work, .int .i64 y5.After, .int .i64 y5.Break, .int .i64 y5.Rest, .int .i64 y5.Row] 24 (0, 0)) :: pt pb6 (.cells #[.int .i64 y6] 3 (0, 0)) :: pt pb7 (.cells #[.slice a_y7_0 y7.length c_y7_0] 44 (0, 0)) :: pt pb8 (.cells #[.slice a_y8_0 y8.length c_y8_0] 59 (0, 0)) :: vecC 3 1 a_v0 c_v0 x0.length cs_v0 :: vecC 3 1 a_v2 c_v2 y1.length cs_v2 :: R)) ?_ ?_
      · refine W.gen fun K128 hK128 => ?_
        refine W.cond hE rfl (fun hc129 => ?_) (fun hc129 => ?_)
        · replace hq123 := iteT hc129 hq123
          refine W.region ?_
          refine WL.vS hS hE (runs_plain rfl) (Gives.p hE rfl) rfl ?_; clear hE a; intro a hE
          refine WL.vS hS hE (runs_plain rfl) (Gives.p hE rfl) rfl ?_; clear hE a; intro a hE
          refine WL.vS hS hE (runs_plain rfl) (Gives.p hE rfl) rfl ?_; clear hE a; intro a hE
          refine WL.nil ?_
          subst hK128
          exact ⟨w64 (q85 + 1), Option.some.inj hq123, hE.pick _ ⟨rfl, rfl, rfl, rfl, rfl, rfl, rfl, rfl, rfl, rfl, rfl, rfl, trivial⟩, hS⟩
        · replace hq123 := iteF hc129 hq123
          refine W.seq ?_
          refine W.regionQ (C := fun w => St w s (vecC 3 1 a_v1 c_v1 y0.length cs_v1 :: vecC 3 1 a63 c64 q61.length cs120 :: pt pb0 (.cells #[.slice a_v1 y0.length c_v1] 44 (0, 0)) :: pt pb1 (.cells #[.slice a_v2 y1.length c_v2] 44 (0, 0)) :: pt pb2 (.cells #[.int .i64 y2] 3 (0, 0)) :: pt pb3 (.cells #[.func (.func 91) #[] #[.pointer (some ⟨pb8, 0, none⟩)]] 130 (0, 0)) :: pt pb4 (.cells #[.slice a_y4_0 y4.length c_y4_0] 22 (0, 0)) :: pt pb5 (.cells #[.int .i64 y5.Change, .int .i64 y5.Long, .int .i64 y5.Work, .int .i64 y5.After, .int .i64 y5.Break, .int .i64 y5.Rest, .int .i64 y5.Row] 24 (0, 0)) :: pt pb6 (.cells #[.int .i64 y6] 3 (0, 0)) :: pt pb7 (.cells #[.slice a_y7_0 y7.length c_y7_0] 44 (0, 0)) :: pt pb8 (.cells #[.slice a_y8_0 y8.length c_y8_0] 59 (0, 0)) :: vecC 3 1 a_v0 c_v0 x0.length cs_v0 :: vecC 3 1 a_v2 c_v2 y1.length cs_v2 :: R)) mixed (by kernel_rfl) hS.drew ?_
          refine QL.v hE (runs_plain rfl) (Gives.loadB hE 5 rfl rfl rfl ty130) rfl ?_; clear hE a; intro a hE
          refine QL.v hE (runs_plain rfl) (Gives.p hE rfl) rfl ?_; clear hE a; intro a hE
          refine QL.v hE (runs_plain rfl) (Gives.loadB hE 6 rfl rfl rfl ty22) rfl ?_; clear hE a; intro a hE
          refine QL.v hE (runs_plain rfl) (Gives.p hE rfl) rfl ?_; clear hE a; intro a hE
          obtain ⟨x130, hx131, hq123⟩ := bindS hq123
          obtain ⟨hi132, hlt133, hy134⟩ := gx_some hx131
          obtain ⟨cs135, hl136, hR137, hat138⟩ := h_y4_0.at hy134
          subst hR137
          refine QL.v hE (runs_plain rfl) (Gives.idx hE (x93).toNat rfl rfl sl22 hi132 hlt133 (h_y4_0.aok hlt133)) rfl ?_; clear hE a; intro a hE
          refine QL.v hE (runs_plain rfl) (Gives.fld hE rfl fl126_0) rfl ?_; clear hE a; intro a hE
          refine QL.v hE (runs_plain rfl) (Gives.load1 hE rfl (fun w h => (hat138 w _ h).one rfl) ty3) rfl ?_; clear hE a; intro a hE
          refine QL.fnw hE (fun w hS => (Fishref2StandInsOf_1_v1_ok (St.front hS 10 rfl) h_y8_0 rfl (r := Fishref2StandInsOf_1_v1 x103 x130.Day y8)).mono fun _ _ ⟨he, hq⟩ => ⟨he, (St.unfront 10 rfl hq)⟩) rfl (runs_plain rfl) bd91 rfl rfl rfl ?_; clear hE a; intro a hE
          refine QL.nil ?_; clear hS w; intro w hS
          refine W.cond hE rfl (fun hc139 => ?_) (fun hc139 => ?_)
          · replace hq123 := iteT hc139 hq123
            refine W.seq ?_
            refine W.region ?_
            refine WL.vS hS hE (runs_plain rfl) (Gives.p hE rfl) rfl ?_; clear hE a; intro a hE
            refine WL.nil ?_
            refine W.ret ?_
            subst hK128
            subst hK92
            rw [← Option.some.inj hq123] at hq73
            dsimp only at hq73
            rw [← Option.some.inj hq73] at hr
            dsimp only at hr
            refine finG (fn := Try.f93) (rs := [.tmp 10]) (vs := [_]) hE rfl ⟨rfl, trivial⟩ ?_
            obtain rfl := Option.some.inj hr
            replace hS := hS.front 12 rfl
            replace hS := hS.front 1 rfl
            replace hS := hS.front 12 rfl
            replace hS := hS.front 12 rfl
            replace hS := hS.front 12 rfl
            replace hS := hS.front 12 rfl
            replace hS := hS.front 12 rfl
            replace hS := hS.front 12 rfl
            replace hS := hS.front 12 rfl
            replace hS := hS.front 12 rfl
            replace hS := hS.front 12 rfl
            replace hS := hS.front 12 rfl
            replace hS := hS.dropAt 12
            exact ⟨a_y7_0, c_y7_0, s, rfl, (Sg.Le.refl _), h_y7_0, hS⟩
          · replace hq123 := iteF hc139 hq123
            refine W.skip ?_
            subst hK128
            exact ⟨q85, Option.some.inj hq123, hE.pick _ ⟨rfl, rfl, rfl, rfl, rfl, rfl, rfl, rfl, rfl, rfl, rfl, rfl, trivial⟩, hS⟩
      · clear hE hS a w; rintro a w ⟨q127, rfl, hE, hS⟩
        dsimp only at hq73
        refine W.region ?_
        refine WL.vS hS hE (runs_plain rfl) (Gives.inc hE rfl (by omega)) rfl ?_; clear hE a; intro a hE
        refine WL.vS hS hE (runs_plain rfl) (Gives.p hE rfl) rfl ?_; clear hE a; intro a hE
        refine WL.nil ?_
        subst hK92
        exact ⟨rest77, Nat.lt_succ_self _, rest77, k75 + 1, q127, x118, cs120, rfl, (by omega), hq73, h121, hn122, hE.pick _ ⟨rfl, rfl, rfl, rfl, rfl, rfl, rfl, rfl, rfl, rfl, rfl, rfl, trivial⟩, hS⟩
  · clear hE hS a w; rintro a w ⟨q85, q86, cs90, rfl, h89, hn91, hE, hS⟩
    dsimp only at hr
    refine W.seq ?_
    refine W.seq ?_
    refine W.gen fun K140 hK140 => ?_
    refine W.regionE (sel (fun w => St w s (vecC 3 1 a_v1 c_v1 y0.length cs_v1 :: vecC 3 1 a63 c64 q61.length cs90 :: pt pb0 (.cells #[.slice a_v1 y0.length c_v1] 44 (0, 0)) :: pt pb1 (.cells #[.slice a_v2 y1.length c_v2] 44 (0, 0)) :: pt pb2 (.cells #[.int .i64 y2] 3 (0, 0)) :: pt pb3 (.cells #[.func (.func 91) #[] #[.pointer (some ⟨pb8, 0, none⟩)]] 130 (0, 0)) :: pt pb4 (.cells #[.slice a_y4_0 y4.length c_y4_0] 22 (0, 0)) :: pt pb5 (.cells #[.int .i64 y5.Change, .int .i64 y5.Long, .int .i64 y5.Work, .int .i64 y5.After, .int .i64 y5.Break, .int .i64 y5.Rest, .int .i64 y5.Row] 24 (0, 0)) :: pt pb6 (.cells #[.int .i64 y6] 3 (0, 0)) :: pt pb7 (.cells #[.slice a_y7_0 y7.length c_y7_0] 44 (0, 0)) :: pt pb8 (.cells #[.slice a_y8_0 y8.length c_y8_0] 59 (0, 0)) :: vecC 3 1 a_v0 c_v0 x0.length cs_v0 :: vecC 3 1 a_v2 c_v2 y1.length cs_v2 :: R)) (fun w => St w s (vecC 3 1 a_v1 c_v1 y0.length cs_v1 :: vecC 3 1 a63 c64 q61.length cs90 :: pt pb0 (.cells #[.slice a_v1 y0.length c_v1] 44 (0, 0)) :: pt pb1 (.cells #[.slice a_v2 y1.length c_v2] 44 (0, 0)) :: pt pb2 (.cells #[.int .i64 y2] 3 (0, 0)) :: pt pb3 (.cells #[.func (.func 91) #[] #[.pointer (some ⟨pb8, 0, none⟩)]] 130 (0, 0)) :: pt pb4 (.cells #[.slice a_y4_0 y4.length c_y4_0] 22 (0, 0)) :: pt pb5 (.cells #[.int .i64 y5.Change, .int .i64 y5.Long, .int .i64 y5.Work, .int .i64 y5.After, .int .i64 y5.Break, .int .i64 y5.Rest, .int .i64 y5.Row] 24 (0, 0)) :: pt pb6 (.cells #[.int .i64 y6] 3 (0, 0)) :: pt pb7 (.cells #[.slice a_y7_0 y7.length c_y7_0] 44 (0, 0)) :: pt pb8 (.cells #[.slice a_y8_0 y8.length c_y8_0] 59 (0, 0)) :: vecC 3 1 a_v0 c_v0 x0.length cs_v0 :: vecC 3 1 a_v2 c_v2 y1.length cs_v2 :: R))) (fun b i => cond b ([0, 1, 2, 3, 4, 5, 6].contains i) ([0, 1, 2, 3, 4, 5, 6].contains i)) mixed ?_
    replace hS := hS.drew
    have hT := tw_sel (A := fun w => St w s (vecC 3 1 a_v1 c_v1 y0.length cs_v1 :: vecC 3 1 a63 c64 q61.length cs90 :: pt pb0 (.cells #[.slice a_v1 y0.length c_v1] 44 (0, 0)) :: pt pb1 (.cells #[.slice a_v2 y1.length c_v2] 44 (0, 0)) :: pt pb2 (.cells #[.int .i64 y2] 3 (0, 0)) :: pt pb3 (.cells #[.func (.func 91) #[] #[.pointer (some ⟨pb8, 0, none⟩)]] 130 (0, 0)) :: pt pb4 (.cells #[.slice a_y4_0 y4.length c_y4_0] 22 (0, 0)) :: pt pb5 (.cells #[.int .i64 y5.Change, .int .i64 y5.Long, .int .i64 y5.Work, .int .i64 y5.After, .int .i64 y5.Break, .int .i64 y5.Rest, .int .i64 y5.Row] 24 (0, 0)) :: pt pb6 (.cells #[.int .i64 y6] 3 (0, 0)) :: pt pb7 (.cells #[.slice a_y7_0 y7.length c_y7_0] 44 (0, 0)) :: pt pb8 (.cells #[.slice a_y8_0 y8.length c_y8_0] 59 (0, 0)) :: vecC 3 1 a_v0 c_v0 x0.length cs_v0 :: vecC 3 1 a_v2 c_v2 y1.length cs_v2 :: R)) (B := fun w => St w s (vecC 3 1 a_v1 c_v1 y0.length cs_v1 :: vecC 3 1 a63 c64 q61.length cs90 :: pt pb0 (.cells #[.slice a_v1 y0.length c_v1] 44 (0, 0)) :: pt pb1 (.cells #[.slice a_v2 y1.length c_v2] 44 (0, 0)) :: pt pb2 (.cells #[.int .i64 y2] 3 (0, 0)) :: pt pb3 (.cells #[.func (.func 91) #[] #[.pointer (some ⟨pb8, 0, none⟩)]] 130 (0, 0)) :: pt pb4 (.cells #[.slice a_y4_0 y4.length c_y4_0] 22 (0, 0)) :: pt pb5 (.cells #[.int .i64 y5.Change, .int .i64 y5.Long, .int .i64 y5.Work, .int .i64 y5.After, .int .i64 y5.Break, .int .i64 y5.Rest, .int .i64 y5.Row] 24 (0, 0)) :: pt pb6 (.cells #[.int .i64 y6] 3 (0, 0)) :: pt pb7 (.cells #[.slice a_y7_0 y7.length c_y7_0] 44 (0, 0)) :: pt pb8 (.cells #[.slice a_y8_0 y8.length c_y8_0] 59 (0, 0)) :: vecC 3 1 a_v0 c_v0 x0.length cs_v0 :: vecC 3 1 a_v2 c_v2 y1.length cs_v2 :: R)) (w := _) (x := true) (y := true) (fun _ => hS) (fun _ => hS)
    have hF := hS; replace hS := hS
    refine Rg.take (i := 0) true rfl hE rfl (by kernel_rfl) (runs_plain rfl) (Gives.loadB hE 6 rfl rfl rfl ty22) rfl hT ?_; clear hE a; intro a hE
    replace hS := hF; clear hF hT
    have hT := tw_sel (A := fun w => St w s (vecC 3 1 a_v1 c_v1 y0.length cs_v1 :: vecC 3 1 a63 c64 q61.length cs90 :: pt pb0 (.cells #[.slice a_v1 y0.length c_v1] 44 (0, 0)) :: pt pb1 (.cells #[.slice a_v2 y1.length c_v2] 44 (0, 0)) :: pt pb2 (.cells #[.int .i64 y2] 3 (0, 0)) :: pt pb3 (.cells #[.func (.func 91) #[] #[.pointer (some ⟨pb8, 0, none⟩)]] 130 (0, 0)) :: pt pb4 (.cells #[.slice a_y4_0 y4.length c_y4_0] 22 (0, 0)) :: pt pb5 (.cells #[.int .i64 y5.Change, .int .i64 y5.Long, .int .i64 y5.Work, .int .i64 y5.After, .int .i64 y5.Break, .int .i64 y5.Rest, .int .i64 y5.Row] 24 (0, 0)) :: pt pb6 (.cells #[.int .i64 y6] 3 (0, 0)) :: pt pb7 (.cells #[.slice a_y7_0 y7.length c_y7_0] 44 (0, 0)) :: pt pb8 (.cells #[.slice a_y8_0 y8.length c_y8_0] 59 (0, 0)) :: vecC 3 1 a_v0 c_v0 x0.length cs_v0 :: vecC 3 1 a_v2 c_v2 y1.length cs_v2 :: R)) (B := fun w => St w s (vecC 3 1 a_v1 c_v1 y0.length cs_v1 :: vecC 3 1 a63 c64 q61.length cs90 :: pt pb0 (.cells #[.slice a_v1 y0.length c_v1] 44 (0, 0)) :: pt pb1 (.cells #[.slice a_v2 y1.length c_v2] 44 (0, 0)) :: pt pb2 (.cells #[.int .i64 y2] 3 (0, 0)) :: pt pb3 (.cells #[.func (.func 91) #[] #[.pointer (some ⟨pb8, 0, none⟩)]] 130 (0, 0)) :: pt pb4 (.cells #[.slice a_y4_0 y4.length c_y4_0] 22 (0, 0)) :: pt pb5 (.cells #[.int .i64 y5.Change, .int .i64 y5.Long, .int .i64 y5.Work, .int .i64 y5.After, .int .i64 y5.Break, .int .i64 y5.Rest, .int .i64 y5.Row] 24 (0, 0)) :: pt pb6 (.cells #[.int .i64 y6] 3 (0, 0)) :: pt pb7 (.cells #[.slice a_y7_0 y7.length c_y7_0] 44 (0, 0)) :: pt pb8 (.cells #[.slice a_y8_0 y8.length c_y8_0] 59 (0, 0)) :: vecC 3 1 a_v0 c_v0 x0.length cs_v0 :: vecC 3 1 a_v2 c_v2 y1.length cs_v2 :: R)) (w := _) (x := true) (y := true) (fun _ => hS) (fun _ => hS)
    have hF := hS; replace hS := hS
    refine Rg.take (i := 1) true rfl hE rfl (by kernel_rfl) (runs_plain rfl) (Gives.loadB hE 4 rfl rfl rfl ty3) rfl hT ?_; clear hE a; intro a hE
    replace hS := hF; clear hF hT
    refine Rg.takeP (i := 2) hE rfl (by kernel_rfl) (runs_plain rfl) (Gives.p hE rfl) rfl (tw_sel (fun _ => hS) (fun _ => hS)) ?_; clear hE a; intro a hE
    have hT := tw_sel (A := fun w => St w s (vecC 3 1 a_v1 c_v1 y0.length cs_v1 :: vecC 3 1 a63 c64 q61.length cs90 :: pt pb0 (.cells #[.slice a_v1 y0.length c_v1] 44 (0, 0)) :: pt pb1 (.cells #[.slice a_v2 y1.length c_v2] 44 (0, 0)) :: pt pb2 (.cells #[.int .i64 y2] 3 (0, 0)) :: pt pb3 (.cells #[.func (.func 91) #[] #[.pointer (some ⟨pb8, 0, none⟩)]] 130 (0, 0)) :: pt pb4 (.cells #[.slice a_y4_0 y4.length c_y4_0] 22 (0, 0)) :: pt pb5 (.cells #[.int .i64 y5.Change, .int .i64 y5.Long, .int .i64 y5.Work, .int .i64 y5.After, .int .i64 y5.Break, .int .i64 y5.Rest, .int .i64 y5.Row] 24 (0, 0)) :: pt pb6 (.cells #[.int .i64 y6] 3 (0, 0)) :: pt pb7 (.cells #[.slice a_y7_0 y7.length c_y7_0] 44 (0, 0)) :: pt pb8 (.cells #[.slice a_y8_0 y8.length c_y8_0] 59 (0, 0)) :: vecC 3 1 a_v0 c_v0 x0.length cs_v0 :: vecC 3 1 a_v2 c_v2 y1.length cs_v2 :: R)) (B := fun w => St w s (vecC 3 1 a_v1 c_v1 y0.length cs_v1 :: vecC 3 1 a63 c64 q61.length cs90 :: pt pb0 (.cells #[.slice a_v1 y0.length c_v1] 44 (0, 0)) :: pt pb1 (.cells #[.slice a_v2 y1.length c_v2] 44 (0, 0)) :: pt pb2 (.cells #[.int .i64 y2] 3 (0, 0)) :: pt pb3 (.cells #[.func (.func 91) #[] #[.pointer (some ⟨pb8, 0, none⟩)]] 130 (0, 0)) :: pt pb4 (.cells #[.slice a_y4_0 y4.length c_y4_0] 22 (0, 0)) :: pt pb5 (.cells #[.int .i64 y5.Change, .int .i64 y5.Long, .int .i64 y5.Work, .int .i64 y5.After, .int .i64 y5.Break, .int .i64 y5.Rest, .int .i64 y5.Row] 24 (0, 0)) :: pt pb6 (.cells #[.int .i64 y6] 3 (0, 0)) :: pt pb7 (.cells #[.slice a_y7_0 y7.length c_y7_0] 44 (0, 0)) :: pt pb8 (.cells #[.slice a_y8_0 y8.length c_y8_0] 59 (0, 0)) :: vecC 3 1 a_v0 c_v0 x0.length cs_v0 :: vecC 3 1 a_v2 c_v2 y1.length cs_v2 :: R)) (w := _) (x := true) (y := true) (fun _ => hS) (fun _ => hS)
    have hF := hS; replace hS := hS
    refine Rg.take (i := 4) true rfl hE rfl (by kernel_rfl) (runs_plain rfl) (Gives.loadBA hE 7 rfl rfl ty24) rfl hT ?_; clear hE a; intro a hE
    replace hS := hF; clear hF hT
    refine Rg.one (i := 3) true true rfl (by kernel_rfl) (by kernel_rfl) (by kernel_rfl) ?_
    obtain ⟨q141, hq142, hr⟩ := bindS hr
    replace hS := hS.front 1 rfl
    have hc_ := Fishref2given_v1_ok hS h89 hn91 hq142
    refine WL.fnq hE (hc_) (runs_plain rfl) bd48 rfl rfl rfl ?_
    clear hE hS hc_; rintro e w ⟨a143, c144, s146, rfl, hle147, h145, hS⟩; refine ⟨_, rfl, ?_⟩; clear a; intro a hE
    replace h_y4_0 := Sl.mono RFleetShift.mono hle147 h_y4_0
    replace h89 := Ev.mono RI.mono hle147 h89
    replace h_v1 := Ev.mono RI.mono hle147 h_v1
    replace h_y7_0 := Sl.mono RI.mono hle147 h_y7_0
    replace h_y8_0 := Sl.mono RFleetAbsence.mono hle147 h_y8_0
    replace h_v0 := Ev.mono RI.mono hle147 h_v0
    replace h_v2 := Ev.mono RI.mono hle147 h_v2
    refine WL.nil ?_
    refine ⟨⟨fun _ => (St.down hle147 (St.order hS [1, 0, 0, 0, 0, 0, 0, 0, 0, 0, 0, 0, 0] (by kernel_rfl))), fun _ => (St.down hle147 (St.order hS [1, 0, 0, 0, 0, 0, 0, 0, 0, 0, 0, 0, 0] (by kernel_rfl)))⟩, ?_⟩
    refine Rg.one (i := 5) true true rfl (by kernel_rfl) (by kernel_rfl) (by kernel_rfl) ?_
    obtain ⟨q148, hq149, hr⟩ := bindS hr
    have hc_ := Fishref2later_ok hS h_y4_0 h145 hq149
    refine WL.fnq hE (hc_) (runs_plain rfl) bd49 rfl rfl rfl ?_
    clear hE hS hc_; rintro e w ⟨rfl, hS⟩; refine ⟨_, rfl, ?_⟩; clear a; intro a hE
    refine WL.nil ?_
    refine ⟨⟨fun _ => (St.down hle147 (St.order hS [1, 0, 0, 0, 0, 0, 0, 0, 0, 0, 0, 0, 0] (by kernel_rfl))), fun _ => (St.down hle147 (St.order hS [1, 0, 0, 0, 0, 0, 0, 0, 0, 0, 0, 0, 0] (by kernel_rfl)))⟩, ?_⟩
    refine Rg.takeP (i := 6) hE rfl (by kernel_rfl) (runs_plain rfl) (Gives.p hE rfl) rfl (tw_sel (fun _ => (St.down hle147 (St.order hS [1, 0, 0, 0, 0, 0, 0, 0, 0, 0, 0, 0, 0] (by kernel_rfl)))) (fun _ => (St.down hle147 (St.order hS [1, 0, 0, 0, 0, 0, 0, 0, 0, 0, 0, 0, 0] (by kernel_rfl))))) ?_; clear hE a; intro a hE
    refine Rg.done (by kernel_rfl) ?_
    subst hK140
    refine W.cond hE rfl (fun hc150 => ?_) (fun hc150 => ?_)
    · replace hr := iteT hc150 hr
      refine W.seq ?_
      refine W.region ?_
      refine WL.vS hS hE (runs_plain rfl) (Gives.p hE rfl) rfl ?_; clear hE a; intro a hE
      refine WL.nil ?_
      refine W.ret ?_
      refine finG (fn := Try.f93) (rs := [.tmp 10]) (vs := [_]) hE rfl ⟨rfl, trivial⟩ ?_
      obtain rfl := Option.some.inj hr
      replace hS := hS.front 12 rfl
      replace hS := hS.front 2 rfl
      replace hS := hS.front 12 rfl
      replace hS := hS.front 12 rfl
      replace hS := hS.front 12 rfl
      replace hS := hS.front 12 rfl
      replace hS := hS.front 12 rfl
      replace hS := hS.front 12 rfl
      replace hS := hS.front 12 rfl
      replace hS := hS.front 12 rfl
      replace hS := hS.front 12 rfl
      replace hS := hS.front 12 rfl
      replace hS := hS.dropAt 12
      exact ⟨a_y7_0, c_y7_0, s146, rfl, hle147, h_y7_0, hS⟩
    · replace hr := iteF hc150 hr
      refine W.skip ?_
      refine W.seq ?_
      refine W.seq ?_
      obtain ⟨q152, hq151, hr⟩ := bndS hr
      refine W.cut (fun a w => ∃ (q155 : Bool), q155 = q152 ∧ Rep a 63 [(7, .pointer (some ⟨pb6, 0, none⟩)), (8, .pointer (some ⟨pb7, 0, none⟩)), (11, .slice a63 q61.length c64), (12, .int .i64 q85), (60, .bool q155)] ∧ St w s146 (vecC 3 1 a63 c64 q61.length cs90 :: vecC 3 1 a_v1 c_v1 y0.length cs_v1 :: pt pb0 (.cells #[.slice a_v1 y0.length c_v1] 44 (0, 0)) :: pt pb1 (.cells #[.slice a_v2 y1.length c_v2] 44 (0, 0)) :: pt pb2 (.cells #[.int .i64 y2] 3 (0, 0)) :: pt pb3 (.cells #[.func (.func 91) #[] #[.pointer (some ⟨pb8, 0, none⟩)]] 130 (0, 0)) :: pt pb4 (.cells #[.slice a_y4_0 y4.length c_y4_0] 22 (0, 0)) :: pt pb5 (.cells #[.int .i64 y5.Change, .int .i64 y5.Long, .int .i64 y5.Work, .int .i64 y5.After, .int .i64 y5.Break, .int .i64 y5.Rest, .int .i64 y5.Row] 24 (0, 0)) :: pt pb6 (.cells #[.int .i64 y6] 3 (0, 0)) :: pt pb7 (.cells #[.slice a_y7_0 y7.length c_y7_0] 44 (0, 0)) :: pt pb8 (.cells #[.slice a_y8_0 y8.length c_y8_0] 59 (0, 0)) :: vecC 3 1 a_v0 c_v0 x0.length cs_v0 :: vecC 3 1 a_v2 c_v2 y1.length cs_v2 :: R)) ?_ ?_
      · refine W.gen fun K156 hK156 => ?_
        refine W.region ?_
        refine WL.vS hS hE (runs_plain rfl) (Gives.loadB hE 8 rfl rfl rfl ty3) rfl ?_; clear hE a; intro a hE
        refine WL.vS hS hE (runs_plain rfl) (Gives.p hE rfl) rfl ?_; clear hE a; intro a hE
        refine WL.vS hS hE (runs_plain rfl) (Gives.p hE rfl) rfl ?_; clear hE a; intro a hE
        rcases Bool.eq_false_or_eq_true (decide (y6 < 0)) with hg157 | hg157
        · replace hq151 := iteT hg157 hq151
          refine WL.no hE (runs_not hE rfl rfl rfl (by rw [hg157]; decide)) rfl ?_; clear hE a; intro a hE
          refine WL.no hE (runs_not hE rfl rfl rfl (by rw [hg157]; decide)) rfl ?_; clear hE a; intro a hE
          refine WL.no hE (runs_not hE rfl rfl rfl (by rw [hg157]; decide)) rfl ?_; clear hE a; intro a hE
          refine WL.vS hS hE (runs_plain rfl) (Gives.pickT hE rfl hg157 rfl) rfl ?_; clear hE a; intro a hE
          refine WL.nil ?_
          subst hK156
          exact ⟨true, hq151, hE.pick _ ⟨rfl, rfl, rfl, rfl, rfl, trivial⟩, hS⟩
        · replace hq151 := iteF hg157 hq151
          refine WL.vS hS hE (runs_if hE rfl rfl rfl hg157) (Gives.p hE rfl) rfl ?_; clear hE a; intro a hE
          refine WL.vS hS hE (runs_if hE rfl rfl rfl hg157) (Gives.loadB hE 8 rfl rfl rfl ty3) rfl ?_; clear hE a; intro a hE
          refine WL.vS hS hE (runs_if hE rfl rfl rfl hg157) (Gives.p hE rfl) rfl ?_; clear hE a; intro a hE
          refine WL.vS hS hE (runs_plain rfl) (Gives.pickF hE rfl hg157 rfl) rfl ?_; clear hE a; intro a hE
          refine WL.nil ?_
          subst hK156
          exact ⟨decide (q85 < y6), hq151, hE.pick _ ⟨rfl, rfl, rfl, rfl, rfl, trivial⟩, hS⟩
      · clear hE hS a w; rintro a w ⟨q155, rfl, hE, hS⟩
        obtain ⟨q159, hq158, hr⟩ := bndS hr
        refine W.cut (fun a w => ∃ (q162 : Int), ∃ (q163 : List Int), ∃ (a164 : Option Addr), ∃ (c165 : Nat), ∃ (s160 : Sg), s146.Le s160 ∧ (q162, q163) = q159 ∧ Sl 1 (RI .i64) s160 a164 c165 q163 ∧ Rep a 63 [] ∧ St w s160 (vecC 3 1 a_v1 c_v1 y0.length cs_v1 :: pt pb0 (.cells #[.slice a_v1 y0.length c_v1] 44 (0, 0)) :: pt pb1 (.cells #[.slice a_v2 y1.length c_v2] 44 (0, 0)) :: pt pb2 (.cells #[.int .i64 y2] 3 (0, 0)) :: pt pb3 (.cells #[.func (.func 91) #[] #[.pointer (some ⟨pb8, 0, none⟩)]] 130 (0, 0)) :: pt pb4 (.cells #[.slice a_y4_0 y4.length c_y4_0] 22 (0, 0)) :: pt pb5 (.cells #[.int .i64 y5.Change, .int .i64 y5.Long, .int .i64 y5.Work, .int .i64 y5.After, .int .i64 y5.Break, .int .i64 y5.Rest, .int .i64 y5.Row] 24 (0, 0)) :: pt pb6 (.cells #[.int .i64 q162] 3 (0, 0)) :: pt pb7 (.cells #[.slice a164 q163.length c165] 44 (0, 0)) :: pt pb8 (.cells #[.slice a_y8_0 y8.length c_y8_0] 59 (0, 0)) :: vecC 3 1 a_v0 c_v0 x0.length cs_v0 :: vecC 3 1 a_v2 c_v2 y1.length cs_v2 :: R)) ?_ ?_
        · refine W.gen fun K167 hK167 => ?_
          refine W.cond hE rfl (fun hc168 => ?_) (fun hc168 => ?_)
          · replace hq158 := iteT hc168 hq158
            refine W.region ?_
            refine WL.vS hS hE (runs_plain rfl) (Gives.p hE rfl) rfl ?_; clear hE a; intro a hE
            refine WL.vS hS hE (runs_plain rfl) (Gives.p hE rfl) rfl ?_; clear hE a; intro a hE
            refine WL.storeI hE hS 9 rfl [.slice a63 q61.length c64] (runs_plain rfl) rfl rfl rfl ty44 rfl rfl rfl rfl ?_; clear hE hS a w; intro a w hE hS
            refine WL.storeI hE hS 8 rfl [.int .i64 q85] (runs_plain rfl) rfl rfl rfl ty3 rfl rfl rfl rfl ?_; clear hE hS a w; intro a w hE hS
            refine WL.nil ?_
            have hF := hS.fixD RI.mono 0 rfl h89 hn91; clear hS; obtain ⟨s169, hle170, hS, h171⟩ := hF
            (try rw [← hn91] at hE)
            (try rw [← hn91] at hS)
            replace h_v1 := Ev.mono RI.mono hle170 h_v1
            replace h_y4_0 := Sl.mono RFleetShift.mono hle170 h_y4_0
            replace h_y8_0 := Sl.mono RFleetAbsence.mono hle170 h_y8_0
            replace h_v0 := Ev.mono RI.mono hle170 h_v0
            replace h_v2 := Ev.mono RI.mono hle170 h_v2
            subst hK167
            exact ⟨q85, q86, a63, c64, s169, hle170, hq158, h171, hE.pick _ trivial, hS⟩
          · replace hq158 := iteF hc168 hq158
            refine W.skip ?_
            replace hS := hS.tail
            subst hK167
            exact ⟨y6, y7, a_y7_0, c_y7_0, s146, (Sg.Le.refl _), hq158, h_y7_0, hE.pick _ trivial, hS⟩
        · clear hE hS a w; rintro a w ⟨q162, q163, a164, c165, s160, hle161, rfl, h166, hE, hS⟩
          dsimp only at hr
          replace h_v1 := Ev.mono RI.mono hle161 h_v1
          replace h_y4_0 := Sl.mono RFleetShift.mono hle161 h_y4_0
          replace h_y7_0 := Sl.mono RI.mono hle161 h_y7_0
          replace h_y8_0 := Sl.mono RFleetAbsence.mono hle161 h_y8_0
          replace h_v0 := Ev.mono RI.mono hle161 h_v0
          replace h_v2 := Ev.mono RI.mono hle161 h_v2
          refine W.seq ?_
          refine W.region ?_
          refine WL.vS hS hE (runs_plain rfl) (Gives.p hE rfl) rfl ?_; clear hE a; intro a hE
          refine WL.nil ?_
          refine W.ret ?_
          refine finG (fn := Try.f93) (rs := [.tmp 10]) (vs := [_]) hE rfl ⟨rfl, trivial⟩ ?_
          obtain rfl := Option.some.inj hr
          exact ⟨a164, c165, s160, rfl, (Sg.Le.trans hle147 hle161), h166, St.order hS [1, 1, 1, 1, 1, 1, 1, 1, 1, 1] (by kernel_rfl)⟩
set_option maxHeartbeats 8000000 in
theorem Fishref2counts_v1_ok {fu : Nat}  {w : World} {s : Sg} {R : List HP} {pb0 : Nat} {pb1 : Nat} {pb2 : Nat} {pb3 : Nat} {pb4 : Nat} {pb5 : Nat} {pb6 : Nat} {pb7 : Nat} {pb8 : Nat} {x0 : Int} {x1 : Int} {y0 : List Int} {a_v0 : Option Addr} {c_v0 n_v0 : Nat} {cs_v0 : List Value} {y1 : List Int} {a_v1 : Option Addr} {c_v1 n_v1 : Nat} {cs_v1 : List Value} {y2 : Int} {y4 : List FleetShift} {a_y4_0 : Option Addr} {c_y4_0 : Nat} {y5 : FleetLimits} {y6 : Int} {y7 : List Int} {a_y7_0 : Option Addr} {c_y7_0 : Nat} {y8 : List FleetAbsence} {a_y8_0 : Option Addr} {c_y8_0 : Nat} (hS : St w s (pt pb0 (.cells #[.slice a_v0 n_v0 c_v0] 44 (0, 0)) :: pt pb1 (.cells #[.slice a_v1 n_v1 c_v1] 44 (0, 0)) :: pt pb2 (.cells #[.int .i64 y2] 3 (0, 0)) :: pt pb3 (.cells #[.func (.func 91) #[] #[.pointer (some ⟨pb8, 0, none⟩)]] 130 (0, 0)) :: pt pb4 (.cells #[.slice a_y4_0 y4.length c_y4_0] 22 (0, 0)) :: pt pb5 (.cells #[.int .i64 y5.Change, .int .i64 y5.Long, .int .i64 y5.Work, .int .i64 y5.After, .int .i64 y5.Break, .int .i64 y5.Rest, .int .i64 y5.Row] 24 (0, 0)) :: pt pb6 (.cells #[.int .i64 y6] 3 (0, 0)) :: pt pb7 (.cells #[.slice a_y7_0 y7.length c_y7_0] 44 (0, 0)) :: pt pb8 (.cells #[.slice a_y8_0 y8.length c_y8_0] 59 (0, 0)) :: vecC 3 1 a_v0 c_v0 n_v0 cs_v0 :: vecC 3 1 a_v1 c_v1 n_v1 cs_v1 :: R)) (h_v0 : Ev 1 (RI .i64) s cs_v0 y0) (hn_v0 : y0.length = n_v0) (h_v1 : Ev 1 (RI .i64) s cs_v1 y1) (hn_v1 : y1.length = n_v1) (h_y4_0 : Sl 3 RFleetShift s a_y4_0 c_y4_0 y4) (h_y7_0 : Sl 1 (RI .i64) s a_y7_0 c_y7_0 y7) (h_y8_0 : Sl 2 RFleetAbsence s a_y8_0 c_y8_0 y8) {r : Bool × Int × (List Int)} (hr : Fishref2counts_v1 fu x0 x1 y0 y1 y2 y4 y5 y6 y7 y8 = some r) :
    Calls Try.prog 46 [.int .i64 x0, .int .i64 x1, .func (.func 93) #[] #[.pointer (some ⟨pb0, 0, none⟩), .pointer (some ⟨pb1, 0, none⟩), .pointer (some ⟨pb2, 0, none⟩), .pointer (some ⟨pb3, 0, none⟩), .pointer (some ⟨pb4, 0, none⟩), .pointer (some ⟨pb5, 0, none⟩), .pointer (some ⟨pb6, 0, none⟩), .pointer (some ⟨pb7, 0, none⟩)]].toArray w (fun e w => ∃ (a58 : Option Addr) (c59 : Nat) (t : Sg), e = .returned (.bool r.1) ∧ s.Le t ∧ Sl 1 (RI .i64) t a58 c59 r.2.2 ∧ St w t (pt pb0 (.cells #[.slice a_v0 n_v0 c_v0] 44 (0, 0)) :: pt pb1 (.cells #[.slice a_v1 n_v1 c_v1] 44 (0, 0)) :: pt pb2 (.cells #[.int .i64 y2] 3 (0, 0)) :: pt pb3 (.cells #[.func (.func 91) #[] #[.pointer (some ⟨pb8, 0, none⟩)]] 130 (0, 0)) :: pt pb4 (.cells #[.slice a_y4_0 y4.length c_y4_0] 22 (0, 0)) :: pt pb5 (.cells #[.int .i64 y5.Change, .int .i64 y5.Long, .int .i64 y5.Work, .int .i64 y5.After, .int .i64 y5.Break, .int .i64 y5.Rest, .int .i64 y5.Row] 24 (0, 0)) :: pt pb6 (.cells #[.int .i64 r.2.1] 3 (0, 0)) :: pt pb7 (.cells #[.slice a58 r.2.2.length c59] 44 (0, 0)) :: pt pb8 (.cells #[.slice a_y8_0 y8.length c_y8_0] 59 (0, 0)) :: vecC 3 1 a_v0 c_v0 n_v0 cs_v0 :: vecC 3 1 a_v1 c_v1 n_v1 cs_v1 :: R)) := by
  refine enter Try.func46 rfl rfl rfl fun a hE => ?_
  rw [Fishref2counts_v1] at hr
  subst hn_v0
  subst hn_v1
  refine W.seq ?_
  refine W.region ?_
  refine WL.vS hS hE (runs_plain rfl) (Gives.p hE rfl) rfl ?_; clear hE a; intro a hE
  refine WL.nil ?_
  refine W.seq ?_
  refine W.region ?_
  refine WL.vS hS hE (runs_plain rfl) (Gives.p hE rfl) rfl ?_; clear hE a; intro a hE
  obtain ⟨x61, hx62, hr⟩ := bindS hr
  refine WL.mkD (Rr := RI .i64) hE hS (runs_plain rfl) rfl rfl ap44 zr3 rfl hx62 rfl ?_; clear hE hS a w; intro b63 cs64 a w h65 hE hS
  refine WL.vS hS hE (runs_plain rfl) (Gives.p hE rfl) rfl ?_; clear hE a; intro a hE
  refine WL.nil ?_
  obtain ⟨q68, hq67, hr⟩ := bindS hr
  refine W.cut (fun _ _ => False) ?_ ?_
  · refine W.block ?_
    refine W.loop (fun m a w => ∃ (n69 : Nat), ∃ (q73 : List Int), ∃ (q79 : Int), ∃ (q80 : List Int), ∃ (cs77 : List Value), ∃ (a81 : Option Addr), ∃ (c82 : Nat), ∃ (s71 : Sg), n69 = m ∧ s.Le s71 ∧ Fishref2counts_v1.loop1 x0 x1 y0 y1 y2 y4 y5 y8 fu n69 q73 q79 q80 = some q68 ∧ Ev 1 (RI .i64) s71 cs77 q73 ∧ q73.length = x61.length ∧ Sl 1 (RI .i64) s71 a81 c82 q80 ∧ Rep a 40 [(0, .int .i64 x0), (1, .int .i64 x1), (2, .func (.func 93) #[] #[.pointer (some ⟨pb0, 0, none⟩), .pointer (some ⟨pb1, 0, none⟩), .pointer (some ⟨pb2, 0, none⟩), .pointer (some ⟨pb3, 0, none⟩), .pointer (some ⟨pb4, 0, none⟩), .pointer (some ⟨pb5, 0, none⟩), .pointer (some ⟨pb6, 0, none⟩), .pointer (some ⟨pb7, 0, none⟩)]), (7, .slice (some ⟨b63, 0, none⟩) x61.length x61.length)] ∧ St w s71 (vecC 3 1 (some ⟨b63, 0, none⟩) x61.length x61.length cs77 :: pt pb0 (.cells #[.slice a_v0 y0.length c_v0] 44 (0, 0)) :: pt pb1 (.cells #[.slice a_v1 y1.length c_v1] 44 (0, 0)) :: pt pb2 (.cells #[.int .i64 y2] 3 (0, 0)) :: pt pb3 (.cells #[.func (.func 91) #[] #[.pointer (some ⟨pb8, 0, none⟩)]] 130 (0, 0)) :: pt pb4 (.cells #[.slice a_y4_0 y4.length c_y4_0] 22 (0, 0)) :: pt pb5 (.cells #[.int .i64 y5.Change, .int .i64 y5.Long, .int .i64 y5.Work, .int .i64 y5.After, .int .i64 y5.Break, .int .i64 y5.Rest, .int .i64 y5.Row] 24 (0, 0)) :: pt pb6 (.cells #[.int .i64 q79] 3 (0, 0)) :: pt pb7 (.cells #[.slice a81 q80.length c82] 44 (0, 0)) :: pt pb8 (.cells #[.slice a_y8_0 y8.length c_y8_0] 59 (0, 0)) :: vecC 3 1 a_v0 c_v0 y0.length cs_v0 :: vecC 3 1 a_v1 c_v1 y1.length cs_v1 :: R)) (m := fu) ⟨fu, x61, y6, y7, cs64, a_y7_0, c_y7_0, s, rfl, (Sg.Le.refl _), hq67, h65, (rfl), h_y7_0, hE.pick _ ⟨rfl, rfl, rfl, rfl, trivial⟩, hS⟩ ?_
    clear hE hS a w hq67; rintro m70 a w ⟨n69, q73, q79, q80, cs77, a81, c82, s71, rfl, hle72, hq67, h76, hn78, h83, hE, hS⟩
    refine W.gen fun K84 hK84 => ?_
    replace h65 := Ev.mono RI.mono hle72 h65
    replace h_y4_0 := Sl.mono RFleetShift.mono hle72 h_y4_0
    replace h_y7_0 := Sl.mono RI.mono hle72 h_y7_0
    replace h_y8_0 := Sl.mono RFleetAbsence.mono hle72 h_y8_0
    replace h_v0 := Ev.mono RI.mono hle72 h_v0
    replace h_v1 := Ev.mono RI.mono hle72 h_v1
    rcases n69 with _ | n69
    · rw [Fishref2counts_v1.loop1] at hq67; exact absurd hq67 (by simp)
    rw [Fishref2counts_v1.loop1] at hq67
    refine W.block ?_
    refine W.seq ?_
    refine W.seq ?_
    refine W.region ?_
    refine WL.vS hS hE (runs_plain rfl) (Gives.p hE rfl) rfl ?_; clear hE a; intro a hE
    refine WL.vS hS hE (runs_plain rfl) (Gives.p hE rfl) rfl ?_; clear hE a; intro a hE
    obtain ⟨q85, hq86, hq67⟩ := bindS hq67
    replace hS := hS.front 11 rfl
    replace hS := hS.front 11 rfl
    replace hS := hS.front 2 rfl
    replace hS := hS.front 11 rfl
    replace hS := hS.front 11 rfl
    replace hS := hS.front 11 rfl
    replace hS := hS.front 11 rfl
    replace hS := hS.front 11 rfl
    replace hS := hS.front 11 rfl
    replace hS := hS.front 11 rfl
    replace hS := hS.front 11 rfl
    replace hS := hS.front 11 rfl
    have hc_ := Fishref2StandInsOf_2_v2_ok (y5 := y5) hS h76 hn78 h_v0 (rfl) h_v1 (rfl) h_y4_0 h83 h_y8_0 hq86
    refine WL.fnw hE (hc_) rfl (runs_plain rfl) bd93 rfl rfl rfl ?_
    clear hE hS hc_; rintro e w ⟨a87, c88, s90, rfl, hle91, h89, hS⟩; refine ⟨_, rfl, ?_⟩; clear a; intro a hE
    replace h_y4_0 := Sl.mono RFleetShift.mono hle91 h_y4_0
    replace h83 := Sl.mono RI.mono hle91 h83
    replace h_y8_0 := Sl.mono RFleetAbsence.mono hle91 h_y8_0
    replace h76 := Ev.mono RI.mono hle91 h76
    replace h_v0 := Ev.mono RI.mono hle91 h_v0
    replace h_v1 := Ev.mono RI.mono hle91 h_v1
    refine WL.nil ?_
    refine W.cond hE rfl (fun hc92 => ?_) (fun hc92 => ?_)
    · replace hq67 := iteT hc92 hq67
      refine W.seq ?_
      refine W.region ?_
      refine WL.vS hS hE (runs_plain rfl) (Gives.p hE rfl) rfl ?_; clear hE a; intro a hE
      refine WL.nil ?_
      refine W.ret ?_
      subst hK84
      rw [← Option.some.inj hq67] at hr
      dsimp only at hr
      refine finG (fn := Try.f46) (rs := [.tmp 6]) (vs := [_]) hE rfl ⟨rfl, trivial⟩ ?_
      obtain rfl := Option.some.inj hr
      replace hS := hS.dropAt 9
      exact ⟨a87, c88, s90, rfl, (Sg.Le.trans hle72 hle91), h89, hS⟩
    · replace hq67 := iteF hc92 hq67
      refine W.skip ?_
      refine W.seq ?_
      refine W.region ?_
      refine WL.vS hS hE (runs_plain rfl) (Gives.p hE rfl) rfl ?_; clear hE a; intro a hE
      refine WL.vS hS hE (runs_plain rfl) (Gives.p hE rfl) rfl ?_; clear hE a; intro a hE
      refine WL.vS hS hE (runs_plain rfl) (Gives.p hE rfl) rfl ?_; clear hE a; intro a hE
      refine WL.nil ?_
      refine W.seq ?_
      obtain ⟨q94, hq93, hq67⟩ := bindS hq67
      refine W.cut (fun a w => ∃ (q99 : Int), ∃ (q100 : List Int), ∃ (cs104 : List Value), (q99, q100) = q94 ∧ Ev 1 (RI .i64) s90 cs104 q100 ∧ q100.length = x61.length ∧ Rep a 40 [(0, .int .i64 x0), (1, .int .i64 x1), (2, .func (.func 93) #[] #[.pointer (some ⟨pb0, 0, none⟩), .pointer (some ⟨pb1, 0, none⟩), .pointer (some ⟨pb2, 0, none⟩), .pointer (some ⟨pb3, 0, none⟩), .pointer (some ⟨pb4, 0, none⟩), .pointer (some ⟨pb5, 0, none⟩), .pointer (some ⟨pb6, 0, none⟩), .pointer (some ⟨pb7, 0, none⟩)]), (7, .slice (some ⟨b63, 0, none⟩) x61.length x61.length), (8, .int .i64 q99)] ∧ St w s90 (pt pb0 (.cells #[.slice a_v0 y0.length c_v0] 44 (0, 0)) :: pt pb1 (.cells #[.slice a_v1 y1.length c_v1] 44 (0, 0)) :: pt pb2 (.cells #[.int .i64 y2] 3 (0, 0)) :: pt pb3 (.cells #[.func (.func 91) #[] #[.pointer (some ⟨pb8, 0, none⟩)]] 130 (0, 0)) :: pt pb4 (.cells #[.slice a_y4_0 y4.length c_y4_0] 22 (0, 0)) :: pt pb5 (.cells #[.int .i64 y5.Change, .int .i64 y5.Long, .int .i64 y5.Work, .int .i64 y5.After, .int .i64 y5.Break, .int .i64 y5.Rest, .int .i64 y5.Row] 24 (0, 0)) :: pt pb6 (.cells #[.int .i64 q85.2.1] 3 (0, 0)) :: pt pb7 (.cells #[.slice a87 q85.2.2.length c88] 44 (0, 0)) :: pt pb8 (.cells #[.slice a_y8_0 y8.length c_y8_0] 59 (0, 0)) :: vecC 3 1 (some ⟨b63, 0, none⟩) x61.length x61.length cs104 :: vecC 3 1 a_v0 c_v0 y0.length cs_v0 :: vecC 3 1 a_v1 c_v1 y1.length cs_v1 :: R)) ?_ ?_
      · refine W.block ?_
        refine W.loop (fun m a w => ∃ (n95 : Nat), ∃ (q99 : Int), ∃ (q100 : List Int), ∃ (cs104 : List Value), n95 = m ∧ Fishref2counts_v1.loop2 x1 n95 q99 q100 = some q94 ∧ Ev 1 (RI .i64) s90 cs104 q100 ∧ q100.length = x61.length ∧ Rep a 40 [(0, .int .i64 x0), (1, .int .i64 x1), (2, .func (.func 93) #[] #[.pointer (some ⟨pb0, 0, none⟩), .pointer (some ⟨pb1, 0, none⟩), .pointer (some ⟨pb2, 0, none⟩), .pointer (some ⟨pb3, 0, none⟩), .pointer (some ⟨pb4, 0, none⟩), .pointer (some ⟨pb5, 0, none⟩), .pointer (some ⟨pb6, 0, none⟩), .pointer (some ⟨pb7, 0, none⟩)]), (7, .slice (some ⟨b63, 0, none⟩) x61.length x61.length), (8, .int .i64 q99)] ∧ St w s90 (pt pb0 (.cells #[.slice a_v0 y0.length c_v0] 44 (0, 0)) :: pt pb1 (.cells #[.slice a_v1 y1.length c_v1] 44 (0, 0)) :: pt pb2 (.cells #[.int .i64 y2] 3 (0, 0)) :: pt pb3 (.cells #[.func (.func 91) #[] #[.pointer (some ⟨pb8, 0, none⟩)]] 130 (0, 0)) :: pt pb4 (.cells #[.slice a_y4_0 y4.length c_y4_0] 22 (0, 0)) :: pt pb5 (.cells #[.int .i64 y5.Change, .int .i64 y5.Long, .int .i64 y5.Work, .int .i64 y5.After, .int .i64 y5.Break, .int .i64 y5.Rest, .int .i64 y5.Row] 24 (0, 0)) :: pt pb6 (.cells #[.int .i64 q85.2.1] 3 (0, 0)) :: pt pb7 (.cells #[.slice a87 q85.2.2.length c88] 44 (0, 0)) :: pt pb8 (.cells #[.slice a_y8_0 y8.length c_y8_0] 59 (0, 0)) :: vecC 3 1 (some ⟨b63, 0, none⟩) x61.length x61.length cs104 :: vecC 3 1 a_v0 c_v0 y0.length cs_v0 :: vecC 3 1 a_v1 c_v1 y1.length cs_v1 :: R)) (m := fu) ⟨fu, (w64 (x0 - 1)), q73, cs77, rfl, hq93, h76, hn78, hE.pick _ ⟨rfl, rfl, rfl, rfl, rfl, trivial⟩, hS⟩ ?_
        clear hE hS a w hq93; rintro m96 a w ⟨n95, q99, q100, cs104, rfl, hq93, h103, hn105, hE, hS⟩
        refine W.gen fun K106 hK106 => ?_
        rcases n95 with _ | n95
        · rw [Fishref2counts_v1.loop2] at hq93; exact absurd hq93 (by simp)
        rw [Fishref2counts_v1.loop2] at hq93
        refine W.seq ?_
        refine W.seq ?_
        obtain ⟨q108, hq107, hq93⟩ := bindS hq93
        refine W.cut (fun a w => ∃ (q111 : Bool), q111 = q108 ∧ Rep a 40 [(0, .int .i64 x0), (1, .int .i64 x1), (2, .func (.func 93) #[] #[.pointer (some ⟨pb0, 0, none⟩), .pointer (some ⟨pb1, 0, none⟩), .pointer (some ⟨pb2, 0, none⟩), .pointer (some ⟨pb3, 0, none⟩), .pointer (some ⟨pb4, 0, none⟩), .pointer (some ⟨pb5, 0, none⟩), .pointer (some ⟨pb6, 0, none⟩), .pointer (some ⟨pb7, 0, none⟩)]), (7, .slice (some ⟨b63, 0, none⟩) x61.length x61.length), (8, .int .i64 q99), (26, .bool q111)] ∧ St w s90 (pt pb0 (.cells #[.slice a_v0 y0.length c_v0] 44 (0, 0)) :: pt pb1 (.cells #[.slice a_v1 y1.length c_v1] 44 (0, 0)) :: pt pb2 (.cells #[.int .i64 y2] 3 (0, 0)) :: pt pb3 (.cells #[.func (.func 91) #[] #[.pointer (some ⟨pb8, 0, none⟩)]] 130 (0, 0)) :: pt pb4 (.cells #[.slice a_y4_0 y4.length c_y4_0] 22 (0, 0)) :: pt pb5 (.cells #[.int .i64 y5.Change, .int .i64 y5.Long, .int .i64 y5.Work, .int .i64 y5.After, .int .i64 y5.Break, .int .i64 y5.Rest, .int .i64 y5.Row] 24 (0, 0)) :: pt pb6 (.cells #[.int .i64 q85.2.1] 3 (0, 0)) :: pt pb7 (.cells #[.slice a87 q85.2.2.length c88] 44 (0, 0)) :: pt pb8 (.cells #[.slice a_y8_0 y8.length c_y8_0] 59 (0, 0)) :: vecC 3 1 (some ⟨b63, 0, none⟩) x61.length x61.length cs104 :: vecC 3 1 a_v0 c_v0 y0.length cs_v0 :: vecC 3 1 a_v1 c_v1 y1.length cs_v1 :: R)) ?_ ?_
        · refine W.gen fun K112 hK112 => ?_
          refine W.region ?_
          refine WL.vS hS hE (runs_plain rfl) (Gives.p hE rfl) rfl ?_; clear hE a; intro a hE
          refine WL.vS hS hE (runs_plain rfl) (Gives.p hE rfl) rfl ?_; clear hE a; intro a hE
          refine WL.vS hS hE (runs_plain rfl) (Gives.p hE rfl) rfl ?_; clear hE a; intro a hE
          rcases Bool.eq_false_or_eq_true (decide (q99 ≥ 0)) with hg113 | hg113
          · replace hq107 := iteT hg113 hq107
            refine WL.vS hS hE (runs_if hE rfl rfl rfl hg113) (Gives.p hE rfl) rfl ?_; clear hE a; intro a hE
            refine WL.vS hS hE (runs_if hE rfl rfl rfl hg113) (Gives.p hE rfl) rfl ?_; clear hE a; intro a hE
            obtain ⟨x114, hx115, hq107⟩ := bindS hq107
            obtain ⟨hi116, hlt117, hy118⟩ := gx_some hx115
            obtain ⟨vs119, hl120, hR121, hd122, hget123⟩ := h103.at hy118
            subst hR121
            refine WL.vS hS hE (runs_if hE rfl rfl rfl hg113) (Gives.idx hE ((q99).toNat) rfl rfl sl44 hi116 (by have := hn105; omega) (hS.vecAok 9 rfl (by have := hn105; omega : (q99).toNat < x61.length))) rfl ?_; clear hE a; intro a hE
            refine WL.vS hS hE (runs_if hE rfl rfl rfl hg113) (Gives.load1 hE rfl (fun w h => St.vecSees h 9 rfl ((q99).toNat * 1) _ hget123) ty3) rfl ?_; clear hE a; intro a hE
            refine WL.vS hS hE (runs_if hE rfl rfl rfl hg113) (Gives.p hE rfl) rfl ?_; clear hE a; intro a hE
            refine WL.vS hS hE (runs_if hE rfl rfl rfl hg113) (Gives.p hE rfl) rfl ?_; clear hE a; intro a hE
            refine WL.vS hS hE (runs_if hE rfl rfl rfl hg113) (Gives.p hE rfl) rfl ?_; clear hE a; intro a hE
            refine WL.vS hS hE (runs_plain rfl) (Gives.pickT hE rfl hg113 rfl) rfl ?_; clear hE a; intro a hE
            refine WL.nil ?_
            subst hK112
            exact ⟨(x114 == (w64 (x1 - 1))), Option.some.inj hq107, hE.pick _ ⟨rfl, rfl, rfl, rfl, rfl, rfl, trivial⟩, hS⟩
          · replace hq107 := iteF hg113 hq107
            refine WL.no hE (runs_not hE rfl rfl rfl (by rw [hg113]; decide)) rfl ?_; clear hE a; intro a hE
            refine WL.no hE (runs_not hE rfl rfl rfl (by rw [hg113]; decide)) rfl ?_; clear hE a; intro a hE
            refine WL.no hE (runs_not hE rfl rfl rfl (by rw [hg113]; decide)) rfl ?_; clear hE a; intro a hE
            refine WL.no hE (runs_not hE rfl rfl rfl (by rw [hg113]; decide)) rfl ?_; clear hE a; intro a hE
            refine WL.no hE (runs_not hE rfl rfl rfl (by rw [hg113]; decide)) rfl ?_; clear hE a; intro a hE
            refine WL.no hE (runs_not hE rfl rfl rfl (by rw [hg113]; decide)) rfl ?_; clear hE a; intro a hE
            refine WL.no hE (runs_not hE rfl rfl rfl (by rw [hg113]; decide)) rfl ?_; clear hE a; intro a hE
            refine WL.vS hS hE (runs_plain rfl) (Gives.pickF hE rfl hg113 rfl) rfl ?_; clear hE a; intro a hE
            refine WL.nil ?_
            subst hK112
            exact ⟨false, Option.some.inj hq107, hE.pick _ ⟨rfl, rfl, rfl, rfl, rfl, rfl, trivial⟩, hS⟩
        · clear hE hS a w; rintro a w ⟨q111, rfl, hE, hS⟩
          refine W.cond hE rfl (fun hc124 => ?_) (fun hc124 => ?_)
          · replace hq93 := iteT hc124 hq93
            refine W.skip ?_
            refine W.block ?_
            refine W.seq ?_
            refine W.region ?_
            refine WL.vS hS hE (runs_plain rfl) (Gives.p hE rfl) rfl ?_; clear hE a; intro a hE
            refine WL.vS hS hE (runs_plain rfl) (Gives.p hE rfl) rfl ?_; clear hE a; intro a hE
            obtain ⟨_, hx126, hq93⟩ := bindS hq93
            obtain ⟨h127, h128⟩ := ix_some hx126
            refine WL.vS hS hE (runs_plain rfl) (Gives.idx hE ((q99).toNat) rfl rfl sl44 h127 (by have := hn105; omega) (hS.vecAok 9 rfl (by have := hn105; omega : (q99).toNat < x61.length))) rfl ?_; clear hE a; intro a hE
            obtain ⟨x130, hx131, hq93⟩ := bindS hq93
            refine WL.setD hE hS 9 rfl (runs_plain rfl) rfl rfl (vs := [.int .i64 0]) rfl ty3 rfl rfl rfl h103 hn105 (sx_some hx131).1 hx131 rfl rfl ?_; clear hE hS a w; intro cs132 a w h133 hn134 hE hS
            refine WL.nil ?_
            refine W.region ?_
            refine WL.vS hS hE (runs_plain rfl) (Gives.p hE rfl) rfl ?_; clear hE a; intro a hE
            refine WL.vS hS hE (runs_plain rfl) (Gives.p hE rfl) rfl ?_; clear hE a; intro a hE
            refine WL.vS hS hE (runs_plain rfl) (Gives.p hE rfl) rfl ?_; clear hE a; intro a hE
            refine WL.nil ?_
            subst hK106
            exact ⟨n95, Nat.lt_succ_self _, n95, (w64 (q99 - 1)), x130, cs132, rfl, hq93, h133, hn134, hE.pick _ ⟨rfl, rfl, rfl, rfl, rfl, trivial⟩, hS⟩
          · replace hq93 := iteF hc124 hq93
            subst hK106
            refine W.exit rfl ?_
            exact ⟨q99, q100, cs104, Option.some.inj hq93, h103, hn105, hE.pick _ ⟨rfl, rfl, rfl, rfl, rfl, trivial⟩, hS⟩
      · clear hE hS a w; rintro a w ⟨q99, q100, cs104, rfl, h103, hn105, hE, hS⟩
        dsimp only at hq67
        refine W.seq ?_
        refine W.seq ?_
        refine W.region ?_
        refine WL.vS hS hE (runs_plain rfl) (Gives.p hE rfl) rfl ?_; clear hE a; intro a hE
        refine WL.vS hS hE (runs_plain rfl) (Gives.p hE rfl) rfl ?_; clear hE a; intro a hE
        refine WL.nil ?_
        refine W.cond hE rfl (fun hc135 => ?_) (fun hc135 => ?_)
        · replace hq67 := iteT hc135 hq67
          refine W.seq ?_
          refine W.region ?_
          refine WL.vS hS hE (runs_plain rfl) (Gives.p hE rfl) rfl ?_; clear hE a; intro a hE
          refine WL.nil ?_
          refine W.ret ?_
          subst hK84
          rw [← Option.some.inj hq67] at hr
          dsimp only at hr
          refine finG (fn := Try.f46) (rs := [.tmp 6]) (vs := [_]) hE rfl ⟨rfl, trivial⟩ ?_
          obtain rfl := Option.some.inj hr
          replace hS := hS.dropAt 9
          exact ⟨a87, c88, s90, rfl, (Sg.Le.trans hle72 hle91), h89, hS⟩
        · replace hq67 := iteF hc135 hq67
          refine W.skip ?_
          refine W.region ?_
          refine WL.vS hS hE (runs_plain rfl) (Gives.p hE rfl) rfl ?_; clear hE a; intro a hE
          refine WL.vS hS hE (runs_plain rfl) (Gives.p hE rfl) rfl ?_; clear hE a; intro a hE
          obtain ⟨x136, hx137, hq67⟩ := bindS hq67
          obtain ⟨hi138, hlt139, hy140⟩ := gx_some hx137
          obtain ⟨vs141, hl142, hR143, hd144, hget145⟩ := h103.at hy140
          subst hR143
          refine WL.vS hS hE (runs_plain rfl) (Gives.idx hE ((q99).toNat) rfl rfl sl44 hi138 (by have := hn105; omega) (hS.vecAok 9 rfl (by have := hn105; omega : (q99).toNat < x61.length))) rfl ?_; clear hE a; intro a hE
          refine WL.vS hS hE (runs_plain rfl) (Gives.load1 hE rfl (fun w h => St.vecSees h 9 rfl ((q99).toNat * 1) _ hget145) ty3) rfl ?_; clear hE a; intro a hE
          refine WL.vS hS hE (runs_plain rfl) (Gives.p hE rfl) rfl ?_; clear hE a; intro a hE
          obtain ⟨_, hx147, hq67⟩ := bindS hq67
          obtain ⟨h148, h149⟩ := ix_some hx147
          refine WL.vS hS hE (runs_plain rfl) (Gives.idx hE ((q99).toNat) rfl rfl sl44 h148 (by have := hn105; omega) (hS.vecAok 9 rfl (by have := hn105; omega : (q99).toNat < x61.length))) rfl ?_; clear hE a; intro a hE
          obtain ⟨x151, hx152, hq67⟩ := bindS hq67
          refine WL.setD hE hS 9 rfl (runs_plain rfl) rfl rfl (vs := [.int .i64 (w64 (x136 + 1))]) rfl ty3 rfl rfl rfl h103 hn105 (sx_some hx152).1 hx152 rfl rfl ?_; clear hE hS a w; intro cs153 a w h154 hn155 hE hS
          refine WL.nil ?_
          replace hS := hS.order [9, 0, 0, 0, 0, 0, 0, 0, 0, 0, 0, 0] rfl
          subst hK84
          exact ⟨n69, Nat.lt_succ_self _, n69, x151, q85.2.1, q85.2.2, cs153, a87, c88, s90, rfl, (Sg.Le.trans hle72 hle91), hq67, h154, hn155, h89, hE.pick _ ⟨rfl, rfl, rfl, rfl, trivial⟩, hS⟩
  · exact fun _ _ h => h.elim
set_option maxHeartbeats 8000000 in
theorem Fishref2StandInsOf_ok {fu : Nat}  {w : World} {s : Sg} {R : List HP} {x0 : List FleetShift} {a0 : Option Addr} {c0 : Nat} {x1 : List (List Int)} {a1 : Option Addr} {c1 : Nat} {x2 : FleetLimits} {x3 : List FleetAbsence} {a3 : Option Addr} {c3 : Nat} (hS : St w s (R)) (h0 : Sl 3 RFleetShift s a0 c0 x0) (h1 : Sl 1 (RL 1 (RI .i64)) s a1 c1 x1) (h3 : Sl 2 RFleetAbsence s a3 c3 x3) {r : (List (List Int)) × (List Int) × Int} (hr : Fishref2StandInsOf fu x0 x1 x2 x3 = some r) :
    Calls Try.prog 34 [.slice a0 x0.length c0, .slice a1 x1.length c1, .agg (FleetLimits.cells x2).toArray, .slice a3 x3.length c3].toArray w (fun e w => ∃ (a0 : Option Addr) (c0 : Nat) (a1 : Option Addr) (c1 n1 : Nat) (cs1 : List Value) (t : Sg), e = .returned (.tuple #[.slice a0 r.1.length c0, .slice a1 n1 c1, .int .i64 r.2.2]) ∧ s.Le t ∧ Sl 1 (RL 1 (RI .i64)) t a0 c0 r.1 ∧ Ev 1 (RI .i64) t cs1 r.2.1 ∧ r.2.1.length = n1 ∧ St w t (vecC 3 1 a1 c1 n1 cs1 :: R)) := by
  refine enter Try.func34 rfl rfl rfl fun a hE => ?_
  rw [Fishref2StandInsOf] at hr
  refine W.seq ?_
  refine W.region ?_
  refine WL.box hE hS (runs_plain rfl) rfl rfl rfl ?_; clear hE hS a w; intro b51 a w hE hS
  refine WL.box hE hS (runs_plain rfl) rfl rfl rfl ?_; clear hE hS a w; intro b52 a w hE hS
  refine WL.box hE hS (runs_plain rfl) rfl rfl rfl ?_; clear hE hS a w; intro b53 a w hE hS
  refine WL.vS hS hE (runs_plain rfl) (Gives.p hE rfl) rfl ?_; clear hE a; intro a hE
  refine WL.vS hS hE (runs_plain rfl) (Gives.p hE rfl) rfl ?_; clear hE a; intro a hE
  refine WL.vS hS hE (runs_plain rfl) (Gives.p hE rfl) rfl ?_; clear hE a; intro a hE
  refine WL.nil ?_
  refine W.seq ?_
  refine W.seq ?_
  refine W.region ?_
  refine WL.vS hS hE (runs_plain rfl) (Gives.loadB hE 2 rfl rfl rfl ty22) rfl ?_; clear hE a; intro a hE
  refine WL.vS hS hE (runs_plain rfl) (Gives.p hE rfl) rfl ?_; clear hE a; intro a hE
  refine WL.vS hS hE (runs_plain rfl) (Gives.loadBA hE 1 rfl rfl ty24) rfl ?_; clear hE a; intro a hE
  refine WL.vS hS hE (runs_plain rfl) (Gives.loadB hE 0 rfl rfl rfl ty59) rfl ?_; clear hE a; intro a hE
  obtain ⟨q54, hq55, hr⟩ := bindS hr
  have hc_ := Fishref2StandInsFault_ok hS h0 h1 h3 hq55
  refine WL.fnq hE (hc_) (runs_plain rfl) bd90 rfl rfl rfl ?_
  clear hE hS hc_; rintro e w ⟨rfl, hS⟩; refine ⟨_, rfl, ?_⟩; clear a; intro a hE
  refine WL.vS hS hE (runs_plain rfl) (Gives.p hE rfl) rfl ?_; clear hE a; intro a hE
  refine WL.nil ?_
  refine W.seq ?_
  refine W.region ?_
  refine WL.vS hS hE (runs_plain rfl) (Gives.p hE rfl) rfl ?_; clear hE a; intro a hE
  refine WL.vS hS hE (runs_plain rfl) (Gives.p hE rfl) rfl ?_; clear hE a; intro a hE
  refine WL.nil ?_
  refine W.cond hE rfl (fun hc56 => ?_) (fun hc56 => ?_)
  · replace hr := iteT hc56 hr
    refine W.seq ?_
    refine W.region ?_
    refine WL.vS hS hE (runs_plain rfl) (Gives.p hE rfl) rfl ?_; clear hE a; intro a hE
    refine WL.vS hS hE (runs_plain rfl) (Gives.p hE rfl) rfl ?_; clear hE a; intro a hE
    refine WL.vS hS hE (runs_plain rfl) (Gives.p hE rfl) rfl ?_; clear hE a; intro a hE
    refine WL.vS hS hE (runs_plain rfl) (Gives.p hE rfl) rfl ?_; clear hE a; intro a hE
    refine WL.nil ?_
    refine W.ret ?_
    replace hS := hS.vecNil 3 1
    refine finG (fn := Try.f34) (rs := [.tmp 8, .tmp 9, .tmp 10]) (vs := [_, _, _]) hE rfl ⟨rfl, rfl, rfl, trivial⟩ ?_
    obtain rfl := Option.some.inj hr
    replace hS := hS.dropAt 1
    replace hS := hS.dropAt 1
    replace hS := hS.dropAt 1
    exact ⟨none, 0, none, 0, 0, [], s, rfl, (Sg.Le.refl _), Sl.nil, (Ev.nil), (rfl), hS⟩
  · replace hr := iteF hc56 hr
    refine W.skip ?_
    refine W.seq ?_
    refine W.region ?_
    refine WL.vS hS hE (runs_plain rfl) (Gives.p hE rfl) rfl ?_; clear hE a; intro a hE
    refine WL.vS hS hE (runs_plain rfl) (Gives.len hE rfl sl25) rfl ?_; clear hE a; intro a hE
    refine WL.alloc hE hS (runs_plain rfl) zr3 rfl ?_; clear hE hS a w; intro b58 a w hE hS
    refine WL.storeI hE hS 0 rfl [.int .i64 ((x1).length : Int)] (runs_plain rfl) rfl rfl rfl ty3 rfl rfl rfl rfl ?_; clear hE hS a w; intro a w hE hS
    refine WL.nil ?_
    refine W.seq ?_
    refine W.region ?_
    refine WL.vS hS hE (runs_plain rfl) (Gives.mkfn hE (vs := [.pointer (some ⟨b53, 0, none⟩)]) rfl) rfl ?_; clear hE a; intro a hE
    refine WL.alloc hE hS (runs_plain rfl) zr130 rfl ?_; clear hE hS a w; intro b59 a w hE hS
    refine WL.storeI hE hS 0 rfl [.func (.func 91) #[] #[.pointer (some ⟨b53, 0, none⟩)]] (runs_plain rfl) rfl rfl rfl ty130 rfl rfl rfl rfl ?_; clear hE hS a w; intro a w hE hS
    refine WL.nil ?_
    refine W.seq ?_
    refine W.region ?_
    refine WL.vS hS hE (runs_plain rfl) (Gives.loadB hE 4 rfl rfl rfl ty22) rfl ?_; clear hE a; intro a hE
    refine WL.vS hS hE (runs_plain rfl) (Gives.len hE rfl sl22) rfl ?_; clear hE a; intro a hE
    obtain ⟨x60, hx61, hr⟩ := bindS hr
    refine WL.mkD (Rr := RI .i64) hE hS (runs_plain rfl) rfl rfl ap44 zr3 rfl hx61 rfl ?_; clear hE hS a w; intro b62 cs63 a w h64 hE hS
    refine WL.alloc hE hS (runs_plain rfl) zr44 rfl ?_; clear hE hS a w; intro b66 a w hE hS
    refine WL.storeI hE hS 0 rfl [.slice (some ⟨b62, 0, none⟩) x60.length x60.length] (runs_plain rfl) rfl rfl rfl ty44 rfl rfl rfl rfl ?_; clear hE hS a w; intro a w hE hS
    refine WL.nil ?_
    refine W.seq ?_
    refine W.seq ?_
    refine W.region ?_
    refine WL.vS hS hE (runs_plain rfl) (Gives.p hE rfl) rfl ?_; clear hE a; intro a hE
    refine WL.vS hS hE (runs_plain rfl) (Gives.len hE rfl sl25) rfl ?_; clear hE a; intro a hE
    refine WL.vS hS hE (runs_plain rfl) (Gives.p hE rfl) rfl ?_; clear hE a; intro a hE
    refine WL.nil ?_
    obtain ⟨q68, hq67, hr⟩ := bindS hr
    refine W.cut (fun a w => ∃ (q78 : List Int), ∃ (cs82 : List Value), q78 = q68 ∧ Ev 1 (RI .i64) s cs82 q78 ∧ q78.length = x60.length ∧ Rep a 105 [(4, .pointer (some ⟨b51, 0, none⟩)), (6, .pointer (some ⟨b52, 0, none⟩)), (12, .pointer (some ⟨b58, 0, none⟩)), (13, .pointer (some ⟨b59, 0, none⟩)), (14, .pointer (some ⟨b66, 0, none⟩))] ∧ St w s (pt b66 (.cells #[.slice (some ⟨b62, 0, none⟩) x60.length x60.length] 44 (0, 0)) :: vecC 3 1 (some ⟨b62, 0, none⟩) x60.length x60.length cs82 :: pt b59 (.cells #[.func (.func 91) #[] #[.pointer (some ⟨b53, 0, none⟩)]] 130 (0, 0)) :: pt b58 (.cells #[.int .i64 ((x1).length : Int)] 3 (0, 0)) :: pt b53 (.cells #[.slice a3 x3.length c3] 59 (0, 0)) :: pt b52 (.cells (FleetLimits.cells x2).toArray 24 (0, 0)) :: pt b51 (.cells #[.slice a0 x0.length c0] 22 (0, 0)) :: R)) ?_ ?_
    · refine W.block ?_
      refine W.loop (fun m a w => ∃ (rest71 : List (List Int)) (k69 : Nat), ∃ (q78 : List Int), ∃ (cs82 : List Value), rest71.length = m ∧ x1.drop k69 = rest71 ∧ Fishref2StandInsOf.loop1 rest71 k69 q78 = some q68 ∧ Ev 1 (RI .i64) s cs82 q78 ∧ q78.length = x60.length ∧ Rep a 105 [(4, .pointer (some ⟨b51, 0, none⟩)), (6, .pointer (some ⟨b52, 0, none⟩)), (12, .pointer (some ⟨b58, 0, none⟩)), (13, .pointer (some ⟨b59, 0, none⟩)), (14, .pointer (some ⟨b66, 0, none⟩)), (41, .slice a1 x1.length c1), (42, .int .i64 ((x1).length : Int)), (43, .int .i64 ((k69 : Nat) : Int))] ∧ St w s (pt b66 (.cells #[.slice (some ⟨b62, 0, none⟩) x60.length x60.length] 44 (0, 0)) :: vecC 3 1 (some ⟨b62, 0, none⟩) x60.length x60.length cs82 :: pt b59 (.cells #[.func (.func 91) #[] #[.pointer (some ⟨b53, 0, none⟩)]] 130 (0, 0)) :: pt b58 (.cells #[.int .i64 ((x1).length : Int)] 3 (0, 0)) :: pt b53 (.cells #[.slice a3 x3.length c3] 59 (0, 0)) :: pt b52 (.cells (FleetLimits.cells x2).toArray 24 (0, 0)) :: pt b51 (.cells #[.slice a0 x0.length c0] 22 (0, 0)) :: R)) (m := x1.length) ⟨x1, 0, x60, cs63, rfl, rfl, hq67, h64, (rfl), hE.pick _ ⟨rfl, rfl, rfl, rfl, rfl, rfl, rfl, rfl, trivial⟩, hS⟩ ?_
      clear hE hS a w hq67; rintro m75 a w ⟨rest71, k69, q78, cs82, rfl, hd72, hq67, h81, hn83, hE, hS⟩
      refine W.gen fun K84 hK84 => ?_
      rcases rest71 with _ | ⟨x70, rest71⟩
      · have hlt73 := drop_nil hd72
        refine W.seq ?_
        refine W.region ?_
        refine WL.vS hS hE (runs_plain rfl) (Gives.p hE rfl) rfl ?_; clear hE a; intro a hE
        refine WL.nil ?_
        refine W.seq ?_
        refine W.condF hE rfl (decide_eq_false (by omega)) ?_
        subst hK84
        refine W.exit rfl ?_
        exact ⟨q78, cs82, Option.some.inj hq67, h81, hn83, hE.pick _ ⟨rfl, rfl, rfl, rfl, rfl, trivial⟩, hS⟩
      · obtain ⟨hlt73, hx74, hd72⟩ := drop_cons hd72
        rw [Fishref2StandInsOf.loop1] at hq67
        refine W.seq ?_
        refine W.region ?_
        refine WL.vS hS hE (runs_plain rfl) (Gives.p hE rfl) rfl ?_; clear hE a; intro a hE
        refine WL.nil ?_
        refine W.seq ?_
        refine W.condT hE rfl (decide_eq_true (by omega)) ?_
        refine W.skip ?_
        refine W.seq ?_
        refine W.block ?_
        refine W.seq ?_
        refine W.region ?_
        refine WL.vS hS hE (runs_plain rfl) (Gives.p hE rfl) rfl ?_; clear hE a; intro a hE
        obtain ⟨cs85, hl86, hR87, hat88⟩ := h1.at hx74
        obtain ⟨a89, c90, rfl, h91⟩ := hR87
        refine WL.vS hS hE (runs_plain rfl) (Gives.idx hE k69 rfl rfl sl25 rfl hlt73 (h1.aok hlt73)) rfl ?_; clear hE a; intro a hE
        refine WL.vS hS hE (runs_plain rfl) (Gives.load1 hE rfl (fun w h => hat88 w _ h) ty44) rfl ?_; clear hE a; intro a hE
        refine WL.vS hS hE (runs_plain rfl) (Gives.p hE rfl) rfl ?_; clear hE a; intro a hE
        refine WL.vS hS hE (runs_plain rfl) (Gives.p hE rfl) rfl ?_; clear hE a; intro a hE
        refine WL.nil ?_
        refine W.seq ?_
        refine W.region ?_
        refine WL.vS hS hE (runs_plain rfl) (Gives.p hE rfl) rfl ?_; clear hE a; intro a hE
        refine WL.vS hS hE (runs_plain rfl) (Gives.len hE rfl sl44) rfl ?_; clear hE a; intro a hE
        refine WL.vS hS hE (runs_plain rfl) (Gives.p hE rfl) rfl ?_; clear hE a; intro a hE
        refine WL.nil ?_
        obtain ⟨q93, hq92, hq67⟩ := bindS hq67
        refine W.cut (fun a w => ∃ (q103 : List Int), ∃ (cs107 : List Value), q103 = q93 ∧ Ev 1 (RI .i64) s cs107 q103 ∧ q103.length = x60.length ∧ Rep a 105 [(4, .pointer (some ⟨b51, 0, none⟩)), (6, .pointer (some ⟨b52, 0, none⟩)), (12, .pointer (some ⟨b58, 0, none⟩)), (13, .pointer (some ⟨b59, 0, none⟩)), (14, .pointer (some ⟨b66, 0, none⟩)), (41, .slice a1 x1.length c1), (42, .int .i64 ((x1).length : Int)), (43, .int .i64 ((k69 : Nat) : Int))] ∧ St w s (pt b66 (.cells #[.slice (some ⟨b62, 0, none⟩) x60.length x60.length] 44 (0, 0)) :: vecC 3 1 (some ⟨b62, 0, none⟩) x60.length x60.length cs107 :: pt b59 (.cells #[.func (.func 91) #[] #[.pointer (some ⟨b53, 0, none⟩)]] 130 (0, 0)) :: pt b58 (.cells #[.int .i64 ((x1).length : Int)] 3 (0, 0)) :: pt b53 (.cells #[.slice a3 x3.length c3] 59 (0, 0)) :: pt b52 (.cells (FleetLimits.cells x2).toArray 24 (0, 0)) :: pt b51 (.cells #[.slice a0 x0.length c0] 22 (0, 0)) :: R)) ?_ ?_
        · refine W.block ?_
          refine W.loop (fun m a w => ∃ (rest96 : List Int) (k94 : Nat), ∃ (q103 : List Int), ∃ (cs107 : List Value), rest96.length = m ∧ x70.drop k94 = rest96 ∧ Fishref2StandInsOf.loop2 k69 rest96 q103 = some q93 ∧ Ev 1 (RI .i64) s cs107 q103 ∧ q103.length = x60.length ∧ Rep a 105 [(4, .pointer (some ⟨b51, 0, none⟩)), (6, .pointer (some ⟨b52, 0, none⟩)), (12, .pointer (some ⟨b58, 0, none⟩)), (13, .pointer (some ⟨b59, 0, none⟩)), (14, .pointer (some ⟨b66, 0, none⟩)), (15, .int .i64 ((k69 : Nat) : Int)), (41, .slice a1 x1.length c1), (42, .int .i64 ((x1).length : Int)), (43, .int .i64 ((k69 : Nat) : Int)), (48, .slice a89 x70.length c90), (49, .int .i64 ((x70).length : Int)), (50, .int .i64 ((k94 : Nat) : Int))] ∧ St w s (pt b66 (.cells #[.slice (some ⟨b62, 0, none⟩) x60.length x60.length] 44 (0, 0)) :: vecC 3 1 (some ⟨b62, 0, none⟩) x60.length x60.length cs107 :: pt b59 (.cells #[.func (.func 91) #[] #[.pointer (some ⟨b53, 0, none⟩)]] 130 (0, 0)) :: pt b58 (.cells #[.int .i64 ((x1).length : Int)] 3 (0, 0)) :: pt b53 (.cells #[.slice a3 x3.length c3] 59 (0, 0)) :: pt b52 (.cells (FleetLimits.cells x2).toArray 24 (0, 0)) :: pt b51 (.cells #[.slice a0 x0.length c0] 22 (0, 0)) :: R)) (m := x70.length) ⟨x70, 0, q78, cs82, rfl, rfl, hq92, h81, hn83, hE.pick _ ⟨rfl, rfl, rfl, rfl, rfl, rfl, rfl, rfl, rfl, rfl, rfl, rfl, trivial⟩, hS⟩ ?_
          clear hE hS a w hq92; rintro m100 a w ⟨rest96, k94, q103, cs107, rfl, hd97, hq92, h106, hn108, hE, hS⟩
          refine W.gen fun K109 hK109 => ?_
          rcases rest96 with _ | ⟨x95, rest96⟩
          · have hlt98 := drop_nil hd97
            refine W.seq ?_
            refine W.region ?_
            refine WL.vS hS hE (runs_plain rfl) (Gives.p hE rfl) rfl ?_; clear hE a; intro a hE
            refine WL.nil ?_
            refine W.seq ?_
            refine W.condF hE rfl (decide_eq_false (by omega)) ?_
            subst hK109
            refine W.exit rfl ?_
            exact ⟨q103, cs107, Option.some.inj hq92, h106, hn108, hE.pick _ ⟨rfl, rfl, rfl, rfl, rfl, rfl, rfl, rfl, trivial⟩, hS⟩
          · obtain ⟨hlt98, hx99, hd97⟩ := drop_cons hd97
            rw [Fishref2StandInsOf.loop2] at hq92
            refine W.seq ?_
            refine W.region ?_
            refine WL.vS hS hE (runs_plain rfl) (Gives.p hE rfl) rfl ?_; clear hE a; intro a hE
            refine WL.nil ?_
            refine W.seq ?_
            refine W.condT hE rfl (decide_eq_true (by omega)) ?_
            refine W.skip ?_
            refine W.seq ?_
            refine W.block ?_
            refine W.seq ?_
            refine W.region ?_
            obtain ⟨cs110, hl111, hR112, hat113⟩ := h91.at hx99
            subst hR112
            refine WL.vS hS hE (runs_plain rfl) (Gives.idx hE k94 rfl rfl sl44 rfl hlt98 (h91.aok hlt98)) rfl ?_; clear hE a; intro a hE
            refine WL.vS hS hE (runs_plain rfl) (Gives.load1 hE rfl (fun w h => hat113 w _ h) ty3) rfl ?_; clear hE a; intro a hE
            refine WL.vS hS hE (runs_plain rfl) (Gives.p hE rfl) rfl ?_; clear hE a; intro a hE
            refine WL.nil ?_
            refine W.region ?_
            refine WL.vS hS hE (runs_plain rfl) (Gives.loadB hE 0 rfl rfl rfl ty44) rfl ?_; clear hE a; intro a hE
            refine WL.vS hS hE (runs_plain rfl) (Gives.p hE rfl) rfl ?_; clear hE a; intro a hE
            refine WL.vS hS hE (runs_plain rfl) (Gives.p hE rfl) rfl ?_; clear hE a; intro a hE
            obtain ⟨_, hx115, hq92⟩ := bindS hq92
            obtain ⟨h116, h117⟩ := ix_some hx115
            refine WL.vS hS hE (runs_plain rfl) (Gives.idx hE ((x95).toNat) rfl rfl sl44 h116 (by have := hn108; omega) (hS.vecAok 1 rfl (by have := hn108; omega : (x95).toNat < x60.length))) rfl ?_; clear hE a; intro a hE
            obtain ⟨x119, hx120, hq92⟩ := bindS hq92
            refine WL.setD hE hS 1 rfl (runs_plain rfl) rfl rfl (vs := [.int .i64 ((k69 : Nat) : Int)]) rfl ty3 rfl rfl rfl h106 hn108 (sx_some hx120).1 hx120 rfl rfl ?_; clear hE hS a w; intro cs121 a w h122 hn123 hE hS
            refine WL.nil ?_
            refine W.region ?_
            refine WL.vS hS hE (runs_plain rfl) (Gives.inc hE rfl (by have := h91.small; omega)) rfl ?_; clear hE a; intro a hE
            refine WL.vS hS hE (runs_plain rfl) (Gives.p hE rfl) rfl ?_; clear hE a; intro a hE
            refine WL.nil ?_
            subst hK109
            exact ⟨rest96.length, Nat.lt_succ_self _, rest96, k94 + 1, x119, cs121, rfl, hd97, hq92, h122, hn123, hE.pick _ ⟨rfl, rfl, rfl, rfl, rfl, rfl, rfl, rfl, rfl, rfl, rfl, rfl, trivial⟩, hS⟩
        · clear hE hS a w; rintro a w ⟨q103, cs107, rfl, h106, hn108, hE, hS⟩
          refine W.region ?_
          refine WL.vS hS hE (runs_plain rfl) (Gives.inc hE rfl (by have := h1.small; omega)) rfl ?_; clear hE a; intro a hE
          refine WL.vS hS hE (runs_plain rfl) (Gives.p hE rfl) rfl ?_; clear hE a; intro a hE
          refine WL.nil ?_
          subst hK84
          exact ⟨rest71.length, Nat.lt_succ_self _, rest71, k69 + 1, q103, cs107, rfl, hd72, hq67, h106, hn108, hE.pick _ ⟨rfl, rfl, rfl, rfl, rfl, rfl, rfl, rfl, trivial⟩, hS⟩
    · clear hE hS a w; rintro a w ⟨q78, cs82, rfl, h81, hn83, hE, hS⟩
      refine W.seq ?_
      refine W.region ?_
      refine WL.alloc hE hS (runs_plain rfl) zr44 rfl ?_; clear hE hS a w; intro b124 a w hE hS
      refine WL.nil ?_
      refine W.seq ?_
      refine W.seq ?_
      refine W.region ?_
      refine WL.vS hS hE (runs_plain rfl) (Gives.loadB hE 1 rfl rfl rfl ty44) rfl ?_; clear hE a; intro a hE
      refine WL.vS hS hE (runs_plain rfl) (Gives.len hE rfl sl44) rfl ?_; clear hE a; intro a hE
      refine WL.vS hS hE (runs_plain rfl) (Gives.p hE rfl) rfl ?_; clear hE a; intro a hE
      refine WL.nil ?_
      replace hS := hS.vecNil 3 1
      have hb137 : x60.length ≤ 9223372036854775807 := by have := hS.vecCap 3 rfl; unfold maxLen at this; omega
      obtain ⟨q127, hq126, hr⟩ := bindS hr
      refine W.cut (fun a w => ∃ (q138 : List Int), ∃ (a139 : Option Addr), ∃ (c140 : Nat), ∃ (n142 : Nat), ∃ (cs143 : List Value), q138 = q127 ∧ Ev 1 (RI .i64) s cs143 q138 ∧ q138.length = n142 ∧ Rep a 105 [(4, .pointer (some ⟨b51, 0, none⟩)), (6, .pointer (some ⟨b52, 0, none⟩)), (12, .pointer (some ⟨b58, 0, none⟩)), (13, .pointer (some ⟨b59, 0, none⟩)), (14, .pointer (some ⟨b66, 0, none⟩)), (19, .pointer (some ⟨b124, 0, none⟩))] ∧ St w s (vecC 3 1 a139 c140 n142 cs143 :: pt b124 (.cells #[.slice a139 n142 c140] 44 (0, 0)) :: pt b66 (.cells #[.slice (some ⟨b62, 0, none⟩) x60.length x60.length] 44 (0, 0)) :: vecC 3 1 (some ⟨b62, 0, none⟩) x60.length x60.length cs82 :: pt b59 (.cells #[.func (.func 91) #[] #[.pointer (some ⟨b53, 0, none⟩)]] 130 (0, 0)) :: pt b58 (.cells #[.int .i64 ((x1).length : Int)] 3 (0, 0)) :: pt b53 (.cells #[.slice a3 x3.length c3] 59 (0, 0)) :: pt b52 (.cells (FleetLimits.cells x2).toArray 24 (0, 0)) :: pt b51 (.cells #[.slice a0 x0.length c0] 22 (0, 0)) :: R)) ?_ ?_
      · refine W.block ?_
        refine W.loop (fun m a w => ∃ (rest130 : Nat) (k128 : Nat), ∃ (q138 : List Int), ∃ (a139 : Option Addr), ∃ (c140 : Nat), ∃ (n142 : Nat), ∃ (cs143 : List Value), rest130 = m ∧ k128 + rest130 = x60.length ∧ Fishref2StandInsOf.loop3 x0 x3 q78 rest130 k128 q138 = some q127 ∧ Ev 1 (RI .i64) s cs143 q138 ∧ q138.length = n142 ∧ Rep a 105 [(4, .pointer (some ⟨b51, 0, none⟩)), (6, .pointer (some ⟨b52, 0, none⟩)), (12, .pointer (some ⟨b58, 0, none⟩)), (13, .pointer (some ⟨b59, 0, none⟩)), (14, .pointer (some ⟨b66, 0, none⟩)), (19, .pointer (some ⟨b124, 0, none⟩)), (60, .slice (some ⟨b62, 0, none⟩) x60.length x60.length), (61, .int .i64 ((x60.length : Nat) : Int)), (62, .int .i64 ((k128 : Nat) : Int))] ∧ St w s (vecC 3 1 a139 c140 n142 cs143 :: pt b124 (.cells #[.slice a139 n142 c140] 44 (0, 0)) :: pt b66 (.cells #[.slice (some ⟨b62, 0, none⟩) x60.length x60.length] 44 (0, 0)) :: vecC 3 1 (some ⟨b62, 0, none⟩) x60.length x60.length cs82 :: pt b59 (.cells #[.func (.func 91) #[] #[.pointer (some ⟨b53, 0, none⟩)]] 130 (0, 0)) :: pt b58 (.cells #[.int .i64 ((x1).length : Int)] 3 (0, 0)) :: pt b53 (.cells #[.slice a3 x3.length c3] 59 (0, 0)) :: pt b52 (.cells (FleetLimits.cells x2).toArray 24 (0, 0)) :: pt b51 (.cells #[.slice a0 x0.length c0] 22 (0, 0)) :: R)) (m := x60.length) ⟨x60.length, 0, [], none, 0, 0, [], rfl, by omega, hq126, (Ev.nil), (rfl), hE.pick _ ⟨rfl, rfl, rfl, rfl, rfl, rfl, rfl, rfl, rfl, trivial⟩, hS⟩ ?_
        clear hE hS a w hq126; rintro m134 a w ⟨rest130, k128, q138, a139, c140, n142, cs143, rfl, hd131, hq126, h141, rfl, hE, hS⟩
        refine W.gen fun K145 hK145 => ?_
        rcases rest130 with _ | rest130
        · skip
          refine W.seq ?_
          refine W.region ?_
          refine WL.vS hS hE (runs_plain rfl) (Gives.p hE rfl) rfl ?_; clear hE a; intro a hE
          refine WL.nil ?_
          refine W.seq ?_
          refine W.condF hE rfl (decide_eq_false (by omega)) ?_
          subst hK145
          refine W.exit rfl ?_
          exact ⟨q138, a139, c140, q138.length, cs143, Option.some.inj hq126, h141, rfl, hE.pick _ ⟨rfl, rfl, rfl, rfl, rfl, rfl, trivial⟩, hS⟩
        · have hlt132 : k128 < x60.length := by omega
          rw [Fishref2StandInsOf.loop3] at hq126
          refine W.seq ?_
          refine W.region ?_
          refine WL.vS hS hE (runs_plain rfl) (Gives.p hE rfl) rfl ?_; clear hE a; intro a hE
          refine WL.nil ?_
          refine W.seq ?_
          refine W.condT hE rfl (decide_eq_true (by omega)) ?_
          refine W.skip ?_
          refine W.seq ?_
          refine W.block ?_
          refine W.seq ?_
          refine W.region ?_
          refine WL.vS hS hE (runs_plain rfl) (Gives.p hE rfl) rfl ?_; clear hE a; intro a hE
          obtain ⟨x146, hx147, hq126⟩ := bindS hq126
          obtain ⟨hi148, hlt149, hy150⟩ := gx_some hx147
          obtain ⟨vs151, hl152, hR153, hd154, hget155⟩ := h81.at hy150
          subst hR153
          refine WL.vS hS hE (runs_plain rfl) (Gives.idx hE ((((k128 : Nat) : Int)).toNat) rfl rfl sl44 hi148 (by have := hn83; omega) (hS.vecAok 3 rfl (by have := hn83; omega : (((k128 : Nat) : Int)).toNat < x60.length))) rfl ?_; clear hE a; intro a hE
          refine WL.vS hS hE (runs_plain rfl) (Gives.load1 hE rfl (fun w h => St.vecSees h 3 rfl ((((k128 : Nat) : Int)).toNat * 1) _ hget155) ty3) rfl ?_; clear hE a; intro a hE
          refine WL.vS hS hE (runs_plain rfl) (Gives.p hE rfl) rfl ?_; clear hE a; intro a hE
          refine WL.vS hS hE (runs_plain rfl) (Gives.p hE rfl) rfl ?_; clear hE a; intro a hE
          refine WL.nil ?_
          refine W.seq ?_
          refine W.regionQ (C := fun w => St w s (vecC 3 1 a139 c140 q138.length cs143 :: pt b124 (.cells #[.slice a139 q138.length c140] 44 (0, 0)) :: pt b66 (.cells #[.slice (some ⟨b62, 0, none⟩) x60.length x60.length] 44 (0, 0)) :: vecC 3 1 (some ⟨b62, 0, none⟩) x60.length x60.length cs82 :: pt b59 (.cells #[.func (.func 91) #[] #[.pointer (some ⟨b53, 0, none⟩)]] 130 (0, 0)) :: pt b58 (.cells #[.int .i64 ((x1).length : Int)] 3 (0, 0)) :: pt b53 (.cells #[.slice a3 x3.length c3] 59 (0, 0)) :: pt b52 (.cells (FleetLimits.cells x2).toArray 24 (0, 0)) :: pt b51 (.cells #[.slice a0 x0.length c0] 22 (0, 0)) :: R)) mixed (by kernel_rfl) hS.drew ?_
          refine QL.v hE (runs_plain rfl) (Gives.loadB hE 4 rfl rfl rfl ty130) rfl ?_; clear hE a; intro a hE
          refine QL.v hE (runs_plain rfl) (Gives.p hE rfl) rfl ?_; clear hE a; intro a hE
          refine QL.v hE (runs_plain rfl) (Gives.loadB hE 8 rfl rfl rfl ty22) rfl ?_; clear hE a; intro a hE
          refine QL.v hE (runs_plain rfl) (Gives.p hE rfl) rfl ?_; clear hE a; intro a hE
          obtain ⟨x156, hx157, hq126⟩ := bindS hq126
          obtain ⟨hi158, hlt159, hy160⟩ := gx_some hx157
          obtain ⟨cs161, hl162, hR163, hat164⟩ := h0.at hy160
          subst hR163
          refine QL.v hE (runs_plain rfl) (Gives.idx hE (((k128 : Nat) : Int)).toNat rfl rfl sl22 hi158 hlt159 (h0.aok hlt159)) rfl ?_; clear hE a; intro a hE
          refine QL.v hE (runs_plain rfl) (Gives.fld hE rfl fl126_0) rfl ?_; clear hE a; intro a hE
          refine QL.v hE (runs_plain rfl) (Gives.load1 hE rfl (fun w h => (hat164 w _ h).one rfl) ty3) rfl ?_; clear hE a; intro a hE
          refine QL.fnw hE (fun w hS => (Fishref2StandInsOf_1_v1_ok (St.front hS 6 rfl) h3 rfl (r := Fishref2StandInsOf_1_v1 x146 x156.Day x3)).mono fun _ _ ⟨he, hq⟩ => ⟨he, (St.unfront 6 rfl hq)⟩) rfl (runs_plain rfl) bd91 rfl rfl rfl ?_; clear hE a; intro a hE
          refine QL.nil ?_; clear hS w; intro w hS
          obtain ⟨q166, hq165, hq126⟩ := bindS hq126
          refine W.cut (fun a w => ∃ (q169 : List Int), ∃ (a170 : Option Addr), ∃ (c171 : Nat), ∃ (n173 : Nat), ∃ (cs174 : List Value), q169 = q166 ∧ Ev 1 (RI .i64) s cs174 q169 ∧ q169.length = n173 ∧ Rep a 105 [(4, .pointer (some ⟨b51, 0, none⟩)), (6, .pointer (some ⟨b52, 0, none⟩)), (12, .pointer (some ⟨b58, 0, none⟩)), (13, .pointer (some ⟨b59, 0, none⟩)), (14, .pointer (some ⟨b66, 0, none⟩)), (19, .pointer (some ⟨b124, 0, none⟩)), (60, .slice (some ⟨b62, 0, none⟩) x60.length x60.length), (61, .int .i64 ((x60.length : Nat) : Int)), (62, .int .i64 ((k128 : Nat) : Int))] ∧ St w s (vecC 3 1 a170 c171 n173 cs174 :: pt b124 (.cells #[.slice a170 n173 c171] 44 (0, 0)) :: pt b66 (.cells #[.slice (some ⟨b62, 0, none⟩) x60.length x60.length] 44 (0, 0)) :: vecC 3 1 (some ⟨b62, 0, none⟩) x60.length x60.length cs82 :: pt b59 (.cells #[.func (.func 91) #[] #[.pointer (some ⟨b53, 0, none⟩)]] 130 (0, 0)) :: pt b58 (.cells #[.int .i64 ((x1).length : Int)] 3 (0, 0)) :: pt b53 (.cells #[.slice a3 x3.length c3] 59 (0, 0)) :: pt b52 (.cells (FleetLimits.cells x2).toArray 24 (0, 0)) :: pt b51 (.cells #[.slice a0 x0.length c0] 22 (0, 0)) :: R)) ?_ ?_
          · refine W.gen fun K176 hK176 => ?_
            refine W.cond hE rfl (fun hc177 => ?_) (fun hc177 => ?_)
            · replace hq165 := iteT hc177 hq165
              refine W.region ?_
              refine WL.vS hS hE (runs_plain rfl) (Gives.loadB hE 1 rfl rfl rfl ty44) rfl ?_; clear hE a; intro a hE
              refine WL.vS hS hE (runs_plain rfl) (Gives.p hE rfl) rfl ?_; clear hE a; intro a hE
              refine WL.lit hE hS (e := 3) (es := 1) (vs := [(0, .int .i64 ((k128 : Nat) : Int))]) (cs := [.int .i64 ((k128 : Nat) : Int)]) (runs_plain rfl) rfl (by kernel_rfl) rfl ?_; clear hE hS a w; intro b178 a w hE hS
              obtain ⟨x179, hx180, hq165⟩ := bindS hq165
              refine WL.appD hE hS 0 (m := 1) (runs_plain rfl) rfl rfl rfl ap44 rfl h141 rfl (xs := [((k128 : Nat) : Int)]) (Ev.cons (c1 := [.int .i64 ((k128 : Nat) : Int)]) rfl rfl (Ev.nil)) rfl rfl hx180 rfl ?_; clear hE hS a w; intro a181 c182 cs183 a w h184 hE hS
              refine WL.storeI hE hS 1 rfl [.slice a181 x179.length c182] (runs_plain rfl) rfl rfl rfl ty44 rfl rfl rfl rfl ?_; clear hE hS a w; intro a w hE hS
              refine WL.nil ?_
              subst hK176
              exact ⟨x179, a181, c182, x179.length, cs183, Option.some.inj hq165, h184, (rfl), hE.pick _ ⟨rfl, rfl, rfl, rfl, rfl, rfl, rfl, rfl, rfl, trivial⟩, hS⟩
            · replace hq165 := iteF hc177 hq165
              refine W.skip ?_
              subst hK176
              exact ⟨q138, a139, c140, q138.length, cs143, Option.some.inj hq165, h141, rfl, hE.pick _ ⟨rfl, rfl, rfl, rfl, rfl, rfl, rfl, rfl, rfl, trivial⟩, hS⟩
          · clear hE hS a w; rintro a w ⟨q169, a170, c171, n173, cs174, rfl, h172, rfl, hE, hS⟩
            refine W.region ?_
            refine WL.vS hS hE (runs_plain rfl) (Gives.inc hE rfl (by omega)) rfl ?_; clear hE a; intro a hE
            refine WL.vS hS hE (runs_plain rfl) (Gives.p hE rfl) rfl ?_; clear hE a; intro a hE
            refine WL.nil ?_
            subst hK145
            exact ⟨rest130, Nat.lt_succ_self _, rest130, k128 + 1, q169, a170, c171, q169.length, cs174, rfl, (by omega), hq126, h172, rfl, hE.pick _ ⟨rfl, rfl, rfl, rfl, rfl, rfl, rfl, rfl, rfl, trivial⟩, hS⟩
      · clear hE hS a w; rintro a w ⟨q138, a139, c140, n142, cs143, rfl, h141, rfl, hE, hS⟩
        refine W.seq ?_
        refine W.region ?_
        refine WL.alloc hE hS (runs_plain rfl) zr44 rfl ?_; clear hE hS a w; intro b185 a w hE hS
        refine WL.nil ?_
        refine W.seq ?_
        refine W.region ?_
        refine WL.alloc hE hS (runs_plain rfl) zr3 rfl ?_; clear hE hS a w; intro b186 a w hE hS
        refine WL.storeI hE hS 0 rfl [.int .i64 (-1)] (runs_plain rfl) rfl rfl rfl ty3 rfl rfl rfl rfl ?_; clear hE hS a w; intro a w hE hS
        refine WL.nil ?_
        refine W.seq ?_
        refine W.region ?_
        refine WL.vS hS hE (runs_plain rfl) (Gives.loadB hE 3 rfl rfl rfl ty44) rfl ?_; clear hE a; intro a hE
        refine WL.vS hS hE (runs_plain rfl) (Gives.len hE rfl sl44) rfl ?_; clear hE a; intro a hE
        refine WL.vS hS hE (runs_plain rfl) (Gives.loadB hE 7 rfl rfl rfl ty3) rfl ?_; clear hE a; intro a hE
        refine WL.vS hS hE (runs_plain rfl) (Gives.p hE rfl) rfl ?_; clear hE a; intro a hE
        refine WL.vS hS hE (runs_plain rfl) (Gives.mkfn hE (vs := [.pointer (some ⟨b66, 0, none⟩), .pointer (some ⟨b124, 0, none⟩), .pointer (some ⟨b58, 0, none⟩), .pointer (some ⟨b59, 0, none⟩), .pointer (some ⟨b51, 0, none⟩), .pointer (some ⟨b52, 0, none⟩), .pointer (some ⟨b186, 0, none⟩), .pointer (some ⟨b185, 0, none⟩)]) rfl) rfl ?_; clear hE a; intro a hE
        obtain ⟨q187, hq188, hr⟩ := bindS hr
        replace hS := hS.front 2 rfl
        replace hS := hS.front 5 rfl
        replace hS := hS.front 8 rfl
        replace hS := hS.front 4 rfl
        replace hS := hS.front 4 rfl
        replace hS := hS.front 9 rfl
        replace hS := hS.front 10 rfl
        replace hS := hS.front 9 rfl
        replace hS := hS.front 10 rfl
        replace hS := hS.front 9 rfl
        replace hS := hS.front 10 rfl
        have hc_ := Fishref2counts_v1_ok (y5 := x2) hS h81 hn83 h141 rfl h0 Sl.nil h3 hq188
        refine WL.fnq hE (hc_) (runs_plain rfl) bd46 rfl rfl rfl ?_
        clear hE hS hc_; rintro e w ⟨a189, c190, s192, rfl, hle193, h191, hS⟩; refine ⟨_, rfl, ?_⟩; clear a; intro a hE
        replace h0 := Sl.mono RFleetShift.mono hle193 h0
        replace h3 := Sl.mono RFleetAbsence.mono hle193 h3
        replace h81 := Ev.mono RI.mono hle193 h81
        replace h141 := Ev.mono RI.mono hle193 h141
        refine WL.nil ?_
        refine W.seq ?_
        refine W.region ?_
        replace hS := hS.vecNil 3 1
        refine WL.vS hS hE (runs_plain rfl) (Gives.p hE rfl) rfl ?_; clear hE a; intro a hE
        refine WL.nil ?_
        refine W.seq ?_
        refine W.seq ?_
        refine W.region ?_
        refine WL.vS hS hE (runs_plain rfl) (Gives.loadB hE 8 rfl rfl rfl ty44) rfl ?_; clear hE a; intro a hE
        refine WL.vS hS hE (runs_plain rfl) (Gives.len hE rfl sl44) rfl ?_; clear hE a; intro a hE
        refine WL.vS hS hE (runs_plain rfl) (Gives.p hE rfl) rfl ?_; clear hE a; intro a hE
        refine WL.nil ?_
        obtain ⟨q196, hq195, hr⟩ := bindS hr
        refine W.cut (fun a w => ∃ (q206 : List Int), ∃ (a207 : Option Addr), ∃ (c208 : Nat), ∃ (n210 : Nat), ∃ (cs211 : List Value), q206 = q196 ∧ Ev 1 (RI .i64) s192 cs211 q206 ∧ q206.length = n210 ∧ Rep a 105 [(12, .pointer (some ⟨b58, 0, none⟩)), (22, .pointer (some ⟨b185, 0, none⟩)), (24, .slice a207 n210 c208)] ∧ St w s192 (vecC 3 1 a207 c208 n210 cs211 :: pt b66 (.cells #[.slice (some ⟨b62, 0, none⟩) x60.length x60.length] 44 (0, 0)) :: pt b124 (.cells #[.slice a139 q138.length c140] 44 (0, 0)) :: pt b58 (.cells #[.int .i64 ((x1).length : Int)] 3 (0, 0)) :: pt b59 (.cells #[.func (.func 91) #[] #[.pointer (some ⟨b53, 0, none⟩)]] 130 (0, 0)) :: pt b51 (.cells #[.slice a0 x0.length c0] 22 (0, 0)) :: pt b52 (.cells (FleetLimits.cells x2).toArray 24 (0, 0)) :: pt b186 (.cells #[.int .i64 q187.2.1] 3 (0, 0)) :: pt b185 (.cells #[.slice a189 q187.2.2.length c190] 44 (0, 0)) :: pt b53 (.cells #[.slice a3 x3.length c3] 59 (0, 0)) :: vecC 3 1 (some ⟨b62, 0, none⟩) x60.length x60.length cs82 :: vecC 3 1 a139 c140 q138.length cs143 :: R)) ?_ ?_
        · refine W.block ?_
          refine W.loop (fun m a w => ∃ (rest199 : List Int) (k197 : Nat), ∃ (q206 : List Int), ∃ (a207 : Option Addr), ∃ (c208 : Nat), ∃ (n210 : Nat), ∃ (cs211 : List Value), rest199.length = m ∧ q187.2.2.drop k197 = rest199 ∧ Fishref2StandInsOf.loop4 x1 rest199 k197 q206 = some q196 ∧ Ev 1 (RI .i64) s192 cs211 q206 ∧ q206.length = n210 ∧ Rep a 105 [(12, .pointer (some ⟨b58, 0, none⟩)), (22, .pointer (some ⟨b185, 0, none⟩)), (24, .slice a207 n210 c208), (86, .slice a189 q187.2.2.length c190), (87, .int .i64 ((q187.2.2).length : Int)), (88, .int .i64 ((k197 : Nat) : Int))] ∧ St w s192 (vecC 3 1 a207 c208 n210 cs211 :: pt b66 (.cells #[.slice (some ⟨b62, 0, none⟩) x60.length x60.length] 44 (0, 0)) :: pt b124 (.cells #[.slice a139 q138.length c140] 44 (0, 0)) :: pt b58 (.cells #[.int .i64 ((x1).length : Int)] 3 (0, 0)) :: pt b59 (.cells #[.func (.func 91) #[] #[.pointer (some ⟨b53, 0, none⟩)]] 130 (0, 0)) :: pt b51 (.cells #[.slice a0 x0.length c0] 22 (0, 0)) :: pt b52 (.cells (FleetLimits.cells x2).toArray 24 (0, 0)) :: pt b186 (.cells #[.int .i64 q187.2.1] 3 (0, 0)) :: pt b185 (.cells #[.slice a189 q187.2.2.length c190] 44 (0, 0)) :: pt b53 (.cells #[.slice a3 x3.length c3] 59 (0, 0)) :: vecC 3 1 (some ⟨b62, 0, none⟩) x60.length x60.length cs82 :: vecC 3 1 a139 c140 q138.length cs143 :: R)) (m := q187.2.2.length) ⟨q187.2.2, 0, [], none, 0, 0, [], rfl, rfl, hq195, (Ev.nil), (rfl), hE.pick _ ⟨rfl, rfl, rfl, rfl, rfl, rfl, trivial⟩, hS⟩ ?_
          clear hE hS a w hq195; rintro m203 a w ⟨rest199, k197, q206, a207, c208, n210, cs211, rfl, hd200, hq195, h209, rfl, hE, hS⟩
          refine W.gen fun K213 hK213 => ?_
          rcases rest199 with _ | ⟨x198, rest199⟩
          · have hlt201 := drop_nil hd200
            refine W.seq ?_
            refine W.region ?_
            refine WL.vS hS hE (runs_plain rfl) (Gives.p hE rfl) rfl ?_; clear hE a; intro a hE
            refine WL.nil ?_
            refine W.seq ?_
            refine W.condF hE rfl (decide_eq_false (by omega)) ?_
            subst hK213
            refine W.exit rfl ?_
            exact ⟨q206, a207, c208, q206.length, cs211, Option.some.inj hq195, h209, rfl, hE.pick _ ⟨rfl, rfl, rfl, trivial⟩, hS⟩
          · obtain ⟨hlt201, hx202, hd200⟩ := drop_cons hd200
            rw [Fishref2StandInsOf.loop4] at hq195
            refine W.seq ?_
            refine W.region ?_
            refine WL.vS hS hE (runs_plain rfl) (Gives.p hE rfl) rfl ?_; clear hE a; intro a hE
            refine WL.nil ?_
            refine W.seq ?_
            refine W.condT hE rfl (decide_eq_true (by omega)) ?_
            refine W.skip ?_
            refine W.seq ?_
            refine W.block ?_
            refine W.seq ?_
            refine W.region ?_
            refine WL.vS hS hE (runs_plain rfl) (Gives.p hE rfl) rfl ?_; clear hE a; intro a hE
            obtain ⟨cs214, hl215, hR216, hat217⟩ := h191.at hx202
            subst hR216
            refine WL.vS hS hE (runs_plain rfl) (Gives.idx hE k197 rfl rfl sl44 rfl hlt201 (h191.aok hlt201)) rfl ?_; clear hE a; intro a hE
            refine WL.vS hS hE (runs_plain rfl) (Gives.load1 hE rfl (fun w h => hat217 w _ h) ty3) rfl ?_; clear hE a; intro a hE
            refine WL.vS hS hE (runs_plain rfl) (Gives.p hE rfl) rfl ?_; clear hE a; intro a hE
            refine WL.vS hS hE (runs_plain rfl) (Gives.p hE rfl) rfl ?_; clear hE a; intro a hE
            refine WL.nil ?_
            refine W.seq ?_
            refine W.region ?_
            refine WL.vS hS hE (runs_plain rfl) (Gives.p hE rfl) rfl ?_; clear hE a; intro a hE
            refine WL.vS hS hE (runs_plain rfl) (Gives.loadB hE 3 rfl rfl rfl ty3) rfl ?_; clear hE a; intro a hE
            refine WL.vS hS hE (runs_plain rfl) (Gives.p hE rfl) rfl ?_; clear hE a; intro a hE
            refine WL.nil ?_
            obtain ⟨q219, hq218, hq195⟩ := bindS hq195
            refine W.cut (fun a w => ∃ (q222 : List Int), ∃ (a223 : Option Addr), ∃ (c224 : Nat), ∃ (n226 : Nat), ∃ (cs227 : List Value), q222 = q219 ∧ Ev 1 (RI .i64) s192 cs227 q222 ∧ q222.length = n226 ∧ Rep a 105 [(12, .pointer (some ⟨b58, 0, none⟩)), (22, .pointer (some ⟨b185, 0, none⟩)), (24, .slice a223 n226 c224), (86, .slice a189 q187.2.2.length c190), (87, .int .i64 ((q187.2.2).length : Int)), (88, .int .i64 ((k197 : Nat) : Int))] ∧ St w s192 (vecC 3 1 a223 c224 n226 cs227 :: pt b66 (.cells #[.slice (some ⟨b62, 0, none⟩) x60.length x60.length] 44 (0, 0)) :: pt b124 (.cells #[.slice a139 q138.length c140] 44 (0, 0)) :: pt b58 (.cells #[.int .i64 ((x1).length : Int)] 3 (0, 0)) :: pt b59 (.cells #[.func (.func 91) #[] #[.pointer (some ⟨b53, 0, none⟩)]] 130 (0, 0)) :: pt b51 (.cells #[.slice a0 x0.length c0] 22 (0, 0)) :: pt b52 (.cells (FleetLimits.cells x2).toArray 24 (0, 0)) :: pt b186 (.cells #[.int .i64 q187.2.1] 3 (0, 0)) :: pt b185 (.cells #[.slice a189 q187.2.2.length c190] 44 (0, 0)) :: pt b53 (.cells #[.slice a3 x3.length c3] 59 (0, 0)) :: vecC 3 1 (some ⟨b62, 0, none⟩) x60.length x60.length cs82 :: vecC 3 1 a139 c140 q138.length cs143 :: R)) ?_ ?_
            · refine W.gen fun K229 hK229 => ?_
              refine W.cond hE rfl (fun hc230 => ?_) (fun hc230 => ?_)
              · replace hq218 := iteT hc230 hq218
                refine W.region ?_
                refine WL.vS hS hE (runs_plain rfl) (Gives.p hE rfl) rfl ?_; clear hE a; intro a hE
                refine WL.vS hS hE (runs_plain rfl) (Gives.p hE rfl) rfl ?_; clear hE a; intro a hE
                refine WL.lit hE hS (e := 3) (es := 1) (vs := [(0, .int .i64 ((k197 : Nat) : Int))]) (cs := [.int .i64 ((k197 : Nat) : Int)]) (runs_plain rfl) rfl (by kernel_rfl) rfl ?_; clear hE hS a w; intro b231 a w hE hS
                obtain ⟨x232, hx233, hq218⟩ := bindS hq218
                refine WL.appD hE hS 0 (m := 1) (runs_plain rfl) rfl rfl rfl ap44 rfl h209 rfl (xs := [((k197 : Nat) : Int)]) (Ev.cons (c1 := [.int .i64 ((k197 : Nat) : Int)]) rfl rfl (Ev.nil)) rfl rfl hx233 rfl ?_; clear hE hS a w; intro a234 c235 cs236 a w h237 hE hS
                refine WL.vS hS hE (runs_plain rfl) (Gives.p hE rfl) rfl ?_; clear hE a; intro a hE
                refine WL.nil ?_
                subst hK229
                exact ⟨x232, a234, c235, x232.length, cs236, Option.some.inj hq218, h237, (rfl), hE.pick _ ⟨rfl, rfl, rfl, rfl, rfl, rfl, trivial⟩, hS⟩
              · replace hq218 := iteF hc230 hq218
                refine W.skip ?_
                subst hK229
                exact ⟨q206, a207, c208, q206.length, cs211, Option.some.inj hq218, h209, rfl, hE.pick _ ⟨rfl, rfl, rfl, rfl, rfl, rfl, trivial⟩, hS⟩
            · clear hE hS a w; rintro a w ⟨q222, a223, c224, n226, cs227, rfl, h225, rfl, hE, hS⟩
              refine W.region ?_
              refine WL.vS hS hE (runs_plain rfl) (Gives.inc hE rfl (by have := h191.small; omega)) rfl ?_; clear hE a; intro a hE
              refine WL.vS hS hE (runs_plain rfl) (Gives.p hE rfl) rfl ?_; clear hE a; intro a hE
              refine WL.nil ?_
              subst hK213
              exact ⟨rest199.length, Nat.lt_succ_self _, rest199, k197 + 1, q222, a223, c224, q222.length, cs227, rfl, hd200, hq195, h225, rfl, hE.pick _ ⟨rfl, rfl, rfl, rfl, rfl, rfl, trivial⟩, hS⟩
        · clear hE hS a w; rintro a w ⟨q206, a207, c208, n210, cs211, rfl, h209, rfl, hE, hS⟩
          refine W.seq ?_
          refine W.region ?_
          refine WL.vS hS hE (runs_plain rfl) (Gives.loadB hE 3 rfl rfl rfl ty3) rfl ?_; clear hE a; intro a hE
          refine WL.vS hS hE (runs_plain rfl) (Gives.loadB hE 8 rfl rfl rfl ty44) rfl ?_; clear hE a; intro a hE
          obtain ⟨q238, hq239, hr⟩ := bindS hr
          have hc_ := Fishref2given_ok hS h191 hq239
          refine WL.fnq hE (hc_) (runs_plain rfl) bd48 rfl rfl rfl ?_
          clear hE hS hc_; rintro e w ⟨a240, c241, s243, rfl, hle244, h242, hS⟩; refine ⟨_, rfl, ?_⟩; clear a; intro a hE
          replace h191 := Sl.mono RI.mono hle244 h191
          replace h209 := Ev.mono RI.mono hle244 h209
          replace h0 := Sl.mono RFleetShift.mono hle244 h0
          replace h3 := Sl.mono RFleetAbsence.mono hle244 h3
          replace h81 := Ev.mono RI.mono hle244 h81
          replace h141 := Ev.mono RI.mono hle244 h141
          refine WL.vS hS hE (runs_plain rfl) (Gives.p hE rfl) rfl ?_; clear hE a; intro a hE
          refine WL.vS hS hE (runs_plain rfl) (Gives.p hE rfl) rfl ?_; clear hE a; intro a hE
          refine WL.vS hS hE (runs_plain rfl) (Gives.p hE rfl) rfl ?_; clear hE a; intro a hE
          refine WL.vS hS hE (runs_plain rfl) (Gives.p hE rfl) rfl ?_; clear hE a; intro a hE
          refine WL.nil ?_
          refine W.ret ?_
          refine finG (fn := Try.f34) (rs := [.tmp 8, .tmp 9, .tmp 10]) (vs := [_, _, _]) hE rfl ⟨rfl, rfl, rfl, trivial⟩ ?_
          obtain rfl := Option.some.inj hr
          replace hS := hS.dropAt 1
          replace hS := hS.dropAt 1
          replace hS := hS.dropAt 1
          replace hS := hS.dropAt 1
          replace hS := hS.dropAt 1
          replace hS := hS.dropAt 1
          replace hS := hS.dropAt 1
          replace hS := hS.dropAt 1
          replace hS := hS.dropAt 1
          replace hS := hS.dropAt 1
          replace hS := hS.dropAt 1
          exact ⟨a240, c241, a207, c208, q206.length, cs211, s243, rfl, (Sg.Le.trans hle193 hle244), h242, h209, rfl, hS⟩
set_option maxHeartbeats 8000000 in
theorem FleetCheckTasks_ok  {w : World} {s : Sg} {R : List HP} {x0 : List FleetTask} {a0 : Option Addr} {c0 : Nat} (hS : St w s (R)) (h0 : Sl 6 RFleetTask s a0 c0 x0) {r : Int} (hr : FleetCheckTasks x0 = r) :
    Calls Try.prog 54 [.slice a0 x0.length c0].toArray w (fun e w => e = .returned (.int .i64 r) ∧ St w s (R)) := by
  refine enter Try.func54 rfl rfl rfl fun a hE => ?_
  rw [FleetCheckTasks] at hr
  refine W.seq ?_
  refine W.region ?_
  refine WL.vS hS hE (runs_plain rfl) (Gives.p hE rfl) rfl ?_; clear hE a; intro a hE
  refine WL.nil ?_
  refine W.seq ?_
  refine W.seq ?_
  refine W.region ?_
  refine WL.vS hS hE (runs_plain rfl) (Gives.p hE rfl) rfl ?_; clear hE a; intro a hE
  refine WL.vS hS hE (runs_plain rfl) (Gives.len hE rfl sl32) rfl ?_; clear hE a; intro a hE
  refine WL.vS hS hE (runs_plain rfl) (Gives.p hE rfl) rfl ?_; clear hE a; intro a hE
  refine WL.nil ?_
  refine W.cond hE rfl (fun hc51 => ?_) (fun hc51 => ?_)
  · replace hr := iteT hc51 hr
    refine W.seq ?_
    refine W.region ?_
    refine WL.vS hS hE (runs_plain rfl) (Gives.p hE rfl) rfl ?_; clear hE a; intro a hE
    refine WL.nil ?_
    refine W.ret ?_
    refine finG (fn := Try.f54) (rs := [.tmp 2]) (vs := [_]) hE rfl ⟨rfl, trivial⟩ ?_
    subst hr
    exact ⟨rfl, hS⟩
  · replace hr := iteF hc51 hr
    refine W.skip ?_
    refine W.seq ?_
    refine W.seq ?_
    refine W.region ?_
    refine WL.vS hS hE (runs_plain rfl) (Gives.p hE rfl) rfl ?_; clear hE a; intro a hE
    refine WL.vS hS hE (runs_plain rfl) (Gives.len hE rfl sl32) rfl ?_; clear hE a; intro a hE
    refine WL.vS hS hE (runs_plain rfl) (Gives.p hE rfl) rfl ?_; clear hE a; intro a hE
    refine WL.nil ?_
    obtain ⟨q53, hq52, hr⟩ := bndS hr
    refine W.cut (fun a w => (.next ()) = q53 ∧ Rep a 55 [] ∧ St w s (R)) ?_ ?_
    · refine W.block ?_
      refine W.loop (fun m a w => ∃ (rest56 : List FleetTask) (k54 : Nat), rest56.length = m ∧ x0.drop k54 = rest56 ∧ FleetCheckTasks.loop1 rest56 = q53 ∧ Rep a 55 [(8, .slice a0 x0.length c0), (9, .int .i64 ((x0).length : Int)), (10, .int .i64 ((k54 : Nat) : Int))] ∧ St w s (R)) (m := x0.length) ⟨x0, 0, rfl, rfl, hq52, hE.pick _ ⟨rfl, rfl, rfl, trivial⟩, hS⟩ ?_
      clear hE hS a w hq52; rintro m60 a w ⟨rest56, k54, rfl, hd57, hq52, hE, hS⟩
      refine W.gen fun K63 hK63 => ?_
      rcases rest56 with _ | ⟨x55, rest56⟩
      · have hlt58 := drop_nil hd57
        refine W.seq ?_
        refine W.region ?_
        refine WL.vS hS hE (runs_plain rfl) (Gives.p hE rfl) rfl ?_; clear hE a; intro a hE
        refine WL.nil ?_
        refine W.seq ?_
        refine W.condF hE rfl (decide_eq_false (by omega)) ?_
        subst hK63
        refine W.exit rfl ?_
        exact ⟨hq52, hE.pick _ trivial, hS⟩
      · obtain ⟨hlt58, hx59, hd57⟩ := drop_cons hd57
        rw [FleetCheckTasks.loop1] at hq52
        refine W.seq ?_
        refine W.region ?_
        refine WL.vS hS hE (runs_plain rfl) (Gives.p hE rfl) rfl ?_; clear hE a; intro a hE
        refine WL.nil ?_
        refine W.seq ?_
        refine W.condT hE rfl (decide_eq_true (by omega)) ?_
        refine W.skip ?_
        refine W.seq ?_
        refine W.block ?_
        refine W.seq ?_
        refine W.region ?_
        obtain ⟨cs64, hl65, hR66, hat67⟩ := h0.at hx59
        subst hR66
        refine WL.vS hS hE (runs_plain rfl) (Gives.idx hE k54 rfl rfl sl32 rfl hlt58 (h0.aok hlt58)) rfl ?_; clear hE a; intro a hE
        refine WL.vS hS hE (runs_plain rfl) (Gives.loadA hE rfl (fun w h => hat67 w _ h) ty78) rfl ?_; clear hE a; intro a hE
        refine WL.alloc hE hS (runs_plain rfl) zr78 rfl ?_; clear hE hS a w; intro b68 a w hE hS
        refine WL.storeI hE hS 0 rfl (FleetTask.cells x55) (runs_plain rfl) rfl rfl rfl ty78 rfl rfl rfl rfl ?_; clear hE hS a w; intro a w hE hS
        refine WL.nil ?_
        refine W.block ?_
        refine W.seq ?_
        obtain ⟨q70, hq69, hq52⟩ := bndS hq52
        refine W.cut (fun a w => ∃ (q73 : Bool), q73 = q70 ∧ Rep a 55 [(4, .pointer (some ⟨b68, 0, none⟩)), (8, .slice a0 x0.length c0), (9, .int .i64 ((x0).length : Int)), (10, .int .i64 ((k54 : Nat) : Int)), (14, .bool q73)] ∧ St w s (pt b68 (.cells (FleetTask.cells x55).toArray 78 (0, 0)) :: R)) ?_ ?_
        · refine W.gen fun K74 hK74 => ?_
          refine W.region ?_
          refine WL.vS hS hE (runs_plain rfl) (Gives.fld hE rfl fl78_0) rfl ?_; clear hE a; intro a hE
          refine WL.vS hS hE (runs_plain rfl) (Gives.loadB hE 0 rfl rfl rfl ty3) rfl ?_; clear hE a; intro a hE
          refine WL.fnq hE (Fleetwithin_ok hS  rfl (r := Fleetwithin x55.From 0 11)) (runs_plain rfl) bd37 rfl rfl rfl ?_
          clear hE hS; rintro e w ⟨rfl, hS⟩; refine ⟨_, rfl, ?_⟩; clear a; intro a hE
          refine WL.vS hS hE (runs_plain rfl) (Gives.p hE rfl) rfl ?_; clear hE a; intro a hE
          refine WL.vS hS hE (runs_plain rfl) (Gives.p hE rfl) rfl ?_; clear hE a; intro a hE
          rcases Bool.eq_false_or_eq_true (!(Fleetwithin x55.From 0 11)) with hg75 | hg75
          · replace hq69 := iteT hg75 hq69
            refine WL.no hE (runs_not hE rfl rfl rfl (by rw [hg75]; decide)) rfl ?_; clear hE a; intro a hE
            refine WL.no hE (runs_not hE rfl rfl rfl (by rw [hg75]; decide)) rfl ?_; clear hE a; intro a hE
            refine WL.no hE (runs_not hE rfl rfl rfl (by rw [hg75]; decide)) rfl ?_; clear hE a; intro a hE
            refine WL.no hE (runs_not hE rfl rfl rfl (by rw [hg75]; decide)) rfl ?_; clear hE a; intro a hE
            refine WL.vS hS hE (runs_plain rfl) (Gives.pickT hE rfl hg75 rfl) rfl ?_; clear hE a; intro a hE
            refine WL.vS hS hE (runs_plain rfl) (Gives.p hE rfl) rfl ?_; clear hE a; intro a hE
            refine WL.no hE (runs_not hE rfl rfl rfl (by decide)) rfl ?_; clear hE a; intro a hE
            refine WL.no hE (runs_not hE rfl rfl rfl (by decide)) rfl ?_; clear hE a; intro a hE
            refine WL.no hE (runs_not hE rfl rfl rfl (by decide)) rfl ?_; clear hE a; intro a hE
            refine WL.no hE (runs_not hE rfl rfl rfl (by decide)) rfl ?_; clear hE a; intro a hE
            refine WL.vS hS hE (runs_plain rfl) (Gives.pickT hE rfl rfl rfl) rfl ?_; clear hE a; intro a hE
            refine WL.vS hS hE (runs_plain rfl) (Gives.p hE rfl) rfl ?_; clear hE a; intro a hE
            refine WL.no hE (runs_not hE rfl rfl rfl (by decide)) rfl ?_; clear hE a; intro a hE
            refine WL.no hE (runs_not hE rfl rfl rfl (by decide)) rfl ?_; clear hE a; intro a hE
            refine WL.no hE (runs_not hE rfl rfl rfl (by decide)) rfl ?_; clear hE a; intro a hE
            refine WL.no hE (runs_not hE rfl rfl rfl (by decide)) rfl ?_; clear hE a; intro a hE
            refine WL.vS hS hE (runs_plain rfl) (Gives.pickT hE rfl rfl rfl) rfl ?_; clear hE a; intro a hE
            refine WL.vS hS hE (runs_plain rfl) (Gives.p hE rfl) rfl ?_; clear hE a; intro a hE
            refine WL.nil ?_
            subst hK74
            exact ⟨true, hq69, hE.pick _ ⟨rfl, rfl, rfl, rfl, rfl, trivial⟩, hS⟩
          · replace hq69 := iteF hg75 hq69
            refine WL.vS hS hE (runs_if hE rfl rfl rfl hg75) (Gives.fld hE rfl fl78_1) rfl ?_; clear hE a; intro a hE
            refine WL.vS hS hE (runs_if hE rfl rfl rfl hg75) (Gives.loadB hE 0 rfl rfl rfl ty3) rfl ?_; clear hE a; intro a hE
            refine WL.fnq hE (Fleetwithin_ok hS  rfl (r := Fleetwithin x55.To 0 11)) (runs_if hE rfl rfl rfl hg75) bd37 rfl rfl rfl ?_
            clear hE hS; rintro e w ⟨rfl, hS⟩; refine ⟨_, rfl, ?_⟩; clear a; intro a hE
            refine WL.vS hS hE (runs_if hE rfl rfl rfl hg75) (Gives.p hE rfl) rfl ?_; clear hE a; intro a hE
            refine WL.vS hS hE (runs_plain rfl) (Gives.pickF hE rfl hg75 rfl) rfl ?_; clear hE a; intro a hE
            refine WL.vS hS hE (runs_plain rfl) (Gives.p hE rfl) rfl ?_; clear hE a; intro a hE
            rcases Bool.eq_false_or_eq_true (!(Fleetwithin x55.To 0 11)) with hg76 | hg76
            · replace hq69 := iteT hg76 hq69
              refine WL.no hE (runs_not hE rfl rfl rfl (by rw [hg76]; decide)) rfl ?_; clear hE a; intro a hE
              refine WL.no hE (runs_not hE rfl rfl rfl (by rw [hg76]; decide)) rfl ?_; clear hE a; intro a hE
              refine WL.no hE (runs_not hE rfl rfl rfl (by rw [hg76]; decide)) rfl ?_; clear hE a; intro a hE
              refine WL.no hE (runs_not hE rfl rfl rfl (by rw [hg76]; decide)) rfl ?_; clear hE a; intro a hE
              refine WL.vS hS hE (runs_plain rfl) (Gives.pickT hE rfl hg76 rfl) rfl ?_; clear hE a; intro a hE
              refine WL.vS hS hE (runs_plain rfl) (Gives.p hE rfl) rfl ?_; clear hE a; intro a hE
              refine WL.no hE (runs_not hE rfl rfl rfl (by decide)) rfl ?_; clear hE a; intro a hE
              refine WL.no hE (runs_not hE rfl rfl rfl (by decide)) rfl ?_; clear hE a; intro a hE
              refine WL.no hE (runs_not hE rfl rfl rfl (by decide)) rfl ?_; clear hE a; intro a hE
              refine WL.no hE (runs_not hE rfl rfl rfl (by decide)) rfl ?_; clear hE a; intro a hE
              refine WL.vS hS hE (runs_plain rfl) (Gives.pickT hE rfl rfl rfl) rfl ?_; clear hE a; intro a hE
              refine WL.vS hS hE (runs_plain rfl) (Gives.p hE rfl) rfl ?_; clear hE a; intro a hE
              refine WL.nil ?_
              subst hK74
              exact ⟨true, hq69, hE.pick _ ⟨rfl, rfl, rfl, rfl, rfl, trivial⟩, hS⟩
            · replace hq69 := iteF hg76 hq69
              refine WL.vS hS hE (runs_if hE rfl rfl rfl hg76) (Gives.fld hE rfl fl78_2) rfl ?_; clear hE a; intro a hE
              refine WL.vS hS hE (runs_if hE rfl rfl rfl hg76) (Gives.loadB hE 0 rfl rfl rfl ty3) rfl ?_; clear hE a; intro a hE
              refine WL.fnq hE (Fleetwithin_ok hS  rfl (r := Fleetwithin x55.Dep 0 28800)) (runs_if hE rfl rfl rfl hg76) bd37 rfl rfl rfl ?_
              clear hE hS; rintro e w ⟨rfl, hS⟩; refine ⟨_, rfl, ?_⟩; clear a; intro a hE
              refine WL.vS hS hE (runs_if hE rfl rfl rfl hg76) (Gives.p hE rfl) rfl ?_; clear hE a; intro a hE
              refine WL.vS hS hE (runs_plain rfl) (Gives.pickF hE rfl hg76 rfl) rfl ?_; clear hE a; intro a hE
              refine WL.vS hS hE (runs_plain rfl) (Gives.p hE rfl) rfl ?_; clear hE a; intro a hE
              rcases Bool.eq_false_or_eq_true (!(Fleetwithin x55.Dep 0 28800)) with hg77 | hg77
              · replace hq69 := iteT hg77 hq69
                refine WL.no hE (runs_not hE rfl rfl rfl (by rw [hg77]; decide)) rfl ?_; clear hE a; intro a hE
                refine WL.no hE (runs_not hE rfl rfl rfl (by rw [hg77]; decide)) rfl ?_; clear hE a; intro a hE
                refine WL.no hE (runs_not hE rfl rfl rfl (by rw [hg77]; decide)) rfl ?_; clear hE a; intro a hE
                refine WL.no hE (runs_not hE rfl rfl rfl (by rw [hg77]; decide)) rfl ?_; clear hE a; intro a hE
                refine WL.vS hS hE (runs_plain rfl) (Gives.pickT hE rfl hg77 rfl) rfl ?_; clear hE a; intro a hE
                refine WL.vS hS hE (runs_plain rfl) (Gives.p hE rfl) rfl ?_; clear hE a; intro a hE
                refine WL.nil ?_
                subst hK74
                exact ⟨true, hq69, hE.pick _ ⟨rfl, rfl, rfl, rfl, rfl, trivial⟩, hS⟩
              · replace hq69 := iteF hg77 hq69
                refine WL.vS hS hE (runs_if hE rfl rfl rfl hg77) (Gives.fld hE rfl fl78_3) rfl ?_; clear hE a; intro a hE
                refine WL.vS hS hE (runs_if hE rfl rfl rfl hg77) (Gives.loadB hE 0 rfl rfl rfl ty3) rfl ?_; clear hE a; intro a hE
                refine WL.fnq hE (Fleetwithin_ok hS  rfl (r := Fleetwithin x55.Arr 0 28800)) (runs_if hE rfl rfl rfl hg77) bd37 rfl rfl rfl ?_
                clear hE hS; rintro e w ⟨rfl, hS⟩; refine ⟨_, rfl, ?_⟩; clear a; intro a hE
                refine WL.vS hS hE (runs_if hE rfl rfl rfl hg77) (Gives.p hE rfl) rfl ?_; clear hE a; intro a hE
                refine WL.vS hS hE (runs_plain rfl) (Gives.pickF hE rfl hg77 rfl) rfl ?_; clear hE a; intro a hE
                refine WL.vS hS hE (runs_plain rfl) (Gives.p hE rfl) rfl ?_; clear hE a; intro a hE
                refine WL.nil ?_
                subst hK74
                exact ⟨!(Fleetwithin x55.Arr 0 28800), hq69, hE.pick _ ⟨rfl, rfl, rfl, rfl, rfl, trivial⟩, hS⟩
        · clear hE hS a w; rintro a w ⟨q73, rfl, hE, hS⟩
          refine W.cond hE rfl (fun hc78 => ?_) (fun hc78 => ?_)
          · replace hq52 := iteT hc78 hq52
            refine W.seq ?_
            refine W.region ?_
            refine WL.vS hS hE (runs_plain rfl) (Gives.p hE rfl) rfl ?_; clear hE a; intro a hE
            refine WL.nil ?_
            refine W.ret ?_
            subst hK63
            rw [← hq52] at hr
            dsimp only at hr
            refine finG (fn := Try.f54) (rs := [.tmp 2]) (vs := [_]) hE rfl ⟨rfl, trivial⟩ ?_
            subst hr
            replace hS := hS.tail
            exact ⟨rfl, hS⟩
          · replace hq52 := iteF hc78 hq52
            refine W.seq ?_
            refine W.region ?_
            refine WL.vS hS hE (runs_plain rfl) (Gives.fld hE rfl fl78_3) rfl ?_; clear hE a; intro a hE
            refine WL.vS hS hE (runs_plain rfl) (Gives.loadB hE 0 rfl rfl rfl ty3) rfl ?_; clear hE a; intro a hE
            refine WL.vS hS hE (runs_plain rfl) (Gives.fld hE rfl fl78_2) rfl ?_; clear hE a; intro a hE
            refine WL.vS hS hE (runs_plain rfl) (Gives.loadB hE 0 rfl rfl rfl ty3) rfl ?_; clear hE a; intro a hE
            refine WL.vS hS hE (runs_plain rfl) (Gives.p hE rfl) rfl ?_; clear hE a; intro a hE
            refine WL.vS hS hE (runs_plain rfl) (Gives.p hE rfl) rfl ?_; clear hE a; intro a hE
            refine WL.nil ?_
            refine W.cond hE rfl (fun hc79 => ?_) (fun hc79 => ?_)
            · replace hq52 := iteT hc79 hq52
              refine W.seq ?_
              refine W.region ?_
              refine WL.vS hS hE (runs_plain rfl) (Gives.p hE rfl) rfl ?_; clear hE a; intro a hE
              refine WL.nil ?_
              refine W.ret ?_
              subst hK63
              rw [← hq52] at hr
              dsimp only at hr
              refine finG (fn := Try.f54) (rs := [.tmp 2]) (vs := [_]) hE rfl ⟨rfl, trivial⟩ ?_
              subst hr
              replace hS := hS.tail
              exact ⟨rfl, hS⟩
            · replace hq52 := iteF hc79 hq52
              refine W.seq ?_
              obtain ⟨q81, hq80, hq52⟩ := bndS hq52
              refine W.cut (fun a w => ∃ (q84 : Bool), q84 = q81 ∧ Rep a 55 [(8, .slice a0 x0.length c0), (9, .int .i64 ((x0).length : Int)), (10, .int .i64 ((k54 : Nat) : Int)), (43, .bool q84)] ∧ St w s (pt b68 (.cells (FleetTask.cells x55).toArray 78 (0, 0)) :: R)) ?_ ?_
              · refine W.gen fun K85 hK85 => ?_
                refine W.region ?_
                refine WL.vS hS hE (runs_plain rfl) (Gives.fld hE rfl fl78_4) rfl ?_; clear hE a; intro a hE
                refine WL.vS hS hE (runs_plain rfl) (Gives.loadB hE 0 rfl rfl rfl ty3) rfl ?_; clear hE a; intro a hE
                refine WL.fnq hE (Fleetwithin_ok hS  rfl (r := Fleetwithin x55.Km 0 10000)) (runs_plain rfl) bd37 rfl rfl rfl ?_
                clear hE hS; rintro e w ⟨rfl, hS⟩; refine ⟨_, rfl, ?_⟩; clear a; intro a hE
                refine WL.vS hS hE (runs_plain rfl) (Gives.p hE rfl) rfl ?_; clear hE a; intro a hE
                refine WL.vS hS hE (runs_plain rfl) (Gives.p hE rfl) rfl ?_; clear hE a; intro a hE
                rcases Bool.eq_false_or_eq_true (!(Fleetwithin x55.Km 0 10000)) with hg86 | hg86
                · replace hq80 := iteT hg86 hq80
                  refine WL.no hE (runs_not hE rfl rfl rfl (by rw [hg86]; decide)) rfl ?_; clear hE a; intro a hE
                  refine WL.no hE (runs_not hE rfl rfl rfl (by rw [hg86]; decide)) rfl ?_; clear hE a; intro a hE
                  refine WL.no hE (runs_not hE rfl rfl rfl (by rw [hg86]; decide)) rfl ?_; clear hE a; intro a hE
                  refine WL.no hE (runs_not hE rfl rfl rfl (by rw [hg86]; decide)) rfl ?_; clear hE a; intro a hE
                  refine WL.vS hS hE (runs_plain rfl) (Gives.pickT hE rfl hg86 rfl) rfl ?_; clear hE a; intro a hE
                  refine WL.vS hS hE (runs_plain rfl) (Gives.p hE rfl) rfl ?_; clear hE a; intro a hE
                  refine WL.nil ?_
                  subst hK85
                  exact ⟨true, hq80, hE.pick _ ⟨rfl, rfl, rfl, rfl, trivial⟩, hS⟩
                · replace hq80 := iteF hg86 hq80
                  refine WL.vS hS hE (runs_if hE rfl rfl rfl hg86) (Gives.fld hE rfl fl78_5) rfl ?_; clear hE a; intro a hE
                  refine WL.vS hS hE (runs_if hE rfl rfl rfl hg86) (Gives.loadB hE 0 rfl rfl rfl ty3) rfl ?_; clear hE a; intro a hE
                  refine WL.fnq hE (Fleetwithin_ok hS  rfl (r := Fleetwithin x55.Units 1 4)) (runs_if hE rfl rfl rfl hg86) bd37 rfl rfl rfl ?_
                  clear hE hS; rintro e w ⟨rfl, hS⟩; refine ⟨_, rfl, ?_⟩; clear a; intro a hE
                  refine WL.vS hS hE (runs_if hE rfl rfl rfl hg86) (Gives.p hE rfl) rfl ?_; clear hE a; intro a hE
                  refine WL.vS hS hE (runs_plain rfl) (Gives.pickF hE rfl hg86 rfl) rfl ?_; clear hE a; intro a hE
                  refine WL.vS hS hE (runs_plain rfl) (Gives.p hE rfl) rfl ?_; clear hE a; intro a hE
                  refine WL.nil ?_
                  subst hK85
                  exact ⟨!(Fleetwithin x55.Units 1 4), hq80, hE.pick _ ⟨rfl, rfl, rfl, rfl, trivial⟩, hS⟩
              · clear hE hS a w; rintro a w ⟨q84, rfl, hE, hS⟩
                refine W.cond hE rfl (fun hc87 => ?_) (fun hc87 => ?_)
                · replace hq52 := iteT hc87 hq52
                  refine W.seq ?_
                  refine W.region ?_
                  refine WL.vS hS hE (runs_plain rfl) (Gives.p hE rfl) rfl ?_; clear hE a; intro a hE
                  refine WL.nil ?_
                  refine W.ret ?_
                  subst hK63
                  rw [← hq52] at hr
                  dsimp only at hr
                  refine finG (fn := Try.f54) (rs := [.tmp 2]) (vs := [_]) hE rfl ⟨rfl, trivial⟩ ?_
                  subst hr
                  replace hS := hS.tail
                  exact ⟨rfl, hS⟩
                · replace hq52 := iteF hc87 hq52
                  refine W.skip ?_
                  refine W.region ?_
                  refine WL.vS hS hE (runs_plain rfl) (Gives.inc hE rfl (by have := h0.small; omega)) rfl ?_; clear hE a; intro a hE
                  refine WL.vS hS hE (runs_plain rfl) (Gives.p hE rfl) rfl ?_; clear hE a; intro a hE
                  refine WL.nil ?_
                  replace hS := hS.tail
                  subst hK63
                  exact ⟨rest56.length, Nat.lt_succ_self _, rest56, k54 + 1, rfl, hd57, hq52, hE.pick _ ⟨rfl, rfl, rfl, trivial⟩, hS⟩
    · clear hE hS a w; rintro a w ⟨rfl, hE, hS⟩
      dsimp only at hr
      refine W.seq ?_
      refine W.region ?_
      refine WL.vS hS hE (runs_plain rfl) (Gives.p hE rfl) rfl ?_; clear hE a; intro a hE
      refine WL.nil ?_
      refine W.ret ?_
      refine finG (fn := Try.f54) (rs := [.tmp 2]) (vs := [_]) hE rfl ⟨rfl, trivial⟩ ?_
      subst hr
      exact ⟨rfl, hS⟩
set_option maxHeartbeats 8000000 in
theorem FleetcheckTasks_ok  {w : World} {s : Sg} {R : List HP} {x0 : List FleetTask} {a0 : Option Addr} {c0 : Nat} {x1 : FleetLimits} (hS : St w s (R)) (h0 : Sl 6 RFleetTask s a0 c0 x0) {r : Int} (hr : FleetcheckTasks x0 x1 = r) :
    Calls Try.prog 79 [.slice a0 x0.length c0, .agg (FleetLimits.cells x1).toArray].toArray w (fun e w => e = .returned (.int .i64 r) ∧ St w s (R)) := by
  refine enter Try.func79 rfl rfl rfl fun a hE => ?_
  rw [FleetcheckTasks] at hr
  refine W.seq ?_
  refine W.region ?_
  refine WL.box hE hS (runs_plain rfl) rfl rfl rfl ?_; clear hE hS a w; intro b51 a w hE hS
  refine WL.vS hS hE (runs_plain rfl) (Gives.p hE rfl) rfl ?_; clear hE a; intro a hE
  refine WL.nil ?_
  refine W.seq ?_
  refine W.seq ?_
  refine W.region ?_
  refine WL.vS hS hE (runs_plain rfl) (Gives.p hE rfl) rfl ?_; clear hE a; intro a hE
  refine WL.fnq hE (FleetCheckTasks_ok hS h0 rfl (r := FleetCheckTasks x0)) (runs_plain rfl) bd54 rfl rfl rfl ?_
  clear hE hS; rintro e w ⟨rfl, hS⟩; refine ⟨_, rfl, ?_⟩; clear a; intro a hE
  refine WL.vS hS hE (runs_plain rfl) (Gives.p hE rfl) rfl ?_; clear hE a; intro a hE
  refine WL.nil ?_
  refine W.seq ?_
  refine W.region ?_
  refine WL.vS hS hE (runs_plain rfl) (Gives.p hE rfl) rfl ?_; clear hE a; intro a hE
  refine WL.vS hS hE (runs_plain rfl) (Gives.p hE rfl) rfl ?_; clear hE a; intro a hE
  refine WL.nil ?_
  refine W.cond hE rfl (fun hc52 => ?_) (fun hc52 => ?_)
  · replace hr := iteT hc52 hr
    refine W.seq ?_
    refine W.region ?_
    refine WL.vS hS hE (runs_plain rfl) (Gives.p hE rfl) rfl ?_; clear hE a; intro a hE
    refine WL.vS hS hE (runs_plain rfl) (Gives.p hE rfl) rfl ?_; clear hE a; intro a hE
    refine WL.nil ?_
    refine W.ret ?_
    refine finG (fn := Try.f79) (rs := [.tmp 4]) (vs := [_]) hE rfl ⟨rfl, trivial⟩ ?_
    subst hr
    replace hS := hS.tail
    exact ⟨rfl, hS⟩
  · replace hr := iteF hc52 hr
    refine W.skip ?_
    refine W.seq ?_
    refine W.region ?_
    refine WL.vS hS hE (runs_plain rfl) (Gives.loadBA hE 0 rfl rfl ty24) rfl ?_; clear hE a; intro a hE
    refine WL.fnq hE (FleetCheckLimits_ok hS  rfl (r := FleetCheckLimits x1)) (runs_plain rfl) bd36 rfl rfl rfl ?_
    clear hE hS; rintro e w ⟨rfl, hS⟩; refine ⟨_, rfl, ?_⟩; clear a; intro a hE
    refine WL.vS hS hE (runs_plain rfl) (Gives.p hE rfl) rfl ?_; clear hE a; intro a hE
    refine WL.nil ?_
    refine W.ret ?_
    refine finG (fn := Try.f79) (rs := [.tmp 4]) (vs := [_]) hE rfl ⟨rfl, trivial⟩ ?_
    subst hr
    replace hS := hS.tail
    exact ⟨rfl, hS⟩
set_option maxHeartbeats 8000000 in
theorem SlicesIndexLint_ok  {w : World} {s : Sg} {R : List HP} {x0 : List Int} {a0 : Option Addr} {c0 : Nat} {x1 : Int} (hS : St w s (R)) (h0 : Sl 1 (RI .i64) s a0 c0 x0) {r : Int} (hr : SlicesIndexLint x0 x1 = r) :
    Calls Try.prog 71 [.slice a0 x0.length c0, .int .i64 x1].toArray w (fun e w => e = .returned (.int .i64 r) ∧ St w s (R)) := by
  refine enter Try.func71 rfl rfl rfl fun a hE => ?_
  rw [SlicesIndexLint] at hr
  refine W.seq ?_
  refine W.region ?_
  refine WL.vS hS hE (runs_plain rfl) (Gives.p hE rfl) rfl ?_; clear hE a; intro a hE
  refine WL.nil ?_
  refine W.seq ?_
  refine W.seq ?_
  refine W.region ?_
  refine WL.vS hS hE (runs_plain rfl) (Gives.p hE rfl) rfl ?_; clear hE a; intro a hE
  refine WL.vS hS hE (runs_plain rfl) (Gives.len hE rfl sl44) rfl ?_; clear hE a; intro a hE
  refine WL.vS hS hE (runs_plain rfl) (Gives.p hE rfl) rfl ?_; clear hE a; intro a hE
  refine WL.nil ?_
  obtain ⟨q52, hq51, hr⟩ := bndS hr
  refine W.cut (fun a w => (.next ()) = q52 ∧ Rep a 19 [] ∧ St w s (R)) ?_ ?_
  · refine W.block ?_
    refine W.loop (fun m a w => ∃ (rest55 : List Int) (k53 : Nat), rest55.length = m ∧ x0.drop k53 = rest55 ∧ SlicesIndexLint.loop1 x1 rest55 k53 = q52 ∧ Rep a 19 [(0, .slice a0 x0.length c0), (1, .int .i64 x1), (7, .int .i64 ((x0).length : Int)), (8, .int .i64 ((k53 : Nat) : Int))] ∧ St w s (R)) (m := x0.length) ⟨x0, 0, rfl, rfl, hq51, hE.pick _ ⟨rfl, rfl, rfl, rfl, trivial⟩, hS⟩ ?_
    clear hE hS a w hq51; rintro m59 a w ⟨rest55, k53, rfl, hd56, hq51, hE, hS⟩
    refine W.gen fun K62 hK62 => ?_
    rcases rest55 with _ | ⟨x54, rest55⟩
    · have hlt57 := drop_nil hd56
      refine W.seq ?_
      refine W.region ?_
      refine WL.vS hS hE (runs_plain rfl) (Gives.p hE rfl) rfl ?_; clear hE a; intro a hE
      refine WL.nil ?_
      refine W.seq ?_
      refine W.condF hE rfl (decide_eq_false (by omega)) ?_
      subst hK62
      refine W.exit rfl ?_
      exact ⟨hq51, hE.pick _ trivial, hS⟩
    · obtain ⟨hlt57, hx58, hd56⟩ := drop_cons hd56
      rw [SlicesIndexLint.loop1] at hq51
      refine W.seq ?_
      refine W.region ?_
      refine WL.vS hS hE (runs_plain rfl) (Gives.p hE rfl) rfl ?_; clear hE a; intro a hE
      refine WL.nil ?_
      refine W.seq ?_
      refine W.condT hE rfl (decide_eq_true (by omega)) ?_
      refine W.skip ?_
      refine W.seq ?_
      refine W.block ?_
      refine W.seq ?_
      refine W.region ?_
      refine WL.vS hS hE (runs_plain rfl) (Gives.p hE rfl) rfl ?_; clear hE a; intro a hE
      refine WL.vS hS hE (runs_plain rfl) (Gives.p hE rfl) rfl ?_; clear hE a; intro a hE
      refine WL.nil ?_
      refine W.seq ?_
      refine W.region ?_
      refine WL.vS hS hE (runs_plain rfl) (Gives.p hE rfl) rfl ?_; clear hE a; intro a hE
      refine WL.vS hS hE (runs_plain rfl) (Gives.p hE rfl) rfl ?_; clear hE a; intro a hE
      refine WL.vS hS hE (runs_plain rfl) (Gives.p hE rfl) rfl ?_; clear hE a; intro a hE
      obtain ⟨cs63, hl64, hR65, hat66⟩ := h0.at hx58
      subst hR65
      refine WL.vS hS hE (runs_plain rfl) (Gives.idx hE k53 rfl rfl sl44 rfl hlt57 (h0.aok hlt57)) rfl ?_; clear hE a; intro a hE
      refine WL.vS hS hE (runs_plain rfl) (Gives.load1 hE rfl (fun w h => hat66 w _ h) ty3) rfl ?_; clear hE a; intro a hE
      refine WL.vS hS hE (runs_plain rfl) (Gives.p hE rfl) rfl ?_; clear hE a; intro a hE
      refine WL.nil ?_
      refine W.cond hE rfl (fun hc67 => ?_) (fun hc67 => ?_)
      · replace hq51 := iteT hc67 hq51
        refine W.seq ?_
        refine W.region ?_
        refine WL.vS hS hE (runs_plain rfl) (Gives.p hE rfl) rfl ?_; clear hE a; intro a hE
        refine WL.vS hS hE (runs_plain rfl) (Gives.p hE rfl) rfl ?_; clear hE a; intro a hE
        refine WL.nil ?_
        refine W.ret ?_
        subst hK62
        rw [← hq51] at hr
        dsimp only at hr
        refine finG (fn := Try.f71) (rs := [.tmp 4]) (vs := [_]) hE rfl ⟨rfl, trivial⟩ ?_
        subst hr
        exact ⟨rfl, hS⟩
      · replace hq51 := iteF hc67 hq51
        refine W.skip ?_
        refine W.region ?_
        refine WL.vS hS hE (runs_plain rfl) (Gives.inc hE rfl (by have := h0.small; omega)) rfl ?_; clear hE a; intro a hE
        refine WL.vS hS hE (runs_plain rfl) (Gives.p hE rfl) rfl ?_; clear hE a; intro a hE
        refine WL.nil ?_
        subst hK62
        exact ⟨rest55.length, Nat.lt_succ_self _, rest55, k53 + 1, rfl, hd56, hq51, hE.pick _ ⟨rfl, rfl, rfl, rfl, trivial⟩, hS⟩
  · clear hE hS a w; rintro a w ⟨rfl, hE, hS⟩
    dsimp only at hr
    refine W.seq ?_
    refine W.region ?_
    refine WL.vS hS hE (runs_plain rfl) (Gives.p hE rfl) rfl ?_; clear hE a; intro a hE
    refine WL.nil ?_
    refine W.ret ?_
    refine finG (fn := Try.f71) (rs := [.tmp 4]) (vs := [_]) hE rfl ⟨rfl, trivial⟩ ?_
    subst hr
    exact ⟨rfl, hS⟩
set_option maxHeartbeats 8000000 in
theorem SlicesContainsLint_ok  {w : World} {s : Sg} {R : List HP} {x0 : List Int} {a0 : Option Addr} {c0 : Nat} {x1 : Int} (hS : St w s (R)) (h0 : Sl 1 (RI .i64) s a0 c0 x0) {r : Bool} (hr : SlicesContainsLint x0 x1 = r) :
    Calls Try.prog 24 [.slice a0 x0.length c0, .int .i64 x1].toArray w (fun e w => e = .returned (.bool r) ∧ St w s (R)) := by
  refine enter Try.func24 rfl rfl rfl fun a hE => ?_
  rw [SlicesContainsLint] at hr
  refine W.seq ?_
  refine W.region ?_
  refine WL.vS hS hE (runs_plain rfl) (Gives.p hE rfl) rfl ?_; clear hE a; intro a hE
  refine WL.nil ?_
  refine W.seq ?_
  refine W.region ?_
  refine WL.vS hS hE (runs_plain rfl) (Gives.p hE rfl) rfl ?_; clear hE a; intro a hE
  refine WL.vS hS hE (runs_plain rfl) (Gives.p hE rfl) rfl ?_; clear hE a; intro a hE
  refine WL.fnq hE (SlicesIndexLint_ok hS h0 rfl (r := SlicesIndexLint x0 x1)) (runs_plain rfl) bd71 rfl rfl rfl ?_
  clear hE hS; rintro e w ⟨rfl, hS⟩; refine ⟨_, rfl, ?_⟩; clear a; intro a hE
  refine WL.vS hS hE (runs_plain rfl) (Gives.p hE rfl) rfl ?_; clear hE a; intro a hE
  refine WL.vS hS hE (runs_plain rfl) (Gives.p hE rfl) rfl ?_; clear hE a; intro a hE
  refine WL.nil ?_
  refine W.ret ?_
  refine finG (fn := Try.f24) (rs := [.tmp 4]) (vs := [_]) hE rfl ⟨rfl, trivial⟩ ?_
  subst hr
  exact ⟨rfl, hS⟩
set_option maxHeartbeats 8000000 in
theorem Fleetjudge_1_v1_ok  {w : World} {s : Sg} {R : List HP} {pb0 : Nat} {pb1 : Nat} {pb2 : Nat} {x0 : Int} {y0 : Int} {y1 : FleetLimits} {y2 : Int} (hS : St w s (pt pb0 (.cells #[.int .i64 y0] 3 (0, 0)) :: pt pb1 (.cells #[.int .i64 y1.Change, .int .i64 y1.Long, .int .i64 y1.Work, .int .i64 y1.After, .int .i64 y1.Break, .int .i64 y1.Rest, .int .i64 y1.Row] 24 (0, 0)) :: pt pb2 (.cells #[.int .i64 y2] 3 (0, 0)) :: R))  {r : Int} (hr : Fleetjudge_1_v1 x0 y0 y1 y2 = r) :
    Calls Try.prog 128 [.int .i64 x0, .pointer (some ⟨pb0, 0, none⟩), .pointer (some ⟨pb1, 0, none⟩), .pointer (some ⟨pb2, 0, none⟩)].toArray w (fun e w => e = .returned (.tuple #[]) ∧ St w s (pt pb0 (.cells #[.int .i64 y0] 3 (0, 0)) :: pt pb1 (.cells #[.int .i64 y1.Change, .int .i64 y1.Long, .int .i64 y1.Work, .int .i64 y1.After, .int .i64 y1.Break, .int .i64 y1.Rest, .int .i64 y1.Row] 24 (0, 0)) :: pt pb2 (.cells #[.int .i64 r] 3 (0, 0)) :: R)) := by
  refine enter Try.func128 rfl rfl rfl fun a hE => ?_
  rw [Fleetjudge_1_v1] at hr
  refine W.seq ?_
  refine W.region ?_
  refine WL.vS hS hE (runs_plain rfl) (Gives.p hE rfl) rfl ?_; clear hE a; intro a hE
  refine WL.vS hS hE (runs_plain rfl) (Gives.loadB hE 0 rfl rfl rfl ty3) rfl ?_; clear hE a; intro a hE
  refine WL.vS hS hE (runs_plain rfl) (Gives.p hE rfl) rfl ?_; clear hE a; intro a hE
  refine WL.vS hS hE (runs_plain rfl) (Gives.fld hE rfl fl24_3) rfl ?_; clear hE a; intro a hE
  refine WL.vS hS hE (runs_plain rfl) (Gives.loadB hE 1 rfl rfl rfl ty3) rfl ?_; clear hE a; intro a hE
  refine WL.vS hS hE (runs_plain rfl) (Gives.p hE rfl) rfl ?_; clear hE a; intro a hE
  refine WL.nil ?_
  obtain ⟨q53, hq52, hr⟩ := bndS hr
  refine W.cut (fun a w => ∃ (q56 : Int), q56 = q53 ∧ Rep a 11 [] ∧ St w s (pt pb0 (.cells #[.int .i64 y0] 3 (0, 0)) :: pt pb1 (.cells #[.int .i64 y1.Change, .int .i64 y1.Long, .int .i64 y1.Work, .int .i64 y1.After, .int .i64 y1.Break, .int .i64 y1.Rest, .int .i64 y1.Row] 24 (0, 0)) :: pt pb2 (.cells #[.int .i64 q56] 3 (0, 0)) :: R)) ?_ ?_
  · refine W.gen fun K57 hK57 => ?_
    refine W.cond hE rfl (fun hc58 => ?_) (fun hc58 => ?_)
    · replace hq52 := iteT hc58 hq52
      refine W.region ?_
      refine WL.storeI hE hS 2 rfl [.int .i64 4] (runs_plain rfl) rfl rfl rfl ty3 rfl rfl rfl rfl ?_; clear hE hS a w; intro a w hE hS
      refine WL.nil ?_
      subst hK57
      exact ⟨4, hq52, hE.pick _ trivial, hS⟩
    · replace hq52 := iteF hc58 hq52
      refine W.skip ?_
      subst hK57
      exact ⟨y2, hq52, hE.pick _ trivial, hS⟩
  · clear hE hS a w; rintro a w ⟨q56, rfl, hE, hS⟩
    refine finG (fn := Try.f128) (rs := []) (vs := []) hE rfl trivial ?_
    subst hr
    exact ⟨rfl, hS⟩
set_option maxHeartbeats 8000000 in
theorem Fleetjudge_ok  {w : World} {s : Sg} {R : List HP} {x0 : List FleetTask} {a0 : Option Addr} {c0 : Nat} {x1 : List Int} {a1 : Option Addr} {c1 : Nat} {x2 : FleetLimits} (hS : St w s (R)) (h0 : Sl 6 RFleetTask s a0 c0 x0) (h1 : Sl 1 (RI .i64) s a1 c1 x1) {r : Int} (hr : Fleetjudge x0 x1 x2 = some r) :
    Calls Try.prog 98 [.slice a0 x0.length c0, .slice a1 x1.length c1, .agg (FleetLimits.cells x2).toArray].toArray w (fun e w => e = .returned (.int .i64 r) ∧ St w s (R)) := by
  refine enter Try.func98 rfl rfl rfl fun a hE => ?_
  rw [Fleetjudge] at hr
  refine W.seq ?_
  refine W.region ?_
  refine WL.box hE hS (runs_plain rfl) rfl rfl rfl ?_; clear hE hS a w; intro b51 a w hE hS
  refine WL.vS hS hE (runs_plain rfl) (Gives.p hE rfl) rfl ?_; clear hE a; intro a hE
  refine WL.nil ?_
  refine W.seq ?_
  refine W.gen fun K52 hK52 => ?_
  refine W.regionE (sel (fun w => St w s (pt b51 (.cells (FleetLimits.cells x2).toArray 24 (0, 0)) :: R)) (fun w => St w s (pt b51 (.cells (FleetLimits.cells x2).toArray 24 (0, 0)) :: R))) (fun b i => cond b ([0, 1, 2, 3, 4, 5, 6, 7, 8, 9, 10, 11, 12, 13, 14, 15, 16, 17, 18].contains i) ([0, 1, 2, 3, 4, 5, 6, 7, 8, 9, 10, 11, 12, 13, 14, 15, 16, 17, 18].contains i)) mixed ?_
  replace hS := hS.drew
  refine Rg.takeP (i := 0) hE rfl (by kernel_rfl) (runs_plain rfl) (Gives.p hE rfl) rfl (tw_sel (fun _ => hS) (fun _ => hS)) ?_; clear hE a; intro a hE
  refine Rg.takeP (i := 1) hE rfl (by kernel_rfl) (runs_plain rfl) (Gives.p hE rfl) rfl (tw_sel (fun _ => hS) (fun _ => hS)) ?_; clear hE a; intro a hE
  obtain ⟨x53, hx54, hr⟩ := bindS hr
  obtain ⟨hi55, hlt56, hy57⟩ := gx_some hx54
  obtain ⟨cs58, hl59, hR60, hat61⟩ := h1.at hy57
  subst hR60
  refine Rg.takeP (i := 2) hE rfl (by kernel_rfl) (runs_plain rfl) (Gives.idx hE ((0 : Int)).toNat rfl rfl sl44 hi55 hlt56 (h1.aok hlt56)) rfl (tw_sel (fun _ => hS) (fun _ => hS)) ?_; clear hE a; intro a hE
  have hT := tw_sel (A := fun w => St w s (pt b51 (.cells (FleetLimits.cells x2).toArray 24 (0, 0)) :: R)) (B := fun w => St w s (pt b51 (.cells (FleetLimits.cells x2).toArray 24 (0, 0)) :: R)) (w := _) (x := true) (y := true) (fun _ => hS) (fun _ => hS)
  have hF := hS; replace hS := hS
  refine Rg.take (i := 3) true rfl hE rfl (by kernel_rfl) (runs_plain rfl) (Gives.load1 hE rfl (fun w h => hat61 w _ h) ty3) rfl hT ?_; clear hE a; intro a hE
  replace hS := hF; clear hF hT
  obtain ⟨x62, hx63, hr⟩ := bindS hr
  obtain ⟨hi64, hlt65, hy66⟩ := gx_some hx63
  obtain ⟨cs67, hl68, hR69, hat70⟩ := h0.at hy66
  subst hR69
  refine Rg.takeP (i := 4) hE rfl (by kernel_rfl) (runs_plain rfl) (Gives.idx hE (x53).toNat rfl rfl sl32 hi64 hlt65 (h0.aok hlt65)) rfl (tw_sel (fun _ => hS) (fun _ => hS)) ?_; clear hE a; intro a hE
  have hT := tw_sel (A := fun w => St w s (pt b51 (.cells (FleetLimits.cells x2).toArray 24 (0, 0)) :: R)) (B := fun w => St w s (pt b51 (.cells (FleetLimits.cells x2).toArray 24 (0, 0)) :: R)) (w := _) (x := true) (y := true) (fun _ => hS) (fun _ => hS)
  have hF := hS; replace hS := hS
  refine Rg.take (i := 5) true rfl hE rfl (by kernel_rfl) (runs_plain rfl) (Gives.loadA hE rfl (fun w h => hat70 w _ h) ty78) rfl hT ?_; clear hE a; intro a hE
  replace hS := hF; clear hF hT
  refine Rg.takeP (i := 6) hE rfl (by kernel_rfl) (runs_plain rfl) (Gives.p hE rfl) rfl (tw_sel (fun _ => hS) (fun _ => hS)) ?_; clear hE a; intro a hE
  refine Rg.takeP (i := 7) hE rfl (by kernel_rfl) (runs_plain rfl) (Gives.p hE rfl) rfl (tw_sel (fun _ => hS) (fun _ => hS)) ?_; clear hE a; intro a hE
  refine Rg.takeP (i := 8) hE rfl (by kernel_rfl) (runs_plain rfl) (Gives.p hE rfl) rfl (tw_sel (fun _ => hS) (fun _ => hS)) ?_; clear hE a; intro a hE
  refine Rg.takeP (i := 9) hE rfl (by kernel_rfl) (runs_plain rfl) (Gives.len hE rfl sl44) rfl (tw_sel (fun _ => hS) (fun _ => hS)) ?_; clear hE a; intro a hE
  refine Rg.takeP (i := 10) hE rfl (by kernel_rfl) (runs_plain rfl) (Gives.p hE rfl) rfl (tw_sel (fun _ => hS) (fun _ => hS)) ?_; clear hE a; intro a hE
  obtain ⟨x71, hx72, hr⟩ := bindS hr
  obtain ⟨hi73, hlt74, hy75⟩ := gx_some hx72
  obtain ⟨cs76, hl77, hR78, hat79⟩ := h1.at hy75
  subst hR78
  refine Rg.takeP (i := 11) hE rfl (by kernel_rfl) (runs_plain rfl) (Gives.idx hE (w64 (((x1).length : Int) - 1)).toNat rfl rfl sl44 hi73 hlt74 (h1.aok hlt74)) rfl (tw_sel (fun _ => hS) (fun _ => hS)) ?_; clear hE a; intro a hE
  have hT := tw_sel (A := fun w => St w s (pt b51 (.cells (FleetLimits.cells x2).toArray 24 (0, 0)) :: R)) (B := fun w => St w s (pt b51 (.cells (FleetLimits.cells x2).toArray 24 (0, 0)) :: R)) (w := _) (x := true) (y := true) (fun _ => hS) (fun _ => hS)
  have hF := hS; replace hS := hS
  refine Rg.take (i := 12) true rfl hE rfl (by kernel_rfl) (runs_plain rfl) (Gives.load1 hE rfl (fun w h => hat79 w _ h) ty3) rfl hT ?_; clear hE a; intro a hE
  replace hS := hF; clear hF hT
  obtain ⟨x80, hx81, hr⟩ := bindS hr
  obtain ⟨hi82, hlt83, hy84⟩ := gx_some hx81
  obtain ⟨cs85, hl86, hR87, hat88⟩ := h0.at hy84
  subst hR87
  refine Rg.takeP (i := 13) hE rfl (by kernel_rfl) (runs_plain rfl) (Gives.idx hE (x71).toNat rfl rfl sl32 hi82 hlt83 (h0.aok hlt83)) rfl (tw_sel (fun _ => hS) (fun _ => hS)) ?_; clear hE a; intro a hE
  have hT := tw_sel (A := fun w => St w s (pt b51 (.cells (FleetLimits.cells x2).toArray 24 (0, 0)) :: R)) (B := fun w => St w s (pt b51 (.cells (FleetLimits.cells x2).toArray 24 (0, 0)) :: R)) (w := _) (x := true) (y := true) (fun _ => hS) (fun _ => hS)
  have hF := hS; replace hS := hS
  refine Rg.take (i := 14) true rfl hE rfl (by kernel_rfl) (runs_plain rfl) (Gives.loadA hE rfl (fun w h => hat88 w _ h) ty78) rfl hT ?_; clear hE a; intro a hE
  replace hS := hF; clear hF hT
  suffices key : ∀ b89 b90 (a : Act) (w : World), Sl 6 RFleetTask s a0 c0 x0 → Sl 1 (RI .i64) s a1 c1 x1 → Rep a 121 [(0, .slice a0 x0.length c0), (1, .slice a1 x1.length c1), (5, .pointer (some ⟨b51, 0, none⟩)), (7, .pointer (some ⟨b89, 0, none⟩)), (8, .pointer (some ⟨b90, 0, none⟩))] → St w s (pt b90 (.cells (FleetTask.cells x80).toArray 78 (0, 0)) :: pt b89 (.cells (FleetTask.cells x62).toArray 78 (0, 0)) :: pt b51 (.cells (FleetLimits.cells x2).toArray 24 (0, 0)) :: R) → K52.nor a w by
    refine Rg.many 15 [16] (by kernel_rfl) ⟨?_, ?_, trivial⟩
    · refine Br.mk (i := 15) true true rfl (by kernel_rfl) (by kernel_rfl) ?_
      refine WL.alloc hE hS (runs_plain rfl) zr78 rfl ?_; clear hE hS a w; intro b89 a w hE hS
      refine WL.nil ?_
      refine ⟨⟨fun _ => (hS.tail), fun _ => (hS.tail)⟩, ?_⟩
      refine Rg.one (i := 16) true true rfl (by kernel_rfl) (by kernel_rfl) (by kernel_rfl) ?_
      refine WL.alloc hE hS (runs_plain rfl) zr78 rfl ?_; clear hE hS a w; intro b90 a w hE hS
      refine WL.nil ?_
      refine ⟨⟨fun _ => ((hS.tail).tail), fun _ => ((hS.tail).tail)⟩, ?_⟩
      refine Rg.one (i := 17) true true rfl (by kernel_rfl) (by kernel_rfl) (by kernel_rfl) ?_
      refine WL.storeI hE hS 1 rfl (FleetTask.cells x62) (runs_plain rfl) rfl rfl rfl ty78 rfl rfl rfl rfl ?_; clear hE hS a w; intro a w hE hS
      refine WL.nil ?_
      refine ⟨⟨fun _ => ((hS.tail).tail), fun _ => ((hS.tail).tail)⟩, ?_⟩
      refine Rg.one (i := 18) true true rfl (by kernel_rfl) (by kernel_rfl) (by kernel_rfl) ?_
      refine WL.storeI hE hS 0 rfl (FleetTask.cells x80) (runs_plain rfl) rfl rfl rfl ty78 rfl rfl rfl rfl ?_; clear hE hS a w; intro a w hE hS
      refine WL.nil ?_
      refine ⟨⟨fun _ => ((hS.tail).tail), fun _ => ((hS.tail).tail)⟩, ?_⟩
      refine Rg.done (by kernel_rfl) ?_
      exact key _ _ _ _ h0 h1 (hE.pick _ ⟨rfl, rfl, rfl, rfl, rfl, trivial⟩) hS
    · refine Br.mk (i := 16) true true rfl (by kernel_rfl) (by kernel_rfl) ?_
      refine WL.alloc hE hS (runs_plain rfl) zr78 rfl ?_; clear hE hS a w; intro b90 a w hE hS
      refine WL.nil ?_
      refine ⟨⟨fun _ => (hS.tail), fun _ => (hS.tail)⟩, ?_⟩
      refine Rg.one (i := 15) true true rfl (by kernel_rfl) (by kernel_rfl) (by kernel_rfl) ?_
      refine WL.alloc hE hS (runs_plain rfl) zr78 rfl ?_; clear hE hS a w; intro b89 a w hE hS
      refine WL.nil ?_
      refine ⟨⟨fun _ => ((hS.tail).tail), fun _ => ((hS.tail).tail)⟩, ?_⟩
      refine Rg.one (i := 17) true true rfl (by kernel_rfl) (by kernel_rfl) (by kernel_rfl) ?_
      refine WL.storeI hE hS 0 rfl (FleetTask.cells x62) (runs_plain rfl) rfl rfl rfl ty78 rfl rfl rfl rfl ?_; clear hE hS a w; intro a w hE hS
      refine WL.nil ?_
      refine ⟨⟨fun _ => ((hS.tail).tail), fun _ => ((hS.tail).tail)⟩, ?_⟩
      refine Rg.one (i := 18) true true rfl (by kernel_rfl) (by kernel_rfl) (by kernel_rfl) ?_
      refine WL.storeI hE hS 1 rfl (FleetTask.cells x80) (runs_plain rfl) rfl rfl rfl ty78 rfl rfl rfl rfl ?_; clear hE hS a w; intro a w hE hS
      refine WL.nil ?_
      refine ⟨⟨fun _ => ((hS.tail).tail), fun _ => ((hS.tail).tail)⟩, ?_⟩
      refine Rg.done (by kernel_rfl) ?_
      replace hS := hS.front 2 rfl
      replace hS := hS.front 1 rfl
      replace hS := hS.front 2 rfl
      exact key _ _ _ _ h0 h1 (hE.pick _ ⟨rfl, rfl, rfl, rfl, rfl, trivial⟩) hS
  clear hE hS a w; intro b89 b90 a w h0 h1 hE hS
  subst hK52
  refine W.seq ?_
  refine W.region ?_
  refine WL.alloc hE hS (runs_plain rfl) zr3 rfl ?_; clear hE hS a w; intro b92 a w hE hS
  refine WL.vS hS hE (runs_plain rfl) (Gives.p hE rfl) rfl ?_; clear hE a; intro a hE
  refine WL.storeI hE hS 0 rfl [.int .i64 0] (runs_plain rfl) rfl rfl rfl ty3 rfl rfl rfl rfl ?_; clear hE hS a w; intro a w hE hS
  refine WL.nil ?_
  refine W.seq ?_
  refine W.region ?_
  refine WL.vS hS hE (runs_plain rfl) (Gives.fld hE rfl fl78_2) rfl ?_; clear hE a; intro a hE
  refine WL.vS hS hE (runs_plain rfl) (Gives.loadB hE 2 rfl rfl rfl ty3) rfl ?_; clear hE a; intro a hE
  refine WL.alloc hE hS (runs_plain rfl) zr3 rfl ?_; clear hE hS a w; intro b93 a w hE hS
  refine WL.storeI hE hS 0 rfl [.int .i64 x62.Dep] (runs_plain rfl) rfl rfl rfl ty3 rfl rfl rfl rfl ?_; clear hE hS a w; intro a w hE hS
  refine WL.nil ?_
  refine W.seq ?_
  refine W.region ?_
  refine WL.vS hS hE (runs_plain rfl) (Gives.mkfn hE (vs := [.pointer (some ⟨b93, 0, none⟩), .pointer (some ⟨b51, 0, none⟩), .pointer (some ⟨b92, 0, none⟩)]) rfl) rfl ?_; clear hE a; intro a hE
  refine WL.vS hS hE (runs_plain rfl) (Gives.p hE rfl) rfl ?_; clear hE a; intro a hE
  refine WL.nil ?_
  refine W.seq ?_
  refine W.seq ?_
  refine W.region ?_
  refine WL.vS hS hE (runs_plain rfl) (Gives.p hE rfl) rfl ?_; clear hE a; intro a hE
  refine WL.vS hS hE (runs_plain rfl) (Gives.len hE rfl sl44) rfl ?_; clear hE a; intro a hE
  refine WL.vS hS hE (runs_plain rfl) (Gives.p hE rfl) rfl ?_; clear hE a; intro a hE
  refine WL.nil ?_
  obtain ⟨q95, hq94, hr⟩ := bindS hr
  refine W.cut (fun a w => ∃ (q105 : Int), ∃ (q106 : Int), ∃ (q107 : Int), (.next (q105, q106, q107)) = q95 ∧ Rep a 121 [(5, .pointer (some ⟨b51, 0, none⟩)), (7, .pointer (some ⟨b89, 0, none⟩)), (8, .pointer (some ⟨b90, 0, none⟩)), (9, .int .i64 q105), (10, .pointer (some ⟨b92, 0, none⟩)), (12, .func (.func 128) #[] #[.pointer (some ⟨b93, 0, none⟩), .pointer (some ⟨b51, 0, none⟩), .pointer (some ⟨b92, 0, none⟩)])] ∧ St w s (pt b93 (.cells #[.int .i64 q107] 3 (0, 0)) :: pt b92 (.cells #[.int .i64 q106] 3 (0, 0)) :: pt b90 (.cells (FleetTask.cells x80).toArray 78 (0, 0)) :: pt b89 (.cells (FleetTask.cells x62).toArray 78 (0, 0)) :: pt b51 (.cells (FleetLimits.cells x2).toArray 24 (0, 0)) :: R)) ?_ ?_
  · refine W.block ?_
    refine W.loop (fun m a w => ∃ (rest98 : List Int) (k96 : Nat), ∃ (q105 : Int), ∃ (q106 : Int), ∃ (q107 : Int), rest98.length = m ∧ x1.drop k96 = rest98 ∧ Fleetjudge.loop1 x0 x1 x2 rest98 k96 q105 q106 q107 = some q95 ∧ Rep a 121 [(0, .slice a0 x0.length c0), (1, .slice a1 x1.length c1), (5, .pointer (some ⟨b51, 0, none⟩)), (7, .pointer (some ⟨b89, 0, none⟩)), (8, .pointer (some ⟨b90, 0, none⟩)), (9, .int .i64 q105), (10, .pointer (some ⟨b92, 0, none⟩)), (11, .pointer (some ⟨b93, 0, none⟩)), (12, .func (.func 128) #[] #[.pointer (some ⟨b93, 0, none⟩), .pointer (some ⟨b51, 0, none⟩), .pointer (some ⟨b92, 0, none⟩)]), (35, .slice a1 x1.length c1), (36, .int .i64 ((x1).length : Int)), (37, .int .i64 ((k96 : Nat) : Int))] ∧ St w s (pt b93 (.cells #[.int .i64 q107] 3 (0, 0)) :: pt b92 (.cells #[.int .i64 q106] 3 (0, 0)) :: pt b90 (.cells (FleetTask.cells x80).toArray 78 (0, 0)) :: pt b89 (.cells (FleetTask.cells x62).toArray 78 (0, 0)) :: pt b51 (.cells (FleetLimits.cells x2).toArray 24 (0, 0)) :: R)) (m := x1.length) ⟨x1, 0, 0, 0, x62.Dep, rfl, rfl, hq94, hE.pick _ ⟨rfl, rfl, rfl, rfl, rfl, rfl, rfl, rfl, rfl, rfl, rfl, rfl, trivial⟩, hS⟩ ?_
    clear hE hS a w hq94; rintro m102 a w ⟨rest98, k96, q105, q106, q107, rfl, hd99, hq94, hE, hS⟩
    refine W.gen fun K108 hK108 => ?_
    rcases rest98 with _ | ⟨x97, rest98⟩
    · have hlt100 := drop_nil hd99
      refine W.seq ?_
      refine W.region ?_
      refine WL.vS hS hE (runs_plain rfl) (Gives.p hE rfl) rfl ?_; clear hE a; intro a hE
      refine WL.nil ?_
      refine W.seq ?_
      refine W.condF hE rfl (decide_eq_false (by omega)) ?_
      subst hK108
      refine W.exit rfl ?_
      exact ⟨q105, q106, q107, Option.some.inj hq94, hE.pick _ ⟨rfl, rfl, rfl, rfl, rfl, rfl, trivial⟩, hS⟩
    · obtain ⟨hlt100, hx101, hd99⟩ := drop_cons hd99
      rw [Fleetjudge.loop1] at hq94
      refine W.seq ?_
      refine W.region ?_
      refine WL.vS hS hE (runs_plain rfl) (Gives.p hE rfl) rfl ?_; clear hE a; intro a hE
      refine WL.nil ?_
      refine W.seq ?_
      refine W.condT hE rfl (decide_eq_true (by omega)) ?_
      refine W.skip ?_
      refine W.seq ?_
      refine W.block ?_
      refine W.seq ?_
      refine W.region ?_
      refine WL.vS hS hE (runs_plain rfl) (Gives.p hE rfl) rfl ?_; clear hE a; intro a hE
      obtain ⟨cs109, hl110, hR111, hat112⟩ := h1.at hx101
      subst hR111
      refine WL.vS hS hE (runs_plain rfl) (Gives.idx hE k96 rfl rfl sl44 rfl hlt100 (h1.aok hlt100)) rfl ?_; clear hE a; intro a hE
      refine WL.vS hS hE (runs_plain rfl) (Gives.load1 hE rfl (fun w h => hat112 w _ h) ty3) rfl ?_; clear hE a; intro a hE
      refine WL.vS hS hE (runs_plain rfl) (Gives.p hE rfl) rfl ?_; clear hE a; intro a hE
      refine WL.vS hS hE (runs_plain rfl) (Gives.p hE rfl) rfl ?_; clear hE a; intro a hE
      refine WL.nil ?_
      refine W.seq ?_
      refine W.region ?_
      refine WL.vS hS hE (runs_plain rfl) (Gives.p hE rfl) rfl ?_; clear hE a; intro a hE
      refine WL.vS hS hE (runs_plain rfl) (Gives.p hE rfl) rfl ?_; clear hE a; intro a hE
      obtain ⟨x113, hx114, hq94⟩ := bindS hq94
      obtain ⟨hi115, hlt116, hy117⟩ := gx_some hx114
      obtain ⟨cs118, hl119, hR120, hat121⟩ := h0.at hy117
      subst hR120
      refine WL.vS hS hE (runs_plain rfl) (Gives.idx hE (x97).toNat rfl rfl sl32 hi115 hlt116 (h0.aok hlt116)) rfl ?_; clear hE a; intro a hE
      refine WL.vS hS hE (runs_plain rfl) (Gives.loadA hE rfl (fun w h => hat121 w _ h) ty78) rfl ?_; clear hE a; intro a hE
      refine WL.alloc hE hS (runs_plain rfl) zr78 rfl ?_; clear hE hS a w; intro b122 a w hE hS
      refine WL.storeI hE hS 0 rfl (FleetTask.cells x113) (runs_plain rfl) rfl rfl rfl ty78 rfl rfl rfl rfl ?_; clear hE hS a w; intro a w hE hS
      refine WL.nil ?_
      refine W.seq ?_
      refine W.region ?_
      refine WL.vS hS hE (runs_plain rfl) (Gives.p hE rfl) rfl ?_; clear hE a; intro a hE
      refine WL.vS hS hE (runs_plain rfl) (Gives.fld hE rfl fl78_3) rfl ?_; clear hE a; intro a hE
      refine WL.vS hS hE (runs_plain rfl) (Gives.loadB hE 0 rfl rfl rfl ty3) rfl ?_; clear hE a; intro a hE
      refine WL.vS hS hE (runs_plain rfl) (Gives.fld hE rfl fl78_2) rfl ?_; clear hE a; intro a hE
      refine WL.vS hS hE (runs_plain rfl) (Gives.loadB hE 0 rfl rfl rfl ty3) rfl ?_; clear hE a; intro a hE
      refine WL.vS hS hE (runs_plain rfl) (Gives.p hE rfl) rfl ?_; clear hE a; intro a hE
      refine WL.vS hS hE (runs_plain rfl) (Gives.p hE rfl) rfl ?_; clear hE a; intro a hE
      refine WL.vS hS hE (runs_plain rfl) (Gives.p hE rfl) rfl ?_; clear hE a; intro a hE
      refine WL.nil ?_
      refine W.seq ?_
      refine W.seq ?_
      refine W.region ?_
      refine WL.vS hS hE (runs_plain rfl) (Gives.p hE rfl) rfl ?_; clear hE a; intro a hE
      refine WL.vS hS hE (runs_plain rfl) (Gives.p hE rfl) rfl ?_; clear hE a; intro a hE
      refine WL.nil ?_
      refine W.cond hE rfl (fun hc123 => ?_) (fun hc123 => ?_)
      · replace hq94 := iteT hc123 hq94
        refine W.exit rfl ?_
        refine W.region ?_
        refine WL.vS hS hE (runs_plain rfl) (Gives.inc hE rfl (by have := h1.small; omega)) rfl ?_; clear hE a; intro a hE
        refine WL.vS hS hE (runs_plain rfl) (Gives.p hE rfl) rfl ?_; clear hE a; intro a hE
        refine WL.nil ?_
        replace hS := hS.tail
        subst hK108
        exact ⟨rest98.length, Nat.lt_succ_self _, rest98, k96 + 1, (w64 (q105 + (w64 (x113.Arr - x113.Dep)))), q106, q107, rfl, hd99, hq94, hE.pick _ ⟨rfl, rfl, rfl, rfl, rfl, rfl, rfl, rfl, rfl, rfl, rfl, rfl, trivial⟩, hS⟩
      · replace hq94 := iteF hc123 hq94
        refine W.skip ?_
        refine W.seq ?_
        refine W.region ?_
        refine WL.vS hS hE (runs_plain rfl) (Gives.p hE rfl) rfl ?_; clear hE a; intro a hE
        refine WL.vS hS hE (runs_plain rfl) (Gives.p hE rfl) rfl ?_; clear hE a; intro a hE
        refine WL.vS hS hE (runs_plain rfl) (Gives.p hE rfl) rfl ?_; clear hE a; intro a hE
        refine WL.vS hS hE (runs_plain rfl) (Gives.p hE rfl) rfl ?_; clear hE a; intro a hE
        obtain ⟨x124, hx125, hq94⟩ := bindS hq94
        obtain ⟨hi126, hlt127, hy128⟩ := gx_some hx125
        obtain ⟨cs129, hl130, hR131, hat132⟩ := h1.at hy128
        subst hR131
        refine WL.vS hS hE (runs_plain rfl) (Gives.idx hE (w64 (((k96 : Nat) : Int) - 1)).toNat rfl rfl sl44 hi126 hlt127 (h1.aok hlt127)) rfl ?_; clear hE a; intro a hE
        refine WL.vS hS hE (runs_plain rfl) (Gives.load1 hE rfl (fun w h => hat132 w _ h) ty3) rfl ?_; clear hE a; intro a hE
        obtain ⟨x133, hx134, hq94⟩ := bindS hq94
        obtain ⟨hi135, hlt136, hy137⟩ := gx_some hx134
        obtain ⟨cs138, hl139, hR140, hat141⟩ := h0.at hy137
        subst hR140
        refine WL.vS hS hE (runs_plain rfl) (Gives.idx hE (x124).toNat rfl rfl sl32 hi135 hlt136 (h0.aok hlt136)) rfl ?_; clear hE a; intro a hE
        refine WL.vS hS hE (runs_plain rfl) (Gives.loadA hE rfl (fun w h => hat141 w _ h) ty78) rfl ?_; clear hE a; intro a hE
        refine WL.alloc hE hS (runs_plain rfl) zr78 rfl ?_; clear hE hS a w; intro b142 a w hE hS
        refine WL.storeI hE hS 0 rfl (FleetTask.cells x133) (runs_plain rfl) rfl rfl rfl ty78 rfl rfl rfl rfl ?_; clear hE hS a w; intro a w hE hS
        refine WL.nil ?_
        refine W.seq ?_
        refine W.seq ?_
        obtain ⟨q144, hq143, hq94⟩ := bndS hq94
        refine W.cut (fun a w => ∃ (q147 : Bool), q147 = q144 ∧ Rep a 121 [(0, .slice a0 x0.length c0), (1, .slice a1 x1.length c1), (5, .pointer (some ⟨b51, 0, none⟩)), (7, .pointer (some ⟨b89, 0, none⟩)), (8, .pointer (some ⟨b90, 0, none⟩)), (9, .int .i64 (w64 (q105 + (w64 (x113.Arr - x113.Dep))))), (10, .pointer (some ⟨b92, 0, none⟩)), (11, .pointer (some ⟨b93, 0, none⟩)), (12, .func (.func 128) #[] #[.pointer (some ⟨b93, 0, none⟩), .pointer (some ⟨b51, 0, none⟩), .pointer (some ⟨b92, 0, none⟩)]), (15, .pointer (some ⟨b122, 0, none⟩)), (16, .pointer (some ⟨b142, 0, none⟩)), (35, .slice a1 x1.length c1), (36, .int .i64 ((x1).length : Int)), (37, .int .i64 ((k96 : Nat) : Int)), (77, .bool q147)] ∧ St w s (pt b142 (.cells (FleetTask.cells x133).toArray 78 (0, 0)) :: pt b122 (.cells (FleetTask.cells x113).toArray 78 (0, 0)) :: pt b93 (.cells #[.int .i64 q107] 3 (0, 0)) :: pt b92 (.cells #[.int .i64 q106] 3 (0, 0)) :: pt b90 (.cells (FleetTask.cells x80).toArray 78 (0, 0)) :: pt b89 (.cells (FleetTask.cells x62).toArray 78 (0, 0)) :: pt b51 (.cells (FleetLimits.cells x2).toArray 24 (0, 0)) :: R)) ?_ ?_
        · refine W.gen fun K148 hK148 => ?_
          refine W.region ?_
          refine WL.vS hS hE (runs_plain rfl) (Gives.fld hE rfl fl78_0) rfl ?_; clear hE a; intro a hE
          refine WL.vS hS hE (runs_plain rfl) (Gives.loadB hE 1 rfl rfl rfl ty3) rfl ?_; clear hE a; intro a hE
          refine WL.vS hS hE (runs_plain rfl) (Gives.fld hE rfl fl78_1) rfl ?_; clear hE a; intro a hE
          refine WL.vS hS hE (runs_plain rfl) (Gives.loadB hE 0 rfl rfl rfl ty3) rfl ?_; clear hE a; intro a hE
          refine WL.vS hS hE (runs_plain rfl) (Gives.p hE rfl) rfl ?_; clear hE a; intro a hE
          refine WL.vS hS hE (runs_plain rfl) (Gives.p hE rfl) rfl ?_; clear hE a; intro a hE
          rcases Bool.eq_false_or_eq_true (x113.From != x133.To) with hg149 | hg149
          · replace hq143 := iteT hg149 hq143
            refine WL.no hE (runs_not hE rfl rfl rfl (by rw [hg149]; decide)) rfl ?_; clear hE a; intro a hE
            refine WL.no hE (runs_not hE rfl rfl rfl (by rw [hg149]; decide)) rfl ?_; clear hE a; intro a hE
            refine WL.no hE (runs_not hE rfl rfl rfl (by rw [hg149]; decide)) rfl ?_; clear hE a; intro a hE
            refine WL.no hE (runs_not hE rfl rfl rfl (by rw [hg149]; decide)) rfl ?_; clear hE a; intro a hE
            refine WL.no hE (runs_not hE rfl rfl rfl (by rw [hg149]; decide)) rfl ?_; clear hE a; intro a hE
            refine WL.no hE (runs_not hE rfl rfl rfl (by rw [hg149]; decide)) rfl ?_; clear hE a; intro a hE
            refine WL.no hE (runs_not hE rfl rfl rfl (by rw [hg149]; decide)) rfl ?_; clear hE a; intro a hE
            refine WL.no hE (runs_not hE rfl rfl rfl (by rw [hg149]; decide)) rfl ?_; clear hE a; intro a hE
            refine WL.vS hS hE (runs_plain rfl) (Gives.pickT hE rfl hg149 rfl) rfl ?_; clear hE a; intro a hE
            refine WL.nil ?_
            subst hK148
            exact ⟨true, hq143, hE.pick _ ⟨rfl, rfl, rfl, rfl, rfl, rfl, rfl, rfl, rfl, rfl, rfl, rfl, rfl, rfl, rfl, trivial⟩, hS⟩
          · replace hq143 := iteF hg149 hq143
            refine WL.vS hS hE (runs_if hE rfl rfl rfl hg149) (Gives.fld hE rfl fl78_2) rfl ?_; clear hE a; intro a hE
            refine WL.vS hS hE (runs_if hE rfl rfl rfl hg149) (Gives.loadB hE 1 rfl rfl rfl ty3) rfl ?_; clear hE a; intro a hE
            refine WL.vS hS hE (runs_if hE rfl rfl rfl hg149) (Gives.fld hE rfl fl78_3) rfl ?_; clear hE a; intro a hE
            refine WL.vS hS hE (runs_if hE rfl rfl rfl hg149) (Gives.loadB hE 0 rfl rfl rfl ty3) rfl ?_; clear hE a; intro a hE
            refine WL.vS hS hE (runs_if hE rfl rfl rfl hg149) (Gives.fld hE rfl fl24_0) rfl ?_; clear hE a; intro a hE
            refine WL.vS hS hE (runs_if hE rfl rfl rfl hg149) (Gives.loadB hE 6 rfl rfl rfl ty3) rfl ?_; clear hE a; intro a hE
            refine WL.vS hS hE (runs_if hE rfl rfl rfl hg149) (Gives.p hE rfl) rfl ?_; clear hE a; intro a hE
            refine WL.vS hS hE (runs_if hE rfl rfl rfl hg149) (Gives.p hE rfl) rfl ?_; clear hE a; intro a hE
            refine WL.vS hS hE (runs_plain rfl) (Gives.pickF hE rfl hg149 rfl) rfl ?_; clear hE a; intro a hE
            refine WL.nil ?_
            subst hK148
            exact ⟨decide (x113.Dep < (w64 (x133.Arr + x2.Change))), hq143, hE.pick _ ⟨rfl, rfl, rfl, rfl, rfl, rfl, rfl, rfl, rfl, rfl, rfl, rfl, rfl, rfl, rfl, trivial⟩, hS⟩
        · clear hE hS a w; rintro a w ⟨q147, rfl, hE, hS⟩
          refine W.cond hE rfl (fun hc150 => ?_) (fun hc150 => ?_)
          · replace hq94 := iteT hc150 hq94
            refine W.seq ?_
            refine W.region ?_
            refine WL.vS hS hE (runs_plain rfl) (Gives.p hE rfl) rfl ?_; clear hE a; intro a hE
            refine WL.nil ?_
            refine W.ret ?_
            subst hK108
            rw [← Option.some.inj hq94] at hr
            dsimp only at hr
            refine finG (fn := Try.f98) (rs := [.tmp 6]) (vs := [_]) hE rfl ⟨rfl, trivial⟩ ?_
            obtain rfl := Option.some.inj hr
            replace hS := hS.tail
            replace hS := hS.tail
            replace hS := hS.tail
            replace hS := hS.tail
            replace hS := hS.tail
            replace hS := hS.tail
            replace hS := hS.tail
            exact ⟨rfl, hS⟩
          · replace hq94 := iteF hc150 hq94
            refine W.skip ?_
            refine W.seq ?_
            refine W.region ?_
            refine WL.vS hS hE (runs_plain rfl) (Gives.fld hE rfl fl78_2) rfl ?_; clear hE a; intro a hE
            refine WL.vS hS hE (runs_plain rfl) (Gives.loadB hE 1 rfl rfl rfl ty3) rfl ?_; clear hE a; intro a hE
            refine WL.vS hS hE (runs_plain rfl) (Gives.fld hE rfl fl78_3) rfl ?_; clear hE a; intro a hE
            refine WL.vS hS hE (runs_plain rfl) (Gives.loadB hE 0 rfl rfl rfl ty3) rfl ?_; clear hE a; intro a hE
            refine WL.vS hS hE (runs_plain rfl) (Gives.p hE rfl) rfl ?_; clear hE a; intro a hE
            refine WL.vS hS hE (runs_plain rfl) (Gives.fld hE rfl fl24_4) rfl ?_; clear hE a; intro a hE
            refine WL.vS hS hE (runs_plain rfl) (Gives.loadB hE 6 rfl rfl rfl ty3) rfl ?_; clear hE a; intro a hE
            refine WL.vS hS hE (runs_plain rfl) (Gives.p hE rfl) rfl ?_; clear hE a; intro a hE
            refine WL.nil ?_
            obtain ⟨q152, hq151, hq94⟩ := bndS hq94
            refine W.cut (fun a w => ∃ (q155 : Int), ∃ (q156 : Int), (q155, q156) = q152 ∧ Rep a 121 [(0, .slice a0 x0.length c0), (1, .slice a1 x1.length c1), (5, .pointer (some ⟨b51, 0, none⟩)), (7, .pointer (some ⟨b89, 0, none⟩)), (8, .pointer (some ⟨b90, 0, none⟩)), (9, .int .i64 (w64 (q105 + (w64 (x113.Arr - x113.Dep))))), (10, .pointer (some ⟨b92, 0, none⟩)), (11, .pointer (some ⟨b93, 0, none⟩)), (12, .func (.func 128) #[] #[.pointer (some ⟨b93, 0, none⟩), .pointer (some ⟨b51, 0, none⟩), .pointer (some ⟨b92, 0, none⟩)]), (35, .slice a1 x1.length c1), (36, .int .i64 ((x1).length : Int)), (37, .int .i64 ((k96 : Nat) : Int))] ∧ St w s (pt b142 (.cells (FleetTask.cells x133).toArray 78 (0, 0)) :: pt b122 (.cells (FleetTask.cells x113).toArray 78 (0, 0)) :: pt b93 (.cells #[.int .i64 q156] 3 (0, 0)) :: pt b92 (.cells #[.int .i64 q155] 3 (0, 0)) :: pt b90 (.cells (FleetTask.cells x80).toArray 78 (0, 0)) :: pt b89 (.cells (FleetTask.cells x62).toArray 78 (0, 0)) :: pt b51 (.cells (FleetLimits.cells x2).toArray 24 (0, 0)) :: R)) ?_ ?_
            · refine W.gen fun K157 hK157 => ?_
              refine W.cond hE rfl (fun hc158 => ?_) (fun hc158 => ?_)
              · replace hq151 := iteT hc158 hq151
                refine W.seq ?_
                refine W.region ?_
                refine WL.vS hS hE (runs_plain rfl) (Gives.p hE rfl) rfl ?_; clear hE a; intro a hE
                refine WL.vS hS hE (runs_plain rfl) (Gives.fld hE rfl fl78_3) rfl ?_; clear hE a; intro a hE
                refine WL.vS hS hE (runs_plain rfl) (Gives.loadB hE 0 rfl rfl rfl ty3) rfl ?_; clear hE a; intro a hE
                obtain ⟨q159, hq160, hq151⟩ := bndS hq151
                replace hS := hS.front 3 rfl
                replace hS := hS.front 6 rfl
                replace hS := hS.front 4 rfl
                have hc_ := Fleetjudge_1_v1_ok (y1 := x2) hS  hq160
                refine WL.fnw hE (hc_) rfl (runs_plain rfl) bd128 rfl rfl rfl ?_
                clear hE hS hc_; rintro e w ⟨rfl, hS⟩; refine ⟨_, rfl, ?_⟩; clear a; intro a hE
                refine WL.nil ?_
                refine W.region ?_
                refine WL.vS hS hE (runs_plain rfl) (Gives.fld hE rfl fl78_2) rfl ?_; clear hE a; intro a hE
                refine WL.vS hS hE (runs_plain rfl) (Gives.loadB hE 4 rfl rfl rfl ty3) rfl ?_; clear hE a; intro a hE
                refine WL.storeI hE hS 0 rfl [.int .i64 x113.Dep] (runs_plain rfl) rfl rfl rfl ty3 rfl rfl rfl rfl ?_; clear hE hS a w; intro a w hE hS
                refine WL.nil ?_
                replace hS := hS.front 1 rfl
                replace hS := hS.front 6 rfl
                replace hS := hS.front 6 rfl
                replace hS := hS.front 4 rfl
                replace hS := hS.front 4 rfl
                replace hS := hS.front 6 rfl
                replace hS := hS.front 6 rfl
                subst hK157
                exact ⟨q159, x113.Dep, hq151, hE.pick _ ⟨rfl, rfl, rfl, rfl, rfl, rfl, rfl, rfl, rfl, rfl, rfl, rfl, trivial⟩, hS⟩
              · replace hq151 := iteF hc158 hq151
                refine W.skip ?_
                subst hK157
                exact ⟨q106, q107, hq151, hE.pick _ ⟨rfl, rfl, rfl, rfl, rfl, rfl, rfl, rfl, rfl, rfl, rfl, rfl, trivial⟩, hS⟩
            · clear hE hS a w; rintro a w ⟨q155, q156, rfl, hE, hS⟩
              dsimp only at hq94
              refine W.region ?_
              refine WL.vS hS hE (runs_plain rfl) (Gives.inc hE rfl (by have := h1.small; omega)) rfl ?_; clear hE a; intro a hE
              refine WL.vS hS hE (runs_plain rfl) (Gives.p hE rfl) rfl ?_; clear hE a; intro a hE
              refine WL.nil ?_
              replace hS := hS.tail
              replace hS := hS.tail
              subst hK108
              exact ⟨rest98.length, Nat.lt_succ_self _, rest98, k96 + 1, (w64 (q105 + (w64 (x113.Arr - x113.Dep)))), q155, q156, rfl, hd99, hq94, hE.pick _ ⟨rfl, rfl, rfl, rfl, rfl, rfl, rfl, rfl, rfl, rfl, rfl, rfl, trivial⟩, hS⟩
  · clear hE hS a w; rintro a w ⟨q105, q106, q107, rfl, hE, hS⟩
    dsimp only at hr
    refine W.seq ?_
    refine W.region ?_
    refine WL.vS hS hE (runs_plain rfl) (Gives.p hE rfl) rfl ?_; clear hE a; intro a hE
    refine WL.vS hS hE (runs_plain rfl) (Gives.fld hE rfl fl78_3) rfl ?_; clear hE a; intro a hE
    refine WL.vS hS hE (runs_plain rfl) (Gives.loadB hE 2 rfl rfl rfl ty3) rfl ?_; clear hE a; intro a hE
    obtain ⟨q161, hq162, hr⟩ := bndS hr
    replace hS := hS.front 1 rfl
    replace hS := hS.front 4 rfl
    replace hS := hS.front 2 rfl
    have hc_ := Fleetjudge_1_v1_ok (y1 := x2) hS  hq162
    refine WL.fnw hE (hc_) rfl (runs_plain rfl) bd128 rfl rfl rfl ?_
    clear hE hS hc_; rintro e w ⟨rfl, hS⟩; refine ⟨_, rfl, ?_⟩; clear a; intro a hE
    refine WL.nil ?_
    refine W.seq ?_
    refine W.block ?_
    refine W.seq ?_
    refine W.region ?_
    refine WL.vS hS hE (runs_plain rfl) (Gives.fld hE rfl fl78_3) rfl ?_; clear hE a; intro a hE
    refine WL.vS hS hE (runs_plain rfl) (Gives.loadB hE 3 rfl rfl rfl ty3) rfl ?_; clear hE a; intro a hE
    refine WL.vS hS hE (runs_plain rfl) (Gives.fld hE rfl fl78_2) rfl ?_; clear hE a; intro a hE
    refine WL.vS hS hE (runs_plain rfl) (Gives.loadB hE 4 rfl rfl rfl ty3) rfl ?_; clear hE a; intro a hE
    refine WL.vS hS hE (runs_plain rfl) (Gives.p hE rfl) rfl ?_; clear hE a; intro a hE
    refine WL.vS hS hE (runs_plain rfl) (Gives.fld hE rfl fl24_1) rfl ?_; clear hE a; intro a hE
    refine WL.vS hS hE (runs_plain rfl) (Gives.loadB hE 1 rfl rfl rfl ty3) rfl ?_; clear hE a; intro a hE
    refine WL.vS hS hE (runs_plain rfl) (Gives.p hE rfl) rfl ?_; clear hE a; intro a hE
    refine WL.vS hS hE (runs_plain rfl) (Gives.p hE rfl) rfl ?_; clear hE a; intro a hE
    refine WL.nil ?_
    refine W.cond hE rfl (fun hc163 => ?_) (fun hc163 => ?_)
    · replace hr := iteT hc163 hr
      refine W.seq ?_
      refine W.region ?_
      refine WL.vS hS hE (runs_plain rfl) (Gives.p hE rfl) rfl ?_; clear hE a; intro a hE
      refine WL.nil ?_
      refine W.ret ?_
      refine finG (fn := Try.f98) (rs := [.tmp 6]) (vs := [_]) hE rfl ⟨rfl, trivial⟩ ?_
      obtain rfl := Option.some.inj hr
      replace hS := hS.tail
      replace hS := hS.tail
      replace hS := hS.tail
      replace hS := hS.tail
      replace hS := hS.tail
      exact ⟨rfl, hS⟩
    · replace hr := iteF hc163 hr
      refine W.seq ?_
      refine W.region ?_
      refine WL.vS hS hE (runs_plain rfl) (Gives.p hE rfl) rfl ?_; clear hE a; intro a hE
      refine WL.vS hS hE (runs_plain rfl) (Gives.fld hE rfl fl24_2) rfl ?_; clear hE a; intro a hE
      refine WL.vS hS hE (runs_plain rfl) (Gives.loadB hE 1 rfl rfl rfl ty3) rfl ?_; clear hE a; intro a hE
      refine WL.vS hS hE (runs_plain rfl) (Gives.p hE rfl) rfl ?_; clear hE a; intro a hE
      refine WL.vS hS hE (runs_plain rfl) (Gives.p hE rfl) rfl ?_; clear hE a; intro a hE
      refine WL.nil ?_
      refine W.cond hE rfl (fun hc164 => ?_) (fun hc164 => ?_)
      · replace hr := iteT hc164 hr
        refine W.seq ?_
        refine W.region ?_
        refine WL.vS hS hE (runs_plain rfl) (Gives.p hE rfl) rfl ?_; clear hE a; intro a hE
        refine WL.nil ?_
        refine W.ret ?_
        refine finG (fn := Try.f98) (rs := [.tmp 6]) (vs := [_]) hE rfl ⟨rfl, trivial⟩ ?_
        obtain rfl := Option.some.inj hr
        replace hS := hS.tail
        replace hS := hS.tail
        replace hS := hS.tail
        replace hS := hS.tail
        replace hS := hS.tail
        exact ⟨rfl, hS⟩
      · replace hr := iteF hc164 hr
        refine W.seq ?_
        refine W.region ?_
        refine WL.vS hS hE (runs_plain rfl) (Gives.loadB hE 2 rfl rfl rfl ty3) rfl ?_; clear hE a; intro a hE
        refine WL.vS hS hE (runs_plain rfl) (Gives.p hE rfl) rfl ?_; clear hE a; intro a hE
        refine WL.vS hS hE (runs_plain rfl) (Gives.p hE rfl) rfl ?_; clear hE a; intro a hE
        refine WL.nil ?_
        refine W.cond hE rfl (fun hc165 => ?_) (fun hc165 => ?_)
        · replace hr := iteT hc165 hr
          refine W.seq ?_
          refine W.region ?_
          refine WL.vS hS hE (runs_plain rfl) (Gives.loadB hE 2 rfl rfl rfl ty3) rfl ?_; clear hE a; intro a hE
          refine WL.vS hS hE (runs_plain rfl) (Gives.p hE rfl) rfl ?_; clear hE a; intro a hE
          refine WL.nil ?_
          refine W.ret ?_
          refine finG (fn := Try.f98) (rs := [.tmp 6]) (vs := [_]) hE rfl ⟨rfl, trivial⟩ ?_
          obtain rfl := Option.some.inj hr
          replace hS := hS.tail
          replace hS := hS.tail
          replace hS := hS.tail
          replace hS := hS.tail
          replace hS := hS.tail
          exact ⟨rfl, hS⟩
        · replace hr := iteF hc165 hr
          refine W.seq ?_
          refine W.region ?_
          refine WL.vS hS hE (runs_plain rfl) (Gives.fld hE rfl fl78_1) rfl ?_; clear hE a; intro a hE
          refine WL.vS hS hE (runs_plain rfl) (Gives.loadB hE 3 rfl rfl rfl ty3) rfl ?_; clear hE a; intro a hE
          refine WL.vS hS hE (runs_plain rfl) (Gives.fld hE rfl fl78_0) rfl ?_; clear hE a; intro a hE
          refine WL.vS hS hE (runs_plain rfl) (Gives.loadB hE 4 rfl rfl rfl ty3) rfl ?_; clear hE a; intro a hE
          refine WL.vS hS hE (runs_plain rfl) (Gives.p hE rfl) rfl ?_; clear hE a; intro a hE
          refine WL.vS hS hE (runs_plain rfl) (Gives.p hE rfl) rfl ?_; clear hE a; intro a hE
          refine WL.nil ?_
          refine W.cond hE rfl (fun hc166 => ?_) (fun hc166 => ?_)
          · replace hr := iteT hc166 hr
            refine W.seq ?_
            refine W.region ?_
            refine WL.vS hS hE (runs_plain rfl) (Gives.p hE rfl) rfl ?_; clear hE a; intro a hE
            refine WL.nil ?_
            refine W.ret ?_
            refine finG (fn := Try.f98) (rs := [.tmp 6]) (vs := [_]) hE rfl ⟨rfl, trivial⟩ ?_
            obtain rfl := Option.some.inj hr
            replace hS := hS.tail
            replace hS := hS.tail
            replace hS := hS.tail
            replace hS := hS.tail
            replace hS := hS.tail
            exact ⟨rfl, hS⟩
          · replace hr := iteF hc166 hr
            refine W.skip ?_
            refine W.seq ?_
            refine W.region ?_
            refine WL.vS hS hE (runs_plain rfl) (Gives.p hE rfl) rfl ?_; clear hE a; intro a hE
            refine WL.nil ?_
            refine W.ret ?_
            refine finG (fn := Try.f98) (rs := [.tmp 6]) (vs := [_]) hE rfl ⟨rfl, trivial⟩ ?_
            obtain rfl := Option.some.inj hr
            replace hS := hS.tail
            replace hS := hS.tail
            replace hS := hS.tail
            replace hS := hS.tail
            replace hS := hS.tail
            exact ⟨rfl, hS⟩
set_option maxHeartbeats 8000000 in
theorem FleetJudge_ok  {w : World} {s : Sg} {R : List HP} {x0 : List FleetTask} {a0 : Option Addr} {c0 : Nat} {x1 : List Int} {a1 : Option Addr} {c1 : Nat} {x2 : FleetLimits} (hS : St w s (R)) (h0 : Sl 6 RFleetTask s a0 c0 x0) (h1 : Sl 1 (RI .i64) s a1 c1 x1) {r : Int × Int} (hr : FleetJudge x0 x1 x2 = some r) :
    Calls Try.prog 52 [.slice a0 x0.length c0, .slice a1 x1.length c1, .agg (FleetLimits.cells x2).toArray].toArray w (fun e w => e = .returned (.tuple #[.int .i64 r.1, .int .i64 r.2]) ∧ St w s (R)) := by
  refine enter Try.func52 rfl rfl rfl fun a hE => ?_
  rw [FleetJudge] at hr
  refine W.seq ?_
  refine W.region ?_
  refine WL.box hE hS (runs_plain rfl) rfl rfl rfl ?_; clear hE hS a w; intro b51 a w hE hS
  refine WL.vS hS hE (runs_plain rfl) (Gives.p hE rfl) rfl ?_; clear hE a; intro a hE
  refine WL.vS hS hE (runs_plain rfl) (Gives.p hE rfl) rfl ?_; clear hE a; intro a hE
  refine WL.nil ?_
  refine W.seq ?_
  refine W.seq ?_
  refine W.region ?_
  refine WL.vS hS hE (runs_plain rfl) (Gives.p hE rfl) rfl ?_; clear hE a; intro a hE
  refine WL.vS hS hE (runs_plain rfl) (Gives.loadBA hE 0 rfl rfl ty24) rfl ?_; clear hE a; intro a hE
  refine WL.fnq hE (FleetcheckTasks_ok hS h0 rfl (r := FleetcheckTasks x0 x2)) (runs_plain rfl) bd79 rfl rfl rfl ?_
  clear hE hS; rintro e w ⟨rfl, hS⟩; refine ⟨_, rfl, ?_⟩; clear a; intro a hE
  refine WL.vS hS hE (runs_plain rfl) (Gives.p hE rfl) rfl ?_; clear hE a; intro a hE
  refine WL.nil ?_
  refine W.seq ?_
  refine W.region ?_
  refine WL.vS hS hE (runs_plain rfl) (Gives.p hE rfl) rfl ?_; clear hE a; intro a hE
  refine WL.vS hS hE (runs_plain rfl) (Gives.p hE rfl) rfl ?_; clear hE a; intro a hE
  refine WL.nil ?_
  refine W.cond hE rfl (fun hc52 => ?_) (fun hc52 => ?_)
  · replace hr := iteT hc52 hr
    refine W.seq ?_
    refine W.region ?_
    refine WL.vS hS hE (runs_plain rfl) (Gives.p hE rfl) rfl ?_; clear hE a; intro a hE
    refine WL.vS hS hE (runs_plain rfl) (Gives.p hE rfl) rfl ?_; clear hE a; intro a hE
    refine WL.vS hS hE (runs_plain rfl) (Gives.p hE rfl) rfl ?_; clear hE a; intro a hE
    refine WL.nil ?_
    refine W.ret ?_
    refine finG (fn := Try.f52) (rs := [.tmp 6, .tmp 7]) (vs := [_, _]) hE rfl ⟨rfl, rfl, trivial⟩ ?_
    obtain rfl := Option.some.inj hr
    replace hS := hS.tail
    exact ⟨rfl, hS⟩
  · replace hr := iteF hc52 hr
    refine W.skip ?_
    refine W.seq ?_
    refine W.seq ?_
    refine W.region ?_
    refine WL.vS hS hE (runs_plain rfl) (Gives.p hE rfl) rfl ?_; clear hE a; intro a hE
    refine WL.vS hS hE (runs_plain rfl) (Gives.len hE rfl sl44) rfl ?_; clear hE a; intro a hE
    refine WL.vS hS hE (runs_plain rfl) (Gives.p hE rfl) rfl ?_; clear hE a; intro a hE
    refine WL.nil ?_
    refine W.cond hE rfl (fun hc53 => ?_) (fun hc53 => ?_)
    · replace hr := iteT hc53 hr
      refine W.seq ?_
      refine W.region ?_
      refine WL.vS hS hE (runs_plain rfl) (Gives.p hE rfl) rfl ?_; clear hE a; intro a hE
      refine WL.vS hS hE (runs_plain rfl) (Gives.p hE rfl) rfl ?_; clear hE a; intro a hE
      refine WL.nil ?_
      refine W.ret ?_
      refine finG (fn := Try.f52) (rs := [.tmp 6, .tmp 7]) (vs := [_, _]) hE rfl ⟨rfl, rfl, trivial⟩ ?_
      obtain rfl := Option.some.inj hr
      replace hS := hS.tail
      exact ⟨rfl, hS⟩
    · replace hr := iteF hc53 hr
      refine W.skip ?_
      refine W.seq ?_
      refine W.seq ?_
      refine W.region ?_
      refine WL.vS hS hE (runs_plain rfl) (Gives.p hE rfl) rfl ?_; clear hE a; intro a hE
      refine WL.vS hS hE (runs_plain rfl) (Gives.len hE rfl sl44) rfl ?_; clear hE a; intro a hE
      refine WL.vS hS hE (runs_plain rfl) (Gives.p hE rfl) rfl ?_; clear hE a; intro a hE
      refine WL.nil ?_
      obtain ⟨q55, hq54, hr⟩ := bindS hr
      refine W.cut (fun a w => (.next ()) = q55 ∧ Rep a 45 [(0, .slice a0 x0.length c0), (1, .slice a1 x1.length c1), (5, .pointer (some ⟨b51, 0, none⟩))] ∧ St w s (pt b51 (.cells (FleetLimits.cells x2).toArray 24 (0, 0)) :: R)) ?_ ?_
      · refine W.block ?_
        refine W.loop (fun m a w => ∃ (rest58 : List Int) (k56 : Nat), rest58.length = m ∧ x1.drop k56 = rest58 ∧ FleetJudge.loop1 x0 x1 rest58 k56 = some q55 ∧ Rep a 45 [(0, .slice a0 x0.length c0), (1, .slice a1 x1.length c1), (5, .pointer (some ⟨b51, 0, none⟩)), (20, .slice a1 x1.length c1), (21, .int .i64 ((x1).length : Int)), (22, .int .i64 ((k56 : Nat) : Int))] ∧ St w s (pt b51 (.cells (FleetLimits.cells x2).toArray 24 (0, 0)) :: R)) (m := x1.length) ⟨x1, 0, rfl, rfl, hq54, hE.pick _ ⟨rfl, rfl, rfl, rfl, rfl, rfl, trivial⟩, hS⟩ ?_
        clear hE hS a w hq54; rintro m62 a w ⟨rest58, k56, rfl, hd59, hq54, hE, hS⟩
        refine W.gen fun K65 hK65 => ?_
        rcases rest58 with _ | ⟨x57, rest58⟩
        · have hlt60 := drop_nil hd59
          refine W.seq ?_
          refine W.region ?_
          refine WL.vS hS hE (runs_plain rfl) (Gives.p hE rfl) rfl ?_; clear hE a; intro a hE
          refine WL.nil ?_
          refine W.seq ?_
          refine W.condF hE rfl (decide_eq_false (by omega)) ?_
          subst hK65
          refine W.exit rfl ?_
          exact ⟨Option.some.inj hq54, hE.pick _ ⟨rfl, rfl, rfl, trivial⟩, hS⟩
        · obtain ⟨hlt60, hx61, hd59⟩ := drop_cons hd59
          rw [FleetJudge.loop1] at hq54
          refine W.seq ?_
          refine W.region ?_
          refine WL.vS hS hE (runs_plain rfl) (Gives.p hE rfl) rfl ?_; clear hE a; intro a hE
          refine WL.nil ?_
          refine W.seq ?_
          refine W.condT hE rfl (decide_eq_true (by omega)) ?_
          refine W.skip ?_
          refine W.seq ?_
          refine W.block ?_
          refine W.seq ?_
          refine W.region ?_
          refine WL.vS hS hE (runs_plain rfl) (Gives.p hE rfl) rfl ?_; clear hE a; intro a hE
          obtain ⟨cs66, hl67, hR68, hat69⟩ := h1.at hx61
          subst hR68
          refine WL.vS hS hE (runs_plain rfl) (Gives.idx hE k56 rfl rfl sl44 rfl hlt60 (h1.aok hlt60)) rfl ?_; clear hE a; intro a hE
          refine WL.vS hS hE (runs_plain rfl) (Gives.load1 hE rfl (fun w h => hat69 w _ h) ty3) rfl ?_; clear hE a; intro a hE
          refine WL.vS hS hE (runs_plain rfl) (Gives.p hE rfl) rfl ?_; clear hE a; intro a hE
          refine WL.vS hS hE (runs_plain rfl) (Gives.p hE rfl) rfl ?_; clear hE a; intro a hE
          refine WL.nil ?_
          refine W.block ?_
          refine W.seq ?_
          refine W.region ?_
          refine WL.vS hS hE (runs_plain rfl) (Gives.p hE rfl) rfl ?_; clear hE a; intro a hE
          refine WL.vS hS hE (runs_plain rfl) (Gives.p hE rfl) rfl ?_; clear hE a; intro a hE
          refine WL.vS hS hE (runs_plain rfl) (Gives.len hE rfl sl32) rfl ?_; clear hE a; intro a hE
          refine WL.vS hS hE (runs_plain rfl) (Gives.p hE rfl) rfl ?_; clear hE a; intro a hE
          refine WL.fnq hE (Fleetwithin_ok hS  rfl (r := Fleetwithin x57 0 (w64 (((x0).length : Int) - 1)))) (runs_plain rfl) bd37 rfl rfl rfl ?_
          clear hE hS; rintro e w ⟨rfl, hS⟩; refine ⟨_, rfl, ?_⟩; clear a; intro a hE
          refine WL.vS hS hE (runs_plain rfl) (Gives.p hE rfl) rfl ?_; clear hE a; intro a hE
          refine WL.vS hS hE (runs_plain rfl) (Gives.p hE rfl) rfl ?_; clear hE a; intro a hE
          refine WL.nil ?_
          refine W.cond hE rfl (fun hc70 => ?_) (fun hc70 => ?_)
          · replace hq54 := iteT hc70 hq54
            refine W.seq ?_
            refine W.region ?_
            refine WL.vS hS hE (runs_plain rfl) (Gives.p hE rfl) rfl ?_; clear hE a; intro a hE
            refine WL.vS hS hE (runs_plain rfl) (Gives.p hE rfl) rfl ?_; clear hE a; intro a hE
            refine WL.nil ?_
            refine W.ret ?_
            subst hK65
            rw [← Option.some.inj hq54] at hr
            dsimp only at hr
            refine finG (fn := Try.f52) (rs := [.tmp 6, .tmp 7]) (vs := [_, _]) hE rfl ⟨rfl, rfl, trivial⟩ ?_
            obtain rfl := Option.some.inj hr
            replace hS := hS.tail
            exact ⟨rfl, hS⟩
          · replace hq54 := iteF hc70 hq54
            refine W.seq ?_
            refine W.region ?_
            refine WL.vS hS hE (runs_plain rfl) (Gives.p hE rfl) rfl ?_; clear hE a; intro a hE
            refine WL.vS hS hE (runs_plain rfl) (Gives.p hE rfl) rfl ?_; clear hE a; intro a hE
            obtain ⟨x71, hx72, hq54⟩ := bindS hq54
            obtain ⟨a73, c74, heq75, h76⟩ := h1.cut hx72
            obtain ⟨h77, h78, h79, _⟩ := cutl_some hx72
            refine WL.vS hS hE (runs_plain rfl) (Gives.slH hE sl44 rfl rfl (by omega) (by have := h1.len; omega) heq75) rfl ?_; clear hE a; intro a hE
            refine WL.vS hS hE (runs_plain rfl) (Gives.p hE rfl) rfl ?_; clear hE a; intro a hE
            refine WL.fnq hE (SlicesContainsLint_ok hS h76 rfl (r := SlicesContainsLint x71 x57)) (runs_plain rfl) bd24 rfl rfl rfl ?_
            clear hE hS; rintro e w ⟨rfl, hS⟩; refine ⟨_, rfl, ?_⟩; clear a; intro a hE
            refine WL.vS hS hE (runs_plain rfl) (Gives.p hE rfl) rfl ?_; clear hE a; intro a hE
            refine WL.nil ?_
            refine W.cond hE rfl (fun hc80 => ?_) (fun hc80 => ?_)
            · replace hq54 := iteT hc80 hq54
              refine W.seq ?_
              refine W.region ?_
              refine WL.vS hS hE (runs_plain rfl) (Gives.p hE rfl) rfl ?_; clear hE a; intro a hE
              refine WL.vS hS hE (runs_plain rfl) (Gives.p hE rfl) rfl ?_; clear hE a; intro a hE
              refine WL.nil ?_
              refine W.ret ?_
              subst hK65
              rw [← Option.some.inj hq54] at hr
              dsimp only at hr
              refine finG (fn := Try.f52) (rs := [.tmp 6, .tmp 7]) (vs := [_, _]) hE rfl ⟨rfl, rfl, trivial⟩ ?_
              obtain rfl := Option.some.inj hr
              replace hS := hS.tail
              exact ⟨rfl, hS⟩
            · replace hq54 := iteF hc80 hq54
              refine W.skip ?_
              refine W.region ?_
              refine WL.vS hS hE (runs_plain rfl) (Gives.inc hE rfl (by have := h1.small; omega)) rfl ?_; clear hE a; intro a hE
              refine WL.vS hS hE (runs_plain rfl) (Gives.p hE rfl) rfl ?_; clear hE a; intro a hE
              refine WL.nil ?_
              subst hK65
              exact ⟨rest58.length, Nat.lt_succ_self _, rest58, k56 + 1, rfl, hd59, hq54, hE.pick _ ⟨rfl, rfl, rfl, rfl, rfl, rfl, trivial⟩, hS⟩
      · clear hE hS a w; rintro a w ⟨rfl, hE, hS⟩
        dsimp only at hr
        refine W.seq ?_
        refine W.region ?_
        refine WL.vS hS hE (runs_plain rfl) (Gives.p hE rfl) rfl ?_; clear hE a; intro a hE
        refine WL.vS hS hE (runs_plain rfl) (Gives.p hE rfl) rfl ?_; clear hE a; intro a hE
        refine WL.vS hS hE (runs_plain rfl) (Gives.loadBA hE 0 rfl rfl ty24) rfl ?_; clear hE a; intro a hE
        obtain ⟨q81, hq82, hr⟩ := bindS hr
        have hc_ := Fleetjudge_ok hS h0 h1 hq82
        refine WL.fnq hE (hc_) (runs_plain rfl) bd98 rfl rfl rfl ?_
        clear hE hS hc_; rintro e w ⟨rfl, hS⟩; refine ⟨_, rfl, ?_⟩; clear a; intro a hE
        refine WL.vS hS hE (runs_plain rfl) (Gives.p hE rfl) rfl ?_; clear hE a; intro a hE
        refine WL.vS hS hE (runs_plain rfl) (Gives.p hE rfl) rfl ?_; clear hE a; intro a hE
        refine WL.nil ?_
        refine W.ret ?_
        refine finG (fn := Try.f52) (rs := [.tmp 6, .tmp 7]) (vs := [_, _]) hE rfl ⟨rfl, rfl, trivial⟩ ?_
        obtain rfl := Option.some.inj hr
        replace hS := hS.tail
        exact ⟨rfl, hS⟩
set_option maxHeartbeats 8000000 in
theorem Fishlaw2crews_ok  {w : World} {s : Sg} {R : List HP}  (hS : St w s (R))  {r : Bool} (hr : Fishlaw2crews = some r) :
    Calls Try.prog 12 [].toArray w (fun e w => e = .returned (.bool r) ∧ St w s (R)) := by
  refine enter Try.func12 rfl rfl rfl fun a hE => ?_
  rw [Fishlaw2crews] at hr
  refine W.seq ?_
  refine W.region ?_
  refine WL.vS hS hE (runs_plain rfl) (Gives.p hE rfl) rfl ?_; clear hE a; intro a hE
  refine WL.nil ?_
  refine W.seq ?_
  refine W.region ?_
  refine WL.vS hS hE (runs_plain rfl) (Gives.build hE (vs := [(0, .int .i64 0), (1, .int .i64 1), (2, .int .i64 0), (3, .int .i64 100), (5, .int .i64 1)]) [.int .i64 0, .int .i64 1, .int .i64 0, .int .i64 100, .int .i64 0, .int .i64 1] rfl (by kernel_rfl)) rfl ?_; clear hE a; intro a hE
  refine WL.lit hE hS (e := 78) (es := 6) (vs := [(0, .agg [.int .i64 0, .int .i64 1, .int .i64 0, .int .i64 100, .int .i64 0, .int .i64 1].toArray)]) (cs := [.int .i64 0, .int .i64 1, .int .i64 0, .int .i64 100, .int .i64 0, .int .i64 1]) (runs_plain rfl) rfl (by kernel_rfl) rfl ?_; clear hE hS a w; intro b51 a w hE hS
  replace hS := hS.ptVec (es := 6) (m := 1) rfl (by decide)
  have h53 : Ev 6 RFleetTask s [.int .i64 0, .int .i64 1, .int .i64 0, .int .i64 100, .int .i64 0, .int .i64 1] [(FleetTask.mk 0 1 0 100 0 1)] := (Ev.cons (c1 := [.int .i64 0, .int .i64 1, .int .i64 0, .int .i64 100, .int .i64 0, .int .i64 1]) rfl rfl (Ev.nil))
  have hF := hS.fixD RFleetTask.mono 0 rfl h53 (rfl); clear hS; obtain ⟨s54, hle55, hS, h56⟩ := hF
  refine WL.vS hS hE (runs_plain rfl) (Gives.p hE rfl) rfl ?_; clear hE a; intro a hE
  refine WL.nil ?_
  refine W.seq ?_
  refine W.region ?_
  refine WL.vS hS hE (runs_plain rfl) (Gives.p hE rfl) rfl ?_; clear hE a; intro a hE
  refine WL.lit hE hS (e := 3) (es := 1) (vs := [(0, .int .i64 0)]) (cs := [.int .i64 0]) (runs_plain rfl) rfl (by kernel_rfl) rfl ?_; clear hE hS a w; intro b57 a w hE hS
  replace hS := hS.ptVec (es := 1) (m := 1) rfl (by decide)
  have h59 : Ev 1 (RI .i64) s54 [.int .i64 0] [0] := (Ev.cons (c1 := [.int .i64 0]) rfl rfl (Ev.nil))
  have hF := hS.fixD RI.mono 0 rfl h59 (rfl); clear hS; obtain ⟨s60, hle61, hS, h62⟩ := hF
  replace h56 := Sl.mono RFleetTask.mono hle61 h56
  refine WL.vS hS hE (runs_plain rfl) (Gives.build hE (vs := [(1, .int .i64 100), (2, .int .i64 100), (3, .int .i64 100), (6, .int .i64 1)]) [.int .i64 0, .int .i64 100, .int .i64 100, .int .i64 100, .int .i64 0, .int .i64 0, .int .i64 1] rfl (by kernel_rfl)) rfl ?_; clear hE a; intro a hE
  obtain ⟨q63, hq64, hr⟩ := bindS hr
  have hc_ := FleetJudge_ok hS h56 h62 hq64
  refine WL.fnq hE (hc_) (runs_plain rfl) bd52 rfl rfl rfl ?_
  clear hE hS hc_; rintro e w ⟨rfl, hS⟩; refine ⟨_, rfl, ?_⟩; clear a; intro a hE
  refine WL.vS hS hE (runs_plain rfl) (Gives.p hE rfl) rfl ?_; clear hE a; intro a hE
  refine WL.vS hS hE (runs_plain rfl) (Gives.p hE rfl) rfl ?_; clear hE a; intro a hE
  refine WL.vS hS hE (runs_plain rfl) (Gives.p hE rfl) rfl ?_; clear hE a; intro a hE
  refine WL.vS hS hE (runs_plain rfl) (Gives.p hE rfl) rfl ?_; clear hE a; intro a hE
  refine WL.vS hS hE (runs_plain rfl) (Gives.p hE rfl) rfl ?_; clear hE a; intro a hE
  refine WL.nil ?_
  refine W.seq ?_
  obtain ⟨q66, hq65, hr⟩ := bndS hr
  refine W.cut (fun a w => ∃ (q69 : Bool), q69 = q66 ∧ Rep a 19 [(0, .bool q69)] ∧ St w s60 (R)) ?_ ?_
  · refine W.gen fun K70 hK70 => ?_
    refine W.region ?_
    refine WL.vS hS hE (runs_plain rfl) (Gives.p hE rfl) rfl ?_; clear hE a; intro a hE
    refine WL.vS hS hE (runs_plain rfl) (Gives.p hE rfl) rfl ?_; clear hE a; intro a hE
    refine WL.vS hS hE (runs_plain rfl) (Gives.p hE rfl) rfl ?_; clear hE a; intro a hE
    rcases Bool.eq_false_or_eq_true (q63.2 == 0) with hg71 | hg71
    · replace hq65 := iteT hg71 hq65
      refine WL.vS hS hE (runs_if hE rfl rfl rfl hg71) (Gives.p hE rfl) rfl ?_; clear hE a; intro a hE
      refine WL.vS hS hE (runs_if hE rfl rfl rfl hg71) (Gives.p hE rfl) rfl ?_; clear hE a; intro a hE
      refine WL.vS hS hE (runs_plain rfl) (Gives.pickT hE rfl hg71 rfl) rfl ?_; clear hE a; intro a hE
      refine WL.vS hS hE (runs_plain rfl) (Gives.p hE rfl) rfl ?_; clear hE a; intro a hE
      refine WL.nil ?_
      subst hK70
      exact ⟨(q63.1 == 5), hq65, hE.pick _ ⟨rfl, trivial⟩, hS⟩
    · replace hq65 := iteF hg71 hq65
      refine WL.no hE (runs_not hE rfl rfl rfl (by rw [hg71]; decide)) rfl ?_; clear hE a; intro a hE
      refine WL.no hE (runs_not hE rfl rfl rfl (by rw [hg71]; decide)) rfl ?_; clear hE a; intro a hE
      refine WL.vS hS hE (runs_plain rfl) (Gives.pickF hE rfl hg71 rfl) rfl ?_; clear hE a; intro a hE
      refine WL.vS hS hE (runs_plain rfl) (Gives.p hE rfl) rfl ?_; clear hE a; intro a hE
      refine WL.nil ?_
      subst hK70
      exact ⟨false, hq65, hE.pick _ ⟨rfl, trivial⟩, hS⟩
  · clear hE hS a w; rintro a w ⟨q69, rfl, hE, hS⟩
    refine W.ret ?_
    refine finG (fn := Try.f12) (rs := [.tmp 0]) (vs := [_]) hE rfl ⟨rfl, trivial⟩ ?_
    obtain rfl := Option.some.inj hr
    exact ⟨rfl, (hS.down (Sg.Le.trans hle55 hle61))⟩
set_option maxHeartbeats 8000000 in
theorem SlicesEqualLint_ok  {w : World} {s : Sg} {R : List HP} {x0 : List Int} {a0 : Option Addr} {c0 : Nat} {x1 : List Int} {a1 : Option Addr} {c1 : Nat} (hS : St w s (R)) (h0 : Sl 1 (RI .i64) s a0 c0 x0) (h1 : Sl 1 (RI .i64) s a1 c1 x1) {r : Bool} (hr : SlicesEqualLint x0 x1 = some r) :
    Calls Try.prog 30 [.slice a0 x0.length c0, .slice a1 x1.length c1].toArray w (fun e w => e = .returned (.bool r) ∧ St w s (R)) := by
  refine enter Try.func30 rfl rfl rfl fun a hE => ?_
  rw [SlicesEqualLint] at hr
  refine W.seq ?_
  refine W.region ?_
  refine WL.vS hS hE (runs_plain rfl) (Gives.p hE rfl) rfl ?_; clear hE a; intro a hE
  refine WL.nil ?_
  refine W.seq ?_
  refine W.seq ?_
  refine W.region ?_
  refine WL.vS hS hE (runs_plain rfl) (Gives.p hE rfl) rfl ?_; clear hE a; intro a hE
  refine WL.vS hS hE (runs_plain rfl) (Gives.len hE rfl sl44) rfl ?_; clear hE a; intro a hE
  refine WL.vS hS hE (runs_plain rfl) (Gives.p hE rfl) rfl ?_; clear hE a; intro a hE
  refine WL.vS hS hE (runs_plain rfl) (Gives.len hE rfl sl44) rfl ?_; clear hE a; intro a hE
  refine WL.vS hS hE (runs_plain rfl) (Gives.p hE rfl) rfl ?_; clear hE a; intro a hE
  refine WL.nil ?_
  refine W.cond hE rfl (fun hc51 => ?_) (fun hc51 => ?_)
  · replace hr := iteT hc51 hr
    refine W.seq ?_
    refine W.region ?_
    refine WL.vS hS hE (runs_plain rfl) (Gives.p hE rfl) rfl ?_; clear hE a; intro a hE
    refine WL.nil ?_
    refine W.ret ?_
    refine finG (fn := Try.f30) (rs := [.tmp 4]) (vs := [_]) hE rfl ⟨rfl, trivial⟩ ?_
    obtain rfl := Option.some.inj hr
    exact ⟨rfl, hS⟩
  · replace hr := iteF hc51 hr
    refine W.skip ?_
    refine W.seq ?_
    refine W.seq ?_
    refine W.region ?_
    refine WL.vS hS hE (runs_plain rfl) (Gives.p hE rfl) rfl ?_; clear hE a; intro a hE
    refine WL.vS hS hE (runs_plain rfl) (Gives.len hE rfl sl44) rfl ?_; clear hE a; intro a hE
    refine WL.vS hS hE (runs_plain rfl) (Gives.p hE rfl) rfl ?_; clear hE a; intro a hE
    refine WL.nil ?_
    obtain ⟨q53, hq52, hr⟩ := bindS hr
    refine W.cut (fun a w => (.next ()) = q53 ∧ Rep a 26 [] ∧ St w s (R)) ?_ ?_
    · refine W.block ?_
      refine W.loop (fun m a w => ∃ (rest56 : List Int) (k54 : Nat), rest56.length = m ∧ x0.drop k54 = rest56 ∧ SlicesEqualLint.loop1 x1 rest56 k54 = some q53 ∧ Rep a 26 [(0, .slice a0 x0.length c0), (1, .slice a1 x1.length c1), (12, .int .i64 ((x0).length : Int)), (13, .int .i64 ((k54 : Nat) : Int))] ∧ St w s (R)) (m := x0.length) ⟨x0, 0, rfl, rfl, hq52, hE.pick _ ⟨rfl, rfl, rfl, rfl, trivial⟩, hS⟩ ?_
      clear hE hS a w hq52; rintro m60 a w ⟨rest56, k54, rfl, hd57, hq52, hE, hS⟩
      refine W.gen fun K63 hK63 => ?_
      rcases rest56 with _ | ⟨x55, rest56⟩
      · have hlt58 := drop_nil hd57
        refine W.seq ?_
        refine W.region ?_
        refine WL.vS hS hE (runs_plain rfl) (Gives.p hE rfl) rfl ?_; clear hE a; intro a hE
        refine WL.nil ?_
        refine W.seq ?_
        refine W.condF hE rfl (decide_eq_false (by omega)) ?_
        subst hK63
        refine W.exit rfl ?_
        exact ⟨Option.some.inj hq52, hE.pick _ trivial, hS⟩
      · obtain ⟨hlt58, hx59, hd57⟩ := drop_cons hd57
        rw [SlicesEqualLint.loop1] at hq52
        refine W.seq ?_
        refine W.region ?_
        refine WL.vS hS hE (runs_plain rfl) (Gives.p hE rfl) rfl ?_; clear hE a; intro a hE
        refine WL.nil ?_
        refine W.seq ?_
        refine W.condT hE rfl (decide_eq_true (by omega)) ?_
        refine W.skip ?_
        refine W.seq ?_
        refine W.block ?_
        refine W.seq ?_
        refine W.region ?_
        refine WL.vS hS hE (runs_plain rfl) (Gives.p hE rfl) rfl ?_; clear hE a; intro a hE
        refine WL.vS hS hE (runs_plain rfl) (Gives.p hE rfl) rfl ?_; clear hE a; intro a hE
        refine WL.nil ?_
        refine W.seq ?_
        refine W.regionQ (C := fun w => St w s (R)) mixed (by kernel_rfl) hS.drew ?_
        refine QL.v hE (runs_plain rfl) (Gives.p hE rfl) rfl ?_; clear hE a; intro a hE
        refine QL.v hE (runs_plain rfl) (Gives.p hE rfl) rfl ?_; clear hE a; intro a hE
        obtain ⟨cs64, hl65, hR66, hat67⟩ := h0.at hx59
        subst hR66
        refine QL.v hE (runs_plain rfl) (Gives.idx hE k54 rfl rfl sl44 rfl hlt58 (h0.aok hlt58)) rfl ?_; clear hE a; intro a hE
        refine QL.v hE (runs_plain rfl) (Gives.load1 hE rfl (fun w h => hat67 w _ h) ty3) rfl ?_; clear hE a; intro a hE
        refine QL.v hE (runs_plain rfl) (Gives.p hE rfl) rfl ?_; clear hE a; intro a hE
        refine QL.v hE (runs_plain rfl) (Gives.p hE rfl) rfl ?_; clear hE a; intro a hE
        obtain ⟨x68, hx69, hq52⟩ := bindS hq52
        obtain ⟨hi70, hlt71, hy72⟩ := gx_some hx69
        obtain ⟨cs73, hl74, hR75, hat76⟩ := h1.at hy72
        subst hR75
        refine QL.v hE (runs_plain rfl) (Gives.idx hE (((k54 : Nat) : Int)).toNat rfl rfl sl44 hi70 hlt71 (h1.aok hlt71)) rfl ?_; clear hE a; intro a hE
        refine QL.v hE (runs_plain rfl) (Gives.load1 hE rfl (fun w h => hat76 w _ h) ty3) rfl ?_; clear hE a; intro a hE
        refine QL.v hE (runs_plain rfl) (Gives.p hE rfl) rfl ?_; clear hE a; intro a hE
        refine QL.nil ?_; clear hS w; intro w hS
        refine W.cond hE rfl (fun hc77 => ?_) (fun hc77 => ?_)
        · replace hq52 := iteT hc77 hq52
          refine W.seq ?_
          refine W.region ?_
          refine WL.vS hS hE (runs_plain rfl) (Gives.p hE rfl) rfl ?_; clear hE a; intro a hE
          refine WL.nil ?_
          refine W.ret ?_
          subst hK63
          rw [← Option.some.inj hq52] at hr
          dsimp only at hr
          refine finG (fn := Try.f30) (rs := [.tmp 4]) (vs := [_]) hE rfl ⟨rfl, trivial⟩ ?_
          obtain rfl := Option.some.inj hr
          exact ⟨rfl, hS⟩
        · replace hq52 := iteF hc77 hq52
          refine W.skip ?_
          refine W.region ?_
          refine WL.vS hS hE (runs_plain rfl) (Gives.inc hE rfl (by have := h0.small; omega)) rfl ?_; clear hE a; intro a hE
          refine WL.vS hS hE (runs_plain rfl) (Gives.p hE rfl) rfl ?_; clear hE a; intro a hE
          refine WL.nil ?_
          subst hK63
          exact ⟨rest56.length, Nat.lt_succ_self _, rest56, k54 + 1, rfl, hd57, hq52, hE.pick _ ⟨rfl, rfl, rfl, rfl, trivial⟩, hS⟩
    · clear hE hS a w; rintro a w ⟨rfl, hE, hS⟩
      dsimp only at hr
      refine W.seq ?_
      refine W.region ?_
      refine WL.vS hS hE (runs_plain rfl) (Gives.p hE rfl) rfl ?_; clear hE a; intro a hE
      refine WL.nil ?_
      refine W.ret ?_
      refine finG (fn := Try.f30) (rs := [.tmp 4]) (vs := [_]) hE rfl ⟨rfl, trivial⟩ ?_
      obtain rfl := Option.some.inj hr
      exact ⟨rfl, hS⟩
set_option maxHeartbeats 8000000 in
theorem SlicesEqualFuncLLint_v1_ok  {w : World} {s : Sg} {R : List HP} {x0 : List (List Int)} {a0 : Option Addr} {c0 : Nat} {x1 : List (List Int)} {a1 : Option Addr} {c1 : Nat} (hS : St w s (R)) (h0 : Sl 1 (RL 1 (RI .i64)) s a0 c0 x0) (h1 : Sl 1 (RL 1 (RI .i64)) s a1 c1 x1) {r : Bool} (hr : SlicesEqualFuncLLint_v1 x0 x1 = some r) :
    Calls Try.prog 53 [.slice a0 x0.length c0, .slice a1 x1.length c1, .func (.func 30) #[] #[]].toArray w (fun e w => e = .returned (.bool r) ∧ St w s (R)) := by
  refine enter Try.func53 rfl rfl rfl fun a hE => ?_
  rw [SlicesEqualFuncLLint_v1] at hr
  refine W.seq ?_
  refine W.region ?_
  refine WL.vS hS hE (runs_plain rfl) (Gives.p hE rfl) rfl ?_; clear hE a; intro a hE
  refine WL.nil ?_
  refine W.seq ?_
  refine W.seq ?_
  refine W.region ?_
  refine WL.vS hS hE (runs_plain rfl) (Gives.p hE rfl) rfl ?_; clear hE a; intro a hE
  refine WL.vS hS hE (runs_plain rfl) (Gives.len hE rfl sl25) rfl ?_; clear hE a; intro a hE
  refine WL.vS hS hE (runs_plain rfl) (Gives.p hE rfl) rfl ?_; clear hE a; intro a hE
  refine WL.vS hS hE (runs_plain rfl) (Gives.len hE rfl sl25) rfl ?_; clear hE a; intro a hE
  refine WL.vS hS hE (runs_plain rfl) (Gives.p hE rfl) rfl ?_; clear hE a; intro a hE
  refine WL.nil ?_
  refine W.cond hE rfl (fun hc51 => ?_) (fun hc51 => ?_)
  · replace hr := iteT hc51 hr
    refine W.seq ?_
    refine W.region ?_
    refine WL.vS hS hE (runs_plain rfl) (Gives.p hE rfl) rfl ?_; clear hE a; intro a hE
    refine WL.nil ?_
    refine W.ret ?_
    refine finG (fn := Try.f53) (rs := [.tmp 6]) (vs := [_]) hE rfl ⟨rfl, trivial⟩ ?_
    obtain rfl := Option.some.inj hr
    exact ⟨rfl, hS⟩
  · replace hr := iteF hc51 hr
    refine W.skip ?_
    refine W.seq ?_
    refine W.seq ?_
    refine W.region ?_
    refine WL.vS hS hE (runs_plain rfl) (Gives.p hE rfl) rfl ?_; clear hE a; intro a hE
    refine WL.vS hS hE (runs_plain rfl) (Gives.len hE rfl sl25) rfl ?_; clear hE a; intro a hE
    refine WL.vS hS hE (runs_plain rfl) (Gives.p hE rfl) rfl ?_; clear hE a; intro a hE
    refine WL.nil ?_
    obtain ⟨q53, hq52, hr⟩ := bindS hr
    refine W.cut (fun a w => (.next ()) = q53 ∧ Rep a 32 [] ∧ St w s (R)) ?_ ?_
    · refine W.block ?_
      refine W.loop (fun m a w => ∃ (rest56 : List (List Int)) (k54 : Nat), rest56.length = m ∧ x0.drop k54 = rest56 ∧ SlicesEqualFuncLLint_v1.loop1 x1 rest56 k54 = some q53 ∧ Rep a 32 [(1, .slice a1 x1.length c1), (2, .func (.func 30) #[] #[]), (15, .slice a0 x0.length c0), (16, .int .i64 ((x0).length : Int)), (17, .int .i64 ((k54 : Nat) : Int))] ∧ St w s (R)) (m := x0.length) ⟨x0, 0, rfl, rfl, hq52, hE.pick _ ⟨rfl, rfl, rfl, rfl, rfl, trivial⟩, hS⟩ ?_
      clear hE hS a w hq52; rintro m60 a w ⟨rest56, k54, rfl, hd57, hq52, hE, hS⟩
      refine W.gen fun K63 hK63 => ?_
      rcases rest56 with _ | ⟨x55, rest56⟩
      · have hlt58 := drop_nil hd57
        refine W.seq ?_
        refine W.region ?_
        refine WL.vS hS hE (runs_plain rfl) (Gives.p hE rfl) rfl ?_; clear hE a; intro a hE
        refine WL.nil ?_
        refine W.seq ?_
        refine W.condF hE rfl (decide_eq_false (by omega)) ?_
        subst hK63
        refine W.exit rfl ?_
        exact ⟨Option.some.inj hq52, hE.pick _ trivial, hS⟩
      · obtain ⟨hlt58, hx59, hd57⟩ := drop_cons hd57
        rw [SlicesEqualFuncLLint_v1.loop1] at hq52
        refine W.seq ?_
        refine W.region ?_
        refine WL.vS hS hE (runs_plain rfl) (Gives.p hE rfl) rfl ?_; clear hE a; intro a hE
        refine WL.nil ?_
        refine W.seq ?_
        refine W.condT hE rfl (decide_eq_true (by omega)) ?_
        refine W.skip ?_
        refine W.seq ?_
        refine W.block ?_
        refine W.seq ?_
        refine W.region ?_
        refine WL.vS hS hE (runs_plain rfl) (Gives.p hE rfl) rfl ?_; clear hE a; intro a hE
        obtain ⟨cs64, hl65, hR66, hat67⟩ := h0.at hx59
        obtain ⟨a68, c69, rfl, h70⟩ := hR66
        refine WL.vS hS hE (runs_plain rfl) (Gives.idx hE k54 rfl rfl sl25 rfl hlt58 (h0.aok hlt58)) rfl ?_; clear hE a; intro a hE
        refine WL.vS hS hE (runs_plain rfl) (Gives.load1 hE rfl (fun w h => hat67 w _ h) ty44) rfl ?_; clear hE a; intro a hE
        refine WL.vS hS hE (runs_plain rfl) (Gives.p hE rfl) rfl ?_; clear hE a; intro a hE
        refine WL.vS hS hE (runs_plain rfl) (Gives.p hE rfl) rfl ?_; clear hE a; intro a hE
        refine WL.nil ?_
        refine W.seq ?_
        refine W.region ?_
        refine WL.vS hS hE (runs_plain rfl) (Gives.p hE rfl) rfl ?_; clear hE a; intro a hE
        refine WL.vS hS hE (runs_plain rfl) (Gives.p hE rfl) rfl ?_; clear hE a; intro a hE
        obtain ⟨x71, hx72, hq52⟩ := bindS hq52
        obtain ⟨hi73, hlt74, hy75⟩ := gx_some hx72
        obtain ⟨cs76, hl77, hR78, hat79⟩ := h1.at hy75
        obtain ⟨a80, c81, rfl, h82⟩ := hR78
        refine WL.vS hS hE (runs_plain rfl) (Gives.idx hE (((k54 : Nat) : Int)).toNat rfl rfl sl25 hi73 hlt74 (h1.aok hlt74)) rfl ?_; clear hE a; intro a hE
        refine WL.vS hS hE (runs_plain rfl) (Gives.load1 hE rfl (fun w h => hat79 w _ h) ty44) rfl ?_; clear hE a; intro a hE
        refine WL.vS hS hE (runs_plain rfl) (Gives.p hE rfl) rfl ?_; clear hE a; intro a hE
        refine WL.nil ?_
        refine W.seq ?_
        refine W.region ?_
        refine WL.vS hS hE (runs_plain rfl) (Gives.p hE rfl) rfl ?_; clear hE a; intro a hE
        refine WL.vS hS hE (runs_plain rfl) (Gives.p hE rfl) rfl ?_; clear hE a; intro a hE
        refine WL.vS hS hE (runs_plain rfl) (Gives.p hE rfl) rfl ?_; clear hE a; intro a hE
        obtain ⟨q83, hq84, hq52⟩ := bindS hq52
        have hc_ := SlicesEqualLint_ok hS h70 h82 hq84
        refine WL.fnw hE (hc_) rfl (runs_plain rfl) bd30 rfl rfl rfl ?_
        clear hE hS hc_; rintro e w ⟨rfl, hS⟩; refine ⟨_, rfl, ?_⟩; clear a; intro a hE
        refine WL.vS hS hE (runs_plain rfl) (Gives.p hE rfl) rfl ?_; clear hE a; intro a hE
        refine WL.nil ?_
        refine W.cond hE rfl (fun hc85 => ?_) (fun hc85 => ?_)
        · replace hq52 := iteT hc85 hq52
          refine W.seq ?_
          refine W.region ?_
          refine WL.vS hS hE (runs_plain rfl) (Gives.p hE rfl) rfl ?_; clear hE a; intro a hE
          refine WL.nil ?_
          refine W.ret ?_
          subst hK63
          rw [← Option.some.inj hq52] at hr
          dsimp only at hr
          refine finG (fn := Try.f53) (rs := [.tmp 6]) (vs := [_]) hE rfl ⟨rfl, trivial⟩ ?_
          obtain rfl := Option.some.inj hr
          exact ⟨rfl, hS⟩
        · replace hq52 := iteF hc85 hq52
          refine W.skip ?_
          refine W.region ?_
          refine WL.vS hS hE (runs_plain rfl) (Gives.inc hE rfl (by have := h0.small; omega)) rfl ?_; clear hE a; intro a hE
          refine WL.vS hS hE (runs_plain rfl) (Gives.p hE rfl) rfl ?_; clear hE a; intro a hE
          refine WL.nil ?_
          subst hK63
          exact ⟨rest56.length, Nat.lt_succ_self _, rest56, k54 + 1, rfl, hd57, hq52, hE.pick _ ⟨rfl, rfl, rfl, rfl, rfl, trivial⟩, hS⟩
    · clear hE hS a w; rintro a w ⟨rfl, hE, hS⟩
      dsimp only at hr
      refine W.seq ?_
      refine W.region ?_
      refine WL.vS hS hE (runs_plain rfl) (Gives.p hE rfl) rfl ?_; clear hE a; intro a hE
      refine WL.nil ?_
      refine W.ret ?_
      refine finG (fn := Try.f53) (rs := [.tmp 6]) (vs := [_]) hE rfl ⟨rfl, trivial⟩ ?_
      obtain rfl := Option.some.inj hr
      exact ⟨rfl, hS⟩
set_option maxHeartbeats 8000000 in
theorem Fishlaw2lists_ok  {w : World} {s : Sg} {R : List HP} {x0 : List (List Int)} {a0 : Option Addr} {c0 : Nat} {x1 : List (List Int)} {a1 : Option Addr} {c1 : Nat} (hS : St w s (R)) (h0 : Sl 1 (RL 1 (RI .i64)) s a0 c0 x0) (h1 : Sl 1 (RL 1 (RI .i64)) s a1 c1 x1) {r : Bool} (hr : Fishlaw2lists x0 x1 = some r) :
    Calls Try.prog 13 [.slice a0 x0.length c0, .slice a1 x1.length c1].toArray w (fun e w => e = .returned (.bool r) ∧ St w s (R)) := by
  refine enter Try.func13 rfl rfl rfl fun a hE => ?_
  rw [Fishlaw2lists] at hr
  refine W.seq ?_
  refine W.region ?_
  refine WL.vS hS hE (runs_plain rfl) (Gives.p hE rfl) rfl ?_; clear hE a; intro a hE
  refine WL.nil ?_
  refine W.seq ?_
  refine W.region ?_
  refine WL.vS hS hE (runs_plain rfl) (Gives.p hE rfl) rfl ?_; clear hE a; intro a hE
  refine WL.vS hS hE (runs_plain rfl) (Gives.p hE rfl) rfl ?_; clear hE a; intro a hE
  obtain ⟨q51, hq52, hr⟩ := bindS hr
  have hc_ := SlicesEqualFuncLLint_v1_ok hS h0 h1 hq52
  refine WL.fnq hE (hc_) (runs_plain rfl) bd53 rfl rfl rfl ?_
  clear hE hS hc_; rintro e w ⟨rfl, hS⟩; refine ⟨_, rfl, ?_⟩; clear a; intro a hE
  refine WL.vS hS hE (runs_plain rfl) (Gives.p hE rfl) rfl ?_; clear hE a; intro a hE
  refine WL.nil ?_
  refine W.ret ?_
  refine finG (fn := Try.f13) (rs := [.tmp 4]) (vs := [_]) hE rfl ⟨rfl, trivial⟩ ?_
  obtain rfl := Option.some.inj hr
  exact ⟨rfl, hS⟩
set_option maxHeartbeats 8000000 in
theorem Fishlaw2FleetStands_ok {fu : Nat}  {w : World} {s : Sg} {R : List HP} {x0 : List FleetShift} {a0 : Option Addr} {c0 : Nat} {x1 : List (List Int)} {a1 : Option Addr} {c1 : Nat} {x2 : FleetLimits} {x3 : List FleetAbsence} {a3 : Option Addr} {c3 : Nat} (hS : St w s (R)) (h0 : Sl 3 RFleetShift s a0 c0 x0) (h1 : Sl 1 (RL 1 (RI .i64)) s a1 c1 x1) (h3 : Sl 2 RFleetAbsence s a3 c3 x3) {r : Bool} (hr : Fishlaw2FleetStands fu x0 x1 x2 x3 = some r) :
    Calls Try.prog 9 [.slice a0 x0.length c0, .slice a1 x1.length c1, .agg (FleetLimits.cells x2).toArray, .slice a3 x3.length c3].toArray w (fun e w => e = .returned (.bool r) ∧ St w s (R)) := by
  refine enter Try.func9 rfl rfl rfl fun a hE => ?_
  rw [Fishlaw2FleetStands] at hr
  refine W.seq ?_
  refine W.region ?_
  refine WL.box hE hS (runs_plain rfl) rfl rfl rfl ?_; clear hE hS a w; intro b51 a w hE hS
  refine WL.vS hS hE (runs_plain rfl) (Gives.p hE rfl) rfl ?_; clear hE a; intro a hE
  refine WL.nil ?_
  refine W.seq ?_
  refine W.region ?_
  refine WL.vS hS hE (runs_plain rfl) (Gives.p hE rfl) rfl ?_; clear hE a; intro a hE
  refine WL.vS hS hE (runs_plain rfl) (Gives.p hE rfl) rfl ?_; clear hE a; intro a hE
  refine WL.vS hS hE (runs_plain rfl) (Gives.loadBA hE 0 rfl rfl ty24) rfl ?_; clear hE a; intro a hE
  refine WL.vS hS hE (runs_plain rfl) (Gives.p hE rfl) rfl ?_; clear hE a; intro a hE
  obtain ⟨q52, hq53, hr⟩ := bindS hr
  have hc_ := FleetStandIns_ok hS h0 h1 h3 hq53
  refine WL.fnq hE (hc_) (runs_plain rfl) bd33 rfl rfl rfl ?_
  clear hE hS hc_; rintro e w ⟨a54, c55, a57, c58, s60, rfl, hle61, h56, h59, hS⟩; refine ⟨_, rfl, ?_⟩; clear a; intro a hE
  replace h0 := Sl.mono RFleetShift.mono hle61 h0
  replace h1 := Sl.mono (RL.mono RI.mono) hle61 h1
  replace h3 := Sl.mono RFleetAbsence.mono hle61 h3
  refine WL.vS hS hE (runs_plain rfl) (Gives.p hE rfl) rfl ?_; clear hE a; intro a hE
  refine WL.vS hS hE (runs_plain rfl) (Gives.p hE rfl) rfl ?_; clear hE a; intro a hE
  refine WL.vS hS hE (runs_plain rfl) (Gives.p hE rfl) rfl ?_; clear hE a; intro a hE
  refine WL.vS hS hE (runs_plain rfl) (Gives.p hE rfl) rfl ?_; clear hE a; intro a hE
  refine WL.vS hS hE (runs_plain rfl) (Gives.p hE rfl) rfl ?_; clear hE a; intro a hE
  refine WL.vS hS hE (runs_plain rfl) (Gives.p hE rfl) rfl ?_; clear hE a; intro a hE
  refine WL.vS hS hE (runs_plain rfl) (Gives.p hE rfl) rfl ?_; clear hE a; intro a hE
  refine WL.nil ?_
  refine W.seq ?_
  refine W.region ?_
  refine WL.vS hS hE (runs_plain rfl) (Gives.p hE rfl) rfl ?_; clear hE a; intro a hE
  refine WL.vS hS hE (runs_plain rfl) (Gives.p hE rfl) rfl ?_; clear hE a; intro a hE
  refine WL.vS hS hE (runs_plain rfl) (Gives.loadBA hE 0 rfl rfl ty24) rfl ?_; clear hE a; intro a hE
  refine WL.vS hS hE (runs_plain rfl) (Gives.p hE rfl) rfl ?_; clear hE a; intro a hE
  obtain ⟨q62, hq63, hr⟩ := bindS hr
  have hc_ := Fishref2StandInsOf_ok hS h0 h1 h3 hq63
  refine WL.fnq hE (hc_) (runs_plain rfl) bd34 rfl rfl rfl ?_
  clear hE hS hc_; rintro e w ⟨a64, c65, a67, c68, n69, cs70, s73, rfl, hle74, h66, h71, rfl, hS⟩; refine ⟨_, rfl, ?_⟩; clear a; intro a hE
  replace h0 := Sl.mono RFleetShift.mono hle74 h0
  replace h1 := Sl.mono (RL.mono RI.mono) hle74 h1
  replace h3 := Sl.mono RFleetAbsence.mono hle74 h3
  replace h56 := Sl.mono (RL.mono RI.mono) hle74 h56
  replace h59 := Sl.mono RI.mono hle74 h59
  refine WL.vS hS hE (runs_plain rfl) (Gives.p hE rfl) rfl ?_; clear hE a; intro a hE
  refine WL.vS hS hE (runs_plain rfl) (Gives.p hE rfl) rfl ?_; clear hE a; intro a hE
  refine WL.vS hS hE (runs_plain rfl) (Gives.p hE rfl) rfl ?_; clear hE a; intro a hE
  refine WL.vS hS hE (runs_plain rfl) (Gives.p hE rfl) rfl ?_; clear hE a; intro a hE
  refine WL.vS hS hE (runs_plain rfl) (Gives.p hE rfl) rfl ?_; clear hE a; intro a hE
  refine WL.vS hS hE (runs_plain rfl) (Gives.p hE rfl) rfl ?_; clear hE a; intro a hE
  refine WL.vS hS hE (runs_plain rfl) (Gives.p hE rfl) rfl ?_; clear hE a; intro a hE
  refine WL.nil ?_
  refine W.seq ?_
  obtain ⟨q76, hq75, hr⟩ := bindS hr
  refine W.cut (fun a w => ∃ (q79 : Bool), q79 = q76 ∧ Rep a 49 [(8, .bool q79)] ∧ St w s73 (pt b51 (.cells (FleetLimits.cells x2).toArray 24 (0, 0)) :: R)) ?_ ?_
  · refine W.gen fun K80 hK80 => ?_
    refine W.region ?_
    obtain ⟨q81, hq82, hq75⟩ := bindS hq75
    have hc_ := Fishlaw2crews_ok hS  hq82
    refine WL.fnq hE (hc_) (runs_plain rfl) bd12 rfl rfl rfl ?_
    clear hE hS hc_; rintro e w ⟨rfl, hS⟩; refine ⟨_, rfl, ?_⟩; clear a; intro a hE
    refine WL.vS hS hE (runs_plain rfl) (Gives.p hE rfl) rfl ?_; clear hE a; intro a hE
    rcases Bool.eq_false_or_eq_true q81 with hg83 | hg83
    · replace hq75 := iteT hg83 hq75
      refine WL.vS hS hE (runs_if hE rfl rfl rfl hg83) (Gives.p hE rfl) rfl ?_; clear hE a; intro a hE
      refine WL.vS hS hE (runs_if hE rfl rfl rfl hg83) (Gives.p hE rfl) rfl ?_; clear hE a; intro a hE
      refine WL.vS hS hE (runs_if hE rfl rfl rfl hg83) (Gives.p hE rfl) rfl ?_; clear hE a; intro a hE
      refine WL.vS hS hE (runs_plain rfl) (Gives.pickT hE rfl hg83 rfl) rfl ?_; clear hE a; intro a hE
      refine WL.vS hS hE (runs_plain rfl) (Gives.p hE rfl) rfl ?_; clear hE a; intro a hE
      rcases Bool.eq_false_or_eq_true (q52.2.2 == q62.2.2) with hg84 | hg84
      · replace hq75 := iteT hg84 hq75
        refine WL.vS hS hE (runs_if hE rfl rfl rfl hg84) (Gives.p hE rfl) rfl ?_; clear hE a; intro a hE
        refine WL.vS hS hE (runs_if hE rfl rfl rfl hg84) (Gives.p hE rfl) rfl ?_; clear hE a; intro a hE
        obtain ⟨q85, hq86, hq75⟩ := bindS hq75
        have hc_ := Fishlaw2lists_ok hS h56 h66 hq86
        refine WL.fnq hE (hc_) (runs_if hE rfl rfl rfl hg84) bd13 rfl rfl rfl ?_
        clear hE hS hc_; rintro e w ⟨rfl, hS⟩; refine ⟨_, rfl, ?_⟩; clear a; intro a hE
        refine WL.vS hS hE (runs_plain rfl) (Gives.pickT hE rfl hg84 rfl) rfl ?_; clear hE a; intro a hE
        refine WL.vS hS hE (runs_plain rfl) (Gives.p hE rfl) rfl ?_; clear hE a; intro a hE
        rcases Bool.eq_false_or_eq_true q85 with hg87 | hg87
        · replace hq75 := iteT hg87 hq75
          refine WL.vS hS hE (runs_if hE rfl rfl rfl hg87) (Gives.p hE rfl) rfl ?_; clear hE a; intro a hE
          refine WL.vS hS hE (runs_if hE rfl rfl rfl hg87) (Gives.p hE rfl) rfl ?_; clear hE a; intro a hE
          obtain ⟨q88, hq89, hq75⟩ := bindS hq75
          have hF := hS.lendV RI.mono 0 rfl h71 rfl; clear hS; obtain ⟨t90, hle91, hS, hs92, bk93⟩ := hF
          have hc_ := SlicesEqualLint_ok hS (Sl.mono RI.mono hle91 h59) hs92 hq89
          refine WL.fnq hE (hc_) (runs_if hE rfl rfl rfl hg87) bd30 rfl rfl rfl ?_
          clear hE hS hc_; rintro e w ⟨rfl, hS⟩; refine ⟨_, rfl, ?_⟩; clear a; intro a hE
          replace hS := bk93 _ _ hS
          refine WL.vS hS hE (runs_plain rfl) (Gives.pickT hE rfl hg87 rfl) rfl ?_; clear hE a; intro a hE
          refine WL.vS hS hE (runs_plain rfl) (Gives.p hE rfl) rfl ?_; clear hE a; intro a hE
          refine WL.nil ?_
          replace hS := hS.tail
          subst hK80
          exact ⟨q88, Option.some.inj hq75, hE.pick _ ⟨rfl, trivial⟩, hS⟩
        · replace hq75 := iteF hg87 hq75
          refine WL.no hE (runs_not hE rfl rfl rfl (by rw [hg87]; decide)) rfl ?_; clear hE a; intro a hE
          refine WL.no hE (runs_not hE rfl rfl rfl (by rw [hg87]; decide)) rfl ?_; clear hE a; intro a hE
          refine WL.no hE (runs_not hE rfl rfl rfl (by rw [hg87]; decide)) rfl ?_; clear hE a; intro a hE
          refine WL.vS hS hE (runs_plain rfl) (Gives.pickF hE rfl hg87 rfl) rfl ?_; clear hE a; intro a hE
          refine WL.vS hS hE (runs_plain rfl) (Gives.p hE rfl) rfl ?_; clear hE a; intro a hE
          refine WL.nil ?_
          replace hS := hS.tail
          subst hK80
          exact ⟨false, Option.some.inj hq75, hE.pick _ ⟨rfl, trivial⟩, hS⟩
      · replace hq75 := iteF hg84 hq75
        refine WL.no hE (runs_not hE rfl rfl rfl (by rw [hg84]; decide)) rfl ?_; clear hE a; intro a hE
        refine WL.no hE (runs_not hE rfl rfl rfl (by rw [hg84]; decide)) rfl ?_; clear hE a; intro a hE
        refine WL.no hE (runs_not hE rfl rfl rfl (by rw [hg84]; decide)) rfl ?_; clear hE a; intro a hE
        refine WL.vS hS hE (runs_plain rfl) (Gives.pickF hE rfl hg84 rfl) rfl ?_; clear hE a; intro a hE
        refine WL.vS hS hE (runs_plain rfl) (Gives.p hE rfl) rfl ?_; clear hE a; intro a hE
        refine WL.no hE (runs_not hE rfl rfl rfl (by decide)) rfl ?_; clear hE a; intro a hE
        refine WL.no hE (runs_not hE rfl rfl rfl (by decide)) rfl ?_; clear hE a; intro a hE
        refine WL.no hE (runs_not hE rfl rfl rfl (by decide)) rfl ?_; clear hE a; intro a hE
        refine WL.vS hS hE (runs_plain rfl) (Gives.pickF hE rfl rfl rfl) rfl ?_; clear hE a; intro a hE
        refine WL.vS hS hE (runs_plain rfl) (Gives.p hE rfl) rfl ?_; clear hE a; intro a hE
        refine WL.nil ?_
        replace hS := hS.tail
        subst hK80
        exact ⟨false, Option.some.inj hq75, hE.pick _ ⟨rfl, trivial⟩, hS⟩
    · replace hq75 := iteF hg83 hq75
      refine WL.no hE (runs_not hE rfl rfl rfl (by rw [hg83]; decide)) rfl ?_; clear hE a; intro a hE
      refine WL.no hE (runs_not hE rfl rfl rfl (by rw [hg83]; decide)) rfl ?_; clear hE a; intro a hE
      refine WL.no hE (runs_not hE rfl rfl rfl (by rw [hg83]; decide)) rfl ?_; clear hE a; intro a hE
      refine WL.vS hS hE (runs_plain rfl) (Gives.pickF hE rfl hg83 rfl) rfl ?_; clear hE a; intro a hE
      refine WL.vS hS hE (runs_plain rfl) (Gives.p hE rfl) rfl ?_; clear hE a; intro a hE
      refine WL.no hE (runs_not hE rfl rfl rfl (by decide)) rfl ?_; clear hE a; intro a hE
      refine WL.no hE (runs_not hE rfl rfl rfl (by decide)) rfl ?_; clear hE a; intro a hE
      refine WL.no hE (runs_not hE rfl rfl rfl (by decide)) rfl ?_; clear hE a; intro a hE
      refine WL.vS hS hE (runs_plain rfl) (Gives.pickF hE rfl rfl rfl) rfl ?_; clear hE a; intro a hE
      refine WL.vS hS hE (runs_plain rfl) (Gives.p hE rfl) rfl ?_; clear hE a; intro a hE
      refine WL.no hE (runs_not hE rfl rfl rfl (by decide)) rfl ?_; clear hE a; intro a hE
      refine WL.no hE (runs_not hE rfl rfl rfl (by decide)) rfl ?_; clear hE a; intro a hE
      refine WL.no hE (runs_not hE rfl rfl rfl (by decide)) rfl ?_; clear hE a; intro a hE
      refine WL.vS hS hE (runs_plain rfl) (Gives.pickF hE rfl rfl rfl) rfl ?_; clear hE a; intro a hE
      refine WL.vS hS hE (runs_plain rfl) (Gives.p hE rfl) rfl ?_; clear hE a; intro a hE
      refine WL.nil ?_
      replace hS := hS.tail
      subst hK80
      exact ⟨false, Option.some.inj hq75, hE.pick _ ⟨rfl, trivial⟩, hS⟩
  · clear hE hS a w; rintro a w ⟨q79, rfl, hE, hS⟩
    refine W.ret ?_
    refine finG (fn := Try.f9) (rs := [.tmp 8]) (vs := [_]) hE rfl ⟨rfl, trivial⟩ ?_
    obtain rfl := Option.some.inj hr
    replace hS := hS.tail
    exact ⟨rfl, (hS.down (Sg.Le.trans hle61 hle74))⟩
end Go.Proofs.Ytfhkpdnohcidgaa
