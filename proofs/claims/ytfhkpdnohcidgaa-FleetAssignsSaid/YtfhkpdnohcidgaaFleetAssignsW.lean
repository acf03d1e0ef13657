/- The walks of the functions that FleetAssigns reaches: each call comes to what its mirror says. The conditions are those of each contract. -/
import Derived.Test.YtfhkpdnohcidgaaProg
import Derived.Test.YtfhkpdnohcidgaaFleetAssignsM
import Derived.Test.YtfhkpdnohcidgaaFpMore
import Derived.Test.YtfhkpdnohcidgaaFleetAssignsW3
namespace Go.Proofs.Ytfhkpdnohcidgaa
open Go Go.Fp
set_option maxHeartbeats 8000000 in
theorem Fishref2AssignOf_1_v1_ok : ∀ {fu : Nat} {w : World} {s : Sg} {R : List HP} {pb0 : Nat} {pb1 : Nat} {pb2 : Nat} {pb3 : Nat} {pb4 : Nat} {pb5 : Nat} {pb6 : Nat} {pb7 : Nat} {pb8 : Nat} {pb9 : Nat} {x0 : Int} {y0 : List Int} {a_v0 : Option Addr} {c_v0 n_v0 : Nat} {cs_v0 : List Value} {y1 : List FleetTask} {a_y1_0 : Option Addr} {c_y1_0 : Nat} {y2 : List (List Int)} {a_v1 : Option Addr} {c_v1 n_v1 : Nat} {ds_v1 : List In} {y3 : List FleetSet} {a_y3_0 : Option Addr} {c_y3_0 : Nat} {y4 : FleetShop} {y5 : Int} {y6 : List (List Int)} {a_y6_0 : Option Addr} {c_y6_0 : Nat} {y7 : List (List Int)} {a_v2 : Option Addr} {c_v2 n_v2 : Nat} {ds_v2 : List In} {y8 : Int} (_hS : St w s (pt pb0 (.cells #[.slice a_v0 n_v0 c_v0] 44 (0, 0)) :: pt pb1 (.cells #[.slice a_y1_0 y1.length c_y1_0] 32 (0, 0)) :: pt pb2 (.cells #[.slice a_v1 n_v1 c_v1] 25 (0, 0)) :: pt pb3 (.cells #[.slice a_y3_0 y3.length c_y3_0] 33 (0, 0)) :: pt pb4 (.cells #[.int .i64 y4.Place, .int .i64 y4.Long, .int .i64 y4.Limit] 35 (0, 0)) :: pt pb5 (.cells #[.int .i64 y5] 3 (0, 0)) :: pt pb6 (.cells #[.slice a_y6_0 y6.length c_y6_0] 25 (0, 0)) :: pt pb7 (.cells #[.slice a_v2 n_v2 c_v2] 25 (0, 0)) :: pt pb8 (.cells #[.int .i64 y8] 3 (0, 0)) :: pt pb9 (.cells #[.func (.func 66) #[] #[.pointer (some ⟨pb0, 0, none⟩), .pointer (some ⟨pb1, 0, none⟩), .pointer (some ⟨pb2, 0, none⟩), .pointer (some ⟨pb3, 0, none⟩), .pointer (some ⟨pb4, 0, none⟩), .pointer (some ⟨pb5, 0, none⟩), .pointer (some ⟨pb6, 0, none⟩), .pointer (some ⟨pb7, 0, none⟩), .pointer (some ⟨pb8, 0, none⟩), .pointer (some ⟨pb9, 0, none⟩)]] 66 (0, 0)) :: vecC 3 1 a_v0 c_v0 n_v0 cs_v0 :: nestC 44 3 1 a_v1 c_v1 n_v1 ds_v1 :: nestC 44 3 1 a_v2 c_v2 n_v2 ds_v2 :: R)) (_h_v0 : Ev 1 (RI .i64) s cs_v0 y0) (_hn_v0 : y0.length = n_v0) (_h_y1_0 : Sl 6 RFleetTask s a_y1_0 c_y1_0 y1) (_h_v1 : NEv 1 (RI .i64) s ds_v1 y2) (_hn_v1 : y2.length = n_v1) (_h_y3_0 : Sl 2 RFleetSet s a_y3_0 c_y3_0 y3) (_h_y6_0 : Sl 1 (RL 1 (RI .i64)) s a_y6_0 c_y6_0 y6) (_h_v2 : NEv 1 (RI .i64) s ds_v2 y7) (_hn_v2 : y7.length = n_v2) {r : (List (List Int)) × Int × (List (List Int)) × (List (List Int))} (_hr : Fishref2AssignOf_1_v1 fu x0 y0 y1 y2 y3 y4 y5 y6 y7 y8 = some r),
  Calls Try.prog 66 [.int .i64 x0, .pointer (some ⟨pb0, 0, none⟩), .pointer (some ⟨pb1, 0, none⟩), .pointer (some ⟨pb2, 0, none⟩), .pointer (some ⟨pb3, 0, none⟩), .pointer (some ⟨pb4, 0, none⟩), .pointer (some ⟨pb5, 0, none⟩), .pointer (some ⟨pb6, 0, none⟩), .pointer (some ⟨pb7, 0, none⟩), .pointer (some ⟨pb8, 0, none⟩), .pointer (some ⟨pb9, 0, none⟩)].toArray w (fun e w => ∃ (ds74 : List In) (a79 : Option Addr) (c80 : Nat) (a83 : Option Addr) (c84 : Nat) (n85 : Nat) (ds86 : List In) (t : Sg), e = .returned (.tuple #[]) ∧ s.Le t ∧ NEv 1 (RI .i64) t ds74 r.1 ∧ r.1.length = n_v1 ∧ Sl 1 (RL 1 (RI .i64)) t a79 c80 r.2.2.1 ∧ NEv 1 (RI .i64) t ds86 r.2.2.2 ∧ r.2.2.2.length = n85 ∧ St w t (pt pb0 (.cells #[.slice a_v0 n_v0 c_v0] 44 (0, 0)) :: pt pb1 (.cells #[.slice a_y1_0 y1.length c_y1_0] 32 (0, 0)) :: pt pb2 (.cells #[.slice a_v1 n_v1 c_v1] 25 (0, 0)) :: pt pb3 (.cells #[.slice a_y3_0 y3.length c_y3_0] 33 (0, 0)) :: pt pb4 (.cells #[.int .i64 y4.Place, .int .i64 y4.Long, .int .i64 y4.Limit] 35 (0, 0)) :: pt pb5 (.cells #[.int .i64 r.2.1] 3 (0, 0)) :: pt pb6 (.cells #[.slice a79 r.2.2.1.length c80] 25 (0, 0)) :: pt pb7 (.cells #[.slice a83 n85 c84] 25 (0, 0)) :: pt pb8 (.cells #[.int .i64 y8] 3 (0, 0)) :: pt pb9 (.cells #[.func (.func 66) #[] #[.pointer (some ⟨pb0, 0, none⟩), .pointer (some ⟨pb1, 0, none⟩), .pointer (some ⟨pb2, 0, none⟩), .pointer (some ⟨pb3, 0, none⟩), .pointer (some ⟨pb4, 0, none⟩), .pointer (some ⟨pb5, 0, none⟩), .pointer (some ⟨pb6, 0, none⟩), .pointer (some ⟨pb7, 0, none⟩), .pointer (some ⟨pb8, 0, none⟩), .pointer (some ⟨pb9, 0, none⟩)]] 66 (0, 0)) :: vecC 3 1 a_v0 c_v0 n_v0 cs_v0 :: nestC 44 3 1 a_v1 c_v1 n_v1 ds74 :: nestC 44 3 1 a83 c84 n85 ds86 :: R)) := by
 intro fu
 induction fu with
 | zero => intro w s R pb0 pb1 pb2 pb3 pb4 pb5 pb6 pb7 pb8 pb9 x0 y0 a_v0 c_v0 n_v0 cs_v0 y1 a_y1_0 c_y1_0 y2 a_v1 c_v1 n_v1 ds_v1 y3 a_y3_0 c_y3_0 y4 y5 y6 a_y6_0 c_y6_0 y7 a_v2 c_v2 n_v2 ds_v2 y8 hS h_v0 hn_v0 h_y1_0 h_v1 hn_v1 h_y3_0 h_y6_0 h_v2 hn_v2 r hr; rw [Fishref2AssignOf_1_v1] at hr; exact absurd hr (by simp)
 | succ fu ih_Fishref2AssignOf_1_v1 =>
  intro w s R pb0 pb1 pb2 pb3 pb4 pb5 pb6 pb7 pb8 pb9 x0 y0 a_v0 c_v0 n_v0 cs_v0 y1 a_y1_0 c_y1_0 y2 a_v1 c_v1 n_v1 ds_v1 y3 a_y3_0 c_y3_0 y4 y5 y6 a_y6_0 c_y6_0 y7 a_v2 c_v2 n_v2 ds_v2 y8 hS h_v0 hn_v0 h_y1_0 h_v1 hn_v1 h_y3_0 h_y6_0 h_v2 hn_v2 r hr
  rw [Fishref2AssignOf_1_v1] at hr
  generalize Fishref2AssignOf_1_v1 fu = self_Fishref2AssignOf_1_v1 at hr ih_Fishref2AssignOf_1_v1
  refine enter Try.func66 rfl rfl rfl fun a hE => ?_
  subst hn_v0
  subst hn_v1
  subst hn_v2
  refine W.seq ?_
  refine W.seq (W.region ?_)
  refine WL.vS hS hE (runs_plain rfl) (Gives.p hE rfl) rfl ?_; clear hE a; intro a hE
  refine WL.vS hS hE (runs_plain rfl) (Gives.loadB hE 0 rfl rfl rfl ty44) rfl ?_; clear hE a; intro a hE
  refine WL.vS hS hE (runs_plain rfl) (Gives.len hE rfl sl44) rfl ?_; clear hE a; intro a hE
  refine WL.vS hS hE (runs_plain rfl) (Gives.p hE rfl) rfl ?_; clear hE a; intro a hE
  refine WL.nil ?_
  refine W.cond hE rfl (fun hc89 => ?_) (fun hc89 => ?_)
  ·replace hr := iteT hc89 hr
   refine W.seq (W.region ?_)
   refine WL.vS hS hE (runs_plain rfl) (Gives.loadB hE 1 rfl rfl rfl ty32) rfl ?_; clear hE a; intro a hE
   refine WL.vS hS hE (runs_plain rfl) (Gives.loadB hE 2 rfl rfl rfl ty25) rfl ?_; clear hE a; intro a hE
   refine WL.vS hS hE (runs_plain rfl) (Gives.loadB hE 3 rfl rfl rfl ty33) rfl ?_; clear hE a; intro a hE
   refine WL.vS hS hE (runs_plain rfl) (Gives.loadBA hE 4 rfl rfl ty35) rfl ?_; clear hE a; intro a hE
   obtain ⟨q90, hq91, hr⟩ := bindS hr
   replace hS := hS.front 11 rfl
   have hc_ := Fishref2InspectOf_v1_ok hS h_y1_0 h_v1 (rfl) h_y3_0 hq91
   refine WL.fnq hE (hc_) (runs_plain rfl) bd16 rfl rfl rfl ?_
   clear hE hS hc_; rintro e w ⟨a92, c93, n94, cs95, s98, rfl, hle99, h96, rfl, hS⟩; refine ⟨_, rfl, ?_⟩; clear a; intro a hE
   replace h_y1_0 := Sl.mono RFleetTask.mono hle99 h_y1_0
   replace h_y3_0 := Sl.mono RFleetSet.mono hle99 h_y3_0
   replace h_v1 := NEv.mono RI.mono hle99 h_v1
   replace h_y6_0 := Sl.mono (RL.mono RI.mono) hle99 h_y6_0
   replace h_v0 := Ev.mono RI.mono hle99 h_v0
   replace h_v2 := NEv.mono RI.mono hle99 h_v2
   refine WL.vS hS hE (runs_plain rfl) (Gives.p hE rfl) rfl ?_; clear hE a; intro a hE
   refine WL.vS hS hE (runs_plain rfl) (Gives.p hE rfl) rfl ?_; clear hE a; intro a hE
   refine WL.vS hS hE (runs_plain rfl) (Gives.p hE rfl) rfl ?_; clear hE a; intro a hE
   refine WL.vS hS hE (runs_plain rfl) (Gives.p hE rfl) rfl ?_; clear hE a; intro a hE
   refine WL.vS hS hE (runs_plain rfl) (Gives.p hE rfl) rfl ?_; clear hE a; intro a hE
   refine WL.nil ?_
   refine W.seq ?_
   refine W.seq (W.region ?_)
   refine WL.vS hS hE (runs_plain rfl) (Gives.p hE rfl) rfl ?_; clear hE a; intro a hE
   refine WL.vS hS hE (runs_plain rfl) (Gives.p hE rfl) rfl ?_; clear hE a; intro a hE
   refine WL.nil ?_
   refine W.cond hE rfl (fun hc100 => ?_) (fun hc100 => ?_)
   ·replace hr := iteT hc100 hr
    refine W.ret ?_
    refine finG (fn := Try.f66) (rs := []) (vs := []) hE rfl trivial ?_
    obtain rfl := Option.some.inj hr
    replace hS := hS.front 13 rfl
    replace hS := hS.front 2 rfl
    replace hS := hS.front 13 rfl
    replace hS := hS.front 13 rfl
    replace hS := hS.front 13 rfl
    replace hS := hS.front 13 rfl
    replace hS := hS.front 13 rfl
    replace hS := hS.front 13 rfl
    replace hS := hS.front 13 rfl
    replace hS := hS.front 13 rfl
    replace hS := hS.front 13 rfl
    replace hS := hS.front 13 rfl
    replace hS := hS.front 13 rfl
    replace hS := hS.dropAt 13
    exact ⟨ds_v1, a_y6_0, c_y6_0, a_v2, c_v2, y7.length, ds_v2, s98, rfl, hle99, h_v1, (rfl), h_y6_0, h_v2, (rfl), hS⟩
   ·replace hr := iteF hc100 hr
    refine W.skip ?_
    refine W.seq (W.region ?_)
    refine WL.vS hS hE (runs_plain rfl) (Gives.p hE rfl) rfl ?_; clear hE a; intro a hE
    refine WL.nil ?_
    refine W.seq ?_
    refine W.seq (W.region ?_)
    refine WL.vS hS hE (runs_plain rfl) (Gives.p hE rfl) rfl ?_; clear hE a; intro a hE
    refine WL.vS hS hE (runs_plain rfl) (Gives.len hE rfl sl25) rfl ?_; clear hE a; intro a hE
    refine WL.vS hS hE (runs_plain rfl) (Gives.p hE rfl) rfl ?_; clear hE a; intro a hE
    refine WL.nil ?_
    have hb112 : q90.1.length ≤ 9223372036854775807 := by have := hS.vecCap 0 rfl; unfold maxLen at this; omega
    obtain ⟨q102, hq101, hr⟩ := bindS hr
    refine W.cut (fun a w => ∃ (q113 : Int), q113 = q102 ∧ Rep a 199 [(3, .pointer (some ⟨pb2, 0, none⟩)), (6, .pointer (some ⟨pb5, 0, none⟩)), (7, .pointer (some ⟨pb6, 0, none⟩)), (8, .pointer (some ⟨pb7, 0, none⟩)), (12, .slice a92 q90.1.length c93), (14, .int .i64 q113)] ∧ St w s98 (vecC 44 1 a92 c93 q90.1.length cs95 :: nestC 44 3 1 a_v1 c_v1 y2.length ds_v1 :: pt pb0 (.cells #[.slice a_v0 y0.length c_v0] 44 (0, 0)) :: pt pb1 (.cells #[.slice a_y1_0 y1.length c_y1_0] 32 (0, 0)) :: pt pb2 (.cells #[.slice a_v1 y2.length c_v1] 25 (0, 0)) :: pt pb3 (.cells #[.slice a_y3_0 y3.length c_y3_0] 33 (0, 0)) :: pt pb4 (.cells #[.int .i64 y4.Place, .int .i64 y4.Long, .int .i64 y4.Limit] 35 (0, 0)) :: pt pb5 (.cells #[.int .i64 y5] 3 (0, 0)) :: pt pb6 (.cells #[.slice a_y6_0 y6.length c_y6_0] 25 (0, 0)) :: pt pb7 (.cells #[.slice a_v2 y7.length c_v2] 25 (0, 0)) :: pt pb8 (.cells #[.int .i64 y8] 3 (0, 0)) :: pt pb9 (.cells #[.func (.func 66) #[] #[.pointer (some ⟨pb0, 0, none⟩), .pointer (some ⟨pb1, 0, none⟩), .pointer (some ⟨pb2, 0, none⟩), .pointer (some ⟨pb3, 0, none⟩), .pointer (some ⟨pb4, 0, none⟩), .pointer (some ⟨pb5, 0, none⟩), .pointer (some ⟨pb6, 0, none⟩), .pointer (some ⟨pb7, 0, none⟩), .pointer (some ⟨pb8, 0, none⟩), .pointer (some ⟨pb9, 0, none⟩)]] 66 (0, 0)) :: vecC 3 1 a_v0 c_v0 y0.length cs_v0 :: nestC 44 3 1 a_v2 c_v2 y7.length ds_v2 :: R)) ?_ ?_
    ·refine W.block ?_
     refine W.loop (fun m a w => ∃ (rest105 : Nat) (k103 : Nat), ∃ (q113 : Int), rest105 = m ∧ k103 + rest105 = q90.1.length ∧ Fishref2AssignOf_1_v1.loop1 q90 rest105 k103 q113 = some q102 ∧ Rep a 199 [(3, .pointer (some ⟨pb2, 0, none⟩)), (6, .pointer (some ⟨pb5, 0, none⟩)), (7, .pointer (some ⟨pb6, 0, none⟩)), (8, .pointer (some ⟨pb7, 0, none⟩)), (12, .slice a92 q90.1.length c93), (14, .int .i64 q113), (45, .slice a92 q90.1.length c93), (46, .int .i64 ((q90.1.length : Nat) : Int)), (47, .int .i64 ((k103 : Nat) : Int))] ∧ St w s98 (vecC 44 1 a92 c93 q90.1.length cs95 :: nestC 44 3 1 a_v1 c_v1 y2.length ds_v1 :: pt pb0 (.cells #[.slice a_v0 y0.length c_v0] 44 (0, 0)) :: pt pb1 (.cells #[.slice a_y1_0 y1.length c_y1_0] 32 (0, 0)) :: pt pb2 (.cells #[.slice a_v1 y2.length c_v1] 25 (0, 0)) :: pt pb3 (.cells #[.slice a_y3_0 y3.length c_y3_0] 33 (0, 0)) :: pt pb4 (.cells #[.int .i64 y4.Place, .int .i64 y4.Long, .int .i64 y4.Limit] 35 (0, 0)) :: pt pb5 (.cells #[.int .i64 y5] 3 (0, 0)) :: pt pb6 (.cells #[.slice a_y6_0 y6.length c_y6_0] 25 (0, 0)) :: pt pb7 (.cells #[.slice a_v2 y7.length c_v2] 25 (0, 0)) :: pt pb8 (.cells #[.int .i64 y8] 3 (0, 0)) :: pt pb9 (.cells #[.func (.func 66) #[] #[.pointer (some ⟨pb0, 0, none⟩), .pointer (some ⟨pb1, 0, none⟩), .pointer (some ⟨pb2, 0, none⟩), .pointer (some ⟨pb3, 0, none⟩), .pointer (some ⟨pb4, 0, none⟩), .pointer (some ⟨pb5, 0, none⟩), .pointer (some ⟨pb6, 0, none⟩), .pointer (some ⟨pb7, 0, none⟩), .pointer (some ⟨pb8, 0, none⟩), .pointer (some ⟨pb9, 0, none⟩)]] 66 (0, 0)) :: vecC 3 1 a_v0 c_v0 y0.length cs_v0 :: nestC 44 3 1 a_v2 c_v2 y7.length ds_v2 :: R)) (m := q90.1.length) ⟨q90.1.length, 0, 0, rfl, by omega, hq101, hE.pick _ ⟨rfl, rfl, rfl, rfl, rfl, rfl, rfl, rfl, rfl, trivial⟩, hS⟩ ?_
     clear hE hS a w hq101; rintro m109 a w ⟨rest105, k103, q113, rfl, hd106, hq101, hE, hS⟩
     refine W.gen fun K114 hK114 => ?_
     rcases rest105 with _ | rest105
     ·skip
      refine W.seq (W.region ?_)
      refine WL.vS hS hE (runs_plain rfl) (Gives.p hE rfl) rfl ?_; clear hE a; intro a hE
      refine WL.nil ?_
      refine W.seq ?_
      refine W.condF hE rfl (decide_eq_false (by omega)) ?_
      subst hK114
      refine W.exit rfl ?_
      exact ⟨q113, Option.some.inj hq101, hE.pick _ ⟨rfl, rfl, rfl, rfl, rfl, rfl, trivial⟩, hS⟩
     ·have hlt107 : k103 < q90.1.length := by omega
      rw [Fishref2AssignOf_1_v1.loop1] at hq101
      refine W.seq (W.region ?_)
      refine WL.vS hS hE (runs_plain rfl) (Gives.p hE rfl) rfl ?_; clear hE a; intro a hE
      refine WL.nil ?_
      refine W.seq ?_
      refine W.condT hE rfl (decide_eq_true (by omega)) ?_
      refine W.skip ?_
      refine W.seq ?_
      refine W.block ?_
      refine W.seq (W.region ?_)
      obtain ⟨x115, hx116, hq101⟩ := bindS hq101
      obtain ⟨hi117, hlt118, hy119⟩ := gx_some hx116
      obtain ⟨vs120, hl121, hR122, hd123, hget124⟩ := h96.at hy119
      obtain ⟨a125, c126, rfl, h127⟩ := hR122
      refine WL.vS hS hE (runs_plain rfl) (Gives.idx hE ((((k103 : Nat) : Int)).toNat) rfl rfl sl25 hi117 (by omega) (hS.vecAok 0 rfl (by omega : (((k103 : Nat) : Int)).toNat < q90.1.length))) rfl ?_; clear hE a; intro a hE
      refine WL.vS hS hE (runs_plain rfl) (Gives.load1 hE rfl (fun w h => St.vecSees h 0 rfl ((((k103 : Nat) : Int)).toNat * 1) _ hget124) ty44) rfl ?_; clear hE a; intro a hE
      refine WL.vS hS hE (runs_plain rfl) (Gives.p hE rfl) rfl ?_; clear hE a; intro a hE
      refine WL.nil ?_
      refine W.region ?_
      refine WL.vS hS hE (runs_plain rfl) (Gives.p hE rfl) rfl ?_; clear hE a; intro a hE
      refine WL.vS hS hE (runs_plain rfl) (Gives.p hE rfl) rfl ?_; clear hE a; intro a hE
      refine WL.vS hS hE (runs_plain rfl) (Gives.len hE rfl sl44) rfl ?_; clear hE a; intro a hE
      refine WL.vS hS hE (runs_plain rfl) (Gives.p hE rfl) rfl ?_; clear hE a; intro a hE
      refine WL.vS hS hE (runs_plain rfl) (Gives.p hE rfl) rfl ?_; clear hE a; intro a hE
      refine WL.nil ?_
      refine W.region ?_
      refine WL.vS hS hE (runs_plain rfl) (Gives.inc hE rfl (by omega)) rfl ?_; clear hE a; intro a hE
      refine WL.vS hS hE (runs_plain rfl) (Gives.p hE rfl) rfl ?_; clear hE a; intro a hE
      refine WL.nil ?_
      subst hK114
      exact ⟨rest105, Nat.lt_succ_self _, rest105, k103 + 1, (w64 (q113 + ((x115).length : Int))), rfl, (by omega), hq101, hE.pick _ ⟨rfl, rfl, rfl, rfl, rfl, rfl, rfl, rfl, rfl, trivial⟩, hS⟩
    ·clear hE hS a w; rintro a w ⟨q113, rfl, hE, hS⟩
     refine W.seq ?_
     refine W.seq ?_
     obtain ⟨q129, hq128, hr⟩ := bndS hr
     refine W.cut (fun a w => ∃ (q132 : Bool), q132 = q129 ∧ Rep a 199 [(3, .pointer (some ⟨pb2, 0, none⟩)), (6, .pointer (some ⟨pb5, 0, none⟩)), (7, .pointer (some ⟨pb6, 0, none⟩)), (8, .pointer (some ⟨pb7, 0, none⟩)), (12, .slice a92 q90.1.length c93), (14, .int .i64 q113), (62, .bool q132)] ∧ St w s98 (vecC 44 1 a92 c93 q90.1.length cs95 :: nestC 44 3 1 a_v1 c_v1 y2.length ds_v1 :: pt pb0 (.cells #[.slice a_v0 y0.length c_v0] 44 (0, 0)) :: pt pb1 (.cells #[.slice a_y1_0 y1.length c_y1_0] 32 (0, 0)) :: pt pb2 (.cells #[.slice a_v1 y2.length c_v1] 25 (0, 0)) :: pt pb3 (.cells #[.slice a_y3_0 y3.length c_y3_0] 33 (0, 0)) :: pt pb4 (.cells #[.int .i64 y4.Place, .int .i64 y4.Long, .int .i64 y4.Limit] 35 (0, 0)) :: pt pb5 (.cells #[.int .i64 y5] 3 (0, 0)) :: pt pb6 (.cells #[.slice a_y6_0 y6.length c_y6_0] 25 (0, 0)) :: pt pb7 (.cells #[.slice a_v2 y7.length c_v2] 25 (0, 0)) :: pt pb8 (.cells #[.int .i64 y8] 3 (0, 0)) :: pt pb9 (.cells #[.func (.func 66) #[] #[.pointer (some ⟨pb0, 0, none⟩), .pointer (some ⟨pb1, 0, none⟩), .pointer (some ⟨pb2, 0, none⟩), .pointer (some ⟨pb3, 0, none⟩), .pointer (some ⟨pb4, 0, none⟩), .pointer (some ⟨pb5, 0, none⟩), .pointer (some ⟨pb6, 0, none⟩), .pointer (some ⟨pb7, 0, none⟩), .pointer (some ⟨pb8, 0, none⟩), .pointer (some ⟨pb9, 0, none⟩)]] 66 (0, 0)) :: vecC 3 1 a_v0 c_v0 y0.length cs_v0 :: nestC 44 3 1 a_v2 c_v2 y7.length ds_v2 :: R)) ?_ ?_
     ·refine W.gen fun K133 hK133 => ?_
      refine W.region ?_
      refine WL.vS hS hE (runs_plain rfl) (Gives.loadB hE 7 rfl rfl rfl ty3) rfl ?_; clear hE a; intro a hE
      refine WL.vS hS hE (runs_plain rfl) (Gives.p hE rfl) rfl ?_; clear hE a; intro a hE
      refine WL.vS hS hE (runs_plain rfl) (Gives.p hE rfl) rfl ?_; clear hE a; intro a hE
      rcases Bool.eq_false_or_eq_true (decide (y5 < 0)) with hg134 | hg134
      ·replace hq128 := iteT hg134 hq128
       refine WL.no hE (runs_not hE rfl rfl rfl (by rw [hg134]; decide)) rfl ?_; clear hE a; intro a hE
       refine WL.no hE (runs_not hE rfl rfl rfl (by rw [hg134]; decide)) rfl ?_; clear hE a; intro a hE
       refine WL.no hE (runs_not hE rfl rfl rfl (by rw [hg134]; decide)) rfl ?_; clear hE a; intro a hE
       refine WL.vS hS hE (runs_plain rfl) (Gives.pickT hE rfl hg134 rfl) rfl ?_; clear hE a; intro a hE
       refine WL.nil ?_
       subst hK133
       exact ⟨true, hq128, hE.pick _ ⟨rfl, rfl, rfl, rfl, rfl, rfl, rfl, trivial⟩, hS⟩
      ·replace hq128 := iteF hg134 hq128
       refine WL.vS hS hE (runs_if hE rfl rfl rfl hg134) (Gives.p hE rfl) rfl ?_; clear hE a; intro a hE
       refine WL.vS hS hE (runs_if hE rfl rfl rfl hg134) (Gives.loadB hE 7 rfl rfl rfl ty3) rfl ?_; clear hE a; intro a hE
       refine WL.vS hS hE (runs_if hE rfl rfl rfl hg134) (Gives.p hE rfl) rfl ?_; clear hE a; intro a hE
       refine WL.vS hS hE (runs_plain rfl) (Gives.pickF hE rfl hg134 rfl) rfl ?_; clear hE a; intro a hE
       refine WL.nil ?_
       subst hK133
       exact ⟨decide (q113 < y5), hq128, hE.pick _ ⟨rfl, rfl, rfl, rfl, rfl, rfl, rfl, trivial⟩, hS⟩
     ·clear hE hS a w; rintro a w ⟨q132, rfl, hE, hS⟩
      obtain ⟨q136, hq135, hr⟩ := bindS hr
      refine W.cut (fun a w => ∃ (q139 : Int), ∃ (q140 : List (List Int)), ∃ (q144 : List (List Int)), ∃ (a141 : Option Addr), ∃ (c142 : Nat), ∃ (a145 : Option Addr), ∃ (c146 : Nat), ∃ (n147 : Nat), ∃ (ds148 : List In), ∃ (s137 : Sg), s98.Le s137 ∧ (q139, q140, q144) = q136 ∧ Sl 1 (RL 1 (RI .i64)) s137 a141 c142 q140 ∧ NEv 1 (RI .i64) s137 ds148 q144 ∧ q144.length = n147 ∧ Rep a 199 [] ∧ St w s137 (nestC 44 3 1 a_v1 c_v1 y2.length ds_v1 :: pt pb0 (.cells #[.slice a_v0 y0.length c_v0] 44 (0, 0)) :: pt pb1 (.cells #[.slice a_y1_0 y1.length c_y1_0] 32 (0, 0)) :: pt pb2 (.cells #[.slice a_v1 y2.length c_v1] 25 (0, 0)) :: pt pb3 (.cells #[.slice a_y3_0 y3.length c_y3_0] 33 (0, 0)) :: pt pb4 (.cells #[.int .i64 y4.Place, .int .i64 y4.Long, .int .i64 y4.Limit] 35 (0, 0)) :: pt pb5 (.cells #[.int .i64 q139] 3 (0, 0)) :: pt pb6 (.cells #[.slice a141 q140.length c142] 25 (0, 0)) :: pt pb7 (.cells #[.slice a145 n147 c146] 25 (0, 0)) :: pt pb8 (.cells #[.int .i64 y8] 3 (0, 0)) :: pt pb9 (.cells #[.func (.func 66) #[] #[.pointer (some ⟨pb0, 0, none⟩), .pointer (some ⟨pb1, 0, none⟩), .pointer (some ⟨pb2, 0, none⟩), .pointer (some ⟨pb3, 0, none⟩), .pointer (some ⟨pb4, 0, none⟩), .pointer (some ⟨pb5, 0, none⟩), .pointer (some ⟨pb6, 0, none⟩), .pointer (some ⟨pb7, 0, none⟩), .pointer (some ⟨pb8, 0, none⟩), .pointer (some ⟨pb9, 0, none⟩)]] 66 (0, 0)) :: vecC 3 1 a_v0 c_v0 y0.length cs_v0 :: nestC 44 3 1 a145 c146 n147 ds148 :: R)) ?_ ?_
      ·refine W.gen fun K151 hK151 => ?_
       refine W.cond hE rfl (fun hc152 => ?_) (fun hc152 => ?_)
       ·replace hq135 := iteT hc152 hq135
        refine W.seq (W.region ?_)
        refine WL.vS hS hE (runs_plain rfl) (Gives.p hE rfl) rfl ?_; clear hE a; intro a hE
        refine WL.vS hS hE (runs_plain rfl) (Gives.p hE rfl) rfl ?_; clear hE a; intro a hE
        refine WL.storeI hE hS 7 rfl [.int .i64 q113] (runs_plain rfl) rfl rfl rfl ty3 rfl rfl rfl rfl ?_; clear hE hS a w; intro a w hE hS
        refine WL.storeI hE hS 8 rfl [.slice a92 q90.1.length c93] (runs_plain rfl) rfl rfl rfl ty25 rfl rfl rfl rfl ?_; clear hE hS a w; intro a w hE hS
        refine WL.storeI hE hS 9 rfl [.slice none 0 0] (runs_plain rfl) rfl rfl rfl ty25 rfl rfl rfl rfl ?_; clear hE hS a w; intro a w hE hS
        refine WL.nil ?_
        refine W.seq (W.region ?_)
        refine WL.vS hS hE (runs_plain rfl) (Gives.loadB hE 4 rfl rfl rfl ty25) rfl ?_; clear hE a; intro a hE
        refine WL.vS hS hE (runs_plain rfl) (Gives.len hE rfl sl25) rfl ?_; clear hE a; intro a hE
        refine WL.vS hS hE (runs_plain rfl) (Gives.p hE rfl) rfl ?_; clear hE a; intro a hE
        refine WL.nil ?_
        replace hS := hS.nestNil 44 3 1
        have hb165 : y2.length ≤ 9223372036854775807 := by have := hS.nCap 2 rfl; unfold maxLen at this; omega
        obtain ⟨q155, hq154, hq135⟩ := bindS hq135
        refine W.cut (fun a w => ∃ (q166 : List (List Int)), ∃ (a167 : Option Addr), ∃ (c168 : Nat), ∃ (n169 : Nat), ∃ (ds170 : List In), q166 = q155 ∧ NEv 1 (RI .i64) s98 ds170 q166 ∧ q166.length = n169 ∧ Rep a 199 [] ∧ St w s98 (nestC 44 3 1 a167 c168 n169 ds170 :: vecC 44 1 a92 c93 q90.1.length cs95 :: nestC 44 3 1 a_v1 c_v1 y2.length ds_v1 :: pt pb0 (.cells #[.slice a_v0 y0.length c_v0] 44 (0, 0)) :: pt pb1 (.cells #[.slice a_y1_0 y1.length c_y1_0] 32 (0, 0)) :: pt pb2 (.cells #[.slice a_v1 y2.length c_v1] 25 (0, 0)) :: pt pb3 (.cells #[.slice a_y3_0 y3.length c_y3_0] 33 (0, 0)) :: pt pb4 (.cells #[.int .i64 y4.Place, .int .i64 y4.Long, .int .i64 y4.Limit] 35 (0, 0)) :: pt pb5 (.cells #[.int .i64 q113] 3 (0, 0)) :: pt pb6 (.cells #[.slice a92 q90.1.length c93] 25 (0, 0)) :: pt pb7 (.cells #[.slice a167 n169 c168] 25 (0, 0)) :: pt pb8 (.cells #[.int .i64 y8] 3 (0, 0)) :: pt pb9 (.cells #[.func (.func 66) #[] #[.pointer (some ⟨pb0, 0, none⟩), .pointer (some ⟨pb1, 0, none⟩), .pointer (some ⟨pb2, 0, none⟩), .pointer (some ⟨pb3, 0, none⟩), .pointer (some ⟨pb4, 0, none⟩), .pointer (some ⟨pb5, 0, none⟩), .pointer (some ⟨pb6, 0, none⟩), .pointer (some ⟨pb7, 0, none⟩), .pointer (some ⟨pb8, 0, none⟩), .pointer (some ⟨pb9, 0, none⟩)]] 66 (0, 0)) :: vecC 3 1 a_v0 c_v0 y0.length cs_v0 :: nestC 44 3 1 a_v2 c_v2 y7.length ds_v2 :: R)) ?_ ?_
        ·refine W.block ?_
         refine W.loop (fun m a w => ∃ (rest158 : Nat) (k156 : Nat), ∃ (q166 : List (List Int)), ∃ (a167 : Option Addr), ∃ (c168 : Nat), ∃ (n169 : Nat), ∃ (ds170 : List In), rest158 = m ∧ k156 + rest158 = y2.length ∧ Fishref2AssignOf_1_v1.loop2 y2 rest158 k156 q166 = some q155 ∧ NEv 1 (RI .i64) s98 ds170 q166 ∧ q166.length = n169 ∧ Rep a 199 [(8, .pointer (some ⟨pb7, 0, none⟩)), (65, .slice a_v1 y2.length c_v1), (66, .int .i64 ((y2.length : Nat) : Int)), (67, .int .i64 ((k156 : Nat) : Int))] ∧ St w s98 (nestC 44 3 1 a167 c168 n169 ds170 :: vecC 44 1 a92 c93 q90.1.length cs95 :: nestC 44 3 1 a_v1 c_v1 y2.length ds_v1 :: pt pb0 (.cells #[.slice a_v0 y0.length c_v0] 44 (0, 0)) :: pt pb1 (.cells #[.slice a_y1_0 y1.length c_y1_0] 32 (0, 0)) :: pt pb2 (.cells #[.slice a_v1 y2.length c_v1] 25 (0, 0)) :: pt pb3 (.cells #[.slice a_y3_0 y3.length c_y3_0] 33 (0, 0)) :: pt pb4 (.cells #[.int .i64 y4.Place, .int .i64 y4.Long, .int .i64 y4.Limit] 35 (0, 0)) :: pt pb5 (.cells #[.int .i64 q113] 3 (0, 0)) :: pt pb6 (.cells #[.slice a92 q90.1.length c93] 25 (0, 0)) :: pt pb7 (.cells #[.slice a167 n169 c168] 25 (0, 0)) :: pt pb8 (.cells #[.int .i64 y8] 3 (0, 0)) :: pt pb9 (.cells #[.func (.func 66) #[] #[.pointer (some ⟨pb0, 0, none⟩), .pointer (some ⟨pb1, 0, none⟩), .pointer (some ⟨pb2, 0, none⟩), .pointer (some ⟨pb3, 0, none⟩), .pointer (some ⟨pb4, 0, none⟩), .pointer (some ⟨pb5, 0, none⟩), .pointer (some ⟨pb6, 0, none⟩), .pointer (some ⟨pb7, 0, none⟩), .pointer (some ⟨pb8, 0, none⟩), .pointer (some ⟨pb9, 0, none⟩)]] 66 (0, 0)) :: vecC 3 1 a_v0 c_v0 y0.length cs_v0 :: nestC 44 3 1 a_v2 c_v2 y7.length ds_v2 :: R)) (m := y2.length) ⟨y2.length, 0, [], none, 0, 0, [], rfl, by omega, hq154, (NEv.nil), (rfl), hE.pick _ ⟨rfl, rfl, rfl, rfl, trivial⟩, hS⟩ ?_
         clear hE hS a w hq154; rintro m162 a w ⟨rest158, k156, q166, a167, c168, n169, ds170, rfl, hd159, hq154, h171, rfl, hE, hS⟩
         refine W.gen fun K173 hK173 => ?_
         rcases rest158 with _ | rest158
         ·skip
          refine W.seq (W.region ?_)
          refine WL.vS hS hE (runs_plain rfl) (Gives.p hE rfl) rfl ?_; clear hE a; intro a hE
          refine WL.nil ?_
          refine W.seq ?_
          refine W.condF hE rfl (decide_eq_false (by omega)) ?_
          subst hK173
          refine W.exit rfl ?_
          exact ⟨q166, a167, c168, q166.length, ds170, Option.some.inj hq154, h171, rfl, hE.pick _ trivial, hS⟩
         ·have hlt160 : k156 < y2.length := by omega
          rw [Fishref2AssignOf_1_v1.loop2] at hq154
          refine W.seq (W.region ?_)
          refine WL.vS hS hE (runs_plain rfl) (Gives.p hE rfl) rfl ?_; clear hE a; intro a hE
          refine WL.nil ?_
          refine W.seq ?_
          refine W.condT hE rfl (decide_eq_true (by omega)) ?_
          refine W.skip ?_
          refine W.seq ?_
          refine W.block ?_
          refine W.seq (W.region ?_)
          obtain ⟨x174, hx175, hq154⟩ := bindS hq154
          obtain ⟨hi176, hlt177, hy178⟩ := gx_some hx175
          obtain ⟨a179, c180, cs181, hd182, hev183⟩ := h_v1.at hy178
          refine WL.vS hS hE (runs_plain rfl) (Gives.idx hE ((((k156 : Nat) : Int)).toNat) rfl rfl sl25 hi176 (by omega) (hS.nAok 2 rfl (by omega : (((k156 : Nat) : Int)).toNat < y2.length))) rfl ?_; clear hE a; intro a hE
          refine WL.vS hS hE (runs_plain rfl) (Gives.load1 (v := .slice a179 x174.length c180) hE rfl (fun w h => St.nSees h 2 rfl hd182) ty44) rfl ?_; clear hE a; intro a hE
          refine WL.vS hS hE (runs_plain rfl) (Gives.p hE rfl) rfl ?_; clear hE a; intro a hE
          refine WL.nil ?_
          refine W.gen fun K184 hK184 => ?_
          refine W.regionE (sel (fun w => St w s98 (nestC 44 3 1 a167 c168 q166.length ds170 :: vecC 44 1 a92 c93 q90.1.length cs95 :: nestC 44 3 1 a_v1 c_v1 y2.length ds_v1 :: pt pb0 (.cells #[.slice a_v0 y0.length c_v0] 44 (0, 0)) :: pt pb1 (.cells #[.slice a_y1_0 y1.length c_y1_0] 32 (0, 0)) :: pt pb2 (.cells #[.slice a_v1 y2.length c_v1] 25 (0, 0)) :: pt pb3 (.cells #[.slice a_y3_0 y3.length c_y3_0] 33 (0, 0)) :: pt pb4 (.cells #[.int .i64 y4.Place, .int .i64 y4.Long, .int .i64 y4.Limit] 35 (0, 0)) :: pt pb5 (.cells #[.int .i64 q113] 3 (0, 0)) :: pt pb6 (.cells #[.slice a92 q90.1.length c93] 25 (0, 0)) :: pt pb7 (.cells #[.slice a167 q166.length c168] 25 (0, 0)) :: pt pb8 (.cells #[.int .i64 y8] 3 (0, 0)) :: pt pb9 (.cells #[.func (.func 66) #[] #[.pointer (some ⟨pb0, 0, none⟩), .pointer (some ⟨pb1, 0, none⟩), .pointer (some ⟨pb2, 0, none⟩), .pointer (some ⟨pb3, 0, none⟩), .pointer (some ⟨pb4, 0, none⟩), .pointer (some ⟨pb5, 0, none⟩), .pointer (some ⟨pb6, 0, none⟩), .pointer (some ⟨pb7, 0, none⟩), .pointer (some ⟨pb8, 0, none⟩), .pointer (some ⟨pb9, 0, none⟩)]] 66 (0, 0)) :: vecC 3 1 a_v0 c_v0 y0.length cs_v0 :: nestC 44 3 1 a_v2 c_v2 y7.length ds_v2 :: R)) (fun w => St w s98 (vecC 44 1 a92 c93 q90.1.length cs95 :: nestC 44 3 1 a_v1 c_v1 y2.length ds_v1 :: pt pb0 (.cells #[.slice a_v0 y0.length c_v0] 44 (0, 0)) :: pt pb1 (.cells #[.slice a_y1_0 y1.length c_y1_0] 32 (0, 0)) :: pt pb2 (.cells #[.slice a_v1 y2.length c_v1] 25 (0, 0)) :: pt pb3 (.cells #[.slice a_y3_0 y3.length c_y3_0] 33 (0, 0)) :: pt pb4 (.cells #[.int .i64 y4.Place, .int .i64 y4.Long, .int .i64 y4.Limit] 35 (0, 0)) :: pt pb5 (.cells #[.int .i64 q113] 3 (0, 0)) :: pt pb6 (.cells #[.slice a92 q90.1.length c93] 25 (0, 0)) :: pt pb7 (.cells #[.slice a167 q166.length c168] 25 (0, 0)) :: pt pb8 (.cells #[.int .i64 y8] 3 (0, 0)) :: pt pb9 (.cells #[.func (.func 66) #[] #[.pointer (some ⟨pb0, 0, none⟩), .pointer (some ⟨pb1, 0, none⟩), .pointer (some ⟨pb2, 0, none⟩), .pointer (some ⟨pb3, 0, none⟩), .pointer (some ⟨pb4, 0, none⟩), .pointer (some ⟨pb5, 0, none⟩), .pointer (some ⟨pb6, 0, none⟩), .pointer (some ⟨pb7, 0, none⟩), .pointer (some ⟨pb8, 0, none⟩), .pointer (some ⟨pb9, 0, none⟩)]] 66 (0, 0)) :: vecC 3 1 a_v0 c_v0 y0.length cs_v0 :: nestC 44 3 1 a_v2 c_v2 y7.length ds_v2 :: R))) (fun b i => cond b ([0, 1, 2, 3].contains i) ([0, 1, 2, 3, 4].contains i)) mixed ?_
          replace hS := hS.drew
          have hT := tw_sel (A := fun w => St w s98 _) (B := fun w => St w s98 _) (w := _) (x := true) (y := true) (fun _ => hS) (fun _ => (hS.tail))
          have hF := hS; replace hS := hS
          refine Rg.take (i := 0) true rfl hE rfl (by kernel_rfl) (runs_plain rfl) (Gives.loadB hE 10 rfl rfl rfl ty25) rfl hT ?_; clear hE a; intro a hE
          replace hS := hF; clear hF hT
          refine Rg.takeP (i := 1) hE rfl (by kernel_rfl) (runs_plain rfl) (Gives.p hE rfl) rfl (tw_sel (fun _ => hS) (fun _ => (hS.tail))) ?_; clear hE a; intro a hE
          refine Rg.one (i := 2) true true rfl (by kernel_rfl) (by kernel_rfl) (by kernel_rfl) ?_
          replace hS := hS.borrowM 2 rfl hd182
          obtain ⟨q186, hq187, hq154⟩ := bindS hq154
          have hF := hS.lendV RI.mono 0 rfl hev183 (rfl); clear hS; obtain ⟨t194, hle195, hS, hs196, bk197⟩ := hF
          have hc_ := SlicesCloneLint_ok hS hs196 hq187
          refine WL.fnq hE (hc_) (runs_plain rfl) bd41 rfl rfl rfl ?_
          clear hE hS hc_; rintro e w ⟨a188, c189, n190, cs191, rfl, h192, rfl, hS⟩; refine ⟨_, rfl, ?_⟩; clear a; intro a hE
          replace hS := bk197 _ _ hS
          replace h192 := Ev.flat (s2 := s98) (fun _ _ _ _ h => h) h192
          replace hS := hS.giveBack0 3 rfl hd182
          refine WL.nil ?_
          refine ⟨⟨fun _ => (hS.tail), fun _ => ((hS.tail).tail)⟩, ?_⟩
          refine Rg.one (i := 3) true true rfl (by kernel_rfl) (by kernel_rfl) (by kernel_rfl) ?_
          refine WL.lit hE hS (e := 44) (es := 1) (vs := [(0, .slice a188 q186.length c189)]) (cs := [.slice a188 q186.length c189]) (runs_plain rfl) rfl (by kernel_rfl) rfl ?_; clear hE hS a w; intro b198 a w hE hS
          refine WL.nil ?_
          refine ⟨⟨fun _ => ((hS.tail).tail), fun _ => (((hS.tail).tail).tail)⟩, ?_⟩
          refine Rg.one (i := 4) false true rfl (by kernel_rfl) (by kernel_rfl) (by kernel_rfl) ?_
          obtain ⟨x199, hx200, hq154⟩ := bindS hq154
          replace hS := hS.front 1 rfl
          replace hS := hS.front 1 rfl
          refine WL.appND hE hS 0 rfl (runs_plain rfl) rfl rfl ap25 h171 rfl h192 rfl hx200 rfl ?_; clear hE hS a w; intro a201 c202 ds203 a w h204 hE hS
          refine WL.nil ?_
          refine ⟨⟨fun h => absurd h (by decide), fun _ => (hS.tail)⟩, ?_⟩
          refine Rg.one (i := 5) false false rfl (by kernel_rfl) (by kernel_rfl) (by kernel_rfl) ?_
          refine WL.storeI hE hS 10 rfl [.slice a201 x199.length c202] (runs_plain rfl) rfl rfl rfl ty25 rfl rfl rfl rfl ?_; clear hE hS a w; intro a w hE hS
          refine WL.nil ?_
          refine ⟨⟨fun h => absurd h (by decide), fun h => absurd h (by decide)⟩, ?_⟩
          refine Rg.done (by kernel_rfl) ?_
          subst hK184
          refine W.region ?_
          refine WL.vS hS hE (runs_plain rfl) (Gives.inc hE rfl (by omega)) rfl ?_; clear hE a; intro a hE
          refine WL.vS hS hE (runs_plain rfl) (Gives.p hE rfl) rfl ?_; clear hE a; intro a hE
          refine WL.nil ?_
          subst hK173
          exact ⟨rest158, Nat.lt_succ_self _, rest158, k156 + 1, x199, a201, c202, x199.length, ds203, rfl, (by omega), hq154, h204, (rfl), hE.pick _ ⟨rfl, rfl, rfl, rfl, trivial⟩, hS⟩
        ·clear hE hS a w; rintro a w ⟨q166, a167, c168, n169, ds170, rfl, h171, rfl, hE, hS⟩
         have hF := hS.fixD (RL.mono RI.mono) 1 rfl h96 rfl; clear hS; obtain ⟨s205, hle206, hS, h207⟩ := hF
         replace h171 := NEv.mono RI.mono hle206 h171
         replace h_v1 := NEv.mono RI.mono hle206 h_v1
         replace h_y1_0 := Sl.mono RFleetTask.mono hle206 h_y1_0
         replace h_y3_0 := Sl.mono RFleetSet.mono hle206 h_y3_0
         replace h_v0 := Ev.mono RI.mono hle206 h_v0
         replace h_v2 := NEv.mono RI.mono hle206 h_v2
         replace hS := hS.dropAt 13
         replace hS := hS.front 12 rfl
         replace hS := hS.front 12 rfl
         replace hS := hS.front 12 rfl
         replace hS := hS.front 12 rfl
         replace hS := hS.front 12 rfl
         replace hS := hS.front 12 rfl
         replace hS := hS.front 12 rfl
         replace hS := hS.front 12 rfl
         replace hS := hS.front 12 rfl
         replace hS := hS.front 12 rfl
         replace hS := hS.front 12 rfl
         replace hS := hS.front 12 rfl
         subst hK151
         exact ⟨q113, q90.1, q166, a92, c93, a167, c168, q166.length, ds170, s205, hle206, Option.some.inj hq135, h207, h171, rfl, hE.pick _ trivial, hS⟩
       ·replace hq135 := iteF hc152 hq135
        refine W.skip ?_
        replace hS := hS.tail
        subst hK151
        exact ⟨y5, y6, y7, a_y6_0, c_y6_0, a_v2, c_v2, y7.length, ds_v2, s98, (Sg.Le.refl _), Option.some.inj hq135, h_y6_0, h_v2, (rfl), hE.pick _ trivial, hS⟩
      ·clear hE hS a w; rintro a w ⟨q139, q140, q144, a141, c142, a145, c146, n147, ds148, s137, hle138, rfl, h143, h149, rfl, hE, hS⟩
       dsimp only at hr
       replace h_v1 := NEv.mono RI.mono hle138 h_v1
       replace h_y1_0 := Sl.mono RFleetTask.mono hle138 h_y1_0
       replace h_y3_0 := Sl.mono RFleetSet.mono hle138 h_y3_0
       replace h_y6_0 := Sl.mono (RL.mono RI.mono) hle138 h_y6_0
       replace h_v0 := Ev.mono RI.mono hle138 h_v0
       replace h_v2 := NEv.mono RI.mono hle138 h_v2
       refine W.ret ?_
       refine finG (fn := Try.f66) (rs := []) (vs := []) hE rfl trivial ?_
       obtain rfl := Option.some.inj hr
       replace hS := hS.front 12 rfl
       replace hS := hS.front 1 rfl
       replace hS := hS.front 12 rfl
       replace hS := hS.front 12 rfl
       replace hS := hS.front 12 rfl
       replace hS := hS.front 12 rfl
       replace hS := hS.front 12 rfl
       replace hS := hS.front 12 rfl
       replace hS := hS.front 12 rfl
       replace hS := hS.front 12 rfl
       replace hS := hS.front 12 rfl
       replace hS := hS.front 12 rfl
       replace hS := hS.front 12 rfl
       exact ⟨ds_v1, a141, c142, a145, c146, q144.length, ds148, s137, rfl, (Sg.Le.trans hle99 hle138), h_v1, (rfl), h143, h149, rfl, hS⟩
  ·replace hr := iteF hc89 hr
   refine W.skip ?_
   refine W.seq (W.region ?_)
   refine WL.vS hS hE (runs_plain rfl) (Gives.loadB hE 0 rfl rfl rfl ty44) rfl ?_; clear hE a; intro a hE
   refine WL.vS hS hE (runs_plain rfl) (Gives.p hE rfl) rfl ?_; clear hE a; intro a hE
   obtain ⟨x208, hx209, hr⟩ := bindS hr
   obtain ⟨hi210, hlt211, hy212⟩ := gx_some hx209
   obtain ⟨vs213, hl214, hR215, hd216, hget217⟩ := h_v0.at hy212
   subst hR215
   refine WL.vS hS hE (runs_plain rfl) (Gives.idx hE ((x0).toNat) rfl rfl sl44 hi210 (by omega) (hS.vecAok 10 rfl (by omega : (x0).toNat < y0.length))) rfl ?_; clear hE a; intro a hE
   refine WL.vS hS hE (runs_plain rfl) (Gives.load1 hE rfl (fun w h => St.vecSees h 10 rfl ((x0).toNat * 1) _ hget217) ty3) rfl ?_; clear hE a; intro a hE
   refine WL.vS hS hE (runs_plain rfl) (Gives.p hE rfl) rfl ?_; clear hE a; intro a hE
   refine WL.nil ?_
   refine W.seq ?_
   refine W.gen fun K218 hK218 => ?_
   refine W.regionE (sel (fun w => St w s (pt pb0 (.cells #[.slice a_v0 y0.length c_v0] 44 (0, 0)) :: pt pb1 (.cells #[.slice a_y1_0 y1.length c_y1_0] 32 (0, 0)) :: pt pb2 (.cells #[.slice a_v1 y2.length c_v1] 25 (0, 0)) :: pt pb3 (.cells #[.slice a_y3_0 y3.length c_y3_0] 33 (0, 0)) :: pt pb4 (.cells #[.int .i64 y4.Place, .int .i64 y4.Long, .int .i64 y4.Limit] 35 (0, 0)) :: pt pb5 (.cells #[.int .i64 y5] 3 (0, 0)) :: pt pb6 (.cells #[.slice a_y6_0 y6.length c_y6_0] 25 (0, 0)) :: pt pb7 (.cells #[.slice a_v2 y7.length c_v2] 25 (0, 0)) :: pt pb8 (.cells #[.int .i64 y8] 3 (0, 0)) :: pt pb9 (.cells #[.func (.func 66) #[] #[.pointer (some ⟨pb0, 0, none⟩), .pointer (some ⟨pb1, 0, none⟩), .pointer (some ⟨pb2, 0, none⟩), .pointer (some ⟨pb3, 0, none⟩), .pointer (some ⟨pb4, 0, none⟩), .pointer (some ⟨pb5, 0, none⟩), .pointer (some ⟨pb6, 0, none⟩), .pointer (some ⟨pb7, 0, none⟩), .pointer (some ⟨pb8, 0, none⟩), .pointer (some ⟨pb9, 0, none⟩)]] 66 (0, 0)) :: vecC 3 1 a_v0 c_v0 y0.length cs_v0 :: nestC 44 3 1 a_v1 c_v1 y2.length ds_v1 :: nestC 44 3 1 a_v2 c_v2 y7.length ds_v2 :: R)) (fun w => St w s (pt pb0 (.cells #[.slice a_v0 y0.length c_v0] 44 (0, 0)) :: pt pb1 (.cells #[.slice a_y1_0 y1.length c_y1_0] 32 (0, 0)) :: pt pb2 (.cells #[.slice a_v1 y2.length c_v1] 25 (0, 0)) :: pt pb3 (.cells #[.slice a_y3_0 y3.length c_y3_0] 33 (0, 0)) :: pt pb4 (.cells #[.int .i64 y4.Place, .int .i64 y4.Long, .int .i64 y4.Limit] 35 (0, 0)) :: pt pb5 (.cells #[.int .i64 y5] 3 (0, 0)) :: pt pb6 (.cells #[.slice a_y6_0 y6.length c_y6_0] 25 (0, 0)) :: pt pb7 (.cells #[.slice a_v2 y7.length c_v2] 25 (0, 0)) :: pt pb8 (.cells #[.int .i64 y8] 3 (0, 0)) :: pt pb9 (.cells #[.func (.func 66) #[] #[.pointer (some ⟨pb0, 0, none⟩), .pointer (some ⟨pb1, 0, none⟩), .pointer (some ⟨pb2, 0, none⟩), .pointer (some ⟨pb3, 0, none⟩), .pointer (some ⟨pb4, 0, none⟩), .pointer (some ⟨pb5, 0, none⟩), .pointer (some ⟨pb6, 0, none⟩), .pointer (some ⟨pb7, 0, none⟩), .pointer (some ⟨pb8, 0, none⟩), .pointer (some ⟨pb9, 0, none⟩)]] 66 (0, 0)) :: vecC 3 1 a_v0 c_v0 y0.length cs_v0 :: nestC 44 3 1 a_v1 c_v1 y2.length ds_v1 :: nestC 44 3 1 a_v2 c_v2 y7.length ds_v2 :: R))) (fun b i => cond b ([0, 1, 2, 3, 4, 5, 6, 7, 8, 9].contains i) ([0, 1, 2, 3, 4, 5, 6, 7, 8, 9].contains i)) mixed ?_
   replace hS := hS.drew
   have hT := tw_sel (A := fun w => St w s _) (B := fun w => St w s _) (w := _) (x := true) (y := true) (fun _ => hS) (fun _ => hS)
   have hF := hS; replace hS := hS
   refine Rg.take (i := 0) true rfl hE rfl (by kernel_rfl) (runs_plain rfl) (Gives.loadB hE 3 rfl rfl rfl ty33) rfl hT ?_; clear hE a; intro a hE
   replace hS := hF; clear hF hT
   refine Rg.takeP (i := 1) hE rfl (by kernel_rfl) (runs_plain rfl) (Gives.len hE rfl sl33) rfl (tw_sel (fun _ => hS) (fun _ => hS)) ?_; clear hE a; intro a hE
   have hT := tw_sel (A := fun w => St w s _) (B := fun w => St w s _) (w := _) (x := true) (y := true) (fun _ => hS) (fun _ => hS)
   have hF := hS; replace hS := hS
   refine Rg.take (i := 2) true rfl hE rfl (by kernel_rfl) (runs_plain rfl) (Gives.loadB hE 1 rfl rfl rfl ty32) rfl hT ?_; clear hE a; intro a hE
   replace hS := hF; clear hF hT
   refine Rg.takeP (i := 3) hE rfl (by kernel_rfl) (runs_plain rfl) (Gives.p hE rfl) rfl (tw_sel (fun _ => hS) (fun _ => hS)) ?_; clear hE a; intro a hE
   obtain ⟨x219, hx220, hr⟩ := bindS hr
   obtain ⟨hi221, hlt222, hy223⟩ := gx_some hx220
   obtain ⟨cs224, hl225, hR226, hat227⟩ := h_y1_0.at hy223
   subst hR226
   refine Rg.takeP (i := 4) hE rfl (by kernel_rfl) (runs_plain rfl) (Gives.idx hE (x208).toNat rfl rfl sl32 hi221 hlt222 (h_y1_0.aok hlt222)) rfl (tw_sel (fun _ => hS) (fun _ => hS)) ?_; clear hE a; intro a hE
   refine Rg.takeP (i := 5) hE rfl (by kernel_rfl) (runs_plain rfl) (Gives.fld hE rfl fl78_5) rfl (tw_sel (fun _ => hS) (fun _ => hS)) ?_; clear hE a; intro a hE
   have hT := tw_sel (A := fun w => St w s _) (B := fun w => St w s _) (w := _) (x := true) (y := true) (fun _ => hS) (fun _ => hS)
   have hF := hS; replace hS := hS
   refine Rg.take (i := 6) true rfl hE rfl (by kernel_rfl) (runs_plain rfl) (Gives.load1 hE rfl (fun w h => (hat227 w _ h).one rfl) ty3) rfl hT ?_; clear hE a; intro a hE
   replace hS := hF; clear hF hT
   refine Rg.takeP (i := 9) hE rfl (by kernel_rfl) (runs_plain rfl) (Gives.p hE rfl) rfl (tw_sel (fun _ => hS) (fun _ => hS)) ?_; clear hE a; intro a hE
   refine Rg.one (i := 7) true true rfl (by kernel_rfl) (by kernel_rfl) (by kernel_rfl) ?_
   obtain ⟨q228, hq229, hr⟩ := bindS hr
   have hc_ := Fishref2choices_ok hS  hq229
   refine WL.fnq hE (hc_) (runs_plain rfl) bd67 rfl rfl rfl ?_
   clear hE hS hc_; rintro e w ⟨a230, c231, n232, cs233, s236, rfl, hle237, h234, rfl, hS⟩; refine ⟨_, rfl, ?_⟩; clear a; intro a hE
   replace h_y3_0 := Sl.mono RFleetSet.mono hle237 h_y3_0
   replace h_y1_0 := Sl.mono RFleetTask.mono hle237 h_y1_0
   replace h_y6_0 := Sl.mono (RL.mono RI.mono) hle237 h_y6_0
   replace h_v0 := Ev.mono RI.mono hle237 h_v0
   replace h_v1 := NEv.mono RI.mono hle237 h_v1
   replace h_v2 := NEv.mono RI.mono hle237 h_v2
   refine WL.nil ?_
   refine ⟨⟨fun _ => (St.down hle237 (hS.tail)), fun _ => (St.down hle237 (hS.tail))⟩, ?_⟩
   refine Rg.takeP (i := 8) hE rfl (by kernel_rfl) (runs_plain rfl) (Gives.len hE rfl sl25) rfl (tw_sel (fun _ => (St.down hle237 (hS.tail))) (fun _ => (St.down hle237 (hS.tail)))) ?_; clear hE a; intro a hE
   refine Rg.done (by kernel_rfl) ?_
   subst hK218
   have hb249 : q228.length ≤ 9223372036854775807 := by have := hS.vecCap 0 rfl; unfold maxLen at this; omega
   obtain ⟨q239, hq238, hr⟩ := bindS hr
   refine W.cut (fun a w => ∃ (q250 : List (List Int)), ∃ (q257 : Int), ∃ (q258 : List (List Int)), ∃ (q262 : List (List Int)), ∃ (ds254 : List In), ∃ (a259 : Option Addr), ∃ (c260 : Nat), ∃ (a263 : Option Addr), ∃ (c264 : Nat), ∃ (n265 : Nat), ∃ (ds266 : List In), ∃ (s247 : Sg), s236.Le s247 ∧ (q250, q257, q258, q262) = q239 ∧ NEv 1 (RI .i64) s247 ds254 q250 ∧ q250.length = y2.length ∧ Sl 1 (RL 1 (RI .i64)) s247 a259 c260 q258 ∧ NEv 1 (RI .i64) s247 ds266 q262 ∧ q262.length = n265 ∧ Rep a 199 [] ∧ St w s247 (vecC 44 1 a230 c231 q228.length cs233 :: pt pb0 (.cells #[.slice a_v0 y0.length c_v0] 44 (0, 0)) :: pt pb1 (.cells #[.slice a_y1_0 y1.length c_y1_0] 32 (0, 0)) :: pt pb2 (.cells #[.slice a_v1 y2.length c_v1] 25 (0, 0)) :: pt pb3 (.cells #[.slice a_y3_0 y3.length c_y3_0] 33 (0, 0)) :: pt pb4 (.cells #[.int .i64 y4.Place, .int .i64 y4.Long, .int .i64 y4.Limit] 35 (0, 0)) :: pt pb5 (.cells #[.int .i64 q257] 3 (0, 0)) :: pt pb6 (.cells #[.slice a259 q258.length c260] 25 (0, 0)) :: pt pb7 (.cells #[.slice a263 n265 c264] 25 (0, 0)) :: pt pb8 (.cells #[.int .i64 y8] 3 (0, 0)) :: pt pb9 (.cells #[.func (.func 66) #[] #[.pointer (some ⟨pb0, 0, none⟩), .pointer (some ⟨pb1, 0, none⟩), .pointer (some ⟨pb2, 0, none⟩), .pointer (some ⟨pb3, 0, none⟩), .pointer (some ⟨pb4, 0, none⟩), .pointer (some ⟨pb5, 0, none⟩), .pointer (some ⟨pb6, 0, none⟩), .pointer (some ⟨pb7, 0, none⟩), .pointer (some ⟨pb8, 0, none⟩), .pointer (some ⟨pb9, 0, none⟩)]] 66 (0, 0)) :: vecC 3 1 a_v0 c_v0 y0.length cs_v0 :: nestC 44 3 1 a_v1 c_v1 y2.length ds254 :: nestC 44 3 1 a263 c264 n265 ds266 :: R)) ?_ ?_
   ·refine W.block ?_
    refine W.loop (fun m a w => ∃ (rest242 : Nat) (k240 : Nat), ∃ (q250 : List (List Int)), ∃ (q257 : Int), ∃ (q258 : List (List Int)), ∃ (q262 : List (List Int)), ∃ (ds254 : List In), ∃ (a259 : Option Addr), ∃ (c260 : Nat), ∃ (a263 : Option Addr), ∃ (c264 : Nat), ∃ (n265 : Nat), ∃ (ds266 : List In), ∃ (s247 : Sg), rest242 = m ∧ k240 + rest242 = q228.length ∧ s236.Le s247 ∧ Fishref2AssignOf_1_v1.loop3 x0 y0 y1 y3 y4 y8 self_Fishref2AssignOf_1_v1 x208 q228 rest242 k240 q250 q257 q258 q262 = some q239 ∧ NEv 1 (RI .i64) s247 ds254 q250 ∧ q250.length = y2.length ∧ Sl 1 (RL 1 (RI .i64)) s247 a259 c260 q258 ∧ NEv 1 (RI .i64) s247 ds266 q262 ∧ q262.length = n265 ∧ Rep a 199 [(0, .int .i64 x0), (2, .pointer (some ⟨pb1, 0, none⟩)), (3, .pointer (some ⟨pb2, 0, none⟩)), (4, .pointer (some ⟨pb3, 0, none⟩)), (9, .pointer (some ⟨pb8, 0, none⟩)), (10, .pointer (some ⟨pb9, 0, none⟩)), (19, .int .i64 x208), (88, .slice a230 q228.length c231), (89, .int .i64 ((q228.length : Nat) : Int)), (90, .int .i64 ((k240 : Nat) : Int))] ∧ St w s247 (vecC 44 1 a230 c231 q228.length cs233 :: pt pb0 (.cells #[.slice a_v0 y0.length c_v0] 44 (0, 0)) :: pt pb1 (.cells #[.slice a_y1_0 y1.length c_y1_0] 32 (0, 0)) :: pt pb2 (.cells #[.slice a_v1 y2.length c_v1] 25 (0, 0)) :: pt pb3 (.cells #[.slice a_y3_0 y3.length c_y3_0] 33 (0, 0)) :: pt pb4 (.cells #[.int .i64 y4.Place, .int .i64 y4.Long, .int .i64 y4.Limit] 35 (0, 0)) :: pt pb5 (.cells #[.int .i64 q257] 3 (0, 0)) :: pt pb6 (.cells #[.slice a259 q258.length c260] 25 (0, 0)) :: pt pb7 (.cells #[.slice a263 n265 c264] 25 (0, 0)) :: pt pb8 (.cells #[.int .i64 y8] 3 (0, 0)) :: pt pb9 (.cells #[.func (.func 66) #[] #[.pointer (some ⟨pb0, 0, none⟩), .pointer (some ⟨pb1, 0, none⟩), .pointer (some ⟨pb2, 0, none⟩), .pointer (some ⟨pb3, 0, none⟩), .pointer (some ⟨pb4, 0, none⟩), .pointer (some ⟨pb5, 0, none⟩), .pointer (some ⟨pb6, 0, none⟩), .pointer (some ⟨pb7, 0, none⟩), .pointer (some ⟨pb8, 0, none⟩), .pointer (some ⟨pb9, 0, none⟩)]] 66 (0, 0)) :: vecC 3 1 a_v0 c_v0 y0.length cs_v0 :: nestC 44 3 1 a_v1 c_v1 y2.length ds254 :: nestC 44 3 1 a263 c264 n265 ds266 :: R)) (m := q228.length) ⟨q228.length, 0, y2, y5, y6, y7, ds_v1, a_y6_0, c_y6_0, a_v2, c_v2, y7.length, ds_v2, s236, rfl, by omega, (Sg.Le.refl _), hq238, h_v1, (rfl), h_y6_0, h_v2, (rfl), hE.pick _ ⟨rfl, rfl, rfl, rfl, rfl, rfl, rfl, rfl, rfl, rfl, trivial⟩, hS⟩ ?_
    clear hE hS a w hq238; rintro m246 a w ⟨rest242, k240, q250, q257, q258, q262, ds254, a259, c260, a263, c264, n265, ds266, s247, rfl, hd243, hle248, hq238, h255, hn256, h261, h267, rfl, hE, hS⟩
    refine W.gen fun K269 hK269 => ?_
    replace h_y3_0 := Sl.mono RFleetSet.mono hle248 h_y3_0
    replace h_y1_0 := Sl.mono RFleetTask.mono hle248 h_y1_0
    replace h234 := Ev.mono (RL.mono RI.mono) hle248 h234
    replace h_y6_0 := Sl.mono (RL.mono RI.mono) hle248 h_y6_0
    replace h_v0 := Ev.mono RI.mono hle248 h_v0
    replace h_v1 := NEv.mono RI.mono hle248 h_v1
    replace h_v2 := NEv.mono RI.mono hle248 h_v2
    rcases rest242 with _ | rest242
    ·skip
     refine W.seq (W.region ?_)
     refine WL.vS hS hE (runs_plain rfl) (Gives.p hE rfl) rfl ?_; clear hE a; intro a hE
     refine WL.nil ?_
     refine W.seq ?_
     refine W.condF hE rfl (decide_eq_false (by omega)) ?_
     subst hK269
     refine W.exit rfl ?_
     exact ⟨q250, q257, q258, q262, ds254, a259, c260, a263, c264, q262.length, ds266, s247, hle248, Option.some.inj hq238, h255, hn256, h261, h267, rfl, hE.pick _ trivial, hS⟩
    ·have hlt244 : k240 < q228.length := by omega
     rw [Fishref2AssignOf_1_v1.loop3] at hq238
     refine W.seq (W.region ?_)
     refine WL.vS hS hE (runs_plain rfl) (Gives.p hE rfl) rfl ?_; clear hE a; intro a hE
     refine WL.nil ?_
     refine W.seq ?_
     refine W.condT hE rfl (decide_eq_true (by omega)) ?_
     refine W.skip ?_
     refine W.seq ?_
     refine W.block ?_
     refine W.seq (W.region ?_)
     obtain ⟨x270, hx271, hq238⟩ := bindS hq238
     obtain ⟨hi272, hlt273, hy274⟩ := gx_some hx271
     obtain ⟨vs275, hl276, hR277, hd278, hget279⟩ := h234.at hy274
     obtain ⟨a280, c281, rfl, h282⟩ := hR277
     refine WL.vS hS hE (runs_plain rfl) (Gives.idx hE ((((k240 : Nat) : Int)).toNat) rfl rfl sl25 hi272 (by omega) (hS.vecAok 0 rfl (by omega : (((k240 : Nat) : Int)).toNat < q228.length))) rfl ?_; clear hE a; intro a hE
     refine WL.vS hS hE (runs_plain rfl) (Gives.load1 hE rfl (fun w h => St.vecSees h 0 rfl ((((k240 : Nat) : Int)).toNat * 1) _ hget279) ty44) rfl ?_; clear hE a; intro a hE
     refine WL.vS hS hE (runs_plain rfl) (Gives.p hE rfl) rfl ?_; clear hE a; intro a hE
     refine WL.nil ?_
     refine W.seq (W.region ?_)
     refine WL.vS hS hE (runs_plain rfl) (Gives.p hE rfl) rfl ?_; clear hE a; intro a hE
     refine WL.nil ?_
     refine W.seq ?_
     refine W.seq (W.region ?_)
     refine WL.vS hS hE (runs_plain rfl) (Gives.p hE rfl) rfl ?_; clear hE a; intro a hE
     refine WL.vS hS hE (runs_plain rfl) (Gives.len hE rfl sl44) rfl ?_; clear hE a; intro a hE
     refine WL.vS hS hE (runs_plain rfl) (Gives.p hE rfl) rfl ?_; clear hE a; intro a hE
     refine WL.nil ?_
     obtain ⟨q284, hq283, hq238⟩ := bindS hq238
     refine W.cut (fun a w => ∃ (q294 : Bool), q294 = q284 ∧ Rep a 199 [(0, .int .i64 x0), (2, .pointer (some ⟨pb1, 0, none⟩)), (3, .pointer (some ⟨pb2, 0, none⟩)), (4, .pointer (some ⟨pb3, 0, none⟩)), (9, .pointer (some ⟨pb8, 0, none⟩)), (10, .pointer (some ⟨pb9, 0, none⟩)), (19, .int .i64 x208), (21, .slice a280 x270.length c281), (22, .bool q294), (88, .slice a230 q228.length c231), (89, .int .i64 ((q228.length : Nat) : Int)), (90, .int .i64 ((k240 : Nat) : Int))] ∧ St w s247 (vecC 44 1 a230 c231 q228.length cs233 :: pt pb0 (.cells #[.slice a_v0 y0.length c_v0] 44 (0, 0)) :: pt pb1 (.cells #[.slice a_y1_0 y1.length c_y1_0] 32 (0, 0)) :: pt pb2 (.cells #[.slice a_v1 y2.length c_v1] 25 (0, 0)) :: pt pb3 (.cells #[.slice a_y3_0 y3.length c_y3_0] 33 (0, 0)) :: pt pb4 (.cells #[.int .i64 y4.Place, .int .i64 y4.Long, .int .i64 y4.Limit] 35 (0, 0)) :: pt pb5 (.cells #[.int .i64 q257] 3 (0, 0)) :: pt pb6 (.cells #[.slice a259 q258.length c260] 25 (0, 0)) :: pt pb7 (.cells #[.slice a263 q262.length c264] 25 (0, 0)) :: pt pb8 (.cells #[.int .i64 y8] 3 (0, 0)) :: pt pb9 (.cells #[.func (.func 66) #[] #[.pointer (some ⟨pb0, 0, none⟩), .pointer (some ⟨pb1, 0, none⟩), .pointer (some ⟨pb2, 0, none⟩), .pointer (some ⟨pb3, 0, none⟩), .pointer (some ⟨pb4, 0, none⟩), .pointer (some ⟨pb5, 0, none⟩), .pointer (some ⟨pb6, 0, none⟩), .pointer (some ⟨pb7, 0, none⟩), .pointer (some ⟨pb8, 0, none⟩), .pointer (some ⟨pb9, 0, none⟩)]] 66 (0, 0)) :: vecC 3 1 a_v0 c_v0 y0.length cs_v0 :: nestC 44 3 1 a_v1 c_v1 y2.length ds254 :: nestC 44 3 1 a263 c264 q262.length ds266 :: R)) ?_ ?_
     ·refine W.block ?_
      refine W.loop (fun m a w => ∃ (rest287 : List Int) (k285 : Nat), ∃ (q294 : Bool), rest287.length = m ∧ x270.drop k285 = rest287 ∧ Fishref2AssignOf_1_v1.loop4 y1 y3 y8 x208 q250 rest287 q294 = some q284 ∧ Rep a 199 [(0, .int .i64 x0), (2, .pointer (some ⟨pb1, 0, none⟩)), (3, .pointer (some ⟨pb2, 0, none⟩)), (4, .pointer (some ⟨pb3, 0, none⟩)), (9, .pointer (some ⟨pb8, 0, none⟩)), (10, .pointer (some ⟨pb9, 0, none⟩)), (19, .int .i64 x208), (21, .slice a280 x270.length c281), (22, .bool q294), (88, .slice a230 q228.length c231), (89, .int .i64 ((q228.length : Nat) : Int)), (90, .int .i64 ((k240 : Nat) : Int)), (94, .slice a280 x270.length c281), (95, .int .i64 ((x270).length : Int)), (96, .int .i64 ((k285 : Nat) : Int))] ∧ St w s247 (vecC 44 1 a230 c231 q228.length cs233 :: pt pb0 (.cells #[.slice a_v0 y0.length c_v0] 44 (0, 0)) :: pt pb1 (.cells #[.slice a_y1_0 y1.length c_y1_0] 32 (0, 0)) :: pt pb2 (.cells #[.slice a_v1 y2.length c_v1] 25 (0, 0)) :: pt pb3 (.cells #[.slice a_y3_0 y3.length c_y3_0] 33 (0, 0)) :: pt pb4 (.cells #[.int .i64 y4.Place, .int .i64 y4.Long, .int .i64 y4.Limit] 35 (0, 0)) :: pt pb5 (.cells #[.int .i64 q257] 3 (0, 0)) :: pt pb6 (.cells #[.slice a259 q258.length c260] 25 (0, 0)) :: pt pb7 (.cells #[.slice a263 q262.length c264] 25 (0, 0)) :: pt pb8 (.cells #[.int .i64 y8] 3 (0, 0)) :: pt pb9 (.cells #[.func (.func 66) #[] #[.pointer (some ⟨pb0, 0, none⟩), .pointer (some ⟨pb1, 0, none⟩), .pointer (some ⟨pb2, 0, none⟩), .pointer (some ⟨pb3, 0, none⟩), .pointer (some ⟨pb4, 0, none⟩), .pointer (some ⟨pb5, 0, none⟩), .pointer (some ⟨pb6, 0, none⟩), .pointer (some ⟨pb7, 0, none⟩), .pointer (some ⟨pb8, 0, none⟩), .pointer (some ⟨pb9, 0, none⟩)]] 66 (0, 0)) :: vecC 3 1 a_v0 c_v0 y0.length cs_v0 :: nestC 44 3 1 a_v1 c_v1 y2.length ds254 :: nestC 44 3 1 a263 c264 q262.length ds266 :: R)) (m := x270.length) ⟨x270, 0, true, rfl, rfl, hq283, hE.pick _ ⟨rfl, rfl, rfl, rfl, rfl, rfl, rfl, rfl, rfl, rfl, rfl, rfl, rfl, rfl, rfl, trivial⟩, hS⟩ ?_
      clear hE hS a w hq283; rintro m291 a w ⟨rest287, k285, q294, rfl, hd288, hq283, hE, hS⟩
      refine W.gen fun K295 hK295 => ?_
      rcases rest287 with _ | ⟨x286, rest287⟩
      ·have hlt289 := drop_nil hd288
       refine W.seq (W.region ?_)
       refine WL.vS hS hE (runs_plain rfl) (Gives.p hE rfl) rfl ?_; clear hE a; intro a hE
       refine WL.nil ?_
       refine W.seq ?_
       refine W.condF hE rfl (decide_eq_false (by omega)) ?_
       subst hK295
       refine W.exit rfl ?_
       exact ⟨q294, Option.some.inj hq283, hE.pick _ ⟨rfl, rfl, rfl, rfl, rfl, rfl, rfl, rfl, rfl, rfl, rfl, rfl, trivial⟩, hS⟩
      ·obtain ⟨hlt289, hx290, hd288⟩ := drop_cons hd288
       rw [Fishref2AssignOf_1_v1.loop4] at hq283
       refine W.seq (W.region ?_)
       refine WL.vS hS hE (runs_plain rfl) (Gives.p hE rfl) rfl ?_; clear hE a; intro a hE
       refine WL.nil ?_
       refine W.seq ?_
       refine W.condT hE rfl (decide_eq_true (by omega)) ?_
       refine W.skip ?_
       refine W.seq ?_
       refine W.block ?_
       refine W.seq (W.region ?_)
       obtain ⟨cs296, hl297, hR298, hat299⟩ := h282.at hx290
       subst hR298
       refine WL.vS hS hE (runs_plain rfl) (Gives.idx hE k285 rfl rfl sl44 rfl hlt289 (h282.aok hlt289)) rfl ?_; clear hE a; intro a hE
       refine WL.vS hS hE (runs_plain rfl) (Gives.load1 hE rfl (fun w h => hat299 w _ h) ty3) rfl ?_; clear hE a; intro a hE
       refine WL.vS hS hE (runs_plain rfl) (Gives.p hE rfl) rfl ?_; clear hE a; intro a hE
       refine WL.nil ?_
       refine W.seq (W.region ?_)
       refine WL.vS hS hE (runs_plain rfl) (Gives.loadB hE 3 rfl rfl rfl ty25) rfl ?_; clear hE a; intro a hE
       refine WL.vS hS hE (runs_plain rfl) (Gives.p hE rfl) rfl ?_; clear hE a; intro a hE
       obtain ⟨x300, hx301, hq283⟩ := bindS hq283
       obtain ⟨hi302, hlt303, hy304⟩ := gx_some hx301
       obtain ⟨a305, c306, cs307, hd308, hev309⟩ := h255.at hy304
       refine WL.vS hS hE (runs_plain rfl) (Gives.idx hE ((x286).toNat) rfl rfl sl25 hi302 (by have := hn256; omega) (hS.nAok 12 rfl (by have := hn256; omega : (x286).toNat < y2.length))) rfl ?_; clear hE a; intro a hE
       refine WL.vS hS hE (runs_plain rfl) (Gives.load1 (v := .slice a305 x300.length c306) hE rfl (fun w h => St.nSees h 12 rfl hd308) ty44) rfl ?_; clear hE a; intro a hE
       refine WL.vS hS hE (runs_plain rfl) (Gives.p hE rfl) rfl ?_; clear hE a; intro a hE
       refine WL.nil ?_
       refine W.seq (W.region ?_)
       refine WL.vS hS hE (runs_plain rfl) (Gives.p hE rfl) rfl ?_; clear hE a; intro a hE
       refine WL.vS hS hE (runs_plain rfl) (Gives.len hE rfl sl44) rfl ?_; clear hE a; intro a hE
       refine WL.vS hS hE (runs_plain rfl) (Gives.p hE rfl) rfl ?_; clear hE a; intro a hE
       refine WL.nil ?_
       obtain ⟨q311, hq310, hq283⟩ := bindS hq283
       refine W.cut (fun a w => ∃ (q314 : Bool), q314 = q311 ∧ Rep a 199 [(0, .int .i64 x0), (2, .pointer (some ⟨pb1, 0, none⟩)), (3, .pointer (some ⟨pb2, 0, none⟩)), (4, .pointer (some ⟨pb3, 0, none⟩)), (9, .pointer (some ⟨pb8, 0, none⟩)), (10, .pointer (some ⟨pb9, 0, none⟩)), (19, .int .i64 x208), (21, .slice a280 x270.length c281), (22, .bool q314), (88, .slice a230 q228.length c231), (89, .int .i64 ((q228.length : Nat) : Int)), (90, .int .i64 ((k240 : Nat) : Int)), (94, .slice a280 x270.length c281), (95, .int .i64 ((x270).length : Int)), (96, .int .i64 ((k285 : Nat) : Int))] ∧ St w s247 (vecC 44 1 a230 c231 q228.length cs233 :: pt pb0 (.cells #[.slice a_v0 y0.length c_v0] 44 (0, 0)) :: pt pb1 (.cells #[.slice a_y1_0 y1.length c_y1_0] 32 (0, 0)) :: pt pb2 (.cells #[.slice a_v1 y2.length c_v1] 25 (0, 0)) :: pt pb3 (.cells #[.slice a_y3_0 y3.length c_y3_0] 33 (0, 0)) :: pt pb4 (.cells #[.int .i64 y4.Place, .int .i64 y4.Long, .int .i64 y4.Limit] 35 (0, 0)) :: pt pb5 (.cells #[.int .i64 q257] 3 (0, 0)) :: pt pb6 (.cells #[.slice a259 q258.length c260] 25 (0, 0)) :: pt pb7 (.cells #[.slice a263 q262.length c264] 25 (0, 0)) :: pt pb8 (.cells #[.int .i64 y8] 3 (0, 0)) :: pt pb9 (.cells #[.func (.func 66) #[] #[.pointer (some ⟨pb0, 0, none⟩), .pointer (some ⟨pb1, 0, none⟩), .pointer (some ⟨pb2, 0, none⟩), .pointer (some ⟨pb3, 0, none⟩), .pointer (some ⟨pb4, 0, none⟩), .pointer (some ⟨pb5, 0, none⟩), .pointer (some ⟨pb6, 0, none⟩), .pointer (some ⟨pb7, 0, none⟩), .pointer (some ⟨pb8, 0, none⟩), .pointer (some ⟨pb9, 0, none⟩)]] 66 (0, 0)) :: vecC 3 1 a_v0 c_v0 y0.length cs_v0 :: nestC 44 3 1 a_v1 c_v1 y2.length ds254 :: nestC 44 3 1 a263 c264 q262.length ds266 :: R)) ?_ ?_
       ·refine W.gen fun K315 hK315 => ?_
        refine W.cond hE rfl (fun hc316 => ?_) (fun hc316 => ?_)
        ·replace hq310 := iteT hc316 hq310
         obtain ⟨q318, hq317, hq310⟩ := bindS hq310
         refine W.cut (fun a w => ∃ (q321 : Bool), q321 = q318 ∧ Rep a 199 [(0, .int .i64 x0), (2, .pointer (some ⟨pb1, 0, none⟩)), (3, .pointer (some ⟨pb2, 0, none⟩)), (4, .pointer (some ⟨pb3, 0, none⟩)), (9, .pointer (some ⟨pb8, 0, none⟩)), (10, .pointer (some ⟨pb9, 0, none⟩)), (19, .int .i64 x208), (21, .slice a280 x270.length c281), (22, .bool q321), (88, .slice a230 q228.length c231), (89, .int .i64 ((q228.length : Nat) : Int)), (90, .int .i64 ((k240 : Nat) : Int)), (94, .slice a280 x270.length c281), (95, .int .i64 ((x270).length : Int)), (96, .int .i64 ((k285 : Nat) : Int))] ∧ St w s247 (vecC 44 1 a230 c231 q228.length cs233 :: pt pb0 (.cells #[.slice a_v0 y0.length c_v0] 44 (0, 0)) :: pt pb1 (.cells #[.slice a_y1_0 y1.length c_y1_0] 32 (0, 0)) :: pt pb2 (.cells #[.slice a_v1 y2.length c_v1] 25 (0, 0)) :: pt pb3 (.cells #[.slice a_y3_0 y3.length c_y3_0] 33 (0, 0)) :: pt pb4 (.cells #[.int .i64 y4.Place, .int .i64 y4.Long, .int .i64 y4.Limit] 35 (0, 0)) :: pt pb5 (.cells #[.int .i64 q257] 3 (0, 0)) :: pt pb6 (.cells #[.slice a259 q258.length c260] 25 (0, 0)) :: pt pb7 (.cells #[.slice a263 q262.length c264] 25 (0, 0)) :: pt pb8 (.cells #[.int .i64 y8] 3 (0, 0)) :: pt pb9 (.cells #[.func (.func 66) #[] #[.pointer (some ⟨pb0, 0, none⟩), .pointer (some ⟨pb1, 0, none⟩), .pointer (some ⟨pb2, 0, none⟩), .pointer (some ⟨pb3, 0, none⟩), .pointer (some ⟨pb4, 0, none⟩), .pointer (some ⟨pb5, 0, none⟩), .pointer (some ⟨pb6, 0, none⟩), .pointer (some ⟨pb7, 0, none⟩), .pointer (some ⟨pb8, 0, none⟩), .pointer (some ⟨pb9, 0, none⟩)]] 66 (0, 0)) :: vecC 3 1 a_v0 c_v0 y0.length cs_v0 :: nestC 44 3 1 a_v1 c_v1 y2.length ds254 :: nestC 44 3 1 a263 c264 q262.length ds266 :: R)) ?_ ?_
         ·refine W.gen fun K322 hK322 => ?_
          refine W.regionQ (C := fun w => St w s247 (vecC 44 1 a230 c231 q228.length cs233 :: pt pb0 (.cells #[.slice a_v0 y0.length c_v0] 44 (0, 0)) :: pt pb1 (.cells #[.slice a_y1_0 y1.length c_y1_0] 32 (0, 0)) :: pt pb2 (.cells #[.slice a_v1 y2.length c_v1] 25 (0, 0)) :: pt pb3 (.cells #[.slice a_y3_0 y3.length c_y3_0] 33 (0, 0)) :: pt pb4 (.cells #[.int .i64 y4.Place, .int .i64 y4.Long, .int .i64 y4.Limit] 35 (0, 0)) :: pt pb5 (.cells #[.int .i64 q257] 3 (0, 0)) :: pt pb6 (.cells #[.slice a259 q258.length c260] 25 (0, 0)) :: pt pb7 (.cells #[.slice a263 q262.length c264] 25 (0, 0)) :: pt pb8 (.cells #[.int .i64 y8] 3 (0, 0)) :: pt pb9 (.cells #[.func (.func 66) #[] #[.pointer (some ⟨pb0, 0, none⟩), .pointer (some ⟨pb1, 0, none⟩), .pointer (some ⟨pb2, 0, none⟩), .pointer (some ⟨pb3, 0, none⟩), .pointer (some ⟨pb4, 0, none⟩), .pointer (some ⟨pb5, 0, none⟩), .pointer (some ⟨pb6, 0, none⟩), .pointer (some ⟨pb7, 0, none⟩), .pointer (some ⟨pb8, 0, none⟩), .pointer (some ⟨pb9, 0, none⟩)]] 66 (0, 0)) :: vecC 3 1 a_v0 c_v0 y0.length cs_v0 :: nestC 44 3 1 a_v1 c_v1 y2.length ds254 :: nestC 44 3 1 a263 c264 q262.length ds266 :: R)) mixed (by kernel_rfl) hS.drew ?_
          refine QL.v hE (runs_plain rfl) (Gives.p hE rfl) rfl ?_; clear hE a; intro a hE
          refine QL.v hE (runs_plain rfl) (Gives.p hE rfl) rfl ?_; clear hE a; intro a hE
          rcases Bool.eq_false_or_eq_true q294 with hg323 | hg323
          ·replace hq317 := iteT hg323 hq317
           refine QL.v hE (runs_if hE rfl rfl rfl hg323) (Gives.loadB hE 4 rfl rfl rfl ty33) rfl ?_; clear hE a; intro a hE
           refine QL.v hE (runs_if hE rfl rfl rfl hg323) (Gives.p hE rfl) rfl ?_; clear hE a; intro a hE
           obtain ⟨x324, hx325, hq317⟩ := bindS hq317
           obtain ⟨hi326, hlt327, hy328⟩ := gx_some hx325
           obtain ⟨cs329, hl330, hR331, hat332⟩ := h_y3_0.at hy328
           subst hR331
           refine QL.v hE (runs_if hE rfl rfl rfl hg323) (Gives.idx hE (x286).toNat rfl rfl sl33 hi326 hlt327 (h_y3_0.aok hlt327)) rfl ?_; clear hE a; intro a hE
           refine QL.v hE (runs_if hE rfl rfl rfl hg323) (Gives.fld hE rfl fl84_0) rfl ?_; clear hE a; intro a hE
           refine QL.v hE (runs_if hE rfl rfl rfl hg323) (Gives.load1 hE rfl (fun w h => (hat332 w _ h).one rfl) ty3) rfl ?_; clear hE a; intro a hE
           refine QL.v hE (runs_if hE rfl rfl rfl hg323) (Gives.loadB hE 2 rfl rfl rfl ty32) rfl ?_; clear hE a; intro a hE
           refine QL.v hE (runs_if hE rfl rfl rfl hg323) (Gives.p hE rfl) rfl ?_; clear hE a; intro a hE
           obtain ⟨x333, hx334, hq317⟩ := bindS hq317
           obtain ⟨hi335, hlt336, hy337⟩ := gx_some hx334
           obtain ⟨cs338, hl339, hR340, hat341⟩ := h_y1_0.at hy337
           subst hR340
           refine QL.v hE (runs_if hE rfl rfl rfl hg323) (Gives.idx hE (x208).toNat rfl rfl sl32 hi335 hlt336 (h_y1_0.aok hlt336)) rfl ?_; clear hE a; intro a hE
           refine QL.v hE (runs_if hE rfl rfl rfl hg323) (Gives.fld hE rfl fl78_0) rfl ?_; clear hE a; intro a hE
           refine QL.v hE (runs_if hE rfl rfl rfl hg323) (Gives.load1 hE rfl (fun w h => (hat341 w _ h).one rfl) ty3) rfl ?_; clear hE a; intro a hE
           refine QL.v hE (runs_if hE rfl rfl rfl hg323) (Gives.p hE rfl) rfl ?_; clear hE a; intro a hE
           refine QL.v hE (runs_plain rfl) (Gives.pickT hE rfl hg323 rfl) rfl ?_; clear hE a; intro a hE
           refine QL.v hE (runs_plain rfl) (Gives.p hE rfl) rfl ?_; clear hE a; intro a hE
           refine QL.nil ?_; clear hS w; intro w hS
           subst hK322
           exact ⟨(x324.Home == x333.From), Option.some.inj hq317, hE.pick _ ⟨rfl, rfl, rfl, rfl, rfl, rfl, rfl, rfl, rfl, rfl, rfl, rfl, rfl, rfl, rfl, trivial⟩, hS⟩
          ·replace hq317 := iteF hg323 hq317
           refine QL.no hE (runs_not hE rfl rfl rfl (by rw [hg323]; decide)) rfl ?_; clear hE a; intro a hE
           refine QL.no hE (runs_not hE rfl rfl rfl (by rw [hg323]; decide)) rfl ?_; clear hE a; intro a hE
           refine QL.no hE (runs_not hE rfl rfl rfl (by rw [hg323]; decide)) rfl ?_; clear hE a; intro a hE
           refine QL.no hE (runs_not hE rfl rfl rfl (by rw [hg323]; decide)) rfl ?_; clear hE a; intro a hE
           refine QL.no hE (runs_not hE rfl rfl rfl (by rw [hg323]; decide)) rfl ?_; clear hE a; intro a hE
           refine QL.no hE (runs_not hE rfl rfl rfl (by rw [hg323]; decide)) rfl ?_; clear hE a; intro a hE
           refine QL.no hE (runs_not hE rfl rfl rfl (by rw [hg323]; decide)) rfl ?_; clear hE a; intro a hE
           refine QL.no hE (runs_not hE rfl rfl rfl (by rw [hg323]; decide)) rfl ?_; clear hE a; intro a hE
           refine QL.no hE (runs_not hE rfl rfl rfl (by rw [hg323]; decide)) rfl ?_; clear hE a; intro a hE
           refine QL.no hE (runs_not hE rfl rfl rfl (by rw [hg323]; decide)) rfl ?_; clear hE a; intro a hE
           refine QL.no hE (runs_not hE rfl rfl rfl (by rw [hg323]; decide)) rfl ?_; clear hE a; intro a hE
           refine QL.v hE (runs_plain rfl) (Gives.pickF hE rfl hg323 rfl) rfl ?_; clear hE a; intro a hE
           refine QL.v hE (runs_plain rfl) (Gives.p hE rfl) rfl ?_; clear hE a; intro a hE
           refine QL.nil ?_; clear hS w; intro w hS
           subst hK322
           exact ⟨false, Option.some.inj hq317, hE.pick _ ⟨rfl, rfl, rfl, rfl, rfl, rfl, rfl, rfl, rfl, rfl, rfl, rfl, rfl, rfl, rfl, trivial⟩, hS⟩
         ·clear hE hS a w; rintro a w ⟨q321, rfl, hE, hS⟩
          subst hK315
          exact ⟨q321, Option.some.inj hq310, hE.pick _ ⟨rfl, rfl, rfl, rfl, rfl, rfl, rfl, rfl, rfl, rfl, rfl, rfl, rfl, rfl, rfl, trivial⟩, hS⟩
        ·replace hq310 := iteF hc316 hq310
         refine W.seq ?_
         refine W.gen fun K342 hK342 => ?_
         refine W.regionE (sel (fun w => St w s247 (vecC 44 1 a230 c231 q228.length cs233 :: pt pb0 (.cells #[.slice a_v0 y0.length c_v0] 44 (0, 0)) :: pt pb1 (.cells #[.slice a_y1_0 y1.length c_y1_0] 32 (0, 0)) :: pt pb2 (.cells #[.slice a_v1 y2.length c_v1] 25 (0, 0)) :: pt pb3 (.cells #[.slice a_y3_0 y3.length c_y3_0] 33 (0, 0)) :: pt pb4 (.cells #[.int .i64 y4.Place, .int .i64 y4.Long, .int .i64 y4.Limit] 35 (0, 0)) :: pt pb5 (.cells #[.int .i64 q257] 3 (0, 0)) :: pt pb6 (.cells #[.slice a259 q258.length c260] 25 (0, 0)) :: pt pb7 (.cells #[.slice a263 q262.length c264] 25 (0, 0)) :: pt pb8 (.cells #[.int .i64 y8] 3 (0, 0)) :: pt pb9 (.cells #[.func (.func 66) #[] #[.pointer (some ⟨pb0, 0, none⟩), .pointer (some ⟨pb1, 0, none⟩), .pointer (some ⟨pb2, 0, none⟩), .pointer (some ⟨pb3, 0, none⟩), .pointer (some ⟨pb4, 0, none⟩), .pointer (some ⟨pb5, 0, none⟩), .pointer (some ⟨pb6, 0, none⟩), .pointer (some ⟨pb7, 0, none⟩), .pointer (some ⟨pb8, 0, none⟩), .pointer (some ⟨pb9, 0, none⟩)]] 66 (0, 0)) :: vecC 3 1 a_v0 c_v0 y0.length cs_v0 :: nestC 44 3 1 a_v1 c_v1 y2.length ds254 :: nestC 44 3 1 a263 c264 q262.length ds266 :: R)) (fun w => St w s247 (vecC 44 1 a230 c231 q228.length cs233 :: pt pb0 (.cells #[.slice a_v0 y0.length c_v0] 44 (0, 0)) :: pt pb1 (.cells #[.slice a_y1_0 y1.length c_y1_0] 32 (0, 0)) :: pt pb2 (.cells #[.slice a_v1 y2.length c_v1] 25 (0, 0)) :: pt pb3 (.cells #[.slice a_y3_0 y3.length c_y3_0] 33 (0, 0)) :: pt pb4 (.cells #[.int .i64 y4.Place, .int .i64 y4.Long, .int .i64 y4.Limit] 35 (0, 0)) :: pt pb5 (.cells #[.int .i64 q257] 3 (0, 0)) :: pt pb6 (.cells #[.slice a259 q258.length c260] 25 (0, 0)) :: pt pb7 (.cells #[.slice a263 q262.length c264] 25 (0, 0)) :: pt pb8 (.cells #[.int .i64 y8] 3 (0, 0)) :: pt pb9 (.cells #[.func (.func 66) #[] #[.pointer (some ⟨pb0, 0, none⟩), .pointer (some ⟨pb1, 0, none⟩), .pointer (some ⟨pb2, 0, none⟩), .pointer (some ⟨pb3, 0, none⟩), .pointer (some ⟨pb4, 0, none⟩), .pointer (some ⟨pb5, 0, none⟩), .pointer (some ⟨pb6, 0, none⟩), .pointer (some ⟨pb7, 0, none⟩), .pointer (some ⟨pb8, 0, none⟩), .pointer (some ⟨pb9, 0, none⟩)]] 66 (0, 0)) :: vecC 3 1 a_v0 c_v0 y0.length cs_v0 :: nestC 44 3 1 a_v1 c_v1 y2.length ds254 :: nestC 44 3 1 a263 c264 q262.length ds266 :: R))) (fun b i => cond b ([0, 1, 2, 3, 4, 5, 6, 7, 8, 9, 10].contains i) ([0, 1, 2, 3, 4, 5, 6, 7, 8, 9, 10].contains i)) mixed ?_
         replace hS := hS.drew
         have hT := tw_sel (A := fun w => St w s247 _) (B := fun w => St w s247 _) (w := _) (x := true) (y := true) (fun _ => hS) (fun _ => hS)
         have hF := hS; replace hS := hS
         refine Rg.take (i := 0) true rfl hE rfl (by kernel_rfl) (runs_plain rfl) (Gives.loadB hE 2 rfl rfl rfl ty32) rfl hT ?_; clear hE a; intro a hE
         replace hS := hF; clear hF hT
         refine Rg.takeP (i := 1) hE rfl (by kernel_rfl) (runs_plain rfl) (Gives.p hE rfl) rfl (tw_sel (fun _ => hS) (fun _ => hS)) ?_; clear hE a; intro a hE
         refine Rg.takeP (i := 2) hE rfl (by kernel_rfl) (runs_plain rfl) (Gives.p hE rfl) rfl (tw_sel (fun _ => hS) (fun _ => hS)) ?_; clear hE a; intro a hE
         refine Rg.takeP (i := 3) hE rfl (by kernel_rfl) (runs_plain rfl) (Gives.len hE rfl sl44) rfl (tw_sel (fun _ => hS) (fun _ => hS)) ?_; clear hE a; intro a hE
         refine Rg.takeP (i := 4) hE rfl (by kernel_rfl) (runs_plain rfl) (Gives.p hE rfl) rfl (tw_sel (fun _ => hS) (fun _ => hS)) ?_; clear hE a; intro a hE
         obtain ⟨x343, hx344, hq310⟩ := bindS hq310
         obtain ⟨hi345, hlt346, hy347⟩ := gx_some hx344
         obtain ⟨vs348, hl349, hR350, hd351, hget352⟩ := hev309.at hy347
         subst hR350
         refine Rg.takeP (i := 5) hE rfl (by kernel_rfl) (runs_plain rfl) (Gives.idx hE ((w64 (((x300).length : Int) - 1)).toNat) rfl rfl sl44 hi345 hlt346 (hS.nnAok 12 rfl hd308 hlt346)) rfl (tw_sel (fun _ => hS) (fun _ => hS)) ?_; clear hE a; intro a hE
         have hT := tw_sel (A := fun w => St w s247 _) (B := fun w => St w s247 _) (w := _) (x := true) (y := true) (fun _ => hS) (fun _ => hS)
         have hF := hS; replace hS := hS
         refine Rg.take (i := 6) true rfl hE rfl (by kernel_rfl) (runs_plain rfl) (Gives.load1 hE rfl (fun w h => St.nnSees h 12 rfl hd308 ((w64 (((x300).length : Int) - 1)).toNat * 1) _ hget352) ty3) rfl hT ?_; clear hE a; intro a hE
         replace hS := hF; clear hF hT
         obtain ⟨x353, hx354, hq310⟩ := bindS hq310
         obtain ⟨hi355, hlt356, hy357⟩ := gx_some hx354
         obtain ⟨cs358, hl359, hR360, hat361⟩ := h_y1_0.at hy357
         subst hR360
         refine Rg.takeP (i := 7) hE rfl (by kernel_rfl) (runs_plain rfl) (Gives.idx hE (x343).toNat rfl rfl sl32 hi355 hlt356 (h_y1_0.aok hlt356)) rfl (tw_sel (fun _ => hS) (fun _ => hS)) ?_; clear hE a; intro a hE
         have hT := tw_sel (A := fun w => St w s247 _) (B := fun w => St w s247 _) (w := _) (x := true) (y := true) (fun _ => hS) (fun _ => hS)
         have hF := hS; replace hS := hS
         refine Rg.take (i := 8) true rfl hE rfl (by kernel_rfl) (runs_plain rfl) (Gives.loadA hE rfl (fun w h => hat361 w _ h) ty78) rfl hT ?_; clear hE a; intro a hE
         replace hS := hF; clear hF hT
         refine Rg.one (i := 9) true true rfl (by kernel_rfl) (by kernel_rfl) (by kernel_rfl) ?_
         refine WL.alloc hE hS (runs_plain rfl) zr78 rfl ?_; clear hE hS a w; intro b362 a w hE hS
         refine WL.nil ?_
         refine ⟨⟨fun _ => (hS.tail), fun _ => (hS.tail)⟩, ?_⟩
         refine Rg.one (i := 10) true true rfl (by kernel_rfl) (by kernel_rfl) (by kernel_rfl) ?_
         refine WL.storeI hE hS 0 rfl (FleetTask.cells x353) (runs_plain rfl) rfl rfl rfl ty78 rfl rfl rfl rfl ?_; clear hE hS a w; intro a w hE hS
         refine WL.nil ?_
         refine ⟨⟨fun _ => (hS.tail), fun _ => (hS.tail)⟩, ?_⟩
         refine Rg.done (by kernel_rfl) ?_
         subst hK342
         obtain ⟨q364, hq363, hq310⟩ := bindS hq310
         refine W.cut (fun a w => ∃ (q367 : Bool), q367 = q364 ∧ Rep a 199 [(0, .int .i64 x0), (2, .pointer (some ⟨pb1, 0, none⟩)), (3, .pointer (some ⟨pb2, 0, none⟩)), (4, .pointer (some ⟨pb3, 0, none⟩)), (9, .pointer (some ⟨pb8, 0, none⟩)), (10, .pointer (some ⟨pb9, 0, none⟩)), (19, .int .i64 x208), (21, .slice a280 x270.length c281), (22, .bool q367), (88, .slice a230 q228.length c231), (89, .int .i64 ((q228.length : Nat) : Int)), (90, .int .i64 ((k240 : Nat) : Int)), (94, .slice a280 x270.length c281), (95, .int .i64 ((x270).length : Int)), (96, .int .i64 ((k285 : Nat) : Int))] ∧ St w s247 (pt b362 (.cells (FleetTask.cells x353).toArray 78 (0, 0)) :: vecC 44 1 a230 c231 q228.length cs233 :: pt pb0 (.cells #[.slice a_v0 y0.length c_v0] 44 (0, 0)) :: pt pb1 (.cells #[.slice a_y1_0 y1.length c_y1_0] 32 (0, 0)) :: pt pb2 (.cells #[.slice a_v1 y2.length c_v1] 25 (0, 0)) :: pt pb3 (.cells #[.slice a_y3_0 y3.length c_y3_0] 33 (0, 0)) :: pt pb4 (.cells #[.int .i64 y4.Place, .int .i64 y4.Long, .int .i64 y4.Limit] 35 (0, 0)) :: pt pb5 (.cells #[.int .i64 q257] 3 (0, 0)) :: pt pb6 (.cells #[.slice a259 q258.length c260] 25 (0, 0)) :: pt pb7 (.cells #[.slice a263 q262.length c264] 25 (0, 0)) :: pt pb8 (.cells #[.int .i64 y8] 3 (0, 0)) :: pt pb9 (.cells #[.func (.func 66) #[] #[.pointer (some ⟨pb0, 0, none⟩), .pointer (some ⟨pb1, 0, none⟩), .pointer (some ⟨pb2, 0, none⟩), .pointer (some ⟨pb3, 0, none⟩), .pointer (some ⟨pb4, 0, none⟩), .pointer (some ⟨pb5, 0, none⟩), .pointer (some ⟨pb6, 0, none⟩), .pointer (some ⟨pb7, 0, none⟩), .pointer (some ⟨pb8, 0, none⟩), .pointer (some ⟨pb9, 0, none⟩)]] 66 (0, 0)) :: vecC 3 1 a_v0 c_v0 y0.length cs_v0 :: nestC 44 3 1 a_v1 c_v1 y2.length ds254 :: nestC 44 3 1 a263 c264 q262.length ds266 :: R)) ?_ ?_
         ·refine W.gen fun K368 hK368 => ?_
          refine W.regionQ (C := fun w => St w s247 (pt b362 (.cells (FleetTask.cells x353).toArray 78 (0, 0)) :: vecC 44 1 a230 c231 q228.length cs233 :: pt pb0 (.cells #[.slice a_v0 y0.length c_v0] 44 (0, 0)) :: pt pb1 (.cells #[.slice a_y1_0 y1.length c_y1_0] 32 (0, 0)) :: pt pb2 (.cells #[.slice a_v1 y2.length c_v1] 25 (0, 0)) :: pt pb3 (.cells #[.slice a_y3_0 y3.length c_y3_0] 33 (0, 0)) :: pt pb4 (.cells #[.int .i64 y4.Place, .int .i64 y4.Long, .int .i64 y4.Limit] 35 (0, 0)) :: pt pb5 (.cells #[.int .i64 q257] 3 (0, 0)) :: pt pb6 (.cells #[.slice a259 q258.length c260] 25 (0, 0)) :: pt pb7 (.cells #[.slice a263 q262.length c264] 25 (0, 0)) :: pt pb8 (.cells #[.int .i64 y8] 3 (0, 0)) :: pt pb9 (.cells #[.func (.func 66) #[] #[.pointer (some ⟨pb0, 0, none⟩), .pointer (some ⟨pb1, 0, none⟩), .pointer (some ⟨pb2, 0, none⟩), .pointer (some ⟨pb3, 0, none⟩), .pointer (some ⟨pb4, 0, none⟩), .pointer (some ⟨pb5, 0, none⟩), .pointer (some ⟨pb6, 0, none⟩), .pointer (some ⟨pb7, 0, none⟩), .pointer (some ⟨pb8, 0, none⟩), .pointer (some ⟨pb9, 0, none⟩)]] 66 (0, 0)) :: vecC 3 1 a_v0 c_v0 y0.length cs_v0 :: nestC 44 3 1 a_v1 c_v1 y2.length ds254 :: nestC 44 3 1 a263 c264 q262.length ds266 :: R)) mixed (by kernel_rfl) hS.drew ?_
          refine QL.v hE (runs_plain rfl) (Gives.p hE rfl) rfl ?_; clear hE a; intro a hE
          refine QL.v hE (runs_plain rfl) (Gives.p hE rfl) rfl ?_; clear hE a; intro a hE
          rcases Bool.eq_false_or_eq_true q294 with hg369 | hg369
          ·replace hq363 := iteT hg369 hq363
           refine QL.v hE (runs_if hE rfl rfl rfl hg369) (Gives.fld hE rfl fl78_1) rfl ?_; clear hE a; intro a hE
           refine QL.v hE (runs_if hE rfl rfl rfl hg369) (Gives.loadB hE 0 rfl rfl rfl ty3) rfl ?_; clear hE a; intro a hE
           refine QL.v hE (runs_if hE rfl rfl rfl hg369) (Gives.loadB hE 3 rfl rfl rfl ty32) rfl ?_; clear hE a; intro a hE
           refine QL.v hE (runs_if hE rfl rfl rfl hg369) (Gives.p hE rfl) rfl ?_; clear hE a; intro a hE
           obtain ⟨x370, hx371, hq363⟩ := bindS hq363
           obtain ⟨hi372, hlt373, hy374⟩ := gx_some hx371
           obtain ⟨cs375, hl376, hR377, hat378⟩ := h_y1_0.at hy374
           subst hR377
           refine QL.v hE (runs_if hE rfl rfl rfl hg369) (Gives.idx hE (x208).toNat rfl rfl sl32 hi372 hlt373 (h_y1_0.aok hlt373)) rfl ?_; clear hE a; intro a hE
           refine QL.v hE (runs_if hE rfl rfl rfl hg369) (Gives.fld hE rfl fl78_0) rfl ?_; clear hE a; intro a hE
           refine QL.v hE (runs_if hE rfl rfl rfl hg369) (Gives.load1 hE rfl (fun w h => (hat378 w _ h).one rfl) ty3) rfl ?_; clear hE a; intro a hE
           refine QL.v hE (runs_if hE rfl rfl rfl hg369) (Gives.p hE rfl) rfl ?_; clear hE a; intro a hE
           refine QL.v hE (runs_plain rfl) (Gives.pickT hE rfl hg369 rfl) rfl ?_; clear hE a; intro a hE
           refine QL.v hE (runs_plain rfl) (Gives.p hE rfl) rfl ?_; clear hE a; intro a hE
           rcases Bool.eq_false_or_eq_true (x353.To == x370.From) with hg379 | hg379
           ·replace hq363 := iteT hg379 hq363
            refine QL.v hE (runs_if hE rfl rfl rfl hg379) (Gives.fld hE rfl fl78_3) rfl ?_; clear hE a; intro a hE
            refine QL.v hE (runs_if hE rfl rfl rfl hg379) (Gives.loadB hE 0 rfl rfl rfl ty3) rfl ?_; clear hE a; intro a hE
            refine QL.v hE (runs_if hE rfl rfl rfl hg379) (Gives.loadB hE 10 rfl rfl rfl ty3) rfl ?_; clear hE a; intro a hE
            refine QL.v hE (runs_if hE rfl rfl rfl hg379) (Gives.p hE rfl) rfl ?_; clear hE a; intro a hE
            refine QL.v hE (runs_if hE rfl rfl rfl hg379) (Gives.loadB hE 3 rfl rfl rfl ty32) rfl ?_; clear hE a; intro a hE
            refine QL.v hE (runs_if hE rfl rfl rfl hg379) (Gives.p hE rfl) rfl ?_; clear hE a; intro a hE
            obtain ⟨x380, hx381, hq363⟩ := bindS hq363
            obtain ⟨hi382, hlt383, hy384⟩ := gx_some hx381
            obtain ⟨cs385, hl386, hR387, hat388⟩ := h_y1_0.at hy384
            subst hR387
            refine QL.v hE (runs_if hE rfl rfl rfl hg379) (Gives.idx hE (x208).toNat rfl rfl sl32 hi382 hlt383 (h_y1_0.aok hlt383)) rfl ?_; clear hE a; intro a hE
            refine QL.v hE (runs_if hE rfl rfl rfl hg379) (Gives.fld hE rfl fl78_2) rfl ?_; clear hE a; intro a hE
            refine QL.v hE (runs_if hE rfl rfl rfl hg379) (Gives.load1 hE rfl (fun w h => (hat388 w _ h).one rfl) ty3) rfl ?_; clear hE a; intro a hE
            refine QL.v hE (runs_if hE rfl rfl rfl hg379) (Gives.p hE rfl) rfl ?_; clear hE a; intro a hE
            refine QL.v hE (runs_plain rfl) (Gives.pickT hE rfl hg379 rfl) rfl ?_; clear hE a; intro a hE
            refine QL.v hE (runs_plain rfl) (Gives.p hE rfl) rfl ?_; clear hE a; intro a hE
            refine QL.nil ?_; clear hS w; intro w hS
            subst hK368
            exact ⟨decide ((w64 (x353.Arr + y8)) ≤ x380.Dep), Option.some.inj hq363, hE.pick _ ⟨rfl, rfl, rfl, rfl, rfl, rfl, rfl, rfl, rfl, rfl, rfl, rfl, rfl, rfl, rfl, trivial⟩, hS⟩
           ·replace hq363 := iteF hg379 hq363
            refine QL.no hE (runs_not hE rfl rfl rfl (by rw [hg379]; decide)) rfl ?_; clear hE a; intro a hE
            refine QL.no hE (runs_not hE rfl rfl rfl (by rw [hg379]; decide)) rfl ?_; clear hE a; intro a hE
            refine QL.no hE (runs_not hE rfl rfl rfl (by rw [hg379]; decide)) rfl ?_; clear hE a; intro a hE
            refine QL.no hE (runs_not hE rfl rfl rfl (by rw [hg379]; decide)) rfl ?_; clear hE a; intro a hE
            refine QL.no hE (runs_not hE rfl rfl rfl (by rw [hg379]; decide)) rfl ?_; clear hE a; intro a hE
            refine QL.no hE (runs_not hE rfl rfl rfl (by rw [hg379]; decide)) rfl ?_; clear hE a; intro a hE
            refine QL.no hE (runs_not hE rfl rfl rfl (by rw [hg379]; decide)) rfl ?_; clear hE a; intro a hE
            refine QL.no hE (runs_not hE rfl rfl rfl (by rw [hg379]; decide)) rfl ?_; clear hE a; intro a hE
            refine QL.no hE (runs_not hE rfl rfl rfl (by rw [hg379]; decide)) rfl ?_; clear hE a; intro a hE
            refine QL.no hE (runs_not hE rfl rfl rfl (by rw [hg379]; decide)) rfl ?_; clear hE a; intro a hE
            refine QL.v hE (runs_plain rfl) (Gives.pickF hE rfl hg379 rfl) rfl ?_; clear hE a; intro a hE
            refine QL.v hE (runs_plain rfl) (Gives.p hE rfl) rfl ?_; clear hE a; intro a hE
            refine QL.nil ?_; clear hS w; intro w hS
            subst hK368
            exact ⟨false, Option.some.inj hq363, hE.pick _ ⟨rfl, rfl, rfl, rfl, rfl, rfl, rfl, rfl, rfl, rfl, rfl, rfl, rfl, rfl, rfl, trivial⟩, hS⟩
          ·replace hq363 := iteF hg369 hq363
           refine QL.no hE (runs_not hE rfl rfl rfl (by rw [hg369]; decide)) rfl ?_; clear hE a; intro a hE
           refine QL.no hE (runs_not hE rfl rfl rfl (by rw [hg369]; decide)) rfl ?_; clear hE a; intro a hE
           refine QL.no hE (runs_not hE rfl rfl rfl (by rw [hg369]; decide)) rfl ?_; clear hE a; intro a hE
           refine QL.no hE (runs_not hE rfl rfl rfl (by rw [hg369]; decide)) rfl ?_; clear hE a; intro a hE
           refine QL.no hE (runs_not hE rfl rfl rfl (by rw [hg369]; decide)) rfl ?_; clear hE a; intro a hE
           refine QL.no hE (runs_not hE rfl rfl rfl (by rw [hg369]; decide)) rfl ?_; clear hE a; intro a hE
           refine QL.no hE (runs_not hE rfl rfl rfl (by rw [hg369]; decide)) rfl ?_; clear hE a; intro a hE
           refine QL.no hE (runs_not hE rfl rfl rfl (by rw [hg369]; decide)) rfl ?_; clear hE a; intro a hE
           refine QL.v hE (runs_plain rfl) (Gives.pickF hE rfl hg369 rfl) rfl ?_; clear hE a; intro a hE
           refine QL.v hE (runs_plain rfl) (Gives.p hE rfl) rfl ?_; clear hE a; intro a hE
           refine QL.no hE (runs_not hE rfl rfl rfl (by decide)) rfl ?_; clear hE a; intro a hE
           refine QL.no hE (runs_not hE rfl rfl rfl (by decide)) rfl ?_; clear hE a; intro a hE
           refine QL.no hE (runs_not hE rfl rfl rfl (by decide)) rfl ?_; clear hE a; intro a hE
           refine QL.no hE (runs_not hE rfl rfl rfl (by decide)) rfl ?_; clear hE a; intro a hE
           refine QL.no hE (runs_not hE rfl rfl rfl (by decide)) rfl ?_; clear hE a; intro a hE
           refine QL.no hE (runs_not hE rfl rfl rfl (by decide)) rfl ?_; clear hE a; intro a hE
           refine QL.no hE (runs_not hE rfl rfl rfl (by decide)) rfl ?_; clear hE a; intro a hE
           refine QL.no hE (runs_not hE rfl rfl rfl (by decide)) rfl ?_; clear hE a; intro a hE
           refine QL.no hE (runs_not hE rfl rfl rfl (by decide)) rfl ?_; clear hE a; intro a hE
           refine QL.no hE (runs_not hE rfl rfl rfl (by decide)) rfl ?_; clear hE a; intro a hE
           refine QL.v hE (runs_plain rfl) (Gives.pickF hE rfl rfl rfl) rfl ?_; clear hE a; intro a hE
           refine QL.v hE (runs_plain rfl) (Gives.p hE rfl) rfl ?_; clear hE a; intro a hE
           refine QL.nil ?_; clear hS w; intro w hS
           subst hK368
           exact ⟨false, Option.some.inj hq363, hE.pick _ ⟨rfl, rfl, rfl, rfl, rfl, rfl, rfl, rfl, rfl, rfl, rfl, rfl, rfl, rfl, rfl, trivial⟩, hS⟩
         ·clear hE hS a w; rintro a w ⟨q367, rfl, hE, hS⟩
          replace hS := hS.tail
          subst hK315
          exact ⟨q367, Option.some.inj hq310, hE.pick _ ⟨rfl, rfl, rfl, rfl, rfl, rfl, rfl, rfl, rfl, rfl, rfl, rfl, rfl, rfl, rfl, trivial⟩, hS⟩
       ·clear hE hS a w; rintro a w ⟨q314, rfl, hE, hS⟩
        refine W.region ?_
        refine WL.vS hS hE (runs_plain rfl) (Gives.inc hE rfl (by have := h282.small; omega)) rfl ?_; clear hE a; intro a hE
        refine WL.vS hS hE (runs_plain rfl) (Gives.p hE rfl) rfl ?_; clear hE a; intro a hE
        refine WL.nil ?_
        subst hK295
        exact ⟨rest287.length, Nat.lt_succ_self _, rest287, k285 + 1, q314, rfl, hd288, hq283, hE.pick _ ⟨rfl, rfl, rfl, rfl, rfl, rfl, rfl, rfl, rfl, rfl, rfl, rfl, rfl, rfl, rfl, trivial⟩, hS⟩
     ·clear hE hS a w; rintro a w ⟨q294, rfl, hE, hS⟩
      refine W.seq ?_
      refine W.seq (W.region ?_)
      refine WL.vS hS hE (runs_plain rfl) (Gives.p hE rfl) rfl ?_; clear hE a; intro a hE
      refine WL.vS hS hE (runs_plain rfl) (Gives.p hE rfl) rfl ?_; clear hE a; intro a hE
      refine WL.nil ?_
      refine W.cond hE rfl (fun hc389 => ?_) (fun hc389 => ?_)
      ·replace hq238 := iteT hc389 hq238
       refine W.exit rfl ?_
       refine W.region ?_
       refine WL.vS hS hE (runs_plain rfl) (Gives.inc hE rfl (by omega)) rfl ?_; clear hE a; intro a hE
       refine WL.vS hS hE (runs_plain rfl) (Gives.p hE rfl) rfl ?_; clear hE a; intro a hE
       refine WL.nil ?_
       subst hK269
       exact ⟨rest242, Nat.lt_succ_self _, rest242, k240 + 1, q250, q257, q258, q262, ds254, a259, c260, a263, c264, q262.length, ds266, s247, rfl, (by omega), hle248, hq238, h255, hn256, h261, h267, rfl, hE.pick _ ⟨rfl, rfl, rfl, rfl, rfl, rfl, rfl, rfl, rfl, rfl, trivial⟩, hS⟩
      ·replace hq238 := iteF hc389 hq238
       refine W.skip ?_
       refine W.seq ?_
       refine W.seq (W.region ?_)
       refine WL.vS hS hE (runs_plain rfl) (Gives.p hE rfl) rfl ?_; clear hE a; intro a hE
       refine WL.vS hS hE (runs_plain rfl) (Gives.len hE rfl sl44) rfl ?_; clear hE a; intro a hE
       refine WL.vS hS hE (runs_plain rfl) (Gives.p hE rfl) rfl ?_; clear hE a; intro a hE
       refine WL.nil ?_
       obtain ⟨q391, hq390, hq238⟩ := bindS hq238
       refine W.cut (fun a w => ∃ (q401 : List (List Int)), ∃ (ds405 : List In), q401 = q391 ∧ NEv 1 (RI .i64) s247 ds405 q401 ∧ q401.length = y2.length ∧ Rep a 199 [(0, .int .i64 x0), (2, .pointer (some ⟨pb1, 0, none⟩)), (3, .pointer (some ⟨pb2, 0, none⟩)), (4, .pointer (some ⟨pb3, 0, none⟩)), (9, .pointer (some ⟨pb8, 0, none⟩)), (10, .pointer (some ⟨pb9, 0, none⟩)), (19, .int .i64 x208), (21, .slice a280 x270.length c281), (88, .slice a230 q228.length c231), (89, .int .i64 ((q228.length : Nat) : Int)), (90, .int .i64 ((k240 : Nat) : Int))] ∧ St w s247 (vecC 44 1 a230 c231 q228.length cs233 :: pt pb0 (.cells #[.slice a_v0 y0.length c_v0] 44 (0, 0)) :: pt pb1 (.cells #[.slice a_y1_0 y1.length c_y1_0] 32 (0, 0)) :: pt pb2 (.cells #[.slice a_v1 y2.length c_v1] 25 (0, 0)) :: pt pb3 (.cells #[.slice a_y3_0 y3.length c_y3_0] 33 (0, 0)) :: pt pb4 (.cells #[.int .i64 y4.Place, .int .i64 y4.Long, .int .i64 y4.Limit] 35 (0, 0)) :: pt pb5 (.cells #[.int .i64 q257] 3 (0, 0)) :: pt pb6 (.cells #[.slice a259 q258.length c260] 25 (0, 0)) :: pt pb7 (.cells #[.slice a263 q262.length c264] 25 (0, 0)) :: pt pb8 (.cells #[.int .i64 y8] 3 (0, 0)) :: pt pb9 (.cells #[.func (.func 66) #[] #[.pointer (some ⟨pb0, 0, none⟩), .pointer (some ⟨pb1, 0, none⟩), .pointer (some ⟨pb2, 0, none⟩), .pointer (some ⟨pb3, 0, none⟩), .pointer (some ⟨pb4, 0, none⟩), .pointer (some ⟨pb5, 0, none⟩), .pointer (some ⟨pb6, 0, none⟩), .pointer (some ⟨pb7, 0, none⟩), .pointer (some ⟨pb8, 0, none⟩), .pointer (some ⟨pb9, 0, none⟩)]] 66 (0, 0)) :: vecC 3 1 a_v0 c_v0 y0.length cs_v0 :: nestC 44 3 1 a_v1 c_v1 y2.length ds405 :: nestC 44 3 1 a263 c264 q262.length ds266 :: R)) ?_ ?_
       ·refine W.block ?_
        refine W.loop (fun m a w => ∃ (rest394 : List Int) (k392 : Nat), ∃ (q401 : List (List Int)), ∃ (ds405 : List In), rest394.length = m ∧ x270.drop k392 = rest394 ∧ Fishref2AssignOf_1_v1.loop5 x208 rest394 q401 = some q391 ∧ NEv 1 (RI .i64) s247 ds405 q401 ∧ q401.length = y2.length ∧ Rep a 199 [(0, .int .i64 x0), (2, .pointer (some ⟨pb1, 0, none⟩)), (3, .pointer (some ⟨pb2, 0, none⟩)), (4, .pointer (some ⟨pb3, 0, none⟩)), (9, .pointer (some ⟨pb8, 0, none⟩)), (10, .pointer (some ⟨pb9, 0, none⟩)), (19, .int .i64 x208), (21, .slice a280 x270.length c281), (88, .slice a230 q228.length c231), (89, .int .i64 ((q228.length : Nat) : Int)), (90, .int .i64 ((k240 : Nat) : Int)), (156, .slice a280 x270.length c281), (157, .int .i64 ((x270).length : Int)), (158, .int .i64 ((k392 : Nat) : Int))] ∧ St w s247 (vecC 44 1 a230 c231 q228.length cs233 :: pt pb0 (.cells #[.slice a_v0 y0.length c_v0] 44 (0, 0)) :: pt pb1 (.cells #[.slice a_y1_0 y1.length c_y1_0] 32 (0, 0)) :: pt pb2 (.cells #[.slice a_v1 y2.length c_v1] 25 (0, 0)) :: pt pb3 (.cells #[.slice a_y3_0 y3.length c_y3_0] 33 (0, 0)) :: pt pb4 (.cells #[.int .i64 y4.Place, .int .i64 y4.Long, .int .i64 y4.Limit] 35 (0, 0)) :: pt pb5 (.cells #[.int .i64 q257] 3 (0, 0)) :: pt pb6 (.cells #[.slice a259 q258.length c260] 25 (0, 0)) :: pt pb7 (.cells #[.slice a263 q262.length c264] 25 (0, 0)) :: pt pb8 (.cells #[.int .i64 y8] 3 (0, 0)) :: pt pb9 (.cells #[.func (.func 66) #[] #[.pointer (some ⟨pb0, 0, none⟩), .pointer (some ⟨pb1, 0, none⟩), .pointer (some ⟨pb2, 0, none⟩), .pointer (some ⟨pb3, 0, none⟩), .pointer (some ⟨pb4, 0, none⟩), .pointer (some ⟨pb5, 0, none⟩), .pointer (some ⟨pb6, 0, none⟩), .pointer (some ⟨pb7, 0, none⟩), .pointer (some ⟨pb8, 0, none⟩), .pointer (some ⟨pb9, 0, none⟩)]] 66 (0, 0)) :: vecC 3 1 a_v0 c_v0 y0.length cs_v0 :: nestC 44 3 1 a_v1 c_v1 y2.length ds405 :: nestC 44 3 1 a263 c264 q262.length ds266 :: R)) (m := x270.length) ⟨x270, 0, q250, ds254, rfl, rfl, hq390, h255, hn256, hE.pick _ ⟨rfl, rfl, rfl, rfl, rfl, rfl, rfl, rfl, rfl, rfl, rfl, rfl, rfl, rfl, trivial⟩, hS⟩ ?_
        clear hE hS a w hq390; rintro m398 a w ⟨rest394, k392, q401, ds405, rfl, hd395, hq390, h406, hn407, hE, hS⟩
        refine W.gen fun K408 hK408 => ?_
        rcases rest394 with _ | ⟨x393, rest394⟩
        ·have hlt396 := drop_nil hd395
         refine W.seq (W.region ?_)
         refine WL.vS hS hE (runs_plain rfl) (Gives.p hE rfl) rfl ?_; clear hE a; intro a hE
         refine WL.nil ?_
         refine W.seq ?_
         refine W.condF hE rfl (decide_eq_false (by omega)) ?_
         subst hK408
         refine W.exit rfl ?_
         exact ⟨q401, ds405, Option.some.inj hq390, h406, hn407, hE.pick _ ⟨rfl, rfl, rfl, rfl, rfl, rfl, rfl, rfl, rfl, rfl, rfl, trivial⟩, hS⟩
        ·obtain ⟨hlt396, hx397, hd395⟩ := drop_cons hd395
         rw [Fishref2AssignOf_1_v1.loop5] at hq390
         refine W.seq (W.region ?_)
         refine WL.vS hS hE (runs_plain rfl) (Gives.p hE rfl) rfl ?_; clear hE a; intro a hE
         refine WL.nil ?_
         refine W.seq ?_
         refine W.condT hE rfl (decide_eq_true (by omega)) ?_
         refine W.skip ?_
         refine W.seq ?_
         refine W.block ?_
         refine W.seq (W.region ?_)
         obtain ⟨cs409, hl410, hR411, hat412⟩ := h282.at hx397
         subst hR411
         refine WL.vS hS hE (runs_plain rfl) (Gives.idx hE k392 rfl rfl sl44 rfl hlt396 (h282.aok hlt396)) rfl ?_; clear hE a; intro a hE
         refine WL.vS hS hE (runs_plain rfl) (Gives.load1 hE rfl (fun w h => hat412 w _ h) ty3) rfl ?_; clear hE a; intro a hE
         refine WL.vS hS hE (runs_plain rfl) (Gives.p hE rfl) rfl ?_; clear hE a; intro a hE
         refine WL.nil ?_
         refine W.gen fun K413 hK413 => ?_
         refine W.regionE (sel (fun w => St w s247 (vecC 44 1 a230 c231 q228.length cs233 :: pt pb0 (.cells #[.slice a_v0 y0.length c_v0] 44 (0, 0)) :: pt pb1 (.cells #[.slice a_y1_0 y1.length c_y1_0] 32 (0, 0)) :: pt pb2 (.cells #[.slice a_v1 y2.length c_v1] 25 (0, 0)) :: pt pb3 (.cells #[.slice a_y3_0 y3.length c_y3_0] 33 (0, 0)) :: pt pb4 (.cells #[.int .i64 y4.Place, .int .i64 y4.Long, .int .i64 y4.Limit] 35 (0, 0)) :: pt pb5 (.cells #[.int .i64 q257] 3 (0, 0)) :: pt pb6 (.cells #[.slice a259 q258.length c260] 25 (0, 0)) :: pt pb7 (.cells #[.slice a263 q262.length c264] 25 (0, 0)) :: pt pb8 (.cells #[.int .i64 y8] 3 (0, 0)) :: pt pb9 (.cells #[.func (.func 66) #[] #[.pointer (some ⟨pb0, 0, none⟩), .pointer (some ⟨pb1, 0, none⟩), .pointer (some ⟨pb2, 0, none⟩), .pointer (some ⟨pb3, 0, none⟩), .pointer (some ⟨pb4, 0, none⟩), .pointer (some ⟨pb5, 0, none⟩), .pointer (some ⟨pb6, 0, none⟩), .pointer (some ⟨pb7, 0, none⟩), .pointer (some ⟨pb8, 0, none⟩), .pointer (some ⟨pb9, 0, none⟩)]] 66 (0, 0)) :: vecC 3 1 a_v0 c_v0 y0.length cs_v0 :: nestC 44 3 1 a_v1 c_v1 y2.length ds405 :: nestC 44 3 1 a263 c264 q262.length ds266 :: R)) (fun w => St w s247 (vecC 44 1 a230 c231 q228.length cs233 :: pt pb0 (.cells #[.slice a_v0 y0.length c_v0] 44 (0, 0)) :: pt pb1 (.cells #[.slice a_y1_0 y1.length c_y1_0] 32 (0, 0)) :: pt pb2 (.cells #[.slice a_v1 y2.length c_v1] 25 (0, 0)) :: pt pb3 (.cells #[.slice a_y3_0 y3.length c_y3_0] 33 (0, 0)) :: pt pb4 (.cells #[.int .i64 y4.Place, .int .i64 y4.Long, .int .i64 y4.Limit] 35 (0, 0)) :: pt pb5 (.cells #[.int .i64 q257] 3 (0, 0)) :: pt pb6 (.cells #[.slice a259 q258.length c260] 25 (0, 0)) :: pt pb7 (.cells #[.slice a263 q262.length c264] 25 (0, 0)) :: pt pb8 (.cells #[.int .i64 y8] 3 (0, 0)) :: pt pb9 (.cells #[.func (.func 66) #[] #[.pointer (some ⟨pb0, 0, none⟩), .pointer (some ⟨pb1, 0, none⟩), .pointer (some ⟨pb2, 0, none⟩), .pointer (some ⟨pb3, 0, none⟩), .pointer (some ⟨pb4, 0, none⟩), .pointer (some ⟨pb5, 0, none⟩), .pointer (some ⟨pb6, 0, none⟩), .pointer (some ⟨pb7, 0, none⟩), .pointer (some ⟨pb8, 0, none⟩), .pointer (some ⟨pb9, 0, none⟩)]] 66 (0, 0)) :: vecC 3 1 a_v0 c_v0 y0.length cs_v0 :: nestC 44 3 1 a263 c264 q262.length ds266 :: R))) (fun b i => cond b ([0, 1, 2, 3, 4, 5, 6, 7, 9].contains i) ([0, 1, 2, 3, 4, 5, 6, 7, 8, 9, 10].contains i)) mixed ?_
         replace hS := hS.drew
         have hT := tw_sel (A := fun w => St w s247 _) (B := fun w => St w s247 _) (w := _) (x := true) (y := true) (fun _ => hS) (fun _ => (hS.dropAt 12))
         have hF := hS; replace hS := (hS.dropAt 12)
         refine Rg.take (i := 0) false rfl hE rfl (by kernel_rfl) (runs_plain rfl) (Gives.loadB hE 3 rfl rfl rfl ty25) rfl hT ?_; clear hE a; intro a hE
         replace hS := hF; clear hF hT
         refine Rg.takeP (i := 1) hE rfl (by kernel_rfl) (runs_plain rfl) (Gives.p hE rfl) rfl (tw_sel (fun _ => hS) (fun _ => (hS.dropAt 12))) ?_; clear hE a; intro a hE
         have hT := tw_sel (A := fun w => St w s247 _) (B := fun w => St w s247 _) (w := _) (x := true) (y := true) (fun _ => hS) (fun _ => (hS.dropAt 12))
         have hF := hS; replace hS := (hS.dropAt 12)
         refine Rg.take (i := 2) false rfl hE rfl (by kernel_rfl) (runs_plain rfl) (Gives.loadB hE 3 rfl rfl rfl ty25) rfl hT ?_; clear hE a; intro a hE
         replace hS := hF; clear hF hT
         refine Rg.takeP (i := 3) hE rfl (by kernel_rfl) (runs_plain rfl) (Gives.p hE rfl) rfl (tw_sel (fun _ => hS) (fun _ => (hS.dropAt 12))) ?_; clear hE a; intro a hE
         obtain ⟨x414, hx415, hq390⟩ := bindS hq390
         obtain ⟨hi416, hlt417, hy418⟩ := gx_some hx415
         obtain ⟨a419, c420, cs421, hd422, hev423⟩ := h406.at hy418
         refine Rg.takeP (i := 4) hE rfl (by kernel_rfl) (runs_plain rfl) (Gives.idx hE ((x393).toNat) rfl rfl sl25 hi416 (by have := hn407; omega) (hS.nAok 12 rfl (by have := hn407; omega : (x393).toNat < y2.length))) rfl (tw_sel (fun _ => hS) (fun _ => (hS.dropAt 12))) ?_; clear hE a; intro a hE
         have hT := tw_sel (A := fun w => St w s247 _) (B := fun w => St w s247 _) (w := _) (x := true) (y := true) (fun _ => hS) (fun _ => (hS.dropAt 12))
         have hF := hS; replace hS := hS
         refine Rg.take (i := 5) true rfl hE rfl (by kernel_rfl) (runs_plain rfl) (Gives.load1 (v := .slice a419 x414.length c420) hE rfl (fun w h => St.nSees h 12 rfl hd422) ty44) rfl hT ?_; clear hE a; intro a hE
         replace hS := hF; clear hF hT
         refine Rg.takeP (i := 6) hE rfl (by kernel_rfl) (runs_plain rfl) (Gives.p hE rfl) rfl (tw_sel (fun _ => hS) (fun _ => (hS.dropAt 12))) ?_; clear hE a; intro a hE
         refine Rg.one (i := 7) true true rfl (by kernel_rfl) (by kernel_rfl) (by kernel_rfl) ?_
         refine WL.lit hE hS (e := 3) (es := 1) (vs := [(0, .int .i64 x208)]) (cs := [.int .i64 x208]) (runs_plain rfl) rfl (by kernel_rfl) rfl ?_; clear hE hS a w; intro b424 a w hE hS
         refine WL.nil ?_
         refine ⟨⟨fun _ => (hS.tail), fun _ => ((hS.tail).dropAt 12)⟩, ?_⟩
         refine Rg.one (i := 8) false true rfl (by kernel_rfl) (by kernel_rfl) (by kernel_rfl) ?_
         replace hS := hS.borrowM 13 rfl hd422
         replace hS := hS.front 1 rfl
         obtain ⟨x426, hx427, hq390⟩ := bindS hq390
         refine WL.appD hE hS 0 (m := 1) (runs_plain rfl) rfl rfl rfl ap44 rfl hev423 (rfl) (xs := [x208]) (Ev.cons (c1 := [.int .i64 x208]) rfl rfl (Ev.nil)) rfl rfl hx427 rfl ?_; clear hE hS a w; intro a428 c429 cs430 a w h431 hE hS
         refine WL.nil ?_
         refine ⟨⟨fun h => absurd h (by decide), fun _ => ((hS.tail).dropAt 12)⟩, ?_⟩
         obtain ⟨_, hx432, hq390⟩ := bindS hq390
         obtain ⟨h433, h434⟩ := ix_some hx432
         refine Rg.takeP (i := 9) hE rfl (by kernel_rfl) (runs_plain rfl) (Gives.idx hE ((x393).toNat) rfl rfl sl25 h433 (by have := hn407; omega) (hS.hAok 13 rfl (by have := hn407; omega : (x393).toNat < y2.length))) rfl (tw_sel (fun h => absurd h (by decide)) (fun _ => ((hS.tail).dropAt 12))) ?_; clear hE a; intro a hE
         refine Rg.one (i := 10) false true rfl (by kernel_rfl) (by kernel_rfl) (by kernel_rfl) ?_
         obtain ⟨x435, hx436, hq390⟩ := bindS hq390
         refine WL.storeND hE hS 12 rfl (runs_plain rfl) rfl rfl ty44 h406 hn407 (by have := (sx_some hx436).1; omega) hx436 h431 (rfl) rfl ?_; clear hE hS a w; intro ds437 a w h438 hn439 hE hS
         refine WL.nil ?_
         refine ⟨⟨fun h => absurd h (by decide), fun _ => (hS.dropAt 12)⟩, ?_⟩
         refine Rg.done (by kernel_rfl) ?_
         subst hK413
         refine W.region ?_
         refine WL.vS hS hE (runs_plain rfl) (Gives.inc hE rfl (by have := h282.small; omega)) rfl ?_; clear hE a; intro a hE
         refine WL.vS hS hE (runs_plain rfl) (Gives.p hE rfl) rfl ?_; clear hE a; intro a hE
         refine WL.nil ?_
         subst hK408
         exact ⟨rest394.length, Nat.lt_succ_self _, rest394, k392 + 1, x435, ds437, rfl, hd395, hq390, h438, hn439, hE.pick _ ⟨rfl, rfl, rfl, rfl, rfl, rfl, rfl, rfl, rfl, rfl, rfl, rfl, rfl, rfl, trivial⟩, hS⟩
       ·clear hE hS a w; rintro a w ⟨q401, ds405, rfl, h406, hn407, hE, hS⟩
        refine W.seq (W.region ?_)
        refine WL.vS hS hE (runs_plain rfl) (Gives.loadB hE 10 rfl rfl rfl ty66) rfl ?_; clear hE a; intro a hE
        refine WL.vS hS hE (runs_plain rfl) (Gives.p hE rfl) rfl ?_; clear hE a; intro a hE
        refine WL.vS hS hE (runs_plain rfl) (Gives.p hE rfl) rfl ?_; clear hE a; intro a hE
        obtain ⟨q440, hq441, hq238⟩ := bindS hq238
        replace hS := hS.front 13 rfl
        replace hS := hS.front 13 rfl
        replace hS := hS.front 13 rfl
        replace hS := hS.front 13 rfl
        replace hS := hS.front 13 rfl
        replace hS := hS.front 13 rfl
        replace hS := hS.front 13 rfl
        replace hS := hS.front 13 rfl
        replace hS := hS.front 13 rfl
        replace hS := hS.front 13 rfl
        replace hS := hS.front 13 rfl
        replace hS := hS.front 13 rfl
        replace hS := hS.front 13 rfl
        have hc_ := ih_Fishref2AssignOf_1_v1 (y4 := y4) hS h_v0 (rfl) h_y1_0 h406 hn407 h_y3_0 h261 h267 rfl hq441
        refine WL.fnw hE (hc_) rfl (runs_plain rfl) bd66 rfl rfl rfl ?_
        clear hE hS hc_; rintro e w ⟨ds442, a445, c446, a448, c449, n450, ds451, s453, rfl, hle454, h443, hn444, h447, h452, rfl, hS⟩; refine ⟨_, rfl, ?_⟩; clear a; intro a hE
        replace h282 := Sl.mono RI.mono hle454 h282
        replace h_y1_0 := Sl.mono RFleetTask.mono hle454 h_y1_0
        replace h_y3_0 := Sl.mono RFleetSet.mono hle454 h_y3_0
        replace h261 := Sl.mono (RL.mono RI.mono) hle454 h261
        replace h_v0 := Ev.mono RI.mono hle454 h_v0
        replace h406 := NEv.mono RI.mono hle454 h406
        replace h267 := NEv.mono RI.mono hle454 h267
        replace h234 := Ev.mono (RL.mono RI.mono) hle454 h234
        refine WL.nil ?_
        refine W.seq (W.region ?_)
        refine WL.vS hS hE (runs_plain rfl) (Gives.p hE rfl) rfl ?_; clear hE a; intro a hE
        refine WL.vS hS hE (runs_plain rfl) (Gives.len hE rfl sl44) rfl ?_; clear hE a; intro a hE
        refine WL.vS hS hE (runs_plain rfl) (Gives.p hE rfl) rfl ?_; clear hE a; intro a hE
        refine WL.nil ?_
        obtain ⟨q456, hq455, hq238⟩ := bindS hq238
        refine W.cut (fun a w => ∃ (q466 : List (List Int)), ∃ (ds470 : List In), q466 = q456 ∧ NEv 1 (RI .i64) s453 ds470 q466 ∧ q466.length = y2.length ∧ Rep a 199 [(0, .int .i64 x0), (2, .pointer (some ⟨pb1, 0, none⟩)), (3, .pointer (some ⟨pb2, 0, none⟩)), (4, .pointer (some ⟨pb3, 0, none⟩)), (9, .pointer (some ⟨pb8, 0, none⟩)), (10, .pointer (some ⟨pb9, 0, none⟩)), (19, .int .i64 x208), (88, .slice a230 q228.length c231), (89, .int .i64 ((q228.length : Nat) : Int)), (90, .int .i64 ((k240 : Nat) : Int))] ∧ St w s453 (pt pb0 (.cells #[.slice a_v0 y0.length c_v0] 44 (0, 0)) :: pt pb1 (.cells #[.slice a_y1_0 y1.length c_y1_0] 32 (0, 0)) :: pt pb2 (.cells #[.slice a_v1 y2.length c_v1] 25 (0, 0)) :: pt pb3 (.cells #[.slice a_y3_0 y3.length c_y3_0] 33 (0, 0)) :: pt pb4 (.cells #[.int .i64 y4.Place, .int .i64 y4.Long, .int .i64 y4.Limit] 35 (0, 0)) :: pt pb5 (.cells #[.int .i64 q440.2.1] 3 (0, 0)) :: pt pb6 (.cells #[.slice a445 q440.2.2.1.length c446] 25 (0, 0)) :: pt pb7 (.cells #[.slice a448 q440.2.2.2.length c449] 25 (0, 0)) :: pt pb8 (.cells #[.int .i64 y8] 3 (0, 0)) :: pt pb9 (.cells #[.func (.func 66) #[] #[.pointer (some ⟨pb0, 0, none⟩), .pointer (some ⟨pb1, 0, none⟩), .pointer (some ⟨pb2, 0, none⟩), .pointer (some ⟨pb3, 0, none⟩), .pointer (some ⟨pb4, 0, none⟩), .pointer (some ⟨pb5, 0, none⟩), .pointer (some ⟨pb6, 0, none⟩), .pointer (some ⟨pb7, 0, none⟩), .pointer (some ⟨pb8, 0, none⟩), .pointer (some ⟨pb9, 0, none⟩)]] 66 (0, 0)) :: vecC 3 1 a_v0 c_v0 y0.length cs_v0 :: nestC 44 3 1 a_v1 c_v1 y2.length ds470 :: nestC 44 3 1 a448 c449 q440.2.2.2.length ds451 :: vecC 44 1 a230 c231 q228.length cs233 :: R)) ?_ ?_
        ·refine W.block ?_
         refine W.loop (fun m a w => ∃ (rest459 : List Int) (k457 : Nat), ∃ (q466 : List (List Int)), ∃ (ds470 : List In), rest459.length = m ∧ x270.drop k457 = rest459 ∧ Fishref2AssignOf_1_v1.loop6 rest459 q466 = some q456 ∧ NEv 1 (RI .i64) s453 ds470 q466 ∧ q466.length = y2.length ∧ Rep a 199 [(0, .int .i64 x0), (2, .pointer (some ⟨pb1, 0, none⟩)), (3, .pointer (some ⟨pb2, 0, none⟩)), (4, .pointer (some ⟨pb3, 0, none⟩)), (9, .pointer (some ⟨pb8, 0, none⟩)), (10, .pointer (some ⟨pb9, 0, none⟩)), (19, .int .i64 x208), (88, .slice a230 q228.length c231), (89, .int .i64 ((q228.length : Nat) : Int)), (90, .int .i64 ((k240 : Nat) : Int)), (177, .slice a280 x270.length c281), (178, .int .i64 ((x270).length : Int)), (179, .int .i64 ((k457 : Nat) : Int))] ∧ St w s453 (pt pb0 (.cells #[.slice a_v0 y0.length c_v0] 44 (0, 0)) :: pt pb1 (.cells #[.slice a_y1_0 y1.length c_y1_0] 32 (0, 0)) :: pt pb2 (.cells #[.slice a_v1 y2.length c_v1] 25 (0, 0)) :: pt pb3 (.cells #[.slice a_y3_0 y3.length c_y3_0] 33 (0, 0)) :: pt pb4 (.cells #[.int .i64 y4.Place, .int .i64 y4.Long, .int .i64 y4.Limit] 35 (0, 0)) :: pt pb5 (.cells #[.int .i64 q440.2.1] 3 (0, 0)) :: pt pb6 (.cells #[.slice a445 q440.2.2.1.length c446] 25 (0, 0)) :: pt pb7 (.cells #[.slice a448 q440.2.2.2.length c449] 25 (0, 0)) :: pt pb8 (.cells #[.int .i64 y8] 3 (0, 0)) :: pt pb9 (.cells #[.func (.func 66) #[] #[.pointer (some ⟨pb0, 0, none⟩), .pointer (some ⟨pb1, 0, none⟩), .pointer (some ⟨pb2, 0, none⟩), .pointer (some ⟨pb3, 0, none⟩), .pointer (some ⟨pb4, 0, none⟩), .pointer (some ⟨pb5, 0, none⟩), .pointer (some ⟨pb6, 0, none⟩), .pointer (some ⟨pb7, 0, none⟩), .pointer (some ⟨pb8, 0, none⟩), .pointer (some ⟨pb9, 0, none⟩)]] 66 (0, 0)) :: vecC 3 1 a_v0 c_v0 y0.length cs_v0 :: nestC 44 3 1 a_v1 c_v1 y2.length ds470 :: nestC 44 3 1 a448 c449 q440.2.2.2.length ds451 :: vecC 44 1 a230 c231 q228.length cs233 :: R)) (m := x270.length) ⟨x270, 0, q440.1, ds442, rfl, rfl, hq455, h443, hn444, hE.pick _ ⟨rfl, rfl, rfl, rfl, rfl, rfl, rfl, rfl, rfl, rfl, rfl, rfl, rfl, trivial⟩, hS⟩ ?_
         clear hE hS a w hq455; rintro m463 a w ⟨rest459, k457, q466, ds470, rfl, hd460, hq455, h471, hn472, hE, hS⟩
         refine W.gen fun K473 hK473 => ?_
         rcases rest459 with _ | ⟨x458, rest459⟩
         ·have hlt461 := drop_nil hd460
          refine W.seq (W.region ?_)
          refine WL.vS hS hE (runs_plain rfl) (Gives.p hE rfl) rfl ?_; clear hE a; intro a hE
          refine WL.nil ?_
          refine W.seq ?_
          refine W.condF hE rfl (decide_eq_false (by omega)) ?_
          subst hK473
          refine W.exit rfl ?_
          exact ⟨q466, ds470, Option.some.inj hq455, h471, hn472, hE.pick _ ⟨rfl, rfl, rfl, rfl, rfl, rfl, rfl, rfl, rfl, rfl, trivial⟩, hS⟩
         ·obtain ⟨hlt461, hx462, hd460⟩ := drop_cons hd460
          rw [Fishref2AssignOf_1_v1.loop6] at hq455
          refine W.seq (W.region ?_)
          refine WL.vS hS hE (runs_plain rfl) (Gives.p hE rfl) rfl ?_; clear hE a; intro a hE
          refine WL.nil ?_
          refine W.seq ?_
          refine W.condT hE rfl (decide_eq_true (by omega)) ?_
          refine W.skip ?_
          refine W.seq ?_
          refine W.block ?_
          refine W.seq (W.region ?_)
          obtain ⟨cs474, hl475, hR476, hat477⟩ := h282.at hx462
          subst hR476
          refine WL.vS hS hE (runs_plain rfl) (Gives.idx hE k457 rfl rfl sl44 rfl hlt461 (h282.aok hlt461)) rfl ?_; clear hE a; intro a hE
          refine WL.vS hS hE (runs_plain rfl) (Gives.load1 hE rfl (fun w h => hat477 w _ h) ty3) rfl ?_; clear hE a; intro a hE
          refine WL.vS hS hE (runs_plain rfl) (Gives.p hE rfl) rfl ?_; clear hE a; intro a hE
          refine WL.nil ?_
          refine W.gen fun K478 hK478 => ?_
          refine W.regionE (sel (fun w => St w s453 (pt pb0 (.cells #[.slice a_v0 y0.length c_v0] 44 (0, 0)) :: pt pb1 (.cells #[.slice a_y1_0 y1.length c_y1_0] 32 (0, 0)) :: pt pb2 (.cells #[.slice a_v1 y2.length c_v1] 25 (0, 0)) :: pt pb3 (.cells #[.slice a_y3_0 y3.length c_y3_0] 33 (0, 0)) :: pt pb4 (.cells #[.int .i64 y4.Place, .int .i64 y4.Long, .int .i64 y4.Limit] 35 (0, 0)) :: pt pb5 (.cells #[.int .i64 q440.2.1] 3 (0, 0)) :: pt pb6 (.cells #[.slice a445 q440.2.2.1.length c446] 25 (0, 0)) :: pt pb7 (.cells #[.slice a448 q440.2.2.2.length c449] 25 (0, 0)) :: pt pb8 (.cells #[.int .i64 y8] 3 (0, 0)) :: pt pb9 (.cells #[.func (.func 66) #[] #[.pointer (some ⟨pb0, 0, none⟩), .pointer (some ⟨pb1, 0, none⟩), .pointer (some ⟨pb2, 0, none⟩), .pointer (some ⟨pb3, 0, none⟩), .pointer (some ⟨pb4, 0, none⟩), .pointer (some ⟨pb5, 0, none⟩), .pointer (some ⟨pb6, 0, none⟩), .pointer (some ⟨pb7, 0, none⟩), .pointer (some ⟨pb8, 0, none⟩), .pointer (some ⟨pb9, 0, none⟩)]] 66 (0, 0)) :: vecC 3 1 a_v0 c_v0 y0.length cs_v0 :: nestC 44 3 1 a448 c449 q440.2.2.2.length ds451 :: vecC 44 1 a230 c231 q228.length cs233 :: R)) (fun w => St w s453 (pt pb0 (.cells #[.slice a_v0 y0.length c_v0] 44 (0, 0)) :: pt pb1 (.cells #[.slice a_y1_0 y1.length c_y1_0] 32 (0, 0)) :: pt pb2 (.cells #[.slice a_v1 y2.length c_v1] 25 (0, 0)) :: pt pb3 (.cells #[.slice a_y3_0 y3.length c_y3_0] 33 (0, 0)) :: pt pb4 (.cells #[.int .i64 y4.Place, .int .i64 y4.Long, .int .i64 y4.Limit] 35 (0, 0)) :: pt pb5 (.cells #[.int .i64 q440.2.1] 3 (0, 0)) :: pt pb6 (.cells #[.slice a445 q440.2.2.1.length c446] 25 (0, 0)) :: pt pb7 (.cells #[.slice a448 q440.2.2.2.length c449] 25 (0, 0)) :: pt pb8 (.cells #[.int .i64 y8] 3 (0, 0)) :: pt pb9 (.cells #[.func (.func 66) #[] #[.pointer (some ⟨pb0, 0, none⟩), .pointer (some ⟨pb1, 0, none⟩), .pointer (some ⟨pb2, 0, none⟩), .pointer (some ⟨pb3, 0, none⟩), .pointer (some ⟨pb4, 0, none⟩), .pointer (some ⟨pb5, 0, none⟩), .pointer (some ⟨pb6, 0, none⟩), .pointer (some ⟨pb7, 0, none⟩), .pointer (some ⟨pb8, 0, none⟩), .pointer (some ⟨pb9, 0, none⟩)]] 66 (0, 0)) :: vecC 3 1 a_v0 c_v0 y0.length cs_v0 :: nestC 44 3 1 a448 c449 q440.2.2.2.length ds451 :: vecC 44 1 a230 c231 q228.length cs233 :: R))) (fun b i => cond b ([0, 1, 2, 3, 4, 5, 6, 7, 8, 9, 10, 11, 12, 13, 14].contains i) ([0, 1, 2, 3, 4, 5, 6, 7, 8, 9, 10, 11, 12, 13, 14].contains i)) mixed ?_
          replace hS := hS.drew
          have hT := tw_sel (A := fun w => St w s453 _) (B := fun w => St w s453 _) (w := _) (x := true) (y := true) (fun _ => (hS.dropAt 11)) (fun _ => (hS.dropAt 11))
          have hF := hS; replace hS := (hS.dropAt 11)
          refine Rg.take (i := 0) true rfl hE rfl (by kernel_rfl) (runs_plain rfl) (Gives.loadB hE 2 rfl rfl rfl ty25) rfl hT ?_; clear hE a; intro a hE
          replace hS := hF; clear hF hT
          refine Rg.takeP (i := 1) hE rfl (by kernel_rfl) (runs_plain rfl) (Gives.p hE rfl) rfl (tw_sel (fun _ => (hS.dropAt 11)) (fun _ => (hS.dropAt 11))) ?_; clear hE a; intro a hE
          have hT := tw_sel (A := fun w => St w s453 _) (B := fun w => St w s453 _) (w := _) (x := true) (y := true) (fun _ => (hS.dropAt 11)) (fun _ => (hS.dropAt 11))
          have hF := hS; replace hS := (hS.dropAt 11)
          refine Rg.take (i := 2) true rfl hE rfl (by kernel_rfl) (runs_plain rfl) (Gives.loadB hE 2 rfl rfl rfl ty25) rfl hT ?_; clear hE a; intro a hE
          replace hS := hF; clear hF hT
          refine Rg.takeP (i := 3) hE rfl (by kernel_rfl) (runs_plain rfl) (Gives.p hE rfl) rfl (tw_sel (fun _ => (hS.dropAt 11)) (fun _ => (hS.dropAt 11))) ?_; clear hE a; intro a hE
          obtain ⟨x479, hx480, hq455⟩ := bindS hq455
          obtain ⟨hi481, hlt482, hy483⟩ := gx_some hx480
          obtain ⟨a484, c485, cs486, hd487, hev488⟩ := h471.at hy483
          refine Rg.takeP (i := 4) hE rfl (by kernel_rfl) (runs_plain rfl) (Gives.idx hE ((x458).toNat) rfl rfl sl25 hi481 (by have := hn472; omega) (hS.nAok 11 rfl (by have := hn472; omega : (x458).toNat < y2.length))) rfl (tw_sel (fun _ => (hS.dropAt 11)) (fun _ => (hS.dropAt 11))) ?_; clear hE a; intro a hE
          have hT := tw_sel (A := fun w => St w s453 _) (B := fun w => St w s453 _) (w := _) (x := true) (y := true) (fun _ => (hS.dropAt 11)) (fun _ => (hS.dropAt 11))
          have hF := hS; replace hS := (hS.dropAt 11)
          refine Rg.take (i := 6) true rfl hE rfl (by kernel_rfl) (runs_plain rfl) (Gives.loadB hE 2 rfl rfl rfl ty25) rfl hT ?_; clear hE a; intro a hE
          replace hS := hF; clear hF hT
          refine Rg.takeP (i := 7) hE rfl (by kernel_rfl) (runs_plain rfl) (Gives.p hE rfl) rfl (tw_sel (fun _ => (hS.dropAt 11)) (fun _ => (hS.dropAt 11))) ?_; clear hE a; intro a hE
          obtain ⟨x489, hx490, hq455⟩ := bindS hq455
          obtain ⟨hi491, hlt492, hy493⟩ := gx_some hx490
          obtain ⟨a494, c495, cs496, hd497, hev498⟩ := h471.at hy493
          refine Rg.takeP (i := 8) hE rfl (by kernel_rfl) (runs_plain rfl) (Gives.idx hE ((x458).toNat) rfl rfl sl25 hi491 (by have := hn472; omega) (hS.nAok 11 rfl (by have := hn472; omega : (x458).toNat < y2.length))) rfl (tw_sel (fun _ => (hS.dropAt 11)) (fun _ => (hS.dropAt 11))) ?_; clear hE a; intro a hE
          obtain ⟨x500, hx501, hq455⟩ := bindS hq455
          obtain ⟨_, hx509, hq455⟩ := bindS hq455
          obtain ⟨x512, hx513, hq455⟩ := bindS hq455
          suffices key : ∀ ds514 (a : Act) (w : World), Sl 1 (RI .i64) s453 a280 c281 x270 → Sl 6 RFleetTask s453 a_y1_0 c_y1_0 y1 → Sl 2 RFleetSet s453 a_y3_0 c_y3_0 y3 → Sl 1 (RL 1 (RI .i64)) s453 a445 c446 q440.2.2.1 → Ev 1 (RI .i64) s453 cs_v0 y0 → NEv 1 (RI .i64) s453 ds514 x512 → (x512).length = y2.length → NEv 1 (RI .i64) s453 ds451 q440.2.2.2 → Ev 1 (RL 1 (RI .i64)) s453 cs233 q228 → Rep a 199 [(0, .int .i64 x0), (2, .pointer (some ⟨pb1, 0, none⟩)), (3, .pointer (some ⟨pb2, 0, none⟩)), (4, .pointer (some ⟨pb3, 0, none⟩)), (9, .pointer (some ⟨pb8, 0, none⟩)), (10, .pointer (some ⟨pb9, 0, none⟩)), (19, .int .i64 x208), (88, .slice a230 q228.length c231), (89, .int .i64 ((q228.length : Nat) : Int)), (90, .int .i64 ((k240 : Nat) : Int)), (177, .slice a280 x270.length c281), (178, .int .i64 ((x270).length : Int)), (179, .int .i64 ((k457 : Nat) : Int))] → St w s453 (pt pb0 (.cells #[.slice a_v0 y0.length c_v0] 44 (0, 0)) :: pt pb1 (.cells #[.slice a_y1_0 y1.length c_y1_0] 32 (0, 0)) :: pt pb2 (.cells #[.slice a_v1 y2.length c_v1] 25 (0, 0)) :: pt pb3 (.cells #[.slice a_y3_0 y3.length c_y3_0] 33 (0, 0)) :: pt pb4 (.cells #[.int .i64 y4.Place, .int .i64 y4.Long, .int .i64 y4.Limit] 35 (0, 0)) :: pt pb5 (.cells #[.int .i64 q440.2.1] 3 (0, 0)) :: pt pb6 (.cells #[.slice a445 q440.2.2.1.length c446] 25 (0, 0)) :: pt pb7 (.cells #[.slice a448 q440.2.2.2.length c449] 25 (0, 0)) :: pt pb8 (.cells #[.int .i64 y8] 3 (0, 0)) :: pt pb9 (.cells #[.func (.func 66) #[] #[.pointer (some ⟨pb0, 0, none⟩), .pointer (some ⟨pb1, 0, none⟩), .pointer (some ⟨pb2, 0, none⟩), .pointer (some ⟨pb3, 0, none⟩), .pointer (some ⟨pb4, 0, none⟩), .pointer (some ⟨pb5, 0, none⟩), .pointer (some ⟨pb6, 0, none⟩), .pointer (some ⟨pb7, 0, none⟩), .pointer (some ⟨pb8, 0, none⟩), .pointer (some ⟨pb9, 0, none⟩)]] 66 (0, 0)) :: vecC 3 1 a_v0 c_v0 y0.length cs_v0 :: nestC 44 3 1 a_v1 c_v1 y2.length ds514 :: nestC 44 3 1 a448 c449 q440.2.2.2.length ds451 :: vecC 44 1 a230 c231 q228.length cs233 :: R) → K478.nor a w by
           refine Rg.many 5 [9] (by kernel_rfl) ⟨?_, ?_, trivial⟩
           ·refine Br.mk (i := 5) true true rfl (by kernel_rfl) (by kernel_rfl) ?_
            refine WL.vS hS hE (runs_plain rfl) (Gives.load1 (v := .slice a484 x479.length c485) hE rfl (fun w h => St.nSees h 11 rfl hd487) ty44) rfl ?_; clear hE a; intro a hE
            refine WL.nil ?_
            refine ⟨⟨fun _ => (hS.dropAt 11), fun _ => (hS.dropAt 11)⟩, ?_⟩
            refine Rg.one (i := 9) true true rfl (by kernel_rfl) (by kernel_rfl) (by kernel_rfl) ?_
            refine WL.vS hS hE (runs_plain rfl) (Gives.load1 (v := .slice a494 x489.length c495) hE rfl (fun w h => St.nSees h 11 rfl hd497) ty44) rfl ?_; clear hE a; intro a hE
            refine WL.nil ?_
            refine ⟨⟨fun _ => (hS.dropAt 11), fun _ => (hS.dropAt 11)⟩, ?_⟩
            refine Rg.takeP (i := 10) hE rfl (by kernel_rfl) (runs_plain rfl) (Gives.len hE rfl sl44) rfl (tw_sel (fun _ => (hS.dropAt 11)) (fun _ => (hS.dropAt 11))) ?_; clear hE a; intro a hE
            refine Rg.takeP (i := 11) hE rfl (by kernel_rfl) (runs_plain rfl) (Gives.p hE rfl) rfl (tw_sel (fun _ => (hS.dropAt 11)) (fun _ => (hS.dropAt 11))) ?_; clear hE a; intro a hE
            replace hS := hS.borrowM 11 rfl hd487
            obtain ⟨_, h502, h503, h504, h505, _⟩ := cutl_some hx501
            have h506 := (hS.vecCap 0 rfl).1
            have h507 : Ev 1 (RI .i64) s453 (cs486.take ((w64 (((x489).length : Int) - 1)).toNat * 1)) x500 := by rw [h504]; exact hev488.take _
            have hn508 : x500.length = (w64 (((x489).length : Int) - 1)).toNat := by rw [h504]; simp; omega
            replace hS := hS.vecTake 0 rfl (by omega)
            refine Rg.takeP (i := 12) hE rfl (by kernel_rfl) (runs_plain rfl) (Gives.slH hE sl44 rfl rfl h502 (Int.le_trans h503 (by omega)) (sliced_zero _ _ _ _)) rfl (tw_sel (fun _ => ((hS.tail).dropAt 11)) (fun _ => ((hS.tail).dropAt 11))) ?_; clear hE a; intro a hE
            obtain ⟨h510, h511⟩ := ix_some hx509
            refine Rg.takeP (i := 13) hE rfl (by kernel_rfl) (runs_plain rfl) (Gives.idx hE ((x458).toNat) rfl rfl sl25 h510 (by have := hn472; omega) (hS.hAok 12 rfl (by have := hn472; omega : (x458).toNat < y2.length))) rfl (tw_sel (fun _ => ((hS.tail).dropAt 11)) (fun _ => ((hS.tail).dropAt 11))) ?_; clear hE a; intro a hE
            refine Rg.one (i := 14) true true rfl (by kernel_rfl) (by kernel_rfl) (by kernel_rfl) ?_
            refine WL.storeND hE hS 11 rfl (runs_plain rfl) rfl rfl ty44 h471 hn472 (by have := (sx_some hx513).1; omega) hx513 h507 hn508 rfl ?_; clear hE hS a w; intro ds514 a w h515 hn516 hE hS
            refine WL.nil ?_
            refine ⟨⟨fun _ => (hS.dropAt 11), fun _ => (hS.dropAt 11)⟩, ?_⟩
            refine Rg.done (by kernel_rfl) ?_
            exact key _ _ _ h282 h_y1_0 h_y3_0 h447 h_v0 h515 hn516 h452 h234 (hE.pick _ ⟨rfl, rfl, rfl, rfl, rfl, rfl, rfl, rfl, rfl, rfl, rfl, rfl, rfl, trivial⟩) hS
           ·refine Br.mk (i := 9) true true rfl (by kernel_rfl) (by kernel_rfl) ?_
            refine WL.vS hS hE (runs_plain rfl) (Gives.load1 (v := .slice a494 x489.length c495) hE rfl (fun w h => St.nSees h 11 rfl hd497) ty44) rfl ?_; clear hE a; intro a hE
            refine WL.nil ?_
            refine ⟨⟨fun _ => (hS.dropAt 11), fun _ => (hS.dropAt 11)⟩, ?_⟩
            refine Rg.takeP (i := 10) hE rfl (by kernel_rfl) (runs_plain rfl) (Gives.len hE rfl sl44) rfl (tw_sel (fun _ => (hS.dropAt 11)) (fun _ => (hS.dropAt 11))) ?_; clear hE a; intro a hE
            refine Rg.takeP (i := 11) hE rfl (by kernel_rfl) (runs_plain rfl) (Gives.p hE rfl) rfl (tw_sel (fun _ => (hS.dropAt 11)) (fun _ => (hS.dropAt 11))) ?_; clear hE a; intro a hE
            refine Rg.one (i := 5) true true rfl (by kernel_rfl) (by kernel_rfl) (by kernel_rfl) ?_
            refine WL.vS hS hE (runs_plain rfl) (Gives.load1 (v := .slice a484 x479.length c485) hE rfl (fun w h => St.nSees h 11 rfl hd487) ty44) rfl ?_; clear hE a; intro a hE
            refine WL.nil ?_
            refine ⟨⟨fun _ => (hS.dropAt 11), fun _ => (hS.dropAt 11)⟩, ?_⟩
            replace hS := hS.borrowM 11 rfl hd487
            obtain ⟨_, h502, h503, h504, h505, _⟩ := cutl_some hx501
            have h506 := (hS.vecCap 0 rfl).1
            have h507 : Ev 1 (RI .i64) s453 (cs486.take ((w64 (((x489).length : Int) - 1)).toNat * 1)) x500 := by rw [h504]; exact hev488.take _
            have hn508 : x500.length = (w64 (((x489).length : Int) - 1)).toNat := by rw [h504]; simp; omega
            replace hS := hS.vecTake 0 rfl (by omega)
            refine Rg.takeP (i := 12) hE rfl (by kernel_rfl) (runs_plain rfl) (Gives.slH hE sl44 rfl rfl h502 (Int.le_trans h503 (by omega)) (sliced_zero _ _ _ _)) rfl (tw_sel (fun _ => ((hS.tail).dropAt 11)) (fun _ => ((hS.tail).dropAt 11))) ?_; clear hE a; intro a hE
            obtain ⟨h510, h511⟩ := ix_some hx509
            refine Rg.takeP (i := 13) hE rfl (by kernel_rfl) (runs_plain rfl) (Gives.idx hE ((x458).toNat) rfl rfl sl25 h510 (by have := hn472; omega) (hS.hAok 12 rfl (by have := hn472; omega : (x458).toNat < y2.length))) rfl (tw_sel (fun _ => ((hS.tail).dropAt 11)) (fun _ => ((hS.tail).dropAt 11))) ?_; clear hE a; intro a hE
            refine Rg.one (i := 14) true true rfl (by kernel_rfl) (by kernel_rfl) (by kernel_rfl) ?_
            refine WL.storeND hE hS 11 rfl (runs_plain rfl) rfl rfl ty44 h471 hn472 (by have := (sx_some hx513).1; omega) hx513 h507 hn508 rfl ?_; clear hE hS a w; intro ds514 a w h515 hn516 hE hS
            refine WL.nil ?_
            refine ⟨⟨fun _ => (hS.dropAt 11), fun _ => (hS.dropAt 11)⟩, ?_⟩
            refine Rg.done (by kernel_rfl) ?_
            exact key _ _ _ h282 h_y1_0 h_y3_0 h447 h_v0 h515 hn516 h452 h234 (hE.pick _ ⟨rfl, rfl, rfl, rfl, rfl, rfl, rfl, rfl, rfl, rfl, rfl, rfl, rfl, trivial⟩) hS
          clear hE hS a w; intro ds514 a w h282 h_y1_0 h_y3_0 h447 h_v0 h515 hn516 h452 h234 hE hS
          subst hK478
          refine W.region ?_
          refine WL.vS hS hE (runs_plain rfl) (Gives.inc hE rfl (by have := h282.small; omega)) rfl ?_; clear hE a; intro a hE
          refine WL.vS hS hE (runs_plain rfl) (Gives.p hE rfl) rfl ?_; clear hE a; intro a hE
          refine WL.nil ?_
          subst hK473
          exact ⟨rest459.length, Nat.lt_succ_self _, rest459, k457 + 1, x512, ds514, rfl, hd460, hq455, h515, hn516, hE.pick _ ⟨rfl, rfl, rfl, rfl, rfl, rfl, rfl, rfl, rfl, rfl, rfl, rfl, rfl, trivial⟩, hS⟩
        ·clear hE hS a w; rintro a w ⟨q466, ds470, rfl, h471, hn472, hE, hS⟩
         refine W.region ?_
         refine WL.vS hS hE (runs_plain rfl) (Gives.inc hE rfl (by omega)) rfl ?_; clear hE a; intro a hE
         refine WL.vS hS hE (runs_plain rfl) (Gives.p hE rfl) rfl ?_; clear hE a; intro a hE
         refine WL.nil ?_
         replace hS := hS.front 12 rfl
         replace hS := hS.front 12 rfl
         replace hS := hS.front 12 rfl
         replace hS := hS.front 12 rfl
         replace hS := hS.front 12 rfl
         replace hS := hS.front 12 rfl
         replace hS := hS.front 12 rfl
         replace hS := hS.front 12 rfl
         replace hS := hS.front 12 rfl
         replace hS := hS.front 12 rfl
         replace hS := hS.front 12 rfl
         replace hS := hS.front 12 rfl
         replace hS := hS.front 12 rfl
         replace hS := hS.front 13 rfl
         subst hK269
         exact ⟨rest242, Nat.lt_succ_self _, rest242, k240 + 1, q466, q440.2.1, q440.2.2.1, q440.2.2.2, ds470, a445, c446, a448, c449, q440.2.2.2.length, ds451, s453, rfl, (by omega), (Sg.Le.trans hle248 hle454), hq238, h471, hn472, h447, h452, rfl, hE.pick _ ⟨rfl, rfl, rfl, rfl, rfl, rfl, rfl, rfl, rfl, rfl, trivial⟩, hS⟩
   ·clear hE hS a w; rintro a w ⟨q250, q257, q258, q262, ds254, a259, c260, a263, c264, n265, ds266, s247, hle248, rfl, h255, hn256, h261, h267, rfl, hE, hS⟩
    dsimp only at hr
    replace h_y3_0 := Sl.mono RFleetSet.mono hle248 h_y3_0
    replace h_y1_0 := Sl.mono RFleetTask.mono hle248 h_y1_0
    replace h234 := Ev.mono (RL.mono RI.mono) hle248 h234
    replace h_y6_0 := Sl.mono (RL.mono RI.mono) hle248 h_y6_0
    replace h_v0 := Ev.mono RI.mono hle248 h_v0
    replace h_v1 := NEv.mono RI.mono hle248 h_v1
    replace h_v2 := NEv.mono RI.mono hle248 h_v2
    refine finG (fn := Try.f66) (rs := []) (vs := []) hE rfl trivial ?_
    obtain rfl := Option.some.inj hr
    replace hS := hS.tail
    exact ⟨ds254, a259, c260, a263, c264, q262.length, ds266, s247, rfl, (Sg.Le.trans hle237 hle248), h255, hn256, h261, h267, rfl, hS⟩
set_option maxHeartbeats 8000000 in
theorem Fishref2AssignOf_ok {fu : Nat}  {w : World} {s : Sg} {R : List HP} {x0 : List FleetTask} {a0 : Option Addr} {c0 : Nat} {x1 : Int} {x2 : List FleetSet} {a2 : Option Addr} {c2 : Nat} {x3 : FleetShop} (hS : St w s (R)) (h0 : Sl 6 RFleetTask s a0 c0 x0) (h2 : Sl 2 RFleetSet s a2 c2 x2) {r : (List (List Int)) × (List (List Int)) × Int} (hr : Fishref2AssignOf fu x0 x1 x2 x3 = some r) :
  Calls Try.prog 19 [.slice a0 x0.length c0, .int .i64 x1, .slice a2 x2.length c2, .agg (FleetShop.cells x3).toArray].toArray w (fun e w => ∃ (a0 : Option Addr) (c0 : Nat) (a1 : Option Addr) (c1 : Nat) (t : Sg), e = .returned (.tuple #[.slice a0 r.1.length c0, .slice a1 r.2.1.length c1, .int .i64 r.2.2]) ∧ s.Le t ∧ Sl 1 (RL 1 (RI .i64)) t a0 c0 r.1 ∧ Sl 1 (RL 1 (RI .i64)) t a1 c1 r.2.1 ∧ St w t (R)) := by
 refine enter Try.func19 rfl rfl rfl fun a hE => ?_
 rw [Fishref2AssignOf] at hr
 refine W.seq (W.region ?_)
 refine WL.box hE hS (runs_plain rfl) rfl rfl rfl ?_; clear hE hS a w; intro b51 a w hE hS
 refine WL.box hE hS (runs_plain rfl) rfl rfl rfl ?_; clear hE hS a w; intro b52 a w hE hS
 refine WL.box hE hS (runs_plain rfl) rfl rfl rfl ?_; clear hE hS a w; intro b53 a w hE hS
 refine WL.box hE hS (runs_plain rfl) rfl rfl rfl ?_; clear hE hS a w; intro b54 a w hE hS
 refine WL.vS hS hE (runs_plain rfl) (Gives.p hE rfl) rfl ?_; clear hE a; intro a hE
 refine WL.vS hS hE (runs_plain rfl) (Gives.p hE rfl) rfl ?_; clear hE a; intro a hE
 refine WL.vS hS hE (runs_plain rfl) (Gives.p hE rfl) rfl ?_; clear hE a; intro a hE
 refine WL.nil ?_
 refine W.seq ?_
 refine W.seq (W.region ?_)
 refine WL.vS hS hE (runs_plain rfl) (Gives.loadB hE 3 rfl rfl rfl ty32) rfl ?_; clear hE a; intro a hE
 refine WL.vS hS hE (runs_plain rfl) (Gives.loadB hE 2 rfl rfl rfl ty3) rfl ?_; clear hE a; intro a hE
 refine WL.fnq hE (Fishref2TurnFault_ok hS h0 rfl (r := Fishref2TurnFault x0 x1)) (runs_plain rfl) bd64 rfl rfl rfl ?_
 clear hE hS; rintro e w ⟨rfl, hS⟩; refine ⟨_, rfl, ?_⟩; clear a; intro a hE
 refine WL.vS hS hE (runs_plain rfl) (Gives.p hE rfl) rfl ?_; clear hE a; intro a hE
 refine WL.nil ?_
 refine W.seq (W.region ?_)
 refine WL.vS hS hE (runs_plain rfl) (Gives.p hE rfl) rfl ?_; clear hE a; intro a hE
 refine WL.vS hS hE (runs_plain rfl) (Gives.p hE rfl) rfl ?_; clear hE a; intro a hE
 refine WL.nil ?_
 refine W.cond hE rfl (fun hc55 => ?_) (fun hc55 => ?_)
 ·replace hr := iteT hc55 hr
  refine W.seq (W.region ?_)
  refine WL.vS hS hE (runs_plain rfl) (Gives.p hE rfl) rfl ?_; clear hE a; intro a hE
  refine WL.vS hS hE (runs_plain rfl) (Gives.p hE rfl) rfl ?_; clear hE a; intro a hE
  refine WL.vS hS hE (runs_plain rfl) (Gives.p hE rfl) rfl ?_; clear hE a; intro a hE
  refine WL.vS hS hE (runs_plain rfl) (Gives.p hE rfl) rfl ?_; clear hE a; intro a hE
  refine WL.nil ?_
  refine W.ret ?_
  refine finG (fn := Try.f19) (rs := [.tmp 8, .tmp 9, .tmp 10]) (vs := [_, _, _]) hE rfl ⟨rfl, rfl, rfl, trivial⟩ ?_
  obtain rfl := Option.some.inj hr
  replace hS := hS.tail
  replace hS := hS.tail
  replace hS := hS.tail
  replace hS := hS.tail
  exact ⟨none, 0, none, 0, s, rfl, (Sg.Le.refl _), Sl.nil, Sl.nil, hS⟩
 ·replace hr := iteF hc55 hr
  refine W.skip ?_
  refine W.seq ?_
  refine W.seq (W.region ?_)
  refine WL.vS hS hE (runs_plain rfl) (Gives.loadB hE 1 rfl rfl rfl ty33) rfl ?_; clear hE a; intro a hE
  refine WL.vS hS hE (runs_plain rfl) (Gives.loadBA hE 0 rfl rfl ty35) rfl ?_; clear hE a; intro a hE
  refine WL.fnq hE (Fishref2SetsFault_ok hS h2 rfl (r := Fishref2SetsFault x2 x3 6)) (runs_plain rfl) bd58 rfl rfl rfl ?_
  clear hE hS; rintro e w ⟨rfl, hS⟩; refine ⟨_, rfl, ?_⟩; clear a; intro a hE
  refine WL.vS hS hE (runs_plain rfl) (Gives.p hE rfl) rfl ?_; clear hE a; intro a hE
  refine WL.nil ?_
  refine W.seq (W.region ?_)
  refine WL.vS hS hE (runs_plain rfl) (Gives.p hE rfl) rfl ?_; clear hE a; intro a hE
  refine WL.vS hS hE (runs_plain rfl) (Gives.p hE rfl) rfl ?_; clear hE a; intro a hE
  refine WL.nil ?_
  refine W.cond hE rfl (fun hc56 => ?_) (fun hc56 => ?_)
  ·replace hr := iteT hc56 hr
   refine W.seq (W.region ?_)
   refine WL.vS hS hE (runs_plain rfl) (Gives.p hE rfl) rfl ?_; clear hE a; intro a hE
   refine WL.vS hS hE (runs_plain rfl) (Gives.p hE rfl) rfl ?_; clear hE a; intro a hE
   refine WL.vS hS hE (runs_plain rfl) (Gives.p hE rfl) rfl ?_; clear hE a; intro a hE
   refine WL.vS hS hE (runs_plain rfl) (Gives.p hE rfl) rfl ?_; clear hE a; intro a hE
   refine WL.nil ?_
   refine W.ret ?_
   refine finG (fn := Try.f19) (rs := [.tmp 8, .tmp 9, .tmp 10]) (vs := [_, _, _]) hE rfl ⟨rfl, rfl, rfl, trivial⟩ ?_
   obtain rfl := Option.some.inj hr
   replace hS := hS.tail
   replace hS := hS.tail
   replace hS := hS.tail
   replace hS := hS.tail
   exact ⟨none, 0, none, 0, s, rfl, (Sg.Le.refl _), Sl.nil, Sl.nil, hS⟩
  ·replace hr := iteF hc56 hr
   refine W.skip ?_
   refine W.seq (W.region ?_)
   refine WL.vS hS hE (runs_plain rfl) (Gives.p hE rfl) rfl ?_; clear hE a; intro a hE
   refine WL.nil ?_
   refine W.seq ?_
   refine W.seq (W.region ?_)
   refine WL.vS hS hE (runs_plain rfl) (Gives.loadB hE 3 rfl rfl rfl ty32) rfl ?_; clear hE a; intro a hE
   refine WL.vS hS hE (runs_plain rfl) (Gives.len hE rfl sl32) rfl ?_; clear hE a; intro a hE
   refine WL.vS hS hE (runs_plain rfl) (Gives.p hE rfl) rfl ?_; clear hE a; intro a hE
   refine WL.nil ?_
   obtain ⟨q58, hq57, hr⟩ := bndS hr
   refine W.cut (fun a w => ∃ (q68 : Int), q68 = q58 ∧ Rep a 59 [(4, .pointer (some ⟨b51, 0, none⟩)), (5, .pointer (some ⟨b52, 0, none⟩)), (6, .pointer (some ⟨b53, 0, none⟩)), (7, .pointer (some ⟨b54, 0, none⟩)), (13, .int .i64 q68)] ∧ St w s (pt b54 (.cells (FleetShop.cells x3).toArray 35 (0, 0)) :: pt b53 (.cells #[.slice a2 x2.length c2] 33 (0, 0)) :: pt b52 (.cells #[.int .i64 x1] 3 (0, 0)) :: pt b51 (.cells #[.slice a0 x0.length c0] 32 (0, 0)) :: R)) ?_ ?_
   ·refine W.block ?_
    refine W.loop (fun m a w => ∃ (rest61 : List FleetTask) (k59 : Nat), ∃ (q68 : Int), rest61.length = m ∧ x0.drop k59 = rest61 ∧ Fishref2AssignOf.loop1 rest61 q68 = q58 ∧ Rep a 59 [(4, .pointer (some ⟨b51, 0, none⟩)), (5, .pointer (some ⟨b52, 0, none⟩)), (6, .pointer (some ⟨b53, 0, none⟩)), (7, .pointer (some ⟨b54, 0, none⟩)), (13, .int .i64 q68), (34, .slice a0 x0.length c0), (35, .int .i64 ((x0).length : Int)), (36, .int .i64 ((k59 : Nat) : Int))] ∧ St w s (pt b54 (.cells (FleetShop.cells x3).toArray 35 (0, 0)) :: pt b53 (.cells #[.slice a2 x2.length c2] 33 (0, 0)) :: pt b52 (.cells #[.int .i64 x1] 3 (0, 0)) :: pt b51 (.cells #[.slice a0 x0.length c0] 32 (0, 0)) :: R)) (m := x0.length) ⟨x0, 0, 0, rfl, rfl, hq57, hE.pick _ ⟨rfl, rfl, rfl, rfl, rfl, rfl, rfl, rfl, trivial⟩, hS⟩ ?_
    clear hE hS a w hq57; rintro m65 a w ⟨rest61, k59, q68, rfl, hd62, hq57, hE, hS⟩
    refine W.gen fun K69 hK69 => ?_
    rcases rest61 with _ | ⟨x60, rest61⟩
    ·have hlt63 := drop_nil hd62
     refine W.seq (W.region ?_)
     refine WL.vS hS hE (runs_plain rfl) (Gives.p hE rfl) rfl ?_; clear hE a; intro a hE
     refine WL.nil ?_
     refine W.seq ?_
     refine W.condF hE rfl (decide_eq_false (by omega)) ?_
     subst hK69
     refine W.exit rfl ?_
     exact ⟨q68, hq57, hE.pick _ ⟨rfl, rfl, rfl, rfl, rfl, trivial⟩, hS⟩
    ·obtain ⟨hlt63, hx64, hd62⟩ := drop_cons hd62
     rw [Fishref2AssignOf.loop1] at hq57
     refine W.seq (W.region ?_)
     refine WL.vS hS hE (runs_plain rfl) (Gives.p hE rfl) rfl ?_; clear hE a; intro a hE
     refine WL.nil ?_
     refine W.seq ?_
     refine W.condT hE rfl (decide_eq_true (by omega)) ?_
     refine W.skip ?_
     refine W.seq ?_
     refine W.block ?_
     refine W.seq (W.region ?_)
     obtain ⟨cs70, hl71, hR72, hat73⟩ := h0.at hx64
     subst hR72
     refine WL.vS hS hE (runs_plain rfl) (Gives.idx hE k59 rfl rfl sl32 rfl hlt63 (h0.aok hlt63)) rfl ?_; clear hE a; intro a hE
     refine WL.vS hS hE (runs_plain rfl) (Gives.loadA hE rfl (fun w h => hat73 w _ h) ty78) rfl ?_; clear hE a; intro a hE
     refine WL.alloc hE hS (runs_plain rfl) zr78 rfl ?_; clear hE hS a w; intro b74 a w hE hS
     refine WL.storeI hE hS 0 rfl (FleetTask.cells x60) (runs_plain rfl) rfl rfl rfl ty78 rfl rfl rfl rfl ?_; clear hE hS a w; intro a w hE hS
     refine WL.nil ?_
     refine W.region ?_
     refine WL.vS hS hE (runs_plain rfl) (Gives.p hE rfl) rfl ?_; clear hE a; intro a hE
     refine WL.vS hS hE (runs_plain rfl) (Gives.fld hE rfl fl78_5) rfl ?_; clear hE a; intro a hE
     refine WL.vS hS hE (runs_plain rfl) (Gives.loadB hE 0 rfl rfl rfl ty3) rfl ?_; clear hE a; intro a hE
     refine WL.vS hS hE (runs_plain rfl) (Gives.p hE rfl) rfl ?_; clear hE a; intro a hE
     refine WL.vS hS hE (runs_plain rfl) (Gives.p hE rfl) rfl ?_; clear hE a; intro a hE
     refine WL.nil ?_
     refine W.region ?_
     refine WL.vS hS hE (runs_plain rfl) (Gives.inc hE rfl (by have := h0.small; omega)) rfl ?_; clear hE a; intro a hE
     refine WL.vS hS hE (runs_plain rfl) (Gives.p hE rfl) rfl ?_; clear hE a; intro a hE
     refine WL.nil ?_
     replace hS := hS.tail
     subst hK69
     exact ⟨rest61.length, Nat.lt_succ_self _, rest61, k59 + 1, (w64 (q68 + x60.Units)), rfl, hd62, hq57, hE.pick _ ⟨rfl, rfl, rfl, rfl, rfl, rfl, rfl, rfl, trivial⟩, hS⟩
   ·clear hE hS a w; rintro a w ⟨q68, rfl, hE, hS⟩
    refine W.seq ?_
    refine W.seq (W.region ?_)
    refine WL.vS hS hE (runs_plain rfl) (Gives.p hE rfl) rfl ?_; clear hE a; intro a hE
    refine WL.vS hS hE (runs_plain rfl) (Gives.p hE rfl) rfl ?_; clear hE a; intro a hE
    refine WL.nil ?_
    refine W.cond hE rfl (fun hc75 => ?_) (fun hc75 => ?_)
    ·replace hr := iteT hc75 hr
     refine W.seq (W.region ?_)
     refine WL.vS hS hE (runs_plain rfl) (Gives.p hE rfl) rfl ?_; clear hE a; intro a hE
     refine WL.vS hS hE (runs_plain rfl) (Gives.p hE rfl) rfl ?_; clear hE a; intro a hE
     refine WL.vS hS hE (runs_plain rfl) (Gives.p hE rfl) rfl ?_; clear hE a; intro a hE
     refine WL.nil ?_
     refine W.ret ?_
     refine finG (fn := Try.f19) (rs := [.tmp 8, .tmp 9, .tmp 10]) (vs := [_, _, _]) hE rfl ⟨rfl, rfl, rfl, trivial⟩ ?_
     obtain rfl := Option.some.inj hr
     replace hS := hS.tail
     replace hS := hS.tail
     replace hS := hS.tail
     replace hS := hS.tail
     exact ⟨none, 0, none, 0, s, rfl, (Sg.Le.refl _), Sl.nil, Sl.nil, hS⟩
    ·replace hr := iteF hc75 hr
     refine W.skip ?_
     refine W.seq (W.region ?_)
     refine WL.vS hS hE (runs_plain rfl) (Gives.loadB hE 3 rfl rfl rfl ty32) rfl ?_; clear hE a; intro a hE
     obtain ⟨q76, hq77, hr⟩ := bindS hr
     have hc_ := Fishref2inOrder_ok hS h0 hq77
     refine WL.fnq hE (hc_) (runs_plain rfl) bd65 rfl rfl rfl ?_
     clear hE hS hc_; rintro e w ⟨a78, c79, n80, cs81, rfl, h82, rfl, hS⟩; refine ⟨_, rfl, ?_⟩; clear a; intro a hE
     refine WL.alloc hE hS (runs_plain rfl) zr44 rfl ?_; clear hE hS a w; intro b84 a w hE hS
     refine WL.storeI hE hS 0 rfl [.slice a78 q76.length c79] (runs_plain rfl) rfl rfl rfl ty44 rfl rfl rfl rfl ?_; clear hE hS a w; intro a w hE hS
     refine WL.nil ?_
     refine W.seq (W.region ?_)
     refine WL.alloc hE hS (runs_plain rfl) zr25 rfl ?_; clear hE hS a w; intro b85 a w hE hS
     refine WL.alloc hE hS (runs_plain rfl) zr25 rfl ?_; clear hE hS a w; intro b86 a w hE hS
     refine WL.nil ?_
     refine W.seq (W.region ?_)
     refine WL.alloc hE hS (runs_plain rfl) zr3 rfl ?_; clear hE hS a w; intro b87 a w hE hS
     refine WL.storeI hE hS 0 rfl [.int .i64 (-1)] (runs_plain rfl) rfl rfl rfl ty3 rfl rfl rfl rfl ?_; clear hE hS a w; intro a w hE hS
     refine WL.nil ?_
     refine W.seq (W.region ?_)
     refine WL.vS hS hE (runs_plain rfl) (Gives.loadB hE 6 rfl rfl rfl ty33) rfl ?_; clear hE a; intro a hE
     refine WL.vS hS hE (runs_plain rfl) (Gives.len hE rfl sl33) rfl ?_; clear hE a; intro a hE
     obtain ⟨x88, hx89, hr⟩ := bindS hr
     refine WL.mkND (Rr := RI .i64) (Ti := 3) (es := 1) hE hS (runs_plain rfl) rfl rfl ap25 zr44 hx89 rfl ?_; clear hE hS a w; intro b90 ds91 a w h92 hE hS
     refine WL.alloc hE hS (runs_plain rfl) zr25 rfl ?_; clear hE hS a w; intro b94 a w hE hS
     refine WL.storeI hE hS 0 rfl [.slice (some ⟨b90, 0, none⟩) x88.length x88.length] (runs_plain rfl) rfl rfl rfl ty25 rfl rfl rfl rfl ?_; clear hE hS a w; intro a w hE hS
     refine WL.nil ?_
     refine W.seq (W.region ?_)
     refine WL.alloc hE hS (runs_plain rfl) zr66 rfl ?_; clear hE hS a w; intro b95 a w hE hS
     refine WL.nil ?_
     refine W.seq (W.region ?_)
     replace hS := hS.nestNil 44 3 1
     refine WL.vS hS hE (runs_plain rfl) (Gives.mkfn hE (vs := [.pointer (some ⟨b84, 0, none⟩), .pointer (some ⟨b51, 0, none⟩), .pointer (some ⟨b94, 0, none⟩), .pointer (some ⟨b53, 0, none⟩), .pointer (some ⟨b54, 0, none⟩), .pointer (some ⟨b87, 0, none⟩), .pointer (some ⟨b86, 0, none⟩), .pointer (some ⟨b85, 0, none⟩), .pointer (some ⟨b52, 0, none⟩), .pointer (some ⟨b95, 0, none⟩)]) rfl) rfl ?_; clear hE a; intro a hE
     refine WL.storeI hE hS 1 rfl [.func (.func 66) #[] #[.pointer (some ⟨b84, 0, none⟩), .pointer (some ⟨b51, 0, none⟩), .pointer (some ⟨b94, 0, none⟩), .pointer (some ⟨b53, 0, none⟩), .pointer (some ⟨b54, 0, none⟩), .pointer (some ⟨b87, 0, none⟩), .pointer (some ⟨b86, 0, none⟩), .pointer (some ⟨b85, 0, none⟩), .pointer (some ⟨b52, 0, none⟩), .pointer (some ⟨b95, 0, none⟩)]] (runs_plain rfl) rfl rfl rfl ty66 rfl rfl rfl rfl ?_; clear hE hS a w; intro a w hE hS
     refine WL.nil ?_
     refine W.seq (W.region ?_)
     refine WL.vS hS hE (runs_plain rfl) (Gives.loadB hE 1 rfl rfl rfl ty66) rfl ?_; clear hE a; intro a hE
     obtain ⟨q97, hq98, hr⟩ := bindS hr
     replace hS := hS.front 0 rfl
     replace hS := hS.front 3 rfl
     replace hS := hS.front 8 rfl
     replace hS := hS.front 3 rfl
     replace hS := hS.front 11 rfl
     replace hS := hS.front 8 rfl
     replace hS := hS.front 8 rfl
     replace hS := hS.front 8 rfl
     replace hS := hS.front 10 rfl
     replace hS := hS.front 11 rfl
     replace hS := hS.front 10 rfl
     replace hS := hS.front 12 rfl
     replace hS := hS.front 12 rfl
     have hc_ := Fishref2AssignOf_1_v1_ok (y4 := x3) hS h82 rfl h0 h92 (rfl) h2 Sl.nil (NEv.nil) (rfl) hq98
     refine WL.fnw hE (hc_) rfl (runs_plain rfl) bd66 rfl rfl rfl ?_
     clear hE hS hc_; rintro e w ⟨ds99, a102, c103, a105, c106, n107, ds108, s110, rfl, hle111, h100, hn101, h104, h109, rfl, hS⟩; refine ⟨_, rfl, ?_⟩; clear a; intro a hE
     replace h0 := Sl.mono RFleetTask.mono hle111 h0
     replace h2 := Sl.mono RFleetSet.mono hle111 h2
     replace h82 := Ev.mono RI.mono hle111 h82
     replace h92 := NEv.mono RI.mono hle111 h92
     refine WL.nil ?_
     refine W.seq ?_
     refine W.seq (W.region ?_)
     refine WL.vS hS hE (runs_plain rfl) (Gives.loadB hE 5 rfl rfl rfl ty3) rfl ?_; clear hE a; intro a hE
     refine WL.vS hS hE (runs_plain rfl) (Gives.p hE rfl) rfl ?_; clear hE a; intro a hE
     refine WL.nil ?_
     refine W.cond hE rfl (fun hc112 => ?_) (fun hc112 => ?_)
     ·replace hr := iteT hc112 hr
      refine W.seq (W.region ?_)
      refine WL.vS hS hE (runs_plain rfl) (Gives.p hE rfl) rfl ?_; clear hE a; intro a hE
      refine WL.vS hS hE (runs_plain rfl) (Gives.p hE rfl) rfl ?_; clear hE a; intro a hE
      refine WL.vS hS hE (runs_plain rfl) (Gives.p hE rfl) rfl ?_; clear hE a; intro a hE
      refine WL.nil ?_
      refine W.ret ?_
      refine finG (fn := Try.f19) (rs := [.tmp 8, .tmp 9, .tmp 10]) (vs := [_, _, _]) hE rfl ⟨rfl, rfl, rfl, trivial⟩ ?_
      obtain rfl := Option.some.inj hr
      replace hS := hS.tail
      replace hS := hS.tail
      replace hS := hS.tail
      replace hS := hS.tail
      replace hS := hS.tail
      replace hS := hS.tail
      replace hS := hS.tail
      replace hS := hS.tail
      replace hS := hS.tail
      replace hS := hS.tail
      replace hS := hS.tail
      replace hS := hS.tail
      replace hS := hS.tail
      exact ⟨none, 0, none, 0, s110, rfl, hle111, Sl.nil, Sl.nil, hS⟩
     ·replace hr := iteF hc112 hr
      refine W.skip ?_
      refine W.seq ?_
      refine W.regionQ (C := fun w => St w s110 (pt b84 (.cells #[.slice a78 q76.length c79] 44 (0, 0)) :: pt b51 (.cells #[.slice a0 x0.length c0] 32 (0, 0)) :: pt b94 (.cells #[.slice (some ⟨b90, 0, none⟩) x88.length x88.length] 25 (0, 0)) :: pt b53 (.cells #[.slice a2 x2.length c2] 33 (0, 0)) :: pt b54 (.cells (FleetShop.cells x3).toArray 35 (0, 0)) :: pt b87 (.cells #[.int .i64 q97.2.1] 3 (0, 0)) :: pt b86 (.cells #[.slice a102 q97.2.2.1.length c103] 25 (0, 0)) :: pt b85 (.cells #[.slice a105 q97.2.2.2.length c106] 25 (0, 0)) :: pt b52 (.cells #[.int .i64 x1] 3 (0, 0)) :: pt b95 (.cells #[.func (.func 66) #[] #[.pointer (some ⟨b84, 0, none⟩), .pointer (some ⟨b51, 0, none⟩), .pointer (some ⟨b94, 0, none⟩), .pointer (some ⟨b53, 0, none⟩), .pointer (some ⟨b54, 0, none⟩), .pointer (some ⟨b87, 0, none⟩), .pointer (some ⟨b86, 0, none⟩), .pointer (some ⟨b85, 0, none⟩), .pointer (some ⟨b52, 0, none⟩), .pointer (some ⟨b95, 0, none⟩)]] 66 (0, 0)) :: vecC 3 1 a78 c79 q76.length cs81 :: nestC 44 3 1 (some ⟨b90, 0, none⟩) x88.length x88.length ds99 :: nestC 44 3 1 a105 c106 q97.2.2.2.length ds108 :: R)) mixed (by kernel_rfl) hS.drew ?_
      refine QL.v hE (runs_plain rfl) (Gives.loadB hE 7 rfl rfl rfl ty25) rfl ?_; clear hE a; intro a hE
      refine QL.v hE (runs_plain rfl) (Gives.loadB hE 6 rfl rfl rfl ty25) rfl ?_; clear hE a; intro a hE
      refine QL.v hE (runs_plain rfl) (Gives.p hE rfl) rfl ?_; clear hE a; intro a hE
      refine QL.v hE (runs_plain rfl) (Gives.p hE rfl) rfl ?_; clear hE a; intro a hE
      refine QL.v hE (runs_plain rfl) (Gives.p hE rfl) rfl ?_; clear hE a; intro a hE
      refine QL.nil ?_; clear hS w; intro w hS
      refine W.ret ?_
      have hF := hS.fixN RI.mono 12 rfl h109 rfl; clear hS; obtain ⟨s113, hle114, hS, h115⟩ := hF
      replace h0 := Sl.mono RFleetTask.mono hle114 h0
      replace h2 := Sl.mono RFleetSet.mono hle114 h2
      replace h104 := Sl.mono (RL.mono RI.mono) hle114 h104
      replace h82 := Ev.mono RI.mono hle114 h82
      replace h100 := NEv.mono RI.mono hle114 h100
      refine finG (fn := Try.f19) (rs := [.tmp 8, .tmp 9, .tmp 10]) (vs := [_, _, _]) hE rfl ⟨rfl, rfl, rfl, trivial⟩ ?_
      obtain rfl := Option.some.inj hr
      replace hS := hS.tail
      replace hS := hS.tail
      replace hS := hS.tail
      replace hS := hS.tail
      replace hS := hS.tail
      replace hS := hS.tail
      replace hS := hS.tail
      replace hS := hS.tail
      replace hS := hS.tail
      replace hS := hS.tail
      replace hS := hS.tail
      replace hS := hS.tail
      exact ⟨a105, c106, a102, c103, s113, rfl, (Sg.Le.trans hle111 hle114), h115, h104, hS⟩
set_option maxHeartbeats 8000000 in
theorem FleetTurns_ok {fu : Nat}  {w : World} {s : Sg} {R : List HP} {x0 : List FleetTask} {a0 : Option Addr} {c0 : Nat} {x1 : Int} (hS : St w s (R)) (h0 : Sl 6 RFleetTask s a0 c0 x0) {r : (List (List Int)) × Int} (hr : FleetTurns fu x0 x1 = some r) :
  Calls Try.prog 60 [.slice a0 x0.length c0, .int .i64 x1].toArray w (fun e w => ∃ (a0 : Option Addr) (c0 : Nat) (t : Sg), e = .returned (.tuple #[.slice a0 r.1.length c0, .int .i64 r.2]) ∧ s.Le t ∧ Sl 1 (RL 1 (RI .i64)) t a0 c0 r.1 ∧ St w t (R)) := by
 refine enter Try.func60 rfl rfl rfl fun a hE => ?_
 rw [FleetTurns] at hr
 refine W.seq (W.region ?_)
 refine WL.vS hS hE (runs_plain rfl) (Gives.p hE rfl) rfl ?_; clear hE a; intro a hE
 refine WL.vS hS hE (runs_plain rfl) (Gives.p hE rfl) rfl ?_; clear hE a; intro a hE
 refine WL.nil ?_
 refine W.seq ?_
 refine W.seq (W.region ?_)
 refine WL.vS hS hE (runs_plain rfl) (Gives.p hE rfl) rfl ?_; clear hE a; intro a hE
 refine WL.vS hS hE (runs_plain rfl) (Gives.p hE rfl) rfl ?_; clear hE a; intro a hE
 refine WL.fnq hE (FleetcheckTurn_ok hS h0 rfl (r := FleetcheckTurn x0 x1)) (runs_plain rfl) bd61 rfl rfl rfl ?_
 clear hE hS; rintro e w ⟨rfl, hS⟩; refine ⟨_, rfl, ?_⟩; clear a; intro a hE
 refine WL.vS hS hE (runs_plain rfl) (Gives.p hE rfl) rfl ?_; clear hE a; intro a hE
 refine WL.nil ?_
 refine W.seq (W.region ?_)
 refine WL.vS hS hE (runs_plain rfl) (Gives.p hE rfl) rfl ?_; clear hE a; intro a hE
 refine WL.vS hS hE (runs_plain rfl) (Gives.p hE rfl) rfl ?_; clear hE a; intro a hE
 refine WL.nil ?_
 refine W.cond hE rfl (fun hc51 => ?_) (fun hc51 => ?_)
 ·replace hr := iteT hc51 hr
  refine W.seq (W.region ?_)
  refine WL.vS hS hE (runs_plain rfl) (Gives.p hE rfl) rfl ?_; clear hE a; intro a hE
  refine WL.vS hS hE (runs_plain rfl) (Gives.p hE rfl) rfl ?_; clear hE a; intro a hE
  refine WL.vS hS hE (runs_plain rfl) (Gives.p hE rfl) rfl ?_; clear hE a; intro a hE
  refine WL.nil ?_
  refine W.ret ?_
  refine finG (fn := Try.f60) (rs := [.tmp 4, .tmp 5]) (vs := [_, _]) hE rfl ⟨rfl, rfl, trivial⟩ ?_
  obtain rfl := Option.some.inj hr
  exact ⟨none, 0, s, rfl, (Sg.Le.refl _), Sl.nil, hS⟩
 ·replace hr := iteF hc51 hr
  refine W.skip ?_
  refine W.seq (W.region ?_)
  replace hS := hS.nestNil 44 3 1
  refine WL.vS hS hE (runs_plain rfl) (Gives.p hE rfl) rfl ?_; clear hE a; intro a hE
  refine WL.nil ?_
  refine W.seq ?_
  refine W.seq (W.region ?_)
  refine WL.vS hS hE (runs_plain rfl) (Gives.p hE rfl) rfl ?_; clear hE a; intro a hE
  obtain ⟨q53, hq54, hr⟩ := bindS hr
  have hc_ := Fleetorder_ok hS h0 hq54
  refine WL.fnq hE (hc_) (runs_plain rfl) bd62 rfl rfl rfl ?_
  clear hE hS hc_; rintro e w ⟨a55, c56, n57, cs58, rfl, h59, rfl, hS⟩; refine ⟨_, rfl, ?_⟩; clear a; intro a hE
  refine WL.vS hS hE (runs_plain rfl) (Gives.len hE rfl sl44) rfl ?_; clear hE a; intro a hE
  refine WL.vS hS hE (runs_plain rfl) (Gives.p hE rfl) rfl ?_; clear hE a; intro a hE
  refine WL.nil ?_
  have hb72 : q53.length ≤ 9223372036854775807 := by have := hS.vecCap 0 rfl; unfold maxLen at this; omega
  obtain ⟨q62, hq61, hr⟩ := bindS hr
  refine W.cut (fun a w => ∃ (q73 : List (List Int)), ∃ (a74 : Option Addr), ∃ (c75 : Nat), ∃ (n76 : Nat), ∃ (ds77 : List In), q73 = q62 ∧ NEv 1 (RI .i64) s ds77 q73 ∧ q73.length = n76 ∧ Rep a 113 [(7, .slice a74 n76 c75)] ∧ St w s (vecC 3 1 a55 c56 q53.length cs58 :: nestC 44 3 1 a74 c75 n76 ds77 :: R)) ?_ ?_
  ·refine W.block ?_
   refine W.loop (fun m a w => ∃ (rest65 : Nat) (k63 : Nat), ∃ (q73 : List (List Int)), ∃ (a74 : Option Addr), ∃ (c75 : Nat), ∃ (n76 : Nat), ∃ (ds77 : List In), rest65 = m ∧ k63 + rest65 = q53.length ∧ FleetTurns.loop1 x0 x1 fu q53 rest65 k63 q73 = some q62 ∧ NEv 1 (RI .i64) s ds77 q73 ∧ q73.length = n76 ∧ Rep a 113 [(0, .slice a0 x0.length c0), (1, .int .i64 x1), (7, .slice a74 n76 c75), (21, .slice a55 q53.length c56), (22, .int .i64 ((q53.length : Nat) : Int)), (23, .int .i64 ((k63 : Nat) : Int))] ∧ St w s (vecC 3 1 a55 c56 q53.length cs58 :: nestC 44 3 1 a74 c75 n76 ds77 :: R)) (m := q53.length) ⟨q53.length, 0, [], none, 0, 0, [], rfl, by omega, hq61, (NEv.nil), (rfl), hE.pick _ ⟨rfl, rfl, rfl, rfl, rfl, rfl, trivial⟩, hS⟩ ?_
   clear hE hS a w hq61; rintro m69 a w ⟨rest65, k63, q73, a74, c75, n76, ds77, rfl, hd66, hq61, h78, rfl, hE, hS⟩
   refine W.gen fun K80 hK80 => ?_
   rcases rest65 with _ | rest65
   ·skip
    refine W.seq (W.region ?_)
    refine WL.vS hS hE (runs_plain rfl) (Gives.p hE rfl) rfl ?_; clear hE a; intro a hE
    refine WL.nil ?_
    refine W.seq ?_
    refine W.condF hE rfl (decide_eq_false (by omega)) ?_
    subst hK80
    refine W.exit rfl ?_
    exact ⟨q73, a74, c75, q73.length, ds77, Option.some.inj hq61, h78, rfl, hE.pick _ ⟨rfl, trivial⟩, hS⟩
   ·have hlt67 : k63 < q53.length := by omega
    rw [FleetTurns.loop1] at hq61
    refine W.seq (W.region ?_)
    refine WL.vS hS hE (runs_plain rfl) (Gives.p hE rfl) rfl ?_; clear hE a; intro a hE
    refine WL.nil ?_
    refine W.seq ?_
    refine W.condT hE rfl (decide_eq_true (by omega)) ?_
    refine W.skip ?_
    refine W.seq ?_
    refine W.block ?_
    refine W.seq (W.region ?_)
    obtain ⟨x81, hx82, hq61⟩ := bindS hq61
    obtain ⟨hi83, hlt84, hy85⟩ := gx_some hx82
    obtain ⟨vs86, hl87, hR88, hd89, hget90⟩ := h59.at hy85
    subst hR88
    refine WL.vS hS hE (runs_plain rfl) (Gives.idx hE ((((k63 : Nat) : Int)).toNat) rfl rfl sl44 hi83 (by omega) (hS.vecAok 0 rfl (by omega : (((k63 : Nat) : Int)).toNat < q53.length))) rfl ?_; clear hE a; intro a hE
    refine WL.vS hS hE (runs_plain rfl) (Gives.load1 hE rfl (fun w h => St.vecSees h 0 rfl ((((k63 : Nat) : Int)).toNat * 1) _ hget90) ty3) rfl ?_; clear hE a; intro a hE
    refine WL.vS hS hE (runs_plain rfl) (Gives.p hE rfl) rfl ?_; clear hE a; intro a hE
    refine WL.nil ?_
    refine W.seq (W.region ?_)
    refine WL.vS hS hE (runs_plain rfl) (Gives.p hE rfl) rfl ?_; clear hE a; intro a hE
    refine WL.vS hS hE (runs_plain rfl) (Gives.p hE rfl) rfl ?_; clear hE a; intro a hE
    obtain ⟨x91, hx92, hq61⟩ := bindS hq61
    obtain ⟨hi93, hlt94, hy95⟩ := gx_some hx92
    obtain ⟨cs96, hl97, hR98, hat99⟩ := h0.at hy95
    subst hR98
    refine WL.vS hS hE (runs_plain rfl) (Gives.idx hE (x81).toNat rfl rfl sl32 hi93 hlt94 (h0.aok hlt94)) rfl ?_; clear hE a; intro a hE
    refine WL.vS hS hE (runs_plain rfl) (Gives.fld hE rfl fl78_5) rfl ?_; clear hE a; intro a hE
    refine WL.vS hS hE (runs_plain rfl) (Gives.load1 hE rfl (fun w h => (hat99 w _ h).one rfl) ty3) rfl ?_; clear hE a; intro a hE
    refine WL.vS hS hE (runs_plain rfl) (Gives.p hE rfl) rfl ?_; clear hE a; intro a hE
    refine WL.nil ?_
    obtain ⟨q112, hq111, hq61⟩ := bindS hq61
    refine W.cut (fun a w => ∃ (q117 : List (List Int)), ∃ (q124 : Int), ∃ (a118 : Option Addr), ∃ (c119 : Nat), ∃ (n120 : Nat), ∃ (ds121 : List In), (q117, q124) = q112 ∧ NEv 1 (RI .i64) s ds121 q117 ∧ q117.length = n120 ∧ Rep a 113 [(0, .slice a0 x0.length c0), (1, .int .i64 x1), (7, .slice a118 n120 c119), (21, .slice a55 q53.length c56), (22, .int .i64 ((q53.length : Nat) : Int)), (23, .int .i64 ((k63 : Nat) : Int))] ∧ St w s (vecC 3 1 a55 c56 q53.length cs58 :: nestC 44 3 1 a118 c119 n120 ds121 :: R)) ?_ ?_
    ·refine W.block ?_
     refine W.loop (fun m a w => ∃ (n113 : Nat), ∃ (q117 : List (List Int)), ∃ (q124 : Int), ∃ (a118 : Option Addr), ∃ (c119 : Nat), ∃ (n120 : Nat), ∃ (ds121 : List In), n113 = m ∧ FleetTurns.loop3 x0 x1 x81 x91 n113 q117 q124 = some q112 ∧ NEv 1 (RI .i64) s ds121 q117 ∧ q117.length = n120 ∧ Rep a 113 [(0, .slice a0 x0.length c0), (1, .int .i64 x1), (7, .slice a118 n120 c119), (9, .int .i64 x81), (21, .slice a55 q53.length c56), (22, .int .i64 ((q53.length : Nat) : Int)), (23, .int .i64 ((k63 : Nat) : Int)), (31, .int .i64 x91.Units), (32, .int .i64 q124)] ∧ St w s (vecC 3 1 a55 c56 q53.length cs58 :: nestC 44 3 1 a118 c119 n120 ds121 :: R)) (m := fu) ⟨fu, q73, 0, a74, c75, q73.length, ds77, rfl, hq111, h78, rfl, hE.pick _ ⟨rfl, rfl, rfl, rfl, rfl, rfl, rfl, rfl, rfl, trivial⟩, hS⟩ ?_
     clear hE hS a w hq111; rintro m114 a w ⟨n113, q117, q124, a118, c119, n120, ds121, rfl, hq111, h122, rfl, hE, hS⟩
     refine W.gen fun K125 hK125 => ?_
     rcases n113 with _ | n113
     ·rw [FleetTurns.loop3] at hq111; exact absurd hq111 (by simp)
     rw [FleetTurns.loop3] at hq111
     refine W.seq (W.region ?_)
     refine WL.vS hS hE (runs_plain rfl) (Gives.p hE rfl) rfl ?_; clear hE a; intro a hE
     refine WL.nil ?_
     refine W.seq ?_
     refine W.cond hE rfl (fun hc126 => ?_) (fun hc126 => ?_)
     ·replace hq111 := iteT hc126 hq111
      refine W.skip ?_
      refine W.seq ?_
      refine W.block ?_
      refine W.seq (W.region ?_)
      refine WL.vS hS hE (runs_plain rfl) (Gives.p hE rfl) rfl ?_; clear hE a; intro a hE
      refine WL.nil ?_
      refine W.seq ?_
      refine W.seq (W.region ?_)
      refine WL.vS hS hE (runs_plain rfl) (Gives.p hE rfl) rfl ?_; clear hE a; intro a hE
      refine WL.vS hS hE (runs_plain rfl) (Gives.len hE rfl sl25) rfl ?_; clear hE a; intro a hE
      refine WL.vS hS hE (runs_plain rfl) (Gives.p hE rfl) rfl ?_; clear hE a; intro a hE
      refine WL.nil ?_
      have hb138 : q117.length ≤ 9223372036854775807 := by have := hS.nCap 1 rfl; unfold maxLen at this; omega
      obtain ⟨q128, hq127, hq111⟩ := bindS hq111
      refine W.cut (fun a w => ∃ (q139 : Int), q139 = q128 ∧ Rep a 113 [(0, .slice a0 x0.length c0), (1, .int .i64 x1), (7, .slice a118 q117.length c119), (9, .int .i64 x81), (10, .int .i64 q139), (21, .slice a55 q53.length c56), (22, .int .i64 ((q53.length : Nat) : Int)), (23, .int .i64 ((k63 : Nat) : Int)), (31, .int .i64 x91.Units), (32, .int .i64 q124)] ∧ St w s (vecC 3 1 a55 c56 q53.length cs58 :: nestC 44 3 1 a118 c119 q117.length ds121 :: R)) ?_ ?_
      ·refine W.block ?_
       refine W.loop (fun m a w => ∃ (rest131 : Nat) (k129 : Nat), ∃ (q139 : Int), rest131 = m ∧ k129 + rest131 = q117.length ∧ FleetTurns.loop4 x0 x1 x81 q117 rest131 k129 q139 = some q128 ∧ Rep a 113 [(0, .slice a0 x0.length c0), (1, .int .i64 x1), (7, .slice a118 q117.length c119), (9, .int .i64 x81), (10, .int .i64 q139), (21, .slice a55 q53.length c56), (22, .int .i64 ((q53.length : Nat) : Int)), (23, .int .i64 ((k63 : Nat) : Int)), (31, .int .i64 x91.Units), (32, .int .i64 q124), (34, .slice a118 q117.length c119), (35, .int .i64 ((q117.length : Nat) : Int)), (36, .int .i64 ((k129 : Nat) : Int))] ∧ St w s (vecC 3 1 a55 c56 q53.length cs58 :: nestC 44 3 1 a118 c119 q117.length ds121 :: R)) (m := q117.length) ⟨q117.length, 0, (-1), rfl, by omega, hq127, hE.pick _ ⟨rfl, rfl, rfl, rfl, rfl, rfl, rfl, rfl, rfl, rfl, rfl, rfl, rfl, trivial⟩, hS⟩ ?_
       clear hE hS a w hq127; rintro m135 a w ⟨rest131, k129, q139, rfl, hd132, hq127, hE, hS⟩
       refine W.gen fun K140 hK140 => ?_
       rcases rest131 with _ | rest131
       ·skip
        refine W.seq (W.region ?_)
        refine WL.vS hS hE (runs_plain rfl) (Gives.p hE rfl) rfl ?_; clear hE a; intro a hE
        refine WL.nil ?_
        refine W.seq ?_
        refine W.condF hE rfl (decide_eq_false (by omega)) ?_
        subst hK140
        refine W.exit rfl ?_
        exact ⟨q139, Option.some.inj hq127, hE.pick _ ⟨rfl, rfl, rfl, rfl, rfl, rfl, rfl, rfl, rfl, rfl, trivial⟩, hS⟩
       ·have hlt133 : k129 < q117.length := by omega
        rw [FleetTurns.loop4] at hq127
        refine W.seq (W.region ?_)
        refine WL.vS hS hE (runs_plain rfl) (Gives.p hE rfl) rfl ?_; clear hE a; intro a hE
        refine WL.nil ?_
        refine W.seq ?_
        refine W.condT hE rfl (decide_eq_true (by omega)) ?_
        refine W.skip ?_
        refine W.seq ?_
        refine W.block ?_
        refine W.seq (W.region ?_)
        refine WL.vS hS hE (runs_plain rfl) (Gives.p hE rfl) rfl ?_; clear hE a; intro a hE
        obtain ⟨x141, hx142, hq127⟩ := bindS hq127
        obtain ⟨hi143, hlt144, hy145⟩ := gx_some hx142
        obtain ⟨a146, c147, cs148, hd149, hev150⟩ := h122.at hy145
        refine WL.vS hS hE (runs_plain rfl) (Gives.idx hE ((((k129 : Nat) : Int)).toNat) rfl rfl sl25 hi143 (by omega) (hS.nAok 1 rfl (by omega : (((k129 : Nat) : Int)).toNat < q117.length))) rfl ?_; clear hE a; intro a hE
        refine WL.vS hS hE (runs_plain rfl) (Gives.load1 (v := .slice a146 x141.length c147) hE rfl (fun w h => St.nSees h 1 rfl hd149) ty44) rfl ?_; clear hE a; intro a hE
        refine WL.vS hS hE (runs_plain rfl) (Gives.p hE rfl) rfl ?_; clear hE a; intro a hE
        refine WL.vS hS hE (runs_plain rfl) (Gives.p hE rfl) rfl ?_; clear hE a; intro a hE
        refine WL.nil ?_
        refine W.seq (W.region ?_)
        refine WL.vS hS hE (runs_plain rfl) (Gives.p hE rfl) rfl ?_; clear hE a; intro a hE
        refine WL.vS hS hE (runs_plain rfl) (Gives.p hE rfl) rfl ?_; clear hE a; intro a hE
        refine WL.vS hS hE (runs_plain rfl) (Gives.len hE rfl sl44) rfl ?_; clear hE a; intro a hE
        refine WL.vS hS hE (runs_plain rfl) (Gives.p hE rfl) rfl ?_; clear hE a; intro a hE
        obtain ⟨x151, hx152, hq127⟩ := bindS hq127
        obtain ⟨hi153, hlt154, hy155⟩ := gx_some hx152
        obtain ⟨vs156, hl157, hR158, hd159, hget160⟩ := hev150.at hy155
        subst hR158
        refine WL.vS hS hE (runs_plain rfl) (Gives.idx hE ((w64 (((x141).length : Int) - 1)).toNat) rfl rfl sl44 hi153 hlt154 (hS.nnAok 1 rfl hd149 hlt154)) rfl ?_; clear hE a; intro a hE
        refine WL.vS hS hE (runs_plain rfl) (Gives.load1 hE rfl (fun w h => St.nnSees h 1 rfl hd149 ((w64 (((x141).length : Int) - 1)).toNat * 1) _ hget160) ty3) rfl ?_; clear hE a; intro a hE
        refine WL.vS hS hE (runs_plain rfl) (Gives.p hE rfl) rfl ?_; clear hE a; intro a hE
        refine WL.nil ?_
        refine W.seq ?_
        obtain ⟨q162, hq161, hq127⟩ := bindS hq127
        refine W.cut (fun a w => ∃ (q165 : Bool), q165 = q162 ∧ Rep a 113 [(0, .slice a0 x0.length c0), (1, .int .i64 x1), (7, .slice a118 q117.length c119), (9, .int .i64 x81), (10, .int .i64 q139), (11, .int .i64 ((k129 : Nat) : Int)), (21, .slice a55 q53.length c56), (22, .int .i64 ((q53.length : Nat) : Int)), (23, .int .i64 ((k63 : Nat) : Int)), (31, .int .i64 x91.Units), (32, .int .i64 q124), (34, .slice a118 q117.length c119), (35, .int .i64 ((q117.length : Nat) : Int)), (36, .int .i64 ((k129 : Nat) : Int)), (89, .bool q165)] ∧ St w s (vecC 3 1 a55 c56 q53.length cs58 :: nestC 44 3 1 a118 c119 q117.length ds121 :: R)) ?_ ?_
        ·refine W.gen fun K166 hK166 => ?_
         refine W.regionQ (C := fun w => St w s (vecC 3 1 a55 c56 q53.length cs58 :: nestC 44 3 1 a118 c119 q117.length ds121 :: R)) mixed (by kernel_rfl) hS.drew ?_
         refine QL.v hE (runs_plain rfl) (Gives.p hE rfl) rfl ?_; clear hE a; intro a hE
         refine QL.v hE (runs_plain rfl) (Gives.p hE rfl) rfl ?_; clear hE a; intro a hE
         refine QL.v hE (runs_plain rfl) (Gives.p hE rfl) rfl ?_; clear hE a; intro a hE
         refine QL.v hE (runs_plain rfl) (Gives.p hE rfl) rfl ?_; clear hE a; intro a hE
         rcases Bool.eq_false_or_eq_true (x151 != x81) with hg167 | hg167
         ·replace hq161 := iteT hg167 hq161
          refine QL.v hE (runs_if hE rfl rfl rfl hg167) (Gives.p hE rfl) rfl ?_; clear hE a; intro a hE
          refine QL.v hE (runs_if hE rfl rfl rfl hg167) (Gives.p hE rfl) rfl ?_; clear hE a; intro a hE
          obtain ⟨x168, hx169, hq161⟩ := bindS hq161
          obtain ⟨hi170, hlt171, hy172⟩ := gx_some hx169
          obtain ⟨cs173, hl174, hR175, hat176⟩ := h0.at hy172
          subst hR175
          refine QL.v hE (runs_if hE rfl rfl rfl hg167) (Gives.idx hE (x151).toNat rfl rfl sl32 hi170 hlt171 (h0.aok hlt171)) rfl ?_; clear hE a; intro a hE
          refine QL.v hE (runs_if hE rfl rfl rfl hg167) (Gives.loadA hE rfl (fun w h => hat176 w _ h) ty78) rfl ?_; clear hE a; intro a hE
          refine QL.v hE (runs_if hE rfl rfl rfl hg167) (Gives.p hE rfl) rfl ?_; clear hE a; intro a hE
          refine QL.v hE (runs_if hE rfl rfl rfl hg167) (Gives.p hE rfl) rfl ?_; clear hE a; intro a hE
          obtain ⟨x177, hx178, hq161⟩ := bindS hq161
          obtain ⟨hi179, hlt180, hy181⟩ := gx_some hx178
          obtain ⟨cs182, hl183, hR184, hat185⟩ := h0.at hy181
          subst hR184
          refine QL.v hE (runs_if hE rfl rfl rfl hg167) (Gives.idx hE (x81).toNat rfl rfl sl32 hi179 hlt180 (h0.aok hlt180)) rfl ?_; clear hE a; intro a hE
          refine QL.v hE (runs_if hE rfl rfl rfl hg167) (Gives.loadA hE rfl (fun w h => hat185 w _ h) ty78) rfl ?_; clear hE a; intro a hE
          refine QL.v hE (runs_if hE rfl rfl rfl hg167) (Gives.p hE rfl) rfl ?_; clear hE a; intro a hE
          refine QL.fnq hE (fun w hS => Fleetfollows_ok hS  rfl (r := Fleetfollows x168 x177 x1)) (runs_if hE rfl rfl rfl hg167) bd56 rfl rfl rfl ?_; clear hE a; intro a hE
          refine QL.v hE (runs_plain rfl) (Gives.pickT hE rfl hg167 rfl) rfl ?_; clear hE a; intro a hE
          refine QL.v hE (runs_plain rfl) (Gives.p hE rfl) rfl ?_; clear hE a; intro a hE
          rcases Bool.eq_false_or_eq_true (Fleetfollows x168 x177 x1) with hg186 | hg186
          ·replace hq161 := iteT hg186 hq161
           refine QL.v hE (runs_if hE rfl rfl rfl hg186) (Gives.p hE rfl) rfl ?_; clear hE a; intro a hE
           refine QL.v hE (runs_if hE rfl rfl rfl hg186) (Gives.p hE rfl) rfl ?_; clear hE a; intro a hE
           refine QL.v hE (runs_if hE rfl rfl rfl hg186) (Gives.p hE rfl) rfl ?_; clear hE a; intro a hE
           rcases Bool.eq_false_or_eq_true (decide (q139 < 0)) with hg187 | hg187
           ·replace hq161 := iteT hg187 hq161
            refine QL.no hE (runs_not hE rfl rfl rfl (by rw [hg187]; decide)) rfl ?_; clear hE a; intro a hE
            refine QL.no hE (runs_not hE rfl rfl rfl (by rw [hg187]; decide)) rfl ?_; clear hE a; intro a hE
            refine QL.no hE (runs_not hE rfl rfl rfl (by rw [hg187]; decide)) rfl ?_; clear hE a; intro a hE
            refine QL.no hE (runs_not hE rfl rfl rfl (by rw [hg187]; decide)) rfl ?_; clear hE a; intro a hE
            refine QL.no hE (runs_not hE rfl rfl rfl (by rw [hg187]; decide)) rfl ?_; clear hE a; intro a hE
            refine QL.no hE (runs_not hE rfl rfl rfl (by rw [hg187]; decide)) rfl ?_; clear hE a; intro a hE
            refine QL.no hE (runs_not hE rfl rfl rfl (by rw [hg187]; decide)) rfl ?_; clear hE a; intro a hE
            refine QL.no hE (runs_not hE rfl rfl rfl (by rw [hg187]; decide)) rfl ?_; clear hE a; intro a hE
            refine QL.no hE (runs_not hE rfl rfl rfl (by rw [hg187]; decide)) rfl ?_; clear hE a; intro a hE
            refine QL.no hE (runs_not hE rfl rfl rfl (by rw [hg187]; decide)) rfl ?_; clear hE a; intro a hE
            refine QL.no hE (runs_not hE rfl rfl rfl (by rw [hg187]; decide)) rfl ?_; clear hE a; intro a hE
            refine QL.no hE (runs_not hE rfl rfl rfl (by rw [hg187]; decide)) rfl ?_; clear hE a; intro a hE
            refine QL.no hE (runs_not hE rfl rfl rfl (by rw [hg187]; decide)) rfl ?_; clear hE a; intro a hE
            refine QL.no hE (runs_not hE rfl rfl rfl (by rw [hg187]; decide)) rfl ?_; clear hE a; intro a hE
            refine QL.no hE (runs_not hE rfl rfl rfl (by rw [hg187]; decide)) rfl ?_; clear hE a; intro a hE
            refine QL.no hE (runs_not hE rfl rfl rfl (by rw [hg187]; decide)) rfl ?_; clear hE a; intro a hE
            refine QL.no hE (runs_not hE rfl rfl rfl (by rw [hg187]; decide)) rfl ?_; clear hE a; intro a hE
            refine QL.no hE (runs_not hE rfl rfl rfl (by rw [hg187]; decide)) rfl ?_; clear hE a; intro a hE
            refine QL.no hE (runs_not hE rfl rfl rfl (by rw [hg187]; decide)) rfl ?_; clear hE a; intro a hE
            refine QL.no hE (runs_not hE rfl rfl rfl (by rw [hg187]; decide)) rfl ?_; clear hE a; intro a hE
            refine QL.no hE (runs_not hE rfl rfl rfl (by rw [hg187]; decide)) rfl ?_; clear hE a; intro a hE
            refine QL.no hE (runs_not hE rfl rfl rfl (by rw [hg187]; decide)) rfl ?_; clear hE a; intro a hE
            refine QL.v hE (runs_if hE rfl rfl rfl hg186) (Gives.pickT hE rfl hg187 rfl) rfl ?_; clear hE a; intro a hE
            refine QL.v hE (runs_plain rfl) (Gives.pickT hE rfl hg186 rfl) rfl ?_; clear hE a; intro a hE
            refine QL.nil ?_; clear hS w; intro w hS
            subst hK166
            exact ⟨true, Option.some.inj hq161, hE.pick _ ⟨rfl, rfl, rfl, rfl, rfl, rfl, rfl, rfl, rfl, rfl, rfl, rfl, rfl, rfl, rfl, trivial⟩, hS⟩
           ·replace hq161 := iteF hg187 hq161
            refine QL.v hE (runs_if hE rfl rfl rfl hg187) (Gives.p hE rfl) rfl ?_; clear hE a; intro a hE
            refine QL.v hE (runs_if hE rfl rfl rfl hg187) (Gives.p hE rfl) rfl ?_; clear hE a; intro a hE
            obtain ⟨x188, hx189, hq161⟩ := bindS hq161
            obtain ⟨hi190, hlt191, hy192⟩ := gx_some hx189
            obtain ⟨cs193, hl194, hR195, hat196⟩ := h0.at hy192
            subst hR195
            refine QL.v hE (runs_if hE rfl rfl rfl hg187) (Gives.idx hE (x151).toNat rfl rfl sl32 hi190 hlt191 (h0.aok hlt191)) rfl ?_; clear hE a; intro a hE
            refine QL.v hE (runs_if hE rfl rfl rfl hg187) (Gives.fld hE rfl fl78_3) rfl ?_; clear hE a; intro a hE
            refine QL.v hE (runs_if hE rfl rfl rfl hg187) (Gives.load1 hE rfl (fun w h => (hat196 w _ h).one rfl) ty3) rfl ?_; clear hE a; intro a hE
            refine QL.v hE (runs_if hE rfl rfl rfl hg187) (Gives.p hE rfl) rfl ?_; clear hE a; intro a hE
            refine QL.v hE (runs_if hE rfl rfl rfl hg187) (Gives.p hE rfl) rfl ?_; clear hE a; intro a hE
            refine QL.v hE (runs_if hE rfl rfl rfl hg187) (Gives.p hE rfl) rfl ?_; clear hE a; intro a hE
            obtain ⟨x197, hx198, hq161⟩ := bindS hq161
            obtain ⟨hi199, hlt200, hy201⟩ := gx_some hx198
            obtain ⟨a202, c203, cs204, hd205, hev206⟩ := h122.at hy201
            refine QL.v hE (runs_if hE rfl rfl rfl hg187) (Gives.idx hE ((q139).toNat) rfl rfl sl25 hi199 (by omega) (hS.nAok 1 rfl (by omega : (q139).toNat < q117.length))) rfl ?_; clear hE a; intro a hE
            refine QL.v hE (runs_if hE rfl rfl rfl hg187) (Gives.load1 (v := .slice a202 x197.length c203) hE rfl (fun w h => St.nSees h 1 rfl hd205) ty44) rfl ?_; clear hE a; intro a hE
            refine QL.v hE (runs_if hE rfl rfl rfl hg187) (Gives.p hE rfl) rfl ?_; clear hE a; intro a hE
            refine QL.v hE (runs_if hE rfl rfl rfl hg187) (Gives.p hE rfl) rfl ?_; clear hE a; intro a hE
            obtain ⟨x207, hx208, hq161⟩ := bindS hq161
            obtain ⟨hi209, hlt210, hy211⟩ := gx_some hx208
            obtain ⟨a212, c213, cs214, hd215, hev216⟩ := h122.at hy211
            refine QL.v hE (runs_if hE rfl rfl rfl hg187) (Gives.idx hE ((q139).toNat) rfl rfl sl25 hi209 (by omega) (hS.nAok 1 rfl (by omega : (q139).toNat < q117.length))) rfl ?_; clear hE a; intro a hE
            refine QL.v hE (runs_if hE rfl rfl rfl hg187) (Gives.load1 (v := .slice a212 x207.length c213) hE rfl (fun w h => St.nSees h 1 rfl hd215) ty44) rfl ?_; clear hE a; intro a hE
            refine QL.v hE (runs_if hE rfl rfl rfl hg187) (Gives.len hE rfl sl44) rfl ?_; clear hE a; intro a hE
            refine QL.v hE (runs_if hE rfl rfl rfl hg187) (Gives.p hE rfl) rfl ?_; clear hE a; intro a hE
            obtain ⟨x217, hx218, hq161⟩ := bindS hq161
            obtain ⟨hi219, hlt220, hy221⟩ := gx_some hx218
            obtain ⟨vs222, hl223, hR224, hd225, hget226⟩ := hev206.at hy221
            subst hR224
            refine QL.v hE (runs_if hE rfl rfl rfl hg187) (Gives.idx hE ((w64 (((x207).length : Int) - 1)).toNat) rfl rfl sl44 hi219 hlt220 (hS.nnAok 1 rfl hd205 hlt220)) rfl ?_; clear hE a; intro a hE
            refine QL.v hE (runs_if hE rfl rfl rfl hg187) (Gives.load1 hE rfl (fun w h => St.nnSees h 1 rfl hd205 ((w64 (((x207).length : Int) - 1)).toNat * 1) _ hget226) ty3) rfl ?_; clear hE a; intro a hE
            obtain ⟨x227, hx228, hq161⟩ := bindS hq161
            obtain ⟨hi229, hlt230, hy231⟩ := gx_some hx228
            obtain ⟨cs232, hl233, hR234, hat235⟩ := h0.at hy231
            subst hR234
            refine QL.v hE (runs_if hE rfl rfl rfl hg187) (Gives.idx hE (x217).toNat rfl rfl sl32 hi229 hlt230 (h0.aok hlt230)) rfl ?_; clear hE a; intro a hE
            refine QL.v hE (runs_if hE rfl rfl rfl hg187) (Gives.fld hE rfl fl78_3) rfl ?_; clear hE a; intro a hE
            refine QL.v hE (runs_if hE rfl rfl rfl hg187) (Gives.load1 hE rfl (fun w h => (hat235 w _ h).one rfl) ty3) rfl ?_; clear hE a; intro a hE
            refine QL.v hE (runs_if hE rfl rfl rfl hg187) (Gives.p hE rfl) rfl ?_; clear hE a; intro a hE
            refine QL.v hE (runs_if hE rfl rfl rfl hg186) (Gives.pickF hE rfl hg187 rfl) rfl ?_; clear hE a; intro a hE
            refine QL.v hE (runs_plain rfl) (Gives.pickT hE rfl hg186 rfl) rfl ?_; clear hE a; intro a hE
            refine QL.nil ?_; clear hS w; intro w hS
            subst hK166
            exact ⟨decide (x188.Arr < x227.Arr), Option.some.inj hq161, hE.pick _ ⟨rfl, rfl, rfl, rfl, rfl, rfl, rfl, rfl, rfl, rfl, rfl, rfl, rfl, rfl, rfl, trivial⟩, hS⟩
          ·replace hq161 := iteF hg186 hq161
           refine QL.no hE (runs_not hE rfl rfl rfl (by rw [hg186]; decide)) rfl ?_; clear hE a; intro a hE
           refine QL.no hE (runs_not hE rfl rfl rfl (by rw [hg186]; decide)) rfl ?_; clear hE a; intro a hE
           refine QL.no hE (runs_not hE rfl rfl rfl (by rw [hg186]; decide)) rfl ?_; clear hE a; intro a hE
           refine QL.no hE (runs_undef hE rfl rfl rfl) rfl ?_; clear hE a; intro a hE
           refine QL.no hE (runs_undef hE rfl rfl rfl) rfl ?_; clear hE a; intro a hE
           refine QL.no hE (runs_undef hE rfl rfl rfl) rfl ?_; clear hE a; intro a hE
           refine QL.no hE (runs_undef hE rfl rfl rfl) rfl ?_; clear hE a; intro a hE
           refine QL.no hE (runs_undef hE rfl rfl rfl) rfl ?_; clear hE a; intro a hE
           refine QL.no hE (runs_undef hE rfl rfl rfl) rfl ?_; clear hE a; intro a hE
           refine QL.no hE (runs_undef hE rfl rfl rfl) rfl ?_; clear hE a; intro a hE
           refine QL.no hE (runs_undef hE rfl rfl rfl) rfl ?_; clear hE a; intro a hE
           refine QL.no hE (runs_undef hE rfl rfl rfl) rfl ?_; clear hE a; intro a hE
           refine QL.no hE (runs_undef hE rfl rfl rfl) rfl ?_; clear hE a; intro a hE
           refine QL.no hE (runs_undef hE rfl rfl rfl) rfl ?_; clear hE a; intro a hE
           refine QL.no hE (runs_undef hE rfl rfl rfl) rfl ?_; clear hE a; intro a hE
           refine QL.no hE (runs_undef hE rfl rfl rfl) rfl ?_; clear hE a; intro a hE
           refine QL.no hE (runs_undef hE rfl rfl rfl) rfl ?_; clear hE a; intro a hE
           refine QL.no hE (runs_undef hE rfl rfl rfl) rfl ?_; clear hE a; intro a hE
           refine QL.no hE (runs_undef hE rfl rfl rfl) rfl ?_; clear hE a; intro a hE
           refine QL.no hE (runs_undef hE rfl rfl rfl) rfl ?_; clear hE a; intro a hE
           refine QL.no hE (runs_undef hE rfl rfl rfl) rfl ?_; clear hE a; intro a hE
           refine QL.no hE (runs_undef hE rfl rfl rfl) rfl ?_; clear hE a; intro a hE
           refine QL.no hE (runs_undef hE rfl rfl rfl) rfl ?_; clear hE a; intro a hE
           refine QL.no hE (runs_undef hE rfl rfl rfl) rfl ?_; clear hE a; intro a hE
           refine QL.no hE (runs_undef hE rfl rfl rfl) rfl ?_; clear hE a; intro a hE
           refine QL.no hE (runs_not hE rfl rfl rfl (by rw [hg186]; decide)) rfl ?_; clear hE a; intro a hE
           refine QL.v hE (runs_plain rfl) (Gives.pickF hE rfl hg186 rfl) rfl ?_; clear hE a; intro a hE
           refine QL.nil ?_; clear hS w; intro w hS
           subst hK166
           exact ⟨false, Option.some.inj hq161, hE.pick _ ⟨rfl, rfl, rfl, rfl, rfl, rfl, rfl, rfl, rfl, rfl, rfl, rfl, rfl, rfl, rfl, trivial⟩, hS⟩
         ·replace hq161 := iteF hg167 hq161
          refine QL.no hE (runs_not hE rfl rfl rfl (by rw [hg167]; decide)) rfl ?_; clear hE a; intro a hE
          refine QL.no hE (runs_not hE rfl rfl rfl (by rw [hg167]; decide)) rfl ?_; clear hE a; intro a hE
          refine QL.no hE (runs_not hE rfl rfl rfl (by rw [hg167]; decide)) rfl ?_; clear hE a; intro a hE
          refine QL.no hE (runs_not hE rfl rfl rfl (by rw [hg167]; decide)) rfl ?_; clear hE a; intro a hE
          refine QL.no hE (runs_not hE rfl rfl rfl (by rw [hg167]; decide)) rfl ?_; clear hE a; intro a hE
          refine QL.no hE (runs_not hE rfl rfl rfl (by rw [hg167]; decide)) rfl ?_; clear hE a; intro a hE
          refine QL.no hE (runs_not hE rfl rfl rfl (by rw [hg167]; decide)) rfl ?_; clear hE a; intro a hE
          refine QL.no hE (runs_not hE rfl rfl rfl (by rw [hg167]; decide)) rfl ?_; clear hE a; intro a hE
          refine QL.no hE (runs_not hE rfl rfl rfl (by rw [hg167]; decide)) rfl ?_; clear hE a; intro a hE
          refine QL.no hE (runs_not hE rfl rfl rfl (by rw [hg167]; decide)) rfl ?_; clear hE a; intro a hE
          refine QL.v hE (runs_plain rfl) (Gives.pickF hE rfl hg167 rfl) rfl ?_; clear hE a; intro a hE
          refine QL.v hE (runs_plain rfl) (Gives.p hE rfl) rfl ?_; clear hE a; intro a hE
          refine QL.no hE (runs_not hE rfl rfl rfl (by decide)) rfl ?_; clear hE a; intro a hE
          refine QL.no hE (runs_not hE rfl rfl rfl (by decide)) rfl ?_; clear hE a; intro a hE
          refine QL.no hE (runs_not hE rfl rfl rfl (by decide)) rfl ?_; clear hE a; intro a hE
          refine QL.no hE (runs_undef hE rfl rfl rfl) rfl ?_; clear hE a; intro a hE
          refine QL.no hE (runs_undef hE rfl rfl rfl) rfl ?_; clear hE a; intro a hE
          refine QL.no hE (runs_undef hE rfl rfl rfl) rfl ?_; clear hE a; intro a hE
          refine QL.no hE (runs_undef hE rfl rfl rfl) rfl ?_; clear hE a; intro a hE
          refine QL.no hE (runs_undef hE rfl rfl rfl) rfl ?_; clear hE a; intro a hE
          refine QL.no hE (runs_undef hE rfl rfl rfl) rfl ?_; clear hE a; intro a hE
          refine QL.no hE (runs_undef hE rfl rfl rfl) rfl ?_; clear hE a; intro a hE
          refine QL.no hE (runs_undef hE rfl rfl rfl) rfl ?_; clear hE a; intro a hE
          refine QL.no hE (runs_undef hE rfl rfl rfl) rfl ?_; clear hE a; intro a hE
          refine QL.no hE (runs_undef hE rfl rfl rfl) rfl ?_; clear hE a; intro a hE
          refine QL.no hE (runs_undef hE rfl rfl rfl) rfl ?_; clear hE a; intro a hE
          refine QL.no hE (runs_undef hE rfl rfl rfl) rfl ?_; clear hE a; intro a hE
          refine QL.no hE (runs_undef hE rfl rfl rfl) rfl ?_; clear hE a; intro a hE
          refine QL.no hE (runs_undef hE rfl rfl rfl) rfl ?_; clear hE a; intro a hE
          refine QL.no hE (runs_undef hE rfl rfl rfl) rfl ?_; clear hE a; intro a hE
          refine QL.no hE (runs_undef hE rfl rfl rfl) rfl ?_; clear hE a; intro a hE
          refine QL.no hE (runs_undef hE rfl rfl rfl) rfl ?_; clear hE a; intro a hE
          refine QL.no hE (runs_undef hE rfl rfl rfl) rfl ?_; clear hE a; intro a hE
          refine QL.no hE (runs_undef hE rfl rfl rfl) rfl ?_; clear hE a; intro a hE
          refine QL.no hE (runs_undef hE rfl rfl rfl) rfl ?_; clear hE a; intro a hE
          refine QL.no hE (runs_undef hE rfl rfl rfl) rfl ?_; clear hE a; intro a hE
          refine QL.no hE (runs_undef hE rfl rfl rfl) rfl ?_; clear hE a; intro a hE
          refine QL.no hE (runs_not hE rfl rfl rfl (by decide)) rfl ?_; clear hE a; intro a hE
          refine QL.v hE (runs_plain rfl) (Gives.pickF hE rfl rfl rfl) rfl ?_; clear hE a; intro a hE
          refine QL.nil ?_; clear hS w; intro w hS
          subst hK166
          exact ⟨false, Option.some.inj hq161, hE.pick _ ⟨rfl, rfl, rfl, rfl, rfl, rfl, rfl, rfl, rfl, rfl, rfl, rfl, rfl, rfl, rfl, trivial⟩, hS⟩
        ·clear hE hS a w; rintro a w ⟨q165, rfl, hE, hS⟩
         obtain ⟨q237, hq236, hq127⟩ := bndS hq127
         refine W.cut (fun a w => ∃ (q240 : Int), q240 = q237 ∧ Rep a 113 [(0, .slice a0 x0.length c0), (1, .int .i64 x1), (7, .slice a118 q117.length c119), (9, .int .i64 x81), (10, .int .i64 q240), (21, .slice a55 q53.length c56), (22, .int .i64 ((q53.length : Nat) : Int)), (23, .int .i64 ((k63 : Nat) : Int)), (31, .int .i64 x91.Units), (32, .int .i64 q124), (34, .slice a118 q117.length c119), (35, .int .i64 ((q117.length : Nat) : Int)), (36, .int .i64 ((k129 : Nat) : Int))] ∧ St w s (vecC 3 1 a55 c56 q53.length cs58 :: nestC 44 3 1 a118 c119 q117.length ds121 :: R)) ?_ ?_
         ·refine W.gen fun K241 hK241 => ?_
          refine W.cond hE rfl (fun hc242 => ?_) (fun hc242 => ?_)
          ·replace hq236 := iteT hc242 hq236
           refine W.region ?_
           refine WL.vS hS hE (runs_plain rfl) (Gives.p hE rfl) rfl ?_; clear hE a; intro a hE
           refine WL.vS hS hE (runs_plain rfl) (Gives.p hE rfl) rfl ?_; clear hE a; intro a hE
           refine WL.nil ?_
           subst hK241
           exact ⟨((k129 : Nat) : Int), hq236, hE.pick _ ⟨rfl, rfl, rfl, rfl, rfl, rfl, rfl, rfl, rfl, rfl, rfl, rfl, rfl, trivial⟩, hS⟩
          ·replace hq236 := iteF hc242 hq236
           refine W.skip ?_
           subst hK241
           exact ⟨q139, hq236, hE.pick _ ⟨rfl, rfl, rfl, rfl, rfl, rfl, rfl, rfl, rfl, rfl, rfl, rfl, rfl, trivial⟩, hS⟩
         ·clear hE hS a w; rintro a w ⟨q240, rfl, hE, hS⟩
          refine W.region ?_
          refine WL.vS hS hE (runs_plain rfl) (Gives.inc hE rfl (by omega)) rfl ?_; clear hE a; intro a hE
          refine WL.vS hS hE (runs_plain rfl) (Gives.p hE rfl) rfl ?_; clear hE a; intro a hE
          refine WL.nil ?_
          subst hK140
          exact ⟨rest131, Nat.lt_succ_self _, rest131, k129 + 1, q240, rfl, (by omega), hq127, hE.pick _ ⟨rfl, rfl, rfl, rfl, rfl, rfl, rfl, rfl, rfl, rfl, rfl, rfl, rfl, trivial⟩, hS⟩
      ·clear hE hS a w; rintro a w ⟨q139, rfl, hE, hS⟩
       refine W.seq ?_
       refine W.seq (W.region ?_)
       refine WL.vS hS hE (runs_plain rfl) (Gives.p hE rfl) rfl ?_; clear hE a; intro a hE
       refine WL.vS hS hE (runs_plain rfl) (Gives.p hE rfl) rfl ?_; clear hE a; intro a hE
       refine WL.nil ?_
       obtain ⟨q244, hq243, hq111⟩ := bindS hq111
       refine W.cut (fun a w => ∃ (q247 : List (List Int)), ∃ (q254 : Int), ∃ (a248 : Option Addr), ∃ (c249 : Nat), ∃ (n250 : Nat), ∃ (ds251 : List In), (q247, q254) = q244 ∧ NEv 1 (RI .i64) s ds251 q247 ∧ q247.length = n250 ∧ Rep a 113 [(0, .slice a0 x0.length c0), (1, .int .i64 x1), (7, .slice a248 n250 c249), (9, .int .i64 x81), (10, .int .i64 q254), (21, .slice a55 q53.length c56), (22, .int .i64 ((q53.length : Nat) : Int)), (23, .int .i64 ((k63 : Nat) : Int)), (31, .int .i64 x91.Units), (32, .int .i64 q124)] ∧ St w s (vecC 3 1 a55 c56 q53.length cs58 :: nestC 44 3 1 a248 c249 n250 ds251 :: R)) ?_ ?_
       ·refine W.gen fun K255 hK255 => ?_
        refine W.cond hE rfl (fun hc256 => ?_) (fun hc256 => ?_)
        ·replace hq243 := iteT hc256 hq243
         refine W.seq (W.region ?_)
         refine WL.vS hS hE (runs_plain rfl) (Gives.p hE rfl) rfl ?_; clear hE a; intro a hE
         refine WL.lit hE hS (e := 44) (es := 1) (vs := [(0, .slice none 0 0)]) (cs := [.slice none 0 0]) (runs_plain rfl) rfl (by kernel_rfl) rfl ?_; clear hE hS a w; intro b257 a w hE hS
         replace hS := hS.vecNil 3 1
         obtain ⟨x259, hx260, hq243⟩ := bindS hq243
         replace hS := hS.front 1 rfl
         refine WL.appND hE hS 1 rfl (runs_plain rfl) rfl rfl ap25 h122 rfl (Ev.nil) (rfl) hx260 rfl ?_; clear hE hS a w; intro a261 c262 ds263 a w h264 hE hS
         refine WL.vS hS hE (runs_plain rfl) (Gives.p hE rfl) rfl ?_; clear hE a; intro a hE
         refine WL.nil ?_
         refine W.region ?_
         refine WL.vS hS hE (runs_plain rfl) (Gives.p hE rfl) rfl ?_; clear hE a; intro a hE
         refine WL.vS hS hE (runs_plain rfl) (Gives.len hE rfl sl25) rfl ?_; clear hE a; intro a hE
         refine WL.vS hS hE (runs_plain rfl) (Gives.p hE rfl) rfl ?_; clear hE a; intro a hE
         refine WL.vS hS hE (runs_plain rfl) (Gives.p hE rfl) rfl ?_; clear hE a; intro a hE
         refine WL.nil ?_
         subst hK255
         exact ⟨x259, w64 (((x259.length : Nat) : Int) - 1), a261, c262, x259.length, ds263, Option.some.inj hq243, h264, (rfl), hE.pick _ ⟨rfl, rfl, rfl, rfl, rfl, rfl, rfl, rfl, rfl, rfl, trivial⟩, hS⟩
        ·replace hq243 := iteF hc256 hq243
         refine W.skip ?_
         subst hK255
         exact ⟨q117, q139, a118, c119, q117.length, ds121, Option.some.inj hq243, h122, rfl, hE.pick _ ⟨rfl, rfl, rfl, rfl, rfl, rfl, rfl, rfl, rfl, rfl, trivial⟩, hS⟩
       ·clear hE hS a w; rintro a w ⟨q247, q254, a248, c249, n250, ds251, rfl, h252, rfl, hE, hS⟩
        dsimp only at hq111
        refine W.region ?_
        refine WL.vS hS hE (runs_plain rfl) (Gives.p hE rfl) rfl ?_; clear hE a; intro a hE
        refine WL.vS hS hE (runs_plain rfl) (Gives.p hE rfl) rfl ?_; clear hE a; intro a hE
        refine WL.vS hS hE (runs_plain rfl) (Gives.p hE rfl) rfl ?_; clear hE a; intro a hE
        refine WL.vS hS hE (runs_plain rfl) (Gives.p hE rfl) rfl ?_; clear hE a; intro a hE
        obtain ⟨x265, hx266, hq111⟩ := bindS hq111
        obtain ⟨hi267, hlt268, hy269⟩ := gx_some hx266
        obtain ⟨a270, c271, cs272, hd273, hev274⟩ := h252.at hy269
        refine WL.vS hS hE (runs_plain rfl) (Gives.idx hE ((q254).toNat) rfl rfl sl25 hi267 (by omega) (hS.nAok 1 rfl (by omega : (q254).toNat < q247.length))) rfl ?_; clear hE a; intro a hE
        refine WL.vS hS hE (runs_plain rfl) (Gives.load1 (v := .slice a270 x265.length c271) hE rfl (fun w h => St.nSees h 1 rfl hd273) ty44) rfl ?_; clear hE a; intro a hE
        refine WL.vS hS hE (runs_plain rfl) (Gives.p hE rfl) rfl ?_; clear hE a; intro a hE
        refine WL.lit hE hS (e := 3) (es := 1) (vs := [(0, .int .i64 x81)]) (cs := [.int .i64 x81]) (runs_plain rfl) rfl (by kernel_rfl) rfl ?_; clear hE hS a w; intro b275 a w hE hS
        replace hS := hS.borrowM 2 rfl hd273
        replace hS := hS.front 1 rfl
        obtain ⟨x277, hx278, hq111⟩ := bindS hq111
        refine WL.appD hE hS 0 (m := 1) (runs_plain rfl) rfl rfl rfl ap44 rfl hev274 (rfl) (xs := [x81]) (Ev.cons (c1 := [.int .i64 x81]) rfl rfl (Ev.nil)) rfl rfl hx278 rfl ?_; clear hE hS a w; intro a279 c280 cs281 a w h282 hE hS
        obtain ⟨_, hx283, hq111⟩ := bindS hq111
        obtain ⟨h284, h285⟩ := ix_some hx283
        refine WL.vS hS hE (runs_plain rfl) (Gives.idx hE ((q254).toNat) rfl rfl sl25 h284 (by omega) (hS.hAok 2 rfl (by omega : (q254).toNat < q247.length))) rfl ?_; clear hE a; intro a hE
        obtain ⟨x286, hx287, hq111⟩ := bindS hq111
        refine WL.storeND hE hS 1 rfl (runs_plain rfl) rfl rfl ty44 h252 rfl (by have := (sx_some hx287).1; omega) hx287 h282 (rfl) rfl ?_; clear hE hS a w; intro ds288 a w h289 hn290 hE hS
        refine WL.nil ?_
        refine W.region ?_
        refine WL.vS hS hE (runs_plain rfl) (Gives.p hE rfl) rfl ?_; clear hE a; intro a hE
        refine WL.vS hS hE (runs_plain rfl) (Gives.p hE rfl) rfl ?_; clear hE a; intro a hE
        refine WL.nil ?_
        subst hK125
        exact ⟨n113, Nat.lt_succ_self _, n113, x286, (w64 (q124 + 1)), a248, c249, q247.length, ds288, rfl, hq111, h289, hn290, hE.pick _ ⟨rfl, rfl, rfl, rfl, rfl, rfl, rfl, rfl, rfl, trivial⟩, hS⟩
     ·replace hq111 := iteF hc126 hq111
      subst hK125
      refine W.exit rfl ?_
      exact ⟨q117, q124, a118, c119, q117.length, ds121, Option.some.inj hq111, h122, rfl, hE.pick _ ⟨rfl, rfl, rfl, rfl, rfl, rfl, trivial⟩, hS⟩
    ·clear hE hS a w; rintro a w ⟨q117, q124, a118, c119, n120, ds121, rfl, h122, rfl, hE, hS⟩
     dsimp only at hq61
     refine W.region ?_
     refine WL.vS hS hE (runs_plain rfl) (Gives.inc hE rfl (by omega)) rfl ?_; clear hE a; intro a hE
     refine WL.vS hS hE (runs_plain rfl) (Gives.p hE rfl) rfl ?_; clear hE a; intro a hE
     refine WL.nil ?_
     subst hK80
     exact ⟨rest65, Nat.lt_succ_self _, rest65, k63 + 1, q117, a118, c119, q117.length, ds121, rfl, (by omega), hq61, h122, rfl, hE.pick _ ⟨rfl, rfl, rfl, rfl, rfl, rfl, trivial⟩, hS⟩
  ·clear hE hS a w; rintro a w ⟨q73, a74, c75, n76, ds77, rfl, h78, rfl, hE, hS⟩
   refine W.seq (W.region ?_)
   refine WL.vS hS hE (runs_plain rfl) (Gives.p hE rfl) rfl ?_; clear hE a; intro a hE
   refine WL.vS hS hE (runs_plain rfl) (Gives.p hE rfl) rfl ?_; clear hE a; intro a hE
   refine WL.vS hS hE (runs_plain rfl) (Gives.p hE rfl) rfl ?_; clear hE a; intro a hE
   refine WL.nil ?_
   refine W.ret ?_
   have hF := hS.fixN RI.mono 1 rfl h78 rfl; clear hS; obtain ⟨s291, hle292, hS, h293⟩ := hF
   replace h59 := Ev.mono RI.mono hle292 h59
   refine finG (fn := Try.f60) (rs := [.tmp 4, .tmp 5]) (vs := [_, _]) hE rfl ⟨rfl, rfl, trivial⟩ ?_
   obtain rfl := Option.some.inj hr
   replace hS := hS.tail
   exact ⟨a74, c75, s291, rfl, hle292, h293, hS⟩
set_option maxHeartbeats 8000000 in
theorem SlicesEqualLint_ok  {w : World} {s : Sg} {R : List HP} {x0 : List Int} {a0 : Option Addr} {c0 : Nat} {x1 : List Int} {a1 : Option Addr} {c1 : Nat} (hS : St w s (R)) (h0 : Sl 1 (RI .i64) s a0 c0 x0) (h1 : Sl 1 (RI .i64) s a1 c1 x1) {r : Bool} (hr : SlicesEqualLint x0 x1 = some r) :
  Calls Try.prog 30 [.slice a0 x0.length c0, .slice a1 x1.length c1].toArray w (fun e w => e = .returned (.bool r) ∧ St w s (R)) := by
 refine enter Try.func30 rfl rfl rfl fun a hE => ?_
 rw [SlicesEqualLint] at hr
 refine W.seq (W.region ?_)
 refine WL.vS hS hE (runs_plain rfl) (Gives.p hE rfl) rfl ?_; clear hE a; intro a hE
 refine WL.nil ?_
 refine W.seq ?_
 refine W.seq (W.region ?_)
 refine WL.vS hS hE (runs_plain rfl) (Gives.p hE rfl) rfl ?_; clear hE a; intro a hE
 refine WL.vS hS hE (runs_plain rfl) (Gives.len hE rfl sl44) rfl ?_; clear hE a; intro a hE
 refine WL.vS hS hE (runs_plain rfl) (Gives.p hE rfl) rfl ?_; clear hE a; intro a hE
 refine WL.vS hS hE (runs_plain rfl) (Gives.len hE rfl sl44) rfl ?_; clear hE a; intro a hE
 refine WL.vS hS hE (runs_plain rfl) (Gives.p hE rfl) rfl ?_; clear hE a; intro a hE
 refine WL.nil ?_
 refine W.cond hE rfl (fun hc51 => ?_) (fun hc51 => ?_)
 ·replace hr := iteT hc51 hr
  refine W.seq (W.region ?_)
  refine WL.vS hS hE (runs_plain rfl) (Gives.p hE rfl) rfl ?_; clear hE a; intro a hE
  refine WL.nil ?_
  refine W.ret ?_
  refine finG (fn := Try.f30) (rs := [.tmp 4]) (vs := [_]) hE rfl ⟨rfl, trivial⟩ ?_
  obtain rfl := Option.some.inj hr
  exact ⟨rfl, hS⟩
 ·replace hr := iteF hc51 hr
  refine W.skip ?_
  refine W.seq ?_
  refine W.seq (W.region ?_)
  refine WL.vS hS hE (runs_plain rfl) (Gives.p hE rfl) rfl ?_; clear hE a; intro a hE
  refine WL.vS hS hE (runs_plain rfl) (Gives.len hE rfl sl44) rfl ?_; clear hE a; intro a hE
  refine WL.vS hS hE (runs_plain rfl) (Gives.p hE rfl) rfl ?_; clear hE a; intro a hE
  refine WL.nil ?_
  obtain ⟨q53, hq52, hr⟩ := bindS hr
  refine W.cut (fun a w => (.next ()) = q53 ∧ Rep a 26 [] ∧ St w s (R)) ?_ ?_
  ·refine W.block ?_
   refine W.loop (fun m a w => ∃ (rest56 : List Int) (k54 : Nat), rest56.length = m ∧ x0.drop k54 = rest56 ∧ SlicesEqualLint.loop1 x1 rest56 k54 = some q53 ∧ Rep a 26 [(0, .slice a0 x0.length c0), (1, .slice a1 x1.length c1), (12, .int .i64 ((x0).length : Int)), (13, .int .i64 ((k54 : Nat) : Int))] ∧ St w s (R)) (m := x0.length) ⟨x0, 0, rfl, rfl, hq52, hE.pick _ ⟨rfl, rfl, rfl, rfl, trivial⟩, hS⟩ ?_
   clear hE hS a w hq52; rintro m60 a w ⟨rest56, k54, rfl, hd57, hq52, hE, hS⟩
   refine W.gen fun K63 hK63 => ?_
   rcases rest56 with _ | ⟨x55, rest56⟩
   ·have hlt58 := drop_nil hd57
    refine W.seq (W.region ?_)
    refine WL.vS hS hE (runs_plain rfl) (Gives.p hE rfl) rfl ?_; clear hE a; intro a hE
    refine WL.nil ?_
    refine W.seq ?_
    refine W.condF hE rfl (decide_eq_false (by omega)) ?_
    subst hK63
    refine W.exit rfl ?_
    exact ⟨Option.some.inj hq52, hE.pick _ trivial, hS⟩
   ·obtain ⟨hlt58, hx59, hd57⟩ := drop_cons hd57
    rw [SlicesEqualLint.loop1] at hq52
    refine W.seq (W.region ?_)
    refine WL.vS hS hE (runs_plain rfl) (Gives.p hE rfl) rfl ?_; clear hE a; intro a hE
    refine WL.nil ?_
    refine W.seq ?_
    refine W.condT hE rfl (decide_eq_true (by omega)) ?_
    refine W.skip ?_
    refine W.seq ?_
    refine W.block ?_
    refine W.seq (W.region ?_)
    refine WL.vS hS hE (runs_plain rfl) (Gives.p hE rfl) rfl ?_; clear hE a; intro a hE
    refine WL.vS hS hE (runs_plain rfl) (Gives.p hE rfl) rfl ?_; clear hE a; intro a hE
    refine WL.nil ?_
    refine W.seq ?_
    refine W.regionQ (C := fun w => St w s (R)) mixed (by kernel_rfl) hS.drew ?_
    refine QL.v hE (runs_plain rfl) (Gives.p hE rfl) rfl ?_; clear hE a; intro a hE
    refine QL.v hE (runs_plain rfl) (Gives.p hE rfl) rfl ?_; clear hE a; intro a hE
    obtain ⟨cs64, hl65, hR66, hat67⟩ := h0.at hx59
    subst hR66
    refine QL.v hE (runs_plain rfl) (Gives.idx hE k54 rfl rfl sl44 rfl hlt58 (h0.aok hlt58)) rfl ?_; clear hE a; intro a hE
    refine QL.v hE (runs_plain rfl) (Gives.load1 hE rfl (fun w h => hat67 w _ h) ty3) rfl ?_; clear hE a; intro a hE
    refine QL.v hE (runs_plain rfl) (Gives.p hE rfl) rfl ?_; clear hE a; intro a hE
    refine QL.v hE (runs_plain rfl) (Gives.p hE rfl) rfl ?_; clear hE a; intro a hE
    obtain ⟨x68, hx69, hq52⟩ := bindS hq52
    obtain ⟨hi70, hlt71, hy72⟩ := gx_some hx69
    obtain ⟨cs73, hl74, hR75, hat76⟩ := h1.at hy72
    subst hR75
    refine QL.v hE (runs_plain rfl) (Gives.idx hE (((k54 : Nat) : Int)).toNat rfl rfl sl44 hi70 hlt71 (h1.aok hlt71)) rfl ?_; clear hE a; intro a hE
    refine QL.v hE (runs_plain rfl) (Gives.load1 hE rfl (fun w h => hat76 w _ h) ty3) rfl ?_; clear hE a; intro a hE
    refine QL.v hE (runs_plain rfl) (Gives.p hE rfl) rfl ?_; clear hE a; intro a hE
    refine QL.nil ?_; clear hS w; intro w hS
    refine W.cond hE rfl (fun hc77 => ?_) (fun hc77 => ?_)
    ·replace hq52 := iteT hc77 hq52
     refine W.seq (W.region ?_)
     refine WL.vS hS hE (runs_plain rfl) (Gives.p hE rfl) rfl ?_; clear hE a; intro a hE
     refine WL.nil ?_
     refine W.ret ?_
     subst hK63
     rw [← Option.some.inj hq52] at hr
     dsimp only at hr
     refine finG (fn := Try.f30) (rs := [.tmp 4]) (vs := [_]) hE rfl ⟨rfl, trivial⟩ ?_
     obtain rfl := Option.some.inj hr
     exact ⟨rfl, hS⟩
    ·replace hq52 := iteF hc77 hq52
     refine W.skip ?_
     refine W.region ?_
     refine WL.vS hS hE (runs_plain rfl) (Gives.inc hE rfl (by have := h0.small; omega)) rfl ?_; clear hE a; intro a hE
     refine WL.vS hS hE (runs_plain rfl) (Gives.p hE rfl) rfl ?_; clear hE a; intro a hE
     refine WL.nil ?_
     subst hK63
     exact ⟨rest56.length, Nat.lt_succ_self _, rest56, k54 + 1, rfl, hd57, hq52, hE.pick _ ⟨rfl, rfl, rfl, rfl, trivial⟩, hS⟩
  ·clear hE hS a w; rintro a w ⟨rfl, hE, hS⟩
   dsimp only at hr
   refine W.seq (W.region ?_)
   refine WL.vS hS hE (runs_plain rfl) (Gives.p hE rfl) rfl ?_; clear hE a; intro a hE
   refine WL.nil ?_
   refine W.ret ?_
   refine finG (fn := Try.f30) (rs := [.tmp 4]) (vs := [_]) hE rfl ⟨rfl, trivial⟩ ?_
   obtain rfl := Option.some.inj hr
   exact ⟨rfl, hS⟩
set_option maxHeartbeats 8000000 in
theorem SlicesEqualFuncLLint_v1_ok  {w : World} {s : Sg} {R : List HP} {x0 : List (List Int)} {a0 : Option Addr} {c0 : Nat} {x1 : List (List Int)} {a1 : Option Addr} {c1 : Nat} (hS : St w s (R)) (h0 : Sl 1 (RL 1 (RI .i64)) s a0 c0 x0) (h1 : Sl 1 (RL 1 (RI .i64)) s a1 c1 x1) {r : Bool} (hr : SlicesEqualFuncLLint_v1 x0 x1 = some r) :
  Calls Try.prog 53 [.slice a0 x0.length c0, .slice a1 x1.length c1, .func (.func 30) #[] #[]].toArray w (fun e w => e = .returned (.bool r) ∧ St w s (R)) := by
 refine enter Try.func53 rfl rfl rfl fun a hE => ?_
 rw [SlicesEqualFuncLLint_v1] at hr
 refine W.seq (W.region ?_)
 refine WL.vS hS hE (runs_plain rfl) (Gives.p hE rfl) rfl ?_; clear hE a; intro a hE
 refine WL.nil ?_
 refine W.seq ?_
 refine W.seq (W.region ?_)
 refine WL.vS hS hE (runs_plain rfl) (Gives.p hE rfl) rfl ?_; clear hE a; intro a hE
 refine WL.vS hS hE (runs_plain rfl) (Gives.len hE rfl sl25) rfl ?_; clear hE a; intro a hE
 refine WL.vS hS hE (runs_plain rfl) (Gives.p hE rfl) rfl ?_; clear hE a; intro a hE
 refine WL.vS hS hE (runs_plain rfl) (Gives.len hE rfl sl25) rfl ?_; clear hE a; intro a hE
 refine WL.vS hS hE (runs_plain rfl) (Gives.p hE rfl) rfl ?_; clear hE a; intro a hE
 refine WL.nil ?_
 refine W.cond hE rfl (fun hc51 => ?_) (fun hc51 => ?_)
 ·replace hr := iteT hc51 hr
  refine W.seq (W.region ?_)
  refine WL.vS hS hE (runs_plain rfl) (Gives.p hE rfl) rfl ?_; clear hE a; intro a hE
  refine WL.nil ?_
  refine W.ret ?_
  refine finG (fn := Try.f53) (rs := [.tmp 6]) (vs := [_]) hE rfl ⟨rfl, trivial⟩ ?_
  obtain rfl := Option.some.inj hr
  exact ⟨rfl, hS⟩
 ·replace hr := iteF hc51 hr
  refine W.skip ?_
  refine W.seq ?_
  refine W.seq (W.region ?_)
  refine WL.vS hS hE (runs_plain rfl) (Gives.p hE rfl) rfl ?_; clear hE a; intro a hE
  refine WL.vS hS hE (runs_plain rfl) (Gives.len hE rfl sl25) rfl ?_; clear hE a; intro a hE
  refine WL.vS hS hE (runs_plain rfl) (Gives.p hE rfl) rfl ?_; clear hE a; intro a hE
  refine WL.nil ?_
  obtain ⟨q53, hq52, hr⟩ := bindS hr
  refine W.cut (fun a w => (.next ()) = q53 ∧ Rep a 32 [] ∧ St w s (R)) ?_ ?_
  ·refine W.block ?_
   refine W.loop (fun m a w => ∃ (rest56 : List (List Int)) (k54 : Nat), rest56.length = m ∧ x0.drop k54 = rest56 ∧ SlicesEqualFuncLLint_v1.loop1 x1 rest56 k54 = some q53 ∧ Rep a 32 [(1, .slice a1 x1.length c1), (2, .func (.func 30) #[] #[]), (15, .slice a0 x0.length c0), (16, .int .i64 ((x0).length : Int)), (17, .int .i64 ((k54 : Nat) : Int))] ∧ St w s (R)) (m := x0.length) ⟨x0, 0, rfl, rfl, hq52, hE.pick _ ⟨rfl, rfl, rfl, rfl, rfl, trivial⟩, hS⟩ ?_
   clear hE hS a w hq52; rintro m60 a w ⟨rest56, k54, rfl, hd57, hq52, hE, hS⟩
   refine W.gen fun K63 hK63 => ?_
   rcases rest56 with _ | ⟨x55, rest56⟩
   ·have hlt58 := drop_nil hd57
    refine W.seq (W.region ?_)
    refine WL.vS hS hE (runs_plain rfl) (Gives.p hE rfl) rfl ?_; clear hE a; intro a hE
    refine WL.nil ?_
    refine W.seq ?_
    refine W.condF hE rfl (decide_eq_false (by omega)) ?_
    subst hK63
    refine W.exit rfl ?_
    exact ⟨Option.some.inj hq52, hE.pick _ trivial, hS⟩
   ·obtain ⟨hlt58, hx59, hd57⟩ := drop_cons hd57
    rw [SlicesEqualFuncLLint_v1.loop1] at hq52
    refine W.seq (W.region ?_)
    refine WL.vS hS hE (runs_plain rfl) (Gives.p hE rfl) rfl ?_; clear hE a; intro a hE
    refine WL.nil ?_
    refine W.seq ?_
    refine W.condT hE rfl (decide_eq_true (by omega)) ?_
    refine W.skip ?_
    refine W.seq ?_
    refine W.block ?_
    refine W.seq (W.region ?_)
    refine WL.vS hS hE (runs_plain rfl) (Gives.p hE rfl) rfl ?_; clear hE a; intro a hE
    obtain ⟨cs64, hl65, hR66, hat67⟩ := h0.at hx59
    obtain ⟨a68, c69, rfl, h70⟩ := hR66
    refine WL.vS hS hE (runs_plain rfl) (Gives.idx hE k54 rfl rfl sl25 rfl hlt58 (h0.aok hlt58)) rfl ?_; clear hE a; intro a hE
    refine WL.vS hS hE (runs_plain rfl) (Gives.load1 hE rfl (fun w h => hat67 w _ h) ty44) rfl ?_; clear hE a; intro a hE
    refine WL.vS hS hE (runs_plain rfl) (Gives.p hE rfl) rfl ?_; clear hE a; intro a hE
    refine WL.vS hS hE (runs_plain rfl) (Gives.p hE rfl) rfl ?_; clear hE a; intro a hE
    refine WL.nil ?_
    refine W.seq (W.region ?_)
    refine WL.vS hS hE (runs_plain rfl) (Gives.p hE rfl) rfl ?_; clear hE a; intro a hE
    refine WL.vS hS hE (runs_plain rfl) (Gives.p hE rfl) rfl ?_; clear hE a; intro a hE
    obtain ⟨x71, hx72, hq52⟩ := bindS hq52
    obtain ⟨hi73, hlt74, hy75⟩ := gx_some hx72
    obtain ⟨cs76, hl77, hR78, hat79⟩ := h1.at hy75
    obtain ⟨a80, c81, rfl, h82⟩ := hR78
    refine WL.vS hS hE (runs_plain rfl) (Gives.idx hE (((k54 : Nat) : Int)).toNat rfl rfl sl25 hi73 hlt74 (h1.aok hlt74)) rfl ?_; clear hE a; intro a hE
    refine WL.vS hS hE (runs_plain rfl) (Gives.load1 hE rfl (fun w h => hat79 w _ h) ty44) rfl ?_; clear hE a; intro a hE
    refine WL.vS hS hE (runs_plain rfl) (Gives.p hE rfl) rfl ?_; clear hE a; intro a hE
    refine WL.nil ?_
    refine W.seq (W.region ?_)
    refine WL.vS hS hE (runs_plain rfl) (Gives.p hE rfl) rfl ?_; clear hE a; intro a hE
    refine WL.vS hS hE (runs_plain rfl) (Gives.p hE rfl) rfl ?_; clear hE a; intro a hE
    refine WL.vS hS hE (runs_plain rfl) (Gives.p hE rfl) rfl ?_; clear hE a; intro a hE
    obtain ⟨q83, hq84, hq52⟩ := bindS hq52
    have hc_ := SlicesEqualLint_ok hS h70 h82 hq84
    refine WL.fnw hE (hc_) rfl (runs_plain rfl) bd30 rfl rfl rfl ?_
    clear hE hS hc_; rintro e w ⟨rfl, hS⟩; refine ⟨_, rfl, ?_⟩; clear a; intro a hE
    refine WL.vS hS hE (runs_plain rfl) (Gives.p hE rfl) rfl ?_; clear hE a; intro a hE
    refine WL.nil ?_
    refine W.cond hE rfl (fun hc85 => ?_) (fun hc85 => ?_)
    ·replace hq52 := iteT hc85 hq52
     refine W.seq (W.region ?_)
     refine WL.vS hS hE (runs_plain rfl) (Gives.p hE rfl) rfl ?_; clear hE a; intro a hE
     refine WL.nil ?_
     refine W.ret ?_
     subst hK63
     rw [← Option.some.inj hq52] at hr
     dsimp only at hr
     refine finG (fn := Try.f53) (rs := [.tmp 6]) (vs := [_]) hE rfl ⟨rfl, trivial⟩ ?_
     obtain rfl := Option.some.inj hr
     exact ⟨rfl, hS⟩
    ·replace hq52 := iteF hc85 hq52
     refine W.skip ?_
     refine W.region ?_
     refine WL.vS hS hE (runs_plain rfl) (Gives.inc hE rfl (by have := h0.small; omega)) rfl ?_; clear hE a; intro a hE
     refine WL.vS hS hE (runs_plain rfl) (Gives.p hE rfl) rfl ?_; clear hE a; intro a hE
     refine WL.nil ?_
     subst hK63
     exact ⟨rest56.length, Nat.lt_succ_self _, rest56, k54 + 1, rfl, hd57, hq52, hE.pick _ ⟨rfl, rfl, rfl, rfl, rfl, trivial⟩, hS⟩
  ·clear hE hS a w; rintro a w ⟨rfl, hE, hS⟩
   dsimp only at hr
   refine W.seq (W.region ?_)
   refine WL.vS hS hE (runs_plain rfl) (Gives.p hE rfl) rfl ?_; clear hE a; intro a hE
   refine WL.nil ?_
   refine W.ret ?_
   refine finG (fn := Try.f53) (rs := [.tmp 6]) (vs := [_]) hE rfl ⟨rfl, trivial⟩ ?_
   obtain rfl := Option.some.inj hr
   exact ⟨rfl, hS⟩
set_option maxHeartbeats 8000000 in
theorem Fishlaw2lists_ok  {w : World} {s : Sg} {R : List HP} {x0 : List (List Int)} {a0 : Option Addr} {c0 : Nat} {x1 : List (List Int)} {a1 : Option Addr} {c1 : Nat} (hS : St w s (R)) (h0 : Sl 1 (RL 1 (RI .i64)) s a0 c0 x0) (h1 : Sl 1 (RL 1 (RI .i64)) s a1 c1 x1) {r : Bool} (hr : Fishlaw2lists x0 x1 = some r) :
  Calls Try.prog 13 [.slice a0 x0.length c0, .slice a1 x1.length c1].toArray w (fun e w => e = .returned (.bool r) ∧ St w s (R)) := by
 refine enter Try.func13 rfl rfl rfl fun a hE => ?_
 rw [Fishlaw2lists] at hr
 refine W.seq (W.region ?_)
 refine WL.vS hS hE (runs_plain rfl) (Gives.p hE rfl) rfl ?_; clear hE a; intro a hE
 refine WL.nil ?_
 refine W.seq (W.region ?_)
 refine WL.vS hS hE (runs_plain rfl) (Gives.p hE rfl) rfl ?_; clear hE a; intro a hE
 refine WL.vS hS hE (runs_plain rfl) (Gives.p hE rfl) rfl ?_; clear hE a; intro a hE
 obtain ⟨q51, hq52, hr⟩ := bindS hr
 have hc_ := SlicesEqualFuncLLint_v1_ok hS h0 h1 hq52
 refine WL.fnq hE (hc_) (runs_plain rfl) bd53 rfl rfl rfl ?_
 clear hE hS hc_; rintro e w ⟨rfl, hS⟩; refine ⟨_, rfl, ?_⟩; clear a; intro a hE
 refine WL.vS hS hE (runs_plain rfl) (Gives.p hE rfl) rfl ?_; clear hE a; intro a hE
 refine WL.nil ?_
 refine W.ret ?_
 refine finG (fn := Try.f13) (rs := [.tmp 4]) (vs := [_]) hE rfl ⟨rfl, trivial⟩ ?_
 obtain rfl := Option.some.inj hr
 exact ⟨rfl, hS⟩
set_option maxHeartbeats 8000000 in
theorem Fishlaw2sets_ok {fu : Nat}  {w : World} {s : Sg} {R : List HP}  (hS : St w s (R))  {r : Bool} (hr : Fishlaw2sets fu = some r) :
  Calls Try.prog 17 [].toArray w (fun e w => e = .returned (.bool r) ∧ St w s (R)) := by
 refine enter Try.func17 rfl rfl rfl fun a hE => ?_
 rw [Fishlaw2sets] at hr
 refine W.seq (W.region ?_)
 refine WL.vS hS hE (runs_plain rfl) (Gives.p hE rfl) rfl ?_; clear hE a; intro a hE
 refine WL.nil ?_
 refine W.seq (W.region ?_)
 refine WL.vS hS hE (runs_plain rfl) (Gives.build hE (vs := [(0, .int .i64 0), (1, .int .i64 1), (2, .int .i64 10), (3, .int .i64 20), (5, .int .i64 1)]) [.int .i64 0, .int .i64 1, .int .i64 10, .int .i64 20, .int .i64 0, .int .i64 1] rfl (by kernel_rfl)) rfl ?_; clear hE a; intro a hE
 refine WL.vS hS hE (runs_plain rfl) (Gives.build hE (vs := [(0, .int .i64 0), (1, .int .i64 1), (2, .int .i64 30), (3, .int .i64 40), (5, .int .i64 1)]) [.int .i64 0, .int .i64 1, .int .i64 30, .int .i64 40, .int .i64 0, .int .i64 1] rfl (by kernel_rfl)) rfl ?_; clear hE a; intro a hE
 refine WL.vS hS hE (runs_plain rfl) (Gives.build hE (vs := [(0, .int .i64 1), (1, .int .i64 0), (2, .int .i64 25), (3, .int .i64 29), (5, .int .i64 1)]) [.int .i64 1, .int .i64 0, .int .i64 25, .int .i64 29, .int .i64 0, .int .i64 1] rfl (by kernel_rfl)) rfl ?_; clear hE a; intro a hE
 refine WL.lit hE hS (e := 78) (es := 6) (vs := [(0, .agg [.int .i64 0, .int .i64 1, .int .i64 10, .int .i64 20, .int .i64 0, .int .i64 1].toArray), (1, .agg [.int .i64 0, .int .i64 1, .int .i64 30, .int .i64 40, .int .i64 0, .int .i64 1].toArray), (2, .agg [.int .i64 1, .int .i64 0, .int .i64 25, .int .i64 29, .int .i64 0, .int .i64 1].toArray)]) (cs := [.int .i64 0, .int .i64 1, .int .i64 10, .int .i64 20, .int .i64 0, .int .i64 1, .int .i64 0, .int .i64 1, .int .i64 30, .int .i64 40, .int .i64 0, .int .i64 1, .int .i64 1, .int .i64 0, .int .i64 25, .int .i64 29, .int .i64 0, .int .i64 1]) (runs_plain rfl) rfl (by kernel_rfl) rfl ?_; clear hE hS a w; intro b51 a w hE hS
 replace hS := hS.ptVec (es := 6) (m := 3) rfl (by decide)
 have h53 : Ev 6 RFleetTask s [.int .i64 0, .int .i64 1, .int .i64 10, .int .i64 20, .int .i64 0, .int .i64 1, .int .i64 0, .int .i64 1, .int .i64 30, .int .i64 40, .int .i64 0, .int .i64 1, .int .i64 1, .int .i64 0, .int .i64 25, .int .i64 29, .int .i64 0, .int .i64 1] [(FleetTask.mk 0 1 10 20 0 1), (FleetTask.mk 0 1 30 40 0 1), (FleetTask.mk 1 0 25 29 0 1)] := (Ev.cons (c1 := [.int .i64 0, .int .i64 1, .int .i64 10, .int .i64 20, .int .i64 0, .int .i64 1]) rfl rfl (Ev.cons (c1 := [.int .i64 0, .int .i64 1, .int .i64 30, .int .i64 40, .int .i64 0, .int .i64 1]) rfl rfl (Ev.cons (c1 := [.int .i64 1, .int .i64 0, .int .i64 25, .int .i64 29, .int .i64 0, .int .i64 1]) rfl rfl (Ev.nil))))
 have hF := hS.fixD RFleetTask.mono 0 rfl h53 (rfl); clear hS; obtain ⟨s54, hle55, hS, h56⟩ := hF
 refine WL.vS hS hE (runs_plain rfl) (Gives.p hE rfl) rfl ?_; clear hE a; intro a hE
 refine WL.nil ?_
 refine W.seq (W.region ?_)
 refine WL.vS hS hE (runs_plain rfl) (Gives.p hE rfl) rfl ?_; clear hE a; intro a hE
 obtain ⟨q57, hq58, hr⟩ := bindS hr
 have hc_ := FleetTurns_ok hS h56 hq58
 refine WL.fnq hE (hc_) (runs_plain rfl) bd60 rfl rfl rfl ?_
 clear hE hS hc_; rintro e w ⟨a59, c60, s62, rfl, hle63, h61, hS⟩; refine ⟨_, rfl, ?_⟩; clear a; intro a hE
 replace h56 := Sl.mono RFleetTask.mono hle63 h56
 refine WL.vS hS hE (runs_plain rfl) (Gives.p hE rfl) rfl ?_; clear hE a; intro a hE
 refine WL.vS hS hE (runs_plain rfl) (Gives.p hE rfl) rfl ?_; clear hE a; intro a hE
 refine WL.vS hS hE (runs_plain rfl) (Gives.p hE rfl) rfl ?_; clear hE a; intro a hE
 refine WL.vS hS hE (runs_plain rfl) (Gives.p hE rfl) rfl ?_; clear hE a; intro a hE
 refine WL.vS hS hE (runs_plain rfl) (Gives.p hE rfl) rfl ?_; clear hE a; intro a hE
 refine WL.nil ?_
 refine W.seq ?_
 obtain ⟨q65, hq64, hr⟩ := bindS hr
 refine W.cut (fun a w => ∃ (q68 : Bool), ∃ (s66 : Sg), s62.Le s66 ∧ q68 = q65 ∧ Rep a 21 [(0, .bool q68)] ∧ St w s66 (R)) ?_ ?_
 ·refine W.gen fun K69 hK69 => ?_
  refine W.region ?_
  refine WL.vS hS hE (runs_plain rfl) (Gives.p hE rfl) rfl ?_; clear hE a; intro a hE
  refine WL.vS hS hE (runs_plain rfl) (Gives.p hE rfl) rfl ?_; clear hE a; intro a hE
  refine WL.vS hS hE (runs_plain rfl) (Gives.p hE rfl) rfl ?_; clear hE a; intro a hE
  rcases Bool.eq_false_or_eq_true (q57.2 == 0) with hg70 | hg70
  ·replace hq64 := iteT hg70 hq64
   refine WL.vS hS hE (runs_if hE rfl rfl rfl hg70) (Gives.p hE rfl) rfl ?_; clear hE a; intro a hE
   refine WL.lit hE hS (e := 3) (es := 1) (vs := [(0, .int .i64 0), (1, .int .i64 2), (2, .int .i64 1)]) (cs := [.int .i64 0, .int .i64 2, .int .i64 1]) (runs_if hE rfl rfl rfl hg70) rfl (by kernel_rfl) rfl ?_; clear hE hS a w; intro b71 a w hE hS
   replace hS := hS.ptVec (es := 1) (m := 3) rfl (by decide)
   have h73 : Ev 1 (RI .i64) s62 [.int .i64 0, .int .i64 2, .int .i64 1] [0, 2, 1] := (Ev.cons (c1 := [.int .i64 0]) rfl rfl (Ev.cons (c1 := [.int .i64 2]) rfl rfl (Ev.cons (c1 := [.int .i64 1]) rfl rfl (Ev.nil))))
   have hF := hS.fixD RI.mono 0 rfl h73 (rfl); clear hS; obtain ⟨s74, hle75, hS, h76⟩ := hF
   replace h56 := Sl.mono RFleetTask.mono hle75 h56
   replace h61 := Sl.mono (RL.mono RI.mono) hle75 h61
   refine WL.lit hE hS (e := 44) (es := 1) (vs := [(0, .slice (some ⟨b71, 0, none⟩) 3 3)]) (cs := [.slice (some ⟨b71, 0, none⟩) 3 3]) (runs_if hE rfl rfl rfl hg70) rfl (by kernel_rfl) rfl ?_; clear hE hS a w; intro b77 a w hE hS
   replace hS := hS.ptVec (es := 1) (m := 1) rfl (by decide)
   have h79 : Ev 1 (RL 1 (RI .i64)) s74 [.slice (some ⟨b71, 0, none⟩) 3 3] [[0, 2, 1]] := (Ev.cons (c1 := [.slice (some ⟨b71, 0, none⟩) 3 3]) ⟨_, _, rfl, h76⟩ rfl (Ev.nil))
   have hF := hS.fixD (RL.mono RI.mono) 0 rfl h79 (rfl); clear hS; obtain ⟨s80, hle81, hS, h82⟩ := hF
   replace h56 := Sl.mono RFleetTask.mono hle81 h56
   replace h61 := Sl.mono (RL.mono RI.mono) hle81 h61
   replace h76 := Sl.mono RI.mono hle81 h76
   obtain ⟨q83, hq84, hq64⟩ := bindS hq64
   have hc_ := Fishlaw2lists_ok hS h61 h82 hq84
   refine WL.fnq hE (hc_) (runs_if hE rfl rfl rfl hg70) bd13 rfl rfl rfl ?_
   clear hE hS hc_; rintro e w ⟨rfl, hS⟩; refine ⟨_, rfl, ?_⟩; clear a; intro a hE
   refine WL.vS hS hE (runs_plain rfl) (Gives.pickT hE rfl hg70 rfl) rfl ?_; clear hE a; intro a hE
   refine WL.vS hS hE (runs_plain rfl) (Gives.p hE rfl) rfl ?_; clear hE a; intro a hE
   refine WL.nil ?_
   subst hK69
   exact ⟨q83, s80, (Sg.Le.trans hle75 hle81), Option.some.inj hq64, hE.pick _ ⟨rfl, trivial⟩, hS⟩
  ·replace hq64 := iteF hg70 hq64
   refine WL.no hE (runs_not hE rfl rfl rfl (by rw [hg70]; decide)) rfl ?_; clear hE a; intro a hE
   refine WL.no hE (runs_not hE rfl rfl rfl (by rw [hg70]; decide)) rfl ?_; clear hE a; intro a hE
   refine WL.no hE (runs_not hE rfl rfl rfl (by rw [hg70]; decide)) rfl ?_; clear hE a; intro a hE
   refine WL.no hE (runs_not hE rfl rfl rfl (by rw [hg70]; decide)) rfl ?_; clear hE a; intro a hE
   refine WL.vS hS hE (runs_plain rfl) (Gives.pickF hE rfl hg70 rfl) rfl ?_; clear hE a; intro a hE
   refine WL.vS hS hE (runs_plain rfl) (Gives.p hE rfl) rfl ?_; clear hE a; intro a hE
   refine WL.nil ?_
   subst hK69
   exact ⟨false, s62, (Sg.Le.refl _), Option.some.inj hq64, hE.pick _ ⟨rfl, trivial⟩, hS⟩
 ·clear hE hS a w; rintro a w ⟨q68, s66, hle67, rfl, hE, hS⟩
  refine W.ret ?_
  refine finG (fn := Try.f17) (rs := [.tmp 0]) (vs := [_]) hE rfl ⟨rfl, trivial⟩ ?_
  obtain rfl := Option.some.inj hr
  exact ⟨rfl, (hS.down (Sg.Le.trans (Sg.Le.trans hle55 hle63) hle67))⟩
set_option maxHeartbeats 8000000 in
theorem Fishlaw2FleetAssigns_ok {fu : Nat}  {w : World} {s : Sg} {R : List HP} {x0 : List FleetTask} {a0 : Option Addr} {c0 : Nat} {x1 : Int} {x2 : List FleetSet} {a2 : Option Addr} {c2 : Nat} {x3 : FleetShop} (hS : St w s (R)) (h0 : Sl 6 RFleetTask s a0 c0 x0) (h2 : Sl 2 RFleetSet s a2 c2 x2) {r : Bool} (hr : Fishlaw2FleetAssigns fu x0 x1 x2 x3 = some r) :
  Calls Try.prog 5 [.slice a0 x0.length c0, .int .i64 x1, .slice a2 x2.length c2, .agg (FleetShop.cells x3).toArray].toArray w (fun e w => e = .returned (.bool r) ∧ St w s (R)) := by
 refine enter Try.func5 rfl rfl rfl fun a hE => ?_
 rw [Fishlaw2FleetAssigns] at hr
 refine W.seq (W.region ?_)
 refine WL.box hE hS (runs_plain rfl) rfl rfl rfl ?_; clear hE hS a w; intro b51 a w hE hS
 refine WL.vS hS hE (runs_plain rfl) (Gives.p hE rfl) rfl ?_; clear hE a; intro a hE
 refine WL.nil ?_
 refine W.seq (W.region ?_)
 refine WL.vS hS hE (runs_plain rfl) (Gives.p hE rfl) rfl ?_; clear hE a; intro a hE
 refine WL.vS hS hE (runs_plain rfl) (Gives.p hE rfl) rfl ?_; clear hE a; intro a hE
 refine WL.vS hS hE (runs_plain rfl) (Gives.p hE rfl) rfl ?_; clear hE a; intro a hE
 refine WL.vS hS hE (runs_plain rfl) (Gives.loadBA hE 0 rfl rfl ty35) rfl ?_; clear hE a; intro a hE
 obtain ⟨q52, hq53, hr⟩ := bindS hr
 have hc_ := FleetAssignX_ok hS h0 h2 hq53
 refine WL.fnq hE (hc_) (runs_plain rfl) bd18 rfl rfl rfl ?_
 clear hE hS hc_; rintro e w ⟨a54, c55, a57, c58, n59, cs60, s63, rfl, hle64, h56, h61, rfl, hS⟩; refine ⟨_, rfl, ?_⟩; clear a; intro a hE
 replace h0 := Sl.mono RFleetTask.mono hle64 h0
 replace h2 := Sl.mono RFleetSet.mono hle64 h2
 refine WL.vS hS hE (runs_plain rfl) (Gives.p hE rfl) rfl ?_; clear hE a; intro a hE
 refine WL.vS hS hE (runs_plain rfl) (Gives.p hE rfl) rfl ?_; clear hE a; intro a hE
 refine WL.vS hS hE (runs_plain rfl) (Gives.p hE rfl) rfl ?_; clear hE a; intro a hE
 refine WL.vS hS hE (runs_plain rfl) (Gives.p hE rfl) rfl ?_; clear hE a; intro a hE
 refine WL.vS hS hE (runs_plain rfl) (Gives.p hE rfl) rfl ?_; clear hE a; intro a hE
 refine WL.vS hS hE (runs_plain rfl) (Gives.p hE rfl) rfl ?_; clear hE a; intro a hE
 refine WL.vS hS hE (runs_plain rfl) (Gives.p hE rfl) rfl ?_; clear hE a; intro a hE
 refine WL.nil ?_
 refine W.seq (W.region ?_)
 refine WL.vS hS hE (runs_plain rfl) (Gives.p hE rfl) rfl ?_; clear hE a; intro a hE
 refine WL.vS hS hE (runs_plain rfl) (Gives.p hE rfl) rfl ?_; clear hE a; intro a hE
 refine WL.vS hS hE (runs_plain rfl) (Gives.p hE rfl) rfl ?_; clear hE a; intro a hE
 refine WL.vS hS hE (runs_plain rfl) (Gives.loadBA hE 1 rfl rfl ty35) rfl ?_; clear hE a; intro a hE
 obtain ⟨q65, hq66, hr⟩ := bindS hr
 have hc_ := Fishref2AssignOf_ok hS h0 h2 hq66
 refine WL.fnq hE (hc_) (runs_plain rfl) bd19 rfl rfl rfl ?_
 clear hE hS hc_; rintro e w ⟨a67, c68, a70, c71, s73, rfl, hle74, h69, h72, hS⟩; refine ⟨_, rfl, ?_⟩; clear a; intro a hE
 replace h0 := Sl.mono RFleetTask.mono hle74 h0
 replace h2 := Sl.mono RFleetSet.mono hle74 h2
 replace h56 := Sl.mono (RL.mono RI.mono) hle74 h56
 replace h61 := Ev.mono (RL.mono RI.mono) hle74 h61
 refine WL.vS hS hE (runs_plain rfl) (Gives.p hE rfl) rfl ?_; clear hE a; intro a hE
 refine WL.vS hS hE (runs_plain rfl) (Gives.p hE rfl) rfl ?_; clear hE a; intro a hE
 refine WL.vS hS hE (runs_plain rfl) (Gives.p hE rfl) rfl ?_; clear hE a; intro a hE
 refine WL.vS hS hE (runs_plain rfl) (Gives.p hE rfl) rfl ?_; clear hE a; intro a hE
 refine WL.vS hS hE (runs_plain rfl) (Gives.p hE rfl) rfl ?_; clear hE a; intro a hE
 refine WL.vS hS hE (runs_plain rfl) (Gives.p hE rfl) rfl ?_; clear hE a; intro a hE
 refine WL.vS hS hE (runs_plain rfl) (Gives.p hE rfl) rfl ?_; clear hE a; intro a hE
 refine WL.nil ?_
 refine W.seq ?_
 obtain ⟨q76, hq75, hr⟩ := bindS hr
 refine W.cut (fun a w => ∃ (q79 : Bool), q79 = q76 ∧ Rep a 49 [(8, .bool q79)] ∧ St w s73 (pt b51 (.cells (FleetShop.cells x3).toArray 35 (0, 0)) :: R)) ?_ ?_
 ·refine W.gen fun K80 hK80 => ?_
  refine W.region ?_
  obtain ⟨q81, hq82, hq75⟩ := bindS hq75
  have hc_ := Fishlaw2sets_ok hS  hq82
  refine WL.fnq hE (hc_) (runs_plain rfl) bd17 rfl rfl rfl ?_
  clear hE hS hc_; rintro e w ⟨rfl, hS⟩; refine ⟨_, rfl, ?_⟩; clear a; intro a hE
  refine WL.vS hS hE (runs_plain rfl) (Gives.p hE rfl) rfl ?_; clear hE a; intro a hE
  rcases Bool.eq_false_or_eq_true q81 with hg83 | hg83
  ·replace hq75 := iteT hg83 hq75
   refine WL.vS hS hE (runs_if hE rfl rfl rfl hg83) (Gives.p hE rfl) rfl ?_; clear hE a; intro a hE
   refine WL.vS hS hE (runs_if hE rfl rfl rfl hg83) (Gives.p hE rfl) rfl ?_; clear hE a; intro a hE
   refine WL.vS hS hE (runs_if hE rfl rfl rfl hg83) (Gives.p hE rfl) rfl ?_; clear hE a; intro a hE
   refine WL.vS hS hE (runs_plain rfl) (Gives.pickT hE rfl hg83 rfl) rfl ?_; clear hE a; intro a hE
   refine WL.vS hS hE (runs_plain rfl) (Gives.p hE rfl) rfl ?_; clear hE a; intro a hE
   rcases Bool.eq_false_or_eq_true (q52.2.2 == q65.2.2) with hg84 | hg84
   ·replace hq75 := iteT hg84 hq75
    refine WL.vS hS hE (runs_if hE rfl rfl rfl hg84) (Gives.p hE rfl) rfl ?_; clear hE a; intro a hE
    refine WL.vS hS hE (runs_if hE rfl rfl rfl hg84) (Gives.p hE rfl) rfl ?_; clear hE a; intro a hE
    obtain ⟨q85, hq86, hq75⟩ := bindS hq75
    have hc_ := Fishlaw2lists_ok hS h56 h69 hq86
    refine WL.fnq hE (hc_) (runs_if hE rfl rfl rfl hg84) bd13 rfl rfl rfl ?_
    clear hE hS hc_; rintro e w ⟨rfl, hS⟩; refine ⟨_, rfl, ?_⟩; clear a; intro a hE
    refine WL.vS hS hE (runs_plain rfl) (Gives.pickT hE rfl hg84 rfl) rfl ?_; clear hE a; intro a hE
    refine WL.vS hS hE (runs_plain rfl) (Gives.p hE rfl) rfl ?_; clear hE a; intro a hE
    rcases Bool.eq_false_or_eq_true q85 with hg87 | hg87
    ·replace hq75 := iteT hg87 hq75
     refine WL.vS hS hE (runs_if hE rfl rfl rfl hg87) (Gives.p hE rfl) rfl ?_; clear hE a; intro a hE
     refine WL.vS hS hE (runs_if hE rfl rfl rfl hg87) (Gives.p hE rfl) rfl ?_; clear hE a; intro a hE
     obtain ⟨q88, hq89, hq75⟩ := bindS hq75
     have hF := hS.lendV (RL.mono RI.mono) 0 rfl h61 rfl; clear hS; obtain ⟨t90, hle91, hS, hs92, bk93⟩ := hF
     have hc_ := Fishlaw2lists_ok hS hs92 (Sl.mono (RL.mono RI.mono) hle91 h72) hq89
     refine WL.fnq hE (hc_) (runs_if hE rfl rfl rfl hg87) bd13 rfl rfl rfl ?_
     clear hE hS hc_; rintro e w ⟨rfl, hS⟩; refine ⟨_, rfl, ?_⟩; clear a; intro a hE
     replace hS := bk93 _ _ hS
     refine WL.vS hS hE (runs_plain rfl) (Gives.pickT hE rfl hg87 rfl) rfl ?_; clear hE a; intro a hE
     refine WL.vS hS hE (runs_plain rfl) (Gives.p hE rfl) rfl ?_; clear hE a; intro a hE
     refine WL.nil ?_
     replace hS := hS.tail
     subst hK80
     exact ⟨q88, Option.some.inj hq75, hE.pick _ ⟨rfl, trivial⟩, hS⟩
    ·replace hq75 := iteF hg87 hq75
     refine WL.no hE (runs_not hE rfl rfl rfl (by rw [hg87]; decide)) rfl ?_; clear hE a; intro a hE
     refine WL.no hE (runs_not hE rfl rfl rfl (by rw [hg87]; decide)) rfl ?_; clear hE a; intro a hE
     refine WL.no hE (runs_not hE rfl rfl rfl (by rw [hg87]; decide)) rfl ?_; clear hE a; intro a hE
     refine WL.vS hS hE (runs_plain rfl) (Gives.pickF hE rfl hg87 rfl) rfl ?_; clear hE a; intro a hE
     refine WL.vS hS hE (runs_plain rfl) (Gives.p hE rfl) rfl ?_; clear hE a; intro a hE
     refine WL.nil ?_
     replace hS := hS.tail
     subst hK80
     exact ⟨false, Option.some.inj hq75, hE.pick _ ⟨rfl, trivial⟩, hS⟩
   ·replace hq75 := iteF hg84 hq75
    refine WL.no hE (runs_not hE rfl rfl rfl (by rw [hg84]; decide)) rfl ?_; clear hE a; intro a hE
    refine WL.no hE (runs_not hE rfl rfl rfl (by rw [hg84]; decide)) rfl ?_; clear hE a; intro a hE
    refine WL.no hE (runs_not hE rfl rfl rfl (by rw [hg84]; decide)) rfl ?_; clear hE a; intro a hE
    refine WL.vS hS hE (runs_plain rfl) (Gives.pickF hE rfl hg84 rfl) rfl ?_; clear hE a; intro a hE
    refine WL.vS hS hE (runs_plain rfl) (Gives.p hE rfl) rfl ?_; clear hE a; intro a hE
    refine WL.no hE (runs_not hE rfl rfl rfl (by decide)) rfl ?_; clear hE a; intro a hE
    refine WL.no hE (runs_not hE rfl rfl rfl (by decide)) rfl ?_; clear hE a; intro a hE
    refine WL.no hE (runs_not hE rfl rfl rfl (by decide)) rfl ?_; clear hE a; intro a hE
    refine WL.vS hS hE (runs_plain rfl) (Gives.pickF hE rfl rfl rfl) rfl ?_; clear hE a; intro a hE
    refine WL.vS hS hE (runs_plain rfl) (Gives.p hE rfl) rfl ?_; clear hE a; intro a hE
    refine WL.nil ?_
    replace hS := hS.tail
    subst hK80
    exact ⟨false, Option.some.inj hq75, hE.pick _ ⟨rfl, trivial⟩, hS⟩
  ·replace hq75 := iteF hg83 hq75
   refine WL.no hE (runs_not hE rfl rfl rfl (by rw [hg83]; decide)) rfl ?_; clear hE a; intro a hE
   refine WL.no hE (runs_not hE rfl rfl rfl (by rw [hg83]; decide)) rfl ?_; clear hE a; intro a hE
   refine WL.no hE (runs_not hE rfl rfl rfl (by rw [hg83]; decide)) rfl ?_; clear hE a; intro a hE
   refine WL.vS hS hE (runs_plain rfl) (Gives.pickF hE rfl hg83 rfl) rfl ?_; clear hE a; intro a hE
   refine WL.vS hS hE (runs_plain rfl) (Gives.p hE rfl) rfl ?_; clear hE a; intro a hE
   refine WL.no hE (runs_not hE rfl rfl rfl (by decide)) rfl ?_; clear hE a; intro a hE
   refine WL.no hE (runs_not hE rfl rfl rfl (by decide)) rfl ?_; clear hE a; intro a hE
   refine WL.no hE (runs_not hE rfl rfl rfl (by decide)) rfl ?_; clear hE a; intro a hE
   refine WL.vS hS hE (runs_plain rfl) (Gives.pickF hE rfl rfl rfl) rfl ?_; clear hE a; intro a hE
   refine WL.vS hS hE (runs_plain rfl) (Gives.p hE rfl) rfl ?_; clear hE a; intro a hE
   refine WL.no hE (runs_not hE rfl rfl rfl (by decide)) rfl ?_; clear hE a; intro a hE
   refine WL.no hE (runs_not hE rfl rfl rfl (by decide)) rfl ?_; clear hE a; intro a hE
   refine WL.no hE (runs_not hE rfl rfl rfl (by decide)) rfl ?_; clear hE a; intro a hE
   refine WL.vS hS hE (runs_plain rfl) (Gives.pickF hE rfl rfl rfl) rfl ?_; clear hE a; intro a hE
   refine WL.vS hS hE (runs_plain rfl) (Gives.p hE rfl) rfl ?_; clear hE a; intro a hE
   refine WL.nil ?_
   replace hS := hS.tail
   subst hK80
   exact ⟨false, Option.some.inj hq75, hE.pick _ ⟨rfl, trivial⟩, hS⟩
 ·clear hE hS a w; rintro a w ⟨q79, rfl, hE, hS⟩
  refine W.ret ?_
  refine finG (fn := Try.f5) (rs := [.tmp 8]) (vs := [_]) hE rfl ⟨rfl, trivial⟩ ?_
  obtain rfl := Option.some.inj hr
  replace hS := hS.tail
  exact ⟨rfl, (hS.down (Sg.Le.trans hle64 hle74))⟩
end Go.Proofs.Ytfhkpdnohcidgaa
