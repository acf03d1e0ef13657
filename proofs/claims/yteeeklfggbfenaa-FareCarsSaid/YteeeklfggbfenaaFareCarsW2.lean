/- The walks of the functions that FareCars reaches: each call comes to what its mirror says. The conditions are those of each contract. -/
import Derived.Test.YteeeklfggbfenaaProg
import Derived.Test.YteeeklfggbfenaaFareCarsM
import Derived.Test.YteeeklfggbfenaaFpAllS
import Derived.Test.YteeeklfggbfenaaFareCarsS
import Derived.Test.YteeeklfggbfenaaFpCut
import Derived.Test.YteeeklfggbfenaaFpRgn
import Derived.Test.YteeeklfggbfenaaFareCarsW1
set_option maxRecDepth 10000
namespace Go.Proofs.Yteeeklfggbfenaa
open Go Go.Fp
set_option maxHeartbeats 8000000 in
theorem SlicesstableCmpFuncint_v1_ok {fu : Nat}  {w : World} {s : Sg} {R : List HP} {pb0 : Nat} {pb1 : Nat} {pb2 : Nat} {pb3 : Nat} {x0 : List Int} {a_v0 : Option Addr} {c_v0 n_v0 : Nat} {cs_v0 : List Value} {x1 : Int} {y1 : Int} {y2 : Int} {y3 : FareCar} {a_v1 : Option Addr} {c_v1 n_v1 : Nat} {cs_v1 : List Value} {a_v2 : Option Addr} {c_v2 n_v2 : Nat} {cs_v2 : List Value} (hS : St w s (pt pb0 (.cells #[.pointer (some ⟨pb3, 0, none⟩)] 23 (0, 0)) :: pt pb1 (.cells #[.int .i64 y1] 3 (0, 0)) :: pt pb2 (.cells #[.int .i64 y2] 3 (0, 0)) :: pt pb3 (.cells #[.int .i64 y3.rows, .int .i64 y3.across, .int .i64 y3.stops, .slice a_v1 n_v1 c_v1, .slice a_v2 n_v2 c_v2] 48 (0, 0)) :: vecC 3 1 a_v0 c_v0 n_v0 cs_v0 :: vecC 39 4 a_v1 c_v1 n_v1 cs_v1 :: vecC 4 1 a_v2 c_v2 n_v2 cs_v2 :: R)) (h_v0 : Ev 1 (RI .i64) s cs_v0 x0) (hn_v0 : x0.length = n_v0) (h_v1 : Ev 4 RFareBooking s cs_v1 y3.bookings) (hn_v1 : y3.bookings.length = n_v1) (h_v2 : Ev 1 RB s cs_v2 y3.cancelled) (hn_v2 : y3.cancelled.length = n_v2) {r : (List Int)} (hr : SlicesstableCmpFuncint_v1 fu x0 x1 y1 y2 y3 = some r) :
    Calls Try.prog 41 [.slice a_v0 n_v0 c_v0, .int .i64 x1, .func (.func 33) #[] #[.pointer (some ⟨pb0, 0, none⟩), .pointer (some ⟨pb1, 0, none⟩), .pointer (some ⟨pb2, 0, none⟩)]].toArray w (fun e w => ∃ (cs55 : List Value), e = .returned (.tuple #[]) ∧ Ev 1 (RI .i64) s cs55 r ∧ r.length = n_v0 ∧ St w s (pt pb0 (.cells #[.pointer (some ⟨pb3, 0, none⟩)] 23 (0, 0)) :: pt pb1 (.cells #[.int .i64 y1] 3 (0, 0)) :: pt pb2 (.cells #[.int .i64 y2] 3 (0, 0)) :: pt pb3 (.cells #[.int .i64 y3.rows, .int .i64 y3.across, .int .i64 y3.stops, .slice a_v1 n_v1 c_v1, .slice a_v2 n_v2 c_v2] 48 (0, 0)) :: vecC 3 1 a_v0 c_v0 n_v0 cs55 :: vecC 39 4 a_v1 c_v1 n_v1 cs_v1 :: vecC 4 1 a_v2 c_v2 n_v2 cs_v2 :: R)) := by
  refine enter Try.func41 rfl rfl rfl fun a hE => ?_
  rw [SlicesstableCmpFuncint_v1] at hr
  subst hn_v0
  subst hn_v1
  subst hn_v2
  refine W.seq ?_
  refine W.region ?_
  refine WL.vS hS hE (runs_plain rfl) (Gives.p hE rfl) rfl ?_; clear hE a; intro a hE
  refine WL.nil ?_
  refine W.seq ?_
  refine W.region ?_
  refine WL.vS hS hE (runs_plain rfl) (Gives.p hE rfl) rfl ?_; clear hE a; intro a hE
  refine WL.vS hS hE (runs_plain rfl) (Gives.p hE rfl) rfl ?_; clear hE a; intro a hE
  refine WL.vS hS hE (runs_plain rfl) (Gives.p hE rfl) rfl ?_; clear hE a; intro a hE
  refine WL.nil ?_
  refine W.seq ?_
  obtain ⟨q58, hq57, hr⟩ := bindS hr
  refine W.cut (fun a w => ∃ (q63 : Int), ∃ (q64 : Int), ∃ (q65 : List Int), ∃ (cs69 : List Value), (q63, q64, q65) = q58 ∧ Ev 1 (RI .i64) s cs69 q65 ∧ q65.length = x0.length ∧ Rep a 63 [(0, .slice a_v0 x0.length c_v0), (1, .int .i64 x1), (2, .func (.func 33) #[] #[.pointer (some ⟨pb0, 0, none⟩), .pointer (some ⟨pb1, 0, none⟩), .pointer (some ⟨pb2, 0, none⟩)]), (6, .int .i64 20), (7, .int .i64 q63)] ∧ St w s (pt pb0 (.cells #[.pointer (some ⟨pb3, 0, none⟩)] 23 (0, 0)) :: pt pb1 (.cells #[.int .i64 y1] 3 (0, 0)) :: pt pb2 (.cells #[.int .i64 y2] 3 (0, 0)) :: pt pb3 (.cells #[.int .i64 y3.rows, .int .i64 y3.across, .int .i64 y3.stops, .slice a_v1 y3.bookings.length c_v1, .slice a_v2 y3.cancelled.length c_v2] 48 (0, 0)) :: vecC 3 1 a_v0 c_v0 x0.length cs69 :: vecC 39 4 a_v1 c_v1 y3.bookings.length cs_v1 :: vecC 4 1 a_v2 c_v2 y3.cancelled.length cs_v2 :: R)) ?_ ?_
  · refine W.block ?_
    refine W.loop (fun m a w => ∃ (n59 : Nat), ∃ (q63 : Int), ∃ (q64 : Int), ∃ (q65 : List Int), ∃ (cs69 : List Value), n59 = m ∧ SlicesstableCmpFuncint_v1.loop1 x1 y1 y2 y3 fu n59 q63 q64 q65 = some q58 ∧ Ev 1 (RI .i64) s cs69 q65 ∧ q65.length = x0.length ∧ Rep a 63 [(0, .slice a_v0 x0.length c_v0), (1, .int .i64 x1), (2, .func (.func 33) #[] #[.pointer (some ⟨pb0, 0, none⟩), .pointer (some ⟨pb1, 0, none⟩), .pointer (some ⟨pb2, 0, none⟩)]), (6, .int .i64 20), (7, .int .i64 q63), (8, .int .i64 q64)] ∧ St w s (pt pb0 (.cells #[.pointer (some ⟨pb3, 0, none⟩)] 23 (0, 0)) :: pt pb1 (.cells #[.int .i64 y1] 3 (0, 0)) :: pt pb2 (.cells #[.int .i64 y2] 3 (0, 0)) :: pt pb3 (.cells #[.int .i64 y3.rows, .int .i64 y3.across, .int .i64 y3.stops, .slice a_v1 y3.bookings.length c_v1, .slice a_v2 y3.cancelled.length c_v2] 48 (0, 0)) :: vecC 3 1 a_v0 c_v0 x0.length cs69 :: vecC 39 4 a_v1 c_v1 y3.bookings.length cs_v1 :: vecC 4 1 a_v2 c_v2 y3.cancelled.length cs_v2 :: R)) (m := fu) ⟨fu, 0, 20, x0, cs_v0, rfl, hq57, h_v0, (rfl), hE.pick _ ⟨rfl, rfl, rfl, rfl, rfl, rfl, trivial⟩, hS⟩ ?_
    clear hE hS a w hq57; rintro m60 a w ⟨n59, q63, q64, q65, cs69, rfl, hq57, h68, hn70, hE, hS⟩
    refine W.gen fun K71 hK71 => ?_
    rcases n59 with _ | n59
    · rw [SlicesstableCmpFuncint_v1.loop1] at hq57; exact absurd hq57 (by simp)
    rw [SlicesstableCmpFuncint_v1.loop1] at hq57
    refine W.seq ?_
    refine W.seq ?_
    refine W.region ?_
    refine WL.vS hS hE (runs_plain rfl) (Gives.p hE rfl) rfl ?_; clear hE a; intro a hE
    refine WL.vS hS hE (runs_plain rfl) (Gives.p hE rfl) rfl ?_; clear hE a; intro a hE
    refine WL.vS hS hE (runs_plain rfl) (Gives.p hE rfl) rfl ?_; clear hE a; intro a hE
    refine WL.nil ?_
    refine W.cond hE rfl (fun hc72 => ?_) (fun hc72 => ?_)
    · replace hq57 := iteT hc72 hq57
      refine W.skip ?_
      refine W.block ?_
      refine W.seq ?_
      refine W.region ?_
      refine WL.vS hS hE (runs_plain rfl) (Gives.p hE rfl) rfl ?_; clear hE a; intro a hE
      refine WL.vS hS hE (runs_plain rfl) (Gives.p hE rfl) rfl ?_; clear hE a; intro a hE
      refine WL.vS hS hE (runs_plain rfl) (Gives.p hE rfl) rfl ?_; clear hE a; intro a hE
      refine WL.vS hS hE (runs_plain rfl) (Gives.p hE rfl) rfl ?_; clear hE a; intro a hE
      obtain ⟨q73, hq74, hq57⟩ := bindS hq57
      have hc_ := SlicesinsertionSortCmpFuncint_v1_ok (y3 := y3) hS h68 hn70 h_v1 (rfl) h_v2 (rfl) hq74
      refine WL.fnq hE (hc_) (runs_plain rfl) bd46 rfl rfl rfl ?_
      clear hE hS hc_; rintro e w ⟨cs75, rfl, h76, hn77, hS⟩; refine ⟨_, rfl, ?_⟩; clear a; intro a hE
      refine WL.nil ?_
      refine W.seq ?_
      refine W.region ?_
      refine WL.vS hS hE (runs_plain rfl) (Gives.p hE rfl) rfl ?_; clear hE a; intro a hE
      refine WL.vS hS hE (runs_plain rfl) (Gives.p hE rfl) rfl ?_; clear hE a; intro a hE
      refine WL.nil ?_
      refine W.region ?_
      refine WL.vS hS hE (runs_plain rfl) (Gives.p hE rfl) rfl ?_; clear hE a; intro a hE
      refine WL.vS hS hE (runs_plain rfl) (Gives.p hE rfl) rfl ?_; clear hE a; intro a hE
      refine WL.vS hS hE (runs_plain rfl) (Gives.p hE rfl) rfl ?_; clear hE a; intro a hE
      refine WL.vS hS hE (runs_plain rfl) (Gives.p hE rfl) rfl ?_; clear hE a; intro a hE
      refine WL.nil ?_
      subst hK71
      exact ⟨n59, Nat.lt_succ_self _, n59, q64, (w64 (q64 + 20)), q73, cs75, rfl, hq57, h76, hn77, hE.pick _ ⟨rfl, rfl, rfl, rfl, rfl, rfl, trivial⟩, hS⟩
    · replace hq57 := iteF hc72 hq57
      subst hK71
      refine W.exit rfl ?_
      exact ⟨q63, q64, q65, cs69, Option.some.inj hq57, h68, hn70, hE.pick _ ⟨rfl, rfl, rfl, rfl, rfl, trivial⟩, hS⟩
  · clear hE hS a w; rintro a w ⟨q63, q64, q65, cs69, rfl, h68, hn70, hE, hS⟩
    dsimp only at hr
    refine W.seq ?_
    refine W.region ?_
    refine WL.vS hS hE (runs_plain rfl) (Gives.p hE rfl) rfl ?_; clear hE a; intro a hE
    refine WL.vS hS hE (runs_plain rfl) (Gives.p hE rfl) rfl ?_; clear hE a; intro a hE
    refine WL.vS hS hE (runs_plain rfl) (Gives.p hE rfl) rfl ?_; clear hE a; intro a hE
    refine WL.vS hS hE (runs_plain rfl) (Gives.p hE rfl) rfl ?_; clear hE a; intro a hE
    obtain ⟨q78, hq79, hr⟩ := bindS hr
    have hc_ := SlicesinsertionSortCmpFuncint_v1_ok (y3 := y3) hS h68 hn70 h_v1 (rfl) h_v2 (rfl) hq79
    refine WL.fnq hE (hc_) (runs_plain rfl) bd46 rfl rfl rfl ?_
    clear hE hS hc_; rintro e w ⟨cs80, rfl, h81, hn82, hS⟩; refine ⟨_, rfl, ?_⟩; clear a; intro a hE
    refine WL.nil ?_
    obtain ⟨q84, hq83, hr⟩ := bindS hr
    refine W.cut (fun a w => ∃ (q89 : Int), ∃ (q90 : List Int), ∃ (cs94 : List Value), (q89, q90) = q84 ∧ Ev 1 (RI .i64) s cs94 q90 ∧ q90.length = x0.length ∧ Rep a 63 [] ∧ St w s (pt pb0 (.cells #[.pointer (some ⟨pb3, 0, none⟩)] 23 (0, 0)) :: pt pb1 (.cells #[.int .i64 y1] 3 (0, 0)) :: pt pb2 (.cells #[.int .i64 y2] 3 (0, 0)) :: pt pb3 (.cells #[.int .i64 y3.rows, .int .i64 y3.across, .int .i64 y3.stops, .slice a_v1 y3.bookings.length c_v1, .slice a_v2 y3.cancelled.length c_v2] 48 (0, 0)) :: vecC 3 1 a_v0 c_v0 x0.length cs94 :: vecC 39 4 a_v1 c_v1 y3.bookings.length cs_v1 :: vecC 4 1 a_v2 c_v2 y3.cancelled.length cs_v2 :: R)) ?_ ?_
    · refine W.block ?_
      refine W.loop (fun m a w => ∃ (n85 : Nat), ∃ (q89 : Int), ∃ (q90 : List Int), ∃ (cs94 : List Value), n85 = m ∧ SlicesstableCmpFuncint_v1.loop2 x1 y1 y2 y3 fu n85 q89 q90 = some q84 ∧ Ev 1 (RI .i64) s cs94 q90 ∧ q90.length = x0.length ∧ Rep a 63 [(0, .slice a_v0 x0.length c_v0), (1, .int .i64 x1), (2, .func (.func 33) #[] #[.pointer (some ⟨pb0, 0, none⟩), .pointer (some ⟨pb1, 0, none⟩), .pointer (some ⟨pb2, 0, none⟩)]), (6, .int .i64 q89)] ∧ St w s (pt pb0 (.cells #[.pointer (some ⟨pb3, 0, none⟩)] 23 (0, 0)) :: pt pb1 (.cells #[.int .i64 y1] 3 (0, 0)) :: pt pb2 (.cells #[.int .i64 y2] 3 (0, 0)) :: pt pb3 (.cells #[.int .i64 y3.rows, .int .i64 y3.across, .int .i64 y3.stops, .slice a_v1 y3.bookings.length c_v1, .slice a_v2 y3.cancelled.length c_v2] 48 (0, 0)) :: vecC 3 1 a_v0 c_v0 x0.length cs94 :: vecC 39 4 a_v1 c_v1 y3.bookings.length cs_v1 :: vecC 4 1 a_v2 c_v2 y3.cancelled.length cs_v2 :: R)) (m := fu) ⟨fu, 20, q78, cs80, rfl, hq83, h81, hn82, hE.pick _ ⟨rfl, rfl, rfl, rfl, trivial⟩, hS⟩ ?_
      clear hE hS a w hq83; rintro m86 a w ⟨n85, q89, q90, cs94, rfl, hq83, h93, hn95, hE, hS⟩
      refine W.gen fun K96 hK96 => ?_
      rcases n85 with _ | n85
      · rw [SlicesstableCmpFuncint_v1.loop2] at hq83; exact absurd hq83 (by simp)
      rw [SlicesstableCmpFuncint_v1.loop2] at hq83
      refine W.seq ?_
      refine W.seq ?_
      refine W.region ?_
      refine WL.vS hS hE (runs_plain rfl) (Gives.p hE rfl) rfl ?_; clear hE a; intro a hE
      refine WL.vS hS hE (runs_plain rfl) (Gives.p hE rfl) rfl ?_; clear hE a; intro a hE
      refine WL.vS hS hE (runs_plain rfl) (Gives.p hE rfl) rfl ?_; clear hE a; intro a hE
      refine WL.nil ?_
      refine W.cond hE rfl (fun hc97 => ?_) (fun hc97 => ?_)
      · replace hq83 := iteT hc97 hq83
        refine W.skip ?_
        refine W.block ?_
        refine W.seq ?_
        refine W.region ?_
        refine WL.vS hS hE (runs_plain rfl) (Gives.p hE rfl) rfl ?_; clear hE a; intro a hE
        refine WL.vS hS hE (runs_plain rfl) (Gives.p hE rfl) rfl ?_; clear hE a; intro a hE
        refine WL.vS hS hE (runs_plain rfl) (Gives.p hE rfl) rfl ?_; clear hE a; intro a hE
        refine WL.vS hS hE (runs_plain rfl) (Gives.p hE rfl) rfl ?_; clear hE a; intro a hE
        refine WL.nil ?_
        refine W.seq ?_
        obtain ⟨q99, hq98, hq83⟩ := bindS hq83
        refine W.cut (fun a w => ∃ (q104 : Int), ∃ (q105 : Int), ∃ (q106 : List Int), ∃ (cs110 : List Value), (q104, q105, q106) = q99 ∧ Ev 1 (RI .i64) s cs110 q106 ∧ q106.length = x0.length ∧ Rep a 63 [(0, .slice a_v0 x0.length c_v0), (1, .int .i64 x1), (2, .func (.func 33) #[] #[.pointer (some ⟨pb0, 0, none⟩), .pointer (some ⟨pb1, 0, none⟩), .pointer (some ⟨pb2, 0, none⟩)]), (6, .int .i64 q89), (7, .int .i64 q104)] ∧ St w s (pt pb0 (.cells #[.pointer (some ⟨pb3, 0, none⟩)] 23 (0, 0)) :: pt pb1 (.cells #[.int .i64 y1] 3 (0, 0)) :: pt pb2 (.cells #[.int .i64 y2] 3 (0, 0)) :: pt pb3 (.cells #[.int .i64 y3.rows, .int .i64 y3.across, .int .i64 y3.stops, .slice a_v1 y3.bookings.length c_v1, .slice a_v2 y3.cancelled.length c_v2] 48 (0, 0)) :: vecC 3 1 a_v0 c_v0 x0.length cs110 :: vecC 39 4 a_v1 c_v1 y3.bookings.length cs_v1 :: vecC 4 1 a_v2 c_v2 y3.cancelled.length cs_v2 :: R)) ?_ ?_
        · refine W.block ?_
          refine W.loop (fun m a w => ∃ (n100 : Nat), ∃ (q104 : Int), ∃ (q105 : Int), ∃ (q106 : List Int), ∃ (cs110 : List Value), n100 = m ∧ SlicesstableCmpFuncint_v1.loop3 x1 y1 y2 y3 fu q89 n100 q104 q105 q106 = some q99 ∧ Ev 1 (RI .i64) s cs110 q106 ∧ q106.length = x0.length ∧ Rep a 63 [(0, .slice a_v0 x0.length c_v0), (1, .int .i64 x1), (2, .func (.func 33) #[] #[.pointer (some ⟨pb0, 0, none⟩), .pointer (some ⟨pb1, 0, none⟩), .pointer (some ⟨pb2, 0, none⟩)]), (6, .int .i64 q89), (7, .int .i64 q104), (8, .int .i64 q105)] ∧ St w s (pt pb0 (.cells #[.pointer (some ⟨pb3, 0, none⟩)] 23 (0, 0)) :: pt pb1 (.cells #[.int .i64 y1] 3 (0, 0)) :: pt pb2 (.cells #[.int .i64 y2] 3 (0, 0)) :: pt pb3 (.cells #[.int .i64 y3.rows, .int .i64 y3.across, .int .i64 y3.stops, .slice a_v1 y3.bookings.length c_v1, .slice a_v2 y3.cancelled.length c_v2] 48 (0, 0)) :: vecC 3 1 a_v0 c_v0 x0.length cs110 :: vecC 39 4 a_v1 c_v1 y3.bookings.length cs_v1 :: vecC 4 1 a_v2 c_v2 y3.cancelled.length cs_v2 :: R)) (m := fu) ⟨fu, 0, (w64 (2 * q89)), q90, cs94, rfl, hq98, h93, hn95, hE.pick _ ⟨rfl, rfl, rfl, rfl, rfl, rfl, trivial⟩, hS⟩ ?_
          clear hE hS a w hq98; rintro m101 a w ⟨n100, q104, q105, q106, cs110, rfl, hq98, h109, hn111, hE, hS⟩
          refine W.gen fun K112 hK112 => ?_
          rcases n100 with _ | n100
          · rw [SlicesstableCmpFuncint_v1.loop3] at hq98; exact absurd hq98 (by simp)
          rw [SlicesstableCmpFuncint_v1.loop3] at hq98
          refine W.seq ?_
          refine W.seq ?_
          refine W.region ?_
          refine WL.vS hS hE (runs_plain rfl) (Gives.p hE rfl) rfl ?_; clear hE a; intro a hE
          refine WL.vS hS hE (runs_plain rfl) (Gives.p hE rfl) rfl ?_; clear hE a; intro a hE
          refine WL.vS hS hE (runs_plain rfl) (Gives.p hE rfl) rfl ?_; clear hE a; intro a hE
          refine WL.nil ?_
          refine W.cond hE rfl (fun hc113 => ?_) (fun hc113 => ?_)
          · replace hq98 := iteT hc113 hq98
            refine W.skip ?_
            refine W.block ?_
            refine W.seq ?_
            refine W.region ?_
            refine WL.vS hS hE (runs_plain rfl) (Gives.p hE rfl) rfl ?_; clear hE a; intro a hE
            refine WL.vS hS hE (runs_plain rfl) (Gives.p hE rfl) rfl ?_; clear hE a; intro a hE
            refine WL.vS hS hE (runs_plain rfl) (Gives.p hE rfl) rfl ?_; clear hE a; intro a hE
            refine WL.vS hS hE (runs_plain rfl) (Gives.p hE rfl) rfl ?_; clear hE a; intro a hE
            refine WL.vS hS hE (runs_plain rfl) (Gives.p hE rfl) rfl ?_; clear hE a; intro a hE
            refine WL.vS hS hE (runs_plain rfl) (Gives.p hE rfl) rfl ?_; clear hE a; intro a hE
            refine WL.vS hS hE (runs_plain rfl) (Gives.p hE rfl) rfl ?_; clear hE a; intro a hE
            obtain ⟨q114, hq115, hq98⟩ := bindS hq98
            have hc_ := SlicessymMergeCmpFuncint_v1_ok (y3 := y3) hS h109 hn111 h_v1 (rfl) h_v2 (rfl) hq115
            refine WL.fnq hE (hc_) (runs_plain rfl) bd47 rfl rfl rfl ?_
            clear hE hS hc_; rintro e w ⟨cs116, rfl, h117, hn118, hS⟩; refine ⟨_, rfl, ?_⟩; clear a; intro a hE
            refine WL.nil ?_
            refine W.seq ?_
            refine W.region ?_
            refine WL.vS hS hE (runs_plain rfl) (Gives.p hE rfl) rfl ?_; clear hE a; intro a hE
            refine WL.vS hS hE (runs_plain rfl) (Gives.p hE rfl) rfl ?_; clear hE a; intro a hE
            refine WL.nil ?_
            refine W.region ?_
            refine WL.vS hS hE (runs_plain rfl) (Gives.p hE rfl) rfl ?_; clear hE a; intro a hE
            refine WL.vS hS hE (runs_plain rfl) (Gives.p hE rfl) rfl ?_; clear hE a; intro a hE
            refine WL.vS hS hE (runs_plain rfl) (Gives.p hE rfl) rfl ?_; clear hE a; intro a hE
            refine WL.vS hS hE (runs_plain rfl) (Gives.p hE rfl) rfl ?_; clear hE a; intro a hE
            refine WL.vS hS hE (runs_plain rfl) (Gives.p hE rfl) rfl ?_; clear hE a; intro a hE
            refine WL.nil ?_
            subst hK112
            exact ⟨n100, Nat.lt_succ_self _, n100, q105, (w64 (q105 + (w64 (2 * q89)))), q114, cs116, rfl, hq98, h117, hn118, hE.pick _ ⟨rfl, rfl, rfl, rfl, rfl, rfl, trivial⟩, hS⟩
          · replace hq98 := iteF hc113 hq98
            subst hK112
            refine W.exit rfl ?_
            exact ⟨q104, q105, q106, cs110, Option.some.inj hq98, h109, hn111, hE.pick _ ⟨rfl, rfl, rfl, rfl, rfl, trivial⟩, hS⟩
        · clear hE hS a w; rintro a w ⟨q104, q105, q106, cs110, rfl, h109, hn111, hE, hS⟩
          dsimp only at hq83
          refine W.seq ?_
          refine W.seq ?_
          refine W.region ?_
          refine WL.vS hS hE (runs_plain rfl) (Gives.p hE rfl) rfl ?_; clear hE a; intro a hE
          refine WL.vS hS hE (runs_plain rfl) (Gives.p hE rfl) rfl ?_; clear hE a; intro a hE
          refine WL.vS hS hE (runs_plain rfl) (Gives.p hE rfl) rfl ?_; clear hE a; intro a hE
          refine WL.vS hS hE (runs_plain rfl) (Gives.p hE rfl) rfl ?_; clear hE a; intro a hE
          refine WL.nil ?_
          refine W.seq ?_
          refine W.region ?_
          refine WL.vS hS hE (runs_plain rfl) (Gives.p hE rfl) rfl ?_; clear hE a; intro a hE
          refine WL.vS hS hE (runs_plain rfl) (Gives.p hE rfl) rfl ?_; clear hE a; intro a hE
          refine WL.vS hS hE (runs_plain rfl) (Gives.p hE rfl) rfl ?_; clear hE a; intro a hE
          refine WL.nil ?_
          refine W.cond hE rfl (fun hc119 => ?_) (fun hc119 => ?_)
          · replace hq83 := iteT hc119 hq83
            refine W.region ?_
            refine WL.vS hS hE (runs_plain rfl) (Gives.p hE rfl) rfl ?_; clear hE a; intro a hE
            refine WL.vS hS hE (runs_plain rfl) (Gives.p hE rfl) rfl ?_; clear hE a; intro a hE
            refine WL.vS hS hE (runs_plain rfl) (Gives.p hE rfl) rfl ?_; clear hE a; intro a hE
            refine WL.vS hS hE (runs_plain rfl) (Gives.p hE rfl) rfl ?_; clear hE a; intro a hE
            refine WL.vS hS hE (runs_plain rfl) (Gives.p hE rfl) rfl ?_; clear hE a; intro a hE
            obtain ⟨q120, hq121, hq83⟩ := bindS hq83
            have hc_ := SlicessymMergeCmpFuncint_v1_ok (y3 := y3) hS h109 hn111 h_v1 (rfl) h_v2 (rfl) hq121
            refine WL.fnq hE (hc_) (runs_plain rfl) bd47 rfl rfl rfl ?_
            clear hE hS hc_; rintro e w ⟨cs122, rfl, h123, hn124, hS⟩; refine ⟨_, rfl, ?_⟩; clear a; intro a hE
            refine WL.nil ?_
            refine W.region ?_
            refine WL.vS hS hE (runs_plain rfl) (Gives.p hE rfl) rfl ?_; clear hE a; intro a hE
            refine WL.vS hS hE (runs_plain rfl) (Gives.p hE rfl) rfl ?_; clear hE a; intro a hE
            refine WL.vS hS hE (runs_plain rfl) (Gives.p hE rfl) rfl ?_; clear hE a; intro a hE
            refine WL.nil ?_
            subst hK96
            exact ⟨n85, Nat.lt_succ_self _, n85, (w64 (q89 * 2)), q120, cs122, rfl, hq83, h123, hn124, hE.pick _ ⟨rfl, rfl, rfl, rfl, trivial⟩, hS⟩
          · replace hq83 := iteF hc119 hq83
            refine W.skip ?_
            refine W.region ?_
            refine WL.vS hS hE (runs_plain rfl) (Gives.p hE rfl) rfl ?_; clear hE a; intro a hE
            refine WL.vS hS hE (runs_plain rfl) (Gives.p hE rfl) rfl ?_; clear hE a; intro a hE
            refine WL.vS hS hE (runs_plain rfl) (Gives.p hE rfl) rfl ?_; clear hE a; intro a hE
            refine WL.nil ?_
            subst hK96
            exact ⟨n85, Nat.lt_succ_self _, n85, (w64 (q89 * 2)), q106, cs110, rfl, hq83, h109, hn111, hE.pick _ ⟨rfl, rfl, rfl, rfl, trivial⟩, hS⟩
      · replace hq83 := iteF hc97 hq83
        subst hK96
        refine W.exit rfl ?_
        exact ⟨q89, q90, cs94, Option.some.inj hq83, h93, hn95, hE.pick _ trivial, hS⟩
    · clear hE hS a w; rintro a w ⟨q89, q90, cs94, rfl, h93, hn95, hE, hS⟩
      dsimp only at hr
      refine finG (fn := Try.f41) (rs := []) (vs := []) hE rfl trivial ?_
      obtain rfl := Option.some.inj hr
      exact ⟨cs94, rfl, h93, hn95, hS⟩
set_option maxHeartbeats 8000000 in
theorem SlicesSortStableFuncLint_v1_ok {fu : Nat}  {w : World} {s : Sg} {R : List HP} {pb0 : Nat} {pb1 : Nat} {pb2 : Nat} {pb3 : Nat} {x0 : List Int} {a_v0 : Option Addr} {c_v0 n_v0 : Nat} {cs_v0 : List Value} {y1 : Int} {y2 : Int} {y3 : FareCar} {a_v1 : Option Addr} {c_v1 n_v1 : Nat} {cs_v1 : List Value} {a_v2 : Option Addr} {c_v2 n_v2 : Nat} {cs_v2 : List Value} (hS : St w s (pt pb0 (.cells #[.pointer (some ⟨pb3, 0, none⟩)] 23 (0, 0)) :: pt pb1 (.cells #[.int .i64 y1] 3 (0, 0)) :: pt pb2 (.cells #[.int .i64 y2] 3 (0, 0)) :: pt pb3 (.cells #[.int .i64 y3.rows, .int .i64 y3.across, .int .i64 y3.stops, .slice a_v1 n_v1 c_v1, .slice a_v2 n_v2 c_v2] 48 (0, 0)) :: vecC 3 1 a_v0 c_v0 n_v0 cs_v0 :: vecC 39 4 a_v1 c_v1 n_v1 cs_v1 :: vecC 4 1 a_v2 c_v2 n_v2 cs_v2 :: R)) (h_v0 : Ev 1 (RI .i64) s cs_v0 x0) (hn_v0 : x0.length = n_v0) (h_v1 : Ev 4 RFareBooking s cs_v1 y3.bookings) (hn_v1 : y3.bookings.length = n_v1) (h_v2 : Ev 1 RB s cs_v2 y3.cancelled) (hn_v2 : y3.cancelled.length = n_v2) {r : (List Int)} (hr : SlicesSortStableFuncLint_v1 fu x0 y1 y2 y3 = some r) :
    Calls Try.prog 32 [.slice a_v0 n_v0 c_v0, .func (.func 33) #[] #[.pointer (some ⟨pb0, 0, none⟩), .pointer (some ⟨pb1, 0, none⟩), .pointer (some ⟨pb2, 0, none⟩)]].toArray w (fun e w => ∃ (cs55 : List Value), e = .returned (.tuple #[]) ∧ Ev 1 (RI .i64) s cs55 r ∧ r.length = n_v0 ∧ St w s (pt pb0 (.cells #[.pointer (some ⟨pb3, 0, none⟩)] 23 (0, 0)) :: pt pb1 (.cells #[.int .i64 y1] 3 (0, 0)) :: pt pb2 (.cells #[.int .i64 y2] 3 (0, 0)) :: pt pb3 (.cells #[.int .i64 y3.rows, .int .i64 y3.across, .int .i64 y3.stops, .slice a_v1 n_v1 c_v1, .slice a_v2 n_v2 c_v2] 48 (0, 0)) :: vecC 3 1 a_v0 c_v0 n_v0 cs55 :: vecC 39 4 a_v1 c_v1 n_v1 cs_v1 :: vecC 4 1 a_v2 c_v2 n_v2 cs_v2 :: R)) := by
  refine enter Try.func32 rfl rfl rfl fun a hE => ?_
  rw [SlicesSortStableFuncLint_v1] at hr
  subst hn_v0
  subst hn_v1
  subst hn_v2
  refine W.region ?_
  refine WL.vS hS hE (runs_plain rfl) (Gives.p hE rfl) rfl ?_; clear hE a; intro a hE
  refine WL.vS hS hE (runs_plain rfl) (Gives.p hE rfl) rfl ?_; clear hE a; intro a hE
  refine WL.vS hS hE (runs_plain rfl) (Gives.len hE rfl sl22) rfl ?_; clear hE a; intro a hE
  refine WL.vS hS hE (runs_plain rfl) (Gives.p hE rfl) rfl ?_; clear hE a; intro a hE
  obtain ⟨q57, hq58, hr⟩ := bindS hr
  have hc_ := SlicesstableCmpFuncint_v1_ok (y3 := y3) hS h_v0 (rfl) h_v1 (rfl) h_v2 (rfl) hq58
  refine WL.fnq hE (hc_) (runs_plain rfl) bd41 rfl rfl rfl ?_
  clear hE hS hc_; rintro e w ⟨cs59, rfl, h60, hn61, hS⟩; refine ⟨_, rfl, ?_⟩; clear a; intro a hE
  refine WL.nil ?_
  refine finG (fn := Try.f32) (rs := []) (vs := []) hE rfl trivial ?_
  obtain rfl := Option.some.inj hr
  exact ⟨cs59, rfl, h60, hn61, hS⟩
set_option maxHeartbeats 8000000 in
theorem FareCarchoose_v1_ok {fu : Nat}  {w : World} {s : Sg} {R : List HP} {pb0 : Nat} {x1 : List Int} {a1 : Option Addr} {c1 : Nat} {x2 : Int} {x3 : Int} {x4 : Int} {y0 : FareCar} {a_v0 : Option Addr} {c_v0 n_v0 : Nat} {cs_v0 : List Value} {a_v1 : Option Addr} {c_v1 n_v1 : Nat} {cs_v1 : List Value} (hS : St w s (pt pb0 (.cells #[.int .i64 y0.rows, .int .i64 y0.across, .int .i64 y0.stops, .slice a_v0 n_v0 c_v0, .slice a_v1 n_v1 c_v1] 48 (0, 0)) :: vecC 39 4 a_v0 c_v0 n_v0 cs_v0 :: vecC 4 1 a_v1 c_v1 n_v1 cs_v1 :: R)) (h1 : Sl 1 (RI .i64) s a1 c1 x1) (h_v0 : Ev 4 RFareBooking s cs_v0 y0.bookings) (hn_v0 : y0.bookings.length = n_v0) (h_v1 : Ev 1 RB s cs_v1 y0.cancelled) (hn_v1 : y0.cancelled.length = n_v1) {r : (List Int)} (hr : FareCarchoose_v1 fu x1 x2 x3 x4 y0 = some r) :
    Calls Try.prog 23 [.pointer (some ⟨pb0, 0, none⟩), .slice a1 x1.length c1, .int .i64 x2, .int .i64 x3, .int .i64 x4].toArray w (fun e w => ∃ (a0 : Option Addr) (c0 n0 : Nat) (cs0 : List Value), e = .returned (.slice a0 n0 c0) ∧ Ev 1 (RI .i64) s cs0 r ∧ r.length = n0 ∧ St w s (vecC 3 1 a0 c0 n0 cs0 :: pt pb0 (.cells #[.int .i64 y0.rows, .int .i64 y0.across, .int .i64 y0.stops, .slice a_v0 n_v0 c_v0, .slice a_v1 n_v1 c_v1] 48 (0, 0)) :: vecC 39 4 a_v0 c_v0 n_v0 cs_v0 :: vecC 4 1 a_v1 c_v1 n_v1 cs_v1 :: R)) := by
  refine enter Try.func23 rfl rfl rfl fun a hE => ?_
  rw [FareCarchoose_v1] at hr
  subst hn_v0
  subst hn_v1
  refine W.seq ?_
  refine W.region ?_
  refine WL.box hE hS (runs_plain rfl) rfl rfl rfl ?_; clear hE hS a w; intro b51 a w hE hS
  refine WL.box hE hS (runs_plain rfl) rfl rfl rfl ?_; clear hE hS a w; intro b52 a w hE hS
  refine WL.box hE hS (runs_plain rfl) rfl rfl rfl ?_; clear hE hS a w; intro b53 a w hE hS
  refine WL.vS hS hE (runs_plain rfl) (Gives.p hE rfl) rfl ?_; clear hE a; intro a hE
  refine WL.nil ?_
  refine W.seq ?_
  refine W.region ?_
  refine WL.vS hS hE (runs_plain rfl) (Gives.loadB hE 2 rfl rfl rfl ty23) rfl ?_; clear hE a; intro a hE
  refine WL.vS hS hE (runs_plain rfl) (Gives.nilOk hE rfl) rfl ?_; clear hE a; intro a hE
  refine WL.vS hS hE (runs_plain rfl) (Gives.fld hE rfl fl48_0) rfl ?_; clear hE a; intro a hE
  refine WL.vS hS hE (runs_plain rfl) (Gives.loadB hE 3 rfl rfl rfl ty3) rfl ?_; clear hE a; intro a hE
  obtain ⟨x54, hx55, hr⟩ := bindS hr
  refine WL.mkND (Rr := RI .i64) (Ti := 3) (es := 1) hE hS (runs_plain rfl) rfl rfl ap61 zr22 hx55 rfl ?_; clear hE hS a w; intro b56 ds57 a w h58 hE hS
  refine WL.vS hS hE (runs_plain rfl) (Gives.p hE rfl) rfl ?_; clear hE a; intro a hE
  refine WL.nil ?_
  refine W.seq ?_
  refine W.seq ?_
  refine W.region ?_
  refine WL.vS hS hE (runs_plain rfl) (Gives.p hE rfl) rfl ?_; clear hE a; intro a hE
  refine WL.vS hS hE (runs_plain rfl) (Gives.len hE rfl sl22) rfl ?_; clear hE a; intro a hE
  refine WL.vS hS hE (runs_plain rfl) (Gives.p hE rfl) rfl ?_; clear hE a; intro a hE
  refine WL.nil ?_
  obtain ⟨q61, hq60, hr⟩ := bindS hr
  refine W.cut (fun a w => ∃ (q71 : List (List Int)), ∃ (ds75 : List In), q71 = q61 ∧ NEv 1 (RI .i64) s ds75 q71 ∧ q71.length = x54.length ∧ Rep a 98 [(1, .slice a1 x1.length c1), (4, .int .i64 x4), (5, .pointer (some ⟨b51, 0, none⟩)), (7, .pointer (some ⟨b52, 0, none⟩)), (8, .pointer (some ⟨b53, 0, none⟩)), (11, .slice (some ⟨b56, 0, none⟩) x54.length x54.length)] ∧ St w s (nestC 22 3 1 (some ⟨b56, 0, none⟩) x54.length x54.length ds75 :: pt b53 (.cells #[.int .i64 x3] 3 (0, 0)) :: pt b52 (.cells #[.int .i64 x2] 3 (0, 0)) :: pt b51 (.cells #[.pointer (some ⟨pb0, 0, none⟩)] 23 (0, 0)) :: pt pb0 (.cells #[.int .i64 y0.rows, .int .i64 y0.across, .int .i64 y0.stops, .slice a_v0 y0.bookings.length c_v0, .slice a_v1 y0.cancelled.length c_v1] 48 (0, 0)) :: vecC 39 4 a_v0 c_v0 y0.bookings.length cs_v0 :: vecC 4 1 a_v1 c_v1 y0.cancelled.length cs_v1 :: R)) ?_ ?_
  · refine W.block ?_
    refine W.loop (fun m a w => ∃ (rest64 : List Int) (k62 : Nat), ∃ (q71 : List (List Int)), ∃ (ds75 : List In), rest64.length = m ∧ x1.drop k62 = rest64 ∧ FareCarchoose_v1.loop1 y0 rest64 q71 = some q61 ∧ NEv 1 (RI .i64) s ds75 q71 ∧ q71.length = x54.length ∧ Rep a 98 [(1, .slice a1 x1.length c1), (4, .int .i64 x4), (5, .pointer (some ⟨b51, 0, none⟩)), (7, .pointer (some ⟨b52, 0, none⟩)), (8, .pointer (some ⟨b53, 0, none⟩)), (11, .slice (some ⟨b56, 0, none⟩) x54.length x54.length), (23, .slice a1 x1.length c1), (24, .int .i64 ((x1).length : Int)), (25, .int .i64 ((k62 : Nat) : Int))] ∧ St w s (nestC 22 3 1 (some ⟨b56, 0, none⟩) x54.length x54.length ds75 :: pt b53 (.cells #[.int .i64 x3] 3 (0, 0)) :: pt b52 (.cells #[.int .i64 x2] 3 (0, 0)) :: pt b51 (.cells #[.pointer (some ⟨pb0, 0, none⟩)] 23 (0, 0)) :: pt pb0 (.cells #[.int .i64 y0.rows, .int .i64 y0.across, .int .i64 y0.stops, .slice a_v0 y0.bookings.length c_v0, .slice a_v1 y0.cancelled.length c_v1] 48 (0, 0)) :: vecC 39 4 a_v0 c_v0 y0.bookings.length cs_v0 :: vecC 4 1 a_v1 c_v1 y0.cancelled.length cs_v1 :: R)) (m := x1.length) ⟨x1, 0, x54, ds57, rfl, rfl, hq60, h58, (rfl), hE.pick _ ⟨rfl, rfl, rfl, rfl, rfl, rfl, rfl, rfl, rfl, trivial⟩, hS⟩ ?_
    clear hE hS a w hq60; rintro m68 a w ⟨rest64, k62, q71, ds75, rfl, hd65, hq60, h76, hn77, hE, hS⟩
    refine W.gen fun K78 hK78 => ?_
    rcases rest64 with _ | ⟨x63, rest64⟩
    · have hlt66 := drop_nil hd65
      refine W.seq ?_
      refine W.region ?_
      refine WL.vS hS hE (runs_plain rfl) (Gives.p hE rfl) rfl ?_; clear hE a; intro a hE
      refine WL.nil ?_
      refine W.seq ?_
      refine W.condF hE rfl (decide_eq_false (by omega)) ?_
      subst hK78
      refine W.exit rfl ?_
      exact ⟨q71, ds75, Option.some.inj hq60, h76, hn77, hE.pick _ ⟨rfl, rfl, rfl, rfl, rfl, rfl, trivial⟩, hS⟩
    · obtain ⟨hlt66, hx67, hd65⟩ := drop_cons hd65
      rw [FareCarchoose_v1.loop1] at hq60
      refine W.seq ?_
      refine W.region ?_
      refine WL.vS hS hE (runs_plain rfl) (Gives.p hE rfl) rfl ?_; clear hE a; intro a hE
      refine WL.nil ?_
      refine W.seq ?_
      refine W.condT hE rfl (decide_eq_true (by omega)) ?_
      refine W.skip ?_
      refine W.seq ?_
      refine W.block ?_
      refine W.seq ?_
      refine W.region ?_
      obtain ⟨cs79, hl80, hR81, hat82⟩ := h1.at hx67
      subst hR81
      refine WL.vS hS hE (runs_plain rfl) (Gives.idx hE k62 rfl rfl sl22 rfl hlt66 (h1.aok hlt66)) rfl ?_; clear hE a; intro a hE
      refine WL.vS hS hE (runs_plain rfl) (Gives.load1 hE rfl (fun w h => hat82 w _ h) ty3) rfl ?_; clear hE a; intro a hE
      refine WL.vS hS hE (runs_plain rfl) (Gives.p hE rfl) rfl ?_; clear hE a; intro a hE
      refine WL.nil ?_
      refine W.gen fun K83 hK83 => ?_
      refine rE hS [] [0] [0, 1, 2, 3, 4, 5, 6, 7, 8, 9, 10, 11, 12, 13, 14, 15, 16, 17, 19] [0, 1, 2, 3, 4, 5, 6, 7, 8, 9, 10, 11, 12, 13, 14, 15, 16, 17, 18, 19, 20] mixed ?_
      replace hS := hS.drew
      refine Rg.takeP (i := 0) hE rfl (by kernel_rfl) (runs_plain rfl) (Gives.p hE rfl) rfl (tw_sel (fun _ => hS) (fun _ => (hS.tail))) ?_; clear hE a; intro a hE
      refine Rg.takeP (i := 1) hE rfl (by kernel_rfl) (runs_plain rfl) (Gives.p hE rfl) rfl (tw_sel (fun _ => hS) (fun _ => (hS.tail))) ?_; clear hE a; intro a hE
      refine Rg.take (i := 2) false rfl hE rfl (by kernel_rfl) (runs_plain rfl) (Gives.loadB hE 2 rfl rfl rfl ty23) rfl (tw_sel (fun _ => hS) (fun _ => (hS.tail))) ?_; clear hE a; intro a hE
      refine Rg.take (i := 3) false rfl hE rfl (by kernel_rfl) (runs_plain rfl) (Gives.nilOk hE rfl) rfl (tw_sel (fun _ => hS) (fun _ => (hS.tail))) ?_; clear hE a; intro a hE
      refine Rg.takeP (i := 4) hE rfl (by kernel_rfl) (runs_plain rfl) (Gives.fld hE rfl fl48_1) rfl (tw_sel (fun _ => hS) (fun _ => (hS.tail))) ?_; clear hE a; intro a hE
      refine Rg.take (i := 5) false rfl hE rfl (by kernel_rfl) (runs_plain rfl) (Gives.loadB hE 3 rfl rfl rfl ty3) rfl (tw_sel (fun _ => hS) (fun _ => (hS.tail))) ?_; clear hE a; intro a hE
      obtain ⟨x84, hx85, hq60⟩ := bindS hq60
      refine Rg.takeP (i := 6) hE rfl (by kernel_rfl) (runs_plain rfl) (Gives.dv hE rfl rfl hx85) rfl (tw_sel (fun _ => hS) (fun _ => (hS.tail))) ?_; clear hE a; intro a hE
      refine Rg.takeP (i := 7) hE rfl (by kernel_rfl) (runs_plain rfl) (Gives.p hE rfl) rfl (tw_sel (fun _ => hS) (fun _ => (hS.tail))) ?_; clear hE a; intro a hE
      refine Rg.takeP (i := 8) hE rfl (by kernel_rfl) (runs_plain rfl) (Gives.p hE rfl) rfl (tw_sel (fun _ => hS) (fun _ => (hS.tail))) ?_; clear hE a; intro a hE
      refine Rg.take (i := 9) false rfl hE rfl (by kernel_rfl) (runs_plain rfl) (Gives.loadB hE 2 rfl rfl rfl ty23) rfl (tw_sel (fun _ => hS) (fun _ => (hS.tail))) ?_; clear hE a; intro a hE
      refine Rg.take (i := 10) false rfl hE rfl (by kernel_rfl) (runs_plain rfl) (Gives.nilOk hE rfl) rfl (tw_sel (fun _ => hS) (fun _ => (hS.tail))) ?_; clear hE a; intro a hE
      refine Rg.takeP (i := 11) hE rfl (by kernel_rfl) (runs_plain rfl) (Gives.fld hE rfl fl48_1) rfl (tw_sel (fun _ => hS) (fun _ => (hS.tail))) ?_; clear hE a; intro a hE
      refine Rg.take (i := 12) false rfl hE rfl (by kernel_rfl) (runs_plain rfl) (Gives.loadB hE 3 rfl rfl rfl ty3) rfl (tw_sel (fun _ => hS) (fun _ => (hS.tail))) ?_; clear hE a; intro a hE
      refine Rg.takeP (i := 13) hE rfl (by kernel_rfl) (runs_plain rfl) (Gives.dv hE rfl rfl hx85) rfl (tw_sel (fun _ => hS) (fun _ => (hS.tail))) ?_; clear hE a; intro a hE
      obtain ⟨x86, hx87, hq60⟩ := bindS hq60
      obtain ⟨hi88, hlt89, hy90⟩ := gx_some hx87
      obtain ⟨a91, c92, cs93, hd94, hev95⟩ := h76.at hy90
      refine Rg.takeP (i := 14) hE rfl (by kernel_rfl) (runs_plain rfl) (Gives.idx hE ((x84).toNat) rfl rfl sl61 hi88 (by have := hn77; omega) (hS.nAok 0 rfl (by have := hn77; omega : (x84).toNat < x54.length))) rfl (tw_sel (fun _ => hS) (fun _ => (hS.tail))) ?_; clear hE a; intro a hE
      refine Rg.take (i := 15) true rfl hE rfl (by kernel_rfl) (runs_plain rfl) (Gives.load1 (v := .slice a91 x86.length c92) hE rfl (fun w h => St.nSees h 0 rfl hd94) ty22) rfl (tw_sel (fun _ => hS) (fun _ => (hS.tail))) ?_; clear hE a; intro a hE
      refine Rg.takeP (i := 16) hE rfl (by kernel_rfl) (runs_plain rfl) (Gives.p hE rfl) rfl (tw_sel (fun _ => hS) (fun _ => (hS.tail))) ?_; clear hE a; intro a hE
      refine Rg.one (i := 17) true true rfl (by kernel_rfl) (by kernel_rfl) (by kernel_rfl) ?_
      refine WL.lit hE hS (e := 3) (es := 1) (vs := [(0, .int .i64 x63)]) (cs := [.int .i64 x63]) (runs_plain rfl) rfl (by kernel_rfl) rfl ?_; clear hE hS a w; intro b96 a w hE hS
      refine WL.nil ?_
      refine ⟨⟨fun _ => (hS.tail), fun _ => ((hS.tail).tail)⟩, ?_⟩
      refine Rg.one (i := 18) false true rfl (by kernel_rfl) (by kernel_rfl) (by kernel_rfl) ?_
      replace hS := hS.borrowM 1 rfl hd94
      replace hS := hS.front 1 rfl
      obtain ⟨x98, hx99, hq60⟩ := bindS hq60
      refine WL.appD hE hS 0 (m := 1) (runs_plain rfl) rfl rfl rfl ap22 rfl hev95 (rfl) (xs := [x63]) (Ev.cons (c1 := [.int .i64 x63]) rfl rfl (Ev.nil)) rfl rfl hx99 rfl ?_; clear hE hS a w; intro a100 c101 cs102 a w h103 hE hS
      refine WL.nil ?_
      refine ⟨⟨fun h => absurd h (by decide), fun _ => ((hS.tail).tail)⟩, ?_⟩
      obtain ⟨_, hx104, hq60⟩ := bindS hq60
      obtain ⟨h105, h106⟩ := ix_some hx104
      refine Rg.takeP (i := 19) hE rfl (by kernel_rfl) (runs_plain rfl) (Gives.idx hE ((x84).toNat) rfl rfl sl61 h105 (by have := hn77; omega) (hS.hAok 1 rfl (by have := hn77; omega : (x84).toNat < x54.length))) rfl (tw_sel (fun h => absurd h (by decide)) (fun _ => ((hS.tail).tail))) ?_; clear hE a; intro a hE
      refine Rg.one (i := 20) false true rfl (by kernel_rfl) (by kernel_rfl) (by kernel_rfl) ?_
      obtain ⟨x107, hx108, hq60⟩ := bindS hq60
      refine WL.storeND hE hS 0 rfl (runs_plain rfl) rfl rfl ty22 h76 hn77 (by have := (sx_some hx108).1; omega) hx108 h103 (rfl) rfl ?_; clear hE hS a w; intro ds109 a w h110 hn111 hE hS
      refine WL.nil ?_
      refine ⟨⟨fun h => absurd h (by decide), fun _ => (hS.tail)⟩, ?_⟩
      refine Rg.done (by kernel_rfl) ?_
      subst hK83
      refine W.region ?_
      refine WL.vS hS hE (runs_plain rfl) (Gives.inc hE rfl (by have := h1.small; omega)) rfl ?_; clear hE a; intro a hE
      refine WL.vS hS hE (runs_plain rfl) (Gives.p hE rfl) rfl ?_; clear hE a; intro a hE
      refine WL.nil ?_
      subst hK78
      exact ⟨rest64.length, Nat.lt_succ_self _, rest64, k62 + 1, x107, ds109, rfl, hd65, hq60, h110, hn111, hE.pick _ ⟨rfl, rfl, rfl, rfl, rfl, rfl, rfl, rfl, rfl, trivial⟩, hS⟩
  · clear hE hS a w; rintro a w ⟨q71, ds75, rfl, h76, hn77, hE, hS⟩
    refine W.seq ?_
    refine W.region ?_
    refine WL.vS hS hE (runs_plain rfl) (Gives.p hE rfl) rfl ?_; clear hE a; intro a hE
    refine WL.nil ?_
    refine W.seq ?_
    refine W.seq ?_
    refine W.region ?_
    refine WL.vS hS hE (runs_plain rfl) (Gives.p hE rfl) rfl ?_; clear hE a; intro a hE
    refine WL.vS hS hE (runs_plain rfl) (Gives.len hE rfl sl61) rfl ?_; clear hE a; intro a hE
    refine WL.vS hS hE (runs_plain rfl) (Gives.p hE rfl) rfl ?_; clear hE a; intro a hE
    refine WL.nil ?_
    have hb123 : x54.length ≤ 9223372036854775807 := by have := hS.nCap 0 rfl; unfold maxLen at this; omega
    obtain ⟨q113, hq112, hr⟩ := bindS hr
    refine W.cut (fun a w => ∃ (q124 : Int), q124 = q113 ∧ Rep a 98 [(1, .slice a1 x1.length c1), (4, .int .i64 x4), (5, .pointer (some ⟨b51, 0, none⟩)), (7, .pointer (some ⟨b52, 0, none⟩)), (8, .pointer (some ⟨b53, 0, none⟩)), (11, .slice (some ⟨b56, 0, none⟩) x54.length x54.length), (14, .int .i64 q124)] ∧ St w s (nestC 22 3 1 (some ⟨b56, 0, none⟩) x54.length x54.length ds75 :: pt b53 (.cells #[.int .i64 x3] 3 (0, 0)) :: pt b52 (.cells #[.int .i64 x2] 3 (0, 0)) :: pt b51 (.cells #[.pointer (some ⟨pb0, 0, none⟩)] 23 (0, 0)) :: pt pb0 (.cells #[.int .i64 y0.rows, .int .i64 y0.across, .int .i64 y0.stops, .slice a_v0 y0.bookings.length c_v0, .slice a_v1 y0.cancelled.length c_v1] 48 (0, 0)) :: vecC 39 4 a_v0 c_v0 y0.bookings.length cs_v0 :: vecC 4 1 a_v1 c_v1 y0.cancelled.length cs_v1 :: R)) ?_ ?_
    · refine W.block ?_
      refine W.loop (fun m a w => ∃ (rest116 : Nat) (k114 : Nat), ∃ (q124 : Int), rest116 = m ∧ k114 + rest116 = x54.length ∧ FareCarchoose_v1.loop2 x4 q71 rest116 k114 q124 = some q113 ∧ Rep a 98 [(1, .slice a1 x1.length c1), (4, .int .i64 x4), (5, .pointer (some ⟨b51, 0, none⟩)), (7, .pointer (some ⟨b52, 0, none⟩)), (8, .pointer (some ⟨b53, 0, none⟩)), (11, .slice (some ⟨b56, 0, none⟩) x54.length x54.length), (14, .int .i64 q124), (50, .slice (some ⟨b56, 0, none⟩) x54.length x54.length), (51, .int .i64 ((x54.length : Nat) : Int)), (52, .int .i64 ((k114 : Nat) : Int))] ∧ St w s (nestC 22 3 1 (some ⟨b56, 0, none⟩) x54.length x54.length ds75 :: pt b53 (.cells #[.int .i64 x3] 3 (0, 0)) :: pt b52 (.cells #[.int .i64 x2] 3 (0, 0)) :: pt b51 (.cells #[.pointer (some ⟨pb0, 0, none⟩)] 23 (0, 0)) :: pt pb0 (.cells #[.int .i64 y0.rows, .int .i64 y0.across, .int .i64 y0.stops, .slice a_v0 y0.bookings.length c_v0, .slice a_v1 y0.cancelled.length c_v1] 48 (0, 0)) :: vecC 39 4 a_v0 c_v0 y0.bookings.length cs_v0 :: vecC 4 1 a_v1 c_v1 y0.cancelled.length cs_v1 :: R)) (m := x54.length) ⟨x54.length, 0, (-1), rfl, by omega, hq112, hE.pick _ ⟨rfl, rfl, rfl, rfl, rfl, rfl, rfl, rfl, rfl, rfl, trivial⟩, hS⟩ ?_
      clear hE hS a w hq112; rintro m120 a w ⟨rest116, k114, q124, rfl, hd117, hq112, hE, hS⟩
      refine W.gen fun K125 hK125 => ?_
      rcases rest116 with _ | rest116
      · skip
        refine W.seq ?_
        refine W.region ?_
        refine WL.vS hS hE (runs_plain rfl) (Gives.p hE rfl) rfl ?_; clear hE a; intro a hE
        refine WL.nil ?_
        refine W.seq ?_
        refine W.condF hE rfl (decide_eq_false (by omega)) ?_
        subst hK125
        refine W.exit rfl ?_
        exact ⟨q124, Option.some.inj hq112, hE.pick _ ⟨rfl, rfl, rfl, rfl, rfl, rfl, rfl, trivial⟩, hS⟩
      · have hlt118 : k114 < x54.length := by omega
        rw [FareCarchoose_v1.loop2] at hq112
        refine W.seq ?_
        refine W.region ?_
        refine WL.vS hS hE (runs_plain rfl) (Gives.p hE rfl) rfl ?_; clear hE a; intro a hE
        refine WL.nil ?_
        refine W.seq ?_
        refine W.condT hE rfl (decide_eq_true (by omega)) ?_
        refine W.skip ?_
        refine W.seq ?_
        refine W.block ?_
        refine W.seq ?_
        refine W.region ?_
        refine WL.vS hS hE (runs_plain rfl) (Gives.p hE rfl) rfl ?_; clear hE a; intro a hE
        obtain ⟨x126, hx127, hq112⟩ := bindS hq112
        obtain ⟨hi128, hlt129, hy130⟩ := gx_some hx127
        obtain ⟨a131, c132, cs133, hd134, hev135⟩ := h76.at hy130
        refine WL.vS hS hE (runs_plain rfl) (Gives.idx hE ((((k114 : Nat) : Int)).toNat) rfl rfl sl61 hi128 (by have := hn77; omega) (hS.nAok 0 rfl (by have := hn77; omega : (((k114 : Nat) : Int)).toNat < x54.length))) rfl ?_; clear hE a; intro a hE
        refine WL.vS hS hE (runs_plain rfl) (Gives.load1 (v := .slice a131 x126.length c132) hE rfl (fun w h => St.nSees h 0 rfl hd134) ty22) rfl ?_; clear hE a; intro a hE
        refine WL.vS hS hE (runs_plain rfl) (Gives.p hE rfl) rfl ?_; clear hE a; intro a hE
        refine WL.vS hS hE (runs_plain rfl) (Gives.p hE rfl) rfl ?_; clear hE a; intro a hE
        refine WL.nil ?_
        refine W.seq ?_
        obtain ⟨q137, hq136, hq112⟩ := bindS hq112
        refine W.cut (fun a w => ∃ (q140 : Bool), q140 = q137 ∧ Rep a 98 [(1, .slice a1 x1.length c1), (4, .int .i64 x4), (5, .pointer (some ⟨b51, 0, none⟩)), (7, .pointer (some ⟨b52, 0, none⟩)), (8, .pointer (some ⟨b53, 0, none⟩)), (11, .slice (some ⟨b56, 0, none⟩) x54.length x54.length), (14, .int .i64 q124), (15, .int .i64 ((k114 : Nat) : Int)), (50, .slice (some ⟨b56, 0, none⟩) x54.length x54.length), (51, .int .i64 ((x54.length : Nat) : Int)), (52, .int .i64 ((k114 : Nat) : Int)), (74, .bool q140)] ∧ St w s (nestC 22 3 1 (some ⟨b56, 0, none⟩) x54.length x54.length ds75 :: pt b53 (.cells #[.int .i64 x3] 3 (0, 0)) :: pt b52 (.cells #[.int .i64 x2] 3 (0, 0)) :: pt b51 (.cells #[.pointer (some ⟨pb0, 0, none⟩)] 23 (0, 0)) :: pt pb0 (.cells #[.int .i64 y0.rows, .int .i64 y0.across, .int .i64 y0.stops, .slice a_v0 y0.bookings.length c_v0, .slice a_v1 y0.cancelled.length c_v1] 48 (0, 0)) :: vecC 39 4 a_v0 c_v0 y0.bookings.length cs_v0 :: vecC 4 1 a_v1 c_v1 y0.cancelled.length cs_v1 :: R)) ?_ ?_
        · refine W.gen fun K141 hK141 => ?_
          refine W.region ?_
          refine WL.vS hS hE (runs_plain rfl) (Gives.p hE rfl) rfl ?_; clear hE a; intro a hE
          refine WL.vS hS hE (runs_plain rfl) (Gives.len hE rfl sl22) rfl ?_; clear hE a; intro a hE
          refine WL.vS hS hE (runs_plain rfl) (Gives.p hE rfl) rfl ?_; clear hE a; intro a hE
          refine WL.vS hS hE (runs_plain rfl) (Gives.p hE rfl) rfl ?_; clear hE a; intro a hE
          refine WL.vS hS hE (runs_plain rfl) (Gives.p hE rfl) rfl ?_; clear hE a; intro a hE
          rcases Bool.eq_false_or_eq_true (decide (((x126).length : Int) ≥ x4)) with hg142 | hg142
          · replace hq136 := iteT hg142 hq136
            refine WL.vS hS hE (runs_if hE rfl rfl rfl hg142) (Gives.p hE rfl) rfl ?_; clear hE a; intro a hE
            refine WL.vS hS hE (runs_if hE rfl rfl rfl hg142) (Gives.p hE rfl) rfl ?_; clear hE a; intro a hE
            refine WL.vS hS hE (runs_if hE rfl rfl rfl hg142) (Gives.p hE rfl) rfl ?_; clear hE a; intro a hE
            rcases Bool.eq_false_or_eq_true (decide (q124 < 0)) with hg143 | hg143
            · replace hq136 := iteT hg143 hq136
              refine WL.no hE (runs_not hE rfl rfl rfl (by rw [hg143]; decide)) rfl ?_; clear hE a; intro a hE
              refine WL.no hE (runs_not hE rfl rfl rfl (by rw [hg143]; decide)) rfl ?_; clear hE a; intro a hE
              refine WL.no hE (runs_not hE rfl rfl rfl (by rw [hg143]; decide)) rfl ?_; clear hE a; intro a hE
              refine WL.no hE (runs_not hE rfl rfl rfl (by rw [hg143]; decide)) rfl ?_; clear hE a; intro a hE
              refine WL.no hE (runs_not hE rfl rfl rfl (by rw [hg143]; decide)) rfl ?_; clear hE a; intro a hE
              refine WL.no hE (runs_not hE rfl rfl rfl (by rw [hg143]; decide)) rfl ?_; clear hE a; intro a hE
              refine WL.no hE (runs_not hE rfl rfl rfl (by rw [hg143]; decide)) rfl ?_; clear hE a; intro a hE
              refine WL.no hE (runs_not hE rfl rfl rfl (by rw [hg143]; decide)) rfl ?_; clear hE a; intro a hE
              refine WL.vS hS hE (runs_if hE rfl rfl rfl hg142) (Gives.pickT hE rfl hg143 rfl) rfl ?_; clear hE a; intro a hE
              refine WL.vS hS hE (runs_plain rfl) (Gives.pickT hE rfl hg142 rfl) rfl ?_; clear hE a; intro a hE
              refine WL.nil ?_
              subst hK141
              exact ⟨true, Option.some.inj hq136, hE.pick _ ⟨rfl, rfl, rfl, rfl, rfl, rfl, rfl, rfl, rfl, rfl, rfl, rfl, trivial⟩, hS⟩
            · replace hq136 := iteF hg143 hq136
              refine WL.vS hS hE (runs_if hE rfl rfl rfl hg143) (Gives.p hE rfl) rfl ?_; clear hE a; intro a hE
              refine WL.vS hS hE (runs_if hE rfl rfl rfl hg143) (Gives.len hE rfl sl22) rfl ?_; clear hE a; intro a hE
              refine WL.vS hS hE (runs_if hE rfl rfl rfl hg143) (Gives.p hE rfl) rfl ?_; clear hE a; intro a hE
              refine WL.vS hS hE (runs_if hE rfl rfl rfl hg143) (Gives.p hE rfl) rfl ?_; clear hE a; intro a hE
              obtain ⟨x144, hx145, hq136⟩ := bindS hq136
              obtain ⟨hi146, hlt147, hy148⟩ := gx_some hx145
              obtain ⟨a149, c150, cs151, hd152, hev153⟩ := h76.at hy148
              refine WL.vS hS hE (runs_if hE rfl rfl rfl hg143) (Gives.idx hE ((q124).toNat) rfl rfl sl61 hi146 (by have := hn77; omega) (hS.nAok 0 rfl (by have := hn77; omega : (q124).toNat < x54.length))) rfl ?_; clear hE a; intro a hE
              refine WL.vS hS hE (runs_if hE rfl rfl rfl hg143) (Gives.load1 (v := .slice a149 x144.length c150) hE rfl (fun w h => St.nSees h 0 rfl hd152) ty22) rfl ?_; clear hE a; intro a hE
              refine WL.vS hS hE (runs_if hE rfl rfl rfl hg143) (Gives.len hE rfl sl22) rfl ?_; clear hE a; intro a hE
              refine WL.vS hS hE (runs_if hE rfl rfl rfl hg143) (Gives.p hE rfl) rfl ?_; clear hE a; intro a hE
              refine WL.vS hS hE (runs_if hE rfl rfl rfl hg142) (Gives.pickF hE rfl hg143 rfl) rfl ?_; clear hE a; intro a hE
              refine WL.vS hS hE (runs_plain rfl) (Gives.pickT hE rfl hg142 rfl) rfl ?_; clear hE a; intro a hE
              refine WL.nil ?_
              subst hK141
              exact ⟨decide (((x126).length : Int) < ((x144).length : Int)), Option.some.inj hq136, hE.pick _ ⟨rfl, rfl, rfl, rfl, rfl, rfl, rfl, rfl, rfl, rfl, rfl, rfl, trivial⟩, hS⟩
          · replace hq136 := iteF hg142 hq136
            refine WL.no hE (runs_not hE rfl rfl rfl (by rw [hg142]; decide)) rfl ?_; clear hE a; intro a hE
            refine WL.no hE (runs_not hE rfl rfl rfl (by rw [hg142]; decide)) rfl ?_; clear hE a; intro a hE
            refine WL.no hE (runs_not hE rfl rfl rfl (by rw [hg142]; decide)) rfl ?_; clear hE a; intro a hE
            refine WL.no hE (runs_undef hE rfl rfl rfl) rfl ?_; clear hE a; intro a hE
            refine WL.no hE (runs_undef hE rfl rfl rfl) rfl ?_; clear hE a; intro a hE
            refine WL.no hE (runs_undef hE rfl rfl rfl) rfl ?_; clear hE a; intro a hE
            refine WL.no hE (runs_undef hE rfl rfl rfl) rfl ?_; clear hE a; intro a hE
            refine WL.no hE (runs_undef hE rfl rfl rfl) rfl ?_; clear hE a; intro a hE
            refine WL.no hE (runs_undef hE rfl rfl rfl) rfl ?_; clear hE a; intro a hE
            refine WL.no hE (runs_undef hE rfl rfl rfl) rfl ?_; clear hE a; intro a hE
            refine WL.no hE (runs_undef hE rfl rfl rfl) rfl ?_; clear hE a; intro a hE
            refine WL.no hE (runs_not hE rfl rfl rfl (by rw [hg142]; decide)) rfl ?_; clear hE a; intro a hE
            refine WL.vS hS hE (runs_plain rfl) (Gives.pickF hE rfl hg142 rfl) rfl ?_; clear hE a; intro a hE
            refine WL.nil ?_
            subst hK141
            exact ⟨false, Option.some.inj hq136, hE.pick _ ⟨rfl, rfl, rfl, rfl, rfl, rfl, rfl, rfl, rfl, rfl, rfl, rfl, trivial⟩, hS⟩
        · clear hE hS a w; rintro a w ⟨q140, rfl, hE, hS⟩
          obtain ⟨q155, hq154, hq112⟩ := bndS hq112
          refine W.cut (fun a w => ∃ (q158 : Int), q158 = q155 ∧ Rep a 98 [(1, .slice a1 x1.length c1), (4, .int .i64 x4), (5, .pointer (some ⟨b51, 0, none⟩)), (7, .pointer (some ⟨b52, 0, none⟩)), (8, .pointer (some ⟨b53, 0, none⟩)), (11, .slice (some ⟨b56, 0, none⟩) x54.length x54.length), (14, .int .i64 q158), (50, .slice (some ⟨b56, 0, none⟩) x54.length x54.length), (51, .int .i64 ((x54.length : Nat) : Int)), (52, .int .i64 ((k114 : Nat) : Int))] ∧ St w s (nestC 22 3 1 (some ⟨b56, 0, none⟩) x54.length x54.length ds75 :: pt b53 (.cells #[.int .i64 x3] 3 (0, 0)) :: pt b52 (.cells #[.int .i64 x2] 3 (0, 0)) :: pt b51 (.cells #[.pointer (some ⟨pb0, 0, none⟩)] 23 (0, 0)) :: pt pb0 (.cells #[.int .i64 y0.rows, .int .i64 y0.across, .int .i64 y0.stops, .slice a_v0 y0.bookings.length c_v0, .slice a_v1 y0.cancelled.length c_v1] 48 (0, 0)) :: vecC 39 4 a_v0 c_v0 y0.bookings.length cs_v0 :: vecC 4 1 a_v1 c_v1 y0.cancelled.length cs_v1 :: R)) ?_ ?_
          · refine W.gen fun K159 hK159 => ?_
            refine W.cond hE rfl (fun hc160 => ?_) (fun hc160 => ?_)
            · replace hq154 := iteT hc160 hq154
              refine W.region ?_
              refine WL.vS hS hE (runs_plain rfl) (Gives.p hE rfl) rfl ?_; clear hE a; intro a hE
              refine WL.vS hS hE (runs_plain rfl) (Gives.p hE rfl) rfl ?_; clear hE a; intro a hE
              refine WL.nil ?_
              subst hK159
              exact ⟨((k114 : Nat) : Int), hq154, hE.pick _ ⟨rfl, rfl, rfl, rfl, rfl, rfl, rfl, rfl, rfl, rfl, trivial⟩, hS⟩
            · replace hq154 := iteF hc160 hq154
              refine W.skip ?_
              subst hK159
              exact ⟨q124, hq154, hE.pick _ ⟨rfl, rfl, rfl, rfl, rfl, rfl, rfl, rfl, rfl, rfl, trivial⟩, hS⟩
          · clear hE hS a w; rintro a w ⟨q158, rfl, hE, hS⟩
            refine W.region ?_
            refine WL.vS hS hE (runs_plain rfl) (Gives.inc hE rfl (by omega)) rfl ?_; clear hE a; intro a hE
            refine WL.vS hS hE (runs_plain rfl) (Gives.p hE rfl) rfl ?_; clear hE a; intro a hE
            refine WL.nil ?_
            subst hK125
            exact ⟨rest116, Nat.lt_succ_self _, rest116, k114 + 1, q158, rfl, (by omega), hq112, hE.pick _ ⟨rfl, rfl, rfl, rfl, rfl, rfl, rfl, rfl, rfl, rfl, trivial⟩, hS⟩
    · clear hE hS a w; rintro a w ⟨q124, rfl, hE, hS⟩
      refine W.seq ?_
      refine W.seq ?_
      refine W.region ?_
      refine WL.vS hS hE (runs_plain rfl) (Gives.p hE rfl) rfl ?_; clear hE a; intro a hE
      refine WL.vS hS hE (runs_plain rfl) (Gives.p hE rfl) rfl ?_; clear hE a; intro a hE
      refine WL.nil ?_
      refine W.cond hE rfl (fun hc161 => ?_) (fun hc161 => ?_)
      · replace hr := iteT hc161 hr
        refine W.seq ?_
        refine W.region ?_
        refine WL.vS hS hE (runs_plain rfl) (Gives.p hE rfl) rfl ?_; clear hE a; intro a hE
        refine WL.vS hS hE (runs_plain rfl) (Gives.p hE rfl) rfl ?_; clear hE a; intro a hE
        obtain ⟨x162, hx163, hr⟩ := bindS hr
        obtain ⟨hi164, hlt165, hy166⟩ := gx_some hx163
        obtain ⟨a167, c168, cs169, hd170, hev171⟩ := h76.at hy166
        refine WL.vS hS hE (runs_plain rfl) (Gives.idx hE ((q124).toNat) rfl rfl sl61 hi164 (by have := hn77; omega) (hS.nAok 0 rfl (by have := hn77; omega : (q124).toNat < x54.length))) rfl ?_; clear hE a; intro a hE
        refine WL.vS hS hE (runs_plain rfl) (Gives.load1 (v := .slice a167 x162.length c168) hE rfl (fun w h => St.nSees h 0 rfl hd170) ty22) rfl ?_; clear hE a; intro a hE
        refine WL.vS hS hE (runs_plain rfl) (Gives.p hE rfl) rfl ?_; clear hE a; intro a hE
        replace hS := hS.borrowM 0 rfl hd170
        obtain ⟨x173, hx174, hr⟩ := bindS hr
        obtain ⟨_, h175, h176, h177, h178, _⟩ := cutl_some hx174
        have h179 := (hS.vecCap 0 rfl).1
        have h180 : Ev 1 (RI .i64) s (cs169.take ((x4).toNat * 1)) x173 := by rw [h177]; exact hev171.take _
        have hn181 : x173.length = (x4).toNat := by rw [h177]; simp; omega
        replace hS := hS.vecTake 0 rfl (by omega)
        refine WL.vS hS hE (runs_plain rfl) (Gives.slH hE sl22 rfl rfl h175 (Int.le_trans h176 (by omega)) (sliced_zero _ _ _ _)) rfl ?_; clear hE a; intro a hE
        obtain ⟨q182, hq183, hr⟩ := bindS hr
        have hF := hS.lendV RI.mono 0 rfl h180 hn181; clear hS; obtain ⟨t190, hle191, hS, hs192, bk193⟩ := hF
        have hc_ := (by have hc_ := SlicesCloneLint_ok hS hs192 hq183; rw [hn181] at hc_; exact hc_)
        refine WL.fnq hE (hc_) (runs_plain rfl) bd24 rfl rfl rfl ?_
        clear hE hS hc_; rintro e w ⟨a184, c185, n186, cs187, rfl, h188, rfl, hS⟩; refine ⟨_, rfl, ?_⟩; clear a; intro a hE
        replace hS := bk193 _ _ hS
        replace h188 := Ev.flat (s2 := s) (fun _ _ _ _ h => h) h188
        refine WL.vS hS hE (runs_plain rfl) (Gives.p hE rfl) rfl ?_; clear hE a; intro a hE
        refine WL.nil ?_
        refine W.ret ?_
        refine finG (fn := Try.f23) (rs := [.tmp 10]) (vs := [_]) hE rfl ⟨rfl, trivial⟩ ?_
        obtain rfl := Option.some.inj hr
        replace hS := hS.tail
        replace hS := hS.dropAt 1
        replace hS := hS.dropAt 1
        replace hS := hS.dropAt 1
        replace hS := hS.dropAt 1
        exact ⟨a184, c185, q182.length, cs187, rfl, h188, rfl, hS⟩
      · replace hr := iteF hc161 hr
        refine W.skip ?_
        refine W.seq ?_
        refine W.region ?_
        refine WL.vS hS hE (runs_plain rfl) (Gives.p hE rfl) rfl ?_; clear hE a; intro a hE
        obtain ⟨q194, hq195, hr⟩ := bindS hr
        have hc_ := SlicesCloneLint_ok hS h1 hq195
        refine WL.fnq hE (hc_) (runs_plain rfl) bd24 rfl rfl rfl ?_
        clear hE hS hc_; rintro e w ⟨a196, c197, n198, cs199, rfl, h200, rfl, hS⟩; refine ⟨_, rfl, ?_⟩; clear a; intro a hE
        refine WL.vS hS hE (runs_plain rfl) (Gives.p hE rfl) rfl ?_; clear hE a; intro a hE
        refine WL.nil ?_
        refine W.seq ?_
        refine W.region ?_
        refine WL.vS hS hE (runs_plain rfl) (Gives.p hE rfl) rfl ?_; clear hE a; intro a hE
        refine WL.vS hS hE (runs_plain rfl) (Gives.mkfn hE (vs := [.pointer (some ⟨b51, 0, none⟩), .pointer (some ⟨b52, 0, none⟩), .pointer (some ⟨b53, 0, none⟩)]) rfl) rfl ?_; clear hE a; intro a hE
        obtain ⟨q202, hq203, hr⟩ := bindS hr
        replace hS := hS.front 7 rfl
        replace hS := hS.front 7 rfl
        replace hS := hS.front 2 rfl
        replace hS := hS.front 7 rfl
        replace hS := hS.front 5 rfl
        replace hS := hS.front 6 rfl
        replace hS := hS.front 7 rfl
        have hc_ := SlicesSortStableFuncLint_v1_ok (y3 := y0) hS h200 rfl h_v0 (rfl) h_v1 (rfl) hq203
        refine WL.fnq hE (hc_) (runs_plain rfl) bd32 rfl rfl rfl ?_
        clear hE hS hc_; rintro e w ⟨cs204, rfl, h205, hn206, hS⟩; refine ⟨_, rfl, ?_⟩; clear a; intro a hE
        refine WL.nil ?_
        refine W.seq ?_
        refine W.region ?_
        refine WL.vS hS hE (runs_plain rfl) (Gives.p hE rfl) rfl ?_; clear hE a; intro a hE
        refine WL.vS hS hE (runs_plain rfl) (Gives.p hE rfl) rfl ?_; clear hE a; intro a hE
        refine WL.vS hS hE (runs_plain rfl) (Gives.p hE rfl) rfl ?_; clear hE a; intro a hE
        obtain ⟨x207, hx208, hr⟩ := bindS hr
        obtain ⟨_, h209, h210, h211, h212, _⟩ := cutl_some hx208
        have h213 := (hS.vecCap 4 rfl).1
        have h214 : Ev 1 (RI .i64) s (cs204.take ((x4).toNat * 1)) x207 := by rw [h211]; exact h205.take _
        have hn215 : x207.length = (x4).toNat := by rw [h211]; simp; omega
        replace hS := hS.vecTakeM 4 rfl (m := (x4).toNat) (by have := hn206; omega)
        refine WL.vS hS hE (runs_plain rfl) (Gives.slHM hE sl22 rfl rfl rfl h209 (Int.le_refl _) (Int.le_trans h210 (by have := hn206; omega)) (sliced_zero _ _ _ _)) rfl ?_; clear hE a; intro a hE
        refine WL.vS hS hE (runs_plain rfl) (Gives.p hE rfl) rfl ?_; clear hE a; intro a hE
        refine WL.nil ?_
        refine W.seq ?_
        refine W.region ?_
        refine WL.vS hS hE (runs_plain rfl) (Gives.p hE rfl) rfl ?_; clear hE a; intro a hE
        replace hS := hS.front 4 rfl
        obtain ⟨q219, hq220, hr⟩ := bindS hr
        refine WL.fnq hE (itSort_ok hS h214 hn215 hq220) (runs_plain rfl) bd36 rfl rfl rfl ?_
        clear hE hS; rintro e w ⟨cs217, rfl, h218, hn221, hS⟩; refine ⟨_, rfl, ?_⟩; clear a; intro a hE
        refine WL.nil ?_
        refine W.seq ?_
        refine W.region ?_
        refine WL.vS hS hE (runs_plain rfl) (Gives.p hE rfl) rfl ?_; clear hE a; intro a hE
        refine WL.vS hS hE (runs_plain rfl) (Gives.p hE rfl) rfl ?_; clear hE a; intro a hE
        refine WL.nil ?_
        refine W.ret ?_
        refine finG (fn := Try.f23) (rs := [.tmp 10]) (vs := [_]) hE rfl ⟨rfl, trivial⟩ ?_
        obtain rfl := Option.some.inj hr
        replace hS := hS.dropAt 1
        replace hS := hS.dropAt 1
        replace hS := hS.dropAt 1
        replace hS := hS.dropAt 4
        exact ⟨a196, (x4).toNat, (x4).toNat, cs217, rfl, h218, hn221, hS⟩
set_option maxHeartbeats 8000000 in
theorem FareCarBook_v1_ok {fu : Nat}  {w : World} {s : Sg} {R : List HP} {pb0 : Nat} {x1 : Int} {x2 : Int} {x3 : Int} {y0 : FareCar} {a_v0 : Option Addr} {c_v0 n_v0 : Nat} {cs_v0 : List Value} {a_v1 : Option Addr} {c_v1 n_v1 : Nat} {cs_v1 : List Value} (hS : St w s (pt pb0 (.cells #[.int .i64 y0.rows, .int .i64 y0.across, .int .i64 y0.stops, .slice a_v0 n_v0 c_v0, .slice a_v1 n_v1 c_v1] 48 (0, 0)) :: vecC 39 4 a_v0 c_v0 n_v0 cs_v0 :: vecC 4 1 a_v1 c_v1 n_v1 cs_v1 :: R)) (h_v0 : Ev 4 RFareBooking s cs_v0 y0.bookings) (hn_v0 : y0.bookings.length = n_v0) (h_v1 : Ev 1 RB s cs_v1 y0.cancelled) (hn_v1 : y0.cancelled.length = n_v1) {r : FareBooking × Int × (List FareBooking) × (List Bool)} (hr : FareCarBook_v1 fu x1 x2 x3 y0 = some r) :
    Calls Try.prog 12 [.pointer (some ⟨pb0, 0, none⟩), .int .i64 x1, .int .i64 x2, .int .i64 x3].toArray w (fun e w => ∃ (cs0 : List Value) (a66 : Option Addr) (c67 : Nat) (n69 : Nat) (cs70 : List Value) (a73 : Option Addr) (c74 : Nat) (n76 : Nat) (cs77 : List Value) (t : Sg), e = .returned (.tuple #[.agg cs0.toArray, .int .i64 r.2.1]) ∧ s.Le t ∧ RFareBooking t cs0 r.1 ∧ Ev 4 RFareBooking t cs70 r.2.2.1 ∧ r.2.2.1.length = n69 ∧ Ev 1 RB t cs77 r.2.2.2 ∧ r.2.2.2.length = n76 ∧ St w t (pt pb0 (.cells #[.int .i64 y0.rows, .int .i64 y0.across, .int .i64 y0.stops, .slice a66 n69 c67, .slice a73 n76 c74] 48 (0, 0)) :: vecC 39 4 a66 c67 n69 cs70 :: vecC 4 1 a73 c74 n76 cs77 :: R)) := by
  refine enter Try.func12 rfl rfl rfl fun a hE => ?_
  rw [FareCarBook_v1] at hr
  subst hn_v0
  subst hn_v1
  refine W.seq ?_
  refine W.region ?_
  refine WL.alloc hE hS (runs_plain rfl) zr39 rfl ?_; clear hE hS a w; intro b79 a w hE hS
  refine WL.vS hS hE (runs_plain rfl) (Gives.p hE rfl) rfl ?_; clear hE a; intro a hE
  refine WL.nil ?_
  refine W.seq ?_
  refine W.seq ?_
  obtain ⟨q81, hq80, hr⟩ := bndS hr
  refine W.cut (fun a w => ∃ (q84 : Bool), q84 = q81 ∧ Rep a 73 [(0, .pointer (some ⟨pb0, 0, none⟩)), (1, .int .i64 x1), (2, .int .i64 x2), (3, .int .i64 x3), (8, .pointer (some ⟨b79, 0, none⟩)), (24, .bool q84)] ∧ St w s (pt b79 (.cells #[.int .i64 0, .int .i64 0, .int .i64 0, .slice none 0 0] 39 (0, 0)) :: pt pb0 (.cells #[.int .i64 y0.rows, .int .i64 y0.across, .int .i64 y0.stops, .slice a_v0 y0.bookings.length c_v0, .slice a_v1 y0.cancelled.length c_v1] 48 (0, 0)) :: vecC 39 4 a_v0 c_v0 y0.bookings.length cs_v0 :: vecC 4 1 a_v1 c_v1 y0.cancelled.length cs_v1 :: R)) ?_ ?_
  · refine W.gen fun K85 hK85 => ?_
    refine W.region ?_
    refine WL.vS hS hE (runs_plain rfl) (Gives.p hE rfl) rfl ?_; clear hE a; intro a hE
    refine WL.vS hS hE (runs_plain rfl) (Gives.p hE rfl) rfl ?_; clear hE a; intro a hE
    refine WL.vS hS hE (runs_plain rfl) (Gives.p hE rfl) rfl ?_; clear hE a; intro a hE
    refine WL.vS hS hE (runs_plain rfl) (Gives.nilOk hE rfl) rfl ?_; clear hE a; intro a hE
    refine WL.vS hS hE (runs_plain rfl) (Gives.fld hE rfl fl48_2) rfl ?_; clear hE a; intro a hE
    refine WL.vS hS hE (runs_plain rfl) (Gives.loadB hE 1 rfl rfl rfl ty3) rfl ?_; clear hE a; intro a hE
    refine WL.fnq hE (Farespan_ok hS  rfl (r := Farespan x1 x2 y0.stops)) (runs_plain rfl) bd20 rfl rfl rfl ?_
    clear hE hS; rintro e w ⟨rfl, hS⟩; refine ⟨_, rfl, ?_⟩; clear a; intro a hE
    refine WL.vS hS hE (runs_plain rfl) (Gives.p hE rfl) rfl ?_; clear hE a; intro a hE
    refine WL.vS hS hE (runs_plain rfl) (Gives.p hE rfl) rfl ?_; clear hE a; intro a hE
    rcases Bool.eq_false_or_eq_true (!(Farespan x1 x2 y0.stops)) with hg86 | hg86
    · replace hq80 := iteT hg86 hq80
      refine WL.no hE (runs_not hE rfl rfl rfl (by rw [hg86]; decide)) rfl ?_; clear hE a; intro a hE
      refine WL.no hE (runs_not hE rfl rfl rfl (by rw [hg86]; decide)) rfl ?_; clear hE a; intro a hE
      refine WL.no hE (runs_not hE rfl rfl rfl (by rw [hg86]; decide)) rfl ?_; clear hE a; intro a hE
      refine WL.vS hS hE (runs_plain rfl) (Gives.pickT hE rfl hg86 rfl) rfl ?_; clear hE a; intro a hE
      refine WL.nil ?_
      subst hK85
      exact ⟨true, hq80, hE.pick _ ⟨rfl, rfl, rfl, rfl, rfl, rfl, trivial⟩, hS⟩
    · replace hq80 := iteF hg86 hq80
      refine WL.vS hS hE (runs_if hE rfl rfl rfl hg86) (Gives.p hE rfl) rfl ?_; clear hE a; intro a hE
      refine WL.fnq hE (Farewithin_ok hS  rfl (r := Farewithin x3 1 8)) (runs_if hE rfl rfl rfl hg86) bd18 rfl rfl rfl ?_
      clear hE hS; rintro e w ⟨rfl, hS⟩; refine ⟨_, rfl, ?_⟩; clear a; intro a hE
      refine WL.vS hS hE (runs_if hE rfl rfl rfl hg86) (Gives.p hE rfl) rfl ?_; clear hE a; intro a hE
      refine WL.vS hS hE (runs_plain rfl) (Gives.pickF hE rfl hg86 rfl) rfl ?_; clear hE a; intro a hE
      refine WL.nil ?_
      subst hK85
      exact ⟨!(Farewithin x3 1 8), hq80, hE.pick _ ⟨rfl, rfl, rfl, rfl, rfl, rfl, trivial⟩, hS⟩
  · clear hE hS a w; rintro a w ⟨q84, rfl, hE, hS⟩
    refine W.cond hE rfl (fun hc87 => ?_) (fun hc87 => ?_)
    · replace hr := iteT hc87 hr
      refine W.seq ?_
      refine W.region ?_
      refine WL.vS hS hE (runs_plain rfl) (Gives.build hE (vs := []) [.int .i64 0, .int .i64 0, .int .i64 0, .slice none 0 0] rfl (by kernel_rfl)) rfl ?_; clear hE a; intro a hE
      refine WL.storeI hE hS 0 rfl [.int .i64 0, .int .i64 0, .int .i64 0, .slice none 0 0] (runs_plain rfl) rfl rfl rfl ty39 rfl rfl rfl rfl ?_; clear hE hS a w; intro a w hE hS
      refine WL.vS hS hE (runs_plain rfl) (Gives.p hE rfl) rfl ?_; clear hE a; intro a hE
      refine WL.nil ?_
      refine W.ret ?_
      refine finG (fn := Try.f12) (rs := [.cell 8 39, .tmp 9]) (vs := [_, _]) hE rfl ⟨⟨_, rfl, .inl ⟨_, rfl, hS.seesAt 0 rfl, ty39⟩⟩, rfl, trivial⟩ ?_
      obtain rfl := Option.some.inj hr
      replace hS := hS.tail
      exact ⟨_, a_v0, c_v0, y0.bookings.length, cs_v0, a_v1, c_v1, y0.cancelled.length, cs_v1, s, rfl, (Sg.Le.refl _), ⟨_, _, rfl, Sl.nil⟩, h_v0, (rfl), h_v1, (rfl), hS⟩
    · replace hr := iteF hc87 hr
      refine W.skip ?_
      refine W.seq ?_
      refine W.region ?_
      refine WL.vS hS hE (runs_plain rfl) (Gives.p hE rfl) rfl ?_; clear hE a; intro a hE
      refine WL.vS hS hE (runs_plain rfl) (Gives.p hE rfl) rfl ?_; clear hE a; intro a hE
      refine WL.vS hS hE (runs_plain rfl) (Gives.p hE rfl) rfl ?_; clear hE a; intro a hE
      obtain ⟨q88, hq89, hr⟩ := bindS hr
      replace hS := hS.front 3 rfl
      replace hS := hS.front 3 rfl
      replace hS := hS.front 3 rfl
      have hc_ := FareCarfree_v1_ok (y0 := y0) hS h_v0 (rfl) h_v1 (rfl) hq89
      refine WL.fnq hE (hc_) (runs_plain rfl) bd21 rfl rfl rfl ?_
      clear hE hS hc_; rintro e w ⟨a90, c91, n92, cs93, rfl, h94, rfl, hS⟩; refine ⟨_, rfl, ?_⟩; clear a; intro a hE
      refine WL.vS hS hE (runs_plain rfl) (Gives.p hE rfl) rfl ?_; clear hE a; intro a hE
      refine WL.nil ?_
      refine W.seq ?_
      refine W.seq ?_
      refine W.region ?_
      refine WL.vS hS hE (runs_plain rfl) (Gives.p hE rfl) rfl ?_; clear hE a; intro a hE
      refine WL.vS hS hE (runs_plain rfl) (Gives.len hE rfl sl22) rfl ?_; clear hE a; intro a hE
      refine WL.vS hS hE (runs_plain rfl) (Gives.p hE rfl) rfl ?_; clear hE a; intro a hE
      refine WL.vS hS hE (runs_plain rfl) (Gives.p hE rfl) rfl ?_; clear hE a; intro a hE
      refine WL.nil ?_
      refine W.cond hE rfl (fun hc96 => ?_) (fun hc96 => ?_)
      · replace hr := iteT hc96 hr
        refine W.seq ?_
        refine W.region ?_
        refine WL.vS hS hE (runs_plain rfl) (Gives.build hE (vs := []) [.int .i64 0, .int .i64 0, .int .i64 0, .slice none 0 0] rfl (by kernel_rfl)) rfl ?_; clear hE a; intro a hE
        refine WL.storeI hE hS 4 rfl [.int .i64 0, .int .i64 0, .int .i64 0, .slice none 0 0] (runs_plain rfl) rfl rfl rfl ty39 rfl rfl rfl rfl ?_; clear hE hS a w; intro a w hE hS
        refine WL.vS hS hE (runs_plain rfl) (Gives.p hE rfl) rfl ?_; clear hE a; intro a hE
        refine WL.nil ?_
        refine W.ret ?_
        refine finG (fn := Try.f12) (rs := [.cell 8 39, .tmp 9]) (vs := [_, _]) hE rfl ⟨⟨_, rfl, .inl ⟨_, rfl, hS.seesAt 4 rfl, ty39⟩⟩, rfl, trivial⟩ ?_
        obtain rfl := Option.some.inj hr
        replace hS := hS.tail
        replace hS := hS.dropAt 3
        exact ⟨_, a_v0, c_v0, y0.bookings.length, cs_v0, a_v1, c_v1, y0.cancelled.length, cs_v1, s, rfl, (Sg.Le.refl _), ⟨_, _, rfl, Sl.nil⟩, h_v0, (rfl), h_v1, (rfl), hS⟩
      · replace hr := iteF hc96 hr
        refine W.skip ?_
        refine W.seq ?_
        refine W.gen fun K97 hK97 => ?_
        refine rE hS [] [] [0, 1, 2, 3, 4, 5, 6, 7, 8, 9, 10, 11, 12, 13, 14, 15] [0, 1, 2, 3, 4, 5, 6, 7, 8, 9, 10, 11, 12, 13, 14, 15] mixed ?_
        replace hS := hS.drew
        refine Rg.takeP (i := 0) hE rfl (by kernel_rfl) (runs_plain rfl) (Gives.p hE rfl) rfl (tw_sel (fun _ => hS) (fun _ => hS)) ?_; clear hE a; intro a hE
        refine Rg.take (i := 1) true rfl hE rfl (by kernel_rfl) (runs_plain rfl) (Gives.nilOk hE rfl) rfl (tw_sel (fun _ => hS) (fun _ => hS)) ?_; clear hE a; intro a hE
        refine Rg.takeP (i := 2) hE rfl (by kernel_rfl) (runs_plain rfl) (Gives.fld hE rfl fl48_3) rfl (tw_sel (fun _ => hS) (fun _ => hS)) ?_; clear hE a; intro a hE
        refine Rg.take (i := 3) true rfl hE rfl (by kernel_rfl) (runs_plain rfl) (Gives.loadB hE 1 rfl rfl rfl ty30) rfl (tw_sel (fun _ => hS) (fun _ => hS)) ?_; clear hE a; intro a hE
        refine Rg.takeP (i := 4) hE rfl (by kernel_rfl) (runs_plain rfl) (Gives.len hE rfl sl30) rfl (tw_sel (fun _ => hS) (fun _ => hS)) ?_; clear hE a; intro a hE
        refine Rg.takeP (i := 5) hE rfl (by kernel_rfl) (runs_plain rfl) (Gives.p hE rfl) rfl (tw_sel (fun _ => hS) (fun _ => hS)) ?_; clear hE a; intro a hE
        refine Rg.takeP (i := 6) hE rfl (by kernel_rfl) (runs_plain rfl) (Gives.p hE rfl) rfl (tw_sel (fun _ => hS) (fun _ => hS)) ?_; clear hE a; intro a hE
        refine Rg.takeP (i := 7) hE rfl (by kernel_rfl) (runs_plain rfl) (Gives.p hE rfl) rfl (tw_sel (fun _ => hS) (fun _ => hS)) ?_; clear hE a; intro a hE
        refine Rg.takeP (i := 8) hE rfl (by kernel_rfl) (runs_plain rfl) (Gives.p hE rfl) rfl (tw_sel (fun _ => hS) (fun _ => hS)) ?_; clear hE a; intro a hE
        refine Rg.takeP (i := 9) hE rfl (by kernel_rfl) (runs_plain rfl) (Gives.p hE rfl) rfl (tw_sel (fun _ => hS) (fun _ => hS)) ?_; clear hE a; intro a hE
        refine Rg.takeP (i := 10) hE rfl (by kernel_rfl) (runs_plain rfl) (Gives.p hE rfl) rfl (tw_sel (fun _ => hS) (fun _ => hS)) ?_; clear hE a; intro a hE
        refine Rg.takeP (i := 11) hE rfl (by kernel_rfl) (runs_plain rfl) (Gives.p hE rfl) rfl (tw_sel (fun _ => hS) (fun _ => hS)) ?_; clear hE a; intro a hE
        obtain ⟨q98, hq99, hr⟩ := bindS hr
        suffices key : ∀ cs103 b110 a100 c101 (a : Act) (w : World), Ev 1 (RI .i64) s cs93 q88 → Ev 1 (RI .i64) s cs103 q98 → Ev 4 RFareBooking s cs_v0 y0.bookings → Ev 1 RB s cs_v1 y0.cancelled → Rep a 73 [(0, .pointer (some ⟨pb0, 0, none⟩)), (8, .pointer (some ⟨b79, 0, none⟩)), (11, .pointer (some ⟨b110, 0, none⟩))] → St w s (pt b110 (.cells #[.int .i64 ((y0.bookings.length : Nat) : Int), .int .i64 x1, .int .i64 x2, .slice a100 q98.length c101] 39 (0, 0)) :: vecC 3 1 a90 c91 q88.length cs93 :: vecC 3 1 a100 c101 q98.length cs103 :: pt pb0 (.cells #[.int .i64 y0.rows, .int .i64 y0.across, .int .i64 y0.stops, .slice a_v0 y0.bookings.length c_v0, .slice a_v1 y0.cancelled.length c_v1] 48 (0, 0)) :: vecC 39 4 a_v0 c_v0 y0.bookings.length cs_v0 :: vecC 4 1 a_v1 c_v1 y0.cancelled.length cs_v1 :: pt b79 (.cells #[.int .i64 0, .int .i64 0, .int .i64 0, .slice none 0 0] 39 (0, 0)) :: R) → K97.nor a w by
          refine Rg.many 12 [14] (by kernel_rfl) ⟨?_, ?_, trivial⟩
          · refine Br.mk (i := 12) true true rfl (by kernel_rfl) (by kernel_rfl) ?_
            have hF := hS.lendV RI.mono 0 rfl h94 rfl; clear hS; obtain ⟨t106, hle107, hS, hs108, bk109⟩ := hF
            have hc_ := FareCarchoose_v1_ok (y0 := y0) hS hs108 (Ev.mono RFareBooking.mono hle107 h_v0) (rfl) (Ev.mono RB.mono hle107 h_v1) (rfl) hq99
            refine WL.fnq hE (hc_) (runs_plain rfl) bd23 rfl rfl rfl ?_
            clear hE hS hc_; rintro e w ⟨a100, c101, n102, cs103, rfl, h104, rfl, hS⟩; refine ⟨_, rfl, ?_⟩; clear a; intro a hE
            replace hS := bk109 _ _ hS
            replace h104 := Ev.flat (s2 := s) (fun _ _ _ _ h => h) h104
            refine WL.nil ?_
            refine ⟨⟨fun _ => (hS.dropAt 1), fun _ => (hS.dropAt 1)⟩, ?_⟩
            refine Rg.takeP (i := 13) hE rfl (by kernel_rfl) (runs_plain rfl) (Gives.build hE (vs := [(0, .int .i64 ((y0.bookings.length : Nat) : Int)), (1, .int .i64 x1), (2, .int .i64 x2), (3, .slice a100 q98.length c101)]) [.int .i64 ((y0.bookings.length : Nat) : Int), .int .i64 x1, .int .i64 x2, .slice a100 q98.length c101] rfl (by kernel_rfl)) rfl (tw_sel (fun _ => (hS.dropAt 1)) (fun _ => (hS.dropAt 1))) ?_; clear hE a; intro a hE
            refine Rg.one (i := 14) true true rfl (by kernel_rfl) (by kernel_rfl) (by kernel_rfl) ?_
            refine WL.alloc hE hS (runs_plain rfl) zr39 rfl ?_; clear hE hS a w; intro b110 a w hE hS
            refine WL.nil ?_
            refine ⟨⟨fun _ => ((hS.tail).dropAt 1), fun _ => ((hS.tail).dropAt 1)⟩, ?_⟩
            refine Rg.one (i := 15) true true rfl (by kernel_rfl) (by kernel_rfl) (by kernel_rfl) ?_
            refine WL.storeI hE hS 0 rfl [.int .i64 ((y0.bookings.length : Nat) : Int), .int .i64 x1, .int .i64 x2, .slice a100 q98.length c101] (runs_plain rfl) rfl rfl rfl ty39 rfl rfl rfl rfl ?_; clear hE hS a w; intro a w hE hS
            refine WL.nil ?_
            refine ⟨⟨fun _ => ((hS.tail).dropAt 1), fun _ => ((hS.tail).dropAt 1)⟩, ?_⟩
            refine Rg.done (by kernel_rfl) ?_
            exact key _ _ _ _ _ _ h94 h104 h_v0 h_v1 (hE.pick _ ⟨rfl, rfl, rfl, trivial⟩) hS
          · refine Br.mk (i := 14) true true rfl (by kernel_rfl) (by kernel_rfl) ?_
            refine WL.alloc hE hS (runs_plain rfl) zr39 rfl ?_; clear hE hS a w; intro b110 a w hE hS
            refine WL.nil ?_
            refine ⟨⟨fun _ => (hS.tail), fun _ => (hS.tail)⟩, ?_⟩
            refine Rg.one (i := 12) true true rfl (by kernel_rfl) (by kernel_rfl) (by kernel_rfl) ?_
            have hF := hS.lendV RI.mono 1 rfl h94 rfl; clear hS; obtain ⟨t106, hle107, hS, hs108, bk109⟩ := hF
            replace hS := hS.front 3 rfl
            replace hS := hS.front 3 rfl
            replace hS := hS.front 3 rfl
            have hc_ := FareCarchoose_v1_ok (y0 := y0) hS hs108 (Ev.mono RFareBooking.mono hle107 h_v0) (rfl) (Ev.mono RB.mono hle107 h_v1) (rfl) hq99
            refine WL.fnq hE (hc_) (runs_plain rfl) bd23 rfl rfl rfl ?_
            clear hE hS hc_; rintro e w ⟨a100, c101, n102, cs103, rfl, h104, rfl, hS⟩; refine ⟨_, rfl, ?_⟩; clear a; intro a hE
            replace hS := bk109 _ _ hS
            replace h104 := Ev.flat (s2 := s) (fun _ _ _ _ h => h) h104
            refine WL.nil ?_
            refine ⟨⟨fun _ => ((hS.dropAt 1).dropAt 4), fun _ => ((hS.dropAt 1).dropAt 4)⟩, ?_⟩
            refine Rg.takeP (i := 13) hE rfl (by kernel_rfl) (runs_plain rfl) (Gives.build hE (vs := [(0, .int .i64 ((y0.bookings.length : Nat) : Int)), (1, .int .i64 x1), (2, .int .i64 x2), (3, .slice a100 q98.length c101)]) [.int .i64 ((y0.bookings.length : Nat) : Int), .int .i64 x1, .int .i64 x2, .slice a100 q98.length c101] rfl (by kernel_rfl)) rfl (tw_sel (fun _ => ((hS.dropAt 1).dropAt 4)) (fun _ => ((hS.dropAt 1).dropAt 4))) ?_; clear hE a; intro a hE
            refine Rg.one (i := 15) true true rfl (by kernel_rfl) (by kernel_rfl) (by kernel_rfl) ?_
            refine WL.storeI hE hS 5 rfl [.int .i64 ((y0.bookings.length : Nat) : Int), .int .i64 x1, .int .i64 x2, .slice a100 q98.length c101] (runs_plain rfl) rfl rfl rfl ty39 rfl rfl rfl rfl ?_; clear hE hS a w; intro a w hE hS
            refine WL.nil ?_
            refine ⟨⟨fun _ => ((hS.dropAt 1).dropAt 4), fun _ => ((hS.dropAt 1).dropAt 4)⟩, ?_⟩
            refine Rg.done (by kernel_rfl) ?_
            replace hS := hS.front 6 rfl
            replace hS := hS.front 5 rfl
            replace hS := hS.front 5 rfl
            replace hS := hS.front 5 rfl
            replace hS := hS.front 5 rfl
            replace hS := hS.front 5 rfl
            replace hS := hS.front 6 rfl
            exact key _ _ _ _ _ _ h94 h104 h_v0 h_v1 (hE.pick _ ⟨rfl, rfl, rfl, trivial⟩) hS
        clear hE hS a w; intro cs103 b110 a100 c101 a w h94 h104 h_v0 h_v1 hE hS
        subst hK97
        refine W.seq ?_
        have hF := hS.fixD RI.mono 2 rfl h104 rfl; clear hS; obtain ⟨s112, hle113, hS, h114⟩ := hF
        replace h94 := Ev.mono RI.mono hle113 h94
        replace h_v0 := Ev.mono RFareBooking.mono hle113 h_v0
        replace h_v1 := Ev.mono RB.mono hle113 h_v1
        refine W.gen fun K115 hK115 => ?_
        refine rE hS [] [3, 3] [0, 1, 2, 3, 4, 5, 6, 7, 9, 10, 11, 12, 13, 15, 16, 18, 19] [0, 1, 2, 3, 4, 5, 6, 7, 8, 9, 10, 11, 12, 13, 14, 15, 16, 18, 19] mixed ?_
        replace hS := hS.drew
        refine Rg.takeP (i := 0) hE rfl (by kernel_rfl) (runs_plain rfl) (Gives.p hE rfl) rfl (tw_sel (fun _ => hS) (fun _ => ((hS.dropAt 3).dropAt 3))) ?_; clear hE a; intro a hE
        refine Rg.takeP (i := 1) hE rfl (by kernel_rfl) (runs_plain rfl) (Gives.p hE rfl) rfl (tw_sel (fun _ => hS) (fun _ => ((hS.dropAt 3).dropAt 3))) ?_; clear hE a; intro a hE
        refine Rg.takeP (i := 2) hE rfl (by kernel_rfl) (runs_plain rfl) (Gives.p hE rfl) rfl (tw_sel (fun _ => hS) (fun _ => ((hS.dropAt 3).dropAt 3))) ?_; clear hE a; intro a hE
        refine Rg.take (i := 3) false rfl hE rfl (by kernel_rfl) (runs_plain rfl) (Gives.nilOk hE rfl) rfl (tw_sel (fun _ => hS) (fun _ => ((hS.dropAt 3).dropAt 3))) ?_; clear hE a; intro a hE
        refine Rg.takeP (i := 4) hE rfl (by kernel_rfl) (runs_plain rfl) (Gives.fld hE rfl fl48_3) rfl (tw_sel (fun _ => hS) (fun _ => ((hS.dropAt 3).dropAt 3))) ?_; clear hE a; intro a hE
        refine Rg.take (i := 5) false rfl hE rfl (by kernel_rfl) (runs_plain rfl) (Gives.loadB hE 2 rfl rfl rfl ty30) rfl (tw_sel (fun _ => hS) (fun _ => ((hS.dropAt 3).dropAt 3))) ?_; clear hE a; intro a hE
        refine Rg.take (i := 6) false rfl hE rfl (by kernel_rfl) (runs_plain rfl) (Gives.loadBA hE 0 rfl rfl ty39) rfl (tw_sel (fun _ => hS) (fun _ => ((hS.dropAt 3).dropAt 3))) ?_; clear hE a; intro a hE
        refine Rg.takeP (i := 9) hE rfl (by kernel_rfl) (runs_plain rfl) (Gives.p hE rfl) rfl (tw_sel (fun _ => hS) (fun _ => ((hS.dropAt 3).dropAt 3))) ?_; clear hE a; intro a hE
        obtain ⟨x117, hx118, hr⟩ := bindS hr
        obtain ⟨x124, hx125, hr⟩ := bindS hr
        suffices key : ∀ cs121 cs128 a119 c120 a126 c127 (a : Act) (w : World), Sl 1 (RI .i64) s112 a100 c101 q98 → Ev 1 (RI .i64) s112 cs93 q88 → Ev 4 RFareBooking s112 cs121 x117 → Ev 1 RB s112 cs128 x124 → Rep a 73 [(8, .pointer (some ⟨b79, 0, none⟩)), (11, .pointer (some ⟨b110, 0, none⟩))] → St w s112 (pt b110 (.cells #[.int .i64 ((y0.bookings.length : Nat) : Int), .int .i64 x1, .int .i64 x2, .slice a100 q98.length c101] 39 (0, 0)) :: vecC 3 1 a90 c91 q88.length cs93 :: pt pb0 (.cells #[.int .i64 y0.rows, .int .i64 y0.across, .int .i64 y0.stops, .slice a119 x117.length c120, .slice a126 x124.length c127] 48 (0, 0)) :: vecC 39 4 a119 c120 x117.length cs121 :: vecC 4 1 a126 c127 x124.length cs128 :: pt b79 (.cells #[.int .i64 0, .int .i64 0, .int .i64 0, .slice none 0 0] 39 (0, 0)) :: R) → K115.nor a w by
          refine Rg.many 7 [10, 13] (by kernel_rfl) ⟨?_, ?_, ?_, trivial⟩
          · refine Br.mk (i := 7) true true rfl (by kernel_rfl) (by kernel_rfl) ?_
            refine WL.lit hE hS (e := 39) (es := 4) (vs := [(0, .agg (List.toArray [.int .i64 ((y0.bookings.length : Nat) : Int), .int .i64 x1, .int .i64 x2, .slice a100 q98.length c101]))]) (cs := [.int .i64 ((y0.bookings.length : Nat) : Int), .int .i64 x1, .int .i64 x2, .slice a100 q98.length c101]) (runs_plain rfl) rfl (by kernel_rfl) rfl ?_; clear hE hS a w; intro b116 a w hE hS
            refine WL.nil ?_
            refine ⟨⟨fun _ => (hS.tail), fun _ => (((hS.tail).dropAt 3).dropAt 3)⟩, ?_⟩
            refine Rg.many 8 [10, 13] (by kernel_rfl) ⟨?_, ?_, ?_, trivial⟩
            · refine Br.mk (i := 8) false true rfl (by kernel_rfl) (by kernel_rfl) ?_
              refine WL.appDX (kk := 48) hE hS 3 (m := 1) (runs_plain rfl) rfl rfl rfl aw30 rfl h_v0 (rfl) (xs := [(FareBooking.mk ((y0.bookings.length : Nat) : Int) x1 x2 q98)]) (Ev.cons (c1 := [.int .i64 ((y0.bookings.length : Nat) : Int), .int .i64 x1, .int .i64 x2, .slice a100 q98.length c101]) ⟨_, _, rfl, h114⟩ rfl (Ev.nil)) rfl rfl hx118 rfl ?_; clear hE hS a w; intro a119 c120 cs121 a w h122 hE hS
              refine WL.nil ?_
              refine ⟨⟨fun h => absurd h (by decide), fun _ => ((hS.dropAt 3).dropAt 3)⟩, ?_⟩
              refine Rg.many 10 [13] (by kernel_rfl) ⟨?_, ?_, trivial⟩
              · refine Br.mk (i := 10) false true rfl (by kernel_rfl) (by kernel_rfl) ?_
                refine WL.vS hS hE (runs_plain rfl) (Gives.nilOk hE rfl) rfl ?_; clear hE a; intro a hE
                refine WL.nil ?_
                refine ⟨⟨fun h => absurd h (by decide), fun _ => ((hS.dropAt 3).dropAt 3)⟩, ?_⟩
                refine Rg.takeP (i := 11) hE rfl (by kernel_rfl) (runs_plain rfl) (Gives.fld hE rfl fl48_4) rfl (tw_sel (fun h => absurd h (by decide)) (fun _ => ((hS.dropAt 3).dropAt 3))) ?_; clear hE a; intro a hE
                refine Rg.take (i := 12) false rfl hE rfl (by kernel_rfl) (runs_plain rfl) (Gives.loadB hE 2 rfl rfl rfl ty31) rfl (tw_sel (fun h => absurd h (by decide)) (fun _ => ((hS.dropAt 3).dropAt 3))) ?_; clear hE a; intro a hE
                refine Rg.one (i := 13) false true rfl (by kernel_rfl) (by kernel_rfl) (by kernel_rfl) ?_
                refine WL.lit hE hS (e := 4) (es := 1) (vs := [(0, .bool false)]) (cs := [.bool false]) (runs_plain rfl) rfl (by kernel_rfl) rfl ?_; clear hE hS a w; intro b123 a w hE hS
                refine WL.nil ?_
                refine ⟨⟨fun h => absurd h (by decide), fun _ => (((hS.tail).dropAt 3).dropAt 3)⟩, ?_⟩
                refine Rg.one (i := 14) false true rfl (by kernel_rfl) (by kernel_rfl) (by kernel_rfl) ?_
                refine WL.appDX (kk := 1) hE hS 4 (m := 1) (runs_plain rfl) rfl rfl rfl aw31 rfl h_v1 (rfl) (xs := [false]) (Ev.cons (c1 := [.bool false]) rfl rfl (Ev.nil)) rfl rfl hx125 rfl ?_; clear hE hS a w; intro a126 c127 cs128 a w h129 hE hS
                refine WL.nil ?_
                refine ⟨⟨fun h => absurd h (by decide), fun _ => ((hS.dropAt 3).dropAt 3)⟩, ?_⟩
                refine Rg.one (i := 15) false true rfl (by kernel_rfl) (by kernel_rfl) (by kernel_rfl) ?_
                refine WL.vS hS hE (runs_plain rfl) (Gives.nilOk hE rfl) rfl ?_; clear hE a; intro a hE
                refine WL.nil ?_
                refine ⟨⟨fun h => absurd h (by decide), fun _ => ((hS.dropAt 3).dropAt 3)⟩, ?_⟩
                refine Rg.takeP (i := 16) hE rfl (by kernel_rfl) (runs_plain rfl) (Gives.fld hE rfl fl48_3) rfl (tw_sel (fun h => absurd h (by decide)) (fun _ => ((hS.dropAt 3).dropAt 3))) ?_; clear hE a; intro a hE
                refine Rg.one (i := 17) false false rfl (by kernel_rfl) (by kernel_rfl) (by kernel_rfl) ?_
                refine WL.storeI hE hS 2 rfl [.int .i64 y0.rows, .int .i64 y0.across, .int .i64 y0.stops, .slice a119 x117.length c120, .slice a_v1 y0.cancelled.length c_v1] (runs_plain rfl) rfl rfl rfl ty30 rfl rfl rfl rfl ?_; clear hE hS a w; intro a w hE hS
                refine WL.nil ?_
                refine ⟨⟨fun h => absurd h (by decide), fun h => absurd h (by decide)⟩, ?_⟩
                refine Rg.one (i := 18) false false rfl (by kernel_rfl) (by kernel_rfl) (by kernel_rfl) ?_
                refine WL.vS hS hE (runs_plain rfl) (Gives.nilOk hE rfl) rfl ?_; clear hE a; intro a hE
                refine WL.nil ?_
                refine ⟨⟨fun h => absurd h (by decide), fun h => absurd h (by decide)⟩, ?_⟩
                refine Rg.takeP (i := 19) hE rfl (by kernel_rfl) (runs_plain rfl) (Gives.fld hE rfl fl48_4) rfl (tw_sel (fun h => absurd h (by decide)) (fun h => absurd h (by decide))) ?_; clear hE a; intro a hE
                refine Rg.one (i := 20) false false rfl (by kernel_rfl) (by kernel_rfl) (by kernel_rfl) ?_
                refine WL.storeI hE hS 2 rfl [.int .i64 y0.rows, .int .i64 y0.across, .int .i64 y0.stops, .slice a119 x117.length c120, .slice a126 x124.length c127] (runs_plain rfl) rfl rfl rfl ty31 rfl rfl rfl rfl ?_; clear hE hS a w; intro a w hE hS
                refine WL.nil ?_
                refine ⟨⟨fun h => absurd h (by decide), fun h => absurd h (by decide)⟩, ?_⟩
                refine Rg.done (by kernel_rfl) ?_
                exact key _ _ _ _ _ _ _ _ h114 h94 h122 h129 (hE.pick _ ⟨rfl, rfl, trivial⟩) hS
              · refine Br.mk (i := 13) false true rfl (by kernel_rfl) (by kernel_rfl) ?_
                refine WL.lit hE hS (e := 4) (es := 1) (vs := [(0, .bool false)]) (cs := [.bool false]) (runs_plain rfl) rfl (by kernel_rfl) rfl ?_; clear hE hS a w; intro b123 a w hE hS
                refine WL.nil ?_
                refine ⟨⟨fun h => absurd h (by decide), fun _ => (((hS.tail).dropAt 3).dropAt 3)⟩, ?_⟩
                refine Rg.one (i := 10) false true rfl (by kernel_rfl) (by kernel_rfl) (by kernel_rfl) ?_
                refine WL.vS hS hE (runs_plain rfl) (Gives.nilOk hE rfl) rfl ?_; clear hE a; intro a hE
                refine WL.nil ?_
                refine ⟨⟨fun h => absurd h (by decide), fun _ => (((hS.tail).dropAt 3).dropAt 3)⟩, ?_⟩
                refine Rg.takeP (i := 11) hE rfl (by kernel_rfl) (runs_plain rfl) (Gives.fld hE rfl fl48_4) rfl (tw_sel (fun h => absurd h (by decide)) (fun _ => (((hS.tail).dropAt 3).dropAt 3))) ?_; clear hE a; intro a hE
                refine Rg.take (i := 12) false rfl hE rfl (by kernel_rfl) (runs_plain rfl) (Gives.loadB hE 2 rfl rfl rfl ty31) rfl (tw_sel (fun h => absurd h (by decide)) (fun _ => (((hS.tail).dropAt 3).dropAt 3))) ?_; clear hE a; intro a hE
                refine Rg.one (i := 14) false true rfl (by kernel_rfl) (by kernel_rfl) (by kernel_rfl) ?_
                refine WL.appDX (kk := 1) hE hS 4 (m := 1) (runs_plain rfl) rfl rfl rfl aw31 rfl h_v1 (rfl) (xs := [false]) (Ev.cons (c1 := [.bool false]) rfl rfl (Ev.nil)) rfl rfl hx125 rfl ?_; clear hE hS a w; intro a126 c127 cs128 a w h129 hE hS
                refine WL.nil ?_
                refine ⟨⟨fun h => absurd h (by decide), fun _ => ((hS.dropAt 3).dropAt 3)⟩, ?_⟩
                refine Rg.one (i := 15) false true rfl (by kernel_rfl) (by kernel_rfl) (by kernel_rfl) ?_
                refine WL.vS hS hE (runs_plain rfl) (Gives.nilOk hE rfl) rfl ?_; clear hE a; intro a hE
                refine WL.nil ?_
                refine ⟨⟨fun h => absurd h (by decide), fun _ => ((hS.dropAt 3).dropAt 3)⟩, ?_⟩
                refine Rg.takeP (i := 16) hE rfl (by kernel_rfl) (runs_plain rfl) (Gives.fld hE rfl fl48_3) rfl (tw_sel (fun h => absurd h (by decide)) (fun _ => ((hS.dropAt 3).dropAt 3))) ?_; clear hE a; intro a hE
                refine Rg.one (i := 17) false false rfl (by kernel_rfl) (by kernel_rfl) (by kernel_rfl) ?_
                refine WL.storeI hE hS 2 rfl [.int .i64 y0.rows, .int .i64 y0.across, .int .i64 y0.stops, .slice a119 x117.length c120, .slice a_v1 y0.cancelled.length c_v1] (runs_plain rfl) rfl rfl rfl ty30 rfl rfl rfl rfl ?_; clear hE hS a w; intro a w hE hS
                refine WL.nil ?_
                refine ⟨⟨fun h => absurd h (by decide), fun h => absurd h (by decide)⟩, ?_⟩
                refine Rg.one (i := 18) false false rfl (by kernel_rfl) (by kernel_rfl) (by kernel_rfl) ?_
                refine WL.vS hS hE (runs_plain rfl) (Gives.nilOk hE rfl) rfl ?_; clear hE a; intro a hE
                refine WL.nil ?_
                refine ⟨⟨fun h => absurd h (by decide), fun h => absurd h (by decide)⟩, ?_⟩
                refine Rg.takeP (i := 19) hE rfl (by kernel_rfl) (runs_plain rfl) (Gives.fld hE rfl fl48_4) rfl (tw_sel (fun h => absurd h (by decide)) (fun h => absurd h (by decide))) ?_; clear hE a; intro a hE
                refine Rg.one (i := 20) false false rfl (by kernel_rfl) (by kernel_rfl) (by kernel_rfl) ?_
                refine WL.storeI hE hS 2 rfl [.int .i64 y0.rows, .int .i64 y0.across, .int .i64 y0.stops, .slice a119 x117.length c120, .slice a126 x124.length c127] (runs_plain rfl) rfl rfl rfl ty31 rfl rfl rfl rfl ?_; clear hE hS a w; intro a w hE hS
                refine WL.nil ?_
                refine ⟨⟨fun h => absurd h (by decide), fun h => absurd h (by decide)⟩, ?_⟩
                refine Rg.done (by kernel_rfl) ?_
                exact key _ _ _ _ _ _ _ _ h114 h94 h122 h129 (hE.pick _ ⟨rfl, rfl, trivial⟩) hS
            · refine Br.mk (i := 10) true true rfl (by kernel_rfl) (by kernel_rfl) ?_
              refine WL.vS hS hE (runs_plain rfl) (Gives.nilOk hE rfl) rfl ?_; clear hE a; intro a hE
              refine WL.nil ?_
              refine ⟨⟨fun _ => (hS.tail), fun _ => (((hS.tail).dropAt 3).dropAt 3)⟩, ?_⟩
              refine Rg.takeP (i := 11) hE rfl (by kernel_rfl) (runs_plain rfl) (Gives.fld hE rfl fl48_4) rfl (tw_sel (fun _ => (hS.tail)) (fun _ => (((hS.tail).dropAt 3).dropAt 3))) ?_; clear hE a; intro a hE
              refine Rg.take (i := 12) false rfl hE rfl (by kernel_rfl) (runs_plain rfl) (Gives.loadB hE 2 rfl rfl rfl ty31) rfl (tw_sel (fun _ => (hS.tail)) (fun _ => (((hS.tail).dropAt 3).dropAt 3))) ?_; clear hE a; intro a hE
              refine Rg.many 8 [13] (by kernel_rfl) ⟨?_, ?_, trivial⟩
              · refine Br.mk (i := 8) false true rfl (by kernel_rfl) (by kernel_rfl) ?_
                refine WL.appDX (kk := 48) hE hS 3 (m := 1) (runs_plain rfl) rfl rfl rfl aw30 rfl h_v0 (rfl) (xs := [(FareBooking.mk ((y0.bookings.length : Nat) : Int) x1 x2 q98)]) (Ev.cons (c1 := [.int .i64 ((y0.bookings.length : Nat) : Int), .int .i64 x1, .int .i64 x2, .slice a100 q98.length c101]) ⟨_, _, rfl, h114⟩ rfl (Ev.nil)) rfl rfl hx118 rfl ?_; clear hE hS a w; intro a119 c120 cs121 a w h122 hE hS
                refine WL.nil ?_
                refine ⟨⟨fun h => absurd h (by decide), fun _ => ((hS.dropAt 3).dropAt 3)⟩, ?_⟩
                refine Rg.one (i := 13) false true rfl (by kernel_rfl) (by kernel_rfl) (by kernel_rfl) ?_
                refine WL.lit hE hS (e := 4) (es := 1) (vs := [(0, .bool false)]) (cs := [.bool false]) (runs_plain rfl) rfl (by kernel_rfl) rfl ?_; clear hE hS a w; intro b123 a w hE hS
                refine WL.nil ?_
                refine ⟨⟨fun h => absurd h (by decide), fun _ => (((hS.tail).dropAt 3).dropAt 3)⟩, ?_⟩
                refine Rg.one (i := 14) false true rfl (by kernel_rfl) (by kernel_rfl) (by kernel_rfl) ?_
                refine WL.appDX (kk := 1) hE hS 4 (m := 1) (runs_plain rfl) rfl rfl rfl aw31 rfl h_v1 (rfl) (xs := [false]) (Ev.cons (c1 := [.bool false]) rfl rfl (Ev.nil)) rfl rfl hx125 rfl ?_; clear hE hS a w; intro a126 c127 cs128 a w h129 hE hS
                refine WL.nil ?_
                refine ⟨⟨fun h => absurd h (by decide), fun _ => ((hS.dropAt 3).dropAt 3)⟩, ?_⟩
                refine Rg.one (i := 15) false true rfl (by kernel_rfl) (by kernel_rfl) (by kernel_rfl) ?_
                refine WL.vS hS hE (runs_plain rfl) (Gives.nilOk hE rfl) rfl ?_; clear hE a; intro a hE
                refine WL.nil ?_
                refine ⟨⟨fun h => absurd h (by decide), fun _ => ((hS.dropAt 3).dropAt 3)⟩, ?_⟩
                refine Rg.takeP (i := 16) hE rfl (by kernel_rfl) (runs_plain rfl) (Gives.fld hE rfl fl48_3) rfl (tw_sel (fun h => absurd h (by decide)) (fun _ => ((hS.dropAt 3).dropAt 3))) ?_; clear hE a; intro a hE
                refine Rg.one (i := 17) false false rfl (by kernel_rfl) (by kernel_rfl) (by kernel_rfl) ?_
                refine WL.storeI hE hS 2 rfl [.int .i64 y0.rows, .int .i64 y0.across, .int .i64 y0.stops, .slice a119 x117.length c120, .slice a_v1 y0.cancelled.length c_v1] (runs_plain rfl) rfl rfl rfl ty30 rfl rfl rfl rfl ?_; clear hE hS a w; intro a w hE hS
                refine WL.nil ?_
                refine ⟨⟨fun h => absurd h (by decide), fun h => absurd h (by decide)⟩, ?_⟩
                refine Rg.one (i := 18) false false rfl (by kernel_rfl) (by kernel_rfl) (by kernel_rfl) ?_
                refine WL.vS hS hE (runs_plain rfl) (Gives.nilOk hE rfl) rfl ?_; clear hE a; intro a hE
                refine WL.nil ?_
                refine ⟨⟨fun h => absurd h (by decide), fun h => absurd h (by decide)⟩, ?_⟩
                refine Rg.takeP (i := 19) hE rfl (by kernel_rfl) (runs_plain rfl) (Gives.fld hE rfl fl48_4) rfl (tw_sel (fun h => absurd h (by decide)) (fun h => absurd h (by decide))) ?_; clear hE a; intro a hE
                refine Rg.one (i := 20) false false rfl (by kernel_rfl) (by kernel_rfl) (by kernel_rfl) ?_
                refine WL.storeI hE hS 2 rfl [.int .i64 y0.rows, .int .i64 y0.across, .int .i64 y0.stops, .slice a119 x117.length c120, .slice a126 x124.length c127] (runs_plain rfl) rfl rfl rfl ty31 rfl rfl rfl rfl ?_; clear hE hS a w; intro a w hE hS
                refine WL.nil ?_
                refine ⟨⟨fun h => absurd h (by decide), fun h => absurd h (by decide)⟩, ?_⟩
                refine Rg.done (by kernel_rfl) ?_
                exact key _ _ _ _ _ _ _ _ h114 h94 h122 h129 (hE.pick _ ⟨rfl, rfl, trivial⟩) hS
              · refine Br.mk (i := 13) true true rfl (by kernel_rfl) (by kernel_rfl) ?_
                refine WL.lit hE hS (e := 4) (es := 1) (vs := [(0, .bool false)]) (cs := [.bool false]) (runs_plain rfl) rfl (by kernel_rfl) rfl ?_; clear hE hS a w; intro b123 a w hE hS
                refine WL.nil ?_
                refine ⟨⟨fun _ => ((hS.tail).tail), fun _ => ((((hS.tail).tail).dropAt 3).dropAt 3)⟩, ?_⟩
                refine Rg.one (i := 8) false true rfl (by kernel_rfl) (by kernel_rfl) (by kernel_rfl) ?_
                replace hS := hS.front 1 rfl
                refine WL.appDX (kk := 48) hE hS 4 (m := 1) (runs_plain rfl) rfl rfl rfl aw30 rfl h_v0 (rfl) (xs := [(FareBooking.mk ((y0.bookings.length : Nat) : Int) x1 x2 q98)]) (Ev.cons (c1 := [.int .i64 ((y0.bookings.length : Nat) : Int), .int .i64 x1, .int .i64 x2, .slice a100 q98.length c101]) ⟨_, _, rfl, h114⟩ rfl (Ev.nil)) rfl rfl hx118 rfl ?_; clear hE hS a w; intro a119 c120 cs121 a w h122 hE hS
                refine WL.nil ?_
                refine ⟨⟨fun h => absurd h (by decide), fun _ => (((hS.tail).dropAt 3).dropAt 3)⟩, ?_⟩
                refine Rg.one (i := 14) false true rfl (by kernel_rfl) (by kernel_rfl) (by kernel_rfl) ?_
                refine WL.appDX (kk := 1) hE hS 4 (m := 1) (runs_plain rfl) rfl rfl rfl aw31 rfl h_v1 (rfl) (xs := [false]) (Ev.cons (c1 := [.bool false]) rfl rfl (Ev.nil)) rfl rfl hx125 rfl ?_; clear hE hS a w; intro a126 c127 cs128 a w h129 hE hS
                refine WL.nil ?_
                refine ⟨⟨fun h => absurd h (by decide), fun _ => ((hS.dropAt 3).dropAt 3)⟩, ?_⟩
                refine Rg.one (i := 15) false true rfl (by kernel_rfl) (by kernel_rfl) (by kernel_rfl) ?_
                refine WL.vS hS hE (runs_plain rfl) (Gives.nilOk hE rfl) rfl ?_; clear hE a; intro a hE
                refine WL.nil ?_
                refine ⟨⟨fun h => absurd h (by decide), fun _ => ((hS.dropAt 3).dropAt 3)⟩, ?_⟩
                refine Rg.takeP (i := 16) hE rfl (by kernel_rfl) (runs_plain rfl) (Gives.fld hE rfl fl48_3) rfl (tw_sel (fun h => absurd h (by decide)) (fun _ => ((hS.dropAt 3).dropAt 3))) ?_; clear hE a; intro a hE
                refine Rg.one (i := 17) false false rfl (by kernel_rfl) (by kernel_rfl) (by kernel_rfl) ?_
                refine WL.storeI hE hS 2 rfl [.int .i64 y0.rows, .int .i64 y0.across, .int .i64 y0.stops, .slice a119 x117.length c120, .slice a_v1 y0.cancelled.length c_v1] (runs_plain rfl) rfl rfl rfl ty30 rfl rfl rfl rfl ?_; clear hE hS a w; intro a w hE hS
                refine WL.nil ?_
                refine ⟨⟨fun h => absurd h (by decide), fun h => absurd h (by decide)⟩, ?_⟩
                refine Rg.one (i := 18) false false rfl (by kernel_rfl) (by kernel_rfl) (by kernel_rfl) ?_
                refine WL.vS hS hE (runs_plain rfl) (Gives.nilOk hE rfl) rfl ?_; clear hE a; intro a hE
                refine WL.nil ?_
                refine ⟨⟨fun h => absurd h (by decide), fun h => absurd h (by decide)⟩, ?_⟩
                refine Rg.takeP (i := 19) hE rfl (by kernel_rfl) (runs_plain rfl) (Gives.fld hE rfl fl48_4) rfl (tw_sel (fun h => absurd h (by decide)) (fun h => absurd h (by decide))) ?_; clear hE a; intro a hE
                refine Rg.one (i := 20) false false rfl (by kernel_rfl) (by kernel_rfl) (by kernel_rfl) ?_
                refine WL.storeI hE hS 2 rfl [.int .i64 y0.rows, .int .i64 y0.across, .int .i64 y0.stops, .slice a119 x117.length c120, .slice a126 x124.length c127] (runs_plain rfl) rfl rfl rfl ty31 rfl rfl rfl rfl ?_; clear hE hS a w; intro a w hE hS
                refine WL.nil ?_
                refine ⟨⟨fun h => absurd h (by decide), fun h => absurd h (by decide)⟩, ?_⟩
                refine Rg.done (by kernel_rfl) ?_
                exact key _ _ _ _ _ _ _ _ h114 h94 h122 h129 (hE.pick _ ⟨rfl, rfl, trivial⟩) hS
            · refine Br.mk (i := 13) true true rfl (by kernel_rfl) (by kernel_rfl) ?_
              refine WL.lit hE hS (e := 4) (es := 1) (vs := [(0, .bool false)]) (cs := [.bool false]) (runs_plain rfl) rfl (by kernel_rfl) rfl ?_; clear hE hS a w; intro b123 a w hE hS
              refine WL.nil ?_
              refine ⟨⟨fun _ => ((hS.tail).tail), fun _ => ((((hS.tail).tail).dropAt 3).dropAt 3)⟩, ?_⟩
              refine Rg.many 8 [10] (by kernel_rfl) ⟨?_, ?_, trivial⟩
              · refine Br.mk (i := 8) false true rfl (by kernel_rfl) (by kernel_rfl) ?_
                replace hS := hS.front 1 rfl
                refine WL.appDX (kk := 48) hE hS 4 (m := 1) (runs_plain rfl) rfl rfl rfl aw30 rfl h_v0 (rfl) (xs := [(FareBooking.mk ((y0.bookings.length : Nat) : Int) x1 x2 q98)]) (Ev.cons (c1 := [.int .i64 ((y0.bookings.length : Nat) : Int), .int .i64 x1, .int .i64 x2, .slice a100 q98.length c101]) ⟨_, _, rfl, h114⟩ rfl (Ev.nil)) rfl rfl hx118 rfl ?_; clear hE hS a w; intro a119 c120 cs121 a w h122 hE hS
                refine WL.nil ?_
                refine ⟨⟨fun h => absurd h (by decide), fun _ => (((hS.tail).dropAt 3).dropAt 3)⟩, ?_⟩
                refine Rg.one (i := 10) false true rfl (by kernel_rfl) (by kernel_rfl) (by kernel_rfl) ?_
                refine WL.vS hS hE (runs_plain rfl) (Gives.nilOk hE rfl) rfl ?_; clear hE a; intro a hE
                refine WL.nil ?_
                refine ⟨⟨fun h => absurd h (by decide), fun _ => (((hS.tail).dropAt 3).dropAt 3)⟩, ?_⟩
                refine Rg.takeP (i := 11) hE rfl (by kernel_rfl) (runs_plain rfl) (Gives.fld hE rfl fl48_4) rfl (tw_sel (fun h => absurd h (by decide)) (fun _ => (((hS.tail).dropAt 3).dropAt 3))) ?_; clear hE a; intro a hE
                refine Rg.take (i := 12) false rfl hE rfl (by kernel_rfl) (runs_plain rfl) (Gives.loadB hE 2 rfl rfl rfl ty31) rfl (tw_sel (fun h => absurd h (by decide)) (fun _ => (((hS.tail).dropAt 3).dropAt 3))) ?_; clear hE a; intro a hE
                refine Rg.one (i := 14) false true rfl (by kernel_rfl) (by kernel_rfl) (by kernel_rfl) ?_
                refine WL.appDX (kk := 1) hE hS 4 (m := 1) (runs_plain rfl) rfl rfl rfl aw31 rfl h_v1 (rfl) (xs := [false]) (Ev.cons (c1 := [.bool false]) rfl rfl (Ev.nil)) rfl rfl hx125 rfl ?_; clear hE hS a w; intro a126 c127 cs128 a w h129 hE hS
                refine WL.nil ?_
                refine ⟨⟨fun h => absurd h (by decide), fun _ => ((hS.dropAt 3).dropAt 3)⟩, ?_⟩
                refine Rg.one (i := 15) false true rfl (by kernel_rfl) (by kernel_rfl) (by kernel_rfl) ?_
                refine WL.vS hS hE (runs_plain rfl) (Gives.nilOk hE rfl) rfl ?_; clear hE a; intro a hE
                refine WL.nil ?_
                refine ⟨⟨fun h => absurd h (by decide), fun _ => ((hS.dropAt 3).dropAt 3)⟩, ?_⟩
                refine Rg.takeP (i := 16) hE rfl (by kernel_rfl) (runs_plain rfl) (Gives.fld hE rfl fl48_3) rfl (tw_sel (fun h => absurd h (by decide)) (fun _ => ((hS.dropAt 3).dropAt 3))) ?_; clear hE a; intro a hE
                refine Rg.one (i := 17) false false rfl (by kernel_rfl) (by kernel_rfl) (by kernel_rfl) ?_
                refine WL.storeI hE hS 2 rfl [.int .i64 y0.rows, .int .i64 y0.across, .int .i64 y0.stops, .slice a119 x117.length c120, .slice a_v1 y0.cancelled.length c_v1] (runs_plain rfl) rfl rfl rfl ty30 rfl rfl rfl rfl ?_; clear hE hS a w; intro a w hE hS
                refine WL.nil ?_
                refine ⟨⟨fun h => absurd h (by decide), fun h => absurd h (by decide)⟩, ?_⟩
                refine Rg.one (i := 18) false false rfl (by kernel_rfl) (by kernel_rfl) (by kernel_rfl) ?_
                refine WL.vS hS hE (runs_plain rfl) (Gives.nilOk hE rfl) rfl ?_; clear hE a; intro a hE
                refine WL.nil ?_
                refine ⟨⟨fun h => absurd h (by decide), fun h => absurd h (by decide)⟩, ?_⟩
                refine Rg.takeP (i := 19) hE rfl (by kernel_rfl) (runs_plain rfl) (Gives.fld hE rfl fl48_4) rfl (tw_sel (fun h => absurd h (by decide)) (fun h => absurd h (by decide))) ?_; clear hE a; intro a hE
                refine Rg.one (i := 20) false false rfl (by kernel_rfl) (by kernel_rfl) (by kernel_rfl) ?_
                refine WL.storeI hE hS 2 rfl [.int .i64 y0.rows, .int .i64 y0.across, .int .i64 y0.stops, .slice a119 x117.length c120, .slice a126 x124.length c127] (runs_plain rfl) rfl rfl rfl ty31 rfl rfl rfl rfl ?_; clear hE hS a w; intro a w hE hS
                refine WL.nil ?_
                refine ⟨⟨fun h => absurd h (by decide), fun h => absurd h (by decide)⟩, ?_⟩
                refine Rg.done (by kernel_rfl) ?_
                exact key _ _ _ _ _ _ _ _ h114 h94 h122 h129 (hE.pick _ ⟨rfl, rfl, trivial⟩) hS
              · refine Br.mk (i := 10) true true rfl (by kernel_rfl) (by kernel_rfl) ?_
                refine WL.vS hS hE (runs_plain rfl) (Gives.nilOk hE rfl) rfl ?_; clear hE a; intro a hE
                refine WL.nil ?_
                refine ⟨⟨fun _ => ((hS.tail).tail), fun _ => ((((hS.tail).tail).dropAt 3).dropAt 3)⟩, ?_⟩
                refine Rg.takeP (i := 11) hE rfl (by kernel_rfl) (runs_plain rfl) (Gives.fld hE rfl fl48_4) rfl (tw_sel (fun _ => ((hS.tail).tail)) (fun _ => ((((hS.tail).tail).dropAt 3).dropAt 3))) ?_; clear hE a; intro a hE
                refine Rg.take (i := 12) false rfl hE rfl (by kernel_rfl) (runs_plain rfl) (Gives.loadB hE 2 rfl rfl rfl ty31) rfl (tw_sel (fun _ => ((hS.tail).tail)) (fun _ => ((((hS.tail).tail).dropAt 3).dropAt 3))) ?_; clear hE a; intro a hE
                refine Rg.one (i := 8) false true rfl (by kernel_rfl) (by kernel_rfl) (by kernel_rfl) ?_
                replace hS := hS.front 1 rfl
                refine WL.appDX (kk := 48) hE hS 4 (m := 1) (runs_plain rfl) rfl rfl rfl aw30 rfl h_v0 (rfl) (xs := [(FareBooking.mk ((y0.bookings.length : Nat) : Int) x1 x2 q98)]) (Ev.cons (c1 := [.int .i64 ((y0.bookings.length : Nat) : Int), .int .i64 x1, .int .i64 x2, .slice a100 q98.length c101]) ⟨_, _, rfl, h114⟩ rfl (Ev.nil)) rfl rfl hx118 rfl ?_; clear hE hS a w; intro a119 c120 cs121 a w h122 hE hS
                refine WL.nil ?_
                refine ⟨⟨fun h => absurd h (by decide), fun _ => (((hS.tail).dropAt 3).dropAt 3)⟩, ?_⟩
                refine Rg.one (i := 14) false true rfl (by kernel_rfl) (by kernel_rfl) (by kernel_rfl) ?_
                refine WL.appDX (kk := 1) hE hS 4 (m := 1) (runs_plain rfl) rfl rfl rfl aw31 rfl h_v1 (rfl) (xs := [false]) (Ev.cons (c1 := [.bool false]) rfl rfl (Ev.nil)) rfl rfl hx125 rfl ?_; clear hE hS a w; intro a126 c127 cs128 a w h129 hE hS
                refine WL.nil ?_
                refine ⟨⟨fun h => absurd h (by decide), fun _ => ((hS.dropAt 3).dropAt 3)⟩, ?_⟩
                refine Rg.one (i := 15) false true rfl (by kernel_rfl) (by kernel_rfl) (by kernel_rfl) ?_
                refine WL.vS hS hE (runs_plain rfl) (Gives.nilOk hE rfl) rfl ?_; clear hE a; intro a hE
                refine WL.nil ?_
                refine ⟨⟨fun h => absurd h (by decide), fun _ => ((hS.dropAt 3).dropAt 3)⟩, ?_⟩
                refine Rg.takeP (i := 16) hE rfl (by kernel_rfl) (runs_plain rfl) (Gives.fld hE rfl fl48_3) rfl (tw_sel (fun h => absurd h (by decide)) (fun _ => ((hS.dropAt 3).dropAt 3))) ?_; clear hE a; intro a hE
                refine Rg.one (i := 17) false false rfl (by kernel_rfl) (by kernel_rfl) (by kernel_rfl) ?_
                refine WL.storeI hE hS 2 rfl [.int .i64 y0.rows, .int .i64 y0.across, .int .i64 y0.stops, .slice a119 x117.length c120, .slice a_v1 y0.cancelled.length c_v1] (runs_plain rfl) rfl rfl rfl ty30 rfl rfl rfl rfl ?_; clear hE hS a w; intro a w hE hS
                refine WL.nil ?_
                refine ⟨⟨fun h => absurd h (by decide), fun h => absurd h (by decide)⟩, ?_⟩
                refine Rg.one (i := 18) false false rfl (by kernel_rfl) (by kernel_rfl) (by kernel_rfl) ?_
                refine WL.vS hS hE (runs_plain rfl) (Gives.nilOk hE rfl) rfl ?_; clear hE a; intro a hE
                refine WL.nil ?_
                refine ⟨⟨fun h => absurd h (by decide), fun h => absurd h (by decide)⟩, ?_⟩
                refine Rg.takeP (i := 19) hE rfl (by kernel_rfl) (runs_plain rfl) (Gives.fld hE rfl fl48_4) rfl (tw_sel (fun h => absurd h (by decide)) (fun h => absurd h (by decide))) ?_; clear hE a; intro a hE
                refine Rg.one (i := 20) false false rfl (by kernel_rfl) (by kernel_rfl) (by kernel_rfl) ?_
                refine WL.storeI hE hS 2 rfl [.int .i64 y0.rows, .int .i64 y0.across, .int .i64 y0.stops, .slice a119 x117.length c120, .slice a126 x124.length c127] (runs_plain rfl) rfl rfl rfl ty31 rfl rfl rfl rfl ?_; clear hE hS a w; intro a w hE hS
                refine WL.nil ?_
                refine ⟨⟨fun h => absurd h (by decide), fun h => absurd h (by decide)⟩, ?_⟩
                refine Rg.done (by kernel_rfl) ?_
                exact key _ _ _ _ _ _ _ _ h114 h94 h122 h129 (hE.pick _ ⟨rfl, rfl, trivial⟩) hS
          · refine Br.mk (i := 10) true true rfl (by kernel_rfl) (by kernel_rfl) ?_
            refine WL.vS hS hE (runs_plain rfl) (Gives.nilOk hE rfl) rfl ?_; clear hE a; intro a hE
            refine WL.nil ?_
            refine ⟨⟨fun _ => hS, fun _ => ((hS.dropAt 3).dropAt 3)⟩, ?_⟩
            refine Rg.takeP (i := 11) hE rfl (by kernel_rfl) (runs_plain rfl) (Gives.fld hE rfl fl48_4) rfl (tw_sel (fun _ => hS) (fun _ => ((hS.dropAt 3).dropAt 3))) ?_; clear hE a; intro a hE
            refine Rg.take (i := 12) false rfl hE rfl (by kernel_rfl) (runs_plain rfl) (Gives.loadB hE 2 rfl rfl rfl ty31) rfl (tw_sel (fun _ => hS) (fun _ => ((hS.dropAt 3).dropAt 3))) ?_; clear hE a; intro a hE
            refine Rg.many 7 [13] (by kernel_rfl) ⟨?_, ?_, trivial⟩
            · refine Br.mk (i := 7) true true rfl (by kernel_rfl) (by kernel_rfl) ?_
              refine WL.lit hE hS (e := 39) (es := 4) (vs := [(0, .agg (List.toArray [.int .i64 ((y0.bookings.length : Nat) : Int), .int .i64 x1, .int .i64 x2, .slice a100 q98.length c101]))]) (cs := [.int .i64 ((y0.bookings.length : Nat) : Int), .int .i64 x1, .int .i64 x2, .slice a100 q98.length c101]) (runs_plain rfl) rfl (by kernel_rfl) rfl ?_; clear hE hS a w; intro b116 a w hE hS
              refine WL.nil ?_
              refine ⟨⟨fun _ => (hS.tail), fun _ => (((hS.tail).dropAt 3).dropAt 3)⟩, ?_⟩
              refine Rg.many 8 [13] (by kernel_rfl) ⟨?_, ?_, trivial⟩
              · refine Br.mk (i := 8) false true rfl (by kernel_rfl) (by kernel_rfl) ?_
                refine WL.appDX (kk := 48) hE hS 3 (m := 1) (runs_plain rfl) rfl rfl rfl aw30 rfl h_v0 (rfl) (xs := [(FareBooking.mk ((y0.bookings.length : Nat) : Int) x1 x2 q98)]) (Ev.cons (c1 := [.int .i64 ((y0.bookings.length : Nat) : Int), .int .i64 x1, .int .i64 x2, .slice a100 q98.length c101]) ⟨_, _, rfl, h114⟩ rfl (Ev.nil)) rfl rfl hx118 rfl ?_; clear hE hS a w; intro a119 c120 cs121 a w h122 hE hS
                refine WL.nil ?_
                refine ⟨⟨fun h => absurd h (by decide), fun _ => ((hS.dropAt 3).dropAt 3)⟩, ?_⟩
                refine Rg.one (i := 13) false true rfl (by kernel_rfl) (by kernel_rfl) (by kernel_rfl) ?_
                refine WL.lit hE hS (e := 4) (es := 1) (vs := [(0, .bool false)]) (cs := [.bool false]) (runs_plain rfl) rfl (by kernel_rfl) rfl ?_; clear hE hS a w; intro b123 a w hE hS
                refine WL.nil ?_
                refine ⟨⟨fun h => absurd h (by decide), fun _ => (((hS.tail).dropAt 3).dropAt 3)⟩, ?_⟩
                refine Rg.one (i := 14) false true rfl (by kernel_rfl) (by kernel_rfl) (by kernel_rfl) ?_
                refine WL.appDX (kk := 1) hE hS 4 (m := 1) (runs_plain rfl) rfl rfl rfl aw31 rfl h_v1 (rfl) (xs := [false]) (Ev.cons (c1 := [.bool false]) rfl rfl (Ev.nil)) rfl rfl hx125 rfl ?_; clear hE hS a w; intro a126 c127 cs128 a w h129 hE hS
                refine WL.nil ?_
                refine ⟨⟨fun h => absurd h (by decide), fun _ => ((hS.dropAt 3).dropAt 3)⟩, ?_⟩
                refine Rg.one (i := 15) false true rfl (by kernel_rfl) (by kernel_rfl) (by kernel_rfl) ?_
                refine WL.vS hS hE (runs_plain rfl) (Gives.nilOk hE rfl) rfl ?_; clear hE a; intro a hE
                refine WL.nil ?_
                refine ⟨⟨fun h => absurd h (by decide), fun _ => ((hS.dropAt 3).dropAt 3)⟩, ?_⟩
                refine Rg.takeP (i := 16) hE rfl (by kernel_rfl) (runs_plain rfl) (Gives.fld hE rfl fl48_3) rfl (tw_sel (fun h => absurd h (by decide)) (fun _ => ((hS.dropAt 3).dropAt 3))) ?_; clear hE a; intro a hE
                refine Rg.one (i := 17) false false rfl (by kernel_rfl) (by kernel_rfl) (by kernel_rfl) ?_
                refine WL.storeI hE hS 2 rfl [.int .i64 y0.rows, .int .i64 y0.across, .int .i64 y0.stops, .slice a119 x117.length c120, .slice a_v1 y0.cancelled.length c_v1] (runs_plain rfl) rfl rfl rfl ty30 rfl rfl rfl rfl ?_; clear hE hS a w; intro a w hE hS
                refine WL.nil ?_
                refine ⟨⟨fun h => absurd h (by decide), fun h => absurd h (by decide)⟩, ?_⟩
                refine Rg.one (i := 18) false false rfl (by kernel_rfl) (by kernel_rfl) (by kernel_rfl) ?_
                refine WL.vS hS hE (runs_plain rfl) (Gives.nilOk hE rfl) rfl ?_; clear hE a; intro a hE
                refine WL.nil ?_
                refine ⟨⟨fun h => absurd h (by decide), fun h => absurd h (by decide)⟩, ?_⟩
                refine Rg.takeP (i := 19) hE rfl (by kernel_rfl) (runs_plain rfl) (Gives.fld hE rfl fl48_4) rfl (tw_sel (fun h => absurd h (by decide)) (fun h => absurd h (by decide))) ?_; clear hE a; intro a hE
                refine Rg.one (i := 20) false false rfl (by kernel_rfl) (by kernel_rfl) (by kernel_rfl) ?_
                refine WL.storeI hE hS 2 rfl [.int .i64 y0.rows, .int .i64 y0.across, .int .i64 y0.stops, .slice a119 x117.length c120, .slice a126 x124.length c127] (runs_plain rfl) rfl rfl rfl ty31 rfl rfl rfl rfl ?_; clear hE hS a w; intro a w hE hS
                refine WL.nil ?_
                refine ⟨⟨fun h => absurd h (by decide), fun h => absurd h (by decide)⟩, ?_⟩
                refine Rg.done (by kernel_rfl) ?_
                exact key _ _ _ _ _ _ _ _ h114 h94 h122 h129 (hE.pick _ ⟨rfl, rfl, trivial⟩) hS
              · refine Br.mk (i := 13) true true rfl (by kernel_rfl) (by kernel_rfl) ?_
                refine WL.lit hE hS (e := 4) (es := 1) (vs := [(0, .bool false)]) (cs := [.bool false]) (runs_plain rfl) rfl (by kernel_rfl) rfl ?_; clear hE hS a w; intro b123 a w hE hS
                refine WL.nil ?_
                refine ⟨⟨fun _ => ((hS.tail).tail), fun _ => ((((hS.tail).tail).dropAt 3).dropAt 3)⟩, ?_⟩
                refine Rg.one (i := 8) false true rfl (by kernel_rfl) (by kernel_rfl) (by kernel_rfl) ?_
                replace hS := hS.front 1 rfl
                refine WL.appDX (kk := 48) hE hS 4 (m := 1) (runs_plain rfl) rfl rfl rfl aw30 rfl h_v0 (rfl) (xs := [(FareBooking.mk ((y0.bookings.length : Nat) : Int) x1 x2 q98)]) (Ev.cons (c1 := [.int .i64 ((y0.bookings.length : Nat) : Int), .int .i64 x1, .int .i64 x2, .slice a100 q98.length c101]) ⟨_, _, rfl, h114⟩ rfl (Ev.nil)) rfl rfl hx118 rfl ?_; clear hE hS a w; intro a119 c120 cs121 a w h122 hE hS
                refine WL.nil ?_
                refine ⟨⟨fun h => absurd h (by decide), fun _ => (((hS.tail).dropAt 3).dropAt 3)⟩, ?_⟩
                refine Rg.one (i := 14) false true rfl (by kernel_rfl) (by kernel_rfl) (by kernel_rfl) ?_
                refine WL.appDX (kk := 1) hE hS 4 (m := 1) (runs_plain rfl) rfl rfl rfl aw31 rfl h_v1 (rfl) (xs := [false]) (Ev.cons (c1 := [.bool false]) rfl rfl (Ev.nil)) rfl rfl hx125 rfl ?_; clear hE hS a w; intro a126 c127 cs128 a w h129 hE hS
                refine WL.nil ?_
                refine ⟨⟨fun h => absurd h (by decide), fun _ => ((hS.dropAt 3).dropAt 3)⟩, ?_⟩
                refine Rg.one (i := 15) false true rfl (by kernel_rfl) (by kernel_rfl) (by kernel_rfl) ?_
                refine WL.vS hS hE (runs_plain rfl) (Gives.nilOk hE rfl) rfl ?_; clear hE a; intro a hE
                refine WL.nil ?_
                refine ⟨⟨fun h => absurd h (by decide), fun _ => ((hS.dropAt 3).dropAt 3)⟩, ?_⟩
                refine Rg.takeP (i := 16) hE rfl (by kernel_rfl) (runs_plain rfl) (Gives.fld hE rfl fl48_3) rfl (tw_sel (fun h => absurd h (by decide)) (fun _ => ((hS.dropAt 3).dropAt 3))) ?_; clear hE a; intro a hE
                refine Rg.one (i := 17) false false rfl (by kernel_rfl) (by kernel_rfl) (by kernel_rfl) ?_
                refine WL.storeI hE hS 2 rfl [.int .i64 y0.rows, .int .i64 y0.across, .int .i64 y0.stops, .slice a119 x117.length c120, .slice a_v1 y0.cancelled.length c_v1] (runs_plain rfl) rfl rfl rfl ty30 rfl rfl rfl rfl ?_; clear hE hS a w; intro a w hE hS
                refine WL.nil ?_
                refine ⟨⟨fun h => absurd h (by decide), fun h => absurd h (by decide)⟩, ?_⟩
                refine Rg.one (i := 18) false false rfl (by kernel_rfl) (by kernel_rfl) (by kernel_rfl) ?_
                refine WL.vS hS hE (runs_plain rfl) (Gives.nilOk hE rfl) rfl ?_; clear hE a; intro a hE
                refine WL.nil ?_
                refine ⟨⟨fun h => absurd h (by decide), fun h => absurd h (by decide)⟩, ?_⟩
                refine Rg.takeP (i := 19) hE rfl (by kernel_rfl) (runs_plain rfl) (Gives.fld hE rfl fl48_4) rfl (tw_sel (fun h => absurd h (by decide)) (fun h => absurd h (by decide))) ?_; clear hE a; intro a hE
                refine Rg.one (i := 20) false false rfl (by kernel_rfl) (by kernel_rfl) (by kernel_rfl) ?_
                refine WL.storeI hE hS 2 rfl [.int .i64 y0.rows, .int .i64 y0.across, .int .i64 y0.stops, .slice a119 x117.length c120, .slice a126 x124.length c127] (runs_plain rfl) rfl rfl rfl ty31 rfl rfl rfl rfl ?_; clear hE hS a w; intro a w hE hS
                refine WL.nil ?_
                refine ⟨⟨fun h => absurd h (by decide), fun h => absurd h (by decide)⟩, ?_⟩
                refine Rg.done (by kernel_rfl) ?_
                exact key _ _ _ _ _ _ _ _ h114 h94 h122 h129 (hE.pick _ ⟨rfl, rfl, trivial⟩) hS
            · refine Br.mk (i := 13) true true rfl (by kernel_rfl) (by kernel_rfl) ?_
              refine WL.lit hE hS (e := 4) (es := 1) (vs := [(0, .bool false)]) (cs := [.bool false]) (runs_plain rfl) rfl (by kernel_rfl) rfl ?_; clear hE hS a w; intro b123 a w hE hS
              refine WL.nil ?_
              refine ⟨⟨fun _ => (hS.tail), fun _ => (((hS.tail).dropAt 3).dropAt 3)⟩, ?_⟩
              refine Rg.one (i := 7) true true rfl (by kernel_rfl) (by kernel_rfl) (by kernel_rfl) ?_
              refine WL.lit hE hS (e := 39) (es := 4) (vs := [(0, .agg (List.toArray [.int .i64 ((y0.bookings.length : Nat) : Int), .int .i64 x1, .int .i64 x2, .slice a100 q98.length c101]))]) (cs := [.int .i64 ((y0.bookings.length : Nat) : Int), .int .i64 x1, .int .i64 x2, .slice a100 q98.length c101]) (runs_plain rfl) rfl (by kernel_rfl) rfl ?_; clear hE hS a w; intro b116 a w hE hS
              refine WL.nil ?_
              refine ⟨⟨fun _ => ((hS.tail).tail), fun _ => ((((hS.tail).tail).dropAt 3).dropAt 3)⟩, ?_⟩
              refine Rg.one (i := 8) false true rfl (by kernel_rfl) (by kernel_rfl) (by kernel_rfl) ?_
              refine WL.appDX (kk := 48) hE hS 4 (m := 1) (runs_plain rfl) rfl rfl rfl aw30 rfl h_v0 (rfl) (xs := [(FareBooking.mk ((y0.bookings.length : Nat) : Int) x1 x2 q98)]) (Ev.cons (c1 := [.int .i64 ((y0.bookings.length : Nat) : Int), .int .i64 x1, .int .i64 x2, .slice a100 q98.length c101]) ⟨_, _, rfl, h114⟩ rfl (Ev.nil)) rfl rfl hx118 rfl ?_; clear hE hS a w; intro a119 c120 cs121 a w h122 hE hS
              refine WL.nil ?_
              refine ⟨⟨fun h => absurd h (by decide), fun _ => (((hS.tail).dropAt 3).dropAt 3)⟩, ?_⟩
              refine Rg.one (i := 14) false true rfl (by kernel_rfl) (by kernel_rfl) (by kernel_rfl) ?_
              refine WL.appDX (kk := 1) hE hS 4 (m := 1) (runs_plain rfl) rfl rfl rfl aw31 rfl h_v1 (rfl) (xs := [false]) (Ev.cons (c1 := [.bool false]) rfl rfl (Ev.nil)) rfl rfl hx125 rfl ?_; clear hE hS a w; intro a126 c127 cs128 a w h129 hE hS
              refine WL.nil ?_
              refine ⟨⟨fun h => absurd h (by decide), fun _ => ((hS.dropAt 3).dropAt 3)⟩, ?_⟩
              refine Rg.one (i := 15) false true rfl (by kernel_rfl) (by kernel_rfl) (by kernel_rfl) ?_
              refine WL.vS hS hE (runs_plain rfl) (Gives.nilOk hE rfl) rfl ?_; clear hE a; intro a hE
              refine WL.nil ?_
              refine ⟨⟨fun h => absurd h (by decide), fun _ => ((hS.dropAt 3).dropAt 3)⟩, ?_⟩
              refine Rg.takeP (i := 16) hE rfl (by kernel_rfl) (runs_plain rfl) (Gives.fld hE rfl fl48_3) rfl (tw_sel (fun h => absurd h (by decide)) (fun _ => ((hS.dropAt 3).dropAt 3))) ?_; clear hE a; intro a hE
              refine Rg.one (i := 17) false false rfl (by kernel_rfl) (by kernel_rfl) (by kernel_rfl) ?_
              refine WL.storeI hE hS 2 rfl [.int .i64 y0.rows, .int .i64 y0.across, .int .i64 y0.stops, .slice a119 x117.length c120, .slice a_v1 y0.cancelled.length c_v1] (runs_plain rfl) rfl rfl rfl ty30 rfl rfl rfl rfl ?_; clear hE hS a w; intro a w hE hS
              refine WL.nil ?_
              refine ⟨⟨fun h => absurd h (by decide), fun h => absurd h (by decide)⟩, ?_⟩
              refine Rg.one (i := 18) false false rfl (by kernel_rfl) (by kernel_rfl) (by kernel_rfl) ?_
              refine WL.vS hS hE (runs_plain rfl) (Gives.nilOk hE rfl) rfl ?_; clear hE a; intro a hE
              refine WL.nil ?_
              refine ⟨⟨fun h => absurd h (by decide), fun h => absurd h (by decide)⟩, ?_⟩
              refine Rg.takeP (i := 19) hE rfl (by kernel_rfl) (runs_plain rfl) (Gives.fld hE rfl fl48_4) rfl (tw_sel (fun h => absurd h (by decide)) (fun h => absurd h (by decide))) ?_; clear hE a; intro a hE
              refine Rg.one (i := 20) false false rfl (by kernel_rfl) (by kernel_rfl) (by kernel_rfl) ?_
              refine WL.storeI hE hS 2 rfl [.int .i64 y0.rows, .int .i64 y0.across, .int .i64 y0.stops, .slice a119 x117.length c120, .slice a126 x124.length c127] (runs_plain rfl) rfl rfl rfl ty31 rfl rfl rfl rfl ?_; clear hE hS a w; intro a w hE hS
              refine WL.nil ?_
              refine ⟨⟨fun h => absurd h (by decide), fun h => absurd h (by decide)⟩, ?_⟩
              refine Rg.done (by kernel_rfl) ?_
              exact key _ _ _ _ _ _ _ _ h114 h94 h122 h129 (hE.pick _ ⟨rfl, rfl, trivial⟩) hS
          · refine Br.mk (i := 13) true true rfl (by kernel_rfl) (by kernel_rfl) ?_
            refine WL.lit hE hS (e := 4) (es := 1) (vs := [(0, .bool false)]) (cs := [.bool false]) (runs_plain rfl) rfl (by kernel_rfl) rfl ?_; clear hE hS a w; intro b123 a w hE hS
            refine WL.nil ?_
            refine ⟨⟨fun _ => (hS.tail), fun _ => (((hS.tail).dropAt 3).dropAt 3)⟩, ?_⟩
            refine Rg.many 7 [10] (by kernel_rfl) ⟨?_, ?_, trivial⟩
            · refine Br.mk (i := 7) true true rfl (by kernel_rfl) (by kernel_rfl) ?_
              refine WL.lit hE hS (e := 39) (es := 4) (vs := [(0, .agg (List.toArray [.int .i64 ((y0.bookings.length : Nat) : Int), .int .i64 x1, .int .i64 x2, .slice a100 q98.length c101]))]) (cs := [.int .i64 ((y0.bookings.length : Nat) : Int), .int .i64 x1, .int .i64 x2, .slice a100 q98.length c101]) (runs_plain rfl) rfl (by kernel_rfl) rfl ?_; clear hE hS a w; intro b116 a w hE hS
              refine WL.nil ?_
              refine ⟨⟨fun _ => ((hS.tail).tail), fun _ => ((((hS.tail).tail).dropAt 3).dropAt 3)⟩, ?_⟩
              refine Rg.many 8 [10] (by kernel_rfl) ⟨?_, ?_, trivial⟩
              · refine Br.mk (i := 8) false true rfl (by kernel_rfl) (by kernel_rfl) ?_
                refine WL.appDX (kk := 48) hE hS 4 (m := 1) (runs_plain rfl) rfl rfl rfl aw30 rfl h_v0 (rfl) (xs := [(FareBooking.mk ((y0.bookings.length : Nat) : Int) x1 x2 q98)]) (Ev.cons (c1 := [.int .i64 ((y0.bookings.length : Nat) : Int), .int .i64 x1, .int .i64 x2, .slice a100 q98.length c101]) ⟨_, _, rfl, h114⟩ rfl (Ev.nil)) rfl rfl hx118 rfl ?_; clear hE hS a w; intro a119 c120 cs121 a w h122 hE hS
                refine WL.nil ?_
                refine ⟨⟨fun h => absurd h (by decide), fun _ => (((hS.tail).dropAt 3).dropAt 3)⟩, ?_⟩
                refine Rg.one (i := 10) false true rfl (by kernel_rfl) (by kernel_rfl) (by kernel_rfl) ?_
                refine WL.vS hS hE (runs_plain rfl) (Gives.nilOk hE rfl) rfl ?_; clear hE a; intro a hE
                refine WL.nil ?_
                refine ⟨⟨fun h => absurd h (by decide), fun _ => (((hS.tail).dropAt 3).dropAt 3)⟩, ?_⟩
                refine Rg.takeP (i := 11) hE rfl (by kernel_rfl) (runs_plain rfl) (Gives.fld hE rfl fl48_4) rfl (tw_sel (fun h => absurd h (by decide)) (fun _ => (((hS.tail).dropAt 3).dropAt 3))) ?_; clear hE a; intro a hE
                refine Rg.take (i := 12) false rfl hE rfl (by kernel_rfl) (runs_plain rfl) (Gives.loadB hE 2 rfl rfl rfl ty31) rfl (tw_sel (fun h => absurd h (by decide)) (fun _ => (((hS.tail).dropAt 3).dropAt 3))) ?_; clear hE a; intro a hE
                refine Rg.one (i := 14) false true rfl (by kernel_rfl) (by kernel_rfl) (by kernel_rfl) ?_
                refine WL.appDX (kk := 1) hE hS 4 (m := 1) (runs_plain rfl) rfl rfl rfl aw31 rfl h_v1 (rfl) (xs := [false]) (Ev.cons (c1 := [.bool false]) rfl rfl (Ev.nil)) rfl rfl hx125 rfl ?_; clear hE hS a w; intro a126 c127 cs128 a w h129 hE hS
                refine WL.nil ?_
                refine ⟨⟨fun h => absurd h (by decide), fun _ => ((hS.dropAt 3).dropAt 3)⟩, ?_⟩
                refine Rg.one (i := 15) false true rfl (by kernel_rfl) (by kernel_rfl) (by kernel_rfl) ?_
                refine WL.vS hS hE (runs_plain rfl) (Gives.nilOk hE rfl) rfl ?_; clear hE a; intro a hE
                refine WL.nil ?_
                refine ⟨⟨fun h => absurd h (by decide), fun _ => ((hS.dropAt 3).dropAt 3)⟩, ?_⟩
                refine Rg.takeP (i := 16) hE rfl (by kernel_rfl) (runs_plain rfl) (Gives.fld hE rfl fl48_3) rfl (tw_sel (fun h => absurd h (by decide)) (fun _ => ((hS.dropAt 3).dropAt 3))) ?_; clear hE a; intro a hE
                refine Rg.one (i := 17) false false rfl (by kernel_rfl) (by kernel_rfl) (by kernel_rfl) ?_
                refine WL.storeI hE hS 2 rfl [.int .i64 y0.rows, .int .i64 y0.across, .int .i64 y0.stops, .slice a119 x117.length c120, .slice a_v1 y0.cancelled.length c_v1] (runs_plain rfl) rfl rfl rfl ty30 rfl rfl rfl rfl ?_; clear hE hS a w; intro a w hE hS
                refine WL.nil ?_
                refine ⟨⟨fun h => absurd h (by decide), fun h => absurd h (by decide)⟩, ?_⟩
                refine Rg.one (i := 18) false false rfl (by kernel_rfl) (by kernel_rfl) (by kernel_rfl) ?_
                refine WL.vS hS hE (runs_plain rfl) (Gives.nilOk hE rfl) rfl ?_; clear hE a; intro a hE
                refine WL.nil ?_
                refine ⟨⟨fun h => absurd h (by decide), fun h => absurd h (by decide)⟩, ?_⟩
                refine Rg.takeP (i := 19) hE rfl (by kernel_rfl) (runs_plain rfl) (Gives.fld hE rfl fl48_4) rfl (tw_sel (fun h => absurd h (by decide)) (fun h => absurd h (by decide))) ?_; clear hE a; intro a hE
                refine Rg.one (i := 20) false false rfl (by kernel_rfl) (by kernel_rfl) (by kernel_rfl) ?_
                refine WL.storeI hE hS 2 rfl [.int .i64 y0.rows, .int .i64 y0.across, .int .i64 y0.stops, .slice a119 x117.length c120, .slice a126 x124.length c127] (runs_plain rfl) rfl rfl rfl ty31 rfl rfl rfl rfl ?_; clear hE hS a w; intro a w hE hS
                refine WL.nil ?_
                refine ⟨⟨fun h => absurd h (by decide), fun h => absurd h (by decide)⟩, ?_⟩
                refine Rg.done (by kernel_rfl) ?_
                exact key _ _ _ _ _ _ _ _ h114 h94 h122 h129 (hE.pick _ ⟨rfl, rfl, trivial⟩) hS
              · refine Br.mk (i := 10) true true rfl (by kernel_rfl) (by kernel_rfl) ?_
                refine WL.vS hS hE (runs_plain rfl) (Gives.nilOk hE rfl) rfl ?_; clear hE a; intro a hE
                refine WL.nil ?_
                refine ⟨⟨fun _ => ((hS.tail).tail), fun _ => ((((hS.tail).tail).dropAt 3).dropAt 3)⟩, ?_⟩
                refine Rg.takeP (i := 11) hE rfl (by kernel_rfl) (runs_plain rfl) (Gives.fld hE rfl fl48_4) rfl (tw_sel (fun _ => ((hS.tail).tail)) (fun _ => ((((hS.tail).tail).dropAt 3).dropAt 3))) ?_; clear hE a; intro a hE
                refine Rg.take (i := 12) false rfl hE rfl (by kernel_rfl) (runs_plain rfl) (Gives.loadB hE 2 rfl rfl rfl ty31) rfl (tw_sel (fun _ => ((hS.tail).tail)) (fun _ => ((((hS.tail).tail).dropAt 3).dropAt 3))) ?_; clear hE a; intro a hE
                refine Rg.one (i := 8) false true rfl (by kernel_rfl) (by kernel_rfl) (by kernel_rfl) ?_
                refine WL.appDX (kk := 48) hE hS 4 (m := 1) (runs_plain rfl) rfl rfl rfl aw30 rfl h_v0 (rfl) (xs := [(FareBooking.mk ((y0.bookings.length : Nat) : Int) x1 x2 q98)]) (Ev.cons (c1 := [.int .i64 ((y0.bookings.length : Nat) : Int), .int .i64 x1, .int .i64 x2, .slice a100 q98.length c101]) ⟨_, _, rfl, h114⟩ rfl (Ev.nil)) rfl rfl hx118 rfl ?_; clear hE hS a w; intro a119 c120 cs121 a w h122 hE hS
                refine WL.nil ?_
                refine ⟨⟨fun h => absurd h (by decide), fun _ => (((hS.tail).dropAt 3).dropAt 3)⟩, ?_⟩
                refine Rg.one (i := 14) false true rfl (by kernel_rfl) (by kernel_rfl) (by kernel_rfl) ?_
                refine WL.appDX (kk := 1) hE hS 4 (m := 1) (runs_plain rfl) rfl rfl rfl aw31 rfl h_v1 (rfl) (xs := [false]) (Ev.cons (c1 := [.bool false]) rfl rfl (Ev.nil)) rfl rfl hx125 rfl ?_; clear hE hS a w; intro a126 c127 cs128 a w h129 hE hS
                refine WL.nil ?_
                refine ⟨⟨fun h => absurd h (by decide), fun _ => ((hS.dropAt 3).dropAt 3)⟩, ?_⟩
                refine Rg.one (i := 15) false true rfl (by kernel_rfl) (by kernel_rfl) (by kernel_rfl) ?_
                refine WL.vS hS hE (runs_plain rfl) (Gives.nilOk hE rfl) rfl ?_; clear hE a; intro a hE
                refine WL.nil ?_
                refine ⟨⟨fun h => absurd h (by decide), fun _ => ((hS.dropAt 3).dropAt 3)⟩, ?_⟩
                refine Rg.takeP (i := 16) hE rfl (by kernel_rfl) (runs_plain rfl) (Gives.fld hE rfl fl48_3) rfl (tw_sel (fun h => absurd h (by decide)) (fun _ => ((hS.dropAt 3).dropAt 3))) ?_; clear hE a; intro a hE
                refine Rg.one (i := 17) false false rfl (by kernel_rfl) (by kernel_rfl) (by kernel_rfl) ?_
                refine WL.storeI hE hS 2 rfl [.int .i64 y0.rows, .int .i64 y0.across, .int .i64 y0.stops, .slice a119 x117.length c120, .slice a_v1 y0.cancelled.length c_v1] (runs_plain rfl) rfl rfl rfl ty30 rfl rfl rfl rfl ?_; clear hE hS a w; intro a w hE hS
                refine WL.nil ?_
                refine ⟨⟨fun h => absurd h (by decide), fun h => absurd h (by decide)⟩, ?_⟩
                refine Rg.one (i := 18) false false rfl (by kernel_rfl) (by kernel_rfl) (by kernel_rfl) ?_
                refine WL.vS hS hE (runs_plain rfl) (Gives.nilOk hE rfl) rfl ?_; clear hE a; intro a hE
                refine WL.nil ?_
                refine ⟨⟨fun h => absurd h (by decide), fun h => absurd h (by decide)⟩, ?_⟩
                refine Rg.takeP (i := 19) hE rfl (by kernel_rfl) (runs_plain rfl) (Gives.fld hE rfl fl48_4) rfl (tw_sel (fun h => absurd h (by decide)) (fun h => absurd h (by decide))) ?_; clear hE a; intro a hE
                refine Rg.one (i := 20) false false rfl (by kernel_rfl) (by kernel_rfl) (by kernel_rfl) ?_
                refine WL.storeI hE hS 2 rfl [.int .i64 y0.rows, .int .i64 y0.across, .int .i64 y0.stops, .slice a119 x117.length c120, .slice a126 x124.length c127] (runs_plain rfl) rfl rfl rfl ty31 rfl rfl rfl rfl ?_; clear hE hS a w; intro a w hE hS
                refine WL.nil ?_
                refine ⟨⟨fun h => absurd h (by decide), fun h => absurd h (by decide)⟩, ?_⟩
                refine Rg.done (by kernel_rfl) ?_
                exact key _ _ _ _ _ _ _ _ h114 h94 h122 h129 (hE.pick _ ⟨rfl, rfl, trivial⟩) hS
            · refine Br.mk (i := 10) true true rfl (by kernel_rfl) (by kernel_rfl) ?_
              refine WL.vS hS hE (runs_plain rfl) (Gives.nilOk hE rfl) rfl ?_; clear hE a; intro a hE
              refine WL.nil ?_
              refine ⟨⟨fun _ => (hS.tail), fun _ => (((hS.tail).dropAt 3).dropAt 3)⟩, ?_⟩
              refine Rg.takeP (i := 11) hE rfl (by kernel_rfl) (runs_plain rfl) (Gives.fld hE rfl fl48_4) rfl (tw_sel (fun _ => (hS.tail)) (fun _ => (((hS.tail).dropAt 3).dropAt 3))) ?_; clear hE a; intro a hE
              refine Rg.take (i := 12) false rfl hE rfl (by kernel_rfl) (runs_plain rfl) (Gives.loadB hE 2 rfl rfl rfl ty31) rfl (tw_sel (fun _ => (hS.tail)) (fun _ => (((hS.tail).dropAt 3).dropAt 3))) ?_; clear hE a; intro a hE
              refine Rg.one (i := 7) true true rfl (by kernel_rfl) (by kernel_rfl) (by kernel_rfl) ?_
              refine WL.lit hE hS (e := 39) (es := 4) (vs := [(0, .agg (List.toArray [.int .i64 ((y0.bookings.length : Nat) : Int), .int .i64 x1, .int .i64 x2, .slice a100 q98.length c101]))]) (cs := [.int .i64 ((y0.bookings.length : Nat) : Int), .int .i64 x1, .int .i64 x2, .slice a100 q98.length c101]) (runs_plain rfl) rfl (by kernel_rfl) rfl ?_; clear hE hS a w; intro b116 a w hE hS
              refine WL.nil ?_
              refine ⟨⟨fun _ => ((hS.tail).tail), fun _ => ((((hS.tail).tail).dropAt 3).dropAt 3)⟩, ?_⟩
              refine Rg.one (i := 8) false true rfl (by kernel_rfl) (by kernel_rfl) (by kernel_rfl) ?_
              refine WL.appDX (kk := 48) hE hS 4 (m := 1) (runs_plain rfl) rfl rfl rfl aw30 rfl h_v0 (rfl) (xs := [(FareBooking.mk ((y0.bookings.length : Nat) : Int) x1 x2 q98)]) (Ev.cons (c1 := [.int .i64 ((y0.bookings.length : Nat) : Int), .int .i64 x1, .int .i64 x2, .slice a100 q98.length c101]) ⟨_, _, rfl, h114⟩ rfl (Ev.nil)) rfl rfl hx118 rfl ?_; clear hE hS a w; intro a119 c120 cs121 a w h122 hE hS
              refine WL.nil ?_
              refine ⟨⟨fun h => absurd h (by decide), fun _ => (((hS.tail).dropAt 3).dropAt 3)⟩, ?_⟩
              refine Rg.one (i := 14) false true rfl (by kernel_rfl) (by kernel_rfl) (by kernel_rfl) ?_
              refine WL.appDX (kk := 1) hE hS 4 (m := 1) (runs_plain rfl) rfl rfl rfl aw31 rfl h_v1 (rfl) (xs := [false]) (Ev.cons (c1 := [.bool false]) rfl rfl (Ev.nil)) rfl rfl hx125 rfl ?_; clear hE hS a w; intro a126 c127 cs128 a w h129 hE hS
              refine WL.nil ?_
              refine ⟨⟨fun h => absurd h (by decide), fun _ => ((hS.dropAt 3).dropAt 3)⟩, ?_⟩
              refine Rg.one (i := 15) false true rfl (by kernel_rfl) (by kernel_rfl) (by kernel_rfl) ?_
              refine WL.vS hS hE (runs_plain rfl) (Gives.nilOk hE rfl) rfl ?_; clear hE a; intro a hE
              refine WL.nil ?_
              refine ⟨⟨fun h => absurd h (by decide), fun _ => ((hS.dropAt 3).dropAt 3)⟩, ?_⟩
              refine Rg.takeP (i := 16) hE rfl (by kernel_rfl) (runs_plain rfl) (Gives.fld hE rfl fl48_3) rfl (tw_sel (fun h => absurd h (by decide)) (fun _ => ((hS.dropAt 3).dropAt 3))) ?_; clear hE a; intro a hE
              refine Rg.one (i := 17) false false rfl (by kernel_rfl) (by kernel_rfl) (by kernel_rfl) ?_
              refine WL.storeI hE hS 2 rfl [.int .i64 y0.rows, .int .i64 y0.across, .int .i64 y0.stops, .slice a119 x117.length c120, .slice a_v1 y0.cancelled.length c_v1] (runs_plain rfl) rfl rfl rfl ty30 rfl rfl rfl rfl ?_; clear hE hS a w; intro a w hE hS
              refine WL.nil ?_
              refine ⟨⟨fun h => absurd h (by decide), fun h => absurd h (by decide)⟩, ?_⟩
              refine Rg.one (i := 18) false false rfl (by kernel_rfl) (by kernel_rfl) (by kernel_rfl) ?_
              refine WL.vS hS hE (runs_plain rfl) (Gives.nilOk hE rfl) rfl ?_; clear hE a; intro a hE
              refine WL.nil ?_
              refine ⟨⟨fun h => absurd h (by decide), fun h => absurd h (by decide)⟩, ?_⟩
              refine Rg.takeP (i := 19) hE rfl (by kernel_rfl) (runs_plain rfl) (Gives.fld hE rfl fl48_4) rfl (tw_sel (fun h => absurd h (by decide)) (fun h => absurd h (by decide))) ?_; clear hE a; intro a hE
              refine Rg.one (i := 20) false false rfl (by kernel_rfl) (by kernel_rfl) (by kernel_rfl) ?_
              refine WL.storeI hE hS 2 rfl [.int .i64 y0.rows, .int .i64 y0.across, .int .i64 y0.stops, .slice a119 x117.length c120, .slice a126 x124.length c127] (runs_plain rfl) rfl rfl rfl ty31 rfl rfl rfl rfl ?_; clear hE hS a w; intro a w hE hS
              refine WL.nil ?_
              refine ⟨⟨fun h => absurd h (by decide), fun h => absurd h (by decide)⟩, ?_⟩
              refine Rg.done (by kernel_rfl) ?_
              exact key _ _ _ _ _ _ _ _ h114 h94 h122 h129 (hE.pick _ ⟨rfl, rfl, trivial⟩) hS
        clear hE hS a w; intro cs121 cs128 a119 c120 a126 c127 a w h114 h94 h122 h129 hE hS
        subst hK115
        refine W.seq ?_
        refine W.region ?_
        refine WL.vS hS hE (runs_plain rfl) (Gives.fld hE rfl fl39_3) rfl ?_; clear hE a; intro a hE
        refine WL.vS hS hE (runs_plain rfl) (Gives.loadB hE 0 rfl rfl rfl ty22) rfl ?_; clear hE a; intro a hE
        obtain ⟨q131, hq132, hr⟩ := bindS hr
        have hc_ := SlicesCloneLint_ok hS h114 hq132
        refine WL.fnq hE (hc_) (runs_plain rfl) bd24 rfl rfl rfl ?_
        clear hE hS hc_; rintro e w ⟨a133, c134, n135, cs136, rfl, h137, rfl, hS⟩; refine ⟨_, rfl, ?_⟩; clear a; intro a hE
        refine WL.vS hS hE (runs_plain rfl) (Gives.fld hE rfl fl39_3) rfl ?_; clear hE a; intro a hE
        refine WL.storeI hE hS 1 rfl [.int .i64 ((y0.bookings.length : Nat) : Int), .int .i64 x1, .int .i64 x2, .slice a133 q131.length c134] (runs_plain rfl) rfl rfl rfl ty22 rfl rfl rfl rfl ?_; clear hE hS a w; intro a w hE hS
        refine WL.nil ?_
        refine W.seq ?_
        refine W.region ?_
        refine WL.vS hS hE (runs_plain rfl) (Gives.loadBA hE 1 rfl rfl ty39) rfl ?_; clear hE a; intro a hE
        refine WL.storeI hE hS 6 rfl [.int .i64 ((y0.bookings.length : Nat) : Int), .int .i64 x1, .int .i64 x2, .slice a133 q131.length c134] (runs_plain rfl) rfl rfl rfl ty39 rfl rfl rfl rfl ?_; clear hE hS a w; intro a w hE hS
        refine WL.vS hS hE (runs_plain rfl) (Gives.p hE rfl) rfl ?_; clear hE a; intro a hE
        refine WL.nil ?_
        refine W.ret ?_
        have hF := hS.fixD RI.mono 0 rfl h137 rfl; clear hS; obtain ⟨s139, hle140, hS, h141⟩ := hF
        replace h114 := Sl.mono RI.mono hle140 h114
        replace h94 := Ev.mono RI.mono hle140 h94
        replace h122 := Ev.mono RFareBooking.mono hle140 h122
        replace h129 := Ev.mono RB.mono hle140 h129
        refine finG (fn := Try.f12) (rs := [.cell 8 39, .tmp 9]) (vs := [_, _]) hE rfl ⟨⟨_, rfl, .inl ⟨_, rfl, hS.seesAt 5 rfl, ty39⟩⟩, rfl, trivial⟩ ?_
        obtain rfl := Option.some.inj hr
        replace hS := hS.tail
        replace hS := hS.tail
        replace hS := hS.dropAt 3
        exact ⟨_, a119, c120, x117.length, cs121, a126, c127, x124.length, cs128, s139, rfl, (Sg.Le.trans hle113 hle140), ⟨_, _, rfl, h141⟩, h122, (rfl), h129, (rfl), hS⟩
set_option maxHeartbeats 8000000 in
theorem SlicesEqualLint_ok  {w : World} {s : Sg} {R : List HP} {x0 : List Int} {a0 : Option Addr} {c0 : Nat} {x1 : List Int} {a1 : Option Addr} {c1 : Nat} (hS : St w s (R)) (h0 : Sl 1 (RI .i64) s a0 c0 x0) (h1 : Sl 1 (RI .i64) s a1 c1 x1) {r : Bool} (hr : SlicesEqualLint x0 x1 = some r) :
    Calls Try.prog 11 [.slice a0 x0.length c0, .slice a1 x1.length c1].toArray w (fun e w => e = .returned (.bool r) ∧ St w s (R)) := by
  refine enter Try.func11 rfl rfl rfl fun a hE => ?_
  rw [SlicesEqualLint] at hr
  refine W.seq ?_
  refine W.region ?_
  refine WL.vS hS hE (runs_plain rfl) (Gives.p hE rfl) rfl ?_; clear hE a; intro a hE
  refine WL.nil ?_
  refine W.seq ?_
  refine W.seq ?_
  refine W.region ?_
  refine WL.vS hS hE (runs_plain rfl) (Gives.p hE rfl) rfl ?_; clear hE a; intro a hE
  refine WL.vS hS hE (runs_plain rfl) (Gives.len hE rfl sl22) rfl ?_; clear hE a; intro a hE
  refine WL.vS hS hE (runs_plain rfl) (Gives.p hE rfl) rfl ?_; clear hE a; intro a hE
  refine WL.vS hS hE (runs_plain rfl) (Gives.len hE rfl sl22) rfl ?_; clear hE a; intro a hE
  refine WL.vS hS hE (runs_plain rfl) (Gives.p hE rfl) rfl ?_; clear hE a; intro a hE
  refine WL.nil ?_
  refine W.cond hE rfl (fun hc51 => ?_) (fun hc51 => ?_)
  · replace hr := iteT hc51 hr
    refine W.seq ?_
    refine W.region ?_
    refine WL.vS hS hE (runs_plain rfl) (Gives.p hE rfl) rfl ?_; clear hE a; intro a hE
    refine WL.nil ?_
    refine W.ret ?_
    refine finG (fn := Try.f11) (rs := [.tmp 4]) (vs := [_]) hE rfl ⟨rfl, trivial⟩ ?_
    obtain rfl := Option.some.inj hr
    exact ⟨rfl, hS⟩
  · replace hr := iteF hc51 hr
    refine W.skip ?_
    refine W.seq ?_
    refine W.seq ?_
    refine W.region ?_
    refine WL.vS hS hE (runs_plain rfl) (Gives.p hE rfl) rfl ?_; clear hE a; intro a hE
    refine WL.vS hS hE (runs_plain rfl) (Gives.len hE rfl sl22) rfl ?_; clear hE a; intro a hE
    refine WL.vS hS hE (runs_plain rfl) (Gives.p hE rfl) rfl ?_; clear hE a; intro a hE
    refine WL.nil ?_
    obtain ⟨q53, hq52, hr⟩ := bindS hr
    refine W.cut (fun a w => (.next ()) = q53 ∧ Rep a 26 [] ∧ St w s (R)) ?_ ?_
    · refine W.block ?_
      refine W.loop (fun m a w => ∃ (rest56 : List Int) (k54 : Nat), rest56.length = m ∧ x0.drop k54 = rest56 ∧ SlicesEqualLint.loop1 x1 rest56 k54 = some q53 ∧ Rep a 26 [(0, .slice a0 x0.length c0), (1, .slice a1 x1.length c1), (12, .int .i64 ((x0).length : Int)), (13, .int .i64 ((k54 : Nat) : Int))] ∧ St w s (R)) (m := x0.length) ⟨x0, 0, rfl, rfl, hq52, hE.pick _ ⟨rfl, rfl, rfl, rfl, trivial⟩, hS⟩ ?_
      clear hE hS a w hq52; rintro m60 a w ⟨rest56, k54, rfl, hd57, hq52, hE, hS⟩
      refine W.gen fun K63 hK63 => ?_
      rcases rest56 with _ | ⟨x55, rest56⟩
      · have hlt58 := drop_nil hd57
        refine W.seq ?_
        refine W.region ?_
        refine WL.vS hS hE (runs_plain rfl) (Gives.p hE rfl) rfl ?_; clear hE a; intro a hE
        refine WL.nil ?_
        refine W.seq ?_
        refine W.condF hE rfl (decide_eq_false (by omega)) ?_
        subst hK63
        refine W.exit rfl ?_
        exact ⟨Option.some.inj hq52, hE.pick _ trivial, hS⟩
      · obtain ⟨hlt58, hx59, hd57⟩ := drop_cons hd57
        rw [SlicesEqualLint.loop1] at hq52
        refine W.seq ?_
        refine W.region ?_
        refine WL.vS hS hE (runs_plain rfl) (Gives.p hE rfl) rfl ?_; clear hE a; intro a hE
        refine WL.nil ?_
        refine W.seq ?_
        refine W.condT hE rfl (decide_eq_true (by omega)) ?_
        refine W.skip ?_
        refine W.seq ?_
        refine W.block ?_
        refine W.seq ?_
        refine W.region ?_
        refine WL.vS hS hE (runs_plain rfl) (Gives.p hE rfl) rfl ?_; clear hE a; intro a hE
        refine WL.vS hS hE (runs_plain rfl) (Gives.p hE rfl) rfl ?_; clear hE a; intro a hE
        refine WL.nil ?_
        refine W.seq ?_
        refine W.regionQ (C := fun w => St w s (R)) mixed (by kernel_rfl) hS.drew ?_
        refine QL.v hE (runs_plain rfl) (Gives.p hE rfl) rfl ?_; clear hE a; intro a hE
        refine QL.v hE (runs_plain rfl) (Gives.p hE rfl) rfl ?_; clear hE a; intro a hE
        obtain ⟨cs64, hl65, hR66, hat67⟩ := h0.at hx59
        subst hR66
        refine QL.v hE (runs_plain rfl) (Gives.idx hE k54 rfl rfl sl22 rfl hlt58 (h0.aok hlt58)) rfl ?_; clear hE a; intro a hE
        refine QL.v hE (runs_plain rfl) (Gives.load1 hE rfl (fun w h => hat67 w _ h) ty3) rfl ?_; clear hE a; intro a hE
        refine QL.v hE (runs_plain rfl) (Gives.p hE rfl) rfl ?_; clear hE a; intro a hE
        refine QL.v hE (runs_plain rfl) (Gives.p hE rfl) rfl ?_; clear hE a; intro a hE
        obtain ⟨x68, hx69, hq52⟩ := bindS hq52
        obtain ⟨hi70, hlt71, hy72⟩ := gx_some hx69
        obtain ⟨cs73, hl74, hR75, hat76⟩ := h1.at hy72
        subst hR75
        refine QL.v hE (runs_plain rfl) (Gives.idx hE (((k54 : Nat) : Int)).toNat rfl rfl sl22 hi70 hlt71 (h1.aok hlt71)) rfl ?_; clear hE a; intro a hE
        refine QL.v hE (runs_plain rfl) (Gives.load1 hE rfl (fun w h => hat76 w _ h) ty3) rfl ?_; clear hE a; intro a hE
        refine QL.v hE (runs_plain rfl) (Gives.p hE rfl) rfl ?_; clear hE a; intro a hE
        refine QL.nil ?_; clear hS w; intro w hS
        refine W.cond hE rfl (fun hc77 => ?_) (fun hc77 => ?_)
        · replace hq52 := iteT hc77 hq52
          refine W.seq ?_
          refine W.region ?_
          refine WL.vS hS hE (runs_plain rfl) (Gives.p hE rfl) rfl ?_; clear hE a; intro a hE
          refine WL.nil ?_
          refine W.ret ?_
          subst hK63
          rw [← Option.some.inj hq52] at hr
          dsimp only at hr
          refine finG (fn := Try.f11) (rs := [.tmp 4]) (vs := [_]) hE rfl ⟨rfl, trivial⟩ ?_
          obtain rfl := Option.some.inj hr
          exact ⟨rfl, hS⟩
        · replace hq52 := iteF hc77 hq52
          refine W.skip ?_
          refine W.region ?_
          refine WL.vS hS hE (runs_plain rfl) (Gives.inc hE rfl (by have := h0.small; omega)) rfl ?_; clear hE a; intro a hE
          refine WL.vS hS hE (runs_plain rfl) (Gives.p hE rfl) rfl ?_; clear hE a; intro a hE
          refine WL.nil ?_
          subst hK63
          exact ⟨rest56.length, Nat.lt_succ_self _, rest56, k54 + 1, rfl, hd57, hq52, hE.pick _ ⟨rfl, rfl, rfl, rfl, trivial⟩, hS⟩
    · clear hE hS a w; rintro a w ⟨rfl, hE, hS⟩
      dsimp only at hr
      refine W.seq ?_
      refine W.region ?_
      refine WL.vS hS hE (runs_plain rfl) (Gives.p hE rfl) rfl ?_; clear hE a; intro a hE
      refine WL.nil ?_
      refine W.ret ?_
      refine finG (fn := Try.f11) (rs := [.tmp 4]) (vs := [_]) hE rfl ⟨rfl, trivial⟩ ?_
      obtain rfl := Option.some.inj hr
      exact ⟨rfl, hS⟩
set_option maxHeartbeats 8000000 in
theorem Fishref2SameBooking_ok  {w : World} {s : Sg} {R : List HP} {x0 : FareBooking} {a0_0 : Option Addr} {c0_0 : Nat} {x1 : FareBooking} {a1_0 : Option Addr} {c1_0 : Nat} (hS : St w s (R)) (h0_0 : Sl 1 (RI .i64) s a0_0 c0_0 x0.Seats) (h1_0 : Sl 1 (RI .i64) s a1_0 c1_0 x1.Seats) {r : Bool} (hr : Fishref2SameBooking x0 x1 = some r) :
    Calls Try.prog 14 [.agg (List.toArray [.int .i64 x0.No, .int .i64 x0.From, .int .i64 x0.To, .slice a0_0 x0.Seats.length c0_0]), .agg (List.toArray [.int .i64 x1.No, .int .i64 x1.From, .int .i64 x1.To, .slice a1_0 x1.Seats.length c1_0])].toArray w (fun e w => e = .returned (.bool r) ∧ St w s (R)) := by
  refine enter Try.func14 rfl rfl rfl fun a hE => ?_
  rw [Fishref2SameBooking] at hr
  refine W.seq ?_
  refine W.region ?_
  refine WL.box hE hS (runs_plain rfl) rfl rfl rfl ?_; clear hE hS a w; intro b51 a w hE hS
  refine WL.box hE hS (runs_plain rfl) rfl rfl rfl ?_; clear hE hS a w; intro b52 a w hE hS
  refine WL.vS hS hE (runs_plain rfl) (Gives.p hE rfl) rfl ?_; clear hE a; intro a hE
  refine WL.nil ?_
  refine W.seq ?_
  obtain ⟨q54, hq53, hr⟩ := bindS hr
  refine W.cut (fun a w => ∃ (q57 : Bool), q57 = q54 ∧ Rep a 31 [(4, .bool q57)] ∧ St w s (pt b52 (.cells #[.int .i64 x1.No, .int .i64 x1.From, .int .i64 x1.To, .slice a1_0 x1.Seats.length c1_0] 39 (0, 0)) :: pt b51 (.cells #[.int .i64 x0.No, .int .i64 x0.From, .int .i64 x0.To, .slice a0_0 x0.Seats.length c0_0] 39 (0, 0)) :: R)) ?_ ?_
  · refine W.gen fun K58 hK58 => ?_
    refine W.region ?_
    refine WL.vS hS hE (runs_plain rfl) (Gives.fld hE rfl fl39_0) rfl ?_; clear hE a; intro a hE
    refine WL.vS hS hE (runs_plain rfl) (Gives.loadB hE 1 rfl rfl rfl ty3) rfl ?_; clear hE a; intro a hE
    refine WL.vS hS hE (runs_plain rfl) (Gives.fld hE rfl fl39_0) rfl ?_; clear hE a; intro a hE
    refine WL.vS hS hE (runs_plain rfl) (Gives.loadB hE 0 rfl rfl rfl ty3) rfl ?_; clear hE a; intro a hE
    refine WL.vS hS hE (runs_plain rfl) (Gives.p hE rfl) rfl ?_; clear hE a; intro a hE
    refine WL.vS hS hE (runs_plain rfl) (Gives.p hE rfl) rfl ?_; clear hE a; intro a hE
    rcases Bool.eq_false_or_eq_true (x0.No == x1.No) with hg59 | hg59
    · replace hq53 := iteT hg59 hq53
      refine WL.vS hS hE (runs_if hE rfl rfl rfl hg59) (Gives.fld hE rfl fl39_1) rfl ?_; clear hE a; intro a hE
      refine WL.vS hS hE (runs_if hE rfl rfl rfl hg59) (Gives.loadB hE 1 rfl rfl rfl ty3) rfl ?_; clear hE a; intro a hE
      refine WL.vS hS hE (runs_if hE rfl rfl rfl hg59) (Gives.fld hE rfl fl39_1) rfl ?_; clear hE a; intro a hE
      refine WL.vS hS hE (runs_if hE rfl rfl rfl hg59) (Gives.loadB hE 0 rfl rfl rfl ty3) rfl ?_; clear hE a; intro a hE
      refine WL.vS hS hE (runs_if hE rfl rfl rfl hg59) (Gives.p hE rfl) rfl ?_; clear hE a; intro a hE
      refine WL.vS hS hE (runs_plain rfl) (Gives.pickT hE rfl hg59 rfl) rfl ?_; clear hE a; intro a hE
      refine WL.vS hS hE (runs_plain rfl) (Gives.p hE rfl) rfl ?_; clear hE a; intro a hE
      rcases Bool.eq_false_or_eq_true (x0.From == x1.From) with hg60 | hg60
      · replace hq53 := iteT hg60 hq53
        refine WL.vS hS hE (runs_if hE rfl rfl rfl hg60) (Gives.fld hE rfl fl39_2) rfl ?_; clear hE a; intro a hE
        refine WL.vS hS hE (runs_if hE rfl rfl rfl hg60) (Gives.loadB hE 1 rfl rfl rfl ty3) rfl ?_; clear hE a; intro a hE
        refine WL.vS hS hE (runs_if hE rfl rfl rfl hg60) (Gives.fld hE rfl fl39_2) rfl ?_; clear hE a; intro a hE
        refine WL.vS hS hE (runs_if hE rfl rfl rfl hg60) (Gives.loadB hE 0 rfl rfl rfl ty3) rfl ?_; clear hE a; intro a hE
        refine WL.vS hS hE (runs_if hE rfl rfl rfl hg60) (Gives.p hE rfl) rfl ?_; clear hE a; intro a hE
        refine WL.vS hS hE (runs_plain rfl) (Gives.pickT hE rfl hg60 rfl) rfl ?_; clear hE a; intro a hE
        refine WL.vS hS hE (runs_plain rfl) (Gives.p hE rfl) rfl ?_; clear hE a; intro a hE
        rcases Bool.eq_false_or_eq_true (x0.To == x1.To) with hg61 | hg61
        · replace hq53 := iteT hg61 hq53
          refine WL.vS hS hE (runs_if hE rfl rfl rfl hg61) (Gives.fld hE rfl fl39_3) rfl ?_; clear hE a; intro a hE
          refine WL.vS hS hE (runs_if hE rfl rfl rfl hg61) (Gives.loadB hE 1 rfl rfl rfl ty22) rfl ?_; clear hE a; intro a hE
          refine WL.vS hS hE (runs_if hE rfl rfl rfl hg61) (Gives.fld hE rfl fl39_3) rfl ?_; clear hE a; intro a hE
          refine WL.vS hS hE (runs_if hE rfl rfl rfl hg61) (Gives.loadB hE 0 rfl rfl rfl ty22) rfl ?_; clear hE a; intro a hE
          obtain ⟨q62, hq63, hq53⟩ := bindS hq53
          have hc_ := SlicesEqualLint_ok hS h0_0 h1_0 hq63
          refine WL.fnq hE (hc_) (runs_if hE rfl rfl rfl hg61) bd11 rfl rfl rfl ?_
          clear hE hS hc_; rintro e w ⟨rfl, hS⟩; refine ⟨_, rfl, ?_⟩; clear a; intro a hE
          refine WL.vS hS hE (runs_plain rfl) (Gives.pickT hE rfl hg61 rfl) rfl ?_; clear hE a; intro a hE
          refine WL.vS hS hE (runs_plain rfl) (Gives.p hE rfl) rfl ?_; clear hE a; intro a hE
          refine WL.nil ?_
          subst hK58
          exact ⟨q62, Option.some.inj hq53, hE.pick _ ⟨rfl, trivial⟩, hS⟩
        · replace hq53 := iteF hg61 hq53
          refine WL.no hE (runs_not hE rfl rfl rfl (by rw [hg61]; decide)) rfl ?_; clear hE a; intro a hE
          refine WL.no hE (runs_not hE rfl rfl rfl (by rw [hg61]; decide)) rfl ?_; clear hE a; intro a hE
          refine WL.no hE (runs_not hE rfl rfl rfl (by rw [hg61]; decide)) rfl ?_; clear hE a; intro a hE
          refine WL.no hE (runs_not hE rfl rfl rfl (by rw [hg61]; decide)) rfl ?_; clear hE a; intro a hE
          refine WL.no hE (runs_not hE rfl rfl rfl (by rw [hg61]; decide)) rfl ?_; clear hE a; intro a hE
          refine WL.vS hS hE (runs_plain rfl) (Gives.pickF hE rfl hg61 rfl) rfl ?_; clear hE a; intro a hE
          refine WL.vS hS hE (runs_plain rfl) (Gives.p hE rfl) rfl ?_; clear hE a; intro a hE
          refine WL.nil ?_
          subst hK58
          exact ⟨false, Option.some.inj hq53, hE.pick _ ⟨rfl, trivial⟩, hS⟩
      · replace hq53 := iteF hg60 hq53
        refine WL.no hE (runs_not hE rfl rfl rfl (by rw [hg60]; decide)) rfl ?_; clear hE a; intro a hE
        refine WL.no hE (runs_not hE rfl rfl rfl (by rw [hg60]; decide)) rfl ?_; clear hE a; intro a hE
        refine WL.no hE (runs_not hE rfl rfl rfl (by rw [hg60]; decide)) rfl ?_; clear hE a; intro a hE
        refine WL.no hE (runs_not hE rfl rfl rfl (by rw [hg60]; decide)) rfl ?_; clear hE a; intro a hE
        refine WL.no hE (runs_not hE rfl rfl rfl (by rw [hg60]; decide)) rfl ?_; clear hE a; intro a hE
        refine WL.vS hS hE (runs_plain rfl) (Gives.pickF hE rfl hg60 rfl) rfl ?_; clear hE a; intro a hE
        refine WL.vS hS hE (runs_plain rfl) (Gives.p hE rfl) rfl ?_; clear hE a; intro a hE
        refine WL.no hE (runs_not hE rfl rfl rfl (by decide)) rfl ?_; clear hE a; intro a hE
        refine WL.no hE (runs_not hE rfl rfl rfl (by decide)) rfl ?_; clear hE a; intro a hE
        refine WL.no hE (runs_not hE rfl rfl rfl (by decide)) rfl ?_; clear hE a; intro a hE
        refine WL.no hE (runs_not hE rfl rfl rfl (by decide)) rfl ?_; clear hE a; intro a hE
        refine WL.no hE (runs_not hE rfl rfl rfl (by decide)) rfl ?_; clear hE a; intro a hE
        refine WL.vS hS hE (runs_plain rfl) (Gives.pickF hE rfl rfl rfl) rfl ?_; clear hE a; intro a hE
        refine WL.vS hS hE (runs_plain rfl) (Gives.p hE rfl) rfl ?_; clear hE a; intro a hE
        refine WL.nil ?_
        subst hK58
        exact ⟨false, Option.some.inj hq53, hE.pick _ ⟨rfl, trivial⟩, hS⟩
    · replace hq53 := iteF hg59 hq53
      refine WL.no hE (runs_not hE rfl rfl rfl (by rw [hg59]; decide)) rfl ?_; clear hE a; intro a hE
      refine WL.no hE (runs_not hE rfl rfl rfl (by rw [hg59]; decide)) rfl ?_; clear hE a; intro a hE
      refine WL.no hE (runs_not hE rfl rfl rfl (by rw [hg59]; decide)) rfl ?_; clear hE a; intro a hE
      refine WL.no hE (runs_not hE rfl rfl rfl (by rw [hg59]; decide)) rfl ?_; clear hE a; intro a hE
      refine WL.no hE (runs_not hE rfl rfl rfl (by rw [hg59]; decide)) rfl ?_; clear hE a; intro a hE
      refine WL.vS hS hE (runs_plain rfl) (Gives.pickF hE rfl hg59 rfl) rfl ?_; clear hE a; intro a hE
      refine WL.vS hS hE (runs_plain rfl) (Gives.p hE rfl) rfl ?_; clear hE a; intro a hE
      refine WL.no hE (runs_not hE rfl rfl rfl (by decide)) rfl ?_; clear hE a; intro a hE
      refine WL.no hE (runs_not hE rfl rfl rfl (by decide)) rfl ?_; clear hE a; intro a hE
      refine WL.no hE (runs_not hE rfl rfl rfl (by decide)) rfl ?_; clear hE a; intro a hE
      refine WL.no hE (runs_not hE rfl rfl rfl (by decide)) rfl ?_; clear hE a; intro a hE
      refine WL.no hE (runs_not hE rfl rfl rfl (by decide)) rfl ?_; clear hE a; intro a hE
      refine WL.vS hS hE (runs_plain rfl) (Gives.pickF hE rfl rfl rfl) rfl ?_; clear hE a; intro a hE
      refine WL.vS hS hE (runs_plain rfl) (Gives.p hE rfl) rfl ?_; clear hE a; intro a hE
      refine WL.no hE (runs_not hE rfl rfl rfl (by decide)) rfl ?_; clear hE a; intro a hE
      refine WL.no hE (runs_not hE rfl rfl rfl (by decide)) rfl ?_; clear hE a; intro a hE
      refine WL.no hE (runs_not hE rfl rfl rfl (by decide)) rfl ?_; clear hE a; intro a hE
      refine WL.no hE (runs_not hE rfl rfl rfl (by decide)) rfl ?_; clear hE a; intro a hE
      refine WL.no hE (runs_not hE rfl rfl rfl (by decide)) rfl ?_; clear hE a; intro a hE
      refine WL.vS hS hE (runs_plain rfl) (Gives.pickF hE rfl rfl rfl) rfl ?_; clear hE a; intro a hE
      refine WL.vS hS hE (runs_plain rfl) (Gives.p hE rfl) rfl ?_; clear hE a; intro a hE
      refine WL.nil ?_
      subst hK58
      exact ⟨false, Option.some.inj hq53, hE.pick _ ⟨rfl, trivial⟩, hS⟩
  · clear hE hS a w; rintro a w ⟨q57, rfl, hE, hS⟩
    refine W.ret ?_
    refine finG (fn := Try.f14) (rs := [.tmp 4]) (vs := [_]) hE rfl ⟨rfl, trivial⟩ ?_
    obtain rfl := Option.some.inj hr
    replace hS := hS.tail
    replace hS := hS.tail
    exact ⟨rfl, hS⟩
set_option maxHeartbeats 8000000 in
theorem Fishlaw2seats_ok {fu : Nat}  {w : World} {s : Sg} {R : List HP}  (hS : St w s (R))  {r : Bool} (hr : Fishlaw2seats fu = some r) :
    Calls Try.prog 6 [].toArray w (fun e w => e = .returned (.bool r) ∧ St w s (R)) := by
  refine enter Try.func6 rfl rfl rfl fun a hE => ?_
  rw [Fishlaw2seats] at hr
  refine W.seq ?_
  refine W.region ?_
  refine WL.vS hS hE (runs_plain rfl) (Gives.p hE rfl) rfl ?_; clear hE a; intro a hE
  refine WL.nil ?_
  refine W.seq ?_
  refine W.region ?_
  obtain ⟨q51, hq52, hr⟩ := bndS hr
  have hc_ := FareNewCar_ok hS  hq52
  refine WL.fnq hE (hc_) (runs_plain rfl) bd4 rfl rfl rfl ?_
  clear hE hS hc_; rintro e w (⟨s55, hz53, rfl, hle56, hS⟩ | ⟨d57, b58, a59, c60, n61, cs62, a65, c66, n67, cs68, s55, hz54, rfl, hle56, h63, rfl, h69, rfl, hS⟩)
  · refine ⟨_, rfl, ?_⟩; clear a; intro a hE
    rw [hz53] at hr; dsimp only at hr
    refine WL.vS hS hE (runs_plain rfl) (Gives.p hE rfl) rfl ?_; clear hE a; intro a hE
    refine WL.vS hS hE (runs_plain rfl) (Gives.p hE rfl) rfl ?_; clear hE a; intro a hE
    refine WL.vS hS hE (runs_plain rfl) (Gives.p hE rfl) rfl ?_; clear hE a; intro a hE
    refine WL.vS hS hE (runs_plain rfl) (Gives.p hE rfl) rfl ?_; clear hE a; intro a hE
    refine WL.vS hS hE (runs_plain rfl) (Gives.p hE rfl) rfl ?_; clear hE a; intro a hE
    refine WL.nil ?_
    refine W.seq ?_
    refine W.seq ?_
    obtain ⟨q72, hq71, hr⟩ := bndS hr
    refine W.cut (fun a w => ∃ (q75 : Bool), q75 = q72 ∧ Rep a 27 [(1, .pointer none), (13, .bool q75)] ∧ St w s55 (R)) ?_ ?_
    · refine W.gen fun K76 hK76 => ?_
      refine W.region ?_
      refine WL.vS hS hE (runs_plain rfl) (Gives.p hE rfl) rfl ?_; clear hE a; intro a hE
      refine WL.vS hS hE (runs_plain rfl) (Gives.p hE rfl) rfl ?_; clear hE a; intro a hE
      refine WL.vS hS hE (runs_plain rfl) (Gives.p hE rfl) rfl ?_; clear hE a; intro a hE
      rcases Bool.eq_false_or_eq_true (q51.2 != 0) with hg77 | hg77
      · replace hq71 := iteT hg77 hq71
        refine WL.no hE (runs_not hE rfl rfl rfl (by rw [hg77]; decide)) rfl ?_; clear hE a; intro a hE
        refine WL.no hE (runs_not hE rfl rfl rfl (by rw [hg77]; decide)) rfl ?_; clear hE a; intro a hE
        refine WL.vS hS hE (runs_plain rfl) (Gives.pickT hE rfl hg77 rfl) rfl ?_; clear hE a; intro a hE
        refine WL.nil ?_
        subst hK76
        exact ⟨true, hq71, hE.pick _ ⟨rfl, rfl, trivial⟩, hS⟩
      · replace hq71 := iteF hg77 hq71
        refine WL.vS hS hE (runs_if hE rfl rfl rfl hg77) (Gives.p hE rfl) rfl ?_; clear hE a; intro a hE
        refine WL.vS hS hE (runs_if hE rfl rfl rfl hg77) (Gives.isNilP hE rfl rfl pk23) rfl ?_; clear hE a; intro a hE
        refine WL.vS hS hE (runs_plain rfl) (Gives.pickF hE rfl hg77 rfl) rfl ?_; clear hE a; intro a hE
        refine WL.nil ?_
        subst hK76
        exact ⟨true, hq71, hE.pick _ ⟨rfl, rfl, trivial⟩, hS⟩
    · clear hE hS a w; rintro a w ⟨q75, rfl, hE, hS⟩
      refine W.cond hE rfl (fun hc78 => ?_) (fun hc78 => ?_)
      · replace hr := iteT hc78 hr
        refine W.seq ?_
        refine W.region ?_
        refine WL.vS hS hE (runs_plain rfl) (Gives.p hE rfl) rfl ?_; clear hE a; intro a hE
        refine WL.nil ?_
        refine W.ret ?_
        refine finG (fn := Try.f6) (rs := [.tmp 0]) (vs := [_]) hE rfl ⟨rfl, trivial⟩ ?_
        obtain rfl := Option.some.inj hr
        exact ⟨rfl, (hS.down hle56)⟩
      · replace hr := iteF hc78 hr
        refine W.skip ?_
        refine W.seq ?_
        refine W.region ?_
        refine WL.vS hS hE (runs_plain rfl) (Gives.p hE rfl) rfl ?_; clear hE a; intro a hE
        exact absurd hr (by simp)
  · refine ⟨_, rfl, ?_⟩; clear a; intro a hE
    rw [hz54] at hr; dsimp only at hr
    refine WL.vS hS hE (runs_plain rfl) (Gives.p hE rfl) rfl ?_; clear hE a; intro a hE
    refine WL.vS hS hE (runs_plain rfl) (Gives.p hE rfl) rfl ?_; clear hE a; intro a hE
    refine WL.vS hS hE (runs_plain rfl) (Gives.p hE rfl) rfl ?_; clear hE a; intro a hE
    refine WL.vS hS hE (runs_plain rfl) (Gives.p hE rfl) rfl ?_; clear hE a; intro a hE
    refine WL.vS hS hE (runs_plain rfl) (Gives.p hE rfl) rfl ?_; clear hE a; intro a hE
    refine WL.nil ?_
    refine W.seq ?_
    refine W.seq ?_
    obtain ⟨q80, hq79, hr⟩ := bndS hr
    refine W.cut (fun a w => ∃ (q83 : Bool), q83 = q80 ∧ Rep a 27 [(1, .pointer (some ⟨b58, 0, none⟩)), (13, .bool q83)] ∧ St w s55 (pt b58 (.cells #[.int .i64 d57.1, .int .i64 d57.2.1, .int .i64 d57.2.2.1, .slice a59 d57.2.2.2.1.length c60, .slice a65 d57.2.2.2.2.length c66] 48 (0, 0)) :: vecC 39 4 a59 c60 d57.2.2.2.1.length cs62 :: vecC 4 1 a65 c66 d57.2.2.2.2.length cs68 :: R)) ?_ ?_
    · refine W.gen fun K84 hK84 => ?_
      refine W.region ?_
      refine WL.vS hS hE (runs_plain rfl) (Gives.p hE rfl) rfl ?_; clear hE a; intro a hE
      refine WL.vS hS hE (runs_plain rfl) (Gives.p hE rfl) rfl ?_; clear hE a; intro a hE
      refine WL.vS hS hE (runs_plain rfl) (Gives.p hE rfl) rfl ?_; clear hE a; intro a hE
      rcases Bool.eq_false_or_eq_true (q51.2 != 0) with hg85 | hg85
      · replace hq79 := iteT hg85 hq79
        refine WL.no hE (runs_not hE rfl rfl rfl (by rw [hg85]; decide)) rfl ?_; clear hE a; intro a hE
        refine WL.no hE (runs_not hE rfl rfl rfl (by rw [hg85]; decide)) rfl ?_; clear hE a; intro a hE
        refine WL.vS hS hE (runs_plain rfl) (Gives.pickT hE rfl hg85 rfl) rfl ?_; clear hE a; intro a hE
        refine WL.nil ?_
        subst hK84
        exact ⟨true, hq79, hE.pick _ ⟨rfl, rfl, trivial⟩, hS⟩
      · replace hq79 := iteF hg85 hq79
        refine WL.vS hS hE (runs_if hE rfl rfl rfl hg85) (Gives.p hE rfl) rfl ?_; clear hE a; intro a hE
        refine WL.vS hS hE (runs_if hE rfl rfl rfl hg85) (Gives.isNilP hE rfl rfl pk23) rfl ?_; clear hE a; intro a hE
        refine WL.vS hS hE (runs_plain rfl) (Gives.pickF hE rfl hg85 rfl) rfl ?_; clear hE a; intro a hE
        refine WL.nil ?_
        subst hK84
        exact ⟨false, hq79, hE.pick _ ⟨rfl, rfl, trivial⟩, hS⟩
    · clear hE hS a w; rintro a w ⟨q83, rfl, hE, hS⟩
      refine W.cond hE rfl (fun hc86 => ?_) (fun hc86 => ?_)
      · replace hr := iteT hc86 hr
        refine W.seq ?_
        refine W.region ?_
        refine WL.vS hS hE (runs_plain rfl) (Gives.p hE rfl) rfl ?_; clear hE a; intro a hE
        refine WL.nil ?_
        refine W.ret ?_
        refine finG (fn := Try.f6) (rs := [.tmp 0]) (vs := [_]) hE rfl ⟨rfl, trivial⟩ ?_
        obtain rfl := Option.some.inj hr
        replace hS := hS.tail
        replace hS := hS.tail
        replace hS := hS.tail
        exact ⟨rfl, (hS.down hle56)⟩
      · replace hr := iteF hc86 hr
        refine W.skip ?_
        refine W.seq ?_
        refine W.region ?_
        refine WL.vS hS hE (runs_plain rfl) (Gives.p hE rfl) rfl ?_; clear hE a; intro a hE
        obtain ⟨q87, hq88, hr⟩ := bindS hr
        have hc_ := FareCarBook_v1_ok (y0 := (FareCar.mk d57.1 d57.2.1 d57.2.2.1 d57.2.2.2.1 d57.2.2.2.2)) hS h63 rfl h69 rfl hq88
        refine WL.fnq hE (hc_) (runs_plain rfl) bd12 rfl rfl rfl ?_
        clear hE hS hc_; rintro e w ⟨cs89, a91, c92, n93, cs94, a96, c97, n98, cs99, s101, rfl, hle102, h90, h95, rfl, h100, rfl, hS⟩; refine ⟨_, rfl, ?_⟩; clear a; intro a hE
        replace h63 := Ev.mono RFareBooking.mono hle102 h63
        replace h69 := Ev.mono RB.mono hle102 h69
        obtain ⟨a103, c104, rfl, h105⟩ := h90
        refine WL.vS hS hE (runs_plain rfl) (Gives.p hE rfl) rfl ?_; clear hE a; intro a hE
        refine WL.vS hS hE (runs_plain rfl) (Gives.p hE rfl) rfl ?_; clear hE a; intro a hE
        refine WL.vS hS hE (runs_plain rfl) (Gives.p hE rfl) rfl ?_; clear hE a; intro a hE
        refine WL.alloc hE hS (runs_plain rfl) zr39 rfl ?_; clear hE hS a w; intro b106 a w hE hS
        refine WL.storeI hE hS 0 rfl [.int .i64 q87.1.No, .int .i64 q87.1.From, .int .i64 q87.1.To, .slice a103 q87.1.Seats.length c104] (runs_plain rfl) rfl rfl rfl ty39 rfl rfl rfl rfl ?_; clear hE hS a w; intro a w hE hS
        refine WL.vS hS hE (runs_plain rfl) (Gives.p hE rfl) rfl ?_; clear hE a; intro a hE
        refine WL.nil ?_
        refine W.seq ?_
        obtain ⟨q108, hq107, hr⟩ := bindS hr
        refine W.cut (fun a w => ∃ (q111 : Bool), ∃ (s109 : Sg), s101.Le s109 ∧ q111 = q108 ∧ Rep a 27 [(0, .bool q111)] ∧ St w s109 (pt b106 (.cells #[.int .i64 q87.1.No, .int .i64 q87.1.From, .int .i64 q87.1.To, .slice a103 q87.1.Seats.length c104] 39 (0, 0)) :: pt b58 (.cells #[.int .i64 d57.1, .int .i64 d57.2.1, .int .i64 d57.2.2.1, .slice a91 q87.2.2.1.length c92, .slice a96 q87.2.2.2.length c97] 48 (0, 0)) :: vecC 39 4 a91 c92 q87.2.2.1.length cs94 :: vecC 4 1 a96 c97 q87.2.2.2.length cs99 :: R)) ?_ ?_
        · refine W.gen fun K112 hK112 => ?_
          refine W.region ?_
          refine WL.vS hS hE (runs_plain rfl) (Gives.p hE rfl) rfl ?_; clear hE a; intro a hE
          refine WL.vS hS hE (runs_plain rfl) (Gives.p hE rfl) rfl ?_; clear hE a; intro a hE
          refine WL.vS hS hE (runs_plain rfl) (Gives.p hE rfl) rfl ?_; clear hE a; intro a hE
          rcases Bool.eq_false_or_eq_true (q87.2.1 == 0) with hg113 | hg113
          · replace hq107 := iteT hg113 hq107
            refine WL.vS hS hE (runs_if hE rfl rfl rfl hg113) (Gives.loadBA hE 0 rfl rfl ty39) rfl ?_; clear hE a; intro a hE
            refine WL.lit hE hS (e := 3) (es := 1) (vs := [(0, .int .i64 0), (1, .int .i64 1)]) (cs := [.int .i64 0, .int .i64 1]) (runs_if hE rfl rfl rfl hg113) rfl (by kernel_rfl) rfl ?_; clear hE hS a w; intro b114 a w hE hS
            replace hS := hS.ptVec (es := 1) (m := 2) rfl (by decide)
            have h116 : Ev 1 (RI .i64) s101 [.int .i64 0, .int .i64 1] [0, 1] := (Ev.cons (c1 := [.int .i64 0]) rfl rfl (Ev.cons (c1 := [.int .i64 1]) rfl rfl (Ev.nil)))
            have hF := hS.fixD RI.mono 0 rfl h116 (rfl); clear hS; obtain ⟨s117, hle118, hS, h119⟩ := hF
            replace h105 := Sl.mono RI.mono hle118 h105
            replace h95 := Ev.mono RFareBooking.mono hle118 h95
            replace h100 := Ev.mono RB.mono hle118 h100
            refine WL.vS hS hE (runs_if hE rfl rfl rfl hg113) (Gives.build hE (vs := [(1, .int .i64 0), (2, .int .i64 1), (3, .slice (some ⟨b114, 0, none⟩) 2 2)]) [.int .i64 0, .int .i64 0, .int .i64 1, .slice (some ⟨b114, 0, none⟩) 2 2] rfl (by kernel_rfl)) rfl ?_; clear hE a; intro a hE
            obtain ⟨q120, hq121, hq107⟩ := bindS hq107
            have hc_ := Fishref2SameBooking_ok (x1 := (FareBooking.mk 0 0 1 [0, 1])) hS h105 h119 hq121
            refine WL.fnq hE (hc_) (runs_if hE rfl rfl rfl hg113) bd14 rfl rfl rfl ?_
            clear hE hS hc_; rintro e w ⟨rfl, hS⟩; refine ⟨_, rfl, ?_⟩; clear a; intro a hE
            refine WL.vS hS hE (runs_plain rfl) (Gives.pickT hE rfl hg113 rfl) rfl ?_; clear hE a; intro a hE
            refine WL.vS hS hE (runs_plain rfl) (Gives.p hE rfl) rfl ?_; clear hE a; intro a hE
            refine WL.nil ?_
            subst hK112
            exact ⟨q120, s117, hle118, Option.some.inj hq107, hE.pick _ ⟨rfl, trivial⟩, hS⟩
          · replace hq107 := iteF hg113 hq107
            refine WL.no hE (runs_not hE rfl rfl rfl (by rw [hg113]; decide)) rfl ?_; clear hE a; intro a hE
            refine WL.no hE (runs_not hE rfl rfl rfl (by rw [hg113]; decide)) rfl ?_; clear hE a; intro a hE
            refine WL.no hE (runs_not hE rfl rfl rfl (by rw [hg113]; decide)) rfl ?_; clear hE a; intro a hE
            refine WL.no hE (runs_not hE rfl rfl rfl (by rw [hg113]; decide)) rfl ?_; clear hE a; intro a hE
            refine WL.vS hS hE (runs_plain rfl) (Gives.pickF hE rfl hg113 rfl) rfl ?_; clear hE a; intro a hE
            refine WL.vS hS hE (runs_plain rfl) (Gives.p hE rfl) rfl ?_; clear hE a; intro a hE
            refine WL.nil ?_
            subst hK112
            exact ⟨false, s101, (Sg.Le.refl _), Option.some.inj hq107, hE.pick _ ⟨rfl, trivial⟩, hS⟩
        · clear hE hS a w; rintro a w ⟨q111, s109, hle110, rfl, hE, hS⟩
          replace h105 := Sl.mono RI.mono hle110 h105
          replace h95 := Ev.mono RFareBooking.mono hle110 h95
          replace h100 := Ev.mono RB.mono hle110 h100
          refine W.ret ?_
          refine finG (fn := Try.f6) (rs := [.tmp 0]) (vs := [_]) hE rfl ⟨rfl, trivial⟩ ?_
          obtain rfl := Option.some.inj hr
          replace hS := hS.tail
          replace hS := hS.tail
          replace hS := hS.tail
          replace hS := hS.tail
          exact ⟨rfl, (hS.down (Sg.Le.trans (Sg.Le.trans hle56 hle102) hle110))⟩
set_option maxHeartbeats 8000000 in
theorem FareCarCancel_v1_ok  {w : World} {s : Sg} {R : List HP} {pb0 : Nat} {x1 : Int} {y0 : FareCar} {a_v0 : Option Addr} {c_v0 n_v0 : Nat} {cs_v0 : List Value} {a_v1 : Option Addr} {c_v1 n_v1 : Nat} {cs_v1 : List Value} (hS : St w s (pt pb0 (.cells #[.int .i64 y0.rows, .int .i64 y0.across, .int .i64 y0.stops, .slice a_v0 n_v0 c_v0, .slice a_v1 n_v1 c_v1] 48 (0, 0)) :: vecC 39 4 a_v0 c_v0 n_v0 cs_v0 :: vecC 4 1 a_v1 c_v1 n_v1 cs_v1 :: R)) (_h_v0 : Ev 4 RFareBooking s cs_v0 y0.bookings) (hn_v0 : y0.bookings.length = n_v0) (h_v1 : Ev 1 RB s cs_v1 y0.cancelled) (hn_v1 : y0.cancelled.length = n_v1) {r : Int × (List Bool)} (hr : FareCarCancel_v1 x1 y0 = some r) :
    Calls Try.prog 7 [.pointer (some ⟨pb0, 0, none⟩), .int .i64 x1].toArray w (fun e w => ∃ (cs55 : List Value), e = .returned (.int .i64 r.1) ∧ Ev 1 RB s cs55 r.2 ∧ r.2.length = n_v1 ∧ St w s (pt pb0 (.cells #[.int .i64 y0.rows, .int .i64 y0.across, .int .i64 y0.stops, .slice a_v0 n_v0 c_v0, .slice a_v1 n_v1 c_v1] 48 (0, 0)) :: vecC 39 4 a_v0 c_v0 n_v0 cs_v0 :: vecC 4 1 a_v1 c_v1 n_v1 cs55 :: R)) := by
  refine enter Try.func7 rfl rfl rfl fun a hE => ?_
  rw [FareCarCancel_v1] at hr
  subst hn_v0
  subst hn_v1
  refine W.seq ?_
  refine W.region ?_
  refine WL.vS hS hE (runs_plain rfl) (Gives.p hE rfl) rfl ?_; clear hE a; intro a hE
  refine WL.nil ?_
  refine W.seq ?_
  refine W.seq ?_
  obtain ⟨q58, hq57, hr⟩ := bindS hr
  refine W.cut (fun a w => ∃ (q61 : Bool), q61 = q58 ∧ Rep a 29 [(0, .pointer (some ⟨pb0, 0, none⟩)), (1, .int .i64 x1), (22, .bool q61)] ∧ St w s (pt pb0 (.cells #[.int .i64 y0.rows, .int .i64 y0.across, .int .i64 y0.stops, .slice a_v0 y0.bookings.length c_v0, .slice a_v1 y0.cancelled.length c_v1] 48 (0, 0)) :: vecC 39 4 a_v0 c_v0 y0.bookings.length cs_v0 :: vecC 4 1 a_v1 c_v1 y0.cancelled.length cs_v1 :: R)) ?_ ?_
  · refine W.gen fun K62 hK62 => ?_
    refine W.region ?_
    refine WL.vS hS hE (runs_plain rfl) (Gives.p hE rfl) rfl ?_; clear hE a; intro a hE
    refine WL.vS hS hE (runs_plain rfl) (Gives.p hE rfl) rfl ?_; clear hE a; intro a hE
    refine WL.vS hS hE (runs_plain rfl) (Gives.nilOk hE rfl) rfl ?_; clear hE a; intro a hE
    refine WL.vS hS hE (runs_plain rfl) (Gives.fld hE rfl fl48_3) rfl ?_; clear hE a; intro a hE
    refine WL.vS hS hE (runs_plain rfl) (Gives.loadB hE 0 rfl rfl rfl ty30) rfl ?_; clear hE a; intro a hE
    refine WL.vS hS hE (runs_plain rfl) (Gives.len hE rfl sl30) rfl ?_; clear hE a; intro a hE
    refine WL.vS hS hE (runs_plain rfl) (Gives.p hE rfl) rfl ?_; clear hE a; intro a hE
    refine WL.fnq hE (Farewithin_ok hS  rfl (r := Farewithin x1 0 (w64 (((y0.bookings.length : Nat) : Int) - 1)))) (runs_plain rfl) bd18 rfl rfl rfl ?_
    clear hE hS; rintro e w ⟨rfl, hS⟩; refine ⟨_, rfl, ?_⟩; clear a; intro a hE
    refine WL.vS hS hE (runs_plain rfl) (Gives.p hE rfl) rfl ?_; clear hE a; intro a hE
    refine WL.vS hS hE (runs_plain rfl) (Gives.p hE rfl) rfl ?_; clear hE a; intro a hE
    rcases Bool.eq_false_or_eq_true (!(Farewithin x1 0 (w64 (((y0.bookings.length : Nat) : Int) - 1)))) with hg63 | hg63
    · replace hq57 := iteT hg63 hq57
      refine WL.no hE (runs_not hE rfl rfl rfl (by rw [hg63]; decide)) rfl ?_; clear hE a; intro a hE
      refine WL.no hE (runs_not hE rfl rfl rfl (by rw [hg63]; decide)) rfl ?_; clear hE a; intro a hE
      refine WL.no hE (runs_not hE rfl rfl rfl (by rw [hg63]; decide)) rfl ?_; clear hE a; intro a hE
      refine WL.no hE (runs_not hE rfl rfl rfl (by rw [hg63]; decide)) rfl ?_; clear hE a; intro a hE
      refine WL.no hE (runs_not hE rfl rfl rfl (by rw [hg63]; decide)) rfl ?_; clear hE a; intro a hE
      refine WL.no hE (runs_not hE rfl rfl rfl (by rw [hg63]; decide)) rfl ?_; clear hE a; intro a hE
      refine WL.no hE (runs_not hE rfl rfl rfl (by rw [hg63]; decide)) rfl ?_; clear hE a; intro a hE
      refine WL.vS hS hE (runs_plain rfl) (Gives.pickT hE rfl hg63 rfl) rfl ?_; clear hE a; intro a hE
      refine WL.nil ?_
      subst hK62
      exact ⟨true, Option.some.inj hq57, hE.pick _ ⟨rfl, rfl, rfl, trivial⟩, hS⟩
    · replace hq57 := iteF hg63 hq57
      refine WL.vS hS hE (runs_if hE rfl rfl rfl hg63) (Gives.p hE rfl) rfl ?_; clear hE a; intro a hE
      refine WL.vS hS hE (runs_if hE rfl rfl rfl hg63) (Gives.nilOk hE rfl) rfl ?_; clear hE a; intro a hE
      refine WL.vS hS hE (runs_if hE rfl rfl rfl hg63) (Gives.fld hE rfl fl48_4) rfl ?_; clear hE a; intro a hE
      refine WL.vS hS hE (runs_if hE rfl rfl rfl hg63) (Gives.loadB hE 0 rfl rfl rfl ty31) rfl ?_; clear hE a; intro a hE
      refine WL.vS hS hE (runs_if hE rfl rfl rfl hg63) (Gives.p hE rfl) rfl ?_; clear hE a; intro a hE
      obtain ⟨x64, hx65, hq57⟩ := bindS hq57
      obtain ⟨hi66, hlt67, hy68⟩ := gx_some hx65
      obtain ⟨vs69, hl70, hR71, hd72, hget73⟩ := h_v1.at hy68
      subst hR71
      refine WL.vS hS hE (runs_if hE rfl rfl rfl hg63) (Gives.idx hE ((x1).toNat) rfl rfl sl31 hi66 (by omega) (hS.vecAok 2 rfl (by omega : (x1).toNat < y0.cancelled.length))) rfl ?_; clear hE a; intro a hE
      refine WL.vS hS hE (runs_if hE rfl rfl rfl hg63) (Gives.load1 hE rfl (fun w h => St.vecSees h 2 rfl ((x1).toNat * 1) _ hget73) ty4) rfl ?_; clear hE a; intro a hE
      refine WL.vS hS hE (runs_plain rfl) (Gives.pickF hE rfl hg63 rfl) rfl ?_; clear hE a; intro a hE
      refine WL.nil ?_
      subst hK62
      exact ⟨x64, Option.some.inj hq57, hE.pick _ ⟨rfl, rfl, rfl, trivial⟩, hS⟩
  · clear hE hS a w; rintro a w ⟨q61, rfl, hE, hS⟩
    refine W.cond hE rfl (fun hc74 => ?_) (fun hc74 => ?_)
    · replace hr := iteT hc74 hr
      refine W.seq ?_
      refine W.region ?_
      refine WL.vS hS hE (runs_plain rfl) (Gives.p hE rfl) rfl ?_; clear hE a; intro a hE
      refine WL.nil ?_
      refine W.ret ?_
      refine finG (fn := Try.f7) (rs := [.tmp 4]) (vs := [_]) hE rfl ⟨rfl, trivial⟩ ?_
      obtain rfl := Option.some.inj hr
      exact ⟨cs_v1, rfl, h_v1, (rfl), hS⟩
    · replace hr := iteF hc74 hr
      refine W.skip ?_
      refine W.seq ?_
      refine W.region ?_
      refine WL.vS hS hE (runs_plain rfl) (Gives.p hE rfl) rfl ?_; clear hE a; intro a hE
      refine WL.vS hS hE (runs_plain rfl) (Gives.nilOk hE rfl) rfl ?_; clear hE a; intro a hE
      refine WL.vS hS hE (runs_plain rfl) (Gives.fld hE rfl fl48_4) rfl ?_; clear hE a; intro a hE
      refine WL.vS hS hE (runs_plain rfl) (Gives.loadB hE 0 rfl rfl rfl ty31) rfl ?_; clear hE a; intro a hE
      refine WL.vS hS hE (runs_plain rfl) (Gives.p hE rfl) rfl ?_; clear hE a; intro a hE
      obtain ⟨_, hx76, hr⟩ := bindS hr
      obtain ⟨h77, h78⟩ := ix_some hx76
      refine WL.vS hS hE (runs_plain rfl) (Gives.idx hE ((x1).toNat) rfl rfl sl31 h77 (by omega) (hS.vecAok 2 rfl (by omega : (x1).toNat < y0.cancelled.length))) rfl ?_; clear hE a; intro a hE
      obtain ⟨x80, hx81, hr⟩ := bindS hr
      refine WL.setD hE hS 2 rfl (runs_plain rfl) rfl rfl (vs := [.bool true]) rfl ty4 rfl rfl rfl h_v1 (rfl) (sx_some hx81).1 hx81 rfl rfl ?_; clear hE hS a w; intro cs82 a w h83 hn84 hE hS
      refine WL.nil ?_
      refine W.seq ?_
      refine W.region ?_
      refine WL.vS hS hE (runs_plain rfl) (Gives.p hE rfl) rfl ?_; clear hE a; intro a hE
      refine WL.nil ?_
      refine W.ret ?_
      refine finG (fn := Try.f7) (rs := [.tmp 4]) (vs := [_]) hE rfl ⟨rfl, trivial⟩ ?_
      obtain rfl := Option.some.inj hr
      exact ⟨cs82, rfl, h83, hn84, hS⟩
set_option maxHeartbeats 8000000 in
theorem Fishref2CarCancel_v1_ok  {w : World} {s : Sg} {R : List HP} {pb0 : Nat} {x1 : Int} {y0 : Fishref2Car} {a_v0 : Option Addr} {c_v0 n_v0 : Nat} {cs_v0 : List Value} {a_v1 : Option Addr} {c_v1 n_v1 : Nat} {cs_v1 : List Value} (hS : St w s (pt pb0 (.cells #[.int .i64 y0.Rows, .int .i64 y0.Across, .int .i64 y0.Stops, .slice a_v0 n_v0 c_v0, .slice a_v1 n_v1 c_v1] 33 (0, 0)) :: vecC 39 4 a_v0 c_v0 n_v0 cs_v0 :: vecC 4 1 a_v1 c_v1 n_v1 cs_v1 :: R)) (_h_v0 : Ev 4 RFareBooking s cs_v0 y0.All) (hn_v0 : y0.All.length = n_v0) (h_v1 : Ev 1 RB s cs_v1 y0.Gone) (hn_v1 : y0.Gone.length = n_v1) {r : Int × (List Bool)} (hr : Fishref2CarCancel_v1 x1 y0 = some r) :
    Calls Try.prog 8 [.pointer (some ⟨pb0, 0, none⟩), .int .i64 x1].toArray w (fun e w => ∃ (cs55 : List Value), e = .returned (.int .i64 r.1) ∧ Ev 1 RB s cs55 r.2 ∧ r.2.length = n_v1 ∧ St w s (pt pb0 (.cells #[.int .i64 y0.Rows, .int .i64 y0.Across, .int .i64 y0.Stops, .slice a_v0 n_v0 c_v0, .slice a_v1 n_v1 c_v1] 33 (0, 0)) :: vecC 39 4 a_v0 c_v0 n_v0 cs_v0 :: vecC 4 1 a_v1 c_v1 n_v1 cs55 :: R)) := by
  refine enter Try.func8 rfl rfl rfl fun a hE => ?_
  rw [Fishref2CarCancel_v1] at hr
  subst hn_v0
  subst hn_v1
  refine W.seq ?_
  refine W.region ?_
  refine WL.vS hS hE (runs_plain rfl) (Gives.p hE rfl) rfl ?_; clear hE a; intro a hE
  refine WL.nil ?_
  refine W.seq ?_
  refine W.seq ?_
  obtain ⟨q58, hq57, hr⟩ := bindS hr
  refine W.cut (fun a w => ∃ (q61 : Bool), q61 = q58 ∧ Rep a 31 [(0, .pointer (some ⟨pb0, 0, none⟩)), (1, .int .i64 x1), (24, .bool q61)] ∧ St w s (pt pb0 (.cells #[.int .i64 y0.Rows, .int .i64 y0.Across, .int .i64 y0.Stops, .slice a_v0 y0.All.length c_v0, .slice a_v1 y0.Gone.length c_v1] 33 (0, 0)) :: vecC 39 4 a_v0 c_v0 y0.All.length cs_v0 :: vecC 4 1 a_v1 c_v1 y0.Gone.length cs_v1 :: R)) ?_ ?_
  · refine W.gen fun K62 hK62 => ?_
    refine W.region ?_
    refine WL.vS hS hE (runs_plain rfl) (Gives.p hE rfl) rfl ?_; clear hE a; intro a hE
    refine WL.vS hS hE (runs_plain rfl) (Gives.p hE rfl) rfl ?_; clear hE a; intro a hE
    refine WL.vS hS hE (runs_plain rfl) (Gives.p hE rfl) rfl ?_; clear hE a; intro a hE
    rcases Bool.eq_false_or_eq_true (decide (x1 < 0)) with hg63 | hg63
    · replace hq57 := iteT hg63 hq57
      refine WL.no hE (runs_not hE rfl rfl rfl (by rw [hg63]; decide)) rfl ?_; clear hE a; intro a hE
      refine WL.no hE (runs_not hE rfl rfl rfl (by rw [hg63]; decide)) rfl ?_; clear hE a; intro a hE
      refine WL.no hE (runs_not hE rfl rfl rfl (by rw [hg63]; decide)) rfl ?_; clear hE a; intro a hE
      refine WL.no hE (runs_not hE rfl rfl rfl (by rw [hg63]; decide)) rfl ?_; clear hE a; intro a hE
      refine WL.no hE (runs_not hE rfl rfl rfl (by rw [hg63]; decide)) rfl ?_; clear hE a; intro a hE
      refine WL.no hE (runs_not hE rfl rfl rfl (by rw [hg63]; decide)) rfl ?_; clear hE a; intro a hE
      refine WL.no hE (runs_not hE rfl rfl rfl (by rw [hg63]; decide)) rfl ?_; clear hE a; intro a hE
      refine WL.vS hS hE (runs_plain rfl) (Gives.pickT hE rfl hg63 rfl) rfl ?_; clear hE a; intro a hE
      refine WL.vS hS hE (runs_plain rfl) (Gives.p hE rfl) rfl ?_; clear hE a; intro a hE
      refine WL.no hE (runs_not hE rfl rfl rfl (by decide)) rfl ?_; clear hE a; intro a hE
      refine WL.no hE (runs_not hE rfl rfl rfl (by decide)) rfl ?_; clear hE a; intro a hE
      refine WL.no hE (runs_not hE rfl rfl rfl (by decide)) rfl ?_; clear hE a; intro a hE
      refine WL.no hE (runs_not hE rfl rfl rfl (by decide)) rfl ?_; clear hE a; intro a hE
      refine WL.no hE (runs_not hE rfl rfl rfl (by decide)) rfl ?_; clear hE a; intro a hE
      refine WL.no hE (runs_not hE rfl rfl rfl (by decide)) rfl ?_; clear hE a; intro a hE
      refine WL.no hE (runs_not hE rfl rfl rfl (by decide)) rfl ?_; clear hE a; intro a hE
      refine WL.vS hS hE (runs_plain rfl) (Gives.pickT hE rfl rfl rfl) rfl ?_; clear hE a; intro a hE
      refine WL.nil ?_
      subst hK62
      exact ⟨true, Option.some.inj hq57, hE.pick _ ⟨rfl, rfl, rfl, trivial⟩, hS⟩
    · replace hq57 := iteF hg63 hq57
      refine WL.vS hS hE (runs_if hE rfl rfl rfl hg63) (Gives.p hE rfl) rfl ?_; clear hE a; intro a hE
      refine WL.vS hS hE (runs_if hE rfl rfl rfl hg63) (Gives.p hE rfl) rfl ?_; clear hE a; intro a hE
      refine WL.vS hS hE (runs_if hE rfl rfl rfl hg63) (Gives.nilOk hE rfl) rfl ?_; clear hE a; intro a hE
      refine WL.vS hS hE (runs_if hE rfl rfl rfl hg63) (Gives.fld hE rfl fl33_3) rfl ?_; clear hE a; intro a hE
      refine WL.vS hS hE (runs_if hE rfl rfl rfl hg63) (Gives.loadB hE 0 rfl rfl rfl ty30) rfl ?_; clear hE a; intro a hE
      refine WL.vS hS hE (runs_if hE rfl rfl rfl hg63) (Gives.len hE rfl sl30) rfl ?_; clear hE a; intro a hE
      refine WL.vS hS hE (runs_if hE rfl rfl rfl hg63) (Gives.p hE rfl) rfl ?_; clear hE a; intro a hE
      refine WL.vS hS hE (runs_plain rfl) (Gives.pickF hE rfl hg63 rfl) rfl ?_; clear hE a; intro a hE
      refine WL.vS hS hE (runs_plain rfl) (Gives.p hE rfl) rfl ?_; clear hE a; intro a hE
      rcases Bool.eq_false_or_eq_true (decide (x1 ≥ ((y0.All.length : Nat) : Int))) with hg64 | hg64
      · replace hq57 := iteT hg64 hq57
        refine WL.no hE (runs_not hE rfl rfl rfl (by rw [hg64]; decide)) rfl ?_; clear hE a; intro a hE
        refine WL.no hE (runs_not hE rfl rfl rfl (by rw [hg64]; decide)) rfl ?_; clear hE a; intro a hE
        refine WL.no hE (runs_not hE rfl rfl rfl (by rw [hg64]; decide)) rfl ?_; clear hE a; intro a hE
        refine WL.no hE (runs_not hE rfl rfl rfl (by rw [hg64]; decide)) rfl ?_; clear hE a; intro a hE
        refine WL.no hE (runs_not hE rfl rfl rfl (by rw [hg64]; decide)) rfl ?_; clear hE a; intro a hE
        refine WL.no hE (runs_not hE rfl rfl rfl (by rw [hg64]; decide)) rfl ?_; clear hE a; intro a hE
        refine WL.no hE (runs_not hE rfl rfl rfl (by rw [hg64]; decide)) rfl ?_; clear hE a; intro a hE
        refine WL.vS hS hE (runs_plain rfl) (Gives.pickT hE rfl hg64 rfl) rfl ?_; clear hE a; intro a hE
        refine WL.nil ?_
        subst hK62
        exact ⟨true, Option.some.inj hq57, hE.pick _ ⟨rfl, rfl, rfl, trivial⟩, hS⟩
      · replace hq57 := iteF hg64 hq57
        refine WL.vS hS hE (runs_if hE rfl rfl rfl hg64) (Gives.p hE rfl) rfl ?_; clear hE a; intro a hE
        refine WL.vS hS hE (runs_if hE rfl rfl rfl hg64) (Gives.nilOk hE rfl) rfl ?_; clear hE a; intro a hE
        refine WL.vS hS hE (runs_if hE rfl rfl rfl hg64) (Gives.fld hE rfl fl33_4) rfl ?_; clear hE a; intro a hE
        refine WL.vS hS hE (runs_if hE rfl rfl rfl hg64) (Gives.loadB hE 0 rfl rfl rfl ty31) rfl ?_; clear hE a; intro a hE
        refine WL.vS hS hE (runs_if hE rfl rfl rfl hg64) (Gives.p hE rfl) rfl ?_; clear hE a; intro a hE
        obtain ⟨x65, hx66, hq57⟩ := bindS hq57
        obtain ⟨hi67, hlt68, hy69⟩ := gx_some hx66
        obtain ⟨vs70, hl71, hR72, hd73, hget74⟩ := h_v1.at hy69
        subst hR72
        refine WL.vS hS hE (runs_if hE rfl rfl rfl hg64) (Gives.idx hE ((x1).toNat) rfl rfl sl31 hi67 (by omega) (hS.vecAok 2 rfl (by omega : (x1).toNat < y0.Gone.length))) rfl ?_; clear hE a; intro a hE
        refine WL.vS hS hE (runs_if hE rfl rfl rfl hg64) (Gives.load1 hE rfl (fun w h => St.vecSees h 2 rfl ((x1).toNat * 1) _ hget74) ty4) rfl ?_; clear hE a; intro a hE
        refine WL.vS hS hE (runs_plain rfl) (Gives.pickF hE rfl hg64 rfl) rfl ?_; clear hE a; intro a hE
        refine WL.nil ?_
        subst hK62
        exact ⟨x65, Option.some.inj hq57, hE.pick _ ⟨rfl, rfl, rfl, trivial⟩, hS⟩
  · clear hE hS a w; rintro a w ⟨q61, rfl, hE, hS⟩
    refine W.cond hE rfl (fun hc75 => ?_) (fun hc75 => ?_)
    · replace hr := iteT hc75 hr
      refine W.seq ?_
      refine W.region ?_
      refine WL.vS hS hE (runs_plain rfl) (Gives.p hE rfl) rfl ?_; clear hE a; intro a hE
      refine WL.nil ?_
      refine W.ret ?_
      refine finG (fn := Try.f8) (rs := [.tmp 4]) (vs := [_]) hE rfl ⟨rfl, trivial⟩ ?_
      obtain rfl := Option.some.inj hr
      exact ⟨cs_v1, rfl, h_v1, (rfl), hS⟩
    · replace hr := iteF hc75 hr
      refine W.skip ?_
      refine W.seq ?_
      refine W.region ?_
      refine WL.vS hS hE (runs_plain rfl) (Gives.p hE rfl) rfl ?_; clear hE a; intro a hE
      refine WL.vS hS hE (runs_plain rfl) (Gives.nilOk hE rfl) rfl ?_; clear hE a; intro a hE
      refine WL.vS hS hE (runs_plain rfl) (Gives.fld hE rfl fl33_4) rfl ?_; clear hE a; intro a hE
      refine WL.vS hS hE (runs_plain rfl) (Gives.loadB hE 0 rfl rfl rfl ty31) rfl ?_; clear hE a; intro a hE
      refine WL.vS hS hE (runs_plain rfl) (Gives.p hE rfl) rfl ?_; clear hE a; intro a hE
      obtain ⟨_, hx77, hr⟩ := bindS hr
      obtain ⟨h78, h79⟩ := ix_some hx77
      refine WL.vS hS hE (runs_plain rfl) (Gives.idx hE ((x1).toNat) rfl rfl sl31 h78 (by omega) (hS.vecAok 2 rfl (by omega : (x1).toNat < y0.Gone.length))) rfl ?_; clear hE a; intro a hE
      obtain ⟨x81, hx82, hr⟩ := bindS hr
      refine WL.setD hE hS 2 rfl (runs_plain rfl) rfl rfl (vs := [.bool true]) rfl ty4 rfl rfl rfl h_v1 (rfl) (sx_some hx82).1 hx82 rfl rfl ?_; clear hE hS a w; intro cs83 a w h84 hn85 hE hS
      refine WL.nil ?_
      refine W.seq ?_
      refine W.region ?_
      refine WL.vS hS hE (runs_plain rfl) (Gives.p hE rfl) rfl ?_; clear hE a; intro a hE
      refine WL.nil ?_
      refine W.ret ?_
      refine finG (fn := Try.f8) (rs := [.tmp 4]) (vs := [_]) hE rfl ⟨rfl, trivial⟩ ?_
      obtain rfl := Option.some.inj hr
      exact ⟨cs83, rfl, h84, hn85, hS⟩
set_option maxHeartbeats 8000000 in
theorem FareCarFree_v1_ok {fu : Nat}  {w : World} {s : Sg} {R : List HP} {pb0 : Nat} {x1 : Int} {x2 : Int} {y0 : FareCar} {a_v0 : Option Addr} {c_v0 n_v0 : Nat} {cs_v0 : List Value} {a_v1 : Option Addr} {c_v1 n_v1 : Nat} {cs_v1 : List Value} (hS : St w s (pt pb0 (.cells #[.int .i64 y0.rows, .int .i64 y0.across, .int .i64 y0.stops, .slice a_v0 n_v0 c_v0, .slice a_v1 n_v1 c_v1] 48 (0, 0)) :: vecC 39 4 a_v0 c_v0 n_v0 cs_v0 :: vecC 4 1 a_v1 c_v1 n_v1 cs_v1 :: R)) (h_v0 : Ev 4 RFareBooking s cs_v0 y0.bookings) (hn_v0 : y0.bookings.length = n_v0) (h_v1 : Ev 1 RB s cs_v1 y0.cancelled) (hn_v1 : y0.cancelled.length = n_v1) {r : (List Int) × Int} (hr : FareCarFree_v1 fu x1 x2 y0 = some r) :
    Calls Try.prog 9 [.pointer (some ⟨pb0, 0, none⟩), .int .i64 x1, .int .i64 x2].toArray w (fun e w => ∃ (a0 : Option Addr) (c0 n0 : Nat) (cs0 : List Value), e = .returned (.tuple #[.slice a0 n0 c0, .int .i64 r.2]) ∧ Ev 1 (RI .i64) s cs0 r.1 ∧ r.1.length = n0 ∧ St w s (vecC 3 1 a0 c0 n0 cs0 :: pt pb0 (.cells #[.int .i64 y0.rows, .int .i64 y0.across, .int .i64 y0.stops, .slice a_v0 n_v0 c_v0, .slice a_v1 n_v1 c_v1] 48 (0, 0)) :: vecC 39 4 a_v0 c_v0 n_v0 cs_v0 :: vecC 4 1 a_v1 c_v1 n_v1 cs_v1 :: R)) := by
  refine enter Try.func9 rfl rfl rfl fun a hE => ?_
  rw [FareCarFree_v1] at hr
  subst hn_v0
  subst hn_v1
  refine W.seq ?_
  refine W.region ?_
  refine WL.vS hS hE (runs_plain rfl) (Gives.p hE rfl) rfl ?_; clear hE a; intro a hE
  refine WL.vS hS hE (runs_plain rfl) (Gives.p hE rfl) rfl ?_; clear hE a; intro a hE
  refine WL.nil ?_
  refine W.seq ?_
  refine W.seq ?_
  refine W.region ?_
  refine WL.vS hS hE (runs_plain rfl) (Gives.p hE rfl) rfl ?_; clear hE a; intro a hE
  refine WL.vS hS hE (runs_plain rfl) (Gives.p hE rfl) rfl ?_; clear hE a; intro a hE
  refine WL.vS hS hE (runs_plain rfl) (Gives.p hE rfl) rfl ?_; clear hE a; intro a hE
  refine WL.vS hS hE (runs_plain rfl) (Gives.nilOk hE rfl) rfl ?_; clear hE a; intro a hE
  refine WL.vS hS hE (runs_plain rfl) (Gives.fld hE rfl fl48_2) rfl ?_; clear hE a; intro a hE
  refine WL.vS hS hE (runs_plain rfl) (Gives.loadB hE 0 rfl rfl rfl ty3) rfl ?_; clear hE a; intro a hE
  refine WL.fnq hE (Farespan_ok hS  rfl (r := Farespan x1 x2 y0.stops)) (runs_plain rfl) bd20 rfl rfl rfl ?_
  clear hE hS; rintro e w ⟨rfl, hS⟩; refine ⟨_, rfl, ?_⟩; clear a; intro a hE
  refine WL.vS hS hE (runs_plain rfl) (Gives.p hE rfl) rfl ?_; clear hE a; intro a hE
  refine WL.nil ?_
  refine W.cond hE rfl (fun hc51 => ?_) (fun hc51 => ?_)
  · replace hr := iteT hc51 hr
    refine W.seq ?_
    refine W.region ?_
    refine WL.vS hS hE (runs_plain rfl) (Gives.p hE rfl) rfl ?_; clear hE a; intro a hE
    refine WL.vS hS hE (runs_plain rfl) (Gives.p hE rfl) rfl ?_; clear hE a; intro a hE
    refine WL.nil ?_
    refine W.ret ?_
    replace hS := hS.vecNil 3 1
    refine finG (fn := Try.f9) (rs := [.tmp 6, .tmp 7]) (vs := [_, _]) hE rfl ⟨rfl, rfl, trivial⟩ ?_
    obtain rfl := Option.some.inj hr
    exact ⟨none, 0, 0, [], rfl, (Ev.nil), (rfl), hS⟩
  · replace hr := iteF hc51 hr
    refine W.skip ?_
    refine W.seq ?_
    refine W.region ?_
    refine WL.vS hS hE (runs_plain rfl) (Gives.p hE rfl) rfl ?_; clear hE a; intro a hE
    refine WL.vS hS hE (runs_plain rfl) (Gives.p hE rfl) rfl ?_; clear hE a; intro a hE
    refine WL.vS hS hE (runs_plain rfl) (Gives.p hE rfl) rfl ?_; clear hE a; intro a hE
    obtain ⟨q53, hq54, hr⟩ := bindS hr
    have hc_ := FareCarfree_v1_ok (y0 := y0) hS h_v0 (rfl) h_v1 (rfl) hq54
    refine WL.fnq hE (hc_) (runs_plain rfl) bd21 rfl rfl rfl ?_
    clear hE hS hc_; rintro e w ⟨a55, c56, n57, cs58, rfl, h59, rfl, hS⟩; refine ⟨_, rfl, ?_⟩; clear a; intro a hE
    refine WL.vS hS hE (runs_plain rfl) (Gives.p hE rfl) rfl ?_; clear hE a; intro a hE
    refine WL.vS hS hE (runs_plain rfl) (Gives.p hE rfl) rfl ?_; clear hE a; intro a hE
    refine WL.nil ?_
    refine W.ret ?_
    refine finG (fn := Try.f9) (rs := [.tmp 6, .tmp 7]) (vs := [_, _]) hE rfl ⟨rfl, rfl, trivial⟩ ?_
    obtain rfl := Option.some.inj hr
    exact ⟨a55, c56, q53.length, cs58, rfl, h59, rfl, hS⟩
set_option maxHeartbeats 8000000 in
theorem Fishref2Carhas_v1_ok  {w : World} {s : Sg} {R : List HP} {pb0 : Nat} {x1 : Int} {x2 : Int} {x3 : Int} {y0 : Fishref2Car} {a_v0 : Option Addr} {c_v0 n_v0 : Nat} {cs_v0 : List Value} {a_v1 : Option Addr} {c_v1 n_v1 : Nat} {cs_v1 : List Value} (hS : St w s (pt pb0 (.cells #[.int .i64 y0.Rows, .int .i64 y0.Across, .int .i64 y0.Stops, .slice a_v0 n_v0 c_v0, .slice a_v1 n_v1 c_v1] 33 (0, 0)) :: vecC 39 4 a_v0 c_v0 n_v0 cs_v0 :: vecC 4 1 a_v1 c_v1 n_v1 cs_v1 :: R)) (h_v0 : Ev 4 RFareBooking s cs_v0 y0.All) (hn_v0 : y0.All.length = n_v0) (h_v1 : Ev 1 RB s cs_v1 y0.Gone) (hn_v1 : y0.Gone.length = n_v1) {r : Bool} (hr : Fishref2Carhas_v1 x1 x2 x3 y0 = some r) :
    Calls Try.prog 22 [.pointer (some ⟨pb0, 0, none⟩), .int .i64 x1, .int .i64 x2, .int .i64 x3].toArray w (fun e w => e = .returned (.bool r) ∧ St w s (pt pb0 (.cells #[.int .i64 y0.Rows, .int .i64 y0.Across, .int .i64 y0.Stops, .slice a_v0 n_v0 c_v0, .slice a_v1 n_v1 c_v1] 33 (0, 0)) :: vecC 39 4 a_v0 c_v0 n_v0 cs_v0 :: vecC 4 1 a_v1 c_v1 n_v1 cs_v1 :: R)) := by
  refine enter Try.func22 rfl rfl rfl fun a hE => ?_
  rw [Fishref2Carhas_v1] at hr
  subst hn_v0
  subst hn_v1
  refine W.seq ?_
  refine W.region ?_
  refine WL.vS hS hE (runs_plain rfl) (Gives.p hE rfl) rfl ?_; clear hE a; intro a hE
  refine WL.nil ?_
  refine W.seq ?_
  refine W.seq ?_
  refine W.region ?_
  refine WL.vS hS hE (runs_plain rfl) (Gives.p hE rfl) rfl ?_; clear hE a; intro a hE
  refine WL.vS hS hE (runs_plain rfl) (Gives.nilOk hE rfl) rfl ?_; clear hE a; intro a hE
  refine WL.vS hS hE (runs_plain rfl) (Gives.fld hE rfl fl33_3) rfl ?_; clear hE a; intro a hE
  refine WL.vS hS hE (runs_plain rfl) (Gives.loadB hE 0 rfl rfl rfl ty30) rfl ?_; clear hE a; intro a hE
  refine WL.vS hS hE (runs_plain rfl) (Gives.len hE rfl sl30) rfl ?_; clear hE a; intro a hE
  refine WL.vS hS hE (runs_plain rfl) (Gives.p hE rfl) rfl ?_; clear hE a; intro a hE
  refine WL.nil ?_
  have hb62 : y0.All.length ≤ 9223372036854775807 := by have := hS.vecCap 1 rfl; unfold maxLen at this; omega
  obtain ⟨q52, hq51, hr⟩ := bindS hr
  refine W.cut (fun a w => (.next ()) = q52 ∧ Rep a 48 [] ∧ St w s (pt pb0 (.cells #[.int .i64 y0.Rows, .int .i64 y0.Across, .int .i64 y0.Stops, .slice a_v0 y0.All.length c_v0, .slice a_v1 y0.Gone.length c_v1] 33 (0, 0)) :: vecC 39 4 a_v0 c_v0 y0.All.length cs_v0 :: vecC 4 1 a_v1 c_v1 y0.Gone.length cs_v1 :: R)) ?_ ?_
  · refine W.block ?_
    refine W.loop (fun m a w => ∃ (rest55 : Nat) (k53 : Nat), rest55 = m ∧ k53 + rest55 = y0.All.length ∧ Fishref2Carhas_v1.loop1 x1 x2 x3 y0 rest55 k53 = some q52 ∧ Rep a 48 [(0, .pointer (some ⟨pb0, 0, none⟩)), (1, .int .i64 x1), (2, .int .i64 x2), (3, .int .i64 x3), (14, .slice a_v0 y0.All.length c_v0), (15, .int .i64 ((y0.All.length : Nat) : Int)), (16, .int .i64 ((k53 : Nat) : Int))] ∧ St w s (pt pb0 (.cells #[.int .i64 y0.Rows, .int .i64 y0.Across, .int .i64 y0.Stops, .slice a_v0 y0.All.length c_v0, .slice a_v1 y0.Gone.length c_v1] 33 (0, 0)) :: vecC 39 4 a_v0 c_v0 y0.All.length cs_v0 :: vecC 4 1 a_v1 c_v1 y0.Gone.length cs_v1 :: R)) (m := y0.All.length) ⟨y0.All.length, 0, rfl, by omega, hq51, hE.pick _ ⟨rfl, rfl, rfl, rfl, rfl, rfl, rfl, trivial⟩, hS⟩ ?_
    clear hE hS a w hq51; rintro m59 a w ⟨rest55, k53, rfl, hd56, hq51, hE, hS⟩
    refine W.gen fun K63 hK63 => ?_
    rcases rest55 with _ | rest55
    · skip
      refine W.seq ?_
      refine W.region ?_
      refine WL.vS hS hE (runs_plain rfl) (Gives.p hE rfl) rfl ?_; clear hE a; intro a hE
      refine WL.nil ?_
      refine W.seq ?_
      refine W.condF hE rfl (decide_eq_false (by omega)) ?_
      subst hK63
      refine W.exit rfl ?_
      exact ⟨Option.some.inj hq51, hE.pick _ trivial, hS⟩
    · have hlt57 : k53 < y0.All.length := by omega
      rw [Fishref2Carhas_v1.loop1] at hq51
      refine W.seq ?_
      refine W.region ?_
      refine WL.vS hS hE (runs_plain rfl) (Gives.p hE rfl) rfl ?_; clear hE a; intro a hE
      refine WL.nil ?_
      refine W.seq ?_
      refine W.condT hE rfl (decide_eq_true (by omega)) ?_
      refine W.skip ?_
      refine W.seq ?_
      refine W.block ?_
      refine W.seq ?_
      refine W.region ?_
      refine WL.vS hS hE (runs_plain rfl) (Gives.p hE rfl) rfl ?_; clear hE a; intro a hE
      obtain ⟨x64, hx65, hq51⟩ := bindS hq51
      obtain ⟨hi66, hlt67, hy68⟩ := gx_some hx65
      obtain ⟨vs69, hl70, hR71, hd72, hget73⟩ := h_v0.at hy68
      obtain ⟨a74, c75, rfl, h76⟩ := hR71
      refine WL.vS hS hE (runs_plain rfl) (Gives.idx hE ((((k53 : Nat) : Int)).toNat) rfl rfl sl30 hi66 (by omega) (hS.vecAok 1 rfl (by omega : (((k53 : Nat) : Int)).toNat < y0.All.length))) rfl ?_; clear hE a; intro a hE
      refine WL.vS hS hE (runs_plain rfl) (Gives.loadA hE rfl (fun w h => St.vecSees h 1 rfl ((((k53 : Nat) : Int)).toNat * 4) _ hget73) ty39) rfl ?_; clear hE a; intro a hE
      refine WL.alloc hE hS (runs_plain rfl) zr39 rfl ?_; clear hE hS a w; intro b77 a w hE hS
      refine WL.vS hS hE (runs_plain rfl) (Gives.p hE rfl) rfl ?_; clear hE a; intro a hE
      refine WL.storeI hE hS 0 rfl [.int .i64 x64.No, .int .i64 x64.From, .int .i64 x64.To, .slice a74 x64.Seats.length c75] (runs_plain rfl) rfl rfl rfl ty39 rfl rfl rfl rfl ?_; clear hE hS a w; intro a w hE hS
      refine WL.nil ?_
      refine W.seq ?_
      obtain ⟨q79, hq78, hq51⟩ := bindS hq51
      refine W.cut (fun a w => ∃ (q82 : Bool), q82 = q79 ∧ Rep a 48 [(0, .pointer (some ⟨pb0, 0, none⟩)), (1, .int .i64 x1), (2, .int .i64 x2), (3, .int .i64 x3), (14, .slice a_v0 y0.All.length c_v0), (15, .int .i64 ((y0.All.length : Nat) : Int)), (16, .int .i64 ((k53 : Nat) : Int)), (46, .bool q82)] ∧ St w s (pt b77 (.cells #[.int .i64 x64.No, .int .i64 x64.From, .int .i64 x64.To, .slice a74 x64.Seats.length c75] 39 (0, 0)) :: pt pb0 (.cells #[.int .i64 y0.Rows, .int .i64 y0.Across, .int .i64 y0.Stops, .slice a_v0 y0.All.length c_v0, .slice a_v1 y0.Gone.length c_v1] 33 (0, 0)) :: vecC 39 4 a_v0 c_v0 y0.All.length cs_v0 :: vecC 4 1 a_v1 c_v1 y0.Gone.length cs_v1 :: R)) ?_ ?_
      · refine W.gen fun K83 hK83 => ?_
        refine W.region ?_
        refine WL.vS hS hE (runs_plain rfl) (Gives.p hE rfl) rfl ?_; clear hE a; intro a hE
        refine WL.vS hS hE (runs_plain rfl) (Gives.nilOk hE rfl) rfl ?_; clear hE a; intro a hE
        refine WL.vS hS hE (runs_plain rfl) (Gives.fld hE rfl fl33_4) rfl ?_; clear hE a; intro a hE
        refine WL.vS hS hE (runs_plain rfl) (Gives.loadB hE 1 rfl rfl rfl ty31) rfl ?_; clear hE a; intro a hE
        refine WL.vS hS hE (runs_plain rfl) (Gives.p hE rfl) rfl ?_; clear hE a; intro a hE
        obtain ⟨x84, hx85, hq78⟩ := bindS hq78
        obtain ⟨hi86, hlt87, hy88⟩ := gx_some hx85
        obtain ⟨vs89, hl90, hR91, hd92, hget93⟩ := h_v1.at hy88
        subst hR91
        refine WL.vS hS hE (runs_plain rfl) (Gives.idx hE ((((k53 : Nat) : Int)).toNat) rfl rfl sl31 hi86 (by omega) (hS.vecAok 3 rfl (by omega : (((k53 : Nat) : Int)).toNat < y0.Gone.length))) rfl ?_; clear hE a; intro a hE
        refine WL.vS hS hE (runs_plain rfl) (Gives.load1 hE rfl (fun w h => St.vecSees h 3 rfl ((((k53 : Nat) : Int)).toNat * 1) _ hget93) ty4) rfl ?_; clear hE a; intro a hE
        refine WL.vS hS hE (runs_plain rfl) (Gives.p hE rfl) rfl ?_; clear hE a; intro a hE
        refine WL.vS hS hE (runs_plain rfl) (Gives.p hE rfl) rfl ?_; clear hE a; intro a hE
        rcases Bool.eq_false_or_eq_true !x84 with hg94 | hg94
        · replace hq78 := iteT hg94 hq78
          refine WL.vS hS hE (runs_if hE rfl rfl rfl hg94) (Gives.fld hE rfl fl39_3) rfl ?_; clear hE a; intro a hE
          refine WL.vS hS hE (runs_if hE rfl rfl rfl hg94) (Gives.loadB hE 0 rfl rfl rfl ty22) rfl ?_; clear hE a; intro a hE
          refine WL.vS hS hE (runs_if hE rfl rfl rfl hg94) (Gives.p hE rfl) rfl ?_; clear hE a; intro a hE
          refine WL.fnq hE (SlicesContainsLint_ok hS h76 rfl (r := SlicesContainsLint x64.Seats x1)) (runs_if hE rfl rfl rfl hg94) bd31 rfl rfl rfl ?_
          clear hE hS; rintro e w ⟨rfl, hS⟩; refine ⟨_, rfl, ?_⟩; clear a; intro a hE
          refine WL.vS hS hE (runs_plain rfl) (Gives.pickT hE rfl hg94 rfl) rfl ?_; clear hE a; intro a hE
          refine WL.vS hS hE (runs_plain rfl) (Gives.p hE rfl) rfl ?_; clear hE a; intro a hE
          rcases Bool.eq_false_or_eq_true (SlicesContainsLint x64.Seats x1) with hg95 | hg95
          · replace hq78 := iteT hg95 hq78
            refine WL.vS hS hE (runs_if hE rfl rfl rfl hg95) (Gives.fld hE rfl fl39_1) rfl ?_; clear hE a; intro a hE
            refine WL.vS hS hE (runs_if hE rfl rfl rfl hg95) (Gives.loadB hE 0 rfl rfl rfl ty3) rfl ?_; clear hE a; intro a hE
            refine WL.vS hS hE (runs_if hE rfl rfl rfl hg95) (Gives.p hE rfl) rfl ?_; clear hE a; intro a hE
            refine WL.vS hS hE (runs_if hE rfl rfl rfl hg95) (Gives.p hE rfl) rfl ?_; clear hE a; intro a hE
            refine WL.vS hS hE (runs_plain rfl) (Gives.pickT hE rfl hg95 rfl) rfl ?_; clear hE a; intro a hE
            refine WL.vS hS hE (runs_plain rfl) (Gives.p hE rfl) rfl ?_; clear hE a; intro a hE
            rcases Bool.eq_false_or_eq_true (decide (x64.From < x3)) with hg96 | hg96
            · replace hq78 := iteT hg96 hq78
              refine WL.vS hS hE (runs_if hE rfl rfl rfl hg96) (Gives.p hE rfl) rfl ?_; clear hE a; intro a hE
              refine WL.vS hS hE (runs_if hE rfl rfl rfl hg96) (Gives.fld hE rfl fl39_2) rfl ?_; clear hE a; intro a hE
              refine WL.vS hS hE (runs_if hE rfl rfl rfl hg96) (Gives.loadB hE 0 rfl rfl rfl ty3) rfl ?_; clear hE a; intro a hE
              refine WL.vS hS hE (runs_if hE rfl rfl rfl hg96) (Gives.p hE rfl) rfl ?_; clear hE a; intro a hE
              refine WL.vS hS hE (runs_plain rfl) (Gives.pickT hE rfl hg96 rfl) rfl ?_; clear hE a; intro a hE
              refine WL.nil ?_
              subst hK83
              exact ⟨decide (x2 < x64.To), Option.some.inj hq78, hE.pick _ ⟨rfl, rfl, rfl, rfl, rfl, rfl, rfl, rfl, trivial⟩, hS⟩
            · replace hq78 := iteF hg96 hq78
              refine WL.no hE (runs_not hE rfl rfl rfl (by rw [hg96]; decide)) rfl ?_; clear hE a; intro a hE
              refine WL.no hE (runs_not hE rfl rfl rfl (by rw [hg96]; decide)) rfl ?_; clear hE a; intro a hE
              refine WL.no hE (runs_not hE rfl rfl rfl (by rw [hg96]; decide)) rfl ?_; clear hE a; intro a hE
              refine WL.no hE (runs_not hE rfl rfl rfl (by rw [hg96]; decide)) rfl ?_; clear hE a; intro a hE
              refine WL.vS hS hE (runs_plain rfl) (Gives.pickF hE rfl hg96 rfl) rfl ?_; clear hE a; intro a hE
              refine WL.nil ?_
              subst hK83
              exact ⟨false, Option.some.inj hq78, hE.pick _ ⟨rfl, rfl, rfl, rfl, rfl, rfl, rfl, rfl, trivial⟩, hS⟩
          · replace hq78 := iteF hg95 hq78
            refine WL.no hE (runs_not hE rfl rfl rfl (by rw [hg95]; decide)) rfl ?_; clear hE a; intro a hE
            refine WL.no hE (runs_not hE rfl rfl rfl (by rw [hg95]; decide)) rfl ?_; clear hE a; intro a hE
            refine WL.no hE (runs_not hE rfl rfl rfl (by rw [hg95]; decide)) rfl ?_; clear hE a; intro a hE
            refine WL.no hE (runs_not hE rfl rfl rfl (by rw [hg95]; decide)) rfl ?_; clear hE a; intro a hE
            refine WL.vS hS hE (runs_plain rfl) (Gives.pickF hE rfl hg95 rfl) rfl ?_; clear hE a; intro a hE
            refine WL.vS hS hE (runs_plain rfl) (Gives.p hE rfl) rfl ?_; clear hE a; intro a hE
            refine WL.no hE (runs_not hE rfl rfl rfl (by decide)) rfl ?_; clear hE a; intro a hE
            refine WL.no hE (runs_not hE rfl rfl rfl (by decide)) rfl ?_; clear hE a; intro a hE
            refine WL.no hE (runs_not hE rfl rfl rfl (by decide)) rfl ?_; clear hE a; intro a hE
            refine WL.no hE (runs_not hE rfl rfl rfl (by decide)) rfl ?_; clear hE a; intro a hE
            refine WL.vS hS hE (runs_plain rfl) (Gives.pickF hE rfl rfl rfl) rfl ?_; clear hE a; intro a hE
            refine WL.nil ?_
            subst hK83
            exact ⟨false, Option.some.inj hq78, hE.pick _ ⟨rfl, rfl, rfl, rfl, rfl, rfl, rfl, rfl, trivial⟩, hS⟩
        · replace hq78 := iteF hg94 hq78
          refine WL.no hE (runs_not hE rfl rfl rfl (by rw [hg94]; decide)) rfl ?_; clear hE a; intro a hE
          refine WL.no hE (runs_not hE rfl rfl rfl (by rw [hg94]; decide)) rfl ?_; clear hE a; intro a hE
          refine WL.no hE (runs_not hE rfl rfl rfl (by rw [hg94]; decide)) rfl ?_; clear hE a; intro a hE
          refine WL.no hE (runs_not hE rfl rfl rfl (by rw [hg94]; decide)) rfl ?_; clear hE a; intro a hE
          refine WL.vS hS hE (runs_plain rfl) (Gives.pickF hE rfl hg94 rfl) rfl ?_; clear hE a; intro a hE
          refine WL.vS hS hE (runs_plain rfl) (Gives.p hE rfl) rfl ?_; clear hE a; intro a hE
          refine WL.no hE (runs_not hE rfl rfl rfl (by decide)) rfl ?_; clear hE a; intro a hE
          refine WL.no hE (runs_not hE rfl rfl rfl (by decide)) rfl ?_; clear hE a; intro a hE
          refine WL.no hE (runs_not hE rfl rfl rfl (by decide)) rfl ?_; clear hE a; intro a hE
          refine WL.no hE (runs_not hE rfl rfl rfl (by decide)) rfl ?_; clear hE a; intro a hE
          refine WL.vS hS hE (runs_plain rfl) (Gives.pickF hE rfl rfl rfl) rfl ?_; clear hE a; intro a hE
          refine WL.vS hS hE (runs_plain rfl) (Gives.p hE rfl) rfl ?_; clear hE a; intro a hE
          refine WL.no hE (runs_not hE rfl rfl rfl (by decide)) rfl ?_; clear hE a; intro a hE
          refine WL.no hE (runs_not hE rfl rfl rfl (by decide)) rfl ?_; clear hE a; intro a hE
          refine WL.no hE (runs_not hE rfl rfl rfl (by decide)) rfl ?_; clear hE a; intro a hE
          refine WL.no hE (runs_not hE rfl rfl rfl (by decide)) rfl ?_; clear hE a; intro a hE
          refine WL.vS hS hE (runs_plain rfl) (Gives.pickF hE rfl rfl rfl) rfl ?_; clear hE a; intro a hE
          refine WL.nil ?_
          subst hK83
          exact ⟨false, Option.some.inj hq78, hE.pick _ ⟨rfl, rfl, rfl, rfl, rfl, rfl, rfl, rfl, trivial⟩, hS⟩
      · clear hE hS a w; rintro a w ⟨q82, rfl, hE, hS⟩
        refine W.cond hE rfl (fun hc97 => ?_) (fun hc97 => ?_)
        · replace hq51 := iteT hc97 hq51
          refine W.seq ?_
          refine W.region ?_
          refine WL.vS hS hE (runs_plain rfl) (Gives.p hE rfl) rfl ?_; clear hE a; intro a hE
          refine WL.nil ?_
          refine W.ret ?_
          subst hK63
          rw [← Option.some.inj hq51] at hr
          dsimp only at hr
          refine finG (fn := Try.f22) (rs := [.tmp 8]) (vs := [_]) hE rfl ⟨rfl, trivial⟩ ?_
          obtain rfl := Option.some.inj hr
          replace hS := hS.tail
          exact ⟨rfl, hS⟩
        · replace hq51 := iteF hc97 hq51
          refine W.skip ?_
          refine W.region ?_
          refine WL.vS hS hE (runs_plain rfl) (Gives.inc hE rfl (by omega)) rfl ?_; clear hE a; intro a hE
          refine WL.vS hS hE (runs_plain rfl) (Gives.p hE rfl) rfl ?_; clear hE a; intro a hE
          refine WL.nil ?_
          replace hS := hS.tail
          subst hK63
          exact ⟨rest55, Nat.lt_succ_self _, rest55, k53 + 1, rfl, (by omega), hq51, hE.pick _ ⟨rfl, rfl, rfl, rfl, rfl, rfl, rfl, trivial⟩, hS⟩
  · clear hE hS a w; rintro a w ⟨rfl, hE, hS⟩
    dsimp only at hr
    refine W.seq ?_
    refine W.region ?_
    refine WL.vS hS hE (runs_plain rfl) (Gives.p hE rfl) rfl ?_; clear hE a; intro a hE
    refine WL.nil ?_
    refine W.ret ?_
    refine finG (fn := Try.f22) (rs := [.tmp 8]) (vs := [_]) hE rfl ⟨rfl, trivial⟩ ?_
    obtain rfl := Option.some.inj hr
    exact ⟨rfl, hS⟩
set_option maxHeartbeats 8000000 in
theorem Fishref2CarFree_v1_ok {fu : Nat}  {w : World} {s : Sg} {R : List HP} {pb0 : Nat} {x1 : Int} {x2 : Int} {y0 : Fishref2Car} {a_v0 : Option Addr} {c_v0 n_v0 : Nat} {cs_v0 : List Value} {a_v1 : Option Addr} {c_v1 n_v1 : Nat} {cs_v1 : List Value} (hS : St w s (pt pb0 (.cells #[.int .i64 y0.Rows, .int .i64 y0.Across, .int .i64 y0.Stops, .slice a_v0 n_v0 c_v0, .slice a_v1 n_v1 c_v1] 33 (0, 0)) :: vecC 39 4 a_v0 c_v0 n_v0 cs_v0 :: vecC 4 1 a_v1 c_v1 n_v1 cs_v1 :: R)) (h_v0 : Ev 4 RFareBooking s cs_v0 y0.All) (hn_v0 : y0.All.length = n_v0) (h_v1 : Ev 1 RB s cs_v1 y0.Gone) (hn_v1 : y0.Gone.length = n_v1) {r : (List Int) × Int} (hr : Fishref2CarFree_v1 fu x1 x2 y0 = some r) :
    Calls Try.prog 10 [.pointer (some ⟨pb0, 0, none⟩), .int .i64 x1, .int .i64 x2].toArray w (fun e w => ∃ (a0 : Option Addr) (c0 n0 : Nat) (cs0 : List Value), e = .returned (.tuple #[.slice a0 n0 c0, .int .i64 r.2]) ∧ Ev 1 (RI .i64) s cs0 r.1 ∧ r.1.length = n0 ∧ St w s (vecC 3 1 a0 c0 n0 cs0 :: pt pb0 (.cells #[.int .i64 y0.Rows, .int .i64 y0.Across, .int .i64 y0.Stops, .slice a_v0 n_v0 c_v0, .slice a_v1 n_v1 c_v1] 33 (0, 0)) :: vecC 39 4 a_v0 c_v0 n_v0 cs_v0 :: vecC 4 1 a_v1 c_v1 n_v1 cs_v1 :: R)) := by
  refine enter Try.func10 rfl rfl rfl fun a hE => ?_
  rw [Fishref2CarFree_v1] at hr
  subst hn_v0
  subst hn_v1
  refine W.seq ?_
  refine W.region ?_
  refine WL.vS hS hE (runs_plain rfl) (Gives.p hE rfl) rfl ?_; clear hE a; intro a hE
  refine WL.vS hS hE (runs_plain rfl) (Gives.p hE rfl) rfl ?_; clear hE a; intro a hE
  refine WL.nil ?_
  refine W.seq ?_
  refine W.seq ?_
  obtain ⟨q52, hq51, hr⟩ := bndS hr
  refine W.cut (fun a w => ∃ (q55 : Bool), q55 = q52 ∧ Rep a 49 [(0, .pointer (some ⟨pb0, 0, none⟩)), (1, .int .i64 x1), (2, .int .i64 x2), (24, .bool q55)] ∧ St w s (pt pb0 (.cells #[.int .i64 y0.Rows, .int .i64 y0.Across, .int .i64 y0.Stops, .slice a_v0 y0.All.length c_v0, .slice a_v1 y0.Gone.length c_v1] 33 (0, 0)) :: vecC 39 4 a_v0 c_v0 y0.All.length cs_v0 :: vecC 4 1 a_v1 c_v1 y0.Gone.length cs_v1 :: R)) ?_ ?_
  · refine W.gen fun K56 hK56 => ?_
    refine W.region ?_
    refine WL.vS hS hE (runs_plain rfl) (Gives.p hE rfl) rfl ?_; clear hE a; intro a hE
    refine WL.vS hS hE (runs_plain rfl) (Gives.p hE rfl) rfl ?_; clear hE a; intro a hE
    refine WL.vS hS hE (runs_plain rfl) (Gives.p hE rfl) rfl ?_; clear hE a; intro a hE
    rcases Bool.eq_false_or_eq_true (decide (x1 < 0)) with hg57 | hg57
    · replace hq51 := iteT hg57 hq51
      refine WL.no hE (runs_not hE rfl rfl rfl (by rw [hg57]; decide)) rfl ?_; clear hE a; intro a hE
      refine WL.no hE (runs_not hE rfl rfl rfl (by rw [hg57]; decide)) rfl ?_; clear hE a; intro a hE
      refine WL.no hE (runs_not hE rfl rfl rfl (by rw [hg57]; decide)) rfl ?_; clear hE a; intro a hE
      refine WL.vS hS hE (runs_plain rfl) (Gives.pickT hE rfl hg57 rfl) rfl ?_; clear hE a; intro a hE
      refine WL.vS hS hE (runs_plain rfl) (Gives.p hE rfl) rfl ?_; clear hE a; intro a hE
      refine WL.no hE (runs_not hE rfl rfl rfl (by decide)) rfl ?_; clear hE a; intro a hE
      refine WL.no hE (runs_not hE rfl rfl rfl (by decide)) rfl ?_; clear hE a; intro a hE
      refine WL.no hE (runs_not hE rfl rfl rfl (by decide)) rfl ?_; clear hE a; intro a hE
      refine WL.no hE (runs_not hE rfl rfl rfl (by decide)) rfl ?_; clear hE a; intro a hE
      refine WL.no hE (runs_not hE rfl rfl rfl (by decide)) rfl ?_; clear hE a; intro a hE
      refine WL.no hE (runs_not hE rfl rfl rfl (by decide)) rfl ?_; clear hE a; intro a hE
      refine WL.vS hS hE (runs_plain rfl) (Gives.pickT hE rfl rfl rfl) rfl ?_; clear hE a; intro a hE
      refine WL.nil ?_
      subst hK56
      exact ⟨true, hq51, hE.pick _ ⟨rfl, rfl, rfl, rfl, trivial⟩, hS⟩
    · replace hq51 := iteF hg57 hq51
      refine WL.vS hS hE (runs_if hE rfl rfl rfl hg57) (Gives.p hE rfl) rfl ?_; clear hE a; intro a hE
      refine WL.vS hS hE (runs_if hE rfl rfl rfl hg57) (Gives.p hE rfl) rfl ?_; clear hE a; intro a hE
      refine WL.vS hS hE (runs_if hE rfl rfl rfl hg57) (Gives.p hE rfl) rfl ?_; clear hE a; intro a hE
      refine WL.vS hS hE (runs_plain rfl) (Gives.pickF hE rfl hg57 rfl) rfl ?_; clear hE a; intro a hE
      refine WL.vS hS hE (runs_plain rfl) (Gives.p hE rfl) rfl ?_; clear hE a; intro a hE
      rcases Bool.eq_false_or_eq_true (decide (x1 ≥ x2)) with hg58 | hg58
      · replace hq51 := iteT hg58 hq51
        refine WL.no hE (runs_not hE rfl rfl rfl (by rw [hg58]; decide)) rfl ?_; clear hE a; intro a hE
        refine WL.no hE (runs_not hE rfl rfl rfl (by rw [hg58]; decide)) rfl ?_; clear hE a; intro a hE
        refine WL.no hE (runs_not hE rfl rfl rfl (by rw [hg58]; decide)) rfl ?_; clear hE a; intro a hE
        refine WL.no hE (runs_not hE rfl rfl rfl (by rw [hg58]; decide)) rfl ?_; clear hE a; intro a hE
        refine WL.no hE (runs_not hE rfl rfl rfl (by rw [hg58]; decide)) rfl ?_; clear hE a; intro a hE
        refine WL.no hE (runs_not hE rfl rfl rfl (by rw [hg58]; decide)) rfl ?_; clear hE a; intro a hE
        refine WL.vS hS hE (runs_plain rfl) (Gives.pickT hE rfl hg58 rfl) rfl ?_; clear hE a; intro a hE
        refine WL.nil ?_
        subst hK56
        exact ⟨true, hq51, hE.pick _ ⟨rfl, rfl, rfl, rfl, trivial⟩, hS⟩
      · replace hq51 := iteF hg58 hq51
        refine WL.vS hS hE (runs_if hE rfl rfl rfl hg58) (Gives.p hE rfl) rfl ?_; clear hE a; intro a hE
        refine WL.vS hS hE (runs_if hE rfl rfl rfl hg58) (Gives.p hE rfl) rfl ?_; clear hE a; intro a hE
        refine WL.vS hS hE (runs_if hE rfl rfl rfl hg58) (Gives.nilOk hE rfl) rfl ?_; clear hE a; intro a hE
        refine WL.vS hS hE (runs_if hE rfl rfl rfl hg58) (Gives.fld hE rfl fl33_2) rfl ?_; clear hE a; intro a hE
        refine WL.vS hS hE (runs_if hE rfl rfl rfl hg58) (Gives.loadB hE 0 rfl rfl rfl ty3) rfl ?_; clear hE a; intro a hE
        refine WL.vS hS hE (runs_if hE rfl rfl rfl hg58) (Gives.p hE rfl) rfl ?_; clear hE a; intro a hE
        refine WL.vS hS hE (runs_plain rfl) (Gives.pickF hE rfl hg58 rfl) rfl ?_; clear hE a; intro a hE
        refine WL.nil ?_
        subst hK56
        exact ⟨decide (x2 ≥ y0.Stops), hq51, hE.pick _ ⟨rfl, rfl, rfl, rfl, trivial⟩, hS⟩
  · clear hE hS a w; rintro a w ⟨q55, rfl, hE, hS⟩
    refine W.cond hE rfl (fun hc59 => ?_) (fun hc59 => ?_)
    · replace hr := iteT hc59 hr
      refine W.seq ?_
      refine W.region ?_
      refine WL.vS hS hE (runs_plain rfl) (Gives.p hE rfl) rfl ?_; clear hE a; intro a hE
      refine WL.vS hS hE (runs_plain rfl) (Gives.p hE rfl) rfl ?_; clear hE a; intro a hE
      refine WL.nil ?_
      refine W.ret ?_
      replace hS := hS.vecNil 3 1
      refine finG (fn := Try.f10) (rs := [.tmp 6, .tmp 7]) (vs := [_, _]) hE rfl ⟨rfl, rfl, trivial⟩ ?_
      obtain rfl := Option.some.inj hr
      exact ⟨none, 0, 0, [], rfl, (Ev.nil), (rfl), hS⟩
    · replace hr := iteF hc59 hr
      refine W.skip ?_
      refine W.seq ?_
      refine W.region ?_
      replace hS := hS.vecNil 3 1
      refine WL.vS hS hE (runs_plain rfl) (Gives.p hE rfl) rfl ?_; clear hE a; intro a hE
      refine WL.nil ?_
      refine W.seq ?_
      refine W.seq ?_
      refine W.regionQ (C := fun w => St w s (vecC 3 1 none 0 0 [] :: pt pb0 (.cells #[.int .i64 y0.Rows, .int .i64 y0.Across, .int .i64 y0.Stops, .slice a_v0 y0.All.length c_v0, .slice a_v1 y0.Gone.length c_v1] 33 (0, 0)) :: vecC 39 4 a_v0 c_v0 y0.All.length cs_v0 :: vecC 4 1 a_v1 c_v1 y0.Gone.length cs_v1 :: R)) mixed (by kernel_rfl) hS.drew ?_
      refine QL.v hE (runs_plain rfl) (Gives.p hE rfl) rfl ?_; clear hE a; intro a hE
      refine QL.v hE (runs_plain rfl) (Gives.nilOk hE rfl) rfl ?_; clear hE a; intro a hE
      refine QL.v hE (runs_plain rfl) (Gives.fld hE rfl fl33_0) rfl ?_; clear hE a; intro a hE
      refine QL.v hE (runs_plain rfl) (Gives.loadB hE 1 rfl rfl rfl ty3) rfl ?_; clear hE a; intro a hE
      refine QL.v hE (runs_plain rfl) (Gives.p hE rfl) rfl ?_; clear hE a; intro a hE
      refine QL.v hE (runs_plain rfl) (Gives.nilOk hE rfl) rfl ?_; clear hE a; intro a hE
      refine QL.v hE (runs_plain rfl) (Gives.fld hE rfl fl33_1) rfl ?_; clear hE a; intro a hE
      refine QL.v hE (runs_plain rfl) (Gives.loadB hE 1 rfl rfl rfl ty3) rfl ?_; clear hE a; intro a hE
      refine QL.v hE (runs_plain rfl) (Gives.p hE rfl) rfl ?_; clear hE a; intro a hE
      refine QL.v hE (runs_plain rfl) (Gives.p hE rfl) rfl ?_; clear hE a; intro a hE
      refine QL.nil ?_; clear hS w; intro w hS
      obtain ⟨q74, hq73, hr⟩ := bindS hr
      refine W.cut (fun a w => ∃ (q79 : List Int), ∃ (q86 : Int), ∃ (a80 : Option Addr), ∃ (c81 : Nat), ∃ (n83 : Nat), ∃ (cs84 : List Value), (q79, q86) = q74 ∧ Ev 1 (RI .i64) s cs84 q79 ∧ q79.length = n83 ∧ Rep a 49 [(8, .slice a80 n83 c81)] ∧ St w s (vecC 3 1 a80 c81 n83 cs84 :: pt pb0 (.cells #[.int .i64 y0.Rows, .int .i64 y0.Across, .int .i64 y0.Stops, .slice a_v0 y0.All.length c_v0, .slice a_v1 y0.Gone.length c_v1] 33 (0, 0)) :: vecC 39 4 a_v0 c_v0 y0.All.length cs_v0 :: vecC 4 1 a_v1 c_v1 y0.Gone.length cs_v1 :: R)) ?_ ?_
      · refine W.block ?_
        refine W.loop (fun m a w => ∃ (n75 : Nat), ∃ (q79 : List Int), ∃ (q86 : Int), ∃ (a80 : Option Addr), ∃ (c81 : Nat), ∃ (n83 : Nat), ∃ (cs84 : List Value), n75 = m ∧ Fishref2CarFree_v1.loop2 x1 x2 y0 n75 q79 q86 = some q74 ∧ Ev 1 (RI .i64) s cs84 q79 ∧ q79.length = n83 ∧ Rep a 49 [(0, .pointer (some ⟨pb0, 0, none⟩)), (1, .int .i64 x1), (2, .int .i64 x2), (8, .slice a80 n83 c81), (33, .int .i64 (w64 (y0.Rows * y0.Across))), (34, .int .i64 q86)] ∧ St w s (vecC 3 1 a80 c81 n83 cs84 :: pt pb0 (.cells #[.int .i64 y0.Rows, .int .i64 y0.Across, .int .i64 y0.Stops, .slice a_v0 y0.All.length c_v0, .slice a_v1 y0.Gone.length c_v1] 33 (0, 0)) :: vecC 39 4 a_v0 c_v0 y0.All.length cs_v0 :: vecC 4 1 a_v1 c_v1 y0.Gone.length cs_v1 :: R)) (m := fu) ⟨fu, [], 0, none, 0, 0, [], rfl, hq73, (Ev.nil), (rfl), hE.pick _ ⟨rfl, rfl, rfl, rfl, rfl, rfl, trivial⟩, hS⟩ ?_
        clear hE hS a w hq73; rintro m76 a w ⟨n75, q79, q86, a80, c81, n83, cs84, rfl, hq73, h82, rfl, hE, hS⟩
        refine W.gen fun K87 hK87 => ?_
        rcases n75 with _ | n75
        · rw [Fishref2CarFree_v1.loop2] at hq73; exact absurd hq73 (by simp)
        rw [Fishref2CarFree_v1.loop2] at hq73
        refine W.seq ?_
        refine W.region ?_
        refine WL.vS hS hE (runs_plain rfl) (Gives.p hE rfl) rfl ?_; clear hE a; intro a hE
        refine WL.nil ?_
        refine W.seq ?_
        refine W.cond hE rfl (fun hc88 => ?_) (fun hc88 => ?_)
        · replace hq73 := iteT hc88 hq73
          refine W.skip ?_
          refine W.seq ?_
          refine W.block ?_
          refine W.seq ?_
          refine W.region ?_
          refine WL.vS hS hE (runs_plain rfl) (Gives.p hE rfl) rfl ?_; clear hE a; intro a hE
          refine WL.vS hS hE (runs_plain rfl) (Gives.p hE rfl) rfl ?_; clear hE a; intro a hE
          refine WL.nil ?_
          refine W.seq ?_
          refine W.region ?_
          refine WL.vS hS hE (runs_plain rfl) (Gives.p hE rfl) rfl ?_; clear hE a; intro a hE
          refine WL.vS hS hE (runs_plain rfl) (Gives.p hE rfl) rfl ?_; clear hE a; intro a hE
          refine WL.vS hS hE (runs_plain rfl) (Gives.p hE rfl) rfl ?_; clear hE a; intro a hE
          refine WL.vS hS hE (runs_plain rfl) (Gives.p hE rfl) rfl ?_; clear hE a; intro a hE
          obtain ⟨q89, hq90, hq73⟩ := bindS hq73
          replace hS := hS.front 3 rfl
          replace hS := hS.front 3 rfl
          replace hS := hS.front 3 rfl
          have hc_ := Fishref2Carhas_v1_ok (y0 := y0) hS h_v0 (rfl) h_v1 (rfl) hq90
          refine WL.fnq hE (hc_) (runs_plain rfl) bd22 rfl rfl rfl ?_
          clear hE hS hc_; rintro e w ⟨rfl, hS⟩; refine ⟨_, rfl, ?_⟩; clear a; intro a hE
          refine WL.vS hS hE (runs_plain rfl) (Gives.p hE rfl) rfl ?_; clear hE a; intro a hE
          refine WL.nil ?_
          obtain ⟨q92, hq91, hq73⟩ := bindS hq73
          refine W.cut (fun a w => ∃ (q95 : List Int), ∃ (a96 : Option Addr), ∃ (c97 : Nat), ∃ (n99 : Nat), ∃ (cs100 : List Value), q95 = q92 ∧ Ev 1 (RI .i64) s cs100 q95 ∧ q95.length = n99 ∧ Rep a 49 [(0, .pointer (some ⟨pb0, 0, none⟩)), (1, .int .i64 x1), (2, .int .i64 x2), (8, .slice a96 n99 c97), (33, .int .i64 (w64 (y0.Rows * y0.Across))), (34, .int .i64 q86)] ∧ St w s (pt pb0 (.cells #[.int .i64 y0.Rows, .int .i64 y0.Across, .int .i64 y0.Stops, .slice a_v0 y0.All.length c_v0, .slice a_v1 y0.Gone.length c_v1] 33 (0, 0)) :: vecC 39 4 a_v0 c_v0 y0.All.length cs_v0 :: vecC 4 1 a_v1 c_v1 y0.Gone.length cs_v1 :: vecC 3 1 a96 c97 n99 cs100 :: R)) ?_ ?_
          · refine W.gen fun K102 hK102 => ?_
            refine W.cond hE rfl (fun hc103 => ?_) (fun hc103 => ?_)
            · replace hq91 := iteT hc103 hq91
              refine W.region ?_
              refine WL.vS hS hE (runs_plain rfl) (Gives.p hE rfl) rfl ?_; clear hE a; intro a hE
              refine WL.vS hS hE (runs_plain rfl) (Gives.p hE rfl) rfl ?_; clear hE a; intro a hE
              refine WL.lit hE hS (e := 3) (es := 1) (vs := [(0, .int .i64 q86)]) (cs := [.int .i64 q86]) (runs_plain rfl) rfl (by kernel_rfl) rfl ?_; clear hE hS a w; intro b104 a w hE hS
              obtain ⟨x105, hx106, hq91⟩ := bindS hq91
              refine WL.appD hE hS 3 (m := 1) (runs_plain rfl) rfl rfl rfl ap22 rfl h82 rfl (xs := [q86]) (Ev.cons (c1 := [.int .i64 q86]) rfl rfl (Ev.nil)) rfl rfl hx106 rfl ?_; clear hE hS a w; intro a107 c108 cs109 a w h110 hE hS
              refine WL.vS hS hE (runs_plain rfl) (Gives.p hE rfl) rfl ?_; clear hE a; intro a hE
              refine WL.nil ?_
              subst hK102
              exact ⟨x105, a107, c108, x105.length, cs109, Option.some.inj hq91, h110, (rfl), hE.pick _ ⟨rfl, rfl, rfl, rfl, rfl, rfl, trivial⟩, hS⟩
            · replace hq91 := iteF hc103 hq91
              refine W.skip ?_
              subst hK102
              exact ⟨q79, a80, c81, q79.length, cs84, Option.some.inj hq91, h82, rfl, hE.pick _ ⟨rfl, rfl, rfl, rfl, rfl, rfl, trivial⟩, hS⟩
          · clear hE hS a w; rintro a w ⟨q95, a96, c97, n99, cs100, rfl, h98, rfl, hE, hS⟩
            refine W.region ?_
            refine WL.vS hS hE (runs_plain rfl) (Gives.p hE rfl) rfl ?_; clear hE a; intro a hE
            refine WL.vS hS hE (runs_plain rfl) (Gives.p hE rfl) rfl ?_; clear hE a; intro a hE
            refine WL.nil ?_
            replace hS := hS.front 2 rfl
            replace hS := hS.front 2 rfl
            replace hS := hS.front 2 rfl
            replace hS := hS.front 3 rfl
            subst hK87
            exact ⟨n75, Nat.lt_succ_self _, n75, q95, (w64 (q86 + 1)), a96, c97, q95.length, cs100, rfl, hq73, h98, rfl, hE.pick _ ⟨rfl, rfl, rfl, rfl, rfl, rfl, trivial⟩, hS⟩
        · replace hq73 := iteF hc88 hq73
          subst hK87
          refine W.exit rfl ?_
          exact ⟨q79, q86, a80, c81, q79.length, cs84, Option.some.inj hq73, h82, rfl, hE.pick _ ⟨rfl, trivial⟩, hS⟩
      · clear hE hS a w; rintro a w ⟨q79, q86, a80, c81, n83, cs84, rfl, h82, rfl, hE, hS⟩
        dsimp only at hr
        refine W.seq ?_
        refine W.region ?_
        refine WL.vS hS hE (runs_plain rfl) (Gives.p hE rfl) rfl ?_; clear hE a; intro a hE
        refine WL.vS hS hE (runs_plain rfl) (Gives.p hE rfl) rfl ?_; clear hE a; intro a hE
        refine WL.vS hS hE (runs_plain rfl) (Gives.p hE rfl) rfl ?_; clear hE a; intro a hE
        refine WL.nil ?_
        refine W.ret ?_
        refine finG (fn := Try.f10) (rs := [.tmp 6, .tmp 7]) (vs := [_, _]) hE rfl ⟨rfl, rfl, trivial⟩ ?_
        obtain rfl := Option.some.inj hr
        exact ⟨a80, c81, q79.length, cs84, rfl, h82, rfl, hS⟩
set_option maxHeartbeats 8000000 in
theorem Fishref2Cargap_v1_ok {fu : Nat}  {w : World} {s : Sg} {R : List HP} {pb0 : Nat} {x1 : Int} {x2 : Int} {x3 : Int} {y0 : Fishref2Car} {a_v0 : Option Addr} {c_v0 n_v0 : Nat} {cs_v0 : List Value} {a_v1 : Option Addr} {c_v1 n_v1 : Nat} {cs_v1 : List Value} (hS : St w s (pt pb0 (.cells #[.int .i64 y0.Rows, .int .i64 y0.Across, .int .i64 y0.Stops, .slice a_v0 n_v0 c_v0, .slice a_v1 n_v1 c_v1] 33 (0, 0)) :: vecC 39 4 a_v0 c_v0 n_v0 cs_v0 :: vecC 4 1 a_v1 c_v1 n_v1 cs_v1 :: R)) (h_v0 : Ev 4 RFareBooking s cs_v0 y0.All) (hn_v0 : y0.All.length = n_v0) (h_v1 : Ev 1 RB s cs_v1 y0.Gone) (hn_v1 : y0.Gone.length = n_v1) {r : Int} (hr : Fishref2Cargap_v1 fu x1 x2 x3 y0 = some r) :
    Calls Try.prog 25 [.pointer (some ⟨pb0, 0, none⟩), .int .i64 x1, .int .i64 x2, .int .i64 x3].toArray w (fun e w => e = .returned (.int .i64 r) ∧ St w s (pt pb0 (.cells #[.int .i64 y0.Rows, .int .i64 y0.Across, .int .i64 y0.Stops, .slice a_v0 n_v0 c_v0, .slice a_v1 n_v1 c_v1] 33 (0, 0)) :: vecC 39 4 a_v0 c_v0 n_v0 cs_v0 :: vecC 4 1 a_v1 c_v1 n_v1 cs_v1 :: R)) := by
  refine enter Try.func25 rfl rfl rfl fun a hE => ?_
  rw [Fishref2Cargap_v1] at hr
  subst hn_v0
  subst hn_v1
  refine W.seq ?_
  refine W.region ?_
  refine WL.vS hS hE (runs_plain rfl) (Gives.p hE rfl) rfl ?_; clear hE a; intro a hE
  refine WL.nil ?_
  refine W.seq ?_
  obtain ⟨q52, hq51, hr⟩ := bindS hr
  refine W.cut (fun a w => ∃ (q57 : Int), q57 = q52 ∧ Rep a 43 [(0, .pointer (some ⟨pb0, 0, none⟩)), (1, .int .i64 x1), (2, .int .i64 q57), (3, .int .i64 x3)] ∧ St w s (pt pb0 (.cells #[.int .i64 y0.Rows, .int .i64 y0.Across, .int .i64 y0.Stops, .slice a_v0 y0.All.length c_v0, .slice a_v1 y0.Gone.length c_v1] 33 (0, 0)) :: vecC 39 4 a_v0 c_v0 y0.All.length cs_v0 :: vecC 4 1 a_v1 c_v1 y0.Gone.length cs_v1 :: R)) ?_ ?_
  · refine W.block ?_
    refine W.loop (fun m a w => ∃ (n53 : Nat), ∃ (q57 : Int), n53 = m ∧ Fishref2Cargap_v1.loop1 x1 x3 y0 n53 q57 = some q52 ∧ Rep a 43 [(0, .pointer (some ⟨pb0, 0, none⟩)), (1, .int .i64 x1), (2, .int .i64 q57), (3, .int .i64 x3)] ∧ St w s (pt pb0 (.cells #[.int .i64 y0.Rows, .int .i64 y0.Across, .int .i64 y0.Stops, .slice a_v0 y0.All.length c_v0, .slice a_v1 y0.Gone.length c_v1] 33 (0, 0)) :: vecC 39 4 a_v0 c_v0 y0.All.length cs_v0 :: vecC 4 1 a_v1 c_v1 y0.Gone.length cs_v1 :: R)) (m := fu) ⟨fu, x2, rfl, hq51, hE.pick _ ⟨rfl, rfl, rfl, rfl, trivial⟩, hS⟩ ?_
    clear hE hS a w hq51; rintro m54 a w ⟨n53, q57, rfl, hq51, hE, hS⟩
    refine W.gen fun K58 hK58 => ?_
    rcases n53 with _ | n53
    · rw [Fishref2Cargap_v1.loop1] at hq51; exact absurd hq51 (by simp)
    rw [Fishref2Cargap_v1.loop1] at hq51
    refine W.seq ?_
    refine W.seq ?_
    obtain ⟨q60, hq59, hq51⟩ := bindS hq51
    refine W.cut (fun a w => ∃ (q63 : Bool), q63 = q60 ∧ Rep a 43 [(0, .pointer (some ⟨pb0, 0, none⟩)), (1, .int .i64 x1), (2, .int .i64 q57), (3, .int .i64 x3), (19, .bool q63)] ∧ St w s (pt pb0 (.cells #[.int .i64 y0.Rows, .int .i64 y0.Across, .int .i64 y0.Stops, .slice a_v0 y0.All.length c_v0, .slice a_v1 y0.Gone.length c_v1] 33 (0, 0)) :: vecC 39 4 a_v0 c_v0 y0.All.length cs_v0 :: vecC 4 1 a_v1 c_v1 y0.Gone.length cs_v1 :: R)) ?_ ?_
    · refine W.gen fun K64 hK64 => ?_
      refine W.region ?_
      refine WL.vS hS hE (runs_plain rfl) (Gives.p hE rfl) rfl ?_; clear hE a; intro a hE
      refine WL.vS hS hE (runs_plain rfl) (Gives.p hE rfl) rfl ?_; clear hE a; intro a hE
      refine WL.vS hS hE (runs_plain rfl) (Gives.p hE rfl) rfl ?_; clear hE a; intro a hE
      rcases Bool.eq_false_or_eq_true (decide (q57 > 0)) with hg65 | hg65
      · replace hq59 := iteT hg65 hq59
        refine WL.vS hS hE (runs_if hE rfl rfl rfl hg65) (Gives.p hE rfl) rfl ?_; clear hE a; intro a hE
        refine WL.vS hS hE (runs_if hE rfl rfl rfl hg65) (Gives.p hE rfl) rfl ?_; clear hE a; intro a hE
        refine WL.vS hS hE (runs_if hE rfl rfl rfl hg65) (Gives.p hE rfl) rfl ?_; clear hE a; intro a hE
        refine WL.vS hS hE (runs_if hE rfl rfl rfl hg65) (Gives.p hE rfl) rfl ?_; clear hE a; intro a hE
        refine WL.vS hS hE (runs_if hE rfl rfl rfl hg65) (Gives.p hE rfl) rfl ?_; clear hE a; intro a hE
        obtain ⟨q66, hq67, hq59⟩ := bindS hq59
        have hc_ := Fishref2Carhas_v1_ok (y0 := y0) hS h_v0 (rfl) h_v1 (rfl) hq67
        refine WL.fnq hE (hc_) (runs_if hE rfl rfl rfl hg65) bd22 rfl rfl rfl ?_
        clear hE hS hc_; rintro e w ⟨rfl, hS⟩; refine ⟨_, rfl, ?_⟩; clear a; intro a hE
        refine WL.vS hS hE (runs_if hE rfl rfl rfl hg65) (Gives.p hE rfl) rfl ?_; clear hE a; intro a hE
        refine WL.vS hS hE (runs_plain rfl) (Gives.pickT hE rfl hg65 rfl) rfl ?_; clear hE a; intro a hE
        refine WL.nil ?_
        subst hK64
        exact ⟨!q66, Option.some.inj hq59, hE.pick _ ⟨rfl, rfl, rfl, rfl, rfl, trivial⟩, hS⟩
      · replace hq59 := iteF hg65 hq59
        refine WL.no hE (runs_not hE rfl rfl rfl (by rw [hg65]; decide)) rfl ?_; clear hE a; intro a hE
        refine WL.no hE (runs_not hE rfl rfl rfl (by rw [hg65]; decide)) rfl ?_; clear hE a; intro a hE
        refine WL.no hE (runs_not hE rfl rfl rfl (by rw [hg65]; decide)) rfl ?_; clear hE a; intro a hE
        refine WL.no hE (runs_not hE rfl rfl rfl (by rw [hg65]; decide)) rfl ?_; clear hE a; intro a hE
        refine WL.no hE (runs_not hE rfl rfl rfl (by rw [hg65]; decide)) rfl ?_; clear hE a; intro a hE
        refine WL.no hE (runs_not hE rfl rfl rfl (by rw [hg65]; decide)) rfl ?_; clear hE a; intro a hE
        refine WL.no hE (runs_not hE rfl rfl rfl (by rw [hg65]; decide)) rfl ?_; clear hE a; intro a hE
        refine WL.vS hS hE (runs_plain rfl) (Gives.pickF hE rfl hg65 rfl) rfl ?_; clear hE a; intro a hE
        refine WL.nil ?_
        subst hK64
        exact ⟨false, Option.some.inj hq59, hE.pick _ ⟨rfl, rfl, rfl, rfl, rfl, trivial⟩, hS⟩
    · clear hE hS a w; rintro a w ⟨q63, rfl, hE, hS⟩
      refine W.cond hE rfl (fun hc68 => ?_) (fun hc68 => ?_)
      · replace hq51 := iteT hc68 hq51
        refine W.skip ?_
        refine W.block ?_
        refine W.region ?_
        refine WL.vS hS hE (runs_plain rfl) (Gives.p hE rfl) rfl ?_; clear hE a; intro a hE
        refine WL.vS hS hE (runs_plain rfl) (Gives.p hE rfl) rfl ?_; clear hE a; intro a hE
        refine WL.vS hS hE (runs_plain rfl) (Gives.p hE rfl) rfl ?_; clear hE a; intro a hE
        refine WL.nil ?_
        subst hK58
        exact ⟨n53, Nat.lt_succ_self _, n53, (w64 (q57 - 1)), rfl, hq51, hE.pick _ ⟨rfl, rfl, rfl, rfl, trivial⟩, hS⟩
      · replace hq51 := iteF hc68 hq51
        subst hK58
        refine W.exit rfl ?_
        exact ⟨q57, Option.some.inj hq51, hE.pick _ ⟨rfl, rfl, rfl, rfl, trivial⟩, hS⟩
  · clear hE hS a w; rintro a w ⟨q57, rfl, hE, hS⟩
    refine W.seq ?_
    obtain ⟨q70, hq69, hr⟩ := bindS hr
    refine W.cut (fun a w => ∃ (q75 : Int), q75 = q70 ∧ Rep a 43 [(2, .int .i64 q57), (3, .int .i64 q75)] ∧ St w s (pt pb0 (.cells #[.int .i64 y0.Rows, .int .i64 y0.Across, .int .i64 y0.Stops, .slice a_v0 y0.All.length c_v0, .slice a_v1 y0.Gone.length c_v1] 33 (0, 0)) :: vecC 39 4 a_v0 c_v0 y0.All.length cs_v0 :: vecC 4 1 a_v1 c_v1 y0.Gone.length cs_v1 :: R)) ?_ ?_
    · refine W.block ?_
      refine W.loop (fun m a w => ∃ (n71 : Nat), ∃ (q75 : Int), n71 = m ∧ Fishref2Cargap_v1.loop2 x1 y0 q57 n71 q75 = some q70 ∧ Rep a 43 [(0, .pointer (some ⟨pb0, 0, none⟩)), (1, .int .i64 x1), (2, .int .i64 q57), (3, .int .i64 q75)] ∧ St w s (pt pb0 (.cells #[.int .i64 y0.Rows, .int .i64 y0.Across, .int .i64 y0.Stops, .slice a_v0 y0.All.length c_v0, .slice a_v1 y0.Gone.length c_v1] 33 (0, 0)) :: vecC 39 4 a_v0 c_v0 y0.All.length cs_v0 :: vecC 4 1 a_v1 c_v1 y0.Gone.length cs_v1 :: R)) (m := fu) ⟨fu, x3, rfl, hq69, hE.pick _ ⟨rfl, rfl, rfl, rfl, trivial⟩, hS⟩ ?_
      clear hE hS a w hq69; rintro m72 a w ⟨n71, q75, rfl, hq69, hE, hS⟩
      refine W.gen fun K76 hK76 => ?_
      rcases n71 with _ | n71
      · rw [Fishref2Cargap_v1.loop2] at hq69; exact absurd hq69 (by simp)
      rw [Fishref2Cargap_v1.loop2] at hq69
      refine W.seq ?_
      refine W.seq ?_
      obtain ⟨q78, hq77, hq69⟩ := bindS hq69
      refine W.cut (fun a w => ∃ (q81 : Bool), q81 = q78 ∧ Rep a 43 [(0, .pointer (some ⟨pb0, 0, none⟩)), (1, .int .i64 x1), (2, .int .i64 q57), (3, .int .i64 q75), (37, .bool q81)] ∧ St w s (pt pb0 (.cells #[.int .i64 y0.Rows, .int .i64 y0.Across, .int .i64 y0.Stops, .slice a_v0 y0.All.length c_v0, .slice a_v1 y0.Gone.length c_v1] 33 (0, 0)) :: vecC 39 4 a_v0 c_v0 y0.All.length cs_v0 :: vecC 4 1 a_v1 c_v1 y0.Gone.length cs_v1 :: R)) ?_ ?_
      · refine W.gen fun K82 hK82 => ?_
        refine W.region ?_
        refine WL.vS hS hE (runs_plain rfl) (Gives.p hE rfl) rfl ?_; clear hE a; intro a hE
        refine WL.vS hS hE (runs_plain rfl) (Gives.p hE rfl) rfl ?_; clear hE a; intro a hE
        refine WL.vS hS hE (runs_plain rfl) (Gives.nilOk hE rfl) rfl ?_; clear hE a; intro a hE
        refine WL.vS hS hE (runs_plain rfl) (Gives.fld hE rfl fl33_2) rfl ?_; clear hE a; intro a hE
        refine WL.vS hS hE (runs_plain rfl) (Gives.loadB hE 0 rfl rfl rfl ty3) rfl ?_; clear hE a; intro a hE
        refine WL.vS hS hE (runs_plain rfl) (Gives.p hE rfl) rfl ?_; clear hE a; intro a hE
        refine WL.vS hS hE (runs_plain rfl) (Gives.p hE rfl) rfl ?_; clear hE a; intro a hE
        refine WL.vS hS hE (runs_plain rfl) (Gives.p hE rfl) rfl ?_; clear hE a; intro a hE
        rcases Bool.eq_false_or_eq_true (decide (q75 < (w64 (y0.Stops - 1)))) with hg83 | hg83
        · replace hq77 := iteT hg83 hq77
          refine WL.vS hS hE (runs_if hE rfl rfl rfl hg83) (Gives.p hE rfl) rfl ?_; clear hE a; intro a hE
          refine WL.vS hS hE (runs_if hE rfl rfl rfl hg83) (Gives.p hE rfl) rfl ?_; clear hE a; intro a hE
          refine WL.vS hS hE (runs_if hE rfl rfl rfl hg83) (Gives.p hE rfl) rfl ?_; clear hE a; intro a hE
          refine WL.vS hS hE (runs_if hE rfl rfl rfl hg83) (Gives.p hE rfl) rfl ?_; clear hE a; intro a hE
          refine WL.vS hS hE (runs_if hE rfl rfl rfl hg83) (Gives.p hE rfl) rfl ?_; clear hE a; intro a hE
          obtain ⟨q84, hq85, hq77⟩ := bindS hq77
          have hc_ := Fishref2Carhas_v1_ok (y0 := y0) hS h_v0 (rfl) h_v1 (rfl) hq85
          refine WL.fnq hE (hc_) (runs_if hE rfl rfl rfl hg83) bd22 rfl rfl rfl ?_
          clear hE hS hc_; rintro e w ⟨rfl, hS⟩; refine ⟨_, rfl, ?_⟩; clear a; intro a hE
          refine WL.vS hS hE (runs_if hE rfl rfl rfl hg83) (Gives.p hE rfl) rfl ?_; clear hE a; intro a hE
          refine WL.vS hS hE (runs_plain rfl) (Gives.pickT hE rfl hg83 rfl) rfl ?_; clear hE a; intro a hE
          refine WL.nil ?_
          subst hK82
          exact ⟨!q84, Option.some.inj hq77, hE.pick _ ⟨rfl, rfl, rfl, rfl, rfl, trivial⟩, hS⟩
        · replace hq77 := iteF hg83 hq77
          refine WL.no hE (runs_not hE rfl rfl rfl (by rw [hg83]; decide)) rfl ?_; clear hE a; intro a hE
          refine WL.no hE (runs_not hE rfl rfl rfl (by rw [hg83]; decide)) rfl ?_; clear hE a; intro a hE
          refine WL.no hE (runs_not hE rfl rfl rfl (by rw [hg83]; decide)) rfl ?_; clear hE a; intro a hE
          refine WL.no hE (runs_not hE rfl rfl rfl (by rw [hg83]; decide)) rfl ?_; clear hE a; intro a hE
          refine WL.no hE (runs_not hE rfl rfl rfl (by rw [hg83]; decide)) rfl ?_; clear hE a; intro a hE
          refine WL.no hE (runs_not hE rfl rfl rfl (by rw [hg83]; decide)) rfl ?_; clear hE a; intro a hE
          refine WL.no hE (runs_not hE rfl rfl rfl (by rw [hg83]; decide)) rfl ?_; clear hE a; intro a hE
          refine WL.vS hS hE (runs_plain rfl) (Gives.pickF hE rfl hg83 rfl) rfl ?_; clear hE a; intro a hE
          refine WL.nil ?_
          subst hK82
          exact ⟨false, Option.some.inj hq77, hE.pick _ ⟨rfl, rfl, rfl, rfl, rfl, trivial⟩, hS⟩
      · clear hE hS a w; rintro a w ⟨q81, rfl, hE, hS⟩
        refine W.cond hE rfl (fun hc86 => ?_) (fun hc86 => ?_)
        · replace hq69 := iteT hc86 hq69
          refine W.skip ?_
          refine W.block ?_
          refine W.region ?_
          refine WL.vS hS hE (runs_plain rfl) (Gives.p hE rfl) rfl ?_; clear hE a; intro a hE
          refine WL.vS hS hE (runs_plain rfl) (Gives.p hE rfl) rfl ?_; clear hE a; intro a hE
          refine WL.vS hS hE (runs_plain rfl) (Gives.p hE rfl) rfl ?_; clear hE a; intro a hE
          refine WL.nil ?_
          subst hK76
          exact ⟨n71, Nat.lt_succ_self _, n71, (w64 (q75 + 1)), rfl, hq69, hE.pick _ ⟨rfl, rfl, rfl, rfl, trivial⟩, hS⟩
        · replace hq69 := iteF hc86 hq69
          subst hK76
          refine W.exit rfl ?_
          exact ⟨q75, Option.some.inj hq69, hE.pick _ ⟨rfl, rfl, trivial⟩, hS⟩
    · clear hE hS a w; rintro a w ⟨q75, rfl, hE, hS⟩
      refine W.seq ?_
      refine W.region ?_
      refine WL.vS hS hE (runs_plain rfl) (Gives.p hE rfl) rfl ?_; clear hE a; intro a hE
      refine WL.vS hS hE (runs_plain rfl) (Gives.p hE rfl) rfl ?_; clear hE a; intro a hE
      refine WL.vS hS hE (runs_plain rfl) (Gives.p hE rfl) rfl ?_; clear hE a; intro a hE
      refine WL.vS hS hE (runs_plain rfl) (Gives.p hE rfl) rfl ?_; clear hE a; intro a hE
      refine WL.nil ?_
      refine W.ret ?_
      refine finG (fn := Try.f25) (rs := [.tmp 8]) (vs := [_]) hE rfl ⟨rfl, trivial⟩ ?_
      obtain rfl := Option.some.inj hr
      exact ⟨rfl, hS⟩
set_option maxHeartbeats 8000000 in
theorem SlicesCollectint_v1_ok  {w : World} {s : Sg} {R : List HP} {pb0 : Nat} {y0 : List Int} {a_y0_0 : Option Addr} {c_y0_0 : Nat} (hS : St w s (pt pb0 (.cells #[.slice a_y0_0 y0.length c_y0_0] 22 (0, 0)) :: R)) (h_y0_0 : Sl 1 (RI .i64) s a_y0_0 c_y0_0 y0) {r : (List Int)} (hr : SlicesCollectint_v1 y0 = some r) :
    Calls Try.prog 37 [.func (.func 38) #[] #[.pointer (some ⟨pb0, 0, none⟩)]].toArray w (fun e w => ∃ (a0 : Option Addr) (c0 n0 : Nat) (cs0 : List Value), e = .returned (.slice a0 n0 c0) ∧ Ev 1 (RI .i64) s cs0 r ∧ r.length = n0 ∧ St w s (vecC 3 1 a0 c0 n0 cs0 :: pt pb0 (.cells #[.slice a_y0_0 y0.length c_y0_0] 22 (0, 0)) :: R)) := by
  refine enter Try.func37 rfl rfl rfl fun a hE => ?_
  rw [SlicesCollectint_v1] at hr
  refine W.seq ?_
  refine W.region ?_
  refine WL.vS hS hE (runs_plain rfl) (Gives.p hE rfl) rfl ?_; clear hE a; intro a hE
  refine WL.nil ?_
  refine W.seq ?_
  refine W.region ?_
  refine WL.vS hS hE (runs_plain rfl) (Gives.p hE rfl) rfl ?_; clear hE a; intro a hE
  obtain ⟨q51, hq52, hr⟩ := bindS hr
  refine WL.fnq hE (itSeq_ok (l := y0) hS h_y0_0 hq52) (runs_plain rfl) bd45 rfl rfl rfl ?_
  clear hE hS; rintro e w ⟨a53, c54, n55, cs56, rfl, h57, rfl, hS⟩; refine ⟨_, rfl, ?_⟩; clear a; intro a hE
  refine WL.vS hS hE (runs_plain rfl) (Gives.p hE rfl) rfl ?_; clear hE a; intro a hE
  refine WL.nil ?_
  refine W.ret ?_
  refine finG (fn := Try.f37) (rs := [.tmp 2]) (vs := [_]) hE rfl ⟨rfl, trivial⟩ ?_
  obtain rfl := Option.some.inj hr
  exact ⟨a53, c54, q51.length, cs56, rfl, h57, rfl, hS⟩
set_option maxHeartbeats 8000000 in
theorem SlicesSortedint_v1_ok  {w : World} {s : Sg} {R : List HP} {pb0 : Nat} {y0 : List Int} {a_y0_0 : Option Addr} {c_y0_0 : Nat} (hS : St w s (pt pb0 (.cells #[.slice a_y0_0 y0.length c_y0_0] 22 (0, 0)) :: R)) (h_y0_0 : Sl 1 (RI .i64) s a_y0_0 c_y0_0 y0) {r : (List Int)} (hr : SlicesSortedint_v1 y0 = some r) :
    Calls Try.prog 26 [.func (.func 38) #[] #[.pointer (some ⟨pb0, 0, none⟩)]].toArray w (fun e w => ∃ (a0 : Option Addr) (c0 n0 : Nat) (cs0 : List Value), e = .returned (.slice a0 n0 c0) ∧ Ev 1 (RI .i64) s cs0 r ∧ r.length = n0 ∧ St w s (vecC 3 1 a0 c0 n0 cs0 :: pt pb0 (.cells #[.slice a_y0_0 y0.length c_y0_0] 22 (0, 0)) :: R)) := by
  refine enter Try.func26 rfl rfl rfl fun a hE => ?_
  rw [SlicesSortedint_v1] at hr
  refine W.seq ?_
  refine W.region ?_
  refine WL.vS hS hE (runs_plain rfl) (Gives.p hE rfl) rfl ?_; clear hE a; intro a hE
  refine WL.nil ?_
  refine W.seq ?_
  refine W.region ?_
  refine WL.vS hS hE (runs_plain rfl) (Gives.p hE rfl) rfl ?_; clear hE a; intro a hE
  obtain ⟨q51, hq52, hr⟩ := bindS hr
  have hc_ := SlicesCollectint_v1_ok hS h_y0_0 hq52
  refine WL.fnq hE (hc_) (runs_plain rfl) bd37 rfl rfl rfl ?_
  clear hE hS hc_; rintro e w ⟨a53, c54, n55, cs56, rfl, h57, rfl, hS⟩; refine ⟨_, rfl, ?_⟩; clear a; intro a hE
  refine WL.vS hS hE (runs_plain rfl) (Gives.p hE rfl) rfl ?_; clear hE a; intro a hE
  refine WL.nil ?_
  refine W.seq ?_
  refine W.region ?_
  refine WL.vS hS hE (runs_plain rfl) (Gives.p hE rfl) rfl ?_; clear hE a; intro a hE
  obtain ⟨q62, hq63, hr⟩ := bindS hr
  refine WL.fnq hE (itSort_ok hS h57 rfl hq63) (runs_plain rfl) bd36 rfl rfl rfl ?_
  clear hE hS; rintro e w ⟨cs60, rfl, h61, hn64, hS⟩; refine ⟨_, rfl, ?_⟩; clear a; intro a hE
  refine WL.nil ?_
  refine W.seq ?_
  refine W.region ?_
  refine WL.vS hS hE (runs_plain rfl) (Gives.p hE rfl) rfl ?_; clear hE a; intro a hE
  refine WL.vS hS hE (runs_plain rfl) (Gives.p hE rfl) rfl ?_; clear hE a; intro a hE
  refine WL.nil ?_
  refine W.ret ?_
  refine finG (fn := Try.f26) (rs := [.tmp 2]) (vs := [_]) hE rfl ⟨rfl, trivial⟩ ?_
  obtain rfl := Option.some.inj hr
  exact ⟨a53, c54, q51.length, cs60, rfl, h61, hn64, hS⟩
end Go.Proofs.Yteeeklfggbfenaa
