/- The walks of the functions that TopSeated reaches: each call comes to what its mirror says. The conditions are those of each contract. -/
import Derived.Test.YtpcebngchmgckaaDoorProg
import Derived.Test.YtpcebngchmgckaaDoorTopSeatedM
import Derived.Test.YtpcebngchmgckaaDoorFpAllT
import Derived.Test.YtpcebngchmgckaaDoorTopSeatedS
import Derived.Test.YtpcebngchmgckaaDoorFpMapS
import Derived.Test.YtpcebngchmgckaaDoorFpCut
import Derived.Test.YtpcebngchmgckaaDoorFpFld
import Derived.Test.YtpcebngchmgckaaDoorFpObj
import Derived.Test.YtpcebngchmgckaaDoorTopSeatedW2
set_option maxRecDepth 10000
namespace Go.Proofs.YtpcebngchmgckaaDoor
open Go Go.Fp
set_option maxHeartbeats 8000000 in
theorem SlicessymMergeCmpFuncint_v1_ok : ∀ {fu : Nat} {w : World} {s : Sg} {R : List HP} {pb0 : Nat} {pb1 : Nat} {pb2 : Nat} {pb3 : Nat} {x0 : List Int} {a_v0 : Option Addr} {c_v0 n_v0 : Nat} {cs_v0 : List Value} {x1 : Int} {x2 : Int} {x3 : Int} {y1 : Int} {y2 : Int} {y3 : FareCar} {a_v1 : Option Addr} {c_v1 n_v1 : Nat} {cs_v1 : List Value} {a_v2 : Option Addr} {c_v2 n_v2 : Nat} {cs_v2 : List Value} (_hS : St w s (pt pb0 (.cells #[.pointer (some ⟨pb3, 0, none⟩)] 76 (0, 0)) :: pt pb1 (.cells #[.int .i64 y1] 3 (0, 0)) :: pt pb2 (.cells #[.int .i64 y2] 3 (0, 0)) :: pt pb3 (.cells #[.int .i64 y3.rows, .int .i64 y3.across, .int .i64 y3.stops, .slice a_v1 n_v1 c_v1, .slice a_v2 n_v2 c_v2] 148 (0, 0)) :: vecC 3 1 a_v0 c_v0 n_v0 cs_v0 :: vecC 80 4 a_v1 c_v1 n_v1 cs_v1 :: vecC 4 1 a_v2 c_v2 n_v2 cs_v2 :: R)) (_h_v0 : Ev 1 (RI .i64) s cs_v0 x0) (_hn_v0 : x0.length = n_v0) (_h_v1 : Ev 4 RFareBooking s cs_v1 y3.bookings) (_hn_v1 : y3.bookings.length = n_v1) (_h_v2 : Ev 1 RB s cs_v2 y3.cancelled) (_hn_v2 : y3.cancelled.length = n_v2) {r : (List Int)} (_hr : SlicessymMergeCmpFuncint_v1 fu x0 x1 x2 x3 y1 y2 y3 = some r),
  Calls Tryd.prog 164 [.slice a_v0 n_v0 c_v0, .int .i64 x1, .int .i64 x2, .int .i64 x3, .func (.func 124) #[] #[.pointer (some ⟨pb0, 0, none⟩), .pointer (some ⟨pb1, 0, none⟩), .pointer (some ⟨pb2, 0, none⟩)]].toArray w (fun e w => ∃ (cs55 : List Value), e = .returned (.tuple #[]) ∧ Ev 1 (RI .i64) s cs55 r ∧ r.length = n_v0 ∧ St w s (pt pb0 (.cells #[.pointer (some ⟨pb3, 0, none⟩)] 76 (0, 0)) :: pt pb1 (.cells #[.int .i64 y1] 3 (0, 0)) :: pt pb2 (.cells #[.int .i64 y2] 3 (0, 0)) :: pt pb3 (.cells #[.int .i64 y3.rows, .int .i64 y3.across, .int .i64 y3.stops, .slice a_v1 n_v1 c_v1, .slice a_v2 n_v2 c_v2] 148 (0, 0)) :: vecC 3 1 a_v0 c_v0 n_v0 cs55 :: vecC 80 4 a_v1 c_v1 n_v1 cs_v1 :: vecC 4 1 a_v2 c_v2 n_v2 cs_v2 :: R)) := by
 intro fu
 induction fu with
 | zero => intro w s R pb0 pb1 pb2 pb3 x0 a_v0 c_v0 n_v0 cs_v0 x1 x2 x3 y1 y2 y3 a_v1 c_v1 n_v1 cs_v1 a_v2 c_v2 n_v2 cs_v2 hS h_v0 hn_v0 h_v1 hn_v1 h_v2 hn_v2 r hr; rw [SlicessymMergeCmpFuncint_v1] at hr; exact absurd hr (by simp)
 | succ fu ih_SlicessymMergeCmpFuncint_v1 =>
  intro w s R pb0 pb1 pb2 pb3 x0 a_v0 c_v0 n_v0 cs_v0 x1 x2 x3 y1 y2 y3 a_v1 c_v1 n_v1 cs_v1 a_v2 c_v2 n_v2 cs_v2 hS h_v0 hn_v0 h_v1 hn_v1 h_v2 hn_v2 r hr
  rw [SlicessymMergeCmpFuncint_v1] at hr
  generalize SlicessymMergeCmpFuncint_v1 fu = self_SlicessymMergeCmpFuncint_v1 at hr ih_SlicessymMergeCmpFuncint_v1
  refine enter Tryd.func164 rfl rfl rfl fun a hE => ?_
  subst hn_v0
  subst hn_v1
  subst hn_v2
  refine W.seq ?_
  refine W.seq (W.region ?_)
  refine vP hS hE (Gives.p hE rfl) rfl ?_; clear hE a; intro a hE
  refine vP hS hE (Gives.p hE rfl) rfl ?_; clear hE a; intro a hE
  refine vP hS hE (Gives.p hE rfl) rfl ?_; clear hE a; intro a hE
  refine vP hS hE (Gives.p hE rfl) rfl ?_; clear hE a; intro a hE
  refine WL.nil ?_
  refine W.cond hE rfl (fun hc57 => ?_) (fun hc57 => ?_)
  ·replace hr := iteT hc57 hr
   refine W.seq (W.region ?_)
   refine vP hS hE (Gives.p hE rfl) rfl ?_; clear hE a; intro a hE
   refine vP hS hE (Gives.p hE rfl) rfl ?_; clear hE a; intro a hE
   refine WL.nil ?_
   refine W.seq (W.region ?_)
   refine vP hS hE (Gives.p hE rfl) rfl ?_; clear hE a; intro a hE
   refine vP hS hE (Gives.p hE rfl) rfl ?_; clear hE a; intro a hE
   refine WL.nil ?_
   refine W.seq ?_
   obtain ⟨q59, hq58, hr⟩ := bindS hr
   refine W.cut (fun a w => ∃ (q64 : Int), ∃ (q65 : Int), (q64, q65) = q59 ∧ Rep a 220 [(0, .slice a_v0 x0.length c_v0), (1, .int .i64 x1), (10, .int .i64 q64)] ∧ St w s (pt pb0 (.cells #[.pointer (some ⟨pb3, 0, none⟩)] 76 (0, 0)) :: pt pb1 (.cells #[.int .i64 y1] 3 (0, 0)) :: pt pb2 (.cells #[.int .i64 y2] 3 (0, 0)) :: pt pb3 (.cells #[.int .i64 y3.rows, .int .i64 y3.across, .int .i64 y3.stops, .slice a_v1 y3.bookings.length c_v1, .slice a_v2 y3.cancelled.length c_v2] 148 (0, 0)) :: vecC 3 1 a_v0 c_v0 x0.length cs_v0 :: vecC 80 4 a_v1 c_v1 y3.bookings.length cs_v1 :: vecC 4 1 a_v2 c_v2 y3.cancelled.length cs_v2 :: R)) ?_ ?_
   ·refine W.block ?_
    refine W.loop (fun m a w => ∃ (n60 : Nat), ∃ (q64 : Int), ∃ (q65 : Int), n60 = m ∧ SlicessymMergeCmpFuncint_v1.loop1 x0 x1 y1 y2 y3 n60 q64 q65 = some q59 ∧ Rep a 220 [(0, .slice a_v0 x0.length c_v0), (1, .int .i64 x1), (4, .func (.func 124) #[] #[.pointer (some ⟨pb0, 0, none⟩), .pointer (some ⟨pb1, 0, none⟩), .pointer (some ⟨pb2, 0, none⟩)]), (10, .int .i64 q64), (11, .int .i64 q65)] ∧ St w s (pt pb0 (.cells #[.pointer (some ⟨pb3, 0, none⟩)] 76 (0, 0)) :: pt pb1 (.cells #[.int .i64 y1] 3 (0, 0)) :: pt pb2 (.cells #[.int .i64 y2] 3 (0, 0)) :: pt pb3 (.cells #[.int .i64 y3.rows, .int .i64 y3.across, .int .i64 y3.stops, .slice a_v1 y3.bookings.length c_v1, .slice a_v2 y3.cancelled.length c_v2] 148 (0, 0)) :: vecC 3 1 a_v0 c_v0 x0.length cs_v0 :: vecC 80 4 a_v1 c_v1 y3.bookings.length cs_v1 :: vecC 4 1 a_v2 c_v2 y3.cancelled.length cs_v2 :: R)) (m := fu) ⟨fu, x2, x3, rfl, hq58, hE.pick _ ⟨rfl, rfl, rfl, rfl, rfl, trivial⟩, hS⟩ ?_
    clear hE hS a w hq58; rintro m61 a w ⟨n60, q64, q65, rfl, hq58, hE, hS⟩
    refine W.gen fun K66 hK66 => ?_
    rcases n60 with _ | n60
    ·rw [SlicessymMergeCmpFuncint_v1.loop1] at hq58; exact absurd hq58 (by simp)
    rw [SlicessymMergeCmpFuncint_v1.loop1] at hq58
    refine W.seq ?_
    refine W.seq (W.region ?_)
    refine vP hS hE (Gives.p hE rfl) rfl ?_; clear hE a; intro a hE
    refine vP hS hE (Gives.p hE rfl) rfl ?_; clear hE a; intro a hE
    refine vP hS hE (Gives.p hE rfl) rfl ?_; clear hE a; intro a hE
    refine WL.nil ?_
    refine W.cond hE rfl (fun hc67 => ?_) (fun hc67 => ?_)
    ·replace hq58 := iteT hc67 hq58
     refine W.skip ?_
     refine W.block ?_
     refine W.seq (W.region ?_)
     refine vP hS hE (Gives.p hE rfl) rfl ?_; clear hE a; intro a hE
     refine vP hS hE (Gives.p hE rfl) rfl ?_; clear hE a; intro a hE
     refine vP hS hE (Gives.p hE rfl) rfl ?_; clear hE a; intro a hE
     refine vP hS hE (Gives.conv hE rfl hu3 ui154) rfl ?_; clear hE a; intro a hE
     refine vP hS hE (Gives.shr hE rfl rfl (by decide)) rfl ?_; clear hE a; intro a hE
     refine vP hS hE (Gives.conv hE rfl hu154 ui3) rfl ?_; clear hE a; intro a hE
     refine vP hS hE (Gives.p hE rfl) rfl ?_; clear hE a; intro a hE
     refine WL.nil ?_
     refine W.seq ?_
     refine W.regionQ (C := fun w => St w s (pt pb0 (.cells #[.pointer (some ⟨pb3, 0, none⟩)] 76 (0, 0)) :: pt pb1 (.cells #[.int .i64 y1] 3 (0, 0)) :: pt pb2 (.cells #[.int .i64 y2] 3 (0, 0)) :: pt pb3 (.cells #[.int .i64 y3.rows, .int .i64 y3.across, .int .i64 y3.stops, .slice a_v1 y3.bookings.length c_v1, .slice a_v2 y3.cancelled.length c_v2] 148 (0, 0)) :: vecC 3 1 a_v0 c_v0 x0.length cs_v0 :: vecC 80 4 a_v1 c_v1 y3.bookings.length cs_v1 :: vecC 4 1 a_v2 c_v2 y3.cancelled.length cs_v2 :: R)) mixed (by kernel_rfl) hS.drew ?_
     refine qP hE (Gives.p hE rfl) rfl ?_; clear hE a; intro a hE
     refine qP hE (Gives.p hE rfl) rfl ?_; clear hE a; intro a hE
     refine qP hE (Gives.p hE rfl) rfl ?_; clear hE a; intro a hE
     obtain ⟨x68, hx69, hq58⟩ := bindS hq58
     obtain ⟨hi70, hlt71, hy72⟩ := gx_some hx69
     obtain ⟨vs73, hl74, hR75, hd76, hget77⟩ := h_v0.at hy72
     subst hR75
     refine qP hE (Gives.idx hE ((w64 (Int.fdiv (IntKind.wrap .u64 (w64 (q64 + q65))) (2 ^ (min (Int.toNat 1) (IntKind.bits .u64))))).toNat) rfl rfl sl45 hi70 (by omega) (hS.vecAok 4 rfl (by omega : (w64 (Int.fdiv (IntKind.wrap .u64 (w64 (q64 + q65))) (2 ^ (min (Int.toNat 1) (IntKind.bits .u64))))).toNat < x0.length))) rfl ?_; clear hE a; intro a hE
     refine qP hE (Gives.load1 hE rfl (fun w h => St.vecSees h 4 rfl ((w64 (Int.fdiv (IntKind.wrap .u64 (w64 (q64 + q65))) (2 ^ (min (Int.toNat 1) (IntKind.bits .u64))))).toNat * 1) _ hget77) ty3) rfl ?_; clear hE a; intro a hE
     refine qP hE (Gives.p hE rfl) rfl ?_; clear hE a; intro a hE
     refine qP hE (Gives.p hE rfl) rfl ?_; clear hE a; intro a hE
     obtain ⟨x78, hx79, hq58⟩ := bindS hq58
     obtain ⟨hi80, hlt81, hy82⟩ := gx_some hx79
     obtain ⟨vs83, hl84, hR85, hd86, hget87⟩ := h_v0.at hy82
     subst hR85
     refine qP hE (Gives.idx hE ((x1).toNat) rfl rfl sl45 hi80 (by omega) (hS.vecAok 4 rfl (by omega : (x1).toNat < x0.length))) rfl ?_; clear hE a; intro a hE
     refine qP hE (Gives.load1 hE rfl (fun w h => St.vecSees h 4 rfl ((x1).toNat * 1) _ hget87) ty3) rfl ?_; clear hE a; intro a hE
     obtain ⟨q88, hq89, hq58⟩ := bindS hq58
     refine QL.fnw hE (fun w hS => (FareCarchoose_1_v1_ok (y3 := y3) (St.front (St.front (St.front (St.front (St.front (St.front hS 6 rfl) 6 rfl) 5 rfl) 5 rfl) 5 rfl) 5 rfl) h_v1 (rfl) h_v2 (rfl) hq89).mono fun _ _ ⟨he, hq⟩ => ⟨he, (St.unfront 6 rfl (St.unfront 6 rfl (St.unfront 5 rfl (St.unfront 5 rfl (St.unfront 5 rfl (St.unfront 5 rfl hq))))))⟩) rfl (runs_plain rfl) bd124 rfl rfl rfl ?_; clear hE a; intro a hE
     refine qP hE (Gives.p hE rfl) rfl ?_; clear hE a; intro a hE
     refine QL.nil ?_; clear hS w; intro w hS
     obtain ⟨q91, hq90, hq58⟩ := bndS hq58
     refine W.cut (fun a w => ∃ (q94 : Int), ∃ (q95 : Int), (q94, q95) = q91 ∧ Rep a 220 [(0, .slice a_v0 x0.length c_v0), (1, .int .i64 x1), (4, .func (.func 124) #[] #[.pointer (some ⟨pb0, 0, none⟩), .pointer (some ⟨pb1, 0, none⟩), .pointer (some ⟨pb2, 0, none⟩)]), (10, .int .i64 q94), (11, .int .i64 q95)] ∧ St w s (pt pb0 (.cells #[.pointer (some ⟨pb3, 0, none⟩)] 76 (0, 0)) :: pt pb1 (.cells #[.int .i64 y1] 3 (0, 0)) :: pt pb2 (.cells #[.int .i64 y2] 3 (0, 0)) :: pt pb3 (.cells #[.int .i64 y3.rows, .int .i64 y3.across, .int .i64 y3.stops, .slice a_v1 y3.bookings.length c_v1, .slice a_v2 y3.cancelled.length c_v2] 148 (0, 0)) :: vecC 3 1 a_v0 c_v0 x0.length cs_v0 :: vecC 80 4 a_v1 c_v1 y3.bookings.length cs_v1 :: vecC 4 1 a_v2 c_v2 y3.cancelled.length cs_v2 :: R)) ?_ ?_
     ·refine W.gen fun K96 hK96 => ?_
      refine W.cond hE rfl (fun hc97 => ?_) (fun hc97 => ?_)
      ·replace hq90 := iteT hc97 hq90
       refine W.region ?_
       refine vP hS hE (Gives.p hE rfl) rfl ?_; clear hE a; intro a hE
       refine vP hS hE (Gives.p hE rfl) rfl ?_; clear hE a; intro a hE
       refine vP hS hE (Gives.p hE rfl) rfl ?_; clear hE a; intro a hE
       refine WL.nil ?_
       subst hK96
       exact ⟨w64 ((w64 (Int.fdiv (IntKind.wrap .u64 (w64 (q64 + q65))) (2 ^ (min (Int.toNat 1) (IntKind.bits .u64))))) + 1), q65, hq90, hE.pick _ ⟨rfl, rfl, rfl, rfl, rfl, trivial⟩, hS⟩
      ·replace hq90 := iteF hc97 hq90
       refine W.region ?_
       refine vP hS hE (Gives.p hE rfl) rfl ?_; clear hE a; intro a hE
       refine vP hS hE (Gives.p hE rfl) rfl ?_; clear hE a; intro a hE
       refine WL.nil ?_
       subst hK96
       exact ⟨q64, w64 (Int.fdiv (IntKind.wrap .u64 (w64 (q64 + q65))) (2 ^ (min (Int.toNat 1) (IntKind.bits .u64)))), hq90, hE.pick _ ⟨rfl, rfl, rfl, rfl, rfl, trivial⟩, hS⟩
     ·clear hE hS a w; rintro a w ⟨q94, q95, rfl, hE, hS⟩
      dsimp only at hq58
      subst hK66
      exact ⟨n60, Nat.lt_succ_self _, n60, q94, q95, rfl, hq58, hE.pick _ ⟨rfl, rfl, rfl, rfl, rfl, trivial⟩, hS⟩
    ·replace hq58 := iteF hc67 hq58
     subst hK66
     refine W.exit rfl ?_
     exact ⟨q64, q65, Option.some.inj hq58, hE.pick _ ⟨rfl, rfl, rfl, trivial⟩, hS⟩
   ·clear hE hS a w; rintro a w ⟨q64, q65, rfl, hE, hS⟩
    dsimp only at hr
    refine W.seq ?_
    refine W.seq (W.region ?_)
    refine vP hS hE (Gives.p hE rfl) rfl ?_; clear hE a; intro a hE
    refine vP hS hE (Gives.p hE rfl) rfl ?_; clear hE a; intro a hE
    refine WL.nil ?_
    obtain ⟨q99, hq98, hr⟩ := bindS hr
    refine W.cut (fun a w => ∃ (q104 : Int), ∃ (q105 : List Int), ∃ (cs109 : List Value), (q104, q105) = q99 ∧ Ev 1 (RI .i64) s cs109 q105 ∧ q105.length = x0.length ∧ Rep a 220 [] ∧ St w s (pt pb0 (.cells #[.pointer (some ⟨pb3, 0, none⟩)] 76 (0, 0)) :: pt pb1 (.cells #[.int .i64 y1] 3 (0, 0)) :: pt pb2 (.cells #[.int .i64 y2] 3 (0, 0)) :: pt pb3 (.cells #[.int .i64 y3.rows, .int .i64 y3.across, .int .i64 y3.stops, .slice a_v1 y3.bookings.length c_v1, .slice a_v2 y3.cancelled.length c_v2] 148 (0, 0)) :: vecC 3 1 a_v0 c_v0 x0.length cs109 :: vecC 80 4 a_v1 c_v1 y3.bookings.length cs_v1 :: vecC 4 1 a_v2 c_v2 y3.cancelled.length cs_v2 :: R)) ?_ ?_
    ·refine W.block ?_
     refine W.loop (fun m a w => ∃ (n100 : Nat), ∃ (q104 : Int), ∃ (q105 : List Int), ∃ (cs109 : List Value), n100 = m ∧ SlicessymMergeCmpFuncint_v1.loop2 q64 n100 q104 q105 = some q99 ∧ Ev 1 (RI .i64) s cs109 q105 ∧ q105.length = x0.length ∧ Rep a 220 [(0, .slice a_v0 x0.length c_v0), (10, .int .i64 q64), (13, .int .i64 q104)] ∧ St w s (pt pb0 (.cells #[.pointer (some ⟨pb3, 0, none⟩)] 76 (0, 0)) :: pt pb1 (.cells #[.int .i64 y1] 3 (0, 0)) :: pt pb2 (.cells #[.int .i64 y2] 3 (0, 0)) :: pt pb3 (.cells #[.int .i64 y3.rows, .int .i64 y3.across, .int .i64 y3.stops, .slice a_v1 y3.bookings.length c_v1, .slice a_v2 y3.cancelled.length c_v2] 148 (0, 0)) :: vecC 3 1 a_v0 c_v0 x0.length cs109 :: vecC 80 4 a_v1 c_v1 y3.bookings.length cs_v1 :: vecC 4 1 a_v2 c_v2 y3.cancelled.length cs_v2 :: R)) (m := fu) ⟨fu, x1, x0, cs_v0, rfl, hq98, h_v0, (rfl), hE.pick _ ⟨rfl, rfl, rfl, trivial⟩, hS⟩ ?_
     clear hE hS a w hq98; rintro m101 a w ⟨n100, q104, q105, cs109, rfl, hq98, h108, hn110, hE, hS⟩
     refine W.gen fun K111 hK111 => ?_
     rcases n100 with _ | n100
     ·rw [SlicessymMergeCmpFuncint_v1.loop2] at hq98; exact absurd hq98 (by simp)
     rw [SlicessymMergeCmpFuncint_v1.loop2] at hq98
     refine W.seq ?_
     refine W.seq (W.region ?_)
     refine vP hS hE (Gives.p hE rfl) rfl ?_; clear hE a; intro a hE
     refine vP hS hE (Gives.p hE rfl) rfl ?_; clear hE a; intro a hE
     refine vP hS hE (Gives.p hE rfl) rfl ?_; clear hE a; intro a hE
     refine vP hS hE (Gives.p hE rfl) rfl ?_; clear hE a; intro a hE
     refine WL.nil ?_
     refine W.cond hE rfl (fun hc112 => ?_) (fun hc112 => ?_)
     ·replace hq98 := iteT hc112 hq98
      refine W.skip ?_
      refine W.seq ?_
      refine W.block ?_
      refine W.gen fun K113 hK113 => ?_
      refine W.regionE (sel (fun w => St w s (pt pb0 (.cells #[.pointer (some ⟨pb3, 0, none⟩)] 76 (0, 0)) :: pt pb1 (.cells #[.int .i64 y1] 3 (0, 0)) :: pt pb2 (.cells #[.int .i64 y2] 3 (0, 0)) :: pt pb3 (.cells #[.int .i64 y3.rows, .int .i64 y3.across, .int .i64 y3.stops, .slice a_v1 y3.bookings.length c_v1, .slice a_v2 y3.cancelled.length c_v2] 148 (0, 0)) :: vecC 3 1 a_v0 c_v0 x0.length cs109 :: vecC 80 4 a_v1 c_v1 y3.bookings.length cs_v1 :: vecC 4 1 a_v2 c_v2 y3.cancelled.length cs_v2 :: R)) (fun w => St w s (pt pb0 (.cells #[.pointer (some ⟨pb3, 0, none⟩)] 76 (0, 0)) :: pt pb1 (.cells #[.int .i64 y1] 3 (0, 0)) :: pt pb2 (.cells #[.int .i64 y2] 3 (0, 0)) :: pt pb3 (.cells #[.int .i64 y3.rows, .int .i64 y3.across, .int .i64 y3.stops, .slice a_v1 y3.bookings.length c_v1, .slice a_v2 y3.cancelled.length c_v2] 148 (0, 0)) :: vecC 80 4 a_v1 c_v1 y3.bookings.length cs_v1 :: vecC 4 1 a_v2 c_v2 y3.cancelled.length cs_v2 :: R))) (fun b i => cond b ([0, 1, 2, 3, 4, 5, 6, 7, 8, 9, 10, 11, 12, 13, 14, 16].contains i) ([0, 1, 2, 3, 4, 5, 6, 7, 8, 9, 10, 11, 12, 13, 14, 15, 16, 17].contains i)) mixed ?_
      replace hS := hS.drew
      refine Rg.takeP (i := 0) hE rfl (by kernel_rfl) (runs_plain rfl) (Gives.p hE rfl) rfl (tw_sel (fun _ => hS) (fun _ => (hS.dropAt 4))) ?_; clear hE a; intro a hE
      refine Rg.takeP (i := 1) hE rfl (by kernel_rfl) (runs_plain rfl) (Gives.p hE rfl) rfl (tw_sel (fun _ => hS) (fun _ => (hS.dropAt 4))) ?_; clear hE a; intro a hE
      refine Rg.takeP (i := 2) hE rfl (by kernel_rfl) (runs_plain rfl) (Gives.p hE rfl) rfl (tw_sel (fun _ => hS) (fun _ => (hS.dropAt 4))) ?_; clear hE a; intro a hE
      refine Rg.takeP (i := 3) hE rfl (by kernel_rfl) (runs_plain rfl) (Gives.p hE rfl) rfl (tw_sel (fun _ => hS) (fun _ => (hS.dropAt 4))) ?_; clear hE a; intro a hE
      refine Rg.takeP (i := 4) hE rfl (by kernel_rfl) (runs_plain rfl) (Gives.p hE rfl) rfl (tw_sel (fun _ => hS) (fun _ => (hS.dropAt 4))) ?_; clear hE a; intro a hE
      refine Rg.takeP (i := 5) hE rfl (by kernel_rfl) (runs_plain rfl) (Gives.p hE rfl) rfl (tw_sel (fun _ => hS) (fun _ => (hS.dropAt 4))) ?_; clear hE a; intro a hE
      refine Rg.takeP (i := 6) hE rfl (by kernel_rfl) (runs_plain rfl) (Gives.p hE rfl) rfl (tw_sel (fun _ => hS) (fun _ => (hS.dropAt 4))) ?_; clear hE a; intro a hE
      refine Rg.takeP (i := 7) hE rfl (by kernel_rfl) (runs_plain rfl) (Gives.p hE rfl) rfl (tw_sel (fun _ => hS) (fun _ => (hS.dropAt 4))) ?_; clear hE a; intro a hE
      obtain ⟨x114, hx115, hq98⟩ := bindS hq98
      obtain ⟨hi116, hlt117, hy118⟩ := gx_some hx115
      obtain ⟨vs119, hl120, hR121, hd122, hget123⟩ := h108.at hy118
      subst hR121
      refine Rg.takeP (i := 8) hE rfl (by kernel_rfl) (runs_plain rfl) (Gives.idx hE ((w64 (q104 + 1)).toNat) rfl rfl sl45 hi116 (by have := hn110; omega) (hS.vecAok 4 rfl (by have := hn110; omega : (w64 (q104 + 1)).toNat < x0.length))) rfl (tw_sel (fun _ => hS) (fun _ => (hS.dropAt 4))) ?_; clear hE a; intro a hE
      have hT := tw_sel (A := fun w => St w s (pt pb0 (.cells #[.pointer (some ⟨pb3, 0, none⟩)] 76 (0, 0)) :: pt pb1 (.cells #[.int .i64 y1] 3 (0, 0)) :: pt pb2 (.cells #[.int .i64 y2] 3 (0, 0)) :: pt pb3 (.cells #[.int .i64 y3.rows, .int .i64 y3.across, .int .i64 y3.stops, .slice a_v1 y3.bookings.length c_v1, .slice a_v2 y3.cancelled.length c_v2] 148 (0, 0)) :: vecC 3 1 a_v0 c_v0 x0.length cs109 :: vecC 80 4 a_v1 c_v1 y3.bookings.length cs_v1 :: vecC 4 1 a_v2 c_v2 y3.cancelled.length cs_v2 :: R)) (B := fun w => St w s (pt pb0 (.cells #[.pointer (some ⟨pb3, 0, none⟩)] 76 (0, 0)) :: pt pb1 (.cells #[.int .i64 y1] 3 (0, 0)) :: pt pb2 (.cells #[.int .i64 y2] 3 (0, 0)) :: pt pb3 (.cells #[.int .i64 y3.rows, .int .i64 y3.across, .int .i64 y3.stops, .slice a_v1 y3.bookings.length c_v1, .slice a_v2 y3.cancelled.length c_v2] 148 (0, 0)) :: vecC 80 4 a_v1 c_v1 y3.bookings.length cs_v1 :: vecC 4 1 a_v2 c_v2 y3.cancelled.length cs_v2 :: R)) (w := _) (x := true) (y := true) (fun _ => hS) (fun _ => (hS.dropAt 4))
      have hF := hS; replace hS := hS
      refine Rg.take (i := 9) true rfl hE rfl (by kernel_rfl) (runs_plain rfl) (Gives.load1 hE rfl (fun w h => St.vecSees h 4 rfl ((w64 (q104 + 1)).toNat * 1) _ hget123) ty3) rfl hT ?_; clear hE a; intro a hE
      replace hS := hF; clear hF hT
      refine Rg.takeP (i := 10) hE rfl (by kernel_rfl) (runs_plain rfl) (Gives.p hE rfl) rfl (tw_sel (fun _ => hS) (fun _ => (hS.dropAt 4))) ?_; clear hE a; intro a hE
      refine Rg.takeP (i := 11) hE rfl (by kernel_rfl) (runs_plain rfl) (Gives.p hE rfl) rfl (tw_sel (fun _ => hS) (fun _ => (hS.dropAt 4))) ?_; clear hE a; intro a hE
      obtain ⟨x124, hx125, hq98⟩ := bindS hq98
      obtain ⟨hi126, hlt127, hy128⟩ := gx_some hx125
      obtain ⟨vs129, hl130, hR131, hd132, hget133⟩ := h108.at hy128
      subst hR131
      refine Rg.takeP (i := 12) hE rfl (by kernel_rfl) (runs_plain rfl) (Gives.idx hE ((q104).toNat) rfl rfl sl45 hi126 (by have := hn110; omega) (hS.vecAok 4 rfl (by have := hn110; omega : (q104).toNat < x0.length))) rfl (tw_sel (fun _ => hS) (fun _ => (hS.dropAt 4))) ?_; clear hE a; intro a hE
      have hT := tw_sel (A := fun w => St w s (pt pb0 (.cells #[.pointer (some ⟨pb3, 0, none⟩)] 76 (0, 0)) :: pt pb1 (.cells #[.int .i64 y1] 3 (0, 0)) :: pt pb2 (.cells #[.int .i64 y2] 3 (0, 0)) :: pt pb3 (.cells #[.int .i64 y3.rows, .int .i64 y3.across, .int .i64 y3.stops, .slice a_v1 y3.bookings.length c_v1, .slice a_v2 y3.cancelled.length c_v2] 148 (0, 0)) :: vecC 3 1 a_v0 c_v0 x0.length cs109 :: vecC 80 4 a_v1 c_v1 y3.bookings.length cs_v1 :: vecC 4 1 a_v2 c_v2 y3.cancelled.length cs_v2 :: R)) (B := fun w => St w s (pt pb0 (.cells #[.pointer (some ⟨pb3, 0, none⟩)] 76 (0, 0)) :: pt pb1 (.cells #[.int .i64 y1] 3 (0, 0)) :: pt pb2 (.cells #[.int .i64 y2] 3 (0, 0)) :: pt pb3 (.cells #[.int .i64 y3.rows, .int .i64 y3.across, .int .i64 y3.stops, .slice a_v1 y3.bookings.length c_v1, .slice a_v2 y3.cancelled.length c_v2] 148 (0, 0)) :: vecC 80 4 a_v1 c_v1 y3.bookings.length cs_v1 :: vecC 4 1 a_v2 c_v2 y3.cancelled.length cs_v2 :: R)) (w := _) (x := true) (y := true) (fun _ => hS) (fun _ => (hS.dropAt 4))
      have hF := hS; replace hS := hS
      refine Rg.take (i := 13) true rfl hE rfl (by kernel_rfl) (runs_plain rfl) (Gives.load1 hE rfl (fun w h => St.vecSees h 4 rfl ((q104).toNat * 1) _ hget133) ty3) rfl hT ?_; clear hE a; intro a hE
      replace hS := hF; clear hF hT
      obtain ⟨_, hx135, hq98⟩ := bindS hq98
      obtain ⟨h136, h137⟩ := ix_some hx135
      refine Rg.takeP (i := 14) hE rfl (by kernel_rfl) (runs_plain rfl) (Gives.idx hE ((q104).toNat) rfl rfl sl45 h136 (by have := hn110; omega) (hS.vecAok 4 rfl (by have := hn110; omega : (q104).toNat < x0.length))) rfl (tw_sel (fun _ => hS) (fun _ => (hS.dropAt 4))) ?_; clear hE a; intro a hE
      refine Rg.one (i := 15) false true rfl (by kernel_rfl) (by kernel_rfl) (by kernel_rfl) ?_
      obtain ⟨x139, hx140, hq98⟩ := bindS hq98
      refine WL.setD hE hS 4 rfl (runs_plain rfl) rfl rfl (vs := [.int .i64 x114]) rfl ty3 rfl rfl rfl h108 hn110 (sx_some hx140).1 hx140 rfl rfl ?_; clear hE hS a w; intro cs141 a w h142 hn143 hE hS
      refine WL.nil ?_
      refine ⟨⟨fun h => absurd h (by decide), fun _ => (hS.dropAt 4)⟩, ?_⟩
      obtain ⟨_, hx145, hq98⟩ := bindS hq98
      obtain ⟨h146, h147⟩ := ix_some hx145
      refine Rg.takeP (i := 16) hE rfl (by kernel_rfl) (runs_plain rfl) (Gives.idx hE ((w64 (q104 + 1)).toNat) rfl rfl sl45 h146 (by have := hn143; omega) (hS.vecAok 4 rfl (by have := hn143; omega : (w64 (q104 + 1)).toNat < x0.length))) rfl (tw_sel (fun h => absurd h (by decide)) (fun _ => (hS.dropAt 4))) ?_; clear hE a; intro a hE
      refine Rg.one (i := 17) false true rfl (by kernel_rfl) (by kernel_rfl) (by kernel_rfl) ?_
      obtain ⟨x149, hx150, hq98⟩ := bindS hq98
      refine WL.setD hE hS 4 rfl (runs_plain rfl) rfl rfl (vs := [.int .i64 x124]) rfl ty3 rfl rfl rfl h142 hn143 (sx_some hx150).1 hx150 rfl rfl ?_; clear hE hS a w; intro cs151 a w h152 hn153 hE hS
      refine WL.nil ?_
      refine ⟨⟨fun h => absurd h (by decide), fun _ => (hS.dropAt 4)⟩, ?_⟩
      refine Rg.done (by kernel_rfl) ?_
      subst hK113
      refine W.region ?_
      refine vP hS hE (Gives.p hE rfl) rfl ?_; clear hE a; intro a hE
      refine vP hS hE (Gives.p hE rfl) rfl ?_; clear hE a; intro a hE
      refine vP hS hE (Gives.p hE rfl) rfl ?_; clear hE a; intro a hE
      refine WL.nil ?_
      subst hK111
      exact ⟨n100, Nat.lt_succ_self _, n100, (w64 (q104 + 1)), x149, cs151, rfl, hq98, h152, hn153, hE.pick _ ⟨rfl, rfl, rfl, trivial⟩, hS⟩
     ·replace hq98 := iteF hc112 hq98
      subst hK111
      refine W.exit rfl ?_
      exact ⟨q104, q105, cs109, Option.some.inj hq98, h108, hn110, hE.pick _ trivial, hS⟩
    ·clear hE hS a w; rintro a w ⟨q104, q105, cs109, rfl, h108, hn110, hE, hS⟩
     dsimp only at hr
     refine W.ret ?_
     refine finG (fn := Tryd.f164) (rs := []) (vs := []) hE rfl trivial ?_
     obtain rfl := Option.some.inj hr
     exact ⟨cs109, rfl, h108, hn110, hS⟩
  ·replace hr := iteF hc57 hr
   refine W.skip ?_
   refine W.seq ?_
   refine W.seq (W.region ?_)
   refine vP hS hE (Gives.p hE rfl) rfl ?_; clear hE a; intro a hE
   refine vP hS hE (Gives.p hE rfl) rfl ?_; clear hE a; intro a hE
   refine vP hS hE (Gives.p hE rfl) rfl ?_; clear hE a; intro a hE
   refine vP hS hE (Gives.p hE rfl) rfl ?_; clear hE a; intro a hE
   refine WL.nil ?_
   refine W.cond hE rfl (fun hc154 => ?_) (fun hc154 => ?_)
   ·replace hr := iteT hc154 hr
    refine W.seq (W.region ?_)
    refine vP hS hE (Gives.p hE rfl) rfl ?_; clear hE a; intro a hE
    refine vP hS hE (Gives.p hE rfl) rfl ?_; clear hE a; intro a hE
    refine WL.nil ?_
    refine W.seq (W.region ?_)
    refine vP hS hE (Gives.p hE rfl) rfl ?_; clear hE a; intro a hE
    refine vP hS hE (Gives.p hE rfl) rfl ?_; clear hE a; intro a hE
    refine WL.nil ?_
    refine W.seq ?_
    obtain ⟨q156, hq155, hr⟩ := bindS hr
    refine W.cut (fun a w => ∃ (q161 : Int), ∃ (q162 : Int), (q161, q162) = q156 ∧ Rep a 220 [(0, .slice a_v0 x0.length c_v0), (2, .int .i64 x2), (14, .int .i64 q161)] ∧ St w s (pt pb0 (.cells #[.pointer (some ⟨pb3, 0, none⟩)] 76 (0, 0)) :: pt pb1 (.cells #[.int .i64 y1] 3 (0, 0)) :: pt pb2 (.cells #[.int .i64 y2] 3 (0, 0)) :: pt pb3 (.cells #[.int .i64 y3.rows, .int .i64 y3.across, .int .i64 y3.stops, .slice a_v1 y3.bookings.length c_v1, .slice a_v2 y3.cancelled.length c_v2] 148 (0, 0)) :: vecC 3 1 a_v0 c_v0 x0.length cs_v0 :: vecC 80 4 a_v1 c_v1 y3.bookings.length cs_v1 :: vecC 4 1 a_v2 c_v2 y3.cancelled.length cs_v2 :: R)) ?_ ?_
    ·refine W.block ?_
     refine W.loop (fun m a w => ∃ (n157 : Nat), ∃ (q161 : Int), ∃ (q162 : Int), n157 = m ∧ SlicessymMergeCmpFuncint_v1.loop3 x0 x2 y1 y2 y3 n157 q161 q162 = some q156 ∧ Rep a 220 [(0, .slice a_v0 x0.length c_v0), (2, .int .i64 x2), (4, .func (.func 124) #[] #[.pointer (some ⟨pb0, 0, none⟩), .pointer (some ⟨pb1, 0, none⟩), .pointer (some ⟨pb2, 0, none⟩)]), (14, .int .i64 q161), (15, .int .i64 q162)] ∧ St w s (pt pb0 (.cells #[.pointer (some ⟨pb3, 0, none⟩)] 76 (0, 0)) :: pt pb1 (.cells #[.int .i64 y1] 3 (0, 0)) :: pt pb2 (.cells #[.int .i64 y2] 3 (0, 0)) :: pt pb3 (.cells #[.int .i64 y3.rows, .int .i64 y3.across, .int .i64 y3.stops, .slice a_v1 y3.bookings.length c_v1, .slice a_v2 y3.cancelled.length c_v2] 148 (0, 0)) :: vecC 3 1 a_v0 c_v0 x0.length cs_v0 :: vecC 80 4 a_v1 c_v1 y3.bookings.length cs_v1 :: vecC 4 1 a_v2 c_v2 y3.cancelled.length cs_v2 :: R)) (m := fu) ⟨fu, x1, x2, rfl, hq155, hE.pick _ ⟨rfl, rfl, rfl, rfl, rfl, trivial⟩, hS⟩ ?_
     clear hE hS a w hq155; rintro m158 a w ⟨n157, q161, q162, rfl, hq155, hE, hS⟩
     refine W.gen fun K163 hK163 => ?_
     rcases n157 with _ | n157
     ·rw [SlicessymMergeCmpFuncint_v1.loop3] at hq155; exact absurd hq155 (by simp)
     rw [SlicessymMergeCmpFuncint_v1.loop3] at hq155
     refine W.seq ?_
     refine W.seq (W.region ?_)
     refine vP hS hE (Gives.p hE rfl) rfl ?_; clear hE a; intro a hE
     refine vP hS hE (Gives.p hE rfl) rfl ?_; clear hE a; intro a hE
     refine vP hS hE (Gives.p hE rfl) rfl ?_; clear hE a; intro a hE
     refine WL.nil ?_
     refine W.cond hE rfl (fun hc164 => ?_) (fun hc164 => ?_)
     ·replace hq155 := iteT hc164 hq155
      refine W.skip ?_
      refine W.block ?_
      refine W.seq (W.region ?_)
      refine vP hS hE (Gives.p hE rfl) rfl ?_; clear hE a; intro a hE
      refine vP hS hE (Gives.p hE rfl) rfl ?_; clear hE a; intro a hE
      refine vP hS hE (Gives.p hE rfl) rfl ?_; clear hE a; intro a hE
      refine vP hS hE (Gives.conv hE rfl hu3 ui154) rfl ?_; clear hE a; intro a hE
      refine vP hS hE (Gives.shr hE rfl rfl (by decide)) rfl ?_; clear hE a; intro a hE
      refine vP hS hE (Gives.conv hE rfl hu154 ui3) rfl ?_; clear hE a; intro a hE
      refine vP hS hE (Gives.p hE rfl) rfl ?_; clear hE a; intro a hE
      refine WL.nil ?_
      refine W.seq ?_
      refine W.regionQ (C := fun w => St w s (pt pb0 (.cells #[.pointer (some ⟨pb3, 0, none⟩)] 76 (0, 0)) :: pt pb1 (.cells #[.int .i64 y1] 3 (0, 0)) :: pt pb2 (.cells #[.int .i64 y2] 3 (0, 0)) :: pt pb3 (.cells #[.int .i64 y3.rows, .int .i64 y3.across, .int .i64 y3.stops, .slice a_v1 y3.bookings.length c_v1, .slice a_v2 y3.cancelled.length c_v2] 148 (0, 0)) :: vecC 3 1 a_v0 c_v0 x0.length cs_v0 :: vecC 80 4 a_v1 c_v1 y3.bookings.length cs_v1 :: vecC 4 1 a_v2 c_v2 y3.cancelled.length cs_v2 :: R)) mixed (by kernel_rfl) hS.drew ?_
      refine qP hE (Gives.p hE rfl) rfl ?_; clear hE a; intro a hE
      refine qP hE (Gives.p hE rfl) rfl ?_; clear hE a; intro a hE
      refine qP hE (Gives.p hE rfl) rfl ?_; clear hE a; intro a hE
      obtain ⟨x165, hx166, hq155⟩ := bindS hq155
      obtain ⟨hi167, hlt168, hy169⟩ := gx_some hx166
      obtain ⟨vs170, hl171, hR172, hd173, hget174⟩ := h_v0.at hy169
      subst hR172
      refine qP hE (Gives.idx hE ((x2).toNat) rfl rfl sl45 hi167 (by omega) (hS.vecAok 4 rfl (by omega : (x2).toNat < x0.length))) rfl ?_; clear hE a; intro a hE
      refine qP hE (Gives.load1 hE rfl (fun w h => St.vecSees h 4 rfl ((x2).toNat * 1) _ hget174) ty3) rfl ?_; clear hE a; intro a hE
      refine qP hE (Gives.p hE rfl) rfl ?_; clear hE a; intro a hE
      refine qP hE (Gives.p hE rfl) rfl ?_; clear hE a; intro a hE
      obtain ⟨x175, hx176, hq155⟩ := bindS hq155
      obtain ⟨hi177, hlt178, hy179⟩ := gx_some hx176
      obtain ⟨vs180, hl181, hR182, hd183, hget184⟩ := h_v0.at hy179
      subst hR182
      refine qP hE (Gives.idx hE ((w64 (Int.fdiv (IntKind.wrap .u64 (w64 (q161 + q162))) (2 ^ (min (Int.toNat 1) (IntKind.bits .u64))))).toNat) rfl rfl sl45 hi177 (by omega) (hS.vecAok 4 rfl (by omega : (w64 (Int.fdiv (IntKind.wrap .u64 (w64 (q161 + q162))) (2 ^ (min (Int.toNat 1) (IntKind.bits .u64))))).toNat < x0.length))) rfl ?_; clear hE a; intro a hE
      refine qP hE (Gives.load1 hE rfl (fun w h => St.vecSees h 4 rfl ((w64 (Int.fdiv (IntKind.wrap .u64 (w64 (q161 + q162))) (2 ^ (min (Int.toNat 1) (IntKind.bits .u64))))).toNat * 1) _ hget184) ty3) rfl ?_; clear hE a; intro a hE
      obtain ⟨q185, hq186, hq155⟩ := bindS hq155
      refine QL.fnw hE (fun w hS => (FareCarchoose_1_v1_ok (y3 := y3) (St.front (St.front (St.front (St.front (St.front (St.front hS 6 rfl) 6 rfl) 5 rfl) 5 rfl) 5 rfl) 5 rfl) h_v1 (rfl) h_v2 (rfl) hq186).mono fun _ _ ⟨he, hq⟩ => ⟨he, (St.unfront 6 rfl (St.unfront 6 rfl (St.unfront 5 rfl (St.unfront 5 rfl (St.unfront 5 rfl (St.unfront 5 rfl hq))))))⟩) rfl (runs_plain rfl) bd124 rfl rfl rfl ?_; clear hE a; intro a hE
      refine qP hE (Gives.p hE rfl) rfl ?_; clear hE a; intro a hE
      refine qP hE (Gives.p hE rfl) rfl ?_; clear hE a; intro a hE
      refine QL.nil ?_; clear hS w; intro w hS
      obtain ⟨q188, hq187, hq155⟩ := bndS hq155
      refine W.cut (fun a w => ∃ (q191 : Int), ∃ (q192 : Int), (q191, q192) = q188 ∧ Rep a 220 [(0, .slice a_v0 x0.length c_v0), (2, .int .i64 x2), (4, .func (.func 124) #[] #[.pointer (some ⟨pb0, 0, none⟩), .pointer (some ⟨pb1, 0, none⟩), .pointer (some ⟨pb2, 0, none⟩)]), (14, .int .i64 q191), (15, .int .i64 q192)] ∧ St w s (pt pb0 (.cells #[.pointer (some ⟨pb3, 0, none⟩)] 76 (0, 0)) :: pt pb1 (.cells #[.int .i64 y1] 3 (0, 0)) :: pt pb2 (.cells #[.int .i64 y2] 3 (0, 0)) :: pt pb3 (.cells #[.int .i64 y3.rows, .int .i64 y3.across, .int .i64 y3.stops, .slice a_v1 y3.bookings.length c_v1, .slice a_v2 y3.cancelled.length c_v2] 148 (0, 0)) :: vecC 3 1 a_v0 c_v0 x0.length cs_v0 :: vecC 80 4 a_v1 c_v1 y3.bookings.length cs_v1 :: vecC 4 1 a_v2 c_v2 y3.cancelled.length cs_v2 :: R)) ?_ ?_
      ·refine W.gen fun K193 hK193 => ?_
       refine W.cond hE rfl (fun hc194 => ?_) (fun hc194 => ?_)
       ·replace hq187 := iteT hc194 hq187
        refine W.region ?_
        refine vP hS hE (Gives.p hE rfl) rfl ?_; clear hE a; intro a hE
        refine vP hS hE (Gives.p hE rfl) rfl ?_; clear hE a; intro a hE
        refine vP hS hE (Gives.p hE rfl) rfl ?_; clear hE a; intro a hE
        refine WL.nil ?_
        subst hK193
        exact ⟨w64 ((w64 (Int.fdiv (IntKind.wrap .u64 (w64 (q161 + q162))) (2 ^ (min (Int.toNat 1) (IntKind.bits .u64))))) + 1), q162, hq187, hE.pick _ ⟨rfl, rfl, rfl, rfl, rfl, trivial⟩, hS⟩
       ·replace hq187 := iteF hc194 hq187
        refine W.region ?_
        refine vP hS hE (Gives.p hE rfl) rfl ?_; clear hE a; intro a hE
        refine vP hS hE (Gives.p hE rfl) rfl ?_; clear hE a; intro a hE
        refine WL.nil ?_
        subst hK193
        exact ⟨q161, w64 (Int.fdiv (IntKind.wrap .u64 (w64 (q161 + q162))) (2 ^ (min (Int.toNat 1) (IntKind.bits .u64)))), hq187, hE.pick _ ⟨rfl, rfl, rfl, rfl, rfl, trivial⟩, hS⟩
      ·clear hE hS a w; rintro a w ⟨q191, q192, rfl, hE, hS⟩
       dsimp only at hq155
       subst hK163
       exact ⟨n157, Nat.lt_succ_self _, n157, q191, q192, rfl, hq155, hE.pick _ ⟨rfl, rfl, rfl, rfl, rfl, trivial⟩, hS⟩
     ·replace hq155 := iteF hc164 hq155
      subst hK163
      refine W.exit rfl ?_
      exact ⟨q161, q162, Option.some.inj hq155, hE.pick _ ⟨rfl, rfl, rfl, trivial⟩, hS⟩
    ·clear hE hS a w; rintro a w ⟨q161, q162, rfl, hE, hS⟩
     dsimp only at hr
     refine W.seq ?_
     refine W.seq (W.region ?_)
     refine vP hS hE (Gives.p hE rfl) rfl ?_; clear hE a; intro a hE
     refine vP hS hE (Gives.p hE rfl) rfl ?_; clear hE a; intro a hE
     refine WL.nil ?_
     obtain ⟨q196, hq195, hr⟩ := bindS hr
     refine W.cut (fun a w => ∃ (q201 : Int), ∃ (q202 : List Int), ∃ (cs206 : List Value), (q201, q202) = q196 ∧ Ev 1 (RI .i64) s cs206 q202 ∧ q202.length = x0.length ∧ Rep a 220 [] ∧ St w s (pt pb0 (.cells #[.pointer (some ⟨pb3, 0, none⟩)] 76 (0, 0)) :: pt pb1 (.cells #[.int .i64 y1] 3 (0, 0)) :: pt pb2 (.cells #[.int .i64 y2] 3 (0, 0)) :: pt pb3 (.cells #[.int .i64 y3.rows, .int .i64 y3.across, .int .i64 y3.stops, .slice a_v1 y3.bookings.length c_v1, .slice a_v2 y3.cancelled.length c_v2] 148 (0, 0)) :: vecC 3 1 a_v0 c_v0 x0.length cs206 :: vecC 80 4 a_v1 c_v1 y3.bookings.length cs_v1 :: vecC 4 1 a_v2 c_v2 y3.cancelled.length cs_v2 :: R)) ?_ ?_
     ·refine W.block ?_
      refine W.loop (fun m a w => ∃ (n197 : Nat), ∃ (q201 : Int), ∃ (q202 : List Int), ∃ (cs206 : List Value), n197 = m ∧ SlicessymMergeCmpFuncint_v1.loop4 q161 n197 q201 q202 = some q196 ∧ Ev 1 (RI .i64) s cs206 q202 ∧ q202.length = x0.length ∧ Rep a 220 [(0, .slice a_v0 x0.length c_v0), (14, .int .i64 q161), (17, .int .i64 q201)] ∧ St w s (pt pb0 (.cells #[.pointer (some ⟨pb3, 0, none⟩)] 76 (0, 0)) :: pt pb1 (.cells #[.int .i64 y1] 3 (0, 0)) :: pt pb2 (.cells #[.int .i64 y2] 3 (0, 0)) :: pt pb3 (.cells #[.int .i64 y3.rows, .int .i64 y3.across, .int .i64 y3.stops, .slice a_v1 y3.bookings.length c_v1, .slice a_v2 y3.cancelled.length c_v2] 148 (0, 0)) :: vecC 3 1 a_v0 c_v0 x0.length cs206 :: vecC 80 4 a_v1 c_v1 y3.bookings.length cs_v1 :: vecC 4 1 a_v2 c_v2 y3.cancelled.length cs_v2 :: R)) (m := fu) ⟨fu, x2, x0, cs_v0, rfl, hq195, h_v0, (rfl), hE.pick _ ⟨rfl, rfl, rfl, trivial⟩, hS⟩ ?_
      clear hE hS a w hq195; rintro m198 a w ⟨n197, q201, q202, cs206, rfl, hq195, h205, hn207, hE, hS⟩
      refine W.gen fun K208 hK208 => ?_
      rcases n197 with _ | n197
      ·rw [SlicessymMergeCmpFuncint_v1.loop4] at hq195; exact absurd hq195 (by simp)
      rw [SlicessymMergeCmpFuncint_v1.loop4] at hq195
      refine W.seq ?_
      refine W.seq (W.region ?_)
      refine vP hS hE (Gives.p hE rfl) rfl ?_; clear hE a; intro a hE
      refine vP hS hE (Gives.p hE rfl) rfl ?_; clear hE a; intro a hE
      refine vP hS hE (Gives.p hE rfl) rfl ?_; clear hE a; intro a hE
      refine WL.nil ?_
      refine W.cond hE rfl (fun hc209 => ?_) (fun hc209 => ?_)
      ·replace hq195 := iteT hc209 hq195
       refine W.skip ?_
       refine W.seq ?_
       refine W.block ?_
       refine W.gen fun K210 hK210 => ?_
       refine W.regionE (sel (fun w => St w s (pt pb0 (.cells #[.pointer (some ⟨pb3, 0, none⟩)] 76 (0, 0)) :: pt pb1 (.cells #[.int .i64 y1] 3 (0, 0)) :: pt pb2 (.cells #[.int .i64 y2] 3 (0, 0)) :: pt pb3 (.cells #[.int .i64 y3.rows, .int .i64 y3.across, .int .i64 y3.stops, .slice a_v1 y3.bookings.length c_v1, .slice a_v2 y3.cancelled.length c_v2] 148 (0, 0)) :: vecC 3 1 a_v0 c_v0 x0.length cs206 :: vecC 80 4 a_v1 c_v1 y3.bookings.length cs_v1 :: vecC 4 1 a_v2 c_v2 y3.cancelled.length cs_v2 :: R)) (fun w => St w s (pt pb0 (.cells #[.pointer (some ⟨pb3, 0, none⟩)] 76 (0, 0)) :: pt pb1 (.cells #[.int .i64 y1] 3 (0, 0)) :: pt pb2 (.cells #[.int .i64 y2] 3 (0, 0)) :: pt pb3 (.cells #[.int .i64 y3.rows, .int .i64 y3.across, .int .i64 y3.stops, .slice a_v1 y3.bookings.length c_v1, .slice a_v2 y3.cancelled.length c_v2] 148 (0, 0)) :: vecC 80 4 a_v1 c_v1 y3.bookings.length cs_v1 :: vecC 4 1 a_v2 c_v2 y3.cancelled.length cs_v2 :: R))) (fun b i => cond b ([0, 1, 2, 3, 4, 5, 6, 7, 8, 9, 10, 11, 12, 13, 14, 16].contains i) ([0, 1, 2, 3, 4, 5, 6, 7, 8, 9, 10, 11, 12, 13, 14, 15, 16, 17].contains i)) mixed ?_
       replace hS := hS.drew
       refine Rg.takeP (i := 0) hE rfl (by kernel_rfl) (runs_plain rfl) (Gives.p hE rfl) rfl (tw_sel (fun _ => hS) (fun _ => (hS.dropAt 4))) ?_; clear hE a; intro a hE
       refine Rg.takeP (i := 1) hE rfl (by kernel_rfl) (runs_plain rfl) (Gives.p hE rfl) rfl (tw_sel (fun _ => hS) (fun _ => (hS.dropAt 4))) ?_; clear hE a; intro a hE
       refine Rg.takeP (i := 2) hE rfl (by kernel_rfl) (runs_plain rfl) (Gives.p hE rfl) rfl (tw_sel (fun _ => hS) (fun _ => (hS.dropAt 4))) ?_; clear hE a; intro a hE
       refine Rg.takeP (i := 3) hE rfl (by kernel_rfl) (runs_plain rfl) (Gives.p hE rfl) rfl (tw_sel (fun _ => hS) (fun _ => (hS.dropAt 4))) ?_; clear hE a; intro a hE
       refine Rg.takeP (i := 4) hE rfl (by kernel_rfl) (runs_plain rfl) (Gives.p hE rfl) rfl (tw_sel (fun _ => hS) (fun _ => (hS.dropAt 4))) ?_; clear hE a; intro a hE
       refine Rg.takeP (i := 5) hE rfl (by kernel_rfl) (runs_plain rfl) (Gives.p hE rfl) rfl (tw_sel (fun _ => hS) (fun _ => (hS.dropAt 4))) ?_; clear hE a; intro a hE
       refine Rg.takeP (i := 6) hE rfl (by kernel_rfl) (runs_plain rfl) (Gives.p hE rfl) rfl (tw_sel (fun _ => hS) (fun _ => (hS.dropAt 4))) ?_; clear hE a; intro a hE
       refine Rg.takeP (i := 7) hE rfl (by kernel_rfl) (runs_plain rfl) (Gives.p hE rfl) rfl (tw_sel (fun _ => hS) (fun _ => (hS.dropAt 4))) ?_; clear hE a; intro a hE
       obtain ⟨x211, hx212, hq195⟩ := bindS hq195
       obtain ⟨hi213, hlt214, hy215⟩ := gx_some hx212
       obtain ⟨vs216, hl217, hR218, hd219, hget220⟩ := h205.at hy215
       subst hR218
       refine Rg.takeP (i := 8) hE rfl (by kernel_rfl) (runs_plain rfl) (Gives.idx hE ((w64 (q201 - 1)).toNat) rfl rfl sl45 hi213 (by have := hn207; omega) (hS.vecAok 4 rfl (by have := hn207; omega : (w64 (q201 - 1)).toNat < x0.length))) rfl (tw_sel (fun _ => hS) (fun _ => (hS.dropAt 4))) ?_; clear hE a; intro a hE
       have hT := tw_sel (A := fun w => St w s (pt pb0 (.cells #[.pointer (some ⟨pb3, 0, none⟩)] 76 (0, 0)) :: pt pb1 (.cells #[.int .i64 y1] 3 (0, 0)) :: pt pb2 (.cells #[.int .i64 y2] 3 (0, 0)) :: pt pb3 (.cells #[.int .i64 y3.rows, .int .i64 y3.across, .int .i64 y3.stops, .slice a_v1 y3.bookings.length c_v1, .slice a_v2 y3.cancelled.length c_v2] 148 (0, 0)) :: vecC 3 1 a_v0 c_v0 x0.length cs206 :: vecC 80 4 a_v1 c_v1 y3.bookings.length cs_v1 :: vecC 4 1 a_v2 c_v2 y3.cancelled.length cs_v2 :: R)) (B := fun w => St w s (pt pb0 (.cells #[.pointer (some ⟨pb3, 0, none⟩)] 76 (0, 0)) :: pt pb1 (.cells #[.int .i64 y1] 3 (0, 0)) :: pt pb2 (.cells #[.int .i64 y2] 3 (0, 0)) :: pt pb3 (.cells #[.int .i64 y3.rows, .int .i64 y3.across, .int .i64 y3.stops, .slice a_v1 y3.bookings.length c_v1, .slice a_v2 y3.cancelled.length c_v2] 148 (0, 0)) :: vecC 80 4 a_v1 c_v1 y3.bookings.length cs_v1 :: vecC 4 1 a_v2 c_v2 y3.cancelled.length cs_v2 :: R)) (w := _) (x := true) (y := true) (fun _ => hS) (fun _ => (hS.dropAt 4))
       have hF := hS; replace hS := hS
       refine Rg.take (i := 9) true rfl hE rfl (by kernel_rfl) (runs_plain rfl) (Gives.load1 hE rfl (fun w h => St.vecSees h 4 rfl ((w64 (q201 - 1)).toNat * 1) _ hget220) ty3) rfl hT ?_; clear hE a; intro a hE
       replace hS := hF; clear hF hT
       refine Rg.takeP (i := 10) hE rfl (by kernel_rfl) (runs_plain rfl) (Gives.p hE rfl) rfl (tw_sel (fun _ => hS) (fun _ => (hS.dropAt 4))) ?_; clear hE a; intro a hE
       refine Rg.takeP (i := 11) hE rfl (by kernel_rfl) (runs_plain rfl) (Gives.p hE rfl) rfl (tw_sel (fun _ => hS) (fun _ => (hS.dropAt 4))) ?_; clear hE a; intro a hE
       obtain ⟨x221, hx222, hq195⟩ := bindS hq195
       obtain ⟨hi223, hlt224, hy225⟩ := gx_some hx222
       obtain ⟨vs226, hl227, hR228, hd229, hget230⟩ := h205.at hy225
       subst hR228
       refine Rg.takeP (i := 12) hE rfl (by kernel_rfl) (runs_plain rfl) (Gives.idx hE ((q201).toNat) rfl rfl sl45 hi223 (by have := hn207; omega) (hS.vecAok 4 rfl (by have := hn207; omega : (q201).toNat < x0.length))) rfl (tw_sel (fun _ => hS) (fun _ => (hS.dropAt 4))) ?_; clear hE a; intro a hE
       have hT := tw_sel (A := fun w => St w s (pt pb0 (.cells #[.pointer (some ⟨pb3, 0, none⟩)] 76 (0, 0)) :: pt pb1 (.cells #[.int .i64 y1] 3 (0, 0)) :: pt pb2 (.cells #[.int .i64 y2] 3 (0, 0)) :: pt pb3 (.cells #[.int .i64 y3.rows, .int .i64 y3.across, .int .i64 y3.stops, .slice a_v1 y3.bookings.length c_v1, .slice a_v2 y3.cancelled.length c_v2] 148 (0, 0)) :: vecC 3 1 a_v0 c_v0 x0.length cs206 :: vecC 80 4 a_v1 c_v1 y3.bookings.length cs_v1 :: vecC 4 1 a_v2 c_v2 y3.cancelled.length cs_v2 :: R)) (B := fun w => St w s (pt pb0 (.cells #[.pointer (some ⟨pb3, 0, none⟩)] 76 (0, 0)) :: pt pb1 (.cells #[.int .i64 y1] 3 (0, 0)) :: pt pb2 (.cells #[.int .i64 y2] 3 (0, 0)) :: pt pb3 (.cells #[.int .i64 y3.rows, .int .i64 y3.across, .int .i64 y3.stops, .slice a_v1 y3.bookings.length c_v1, .slice a_v2 y3.cancelled.length c_v2] 148 (0, 0)) :: vecC 80 4 a_v1 c_v1 y3.bookings.length cs_v1 :: vecC 4 1 a_v2 c_v2 y3.cancelled.length cs_v2 :: R)) (w := _) (x := true) (y := true) (fun _ => hS) (fun _ => (hS.dropAt 4))
       have hF := hS; replace hS := hS
       refine Rg.take (i := 13) true rfl hE rfl (by kernel_rfl) (runs_plain rfl) (Gives.load1 hE rfl (fun w h => St.vecSees h 4 rfl ((q201).toNat * 1) _ hget230) ty3) rfl hT ?_; clear hE a; intro a hE
       replace hS := hF; clear hF hT
       obtain ⟨_, hx232, hq195⟩ := bindS hq195
       obtain ⟨h233, h234⟩ := ix_some hx232
       refine Rg.takeP (i := 14) hE rfl (by kernel_rfl) (runs_plain rfl) (Gives.idx hE ((q201).toNat) rfl rfl sl45 h233 (by have := hn207; omega) (hS.vecAok 4 rfl (by have := hn207; omega : (q201).toNat < x0.length))) rfl (tw_sel (fun _ => hS) (fun _ => (hS.dropAt 4))) ?_; clear hE a; intro a hE
       refine Rg.one (i := 15) false true rfl (by kernel_rfl) (by kernel_rfl) (by kernel_rfl) ?_
       obtain ⟨x236, hx237, hq195⟩ := bindS hq195
       refine WL.setD hE hS 4 rfl (runs_plain rfl) rfl rfl (vs := [.int .i64 x211]) rfl ty3 rfl rfl rfl h205 hn207 (sx_some hx237).1 hx237 rfl rfl ?_; clear hE hS a w; intro cs238 a w h239 hn240 hE hS
       refine WL.nil ?_
       refine ⟨⟨fun h => absurd h (by decide), fun _ => (hS.dropAt 4)⟩, ?_⟩
       obtain ⟨_, hx242, hq195⟩ := bindS hq195
       obtain ⟨h243, h244⟩ := ix_some hx242
       refine Rg.takeP (i := 16) hE rfl (by kernel_rfl) (runs_plain rfl) (Gives.idx hE ((w64 (q201 - 1)).toNat) rfl rfl sl45 h243 (by have := hn240; omega) (hS.vecAok 4 rfl (by have := hn240; omega : (w64 (q201 - 1)).toNat < x0.length))) rfl (tw_sel (fun h => absurd h (by decide)) (fun _ => (hS.dropAt 4))) ?_; clear hE a; intro a hE
       refine Rg.one (i := 17) false true rfl (by kernel_rfl) (by kernel_rfl) (by kernel_rfl) ?_
       obtain ⟨x246, hx247, hq195⟩ := bindS hq195
       refine WL.setD hE hS 4 rfl (runs_plain rfl) rfl rfl (vs := [.int .i64 x221]) rfl ty3 rfl rfl rfl h239 hn240 (sx_some hx247).1 hx247 rfl rfl ?_; clear hE hS a w; intro cs248 a w h249 hn250 hE hS
       refine WL.nil ?_
       refine ⟨⟨fun h => absurd h (by decide), fun _ => (hS.dropAt 4)⟩, ?_⟩
       refine Rg.done (by kernel_rfl) ?_
       subst hK210
       refine W.region ?_
       refine vP hS hE (Gives.p hE rfl) rfl ?_; clear hE a; intro a hE
       refine vP hS hE (Gives.p hE rfl) rfl ?_; clear hE a; intro a hE
       refine vP hS hE (Gives.p hE rfl) rfl ?_; clear hE a; intro a hE
       refine WL.nil ?_
       subst hK208
       exact ⟨n197, Nat.lt_succ_self _, n197, (w64 (q201 - 1)), x246, cs248, rfl, hq195, h249, hn250, hE.pick _ ⟨rfl, rfl, rfl, trivial⟩, hS⟩
      ·replace hq195 := iteF hc209 hq195
       subst hK208
       refine W.exit rfl ?_
       exact ⟨q201, q202, cs206, Option.some.inj hq195, h205, hn207, hE.pick _ trivial, hS⟩
     ·clear hE hS a w; rintro a w ⟨q201, q202, cs206, rfl, h205, hn207, hE, hS⟩
      dsimp only at hr
      refine W.ret ?_
      refine finG (fn := Tryd.f164) (rs := []) (vs := []) hE rfl trivial ?_
      obtain rfl := Option.some.inj hr
      exact ⟨cs206, rfl, h205, hn207, hS⟩
   ·replace hr := iteF hc154 hr
    refine W.skip ?_
    refine W.seq (W.region ?_)
    refine vP hS hE (Gives.p hE rfl) rfl ?_; clear hE a; intro a hE
    refine vP hS hE (Gives.p hE rfl) rfl ?_; clear hE a; intro a hE
    refine vP hS hE (Gives.p hE rfl) rfl ?_; clear hE a; intro a hE
    refine vP hS hE (Gives.conv hE rfl hu3 ui154) rfl ?_; clear hE a; intro a hE
    refine vP hS hE (Gives.shr hE rfl rfl (by decide)) rfl ?_; clear hE a; intro a hE
    refine vP hS hE (Gives.conv hE rfl hu154 ui3) rfl ?_; clear hE a; intro a hE
    refine vP hS hE (Gives.p hE rfl) rfl ?_; clear hE a; intro a hE
    refine WL.nil ?_
    refine W.seq (W.region ?_)
    refine vP hS hE (Gives.p hE rfl) rfl ?_; clear hE a; intro a hE
    refine vP hS hE (Gives.p hE rfl) rfl ?_; clear hE a; intro a hE
    refine vP hS hE (Gives.p hE rfl) rfl ?_; clear hE a; intro a hE
    refine vP hS hE (Gives.p hE rfl) rfl ?_; clear hE a; intro a hE
    refine WL.nil ?_
    refine W.seq (W.region ?_)
    refine vP hS hE (Gives.p hE rfl) rfl ?_; clear hE a; intro a hE
    refine vP hS hE (Gives.p hE rfl) rfl ?_; clear hE a; intro a hE
    refine WL.nil ?_
    refine W.seq ?_
    refine W.seq (W.region ?_)
    refine vP hS hE (Gives.p hE rfl) rfl ?_; clear hE a; intro a hE
    refine vP hS hE (Gives.p hE rfl) rfl ?_; clear hE a; intro a hE
    refine vP hS hE (Gives.p hE rfl) rfl ?_; clear hE a; intro a hE
    refine WL.nil ?_
    obtain ⟨q252, hq251, hr⟩ := bndS hr
    refine W.cut (fun a w => ∃ (q255 : Int), ∃ (q256 : Int), (q255, q256) = q252 ∧ Rep a 220 [(0, .slice a_v0 x0.length c_v0), (1, .int .i64 x1), (2, .int .i64 x2), (3, .int .i64 x3), (4, .func (.func 124) #[] #[.pointer (some ⟨pb0, 0, none⟩), .pointer (some ⟨pb1, 0, none⟩), .pointer (some ⟨pb2, 0, none⟩)]), (18, .int .i64 (w64 (Int.fdiv (IntKind.wrap .u64 (w64 (x1 + x3))) (2 ^ (min (Int.toNat 1) (IntKind.bits .u64)))))), (19, .int .i64 (w64 ((w64 (Int.fdiv (IntKind.wrap .u64 (w64 (x1 + x3))) (2 ^ (min (Int.toNat 1) (IntKind.bits .u64))))) + x2))), (20, .int .i64 q255), (21, .int .i64 q256)] ∧ St w s (pt pb0 (.cells #[.pointer (some ⟨pb3, 0, none⟩)] 76 (0, 0)) :: pt pb1 (.cells #[.int .i64 y1] 3 (0, 0)) :: pt pb2 (.cells #[.int .i64 y2] 3 (0, 0)) :: pt pb3 (.cells #[.int .i64 y3.rows, .int .i64 y3.across, .int .i64 y3.stops, .slice a_v1 y3.bookings.length c_v1, .slice a_v2 y3.cancelled.length c_v2] 148 (0, 0)) :: vecC 3 1 a_v0 c_v0 x0.length cs_v0 :: vecC 80 4 a_v1 c_v1 y3.bookings.length cs_v1 :: vecC 4 1 a_v2 c_v2 y3.cancelled.length cs_v2 :: R)) ?_ ?_
    ·refine W.gen fun K257 hK257 => ?_
     refine W.cond hE rfl (fun hc258 => ?_) (fun hc258 => ?_)
     ·replace hq251 := iteT hc258 hq251
      refine W.seq (W.region ?_)
      refine vP hS hE (Gives.p hE rfl) rfl ?_; clear hE a; intro a hE
      refine vP hS hE (Gives.p hE rfl) rfl ?_; clear hE a; intro a hE
      refine vP hS hE (Gives.p hE rfl) rfl ?_; clear hE a; intro a hE
      refine vP hS hE (Gives.p hE rfl) rfl ?_; clear hE a; intro a hE
      refine WL.nil ?_
      refine W.region ?_
      refine vP hS hE (Gives.p hE rfl) rfl ?_; clear hE a; intro a hE
      refine vP hS hE (Gives.p hE rfl) rfl ?_; clear hE a; intro a hE
      refine WL.nil ?_
      subst hK257
      exact ⟨w64 ((w64 ((w64 (Int.fdiv (IntKind.wrap .u64 (w64 (x1 + x3))) (2 ^ (min (Int.toNat 1) (IntKind.bits .u64))))) + x2)) - x3), w64 (Int.fdiv (IntKind.wrap .u64 (w64 (x1 + x3))) (2 ^ (min (Int.toNat 1) (IntKind.bits .u64)))), hq251, hE.pick _ ⟨rfl, rfl, rfl, rfl, rfl, rfl, rfl, rfl, rfl, trivial⟩, hS⟩
     ·replace hq251 := iteF hc258 hq251
      refine W.seq (W.region ?_)
      refine vP hS hE (Gives.p hE rfl) rfl ?_; clear hE a; intro a hE
      refine vP hS hE (Gives.p hE rfl) rfl ?_; clear hE a; intro a hE
      refine WL.nil ?_
      refine W.region ?_
      refine vP hS hE (Gives.p hE rfl) rfl ?_; clear hE a; intro a hE
      refine vP hS hE (Gives.p hE rfl) rfl ?_; clear hE a; intro a hE
      refine WL.nil ?_
      subst hK257
      exact ⟨x1, x2, hq251, hE.pick _ ⟨rfl, rfl, rfl, rfl, rfl, rfl, rfl, rfl, rfl, trivial⟩, hS⟩
    ·clear hE hS a w; rintro a w ⟨q255, q256, rfl, hE, hS⟩
     dsimp only at hr
     refine W.seq (W.region ?_)
     refine vP hS hE (Gives.p hE rfl) rfl ?_; clear hE a; intro a hE
     refine vP hS hE (Gives.p hE rfl) rfl ?_; clear hE a; intro a hE
     refine vP hS hE (Gives.p hE rfl) rfl ?_; clear hE a; intro a hE
     refine WL.nil ?_
     refine W.seq ?_
     obtain ⟨q260, hq259, hr⟩ := bindS hr
     refine W.cut (fun a w => ∃ (q265 : Int), ∃ (q266 : Int), (q265, q266) = q260 ∧ Rep a 220 [(0, .slice a_v0 x0.length c_v0), (1, .int .i64 x1), (2, .int .i64 x2), (3, .int .i64 x3), (4, .func (.func 124) #[] #[.pointer (some ⟨pb0, 0, none⟩), .pointer (some ⟨pb1, 0, none⟩), .pointer (some ⟨pb2, 0, none⟩)]), (18, .int .i64 (w64 (Int.fdiv (IntKind.wrap .u64 (w64 (x1 + x3))) (2 ^ (min (Int.toNat 1) (IntKind.bits .u64)))))), (19, .int .i64 (w64 ((w64 (Int.fdiv (IntKind.wrap .u64 (w64 (x1 + x3))) (2 ^ (min (Int.toNat 1) (IntKind.bits .u64))))) + x2))), (20, .int .i64 q265)] ∧ St w s (pt pb0 (.cells #[.pointer (some ⟨pb3, 0, none⟩)] 76 (0, 0)) :: pt pb1 (.cells #[.int .i64 y1] 3 (0, 0)) :: pt pb2 (.cells #[.int .i64 y2] 3 (0, 0)) :: pt pb3 (.cells #[.int .i64 y3.rows, .int .i64 y3.across, .int .i64 y3.stops, .slice a_v1 y3.bookings.length c_v1, .slice a_v2 y3.cancelled.length c_v2] 148 (0, 0)) :: vecC 3 1 a_v0 c_v0 x0.length cs_v0 :: vecC 80 4 a_v1 c_v1 y3.bookings.length cs_v1 :: vecC 4 1 a_v2 c_v2 y3.cancelled.length cs_v2 :: R)) ?_ ?_
     ·refine W.block ?_
      refine W.loop (fun m a w => ∃ (n261 : Nat), ∃ (q265 : Int), ∃ (q266 : Int), n261 = m ∧ SlicessymMergeCmpFuncint_v1.loop5 x0 x1 x2 x3 y1 y2 y3 n261 q265 q266 = some q260 ∧ Rep a 220 [(0, .slice a_v0 x0.length c_v0), (1, .int .i64 x1), (2, .int .i64 x2), (3, .int .i64 x3), (4, .func (.func 124) #[] #[.pointer (some ⟨pb0, 0, none⟩), .pointer (some ⟨pb1, 0, none⟩), .pointer (some ⟨pb2, 0, none⟩)]), (18, .int .i64 (w64 (Int.fdiv (IntKind.wrap .u64 (w64 (x1 + x3))) (2 ^ (min (Int.toNat 1) (IntKind.bits .u64)))))), (19, .int .i64 (w64 ((w64 (Int.fdiv (IntKind.wrap .u64 (w64 (x1 + x3))) (2 ^ (min (Int.toNat 1) (IntKind.bits .u64))))) + x2))), (20, .int .i64 q265), (21, .int .i64 q266), (22, .int .i64 (w64 ((w64 ((w64 (Int.fdiv (IntKind.wrap .u64 (w64 (x1 + x3))) (2 ^ (min (Int.toNat 1) (IntKind.bits .u64))))) + x2)) - 1)))] ∧ St w s (pt pb0 (.cells #[.pointer (some ⟨pb3, 0, none⟩)] 76 (0, 0)) :: pt pb1 (.cells #[.int .i64 y1] 3 (0, 0)) :: pt pb2 (.cells #[.int .i64 y2] 3 (0, 0)) :: pt pb3 (.cells #[.int .i64 y3.rows, .int .i64 y3.across, .int .i64 y3.stops, .slice a_v1 y3.bookings.length c_v1, .slice a_v2 y3.cancelled.length c_v2] 148 (0, 0)) :: vecC 3 1 a_v0 c_v0 x0.length cs_v0 :: vecC 80 4 a_v1 c_v1 y3.bookings.length cs_v1 :: vecC 4 1 a_v2 c_v2 y3.cancelled.length cs_v2 :: R)) (m := fu) ⟨fu, q255, q256, rfl, hq259, hE.pick _ ⟨rfl, rfl, rfl, rfl, rfl, rfl, rfl, rfl, rfl, rfl, trivial⟩, hS⟩ ?_
      clear hE hS a w hq259; rintro m262 a w ⟨n261, q265, q266, rfl, hq259, hE, hS⟩
      refine W.gen fun K267 hK267 => ?_
      rcases n261 with _ | n261
      ·rw [SlicessymMergeCmpFuncint_v1.loop5] at hq259; exact absurd hq259 (by simp)
      rw [SlicessymMergeCmpFuncint_v1.loop5] at hq259
      refine W.seq ?_
      refine W.seq (W.region ?_)
      refine vP hS hE (Gives.p hE rfl) rfl ?_; clear hE a; intro a hE
      refine vP hS hE (Gives.p hE rfl) rfl ?_; clear hE a; intro a hE
      refine vP hS hE (Gives.p hE rfl) rfl ?_; clear hE a; intro a hE
      refine WL.nil ?_
      refine W.cond hE rfl (fun hc268 => ?_) (fun hc268 => ?_)
      ·replace hq259 := iteT hc268 hq259
       refine W.skip ?_
       refine W.block ?_
       refine W.seq (W.region ?_)
       refine vP hS hE (Gives.p hE rfl) rfl ?_; clear hE a; intro a hE
       refine vP hS hE (Gives.p hE rfl) rfl ?_; clear hE a; intro a hE
       refine vP hS hE (Gives.p hE rfl) rfl ?_; clear hE a; intro a hE
       refine vP hS hE (Gives.conv hE rfl hu3 ui154) rfl ?_; clear hE a; intro a hE
       refine vP hS hE (Gives.shr hE rfl rfl (by decide)) rfl ?_; clear hE a; intro a hE
       refine vP hS hE (Gives.conv hE rfl hu154 ui3) rfl ?_; clear hE a; intro a hE
       refine vP hS hE (Gives.p hE rfl) rfl ?_; clear hE a; intro a hE
       refine WL.nil ?_
       refine W.seq ?_
       refine W.regionQ (C := fun w => St w s (pt pb0 (.cells #[.pointer (some ⟨pb3, 0, none⟩)] 76 (0, 0)) :: pt pb1 (.cells #[.int .i64 y1] 3 (0, 0)) :: pt pb2 (.cells #[.int .i64 y2] 3 (0, 0)) :: pt pb3 (.cells #[.int .i64 y3.rows, .int .i64 y3.across, .int .i64 y3.stops, .slice a_v1 y3.bookings.length c_v1, .slice a_v2 y3.cancelled.length c_v2] 148 (0, 0)) :: vecC 3 1 a_v0 c_v0 x0.length cs_v0 :: vecC 80 4 a_v1 c_v1 y3.bookings.length cs_v1 :: vecC 4 1 a_v2 c_v2 y3.cancelled.length cs_v2 :: R)) mixed (by kernel_rfl) hS.drew ?_
       refine qP hE (Gives.p hE rfl) rfl ?_; clear hE a; intro a hE
       refine qP hE (Gives.p hE rfl) rfl ?_; clear hE a; intro a hE
       refine qP hE (Gives.p hE rfl) rfl ?_; clear hE a; intro a hE
       refine qP hE (Gives.p hE rfl) rfl ?_; clear hE a; intro a hE
       refine qP hE (Gives.p hE rfl) rfl ?_; clear hE a; intro a hE
       obtain ⟨x269, hx270, hq259⟩ := bindS hq259
       obtain ⟨hi271, hlt272, hy273⟩ := gx_some hx270
       obtain ⟨vs274, hl275, hR276, hd277, hget278⟩ := h_v0.at hy273
       subst hR276
       refine qP hE (Gives.idx hE ((w64 ((w64 ((w64 ((w64 (Int.fdiv (IntKind.wrap .u64 (w64 (x1 + x3))) (2 ^ (min (Int.toNat 1) (IntKind.bits .u64))))) + x2)) - 1)) - (w64 (Int.fdiv (IntKind.wrap .u64 (w64 (q265 + q266))) (2 ^ (min (Int.toNat 1) (IntKind.bits .u64))))))).toNat) rfl rfl sl45 hi271 (by omega) (hS.vecAok 4 rfl (by omega : (w64 ((w64 ((w64 ((w64 (Int.fdiv (IntKind.wrap .u64 (w64 (x1 + x3))) (2 ^ (min (Int.toNat 1) (IntKind.bits .u64))))) + x2)) - 1)) - (w64 (Int.fdiv (IntKind.wrap .u64 (w64 (q265 + q266))) (2 ^ (min (Int.toNat 1) (IntKind.bits .u64))))))).toNat < x0.length))) rfl ?_; clear hE a; intro a hE
       refine qP hE (Gives.load1 hE rfl (fun w h => St.vecSees h 4 rfl ((w64 ((w64 ((w64 ((w64 (Int.fdiv (IntKind.wrap .u64 (w64 (x1 + x3))) (2 ^ (min (Int.toNat 1) (IntKind.bits .u64))))) + x2)) - 1)) - (w64 (Int.fdiv (IntKind.wrap .u64 (w64 (q265 + q266))) (2 ^ (min (Int.toNat 1) (IntKind.bits .u64))))))).toNat * 1) _ hget278) ty3) rfl ?_; clear hE a; intro a hE
       refine qP hE (Gives.p hE rfl) rfl ?_; clear hE a; intro a hE
       refine qP hE (Gives.p hE rfl) rfl ?_; clear hE a; intro a hE
       obtain ⟨x279, hx280, hq259⟩ := bindS hq259
       obtain ⟨hi281, hlt282, hy283⟩ := gx_some hx280
       obtain ⟨vs284, hl285, hR286, hd287, hget288⟩ := h_v0.at hy283
       subst hR286
       refine qP hE (Gives.idx hE ((w64 (Int.fdiv (IntKind.wrap .u64 (w64 (q265 + q266))) (2 ^ (min (Int.toNat 1) (IntKind.bits .u64))))).toNat) rfl rfl sl45 hi281 (by omega) (hS.vecAok 4 rfl (by omega : (w64 (Int.fdiv (IntKind.wrap .u64 (w64 (q265 + q266))) (2 ^ (min (Int.toNat 1) (IntKind.bits .u64))))).toNat < x0.length))) rfl ?_; clear hE a; intro a hE
       refine qP hE (Gives.load1 hE rfl (fun w h => St.vecSees h 4 rfl ((w64 (Int.fdiv (IntKind.wrap .u64 (w64 (q265 + q266))) (2 ^ (min (Int.toNat 1) (IntKind.bits .u64))))).toNat * 1) _ hget288) ty3) rfl ?_; clear hE a; intro a hE
       obtain ⟨q289, hq290, hq259⟩ := bindS hq259
       refine QL.fnw hE (fun w hS => (FareCarchoose_1_v1_ok (y3 := y3) (St.front (St.front (St.front (St.front (St.front (St.front hS 6 rfl) 6 rfl) 5 rfl) 5 rfl) 5 rfl) 5 rfl) h_v1 (rfl) h_v2 (rfl) hq290).mono fun _ _ ⟨he, hq⟩ => ⟨he, (St.unfront 6 rfl (St.unfront 6 rfl (St.unfront 5 rfl (St.unfront 5 rfl (St.unfront 5 rfl (St.unfront 5 rfl hq))))))⟩) rfl (runs_plain rfl) bd124 rfl rfl rfl ?_; clear hE a; intro a hE
       refine qP hE (Gives.p hE rfl) rfl ?_; clear hE a; intro a hE
       refine qP hE (Gives.p hE rfl) rfl ?_; clear hE a; intro a hE
       refine QL.nil ?_; clear hS w; intro w hS
       obtain ⟨q292, hq291, hq259⟩ := bndS hq259
       refine W.cut (fun a w => ∃ (q295 : Int), ∃ (q296 : Int), (q295, q296) = q292 ∧ Rep a 220 [(0, .slice a_v0 x0.length c_v0), (1, .int .i64 x1), (2, .int .i64 x2), (3, .int .i64 x3), (4, .func (.func 124) #[] #[.pointer (some ⟨pb0, 0, none⟩), .pointer (some ⟨pb1, 0, none⟩), .pointer (some ⟨pb2, 0, none⟩)]), (18, .int .i64 (w64 (Int.fdiv (IntKind.wrap .u64 (w64 (x1 + x3))) (2 ^ (min (Int.toNat 1) (IntKind.bits .u64)))))), (19, .int .i64 (w64 ((w64 (Int.fdiv (IntKind.wrap .u64 (w64 (x1 + x3))) (2 ^ (min (Int.toNat 1) (IntKind.bits .u64))))) + x2))), (20, .int .i64 q295), (21, .int .i64 q296), (22, .int .i64 (w64 ((w64 ((w64 (Int.fdiv (IntKind.wrap .u64 (w64 (x1 + x3))) (2 ^ (min (Int.toNat 1) (IntKind.bits .u64))))) + x2)) - 1)))] ∧ St w s (pt pb0 (.cells #[.pointer (some ⟨pb3, 0, none⟩)] 76 (0, 0)) :: pt pb1 (.cells #[.int .i64 y1] 3 (0, 0)) :: pt pb2 (.cells #[.int .i64 y2] 3 (0, 0)) :: pt pb3 (.cells #[.int .i64 y3.rows, .int .i64 y3.across, .int .i64 y3.stops, .slice a_v1 y3.bookings.length c_v1, .slice a_v2 y3.cancelled.length c_v2] 148 (0, 0)) :: vecC 3 1 a_v0 c_v0 x0.length cs_v0 :: vecC 80 4 a_v1 c_v1 y3.bookings.length cs_v1 :: vecC 4 1 a_v2 c_v2 y3.cancelled.length cs_v2 :: R)) ?_ ?_
       ·refine W.gen fun K297 hK297 => ?_
        refine W.cond hE rfl (fun hc298 => ?_) (fun hc298 => ?_)
        ·replace hq291 := iteT hc298 hq291
         refine W.region ?_
         refine vP hS hE (Gives.p hE rfl) rfl ?_; clear hE a; intro a hE
         refine vP hS hE (Gives.p hE rfl) rfl ?_; clear hE a; intro a hE
         refine vP hS hE (Gives.p hE rfl) rfl ?_; clear hE a; intro a hE
         refine WL.nil ?_
         subst hK297
         exact ⟨w64 ((w64 (Int.fdiv (IntKind.wrap .u64 (w64 (q265 + q266))) (2 ^ (min (Int.toNat 1) (IntKind.bits .u64))))) + 1), q266, hq291, hE.pick _ ⟨rfl, rfl, rfl, rfl, rfl, rfl, rfl, rfl, rfl, rfl, trivial⟩, hS⟩
        ·replace hq291 := iteF hc298 hq291
         refine W.region ?_
         refine vP hS hE (Gives.p hE rfl) rfl ?_; clear hE a; intro a hE
         refine vP hS hE (Gives.p hE rfl) rfl ?_; clear hE a; intro a hE
         refine WL.nil ?_
         subst hK297
         exact ⟨q265, w64 (Int.fdiv (IntKind.wrap .u64 (w64 (q265 + q266))) (2 ^ (min (Int.toNat 1) (IntKind.bits .u64)))), hq291, hE.pick _ ⟨rfl, rfl, rfl, rfl, rfl, rfl, rfl, rfl, rfl, rfl, trivial⟩, hS⟩
       ·clear hE hS a w; rintro a w ⟨q295, q296, rfl, hE, hS⟩
        dsimp only at hq259
        subst hK267
        exact ⟨n261, Nat.lt_succ_self _, n261, q295, q296, rfl, hq259, hE.pick _ ⟨rfl, rfl, rfl, rfl, rfl, rfl, rfl, rfl, rfl, rfl, trivial⟩, hS⟩
      ·replace hq259 := iteF hc268 hq259
       subst hK267
       refine W.exit rfl ?_
       exact ⟨q265, q266, Option.some.inj hq259, hE.pick _ ⟨rfl, rfl, rfl, rfl, rfl, rfl, rfl, rfl, trivial⟩, hS⟩
     ·clear hE hS a w; rintro a w ⟨q265, q266, rfl, hE, hS⟩
      dsimp only at hr
      refine W.seq (W.region ?_)
      refine vP hS hE (Gives.p hE rfl) rfl ?_; clear hE a; intro a hE
      refine vP hS hE (Gives.p hE rfl) rfl ?_; clear hE a; intro a hE
      refine vP hS hE (Gives.p hE rfl) rfl ?_; clear hE a; intro a hE
      refine vP hS hE (Gives.p hE rfl) rfl ?_; clear hE a; intro a hE
      refine WL.nil ?_
      refine W.seq ?_
      refine W.seq ?_
      obtain ⟨q300, hq299, hr⟩ := bndS hr
      refine W.cut (fun a w => ∃ (q303 : Bool), q303 = q300 ∧ Rep a 220 [(0, .slice a_v0 x0.length c_v0), (1, .int .i64 x1), (2, .int .i64 x2), (3, .int .i64 x3), (4, .func (.func 124) #[] #[.pointer (some ⟨pb0, 0, none⟩), .pointer (some ⟨pb1, 0, none⟩), .pointer (some ⟨pb2, 0, none⟩)]), (18, .int .i64 (w64 (Int.fdiv (IntKind.wrap .u64 (w64 (x1 + x3))) (2 ^ (min (Int.toNat 1) (IntKind.bits .u64)))))), (20, .int .i64 q265), (24, .int .i64 (w64 ((w64 ((w64 (Int.fdiv (IntKind.wrap .u64 (w64 (x1 + x3))) (2 ^ (min (Int.toNat 1) (IntKind.bits .u64))))) + x2)) - q265))), (185, .bool q303)] ∧ St w s (pt pb0 (.cells #[.pointer (some ⟨pb3, 0, none⟩)] 76 (0, 0)) :: pt pb1 (.cells #[.int .i64 y1] 3 (0, 0)) :: pt pb2 (.cells #[.int .i64 y2] 3 (0, 0)) :: pt pb3 (.cells #[.int .i64 y3.rows, .int .i64 y3.across, .int .i64 y3.stops, .slice a_v1 y3.bookings.length c_v1, .slice a_v2 y3.cancelled.length c_v2] 148 (0, 0)) :: vecC 3 1 a_v0 c_v0 x0.length cs_v0 :: vecC 80 4 a_v1 c_v1 y3.bookings.length cs_v1 :: vecC 4 1 a_v2 c_v2 y3.cancelled.length cs_v2 :: R)) ?_ ?_
      ·refine W.gen fun K304 hK304 => ?_
       refine W.region ?_
       refine vP hS hE (Gives.p hE rfl) rfl ?_; clear hE a; intro a hE
       refine vP hS hE (Gives.p hE rfl) rfl ?_; clear hE a; intro a hE
       refine vP hS hE (Gives.p hE rfl) rfl ?_; clear hE a; intro a hE
       refine vP hS hE (Gives.p hE rfl) rfl ?_; clear hE a; intro a hE
       rcases Bool.eq_false_or_eq_true (decide (q265 < x2)) with hg305 | hg305
       ·replace hq299 := iteT hg305 hq299
        refine WL.vS hS hE (runs_if hE rfl rfl rfl hg305) (Gives.p hE rfl) rfl ?_; clear hE a; intro a hE
        refine WL.vS hS hE (runs_if hE rfl rfl rfl hg305) (Gives.p hE rfl) rfl ?_; clear hE a; intro a hE
        refine WL.vS hS hE (runs_if hE rfl rfl rfl hg305) (Gives.p hE rfl) rfl ?_; clear hE a; intro a hE
        refine vP hS hE (Gives.pickT hE rfl hg305 rfl) rfl ?_; clear hE a; intro a hE
        refine WL.nil ?_
        subst hK304
        exact ⟨decide (x2 < (w64 ((w64 ((w64 (Int.fdiv (IntKind.wrap .u64 (w64 (x1 + x3))) (2 ^ (min (Int.toNat 1) (IntKind.bits .u64))))) + x2)) - q265))), hq299, hE.pick _ ⟨rfl, rfl, rfl, rfl, rfl, rfl, rfl, rfl, rfl, trivial⟩, hS⟩
       ·replace hq299 := iteF hg305 hq299
        refine WL.no hE (runs_not hE rfl rfl rfl (by rw [hg305]; decide)) rfl ?_; clear hE a; intro a hE
        refine WL.no hE (runs_not hE rfl rfl rfl (by rw [hg305]; decide)) rfl ?_; clear hE a; intro a hE
        refine WL.no hE (runs_not hE rfl rfl rfl (by rw [hg305]; decide)) rfl ?_; clear hE a; intro a hE
        refine vP hS hE (Gives.pickF hE rfl hg305 rfl) rfl ?_; clear hE a; intro a hE
        refine WL.nil ?_
        subst hK304
        exact ⟨false, hq299, hE.pick _ ⟨rfl, rfl, rfl, rfl, rfl, rfl, rfl, rfl, rfl, trivial⟩, hS⟩
      ·clear hE hS a w; rintro a w ⟨q303, rfl, hE, hS⟩
       refine W.cond hE rfl (fun hc306 => ?_) (fun hc306 => ?_)
       ·replace hr := iteT hc306 hr
        refine W.region ?_
        refine vP hS hE (Gives.p hE rfl) rfl ?_; clear hE a; intro a hE
        refine vP hS hE (Gives.p hE rfl) rfl ?_; clear hE a; intro a hE
        refine vP hS hE (Gives.p hE rfl) rfl ?_; clear hE a; intro a hE
        refine vP hS hE (Gives.p hE rfl) rfl ?_; clear hE a; intro a hE
        refine vP hS hE (Gives.p hE rfl) rfl ?_; clear hE a; intro a hE
        obtain ⟨q307, hq308, hr⟩ := bindS hr
        have hc_ := SlicesrotateCmpFuncint_v1_ok (y3 := y3) hS h_v0 (rfl) h_v1 (rfl) h_v2 (rfl) hq308
        refine WL.fnq hE (hc_) (runs_plain rfl) bd168 rfl rfl rfl ?_
        clear hE hS hc_; rintro e w ⟨cs309, rfl, h310, hn311, hS⟩; refine ⟨_, rfl, ?_⟩; clear a; intro a hE
        refine WL.nil ?_
        refine W.seq ?_
        refine W.seq ?_
        obtain ⟨q313, hq312, hr⟩ := bndS hr
        refine W.cut (fun a w => ∃ (q316 : Bool), q316 = q313 ∧ Rep a 220 [(0, .slice a_v0 x0.length c_v0), (1, .int .i64 x1), (3, .int .i64 x3), (4, .func (.func 124) #[] #[.pointer (some ⟨pb0, 0, none⟩), .pointer (some ⟨pb1, 0, none⟩), .pointer (some ⟨pb2, 0, none⟩)]), (18, .int .i64 (w64 (Int.fdiv (IntKind.wrap .u64 (w64 (x1 + x3))) (2 ^ (min (Int.toNat 1) (IntKind.bits .u64)))))), (20, .int .i64 q265), (24, .int .i64 (w64 ((w64 ((w64 (Int.fdiv (IntKind.wrap .u64 (w64 (x1 + x3))) (2 ^ (min (Int.toNat 1) (IntKind.bits .u64))))) + x2)) - q265))), (199, .bool q316)] ∧ St w s (pt pb0 (.cells #[.pointer (some ⟨pb3, 0, none⟩)] 76 (0, 0)) :: pt pb1 (.cells #[.int .i64 y1] 3 (0, 0)) :: pt pb2 (.cells #[.int .i64 y2] 3 (0, 0)) :: pt pb3 (.cells #[.int .i64 y3.rows, .int .i64 y3.across, .int .i64 y3.stops, .slice a_v1 y3.bookings.length c_v1, .slice a_v2 y3.cancelled.length c_v2] 148 (0, 0)) :: vecC 3 1 a_v0 c_v0 x0.length cs309 :: vecC 80 4 a_v1 c_v1 y3.bookings.length cs_v1 :: vecC 4 1 a_v2 c_v2 y3.cancelled.length cs_v2 :: R)) ?_ ?_
        ·refine W.gen fun K317 hK317 => ?_
         refine W.region ?_
         refine vP hS hE (Gives.p hE rfl) rfl ?_; clear hE a; intro a hE
         refine vP hS hE (Gives.p hE rfl) rfl ?_; clear hE a; intro a hE
         refine vP hS hE (Gives.p hE rfl) rfl ?_; clear hE a; intro a hE
         refine vP hS hE (Gives.p hE rfl) rfl ?_; clear hE a; intro a hE
         rcases Bool.eq_false_or_eq_true (decide (x1 < q265)) with hg318 | hg318
         ·replace hq312 := iteT hg318 hq312
          refine WL.vS hS hE (runs_if hE rfl rfl rfl hg318) (Gives.p hE rfl) rfl ?_; clear hE a; intro a hE
          refine WL.vS hS hE (runs_if hE rfl rfl rfl hg318) (Gives.p hE rfl) rfl ?_; clear hE a; intro a hE
          refine WL.vS hS hE (runs_if hE rfl rfl rfl hg318) (Gives.p hE rfl) rfl ?_; clear hE a; intro a hE
          refine vP hS hE (Gives.pickT hE rfl hg318 rfl) rfl ?_; clear hE a; intro a hE
          refine WL.nil ?_
          subst hK317
          exact ⟨decide (q265 < (w64 (Int.fdiv (IntKind.wrap .u64 (w64 (x1 + x3))) (2 ^ (min (Int.toNat 1) (IntKind.bits .u64)))))), hq312, hE.pick _ ⟨rfl, rfl, rfl, rfl, rfl, rfl, rfl, rfl, trivial⟩, hS⟩
         ·replace hq312 := iteF hg318 hq312
          refine WL.no hE (runs_not hE rfl rfl rfl (by rw [hg318]; decide)) rfl ?_; clear hE a; intro a hE
          refine WL.no hE (runs_not hE rfl rfl rfl (by rw [hg318]; decide)) rfl ?_; clear hE a; intro a hE
          refine WL.no hE (runs_not hE rfl rfl rfl (by rw [hg318]; decide)) rfl ?_; clear hE a; intro a hE
          refine vP hS hE (Gives.pickF hE rfl hg318 rfl) rfl ?_; clear hE a; intro a hE
          refine WL.nil ?_
          subst hK317
          exact ⟨false, hq312, hE.pick _ ⟨rfl, rfl, rfl, rfl, rfl, rfl, rfl, rfl, trivial⟩, hS⟩
        ·clear hE hS a w; rintro a w ⟨q316, rfl, hE, hS⟩
         refine W.cond hE rfl (fun hc319 => ?_) (fun hc319 => ?_)
         ·replace hr := iteT hc319 hr
          refine W.region ?_
          refine vP hS hE (Gives.p hE rfl) rfl ?_; clear hE a; intro a hE
          refine vP hS hE (Gives.p hE rfl) rfl ?_; clear hE a; intro a hE
          refine vP hS hE (Gives.p hE rfl) rfl ?_; clear hE a; intro a hE
          refine vP hS hE (Gives.p hE rfl) rfl ?_; clear hE a; intro a hE
          refine vP hS hE (Gives.p hE rfl) rfl ?_; clear hE a; intro a hE
          obtain ⟨q320, hq321, hr⟩ := bindS hr
          have hc_ := ih_SlicessymMergeCmpFuncint_v1 (y3 := y3) hS h310 hn311 h_v1 (rfl) h_v2 (rfl) hq321
          refine WL.fnq hE (hc_) (runs_plain rfl) bd164 rfl rfl rfl ?_
          clear hE hS hc_; rintro e w ⟨cs322, rfl, h323, hn324, hS⟩; refine ⟨_, rfl, ?_⟩; clear a; intro a hE
          refine WL.nil ?_
          refine W.seq ?_
          obtain ⟨q326, hq325, hr⟩ := bndS hr
          refine W.cut (fun a w => ∃ (q329 : Bool), q329 = q326 ∧ Rep a 220 [(0, .slice a_v0 x0.length c_v0), (3, .int .i64 x3), (4, .func (.func 124) #[] #[.pointer (some ⟨pb0, 0, none⟩), .pointer (some ⟨pb1, 0, none⟩), .pointer (some ⟨pb2, 0, none⟩)]), (18, .int .i64 (w64 (Int.fdiv (IntKind.wrap .u64 (w64 (x1 + x3))) (2 ^ (min (Int.toNat 1) (IntKind.bits .u64)))))), (24, .int .i64 (w64 ((w64 ((w64 (Int.fdiv (IntKind.wrap .u64 (w64 (x1 + x3))) (2 ^ (min (Int.toNat 1) (IntKind.bits .u64))))) + x2)) - q265))), (213, .bool q329)] ∧ St w s (pt pb0 (.cells #[.pointer (some ⟨pb3, 0, none⟩)] 76 (0, 0)) :: pt pb1 (.cells #[.int .i64 y1] 3 (0, 0)) :: pt pb2 (.cells #[.int .i64 y2] 3 (0, 0)) :: pt pb3 (.cells #[.int .i64 y3.rows, .int .i64 y3.across, .int .i64 y3.stops, .slice a_v1 y3.bookings.length c_v1, .slice a_v2 y3.cancelled.length c_v2] 148 (0, 0)) :: vecC 3 1 a_v0 c_v0 x0.length cs322 :: vecC 80 4 a_v1 c_v1 y3.bookings.length cs_v1 :: vecC 4 1 a_v2 c_v2 y3.cancelled.length cs_v2 :: R)) ?_ ?_
          ·refine W.gen fun K330 hK330 => ?_
           refine W.region ?_
           refine vP hS hE (Gives.p hE rfl) rfl ?_; clear hE a; intro a hE
           refine vP hS hE (Gives.p hE rfl) rfl ?_; clear hE a; intro a hE
           refine vP hS hE (Gives.p hE rfl) rfl ?_; clear hE a; intro a hE
           refine vP hS hE (Gives.p hE rfl) rfl ?_; clear hE a; intro a hE
           rcases Bool.eq_false_or_eq_true (decide ((w64 (Int.fdiv (IntKind.wrap .u64 (w64 (x1 + x3))) (2 ^ (min (Int.toNat 1) (IntKind.bits .u64))))) < (w64 ((w64 ((w64 (Int.fdiv (IntKind.wrap .u64 (w64 (x1 + x3))) (2 ^ (min (Int.toNat 1) (IntKind.bits .u64))))) + x2)) - q265)))) with hg331 | hg331
           ·replace hq325 := iteT hg331 hq325
            refine WL.vS hS hE (runs_if hE rfl rfl rfl hg331) (Gives.p hE rfl) rfl ?_; clear hE a; intro a hE
            refine WL.vS hS hE (runs_if hE rfl rfl rfl hg331) (Gives.p hE rfl) rfl ?_; clear hE a; intro a hE
            refine WL.vS hS hE (runs_if hE rfl rfl rfl hg331) (Gives.p hE rfl) rfl ?_; clear hE a; intro a hE
            refine vP hS hE (Gives.pickT hE rfl hg331 rfl) rfl ?_; clear hE a; intro a hE
            refine WL.nil ?_
            subst hK330
            exact ⟨decide ((w64 ((w64 ((w64 (Int.fdiv (IntKind.wrap .u64 (w64 (x1 + x3))) (2 ^ (min (Int.toNat 1) (IntKind.bits .u64))))) + x2)) - q265)) < x3), hq325, hE.pick _ ⟨rfl, rfl, rfl, rfl, rfl, rfl, trivial⟩, hS⟩
           ·replace hq325 := iteF hg331 hq325
            refine WL.no hE (runs_not hE rfl rfl rfl (by rw [hg331]; decide)) rfl ?_; clear hE a; intro a hE
            refine WL.no hE (runs_not hE rfl rfl rfl (by rw [hg331]; decide)) rfl ?_; clear hE a; intro a hE
            refine WL.no hE (runs_not hE rfl rfl rfl (by rw [hg331]; decide)) rfl ?_; clear hE a; intro a hE
            refine vP hS hE (Gives.pickF hE rfl hg331 rfl) rfl ?_; clear hE a; intro a hE
            refine WL.nil ?_
            subst hK330
            exact ⟨false, hq325, hE.pick _ ⟨rfl, rfl, rfl, rfl, rfl, rfl, trivial⟩, hS⟩
          ·clear hE hS a w; rintro a w ⟨q329, rfl, hE, hS⟩
           refine W.cond hE rfl (fun hc332 => ?_) (fun hc332 => ?_)
           ·replace hr := iteT hc332 hr
            refine W.region ?_
            refine vP hS hE (Gives.p hE rfl) rfl ?_; clear hE a; intro a hE
            refine vP hS hE (Gives.p hE rfl) rfl ?_; clear hE a; intro a hE
            refine vP hS hE (Gives.p hE rfl) rfl ?_; clear hE a; intro a hE
            refine vP hS hE (Gives.p hE rfl) rfl ?_; clear hE a; intro a hE
            refine vP hS hE (Gives.p hE rfl) rfl ?_; clear hE a; intro a hE
            obtain ⟨q333, hq334, hr⟩ := bindS hr
            have hc_ := ih_SlicessymMergeCmpFuncint_v1 (y3 := y3) hS h323 hn324 h_v1 (rfl) h_v2 (rfl) hq334
            refine WL.fnq hE (hc_) (runs_plain rfl) bd164 rfl rfl rfl ?_
            clear hE hS hc_; rintro e w ⟨cs335, rfl, h336, hn337, hS⟩; refine ⟨_, rfl, ?_⟩; clear a; intro a hE
            refine WL.nil ?_
            refine finG (fn := Tryd.f164) (rs := []) (vs := []) hE rfl trivial ?_
            obtain rfl := Option.some.inj hr
            exact ⟨cs335, rfl, h336, hn337, hS⟩
           ·replace hr := iteF hc332 hr
            refine W.skip ?_
            refine finG (fn := Tryd.f164) (rs := []) (vs := []) hE rfl trivial ?_
            obtain rfl := Option.some.inj hr
            exact ⟨cs322, rfl, h323, hn324, hS⟩
         ·replace hr := iteF hc319 hr
          refine W.skip ?_
          refine W.seq ?_
          obtain ⟨q339, hq338, hr⟩ := bndS hr
          refine W.cut (fun a w => ∃ (q342 : Bool), q342 = q339 ∧ Rep a 220 [(0, .slice a_v0 x0.length c_v0), (3, .int .i64 x3), (4, .func (.func 124) #[] #[.pointer (some ⟨pb0, 0, none⟩), .pointer (some ⟨pb1, 0, none⟩), .pointer (some ⟨pb2, 0, none⟩)]), (18, .int .i64 (w64 (Int.fdiv (IntKind.wrap .u64 (w64 (x1 + x3))) (2 ^ (min (Int.toNat 1) (IntKind.bits .u64)))))), (24, .int .i64 (w64 ((w64 ((w64 (Int.fdiv (IntKind.wrap .u64 (w64 (x1 + x3))) (2 ^ (min (Int.toNat 1) (IntKind.bits .u64))))) + x2)) - q265))), (213, .bool q342)] ∧ St w s (pt pb0 (.cells #[.pointer (some ⟨pb3, 0, none⟩)] 76 (0, 0)) :: pt pb1 (.cells #[.int .i64 y1] 3 (0, 0)) :: pt pb2 (.cells #[.int .i64 y2] 3 (0, 0)) :: pt pb3 (.cells #[.int .i64 y3.rows, .int .i64 y3.across, .int .i64 y3.stops, .slice a_v1 y3.bookings.length c_v1, .slice a_v2 y3.cancelled.length c_v2] 148 (0, 0)) :: vecC 3 1 a_v0 c_v0 x0.length cs309 :: vecC 80 4 a_v1 c_v1 y3.bookings.length cs_v1 :: vecC 4 1 a_v2 c_v2 y3.cancelled.length cs_v2 :: R)) ?_ ?_
          ·refine W.gen fun K343 hK343 => ?_
           refine W.region ?_
           refine vP hS hE (Gives.p hE rfl) rfl ?_; clear hE a; intro a hE
           refine vP hS hE (Gives.p hE rfl) rfl ?_; clear hE a; intro a hE
           refine vP hS hE (Gives.p hE rfl) rfl ?_; clear hE a; intro a hE
           refine vP hS hE (Gives.p hE rfl) rfl ?_; clear hE a; intro a hE
           rcases Bool.eq_false_or_eq_true (decide ((w64 (Int.fdiv (IntKind.wrap .u64 (w64 (x1 + x3))) (2 ^ (min (Int.toNat 1) (IntKind.bits .u64))))) < (w64 ((w64 ((w64 (Int.fdiv (IntKind.wrap .u64 (w64 (x1 + x3))) (2 ^ (min (Int.toNat 1) (IntKind.bits .u64))))) + x2)) - q265)))) with hg344 | hg344
           ·replace hq338 := iteT hg344 hq338
            refine WL.vS hS hE (runs_if hE rfl rfl rfl hg344) (Gives.p hE rfl) rfl ?_; clear hE a; intro a hE
            refine WL.vS hS hE (runs_if hE rfl rfl rfl hg344) (Gives.p hE rfl) rfl ?_; clear hE a; intro a hE
            refine WL.vS hS hE (runs_if hE rfl rfl rfl hg344) (Gives.p hE rfl) rfl ?_; clear hE a; intro a hE
            refine vP hS hE (Gives.pickT hE rfl hg344 rfl) rfl ?_; clear hE a; intro a hE
            refine WL.nil ?_
            subst hK343
            exact ⟨decide ((w64 ((w64 ((w64 (Int.fdiv (IntKind.wrap .u64 (w64 (x1 + x3))) (2 ^ (min (Int.toNat 1) (IntKind.bits .u64))))) + x2)) - q265)) < x3), hq338, hE.pick _ ⟨rfl, rfl, rfl, rfl, rfl, rfl, trivial⟩, hS⟩
           ·replace hq338 := iteF hg344 hq338
            refine WL.no hE (runs_not hE rfl rfl rfl (by rw [hg344]; decide)) rfl ?_; clear hE a; intro a hE
            refine WL.no hE (runs_not hE rfl rfl rfl (by rw [hg344]; decide)) rfl ?_; clear hE a; intro a hE
            refine WL.no hE (runs_not hE rfl rfl rfl (by rw [hg344]; decide)) rfl ?_; clear hE a; intro a hE
            refine vP hS hE (Gives.pickF hE rfl hg344 rfl) rfl ?_; clear hE a; intro a hE
            refine WL.nil ?_
            subst hK343
            exact ⟨false, hq338, hE.pick _ ⟨rfl, rfl, rfl, rfl, rfl, rfl, trivial⟩, hS⟩
          ·clear hE hS a w; rintro a w ⟨q342, rfl, hE, hS⟩
           refine W.cond hE rfl (fun hc345 => ?_) (fun hc345 => ?_)
           ·replace hr := iteT hc345 hr
            refine W.region ?_
            refine vP hS hE (Gives.p hE rfl) rfl ?_; clear hE a; intro a hE
            refine vP hS hE (Gives.p hE rfl) rfl ?_; clear hE a; intro a hE
            refine vP hS hE (Gives.p hE rfl) rfl ?_; clear hE a; intro a hE
            refine vP hS hE (Gives.p hE rfl) rfl ?_; clear hE a; intro a hE
            refine vP hS hE (Gives.p hE rfl) rfl ?_; clear hE a; intro a hE
            obtain ⟨q346, hq347, hr⟩ := bindS hr
            have hc_ := ih_SlicessymMergeCmpFuncint_v1 (y3 := y3) hS h310 hn311 h_v1 (rfl) h_v2 (rfl) hq347
            refine WL.fnq hE (hc_) (runs_plain rfl) bd164 rfl rfl rfl ?_
            clear hE hS hc_; rintro e w ⟨cs348, rfl, h349, hn350, hS⟩; refine ⟨_, rfl, ?_⟩; clear a; intro a hE
            refine WL.nil ?_
            refine finG (fn := Tryd.f164) (rs := []) (vs := []) hE rfl trivial ?_
            obtain rfl := Option.some.inj hr
            exact ⟨cs348, rfl, h349, hn350, hS⟩
           ·replace hr := iteF hc345 hr
            refine W.skip ?_
            refine finG (fn := Tryd.f164) (rs := []) (vs := []) hE rfl trivial ?_
            obtain rfl := Option.some.inj hr
            exact ⟨cs309, rfl, h310, hn311, hS⟩
       ·replace hr := iteF hc306 hr
        refine W.skip ?_
        refine W.seq ?_
        refine W.seq ?_
        obtain ⟨q352, hq351, hr⟩ := bndS hr
        refine W.cut (fun a w => ∃ (q355 : Bool), q355 = q352 ∧ Rep a 220 [(0, .slice a_v0 x0.length c_v0), (1, .int .i64 x1), (3, .int .i64 x3), (4, .func (.func 124) #[] #[.pointer (some ⟨pb0, 0, none⟩), .pointer (some ⟨pb1, 0, none⟩), .pointer (some ⟨pb2, 0, none⟩)]), (18, .int .i64 (w64 (Int.fdiv (IntKind.wrap .u64 (w64 (x1 + x3))) (2 ^ (min (Int.toNat 1) (IntKind.bits .u64)))))), (20, .int .i64 q265), (24, .int .i64 (w64 ((w64 ((w64 (Int.fdiv (IntKind.wrap .u64 (w64 (x1 + x3))) (2 ^ (min (Int.toNat 1) (IntKind.bits .u64))))) + x2)) - q265))), (199, .bool q355)] ∧ St w s (pt pb0 (.cells #[.pointer (some ⟨pb3, 0, none⟩)] 76 (0, 0)) :: pt pb1 (.cells #[.int .i64 y1] 3 (0, 0)) :: pt pb2 (.cells #[.int .i64 y2] 3 (0, 0)) :: pt pb3 (.cells #[.int .i64 y3.rows, .int .i64 y3.across, .int .i64 y3.stops, .slice a_v1 y3.bookings.length c_v1, .slice a_v2 y3.cancelled.length c_v2] 148 (0, 0)) :: vecC 3 1 a_v0 c_v0 x0.length cs_v0 :: vecC 80 4 a_v1 c_v1 y3.bookings.length cs_v1 :: vecC 4 1 a_v2 c_v2 y3.cancelled.length cs_v2 :: R)) ?_ ?_
        ·refine W.gen fun K356 hK356 => ?_
         refine W.region ?_
         refine vP hS hE (Gives.p hE rfl) rfl ?_; clear hE a; intro a hE
         refine vP hS hE (Gives.p hE rfl) rfl ?_; clear hE a; intro a hE
         refine vP hS hE (Gives.p hE rfl) rfl ?_; clear hE a; intro a hE
         refine vP hS hE (Gives.p hE rfl) rfl ?_; clear hE a; intro a hE
         rcases Bool.eq_false_or_eq_true (decide (x1 < q265)) with hg357 | hg357
         ·replace hq351 := iteT hg357 hq351
          refine WL.vS hS hE (runs_if hE rfl rfl rfl hg357) (Gives.p hE rfl) rfl ?_; clear hE a; intro a hE
          refine WL.vS hS hE (runs_if hE rfl rfl rfl hg357) (Gives.p hE rfl) rfl ?_; clear hE a; intro a hE
          refine WL.vS hS hE (runs_if hE rfl rfl rfl hg357) (Gives.p hE rfl) rfl ?_; clear hE a; intro a hE
          refine vP hS hE (Gives.pickT hE rfl hg357 rfl) rfl ?_; clear hE a; intro a hE
          refine WL.nil ?_
          subst hK356
          exact ⟨decide (q265 < (w64 (Int.fdiv (IntKind.wrap .u64 (w64 (x1 + x3))) (2 ^ (min (Int.toNat 1) (IntKind.bits .u64)))))), hq351, hE.pick _ ⟨rfl, rfl, rfl, rfl, rfl, rfl, rfl, rfl, trivial⟩, hS⟩
         ·replace hq351 := iteF hg357 hq351
          refine WL.no hE (runs_not hE rfl rfl rfl (by rw [hg357]; decide)) rfl ?_; clear hE a; intro a hE
          refine WL.no hE (runs_not hE rfl rfl rfl (by rw [hg357]; decide)) rfl ?_; clear hE a; intro a hE
          refine WL.no hE (runs_not hE rfl rfl rfl (by rw [hg357]; decide)) rfl ?_; clear hE a; intro a hE
          refine vP hS hE (Gives.pickF hE rfl hg357 rfl) rfl ?_; clear hE a; intro a hE
          refine WL.nil ?_
          subst hK356
          exact ⟨false, hq351, hE.pick _ ⟨rfl, rfl, rfl, rfl, rfl, rfl, rfl, rfl, trivial⟩, hS⟩
        ·clear hE hS a w; rintro a w ⟨q355, rfl, hE, hS⟩
         refine W.cond hE rfl (fun hc358 => ?_) (fun hc358 => ?_)
         ·replace hr := iteT hc358 hr
          refine W.region ?_
          refine vP hS hE (Gives.p hE rfl) rfl ?_; clear hE a; intro a hE
          refine vP hS hE (Gives.p hE rfl) rfl ?_; clear hE a; intro a hE
          refine vP hS hE (Gives.p hE rfl) rfl ?_; clear hE a; intro a hE
          refine vP hS hE (Gives.p hE rfl) rfl ?_; clear hE a; intro a hE
          refine vP hS hE (Gives.p hE rfl) rfl ?_; clear hE a; intro a hE
          obtain ⟨q359, hq360, hr⟩ := bindS hr
          have hc_ := ih_SlicessymMergeCmpFuncint_v1 (y3 := y3) hS h_v0 (rfl) h_v1 (rfl) h_v2 (rfl) hq360
          refine WL.fnq hE (hc_) (runs_plain rfl) bd164 rfl rfl rfl ?_
          clear hE hS hc_; rintro e w ⟨cs361, rfl, h362, hn363, hS⟩; refine ⟨_, rfl, ?_⟩; clear a; intro a hE
          refine WL.nil ?_
          refine W.seq ?_
          obtain ⟨q365, hq364, hr⟩ := bndS hr
          refine W.cut (fun a w => ∃ (q368 : Bool), q368 = q365 ∧ Rep a 220 [(0, .slice a_v0 x0.length c_v0), (3, .int .i64 x3), (4, .func (.func 124) #[] #[.pointer (some ⟨pb0, 0, none⟩), .pointer (some ⟨pb1, 0, none⟩), .pointer (some ⟨pb2, 0, none⟩)]), (18, .int .i64 (w64 (Int.fdiv (IntKind.wrap .u64 (w64 (x1 + x3))) (2 ^ (min (Int.toNat 1) (IntKind.bits .u64)))))), (24, .int .i64 (w64 ((w64 ((w64 (Int.fdiv (IntKind.wrap .u64 (w64 (x1 + x3))) (2 ^ (min (Int.toNat 1) (IntKind.bits .u64))))) + x2)) - q265))), (213, .bool q368)] ∧ St w s (pt pb0 (.cells #[.pointer (some ⟨pb3, 0, none⟩)] 76 (0, 0)) :: pt pb1 (.cells #[.int .i64 y1] 3 (0, 0)) :: pt pb2 (.cells #[.int .i64 y2] 3 (0, 0)) :: pt pb3 (.cells #[.int .i64 y3.rows, .int .i64 y3.across, .int .i64 y3.stops, .slice a_v1 y3.bookings.length c_v1, .slice a_v2 y3.cancelled.length c_v2] 148 (0, 0)) :: vecC 3 1 a_v0 c_v0 x0.length cs361 :: vecC 80 4 a_v1 c_v1 y3.bookings.length cs_v1 :: vecC 4 1 a_v2 c_v2 y3.cancelled.length cs_v2 :: R)) ?_ ?_
          ·refine W.gen fun K369 hK369 => ?_
           refine W.region ?_
           refine vP hS hE (Gives.p hE rfl) rfl ?_; clear hE a; intro a hE
           refine vP hS hE (Gives.p hE rfl) rfl ?_; clear hE a; intro a hE
           refine vP hS hE (Gives.p hE rfl) rfl ?_; clear hE a; intro a hE
           refine vP hS hE (Gives.p hE rfl) rfl ?_; clear hE a; intro a hE
           rcases Bool.eq_false_or_eq_true (decide ((w64 (Int.fdiv (IntKind.wrap .u64 (w64 (x1 + x3))) (2 ^ (min (Int.toNat 1) (IntKind.bits .u64))))) < (w64 ((w64 ((w64 (Int.fdiv (IntKind.wrap .u64 (w64 (x1 + x3))) (2 ^ (min (Int.toNat 1) (IntKind.bits .u64))))) + x2)) - q265)))) with hg370 | hg370
           ·replace hq364 := iteT hg370 hq364
            refine WL.vS hS hE (runs_if hE rfl rfl rfl hg370) (Gives.p hE rfl) rfl ?_; clear hE a; intro a hE
            refine WL.vS hS hE (runs_if hE rfl rfl rfl hg370) (Gives.p hE rfl) rfl ?_; clear hE a; intro a hE
            refine WL.vS hS hE (runs_if hE rfl rfl rfl hg370) (Gives.p hE rfl) rfl ?_; clear hE a; intro a hE
            refine vP hS hE (Gives.pickT hE rfl hg370 rfl) rfl ?_; clear hE a; intro a hE
            refine WL.nil ?_
            subst hK369
            exact ⟨decide ((w64 ((w64 ((w64 (Int.fdiv (IntKind.wrap .u64 (w64 (x1 + x3))) (2 ^ (min (Int.toNat 1) (IntKind.bits .u64))))) + x2)) - q265)) < x3), hq364, hE.pick _ ⟨rfl, rfl, rfl, rfl, rfl, rfl, trivial⟩, hS⟩
           ·replace hq364 := iteF hg370 hq364
            refine WL.no hE (runs_not hE rfl rfl rfl (by rw [hg370]; decide)) rfl ?_; clear hE a; intro a hE
            refine WL.no hE (runs_not hE rfl rfl rfl (by rw [hg370]; decide)) rfl ?_; clear hE a; intro a hE
            refine WL.no hE (runs_not hE rfl rfl rfl (by rw [hg370]; decide)) rfl ?_; clear hE a; intro a hE
            refine vP hS hE (Gives.pickF hE rfl hg370 rfl) rfl ?_; clear hE a; intro a hE
            refine WL.nil ?_
            subst hK369
            exact ⟨false, hq364, hE.pick _ ⟨rfl, rfl, rfl, rfl, rfl, rfl, trivial⟩, hS⟩
          ·clear hE hS a w; rintro a w ⟨q368, rfl, hE, hS⟩
           refine W.cond hE rfl (fun hc371 => ?_) (fun hc371 => ?_)
           ·replace hr := iteT hc371 hr
            refine W.region ?_
            refine vP hS hE (Gives.p hE rfl) rfl ?_; clear hE a; intro a hE
            refine vP hS hE (Gives.p hE rfl) rfl ?_; clear hE a; intro a hE
            refine vP hS hE (Gives.p hE rfl) rfl ?_; clear hE a; intro a hE
            refine vP hS hE (Gives.p hE rfl) rfl ?_; clear hE a; intro a hE
            refine vP hS hE (Gives.p hE rfl) rfl ?_; clear hE a; intro a hE
            obtain ⟨q372, hq373, hr⟩ := bindS hr
            have hc_ := ih_SlicessymMergeCmpFuncint_v1 (y3 := y3) hS h362 hn363 h_v1 (rfl) h_v2 (rfl) hq373
            refine WL.fnq hE (hc_) (runs_plain rfl) bd164 rfl rfl rfl ?_
            clear hE hS hc_; rintro e w ⟨cs374, rfl, h375, hn376, hS⟩; refine ⟨_, rfl, ?_⟩; clear a; intro a hE
            refine WL.nil ?_
            refine finG (fn := Tryd.f164) (rs := []) (vs := []) hE rfl trivial ?_
            obtain rfl := Option.some.inj hr
            exact ⟨cs374, rfl, h375, hn376, hS⟩
           ·replace hr := iteF hc371 hr
            refine W.skip ?_
            refine finG (fn := Tryd.f164) (rs := []) (vs := []) hE rfl trivial ?_
            obtain rfl := Option.some.inj hr
            exact ⟨cs361, rfl, h362, hn363, hS⟩
         ·replace hr := iteF hc358 hr
          refine W.skip ?_
          refine W.seq ?_
          obtain ⟨q378, hq377, hr⟩ := bndS hr
          refine W.cut (fun a w => ∃ (q381 : Bool), q381 = q378 ∧ Rep a 220 [(0, .slice a_v0 x0.length c_v0), (3, .int .i64 x3), (4, .func (.func 124) #[] #[.pointer (some ⟨pb0, 0, none⟩), .pointer (some ⟨pb1, 0, none⟩), .pointer (some ⟨pb2, 0, none⟩)]), (18, .int .i64 (w64 (Int.fdiv (IntKind.wrap .u64 (w64 (x1 + x3))) (2 ^ (min (Int.toNat 1) (IntKind.bits .u64)))))), (24, .int .i64 (w64 ((w64 ((w64 (Int.fdiv (IntKind.wrap .u64 (w64 (x1 + x3))) (2 ^ (min (Int.toNat 1) (IntKind.bits .u64))))) + x2)) - q265))), (213, .bool q381)] ∧ St w s (pt pb0 (.cells #[.pointer (some ⟨pb3, 0, none⟩)] 76 (0, 0)) :: pt pb1 (.cells #[.int .i64 y1] 3 (0, 0)) :: pt pb2 (.cells #[.int .i64 y2] 3 (0, 0)) :: pt pb3 (.cells #[.int .i64 y3.rows, .int .i64 y3.across, .int .i64 y3.stops, .slice a_v1 y3.bookings.length c_v1, .slice a_v2 y3.cancelled.length c_v2] 148 (0, 0)) :: vecC 3 1 a_v0 c_v0 x0.length cs_v0 :: vecC 80 4 a_v1 c_v1 y3.bookings.length cs_v1 :: vecC 4 1 a_v2 c_v2 y3.cancelled.length cs_v2 :: R)) ?_ ?_
          ·refine W.gen fun K382 hK382 => ?_
           refine W.region ?_
           refine vP hS hE (Gives.p hE rfl) rfl ?_; clear hE a; intro a hE
           refine vP hS hE (Gives.p hE rfl) rfl ?_; clear hE a; intro a hE
           refine vP hS hE (Gives.p hE rfl) rfl ?_; clear hE a; intro a hE
           refine vP hS hE (Gives.p hE rfl) rfl ?_; clear hE a; intro a hE
           rcases Bool.eq_false_or_eq_true (decide ((w64 (Int.fdiv (IntKind.wrap .u64 (w64 (x1 + x3))) (2 ^ (min (Int.toNat 1) (IntKind.bits .u64))))) < (w64 ((w64 ((w64 (Int.fdiv (IntKind.wrap .u64 (w64 (x1 + x3))) (2 ^ (min (Int.toNat 1) (IntKind.bits .u64))))) + x2)) - q265)))) with hg383 | hg383
           ·replace hq377 := iteT hg383 hq377
            refine WL.vS hS hE (runs_if hE rfl rfl rfl hg383) (Gives.p hE rfl) rfl ?_; clear hE a; intro a hE
            refine WL.vS hS hE (runs_if hE rfl rfl rfl hg383) (Gives.p hE rfl) rfl ?_; clear hE a; intro a hE
            refine WL.vS hS hE (runs_if hE rfl rfl rfl hg383) (Gives.p hE rfl) rfl ?_; clear hE a; intro a hE
            refine vP hS hE (Gives.pickT hE rfl hg383 rfl) rfl ?_; clear hE a; intro a hE
            refine WL.nil ?_
            subst hK382
            exact ⟨decide ((w64 ((w64 ((w64 (Int.fdiv (IntKind.wrap .u64 (w64 (x1 + x3))) (2 ^ (min (Int.toNat 1) (IntKind.bits .u64))))) + x2)) - q265)) < x3), hq377, hE.pick _ ⟨rfl, rfl, rfl, rfl, rfl, rfl, trivial⟩, hS⟩
           ·replace hq377 := iteF hg383 hq377
            refine WL.no hE (runs_not hE rfl rfl rfl (by rw [hg383]; decide)) rfl ?_; clear hE a; intro a hE
            refine WL.no hE (runs_not hE rfl rfl rfl (by rw [hg383]; decide)) rfl ?_; clear hE a; intro a hE
            refine WL.no hE (runs_not hE rfl rfl rfl (by rw [hg383]; decide)) rfl ?_; clear hE a; intro a hE
            refine vP hS hE (Gives.pickF hE rfl hg383 rfl) rfl ?_; clear hE a; intro a hE
            refine WL.nil ?_
            subst hK382
            exact ⟨false, hq377, hE.pick _ ⟨rfl, rfl, rfl, rfl, rfl, rfl, trivial⟩, hS⟩
          ·clear hE hS a w; rintro a w ⟨q381, rfl, hE, hS⟩
           refine W.cond hE rfl (fun hc384 => ?_) (fun hc384 => ?_)
           ·replace hr := iteT hc384 hr
            refine W.region ?_
            refine vP hS hE (Gives.p hE rfl) rfl ?_; clear hE a; intro a hE
            refine vP hS hE (Gives.p hE rfl) rfl ?_; clear hE a; intro a hE
            refine vP hS hE (Gives.p hE rfl) rfl ?_; clear hE a; intro a hE
            refine vP hS hE (Gives.p hE rfl) rfl ?_; clear hE a; intro a hE
            refine vP hS hE (Gives.p hE rfl) rfl ?_; clear hE a; intro a hE
            obtain ⟨q385, hq386, hr⟩ := bindS hr
            have hc_ := ih_SlicessymMergeCmpFuncint_v1 (y3 := y3) hS h_v0 (rfl) h_v1 (rfl) h_v2 (rfl) hq386
            refine WL.fnq hE (hc_) (runs_plain rfl) bd164 rfl rfl rfl ?_
            clear hE hS hc_; rintro e w ⟨cs387, rfl, h388, hn389, hS⟩; refine ⟨_, rfl, ?_⟩; clear a; intro a hE
            refine WL.nil ?_
            refine finG (fn := Tryd.f164) (rs := []) (vs := []) hE rfl trivial ?_
            obtain rfl := Option.some.inj hr
            exact ⟨cs387, rfl, h388, hn389, hS⟩
           ·replace hr := iteF hc384 hr
            refine W.skip ?_
            refine finG (fn := Tryd.f164) (rs := []) (vs := []) hE rfl trivial ?_
            obtain rfl := Option.some.inj hr
            exact ⟨cs_v0, rfl, h_v0, (rfl), hS⟩
set_option maxHeartbeats 8000000 in
theorem SlicesstableCmpFuncint_v1_ok {fu : Nat}  {w : World} {s : Sg} {R : List HP} {pb0 : Nat} {pb1 : Nat} {pb2 : Nat} {pb3 : Nat} {x0 : List Int} {a_v0 : Option Addr} {c_v0 n_v0 : Nat} {cs_v0 : List Value} {x1 : Int} {y1 : Int} {y2 : Int} {y3 : FareCar} {a_v1 : Option Addr} {c_v1 n_v1 : Nat} {cs_v1 : List Value} {a_v2 : Option Addr} {c_v2 n_v2 : Nat} {cs_v2 : List Value} (hS : St w s (pt pb0 (.cells #[.pointer (some ⟨pb3, 0, none⟩)] 76 (0, 0)) :: pt pb1 (.cells #[.int .i64 y1] 3 (0, 0)) :: pt pb2 (.cells #[.int .i64 y2] 3 (0, 0)) :: pt pb3 (.cells #[.int .i64 y3.rows, .int .i64 y3.across, .int .i64 y3.stops, .slice a_v1 n_v1 c_v1, .slice a_v2 n_v2 c_v2] 148 (0, 0)) :: vecC 3 1 a_v0 c_v0 n_v0 cs_v0 :: vecC 80 4 a_v1 c_v1 n_v1 cs_v1 :: vecC 4 1 a_v2 c_v2 n_v2 cs_v2 :: R)) (h_v0 : Ev 1 (RI .i64) s cs_v0 x0) (hn_v0 : x0.length = n_v0) (h_v1 : Ev 4 RFareBooking s cs_v1 y3.bookings) (hn_v1 : y3.bookings.length = n_v1) (h_v2 : Ev 1 RB s cs_v2 y3.cancelled) (hn_v2 : y3.cancelled.length = n_v2) {r : (List Int)} (hr : SlicesstableCmpFuncint_v1 fu x0 x1 y1 y2 y3 = some r) :
  Calls Tryd.prog 152 [.slice a_v0 n_v0 c_v0, .int .i64 x1, .func (.func 124) #[] #[.pointer (some ⟨pb0, 0, none⟩), .pointer (some ⟨pb1, 0, none⟩), .pointer (some ⟨pb2, 0, none⟩)]].toArray w (fun e w => ∃ (cs55 : List Value), e = .returned (.tuple #[]) ∧ Ev 1 (RI .i64) s cs55 r ∧ r.length = n_v0 ∧ St w s (pt pb0 (.cells #[.pointer (some ⟨pb3, 0, none⟩)] 76 (0, 0)) :: pt pb1 (.cells #[.int .i64 y1] 3 (0, 0)) :: pt pb2 (.cells #[.int .i64 y2] 3 (0, 0)) :: pt pb3 (.cells #[.int .i64 y3.rows, .int .i64 y3.across, .int .i64 y3.stops, .slice a_v1 n_v1 c_v1, .slice a_v2 n_v2 c_v2] 148 (0, 0)) :: vecC 3 1 a_v0 c_v0 n_v0 cs55 :: vecC 80 4 a_v1 c_v1 n_v1 cs_v1 :: vecC 4 1 a_v2 c_v2 n_v2 cs_v2 :: R)) := by
 refine enter Tryd.func152 rfl rfl rfl fun a hE => ?_
 rw [SlicesstableCmpFuncint_v1] at hr
 subst hn_v0
 subst hn_v1
 subst hn_v2
 refine W.seq (W.region ?_)
 refine vP hS hE (Gives.p hE rfl) rfl ?_; clear hE a; intro a hE
 refine WL.nil ?_
 refine W.seq (W.region ?_)
 refine vP hS hE (Gives.p hE rfl) rfl ?_; clear hE a; intro a hE
 refine vP hS hE (Gives.p hE rfl) rfl ?_; clear hE a; intro a hE
 refine vP hS hE (Gives.p hE rfl) rfl ?_; clear hE a; intro a hE
 refine WL.nil ?_
 refine W.seq ?_
 obtain ⟨q58, hq57, hr⟩ := bindS hr
 refine W.cut (fun a w => ∃ (q63 : Int), ∃ (q64 : Int), ∃ (q65 : List Int), ∃ (cs69 : List Value), (q63, q64, q65) = q58 ∧ Ev 1 (RI .i64) s cs69 q65 ∧ q65.length = x0.length ∧ Rep a 63 [(0, .slice a_v0 x0.length c_v0), (1, .int .i64 x1), (2, .func (.func 124) #[] #[.pointer (some ⟨pb0, 0, none⟩), .pointer (some ⟨pb1, 0, none⟩), .pointer (some ⟨pb2, 0, none⟩)]), (6, .int .i64 20), (7, .int .i64 q63)] ∧ St w s (pt pb0 (.cells #[.pointer (some ⟨pb3, 0, none⟩)] 76 (0, 0)) :: pt pb1 (.cells #[.int .i64 y1] 3 (0, 0)) :: pt pb2 (.cells #[.int .i64 y2] 3 (0, 0)) :: pt pb3 (.cells #[.int .i64 y3.rows, .int .i64 y3.across, .int .i64 y3.stops, .slice a_v1 y3.bookings.length c_v1, .slice a_v2 y3.cancelled.length c_v2] 148 (0, 0)) :: vecC 3 1 a_v0 c_v0 x0.length cs69 :: vecC 80 4 a_v1 c_v1 y3.bookings.length cs_v1 :: vecC 4 1 a_v2 c_v2 y3.cancelled.length cs_v2 :: R)) ?_ ?_
 ·refine W.block ?_
  refine W.loop (fun m a w => ∃ (n59 : Nat), ∃ (q63 : Int), ∃ (q64 : Int), ∃ (q65 : List Int), ∃ (cs69 : List Value), n59 = m ∧ SlicesstableCmpFuncint_v1.loop1 x1 y1 y2 y3 fu n59 q63 q64 q65 = some q58 ∧ Ev 1 (RI .i64) s cs69 q65 ∧ q65.length = x0.length ∧ Rep a 63 [(0, .slice a_v0 x0.length c_v0), (1, .int .i64 x1), (2, .func (.func 124) #[] #[.pointer (some ⟨pb0, 0, none⟩), .pointer (some ⟨pb1, 0, none⟩), .pointer (some ⟨pb2, 0, none⟩)]), (6, .int .i64 20), (7, .int .i64 q63), (8, .int .i64 q64)] ∧ St w s (pt pb0 (.cells #[.pointer (some ⟨pb3, 0, none⟩)] 76 (0, 0)) :: pt pb1 (.cells #[.int .i64 y1] 3 (0, 0)) :: pt pb2 (.cells #[.int .i64 y2] 3 (0, 0)) :: pt pb3 (.cells #[.int .i64 y3.rows, .int .i64 y3.across, .int .i64 y3.stops, .slice a_v1 y3.bookings.length c_v1, .slice a_v2 y3.cancelled.length c_v2] 148 (0, 0)) :: vecC 3 1 a_v0 c_v0 x0.length cs69 :: vecC 80 4 a_v1 c_v1 y3.bookings.length cs_v1 :: vecC 4 1 a_v2 c_v2 y3.cancelled.length cs_v2 :: R)) (m := fu) ⟨fu, 0, 20, x0, cs_v0, rfl, hq57, h_v0, (rfl), hE.pick _ ⟨rfl, rfl, rfl, rfl, rfl, rfl, trivial⟩, hS⟩ ?_
  clear hE hS a w hq57; rintro m60 a w ⟨n59, q63, q64, q65, cs69, rfl, hq57, h68, hn70, hE, hS⟩
  refine W.gen fun K71 hK71 => ?_
  rcases n59 with _ | n59
  ·rw [SlicesstableCmpFuncint_v1.loop1] at hq57; exact absurd hq57 (by simp)
  rw [SlicesstableCmpFuncint_v1.loop1] at hq57
  refine W.seq ?_
  refine W.seq (W.region ?_)
  refine vP hS hE (Gives.p hE rfl) rfl ?_; clear hE a; intro a hE
  refine vP hS hE (Gives.p hE rfl) rfl ?_; clear hE a; intro a hE
  refine vP hS hE (Gives.p hE rfl) rfl ?_; clear hE a; intro a hE
  refine WL.nil ?_
  refine W.cond hE rfl (fun hc72 => ?_) (fun hc72 => ?_)
  ·replace hq57 := iteT hc72 hq57
   refine W.skip ?_
   refine W.block ?_
   refine W.seq (W.region ?_)
   refine vP hS hE (Gives.p hE rfl) rfl ?_; clear hE a; intro a hE
   refine vP hS hE (Gives.p hE rfl) rfl ?_; clear hE a; intro a hE
   refine vP hS hE (Gives.p hE rfl) rfl ?_; clear hE a; intro a hE
   refine vP hS hE (Gives.p hE rfl) rfl ?_; clear hE a; intro a hE
   obtain ⟨q73, hq74, hq57⟩ := bindS hq57
   have hc_ := SlicesinsertionSortCmpFuncint_v1_ok (y3 := y3) hS h68 hn70 h_v1 (rfl) h_v2 (rfl) hq74
   refine WL.fnq hE (hc_) (runs_plain rfl) bd163 rfl rfl rfl ?_
   clear hE hS hc_; rintro e w ⟨cs75, rfl, h76, hn77, hS⟩; refine ⟨_, rfl, ?_⟩; clear a; intro a hE
   refine WL.nil ?_
   refine W.seq (W.region ?_)
   refine vP hS hE (Gives.p hE rfl) rfl ?_; clear hE a; intro a hE
   refine vP hS hE (Gives.p hE rfl) rfl ?_; clear hE a; intro a hE
   refine WL.nil ?_
   refine W.region ?_
   refine vP hS hE (Gives.p hE rfl) rfl ?_; clear hE a; intro a hE
   refine vP hS hE (Gives.p hE rfl) rfl ?_; clear hE a; intro a hE
   refine vP hS hE (Gives.p hE rfl) rfl ?_; clear hE a; intro a hE
   refine vP hS hE (Gives.p hE rfl) rfl ?_; clear hE a; intro a hE
   refine WL.nil ?_
   subst hK71
   exact ⟨n59, Nat.lt_succ_self _, n59, q64, (w64 (q64 + 20)), q73, cs75, rfl, hq57, h76, hn77, hE.pick _ ⟨rfl, rfl, rfl, rfl, rfl, rfl, trivial⟩, hS⟩
  ·replace hq57 := iteF hc72 hq57
   subst hK71
   refine W.exit rfl ?_
   exact ⟨q63, q64, q65, cs69, Option.some.inj hq57, h68, hn70, hE.pick _ ⟨rfl, rfl, rfl, rfl, rfl, trivial⟩, hS⟩
 ·clear hE hS a w; rintro a w ⟨q63, q64, q65, cs69, rfl, h68, hn70, hE, hS⟩
  dsimp only at hr
  refine W.seq (W.region ?_)
  refine vP hS hE (Gives.p hE rfl) rfl ?_; clear hE a; intro a hE
  refine vP hS hE (Gives.p hE rfl) rfl ?_; clear hE a; intro a hE
  refine vP hS hE (Gives.p hE rfl) rfl ?_; clear hE a; intro a hE
  refine vP hS hE (Gives.p hE rfl) rfl ?_; clear hE a; intro a hE
  obtain ⟨q78, hq79, hr⟩ := bindS hr
  have hc_ := SlicesinsertionSortCmpFuncint_v1_ok (y3 := y3) hS h68 hn70 h_v1 (rfl) h_v2 (rfl) hq79
  refine WL.fnq hE (hc_) (runs_plain rfl) bd163 rfl rfl rfl ?_
  clear hE hS hc_; rintro e w ⟨cs80, rfl, h81, hn82, hS⟩; refine ⟨_, rfl, ?_⟩; clear a; intro a hE
  refine WL.nil ?_
  obtain ⟨q84, hq83, hr⟩ := bindS hr
  refine W.cut (fun a w => ∃ (q89 : Int), ∃ (q90 : List Int), ∃ (cs94 : List Value), (q89, q90) = q84 ∧ Ev 1 (RI .i64) s cs94 q90 ∧ q90.length = x0.length ∧ Rep a 63 [] ∧ St w s (pt pb0 (.cells #[.pointer (some ⟨pb3, 0, none⟩)] 76 (0, 0)) :: pt pb1 (.cells #[.int .i64 y1] 3 (0, 0)) :: pt pb2 (.cells #[.int .i64 y2] 3 (0, 0)) :: pt pb3 (.cells #[.int .i64 y3.rows, .int .i64 y3.across, .int .i64 y3.stops, .slice a_v1 y3.bookings.length c_v1, .slice a_v2 y3.cancelled.length c_v2] 148 (0, 0)) :: vecC 3 1 a_v0 c_v0 x0.length cs94 :: vecC 80 4 a_v1 c_v1 y3.bookings.length cs_v1 :: vecC 4 1 a_v2 c_v2 y3.cancelled.length cs_v2 :: R)) ?_ ?_
  ·refine W.block ?_
   refine W.loop (fun m a w => ∃ (n85 : Nat), ∃ (q89 : Int), ∃ (q90 : List Int), ∃ (cs94 : List Value), n85 = m ∧ SlicesstableCmpFuncint_v1.loop2 x1 y1 y2 y3 fu n85 q89 q90 = some q84 ∧ Ev 1 (RI .i64) s cs94 q90 ∧ q90.length = x0.length ∧ Rep a 63 [(0, .slice a_v0 x0.length c_v0), (1, .int .i64 x1), (2, .func (.func 124) #[] #[.pointer (some ⟨pb0, 0, none⟩), .pointer (some ⟨pb1, 0, none⟩), .pointer (some ⟨pb2, 0, none⟩)]), (6, .int .i64 q89)] ∧ St w s (pt pb0 (.cells #[.pointer (some ⟨pb3, 0, none⟩)] 76 (0, 0)) :: pt pb1 (.cells #[.int .i64 y1] 3 (0, 0)) :: pt pb2 (.cells #[.int .i64 y2] 3 (0, 0)) :: pt pb3 (.cells #[.int .i64 y3.rows, .int .i64 y3.across, .int .i64 y3.stops, .slice a_v1 y3.bookings.length c_v1, .slice a_v2 y3.cancelled.length c_v2] 148 (0, 0)) :: vecC 3 1 a_v0 c_v0 x0.length cs94 :: vecC 80 4 a_v1 c_v1 y3.bookings.length cs_v1 :: vecC 4 1 a_v2 c_v2 y3.cancelled.length cs_v2 :: R)) (m := fu) ⟨fu, 20, q78, cs80, rfl, hq83, h81, hn82, hE.pick _ ⟨rfl, rfl, rfl, rfl, trivial⟩, hS⟩ ?_
   clear hE hS a w hq83; rintro m86 a w ⟨n85, q89, q90, cs94, rfl, hq83, h93, hn95, hE, hS⟩
   refine W.gen fun K96 hK96 => ?_
   rcases n85 with _ | n85
   ·rw [SlicesstableCmpFuncint_v1.loop2] at hq83; exact absurd hq83 (by simp)
   rw [SlicesstableCmpFuncint_v1.loop2] at hq83
   refine W.seq ?_
   refine W.seq (W.region ?_)
   refine vP hS hE (Gives.p hE rfl) rfl ?_; clear hE a; intro a hE
   refine vP hS hE (Gives.p hE rfl) rfl ?_; clear hE a; intro a hE
   refine vP hS hE (Gives.p hE rfl) rfl ?_; clear hE a; intro a hE
   refine WL.nil ?_
   refine W.cond hE rfl (fun hc97 => ?_) (fun hc97 => ?_)
   ·replace hq83 := iteT hc97 hq83
    refine W.skip ?_
    refine W.block ?_
    refine W.seq (W.region ?_)
    refine vP hS hE (Gives.p hE rfl) rfl ?_; clear hE a; intro a hE
    refine vP hS hE (Gives.p hE rfl) rfl ?_; clear hE a; intro a hE
    refine vP hS hE (Gives.p hE rfl) rfl ?_; clear hE a; intro a hE
    refine vP hS hE (Gives.p hE rfl) rfl ?_; clear hE a; intro a hE
    refine WL.nil ?_
    refine W.seq ?_
    obtain ⟨q99, hq98, hq83⟩ := bindS hq83
    refine W.cut (fun a w => ∃ (q104 : Int), ∃ (q105 : Int), ∃ (q106 : List Int), ∃ (cs110 : List Value), (q104, q105, q106) = q99 ∧ Ev 1 (RI .i64) s cs110 q106 ∧ q106.length = x0.length ∧ Rep a 63 [(0, .slice a_v0 x0.length c_v0), (1, .int .i64 x1), (2, .func (.func 124) #[] #[.pointer (some ⟨pb0, 0, none⟩), .pointer (some ⟨pb1, 0, none⟩), .pointer (some ⟨pb2, 0, none⟩)]), (6, .int .i64 q89), (7, .int .i64 q104)] ∧ St w s (pt pb0 (.cells #[.pointer (some ⟨pb3, 0, none⟩)] 76 (0, 0)) :: pt pb1 (.cells #[.int .i64 y1] 3 (0, 0)) :: pt pb2 (.cells #[.int .i64 y2] 3 (0, 0)) :: pt pb3 (.cells #[.int .i64 y3.rows, .int .i64 y3.across, .int .i64 y3.stops, .slice a_v1 y3.bookings.length c_v1, .slice a_v2 y3.cancelled.length c_v2] 148 (0, 0)) :: vecC 3 1 a_v0 c_v0 x0.length cs110 :: vecC 80 4 a_v1 c_v1 y3.bookings.length cs_v1 :: vecC 4 1 a_v2 c_v2 y3.cancelled.length cs_v2 :: R)) ?_ ?_
    ·refine W.block ?_
     refine W.loop (fun m a w => ∃ (n100 : Nat), ∃ (q104 : Int), ∃ (q105 : Int), ∃ (q106 : List Int), ∃ (cs110 : List Value), n100 = m ∧ SlicesstableCmpFuncint_v1.loop3 x1 y1 y2 y3 fu q89 n100 q104 q105 q106 = some q99 ∧ Ev 1 (RI .i64) s cs110 q106 ∧ q106.length = x0.length ∧ Rep a 63 [(0, .slice a_v0 x0.length c_v0), (1, .int .i64 x1), (2, .func (.func 124) #[] #[.pointer (some ⟨pb0, 0, none⟩), .pointer (some ⟨pb1, 0, none⟩), .pointer (some ⟨pb2, 0, none⟩)]), (6, .int .i64 q89), (7, .int .i64 q104), (8, .int .i64 q105)] ∧ St w s (pt pb0 (.cells #[.pointer (some ⟨pb3, 0, none⟩)] 76 (0, 0)) :: pt pb1 (.cells #[.int .i64 y1] 3 (0, 0)) :: pt pb2 (.cells #[.int .i64 y2] 3 (0, 0)) :: pt pb3 (.cells #[.int .i64 y3.rows, .int .i64 y3.across, .int .i64 y3.stops, .slice a_v1 y3.bookings.length c_v1, .slice a_v2 y3.cancelled.length c_v2] 148 (0, 0)) :: vecC 3 1 a_v0 c_v0 x0.length cs110 :: vecC 80 4 a_v1 c_v1 y3.bookings.length cs_v1 :: vecC 4 1 a_v2 c_v2 y3.cancelled.length cs_v2 :: R)) (m := fu) ⟨fu, 0, (w64 (2 * q89)), q90, cs94, rfl, hq98, h93, hn95, hE.pick _ ⟨rfl, rfl, rfl, rfl, rfl, rfl, trivial⟩, hS⟩ ?_
     clear hE hS a w hq98; rintro m101 a w ⟨n100, q104, q105, q106, cs110, rfl, hq98, h109, hn111, hE, hS⟩
     refine W.gen fun K112 hK112 => ?_
     rcases n100 with _ | n100
     ·rw [SlicesstableCmpFuncint_v1.loop3] at hq98; exact absurd hq98 (by simp)
     rw [SlicesstableCmpFuncint_v1.loop3] at hq98
     refine W.seq ?_
     refine W.seq (W.region ?_)
     refine vP hS hE (Gives.p hE rfl) rfl ?_; clear hE a; intro a hE
     refine vP hS hE (Gives.p hE rfl) rfl ?_; clear hE a; intro a hE
     refine vP hS hE (Gives.p hE rfl) rfl ?_; clear hE a; intro a hE
     refine WL.nil ?_
     refine W.cond hE rfl (fun hc113 => ?_) (fun hc113 => ?_)
     ·replace hq98 := iteT hc113 hq98
      refine W.skip ?_
      refine W.block ?_
      refine W.seq (W.region ?_)
      refine vP hS hE (Gives.p hE rfl) rfl ?_; clear hE a; intro a hE
      refine vP hS hE (Gives.p hE rfl) rfl ?_; clear hE a; intro a hE
      refine vP hS hE (Gives.p hE rfl) rfl ?_; clear hE a; intro a hE
      refine vP hS hE (Gives.p hE rfl) rfl ?_; clear hE a; intro a hE
      refine vP hS hE (Gives.p hE rfl) rfl ?_; clear hE a; intro a hE
      refine vP hS hE (Gives.p hE rfl) rfl ?_; clear hE a; intro a hE
      refine vP hS hE (Gives.p hE rfl) rfl ?_; clear hE a; intro a hE
      obtain ⟨q114, hq115, hq98⟩ := bindS hq98
      have hc_ := SlicessymMergeCmpFuncint_v1_ok (y3 := y3) hS h109 hn111 h_v1 (rfl) h_v2 (rfl) hq115
      refine WL.fnq hE (hc_) (runs_plain rfl) bd164 rfl rfl rfl ?_
      clear hE hS hc_; rintro e w ⟨cs116, rfl, h117, hn118, hS⟩; refine ⟨_, rfl, ?_⟩; clear a; intro a hE
      refine WL.nil ?_
      refine W.seq (W.region ?_)
      refine vP hS hE (Gives.p hE rfl) rfl ?_; clear hE a; intro a hE
      refine vP hS hE (Gives.p hE rfl) rfl ?_; clear hE a; intro a hE
      refine WL.nil ?_
      refine W.region ?_
      refine vP hS hE (Gives.p hE rfl) rfl ?_; clear hE a; intro a hE
      refine vP hS hE (Gives.p hE rfl) rfl ?_; clear hE a; intro a hE
      refine vP hS hE (Gives.p hE rfl) rfl ?_; clear hE a; intro a hE
      refine vP hS hE (Gives.p hE rfl) rfl ?_; clear hE a; intro a hE
      refine vP hS hE (Gives.p hE rfl) rfl ?_; clear hE a; intro a hE
      refine WL.nil ?_
      subst hK112
      exact ⟨n100, Nat.lt_succ_self _, n100, q105, (w64 (q105 + (w64 (2 * q89)))), q114, cs116, rfl, hq98, h117, hn118, hE.pick _ ⟨rfl, rfl, rfl, rfl, rfl, rfl, trivial⟩, hS⟩
     ·replace hq98 := iteF hc113 hq98
      subst hK112
      refine W.exit rfl ?_
      exact ⟨q104, q105, q106, cs110, Option.some.inj hq98, h109, hn111, hE.pick _ ⟨rfl, rfl, rfl, rfl, rfl, trivial⟩, hS⟩
    ·clear hE hS a w; rintro a w ⟨q104, q105, q106, cs110, rfl, h109, hn111, hE, hS⟩
     dsimp only at hq83
     refine W.seq ?_
     refine W.seq (W.region ?_)
     refine vP hS hE (Gives.p hE rfl) rfl ?_; clear hE a; intro a hE
     refine vP hS hE (Gives.p hE rfl) rfl ?_; clear hE a; intro a hE
     refine vP hS hE (Gives.p hE rfl) rfl ?_; clear hE a; intro a hE
     refine vP hS hE (Gives.p hE rfl) rfl ?_; clear hE a; intro a hE
     refine WL.nil ?_
     refine W.seq (W.region ?_)
     refine vP hS hE (Gives.p hE rfl) rfl ?_; clear hE a; intro a hE
     refine vP hS hE (Gives.p hE rfl) rfl ?_; clear hE a; intro a hE
     refine vP hS hE (Gives.p hE rfl) rfl ?_; clear hE a; intro a hE
     refine WL.nil ?_
     refine W.cond hE rfl (fun hc119 => ?_) (fun hc119 => ?_)
     ·replace hq83 := iteT hc119 hq83
      refine W.region ?_
      refine vP hS hE (Gives.p hE rfl) rfl ?_; clear hE a; intro a hE
      refine vP hS hE (Gives.p hE rfl) rfl ?_; clear hE a; intro a hE
      refine vP hS hE (Gives.p hE rfl) rfl ?_; clear hE a; intro a hE
      refine vP hS hE (Gives.p hE rfl) rfl ?_; clear hE a; intro a hE
      refine vP hS hE (Gives.p hE rfl) rfl ?_; clear hE a; intro a hE
      obtain ⟨q120, hq121, hq83⟩ := bindS hq83
      have hc_ := SlicessymMergeCmpFuncint_v1_ok (y3 := y3) hS h109 hn111 h_v1 (rfl) h_v2 (rfl) hq121
      refine WL.fnq hE (hc_) (runs_plain rfl) bd164 rfl rfl rfl ?_
      clear hE hS hc_; rintro e w ⟨cs122, rfl, h123, hn124, hS⟩; refine ⟨_, rfl, ?_⟩; clear a; intro a hE
      refine WL.nil ?_
      refine W.region ?_
      refine vP hS hE (Gives.p hE rfl) rfl ?_; clear hE a; intro a hE
      refine vP hS hE (Gives.p hE rfl) rfl ?_; clear hE a; intro a hE
      refine vP hS hE (Gives.p hE rfl) rfl ?_; clear hE a; intro a hE
      refine WL.nil ?_
      subst hK96
      exact ⟨n85, Nat.lt_succ_self _, n85, (w64 (q89 * 2)), q120, cs122, rfl, hq83, h123, hn124, hE.pick _ ⟨rfl, rfl, rfl, rfl, trivial⟩, hS⟩
     ·replace hq83 := iteF hc119 hq83
      refine W.skip ?_
      refine W.region ?_
      refine vP hS hE (Gives.p hE rfl) rfl ?_; clear hE a; intro a hE
      refine vP hS hE (Gives.p hE rfl) rfl ?_; clear hE a; intro a hE
      refine vP hS hE (Gives.p hE rfl) rfl ?_; clear hE a; intro a hE
      refine WL.nil ?_
      subst hK96
      exact ⟨n85, Nat.lt_succ_self _, n85, (w64 (q89 * 2)), q106, cs110, rfl, hq83, h109, hn111, hE.pick _ ⟨rfl, rfl, rfl, rfl, trivial⟩, hS⟩
   ·replace hq83 := iteF hc97 hq83
    subst hK96
    refine W.exit rfl ?_
    exact ⟨q89, q90, cs94, Option.some.inj hq83, h93, hn95, hE.pick _ trivial, hS⟩
  ·clear hE hS a w; rintro a w ⟨q89, q90, cs94, rfl, h93, hn95, hE, hS⟩
   dsimp only at hr
   refine finG (fn := Tryd.f152) (rs := []) (vs := []) hE rfl trivial ?_
   obtain rfl := Option.some.inj hr
   exact ⟨cs94, rfl, h93, hn95, hS⟩
set_option maxHeartbeats 8000000 in
theorem SlicesSortStableFuncLint_v1_ok {fu : Nat}  {w : World} {s : Sg} {R : List HP} {pb0 : Nat} {pb1 : Nat} {pb2 : Nat} {pb3 : Nat} {x0 : List Int} {a_v0 : Option Addr} {c_v0 n_v0 : Nat} {cs_v0 : List Value} {y1 : Int} {y2 : Int} {y3 : FareCar} {a_v1 : Option Addr} {c_v1 n_v1 : Nat} {cs_v1 : List Value} {a_v2 : Option Addr} {c_v2 n_v2 : Nat} {cs_v2 : List Value} (hS : St w s (pt pb0 (.cells #[.pointer (some ⟨pb3, 0, none⟩)] 76 (0, 0)) :: pt pb1 (.cells #[.int .i64 y1] 3 (0, 0)) :: pt pb2 (.cells #[.int .i64 y2] 3 (0, 0)) :: pt pb3 (.cells #[.int .i64 y3.rows, .int .i64 y3.across, .int .i64 y3.stops, .slice a_v1 n_v1 c_v1, .slice a_v2 n_v2 c_v2] 148 (0, 0)) :: vecC 3 1 a_v0 c_v0 n_v0 cs_v0 :: vecC 80 4 a_v1 c_v1 n_v1 cs_v1 :: vecC 4 1 a_v2 c_v2 n_v2 cs_v2 :: R)) (h_v0 : Ev 1 (RI .i64) s cs_v0 x0) (hn_v0 : x0.length = n_v0) (h_v1 : Ev 4 RFareBooking s cs_v1 y3.bookings) (hn_v1 : y3.bookings.length = n_v1) (h_v2 : Ev 1 RB s cs_v2 y3.cancelled) (hn_v2 : y3.cancelled.length = n_v2) {r : (List Int)} (hr : SlicesSortStableFuncLint_v1 fu x0 y1 y2 y3 = some r) :
  Calls Tryd.prog 123 [.slice a_v0 n_v0 c_v0, .func (.func 124) #[] #[.pointer (some ⟨pb0, 0, none⟩), .pointer (some ⟨pb1, 0, none⟩), .pointer (some ⟨pb2, 0, none⟩)]].toArray w (fun e w => ∃ (cs55 : List Value), e = .returned (.tuple #[]) ∧ Ev 1 (RI .i64) s cs55 r ∧ r.length = n_v0 ∧ St w s (pt pb0 (.cells #[.pointer (some ⟨pb3, 0, none⟩)] 76 (0, 0)) :: pt pb1 (.cells #[.int .i64 y1] 3 (0, 0)) :: pt pb2 (.cells #[.int .i64 y2] 3 (0, 0)) :: pt pb3 (.cells #[.int .i64 y3.rows, .int .i64 y3.across, .int .i64 y3.stops, .slice a_v1 n_v1 c_v1, .slice a_v2 n_v2 c_v2] 148 (0, 0)) :: vecC 3 1 a_v0 c_v0 n_v0 cs55 :: vecC 80 4 a_v1 c_v1 n_v1 cs_v1 :: vecC 4 1 a_v2 c_v2 n_v2 cs_v2 :: R)) := by
 refine enter Tryd.func123 rfl rfl rfl fun a hE => ?_
 rw [SlicesSortStableFuncLint_v1] at hr
 subst hn_v0
 subst hn_v1
 subst hn_v2
 refine W.region ?_
 refine vP hS hE (Gives.p hE rfl) rfl ?_; clear hE a; intro a hE
 refine vP hS hE (Gives.p hE rfl) rfl ?_; clear hE a; intro a hE
 refine vP hS hE (Gives.len hE rfl sl45) rfl ?_; clear hE a; intro a hE
 refine vP hS hE (Gives.p hE rfl) rfl ?_; clear hE a; intro a hE
 obtain ⟨q57, hq58, hr⟩ := bindS hr
 have hc_ := SlicesstableCmpFuncint_v1_ok (y3 := y3) hS h_v0 (rfl) h_v1 (rfl) h_v2 (rfl) hq58
 refine WL.fnq hE (hc_) (runs_plain rfl) bd152 rfl rfl rfl ?_
 clear hE hS hc_; rintro e w ⟨cs59, rfl, h60, hn61, hS⟩; refine ⟨_, rfl, ?_⟩; clear a; intro a hE
 refine WL.nil ?_
 refine finG (fn := Tryd.f123) (rs := []) (vs := []) hE rfl trivial ?_
 obtain rfl := Option.some.inj hr
 exact ⟨cs59, rfl, h60, hn61, hS⟩
set_option maxHeartbeats 8000000 in
theorem FareCarchoose_v1_ok {fu : Nat}  {w : World} {s : Sg} {R : List HP} {pb0 : Nat} {x1 : List Int} {a1 : Option Addr} {c1 : Nat} {x2 : Int} {x3 : Int} {x4 : Int} {y0 : FareCar} {a_v0 : Option Addr} {c_v0 n_v0 : Nat} {cs_v0 : List Value} {a_v1 : Option Addr} {c_v1 n_v1 : Nat} {cs_v1 : List Value} (hS : St w s (pt pb0 (.cells #[.int .i64 y0.rows, .int .i64 y0.across, .int .i64 y0.stops, .slice a_v0 n_v0 c_v0, .slice a_v1 n_v1 c_v1] 148 (0, 0)) :: vecC 80 4 a_v0 c_v0 n_v0 cs_v0 :: vecC 4 1 a_v1 c_v1 n_v1 cs_v1 :: R)) (h1 : Sl 1 (RI .i64) s a1 c1 x1) (h_v0 : Ev 4 RFareBooking s cs_v0 y0.bookings) (hn_v0 : y0.bookings.length = n_v0) (h_v1 : Ev 1 RB s cs_v1 y0.cancelled) (hn_v1 : y0.cancelled.length = n_v1) {r : (List Int)} (hr : FareCarchoose_v1 fu x1 x2 x3 x4 y0 = some r) :
  Calls Tryd.prog 92 [.pointer (some ⟨pb0, 0, none⟩), .slice a1 x1.length c1, .int .i64 x2, .int .i64 x3, .int .i64 x4].toArray w (fun e w => ∃ (a0 : Option Addr) (c0 n0 : Nat) (cs0 : List Value), e = .returned (.slice a0 n0 c0) ∧ Ev 1 (RI .i64) s cs0 r ∧ r.length = n0 ∧ St w s (vecC 3 1 a0 c0 n0 cs0 :: pt pb0 (.cells #[.int .i64 y0.rows, .int .i64 y0.across, .int .i64 y0.stops, .slice a_v0 n_v0 c_v0, .slice a_v1 n_v1 c_v1] 148 (0, 0)) :: vecC 80 4 a_v0 c_v0 n_v0 cs_v0 :: vecC 4 1 a_v1 c_v1 n_v1 cs_v1 :: R)) := by
 refine enter Tryd.func92 rfl rfl rfl fun a hE => ?_
 rw [FareCarchoose_v1] at hr
 subst hn_v0
 subst hn_v1
 refine W.seq (W.region ?_)
 refine WL.box hE hS (runs_plain rfl) rfl rfl rfl ?_; clear hE hS a w; intro b51 a w hE hS
 refine WL.box hE hS (runs_plain rfl) rfl rfl rfl ?_; clear hE hS a w; intro b52 a w hE hS
 refine WL.box hE hS (runs_plain rfl) rfl rfl rfl ?_; clear hE hS a w; intro b53 a w hE hS
 refine vP hS hE (Gives.p hE rfl) rfl ?_; clear hE a; intro a hE
 refine WL.nil ?_
 refine W.seq (W.region ?_)
 refine vP hS hE (Gives.loadB hE 2 rfl rfl rfl ty76) rfl ?_; clear hE a; intro a hE
 refine vP hS hE (Gives.nilOk hE rfl) rfl ?_; clear hE a; intro a hE
 refine vP hS hE (Gives.fld hE rfl fl148_0) rfl ?_; clear hE a; intro a hE
 refine vP hS hE (Gives.loadB hE 3 rfl rfl rfl ty3) rfl ?_; clear hE a; intro a hE
 obtain ⟨x54, hx55, hr⟩ := bindS hr
 refine WL.mkND (Rr := RI .i64) (Ti := 3) (es := 1) hE hS (runs_plain rfl) rfl rfl ap23 zr45 hx55 rfl ?_; clear hE hS a w; intro b56 ds57 a w h58 hE hS
 refine vP hS hE (Gives.p hE rfl) rfl ?_; clear hE a; intro a hE
 refine WL.nil ?_
 refine W.seq ?_
 refine W.seq (W.region ?_)
 refine vP hS hE (Gives.p hE rfl) rfl ?_; clear hE a; intro a hE
 refine vP hS hE (Gives.len hE rfl sl45) rfl ?_; clear hE a; intro a hE
 refine vP hS hE (Gives.p hE rfl) rfl ?_; clear hE a; intro a hE
 refine WL.nil ?_
 obtain ⟨q61, hq60, hr⟩ := bindS hr
 refine W.cut (fun a w => ∃ (q71 : List (List Int)), ∃ (ds75 : List In), q71 = q61 ∧ NEv 1 (RI .i64) s ds75 q71 ∧ q71.length = x54.length ∧ Rep a 98 [(1, .slice a1 x1.length c1), (4, .int .i64 x4), (5, .pointer (some ⟨b51, 0, none⟩)), (7, .pointer (some ⟨b52, 0, none⟩)), (8, .pointer (some ⟨b53, 0, none⟩)), (11, .slice (some ⟨b56, 0, none⟩) x54.length x54.length)] ∧ St w s (nestC 45 3 1 (some ⟨b56, 0, none⟩) x54.length x54.length ds75 :: pt b53 (.cells #[.int .i64 x3] 3 (0, 0)) :: pt b52 (.cells #[.int .i64 x2] 3 (0, 0)) :: pt b51 (.cells #[.pointer (some ⟨pb0, 0, none⟩)] 76 (0, 0)) :: pt pb0 (.cells #[.int .i64 y0.rows, .int .i64 y0.across, .int .i64 y0.stops, .slice a_v0 y0.bookings.length c_v0, .slice a_v1 y0.cancelled.length c_v1] 148 (0, 0)) :: vecC 80 4 a_v0 c_v0 y0.bookings.length cs_v0 :: vecC 4 1 a_v1 c_v1 y0.cancelled.length cs_v1 :: R)) ?_ ?_
 ·refine W.block ?_
  refine W.loop (fun m a w => ∃ (rest64 : List Int) (k62 : Nat), ∃ (q71 : List (List Int)), ∃ (ds75 : List In), rest64.length = m ∧ x1.drop k62 = rest64 ∧ FareCarchoose_v1.loop1 y0 rest64 q71 = some q61 ∧ NEv 1 (RI .i64) s ds75 q71 ∧ q71.length = x54.length ∧ Rep a 98 [(1, .slice a1 x1.length c1), (4, .int .i64 x4), (5, .pointer (some ⟨b51, 0, none⟩)), (7, .pointer (some ⟨b52, 0, none⟩)), (8, .pointer (some ⟨b53, 0, none⟩)), (11, .slice (some ⟨b56, 0, none⟩) x54.length x54.length), (23, .slice a1 x1.length c1), (24, .int .i64 ((x1).length : Int)), (25, .int .i64 ((k62 : Nat) : Int))] ∧ St w s (nestC 45 3 1 (some ⟨b56, 0, none⟩) x54.length x54.length ds75 :: pt b53 (.cells #[.int .i64 x3] 3 (0, 0)) :: pt b52 (.cells #[.int .i64 x2] 3 (0, 0)) :: pt b51 (.cells #[.pointer (some ⟨pb0, 0, none⟩)] 76 (0, 0)) :: pt pb0 (.cells #[.int .i64 y0.rows, .int .i64 y0.across, .int .i64 y0.stops, .slice a_v0 y0.bookings.length c_v0, .slice a_v1 y0.cancelled.length c_v1] 148 (0, 0)) :: vecC 80 4 a_v0 c_v0 y0.bookings.length cs_v0 :: vecC 4 1 a_v1 c_v1 y0.cancelled.length cs_v1 :: R)) (m := x1.length) ⟨x1, 0, x54, ds57, rfl, rfl, hq60, h58, (rfl), hE.pick _ ⟨rfl, rfl, rfl, rfl, rfl, rfl, rfl, rfl, rfl, trivial⟩, hS⟩ ?_
  clear hE hS a w hq60; rintro m68 a w ⟨rest64, k62, q71, ds75, rfl, hd65, hq60, h76, hn77, hE, hS⟩
  refine W.gen fun K78 hK78 => ?_
  rcases rest64 with _ | ⟨x63, rest64⟩
  ·have hlt66 := drop_nil hd65
   refine W.seq (W.region ?_)
   refine vP hS hE (Gives.p hE rfl) rfl ?_; clear hE a; intro a hE
   refine WL.nil ?_
   refine W.seq ?_
   refine W.condF hE rfl (decide_eq_false (by omega)) ?_
   subst hK78
   refine W.exit rfl ?_
   exact ⟨q71, ds75, Option.some.inj hq60, h76, hn77, hE.pick _ ⟨rfl, rfl, rfl, rfl, rfl, rfl, trivial⟩, hS⟩
  ·obtain ⟨hlt66, hx67, hd65⟩ := drop_cons hd65
   rw [FareCarchoose_v1.loop1] at hq60
   refine W.seq (W.region ?_)
   refine vP hS hE (Gives.p hE rfl) rfl ?_; clear hE a; intro a hE
   refine WL.nil ?_
   refine W.seq ?_
   refine W.condT hE rfl (decide_eq_true (by omega)) ?_
   refine W.skip ?_
   refine W.seq ?_
   refine W.block ?_
   refine W.seq (W.region ?_)
   obtain ⟨cs79, hl80, hR81, hat82⟩ := h1.at hx67
   subst hR81
   refine vP hS hE (Gives.idx hE k62 rfl rfl sl45 rfl hlt66 (h1.aok hlt66)) rfl ?_; clear hE a; intro a hE
   refine vP hS hE (Gives.load1 hE rfl (fun w h => hat82 w _ h) ty3) rfl ?_; clear hE a; intro a hE
   refine vP hS hE (Gives.p hE rfl) rfl ?_; clear hE a; intro a hE
   refine WL.nil ?_
   refine W.gen fun K83 hK83 => ?_
   refine W.regionE (sel (fun w => St w s (nestC 45 3 1 (some ⟨b56, 0, none⟩) x54.length x54.length ds75 :: pt b53 (.cells #[.int .i64 x3] 3 (0, 0)) :: pt b52 (.cells #[.int .i64 x2] 3 (0, 0)) :: pt b51 (.cells #[.pointer (some ⟨pb0, 0, none⟩)] 76 (0, 0)) :: pt pb0 (.cells #[.int .i64 y0.rows, .int .i64 y0.across, .int .i64 y0.stops, .slice a_v0 y0.bookings.length c_v0, .slice a_v1 y0.cancelled.length c_v1] 148 (0, 0)) :: vecC 80 4 a_v0 c_v0 y0.bookings.length cs_v0 :: vecC 4 1 a_v1 c_v1 y0.cancelled.length cs_v1 :: R)) (fun w => St w s (pt b53 (.cells #[.int .i64 x3] 3 (0, 0)) :: pt b52 (.cells #[.int .i64 x2] 3 (0, 0)) :: pt b51 (.cells #[.pointer (some ⟨pb0, 0, none⟩)] 76 (0, 0)) :: pt pb0 (.cells #[.int .i64 y0.rows, .int .i64 y0.across, .int .i64 y0.stops, .slice a_v0 y0.bookings.length c_v0, .slice a_v1 y0.cancelled.length c_v1] 148 (0, 0)) :: vecC 80 4 a_v0 c_v0 y0.bookings.length cs_v0 :: vecC 4 1 a_v1 c_v1 y0.cancelled.length cs_v1 :: R))) (fun b i => cond b ([0, 1, 2, 3, 4, 5, 6, 7, 8, 9, 10, 11, 12, 13, 14, 15, 16, 17, 19].contains i) ([0, 1, 2, 3, 4, 5, 6, 7, 8, 9, 10, 11, 12, 13, 14, 15, 16, 17, 18, 19, 20].contains i)) mixed ?_
   replace hS := hS.drew
   refine Rg.takeP (i := 0) hE rfl (by kernel_rfl) (runs_plain rfl) (Gives.p hE rfl) rfl (tw_sel (fun _ => hS) (fun _ => (hS.tail))) ?_; clear hE a; intro a hE
   refine Rg.takeP (i := 1) hE rfl (by kernel_rfl) (runs_plain rfl) (Gives.p hE rfl) rfl (tw_sel (fun _ => hS) (fun _ => (hS.tail))) ?_; clear hE a; intro a hE
   have hT := tw_sel (A := fun w => St w s _) (B := fun w => St w s _) (w := _) (x := true) (y := true) (fun _ => hS) (fun _ => (hS.tail))
   have hF := hS; replace hS := (hS.tail)
   refine Rg.take (i := 2) false rfl hE rfl (by kernel_rfl) (runs_plain rfl) (Gives.loadB hE 2 rfl rfl rfl ty76) rfl hT ?_; clear hE a; intro a hE
   replace hS := hF; clear hF hT
   have hT := tw_sel (A := fun w => St w s _) (B := fun w => St w s _) (w := _) (x := true) (y := true) (fun _ => hS) (fun _ => (hS.tail))
   have hF := hS; replace hS := (hS.tail)
   refine Rg.take (i := 3) false rfl hE rfl (by kernel_rfl) (runs_plain rfl) (Gives.nilOk hE rfl) rfl hT ?_; clear hE a; intro a hE
   replace hS := hF; clear hF hT
   refine Rg.takeP (i := 4) hE rfl (by kernel_rfl) (runs_plain rfl) (Gives.fld hE rfl fl148_1) rfl (tw_sel (fun _ => hS) (fun _ => (hS.tail))) ?_; clear hE a; intro a hE
   have hT := tw_sel (A := fun w => St w s _) (B := fun w => St w s _) (w := _) (x := true) (y := true) (fun _ => hS) (fun _ => (hS.tail))
   have hF := hS; replace hS := (hS.tail)
   refine Rg.take (i := 5) false rfl hE rfl (by kernel_rfl) (runs_plain rfl) (Gives.loadB hE 3 rfl rfl rfl ty3) rfl hT ?_; clear hE a; intro a hE
   replace hS := hF; clear hF hT
   obtain ⟨x84, hx85, hq60⟩ := bindS hq60
   refine Rg.takeP (i := 6) hE rfl (by kernel_rfl) (runs_plain rfl) (Gives.dv hE rfl rfl hx85) rfl (tw_sel (fun _ => hS) (fun _ => (hS.tail))) ?_; clear hE a; intro a hE
   refine Rg.takeP (i := 7) hE rfl (by kernel_rfl) (runs_plain rfl) (Gives.p hE rfl) rfl (tw_sel (fun _ => hS) (fun _ => (hS.tail))) ?_; clear hE a; intro a hE
   refine Rg.takeP (i := 8) hE rfl (by kernel_rfl) (runs_plain rfl) (Gives.p hE rfl) rfl (tw_sel (fun _ => hS) (fun _ => (hS.tail))) ?_; clear hE a; intro a hE
   have hT := tw_sel (A := fun w => St w s _) (B := fun w => St w s _) (w := _) (x := true) (y := true) (fun _ => hS) (fun _ => (hS.tail))
   have hF := hS; replace hS := (hS.tail)
   refine Rg.take (i := 9) false rfl hE rfl (by kernel_rfl) (runs_plain rfl) (Gives.loadB hE 2 rfl rfl rfl ty76) rfl hT ?_; clear hE a; intro a hE
   replace hS := hF; clear hF hT
   have hT := tw_sel (A := fun w => St w s _) (B := fun w => St w s _) (w := _) (x := true) (y := true) (fun _ => hS) (fun _ => (hS.tail))
   have hF := hS; replace hS := (hS.tail)
   refine Rg.take (i := 10) false rfl hE rfl (by kernel_rfl) (runs_plain rfl) (Gives.nilOk hE rfl) rfl hT ?_; clear hE a; intro a hE
   replace hS := hF; clear hF hT
   refine Rg.takeP (i := 11) hE rfl (by kernel_rfl) (runs_plain rfl) (Gives.fld hE rfl fl148_1) rfl (tw_sel (fun _ => hS) (fun _ => (hS.tail))) ?_; clear hE a; intro a hE
   have hT := tw_sel (A := fun w => St w s _) (B := fun w => St w s _) (w := _) (x := true) (y := true) (fun _ => hS) (fun _ => (hS.tail))
   have hF := hS; replace hS := (hS.tail)
   refine Rg.take (i := 12) false rfl hE rfl (by kernel_rfl) (runs_plain rfl) (Gives.loadB hE 3 rfl rfl rfl ty3) rfl hT ?_; clear hE a; intro a hE
   replace hS := hF; clear hF hT
   refine Rg.takeP (i := 13) hE rfl (by kernel_rfl) (runs_plain rfl) (Gives.dv hE rfl rfl hx85) rfl (tw_sel (fun _ => hS) (fun _ => (hS.tail))) ?_; clear hE a; intro a hE
   obtain ⟨x86, hx87, hq60⟩ := bindS hq60
   obtain ⟨hi88, hlt89, hy90⟩ := gx_some hx87
   obtain ⟨a91, c92, cs93, hd94, hev95⟩ := h76.at hy90
   refine Rg.takeP (i := 14) hE rfl (by kernel_rfl) (runs_plain rfl) (Gives.idx hE ((x84).toNat) rfl rfl sl23 hi88 (by have := hn77; omega) (hS.nAok 0 rfl (by have := hn77; omega : (x84).toNat < x54.length))) rfl (tw_sel (fun _ => hS) (fun _ => (hS.tail))) ?_; clear hE a; intro a hE
   have hT := tw_sel (A := fun w => St w s _) (B := fun w => St w s _) (w := _) (x := true) (y := true) (fun _ => hS) (fun _ => (hS.tail))
   have hF := hS; replace hS := hS
   refine Rg.take (i := 15) true rfl hE rfl (by kernel_rfl) (runs_plain rfl) (Gives.load1 (v := .slice a91 x86.length c92) hE rfl (fun w h => St.nSees h 0 rfl hd94) ty45) rfl hT ?_; clear hE a; intro a hE
   replace hS := hF; clear hF hT
   refine Rg.takeP (i := 16) hE rfl (by kernel_rfl) (runs_plain rfl) (Gives.p hE rfl) rfl (tw_sel (fun _ => hS) (fun _ => (hS.tail))) ?_; clear hE a; intro a hE
   refine Rg.one (i := 17) true true rfl (by kernel_rfl) (by kernel_rfl) (by kernel_rfl) ?_
   refine WL.lit hE hS (e := 3) (es := 1) (vs := [(0, .int .i64 x63)]) (cs := [.int .i64 x63]) (runs_plain rfl) rfl (by kernel_rfl) rfl ?_; clear hE hS a w; intro b96 a w hE hS
   refine WL.nil ?_
   refine ⟨⟨fun _ => (hS.tail), fun _ => ((hS.tail).tail)⟩, ?_⟩
   refine Rg.one (i := 18) false true rfl (by kernel_rfl) (by kernel_rfl) (by kernel_rfl) ?_
   replace hS := hS.borrowM 1 rfl hd94
   replace hS := hS.front 1 rfl
   obtain ⟨x98, hx99, hq60⟩ := bindS hq60
   refine WL.appD hE hS 0 (m := 1) (runs_plain rfl) rfl rfl rfl ap45 rfl hev95 (rfl) (xs := [x63]) (Ev.cons (c1 := [.int .i64 x63]) rfl rfl (Ev.nil)) rfl rfl hx99 rfl ?_; clear hE hS a w; intro a100 c101 cs102 a w h103 hE hS
   refine WL.nil ?_
   refine ⟨⟨fun h => absurd h (by decide), fun _ => ((hS.tail).tail)⟩, ?_⟩
   obtain ⟨_, hx104, hq60⟩ := bindS hq60
   obtain ⟨h105, h106⟩ := ix_some hx104
   refine Rg.takeP (i := 19) hE rfl (by kernel_rfl) (runs_plain rfl) (Gives.idx hE ((x84).toNat) rfl rfl sl23 h105 (by have := hn77; omega) (hS.hAok 1 rfl (by have := hn77; omega : (x84).toNat < x54.length))) rfl (tw_sel (fun h => absurd h (by decide)) (fun _ => ((hS.tail).tail))) ?_; clear hE a; intro a hE
   refine Rg.one (i := 20) false true rfl (by kernel_rfl) (by kernel_rfl) (by kernel_rfl) ?_
   obtain ⟨x107, hx108, hq60⟩ := bindS hq60
   refine WL.storeND hE hS 0 rfl (runs_plain rfl) rfl rfl ty45 h76 hn77 (by have := (sx_some hx108).1; omega) hx108 h103 (rfl) rfl ?_; clear hE hS a w; intro ds109 a w h110 hn111 hE hS
   refine WL.nil ?_
   refine ⟨⟨fun h => absurd h (by decide), fun _ => (hS.tail)⟩, ?_⟩
   refine Rg.done (by kernel_rfl) ?_
   subst hK83
   refine W.region ?_
   refine vP hS hE (Gives.inc hE rfl (by have := h1.small; omega)) rfl ?_; clear hE a; intro a hE
   refine vP hS hE (Gives.p hE rfl) rfl ?_; clear hE a; intro a hE
   refine WL.nil ?_
   subst hK78
   exact ⟨rest64.length, Nat.lt_succ_self _, rest64, k62 + 1, x107, ds109, rfl, hd65, hq60, h110, hn111, hE.pick _ ⟨rfl, rfl, rfl, rfl, rfl, rfl, rfl, rfl, rfl, trivial⟩, hS⟩
 ·clear hE hS a w; rintro a w ⟨q71, ds75, rfl, h76, hn77, hE, hS⟩
  refine W.seq (W.region ?_)
  refine vP hS hE (Gives.p hE rfl) rfl ?_; clear hE a; intro a hE
  refine WL.nil ?_
  refine W.seq ?_
  refine W.seq (W.region ?_)
  refine vP hS hE (Gives.p hE rfl) rfl ?_; clear hE a; intro a hE
  refine vP hS hE (Gives.len hE rfl sl23) rfl ?_; clear hE a; intro a hE
  refine vP hS hE (Gives.p hE rfl) rfl ?_; clear hE a; intro a hE
  refine WL.nil ?_
  have hb123 : x54.length ≤ 9223372036854775807 := by have := hS.nCap 0 rfl; unfold maxLen at this; omega
  obtain ⟨q113, hq112, hr⟩ := bindS hr
  refine W.cut (fun a w => ∃ (q124 : Int), q124 = q113 ∧ Rep a 98 [(1, .slice a1 x1.length c1), (4, .int .i64 x4), (5, .pointer (some ⟨b51, 0, none⟩)), (7, .pointer (some ⟨b52, 0, none⟩)), (8, .pointer (some ⟨b53, 0, none⟩)), (11, .slice (some ⟨b56, 0, none⟩) x54.length x54.length), (14, .int .i64 q124)] ∧ St w s (nestC 45 3 1 (some ⟨b56, 0, none⟩) x54.length x54.length ds75 :: pt b53 (.cells #[.int .i64 x3] 3 (0, 0)) :: pt b52 (.cells #[.int .i64 x2] 3 (0, 0)) :: pt b51 (.cells #[.pointer (some ⟨pb0, 0, none⟩)] 76 (0, 0)) :: pt pb0 (.cells #[.int .i64 y0.rows, .int .i64 y0.across, .int .i64 y0.stops, .slice a_v0 y0.bookings.length c_v0, .slice a_v1 y0.cancelled.length c_v1] 148 (0, 0)) :: vecC 80 4 a_v0 c_v0 y0.bookings.length cs_v0 :: vecC 4 1 a_v1 c_v1 y0.cancelled.length cs_v1 :: R)) ?_ ?_
  ·refine W.block ?_
   refine W.loop (fun m a w => ∃ (rest116 : Nat) (k114 : Nat), ∃ (q124 : Int), rest116 = m ∧ k114 + rest116 = x54.length ∧ FareCarchoose_v1.loop2 x4 q71 rest116 k114 q124 = some q113 ∧ Rep a 98 [(1, .slice a1 x1.length c1), (4, .int .i64 x4), (5, .pointer (some ⟨b51, 0, none⟩)), (7, .pointer (some ⟨b52, 0, none⟩)), (8, .pointer (some ⟨b53, 0, none⟩)), (11, .slice (some ⟨b56, 0, none⟩) x54.length x54.length), (14, .int .i64 q124), (50, .slice (some ⟨b56, 0, none⟩) x54.length x54.length), (51, .int .i64 ((x54.length : Nat) : Int)), (52, .int .i64 ((k114 : Nat) : Int))] ∧ St w s (nestC 45 3 1 (some ⟨b56, 0, none⟩) x54.length x54.length ds75 :: pt b53 (.cells #[.int .i64 x3] 3 (0, 0)) :: pt b52 (.cells #[.int .i64 x2] 3 (0, 0)) :: pt b51 (.cells #[.pointer (some ⟨pb0, 0, none⟩)] 76 (0, 0)) :: pt pb0 (.cells #[.int .i64 y0.rows, .int .i64 y0.across, .int .i64 y0.stops, .slice a_v0 y0.bookings.length c_v0, .slice a_v1 y0.cancelled.length c_v1] 148 (0, 0)) :: vecC 80 4 a_v0 c_v0 y0.bookings.length cs_v0 :: vecC 4 1 a_v1 c_v1 y0.cancelled.length cs_v1 :: R)) (m := x54.length) ⟨x54.length, 0, (-1), rfl, by omega, hq112, hE.pick _ ⟨rfl, rfl, rfl, rfl, rfl, rfl, rfl, rfl, rfl, rfl, trivial⟩, hS⟩ ?_
   clear hE hS a w hq112; rintro m120 a w ⟨rest116, k114, q124, rfl, hd117, hq112, hE, hS⟩
   refine W.gen fun K125 hK125 => ?_
   rcases rest116 with _ | rest116
   ·skip
    refine W.seq (W.region ?_)
    refine vP hS hE (Gives.p hE rfl) rfl ?_; clear hE a; intro a hE
    refine WL.nil ?_
    refine W.seq ?_
    refine W.condF hE rfl (decide_eq_false (by omega)) ?_
    subst hK125
    refine W.exit rfl ?_
    exact ⟨q124, Option.some.inj hq112, hE.pick _ ⟨rfl, rfl, rfl, rfl, rfl, rfl, rfl, trivial⟩, hS⟩
   ·have hlt118 : k114 < x54.length := by omega
    rw [FareCarchoose_v1.loop2] at hq112
    refine W.seq (W.region ?_)
    refine vP hS hE (Gives.p hE rfl) rfl ?_; clear hE a; intro a hE
    refine WL.nil ?_
    refine W.seq ?_
    refine W.condT hE rfl (decide_eq_true (by omega)) ?_
    refine W.skip ?_
    refine W.seq ?_
    refine W.block ?_
    refine W.seq (W.region ?_)
    refine vP hS hE (Gives.p hE rfl) rfl ?_; clear hE a; intro a hE
    obtain ⟨x126, hx127, hq112⟩ := bindS hq112
    obtain ⟨hi128, hlt129, hy130⟩ := gx_some hx127
    obtain ⟨a131, c132, cs133, hd134, hev135⟩ := h76.at hy130
    refine vP hS hE (Gives.idx hE ((((k114 : Nat) : Int)).toNat) rfl rfl sl23 hi128 (by have := hn77; omega) (hS.nAok 0 rfl (by have := hn77; omega : (((k114 : Nat) : Int)).toNat < x54.length))) rfl ?_; clear hE a; intro a hE
    refine vP hS hE (Gives.load1 (v := .slice a131 x126.length c132) hE rfl (fun w h => St.nSees h 0 rfl hd134) ty45) rfl ?_; clear hE a; intro a hE
    refine vP hS hE (Gives.p hE rfl) rfl ?_; clear hE a; intro a hE
    refine vP hS hE (Gives.p hE rfl) rfl ?_; clear hE a; intro a hE
    refine WL.nil ?_
    refine W.seq ?_
    obtain ⟨q137, hq136, hq112⟩ := bindS hq112
    refine W.cut (fun a w => ∃ (q140 : Bool), q140 = q137 ∧ Rep a 98 [(1, .slice a1 x1.length c1), (4, .int .i64 x4), (5, .pointer (some ⟨b51, 0, none⟩)), (7, .pointer (some ⟨b52, 0, none⟩)), (8, .pointer (some ⟨b53, 0, none⟩)), (11, .slice (some ⟨b56, 0, none⟩) x54.length x54.length), (14, .int .i64 q124), (15, .int .i64 ((k114 : Nat) : Int)), (50, .slice (some ⟨b56, 0, none⟩) x54.length x54.length), (51, .int .i64 ((x54.length : Nat) : Int)), (52, .int .i64 ((k114 : Nat) : Int)), (74, .bool q140)] ∧ St w s (nestC 45 3 1 (some ⟨b56, 0, none⟩) x54.length x54.length ds75 :: pt b53 (.cells #[.int .i64 x3] 3 (0, 0)) :: pt b52 (.cells #[.int .i64 x2] 3 (0, 0)) :: pt b51 (.cells #[.pointer (some ⟨pb0, 0, none⟩)] 76 (0, 0)) :: pt pb0 (.cells #[.int .i64 y0.rows, .int .i64 y0.across, .int .i64 y0.stops, .slice a_v0 y0.bookings.length c_v0, .slice a_v1 y0.cancelled.length c_v1] 148 (0, 0)) :: vecC 80 4 a_v0 c_v0 y0.bookings.length cs_v0 :: vecC 4 1 a_v1 c_v1 y0.cancelled.length cs_v1 :: R)) ?_ ?_
    ·refine W.gen fun K141 hK141 => ?_
     refine W.region ?_
     refine vP hS hE (Gives.p hE rfl) rfl ?_; clear hE a; intro a hE
     refine vP hS hE (Gives.len hE rfl sl45) rfl ?_; clear hE a; intro a hE
     refine vP hS hE (Gives.p hE rfl) rfl ?_; clear hE a; intro a hE
     refine vP hS hE (Gives.p hE rfl) rfl ?_; clear hE a; intro a hE
     refine vP hS hE (Gives.p hE rfl) rfl ?_; clear hE a; intro a hE
     rcases Bool.eq_false_or_eq_true (decide (((x126).length : Int) ≥ x4)) with hg142 | hg142
     ·replace hq136 := iteT hg142 hq136
      refine WL.vS hS hE (runs_if hE rfl rfl rfl hg142) (Gives.p hE rfl) rfl ?_; clear hE a; intro a hE
      refine WL.vS hS hE (runs_if hE rfl rfl rfl hg142) (Gives.p hE rfl) rfl ?_; clear hE a; intro a hE
      refine WL.vS hS hE (runs_if hE rfl rfl rfl hg142) (Gives.p hE rfl) rfl ?_; clear hE a; intro a hE
      rcases Bool.eq_false_or_eq_true (decide (q124 < 0)) with hg143 | hg143
      ·replace hq136 := iteT hg143 hq136
       refine WL.no hE (runs_not hE rfl rfl rfl (by rw [hg143]; decide)) rfl ?_; clear hE a; intro a hE
       refine WL.no hE (runs_not hE rfl rfl rfl (by rw [hg143]; decide)) rfl ?_; clear hE a; intro a hE
       refine WL.no hE (runs_not hE rfl rfl rfl (by rw [hg143]; decide)) rfl ?_; clear hE a; intro a hE
       refine WL.no hE (runs_not hE rfl rfl rfl (by rw [hg143]; decide)) rfl ?_; clear hE a; intro a hE
       refine WL.no hE (runs_not hE rfl rfl rfl (by rw [hg143]; decide)) rfl ?_; clear hE a; intro a hE
       refine WL.no hE (runs_not hE rfl rfl rfl (by rw [hg143]; decide)) rfl ?_; clear hE a; intro a hE
       refine WL.no hE (runs_not hE rfl rfl rfl (by rw [hg143]; decide)) rfl ?_; clear hE a; intro a hE
       refine WL.no hE (runs_not hE rfl rfl rfl (by rw [hg143]; decide)) rfl ?_; clear hE a; intro a hE
       refine WL.vS hS hE (runs_if hE rfl rfl rfl hg142) (Gives.pickT hE rfl hg143 rfl) rfl ?_; clear hE a; intro a hE
       refine vP hS hE (Gives.pickT hE rfl hg142 rfl) rfl ?_; clear hE a; intro a hE
       refine WL.nil ?_
       subst hK141
       exact ⟨true, Option.some.inj hq136, hE.pick _ ⟨rfl, rfl, rfl, rfl, rfl, rfl, rfl, rfl, rfl, rfl, rfl, rfl, trivial⟩, hS⟩
      ·replace hq136 := iteF hg143 hq136
       refine WL.vS hS hE (runs_if hE rfl rfl rfl hg143) (Gives.p hE rfl) rfl ?_; clear hE a; intro a hE
       refine WL.vS hS hE (runs_if hE rfl rfl rfl hg143) (Gives.len hE rfl sl45) rfl ?_; clear hE a; intro a hE
       refine WL.vS hS hE (runs_if hE rfl rfl rfl hg143) (Gives.p hE rfl) rfl ?_; clear hE a; intro a hE
       refine WL.vS hS hE (runs_if hE rfl rfl rfl hg143) (Gives.p hE rfl) rfl ?_; clear hE a; intro a hE
       obtain ⟨x144, hx145, hq136⟩ := bindS hq136
       obtain ⟨hi146, hlt147, hy148⟩ := gx_some hx145
       obtain ⟨a149, c150, cs151, hd152, hev153⟩ := h76.at hy148
       refine WL.vS hS hE (runs_if hE rfl rfl rfl hg143) (Gives.idx hE ((q124).toNat) rfl rfl sl23 hi146 (by have := hn77; omega) (hS.nAok 0 rfl (by have := hn77; omega : (q124).toNat < x54.length))) rfl ?_; clear hE a; intro a hE
       refine WL.vS hS hE (runs_if hE rfl rfl rfl hg143) (Gives.load1 (v := .slice a149 x144.length c150) hE rfl (fun w h => St.nSees h 0 rfl hd152) ty45) rfl ?_; clear hE a; intro a hE
       refine WL.vS hS hE (runs_if hE rfl rfl rfl hg143) (Gives.len hE rfl sl45) rfl ?_; clear hE a; intro a hE
       refine WL.vS hS hE (runs_if hE rfl rfl rfl hg143) (Gives.p hE rfl) rfl ?_; clear hE a; intro a hE
       refine WL.vS hS hE (runs_if hE rfl rfl rfl hg142) (Gives.pickF hE rfl hg143 rfl) rfl ?_; clear hE a; intro a hE
       refine vP hS hE (Gives.pickT hE rfl hg142 rfl) rfl ?_; clear hE a; intro a hE
       refine WL.nil ?_
       subst hK141
       exact ⟨decide (((x126).length : Int) < ((x144).length : Int)), Option.some.inj hq136, hE.pick _ ⟨rfl, rfl, rfl, rfl, rfl, rfl, rfl, rfl, rfl, rfl, rfl, rfl, trivial⟩, hS⟩
     ·replace hq136 := iteF hg142 hq136
      refine WL.no hE (runs_not hE rfl rfl rfl (by rw [hg142]; decide)) rfl ?_; clear hE a; intro a hE
      refine WL.no hE (runs_not hE rfl rfl rfl (by rw [hg142]; decide)) rfl ?_; clear hE a; intro a hE
      refine WL.no hE (runs_not hE rfl rfl rfl (by rw [hg142]; decide)) rfl ?_; clear hE a; intro a hE
      refine WL.no hE (runs_undef hE rfl rfl rfl) rfl ?_; clear hE a; intro a hE
      refine WL.no hE (runs_undef hE rfl rfl rfl) rfl ?_; clear hE a; intro a hE
      refine WL.no hE (runs_undef hE rfl rfl rfl) rfl ?_; clear hE a; intro a hE
      refine WL.no hE (runs_undef hE rfl rfl rfl) rfl ?_; clear hE a; intro a hE
      refine WL.no hE (runs_undef hE rfl rfl rfl) rfl ?_; clear hE a; intro a hE
      refine WL.no hE (runs_undef hE rfl rfl rfl) rfl ?_; clear hE a; intro a hE
      refine WL.no hE (runs_undef hE rfl rfl rfl) rfl ?_; clear hE a; intro a hE
      refine WL.no hE (runs_undef hE rfl rfl rfl) rfl ?_; clear hE a; intro a hE
      refine WL.no hE (runs_not hE rfl rfl rfl (by rw [hg142]; decide)) rfl ?_; clear hE a; intro a hE
      refine vP hS hE (Gives.pickF hE rfl hg142 rfl) rfl ?_; clear hE a; intro a hE
      refine WL.nil ?_
      subst hK141
      exact ⟨false, Option.some.inj hq136, hE.pick _ ⟨rfl, rfl, rfl, rfl, rfl, rfl, rfl, rfl, rfl, rfl, rfl, rfl, trivial⟩, hS⟩
    ·clear hE hS a w; rintro a w ⟨q140, rfl, hE, hS⟩
     obtain ⟨q155, hq154, hq112⟩ := bndS hq112
     refine W.cut (fun a w => ∃ (q158 : Int), q158 = q155 ∧ Rep a 98 [(1, .slice a1 x1.length c1), (4, .int .i64 x4), (5, .pointer (some ⟨b51, 0, none⟩)), (7, .pointer (some ⟨b52, 0, none⟩)), (8, .pointer (some ⟨b53, 0, none⟩)), (11, .slice (some ⟨b56, 0, none⟩) x54.length x54.length), (14, .int .i64 q158), (50, .slice (some ⟨b56, 0, none⟩) x54.length x54.length), (51, .int .i64 ((x54.length : Nat) : Int)), (52, .int .i64 ((k114 : Nat) : Int))] ∧ St w s (nestC 45 3 1 (some ⟨b56, 0, none⟩) x54.length x54.length ds75 :: pt b53 (.cells #[.int .i64 x3] 3 (0, 0)) :: pt b52 (.cells #[.int .i64 x2] 3 (0, 0)) :: pt b51 (.cells #[.pointer (some ⟨pb0, 0, none⟩)] 76 (0, 0)) :: pt pb0 (.cells #[.int .i64 y0.rows, .int .i64 y0.across, .int .i64 y0.stops, .slice a_v0 y0.bookings.length c_v0, .slice a_v1 y0.cancelled.length c_v1] 148 (0, 0)) :: vecC 80 4 a_v0 c_v0 y0.bookings.length cs_v0 :: vecC 4 1 a_v1 c_v1 y0.cancelled.length cs_v1 :: R)) ?_ ?_
     ·refine W.gen fun K159 hK159 => ?_
      refine W.cond hE rfl (fun hc160 => ?_) (fun hc160 => ?_)
      ·replace hq154 := iteT hc160 hq154
       refine W.region ?_
       refine vP hS hE (Gives.p hE rfl) rfl ?_; clear hE a; intro a hE
       refine vP hS hE (Gives.p hE rfl) rfl ?_; clear hE a; intro a hE
       refine WL.nil ?_
       subst hK159
       exact ⟨((k114 : Nat) : Int), hq154, hE.pick _ ⟨rfl, rfl, rfl, rfl, rfl, rfl, rfl, rfl, rfl, rfl, trivial⟩, hS⟩
      ·replace hq154 := iteF hc160 hq154
       refine W.skip ?_
       subst hK159
       exact ⟨q124, hq154, hE.pick _ ⟨rfl, rfl, rfl, rfl, rfl, rfl, rfl, rfl, rfl, rfl, trivial⟩, hS⟩
     ·clear hE hS a w; rintro a w ⟨q158, rfl, hE, hS⟩
      refine W.region ?_
      refine vP hS hE (Gives.inc hE rfl (by omega)) rfl ?_; clear hE a; intro a hE
      refine vP hS hE (Gives.p hE rfl) rfl ?_; clear hE a; intro a hE
      refine WL.nil ?_
      subst hK125
      exact ⟨rest116, Nat.lt_succ_self _, rest116, k114 + 1, q158, rfl, (by omega), hq112, hE.pick _ ⟨rfl, rfl, rfl, rfl, rfl, rfl, rfl, rfl, rfl, rfl, trivial⟩, hS⟩
  ·clear hE hS a w; rintro a w ⟨q124, rfl, hE, hS⟩
   refine W.seq ?_
   refine W.seq (W.region ?_)
   refine vP hS hE (Gives.p hE rfl) rfl ?_; clear hE a; intro a hE
   refine vP hS hE (Gives.p hE rfl) rfl ?_; clear hE a; intro a hE
   refine WL.nil ?_
   refine W.cond hE rfl (fun hc161 => ?_) (fun hc161 => ?_)
   ·replace hr := iteT hc161 hr
    refine W.seq (W.region ?_)
    refine vP hS hE (Gives.p hE rfl) rfl ?_; clear hE a; intro a hE
    refine vP hS hE (Gives.p hE rfl) rfl ?_; clear hE a; intro a hE
    obtain ⟨x162, hx163, hr⟩ := bindS hr
    obtain ⟨hi164, hlt165, hy166⟩ := gx_some hx163
    obtain ⟨a167, c168, cs169, hd170, hev171⟩ := h76.at hy166
    refine vP hS hE (Gives.idx hE ((q124).toNat) rfl rfl sl23 hi164 (by have := hn77; omega) (hS.nAok 0 rfl (by have := hn77; omega : (q124).toNat < x54.length))) rfl ?_; clear hE a; intro a hE
    refine vP hS hE (Gives.load1 (v := .slice a167 x162.length c168) hE rfl (fun w h => St.nSees h 0 rfl hd170) ty45) rfl ?_; clear hE a; intro a hE
    refine vP hS hE (Gives.p hE rfl) rfl ?_; clear hE a; intro a hE
    replace hS := hS.borrowM 0 rfl hd170
    obtain ⟨x173, hx174, hr⟩ := bindS hr
    obtain ⟨_, h175, h176, h177, h178, _⟩ := cutl_some hx174
    have h179 := (hS.vecCap 0 rfl).1
    have h180 : Ev 1 (RI .i64) s (cs169.take ((x4).toNat * 1)) x173 := by rw [h177]; exact hev171.take _
    have hn181 : x173.length = (x4).toNat := by rw [h177]; simp; omega
    replace hS := hS.vecTake 0 rfl (by omega)
    refine vP hS hE (Gives.slH hE sl45 rfl rfl h175 (Int.le_trans h176 (by omega)) (sliced_zero _ _ _ _)) rfl ?_; clear hE a; intro a hE
    obtain ⟨q182, hq183, hr⟩ := bindS hr
    have hF := hS.lendV RI.mono 0 rfl h180 hn181; clear hS; obtain ⟨t190, hle191, hS, hs192, bk193⟩ := hF
    have hc_ := (by have hc_ := SlicesCloneLint_ok hS hs192 hq183; rw [hn181] at hc_; exact hc_)
    refine WL.fnq hE (hc_) (runs_plain rfl) bd45 rfl rfl rfl ?_
    clear hE hS hc_; rintro e w ⟨a184, c185, n186, cs187, rfl, h188, rfl, hS⟩; refine ⟨_, rfl, ?_⟩; clear a; intro a hE
    replace hS := bk193 _ _ hS
    replace h188 := Ev.flat (s2 := s) (fun _ _ _ _ h => h) h188
    refine vP hS hE (Gives.p hE rfl) rfl ?_; clear hE a; intro a hE
    refine WL.nil ?_
    refine W.ret ?_
    refine finG (fn := Tryd.f92) (rs := [.tmp 10]) (vs := [_]) hE rfl ⟨rfl, trivial⟩ ?_
    obtain rfl := Option.some.inj hr
    replace hS := hS.tail
    replace hS := hS.dropAt 1
    replace hS := hS.dropAt 1
    replace hS := hS.dropAt 1
    replace hS := hS.dropAt 1
    exact ⟨a184, c185, q182.length, cs187, rfl, h188, rfl, hS⟩
   ·replace hr := iteF hc161 hr
    refine W.skip ?_
    refine W.seq (W.region ?_)
    refine vP hS hE (Gives.p hE rfl) rfl ?_; clear hE a; intro a hE
    obtain ⟨q194, hq195, hr⟩ := bindS hr
    have hc_ := SlicesCloneLint_ok hS h1 hq195
    refine WL.fnq hE (hc_) (runs_plain rfl) bd45 rfl rfl rfl ?_
    clear hE hS hc_; rintro e w ⟨a196, c197, n198, cs199, rfl, h200, rfl, hS⟩; refine ⟨_, rfl, ?_⟩; clear a; intro a hE
    refine vP hS hE (Gives.p hE rfl) rfl ?_; clear hE a; intro a hE
    refine WL.nil ?_
    refine W.seq (W.region ?_)
    refine vP hS hE (Gives.p hE rfl) rfl ?_; clear hE a; intro a hE
    refine vP hS hE (Gives.mkfn hE (vs := [.pointer (some ⟨b51, 0, none⟩), .pointer (some ⟨b52, 0, none⟩), .pointer (some ⟨b53, 0, none⟩)]) rfl) rfl ?_; clear hE a; intro a hE
    obtain ⟨q202, hq203, hr⟩ := bindS hr
    replace hS := hS.front 7 rfl
    replace hS := hS.front 7 rfl
    replace hS := hS.front 2 rfl
    replace hS := hS.front 7 rfl
    replace hS := hS.front 5 rfl
    replace hS := hS.front 6 rfl
    replace hS := hS.front 7 rfl
    have hc_ := SlicesSortStableFuncLint_v1_ok (y3 := y0) hS h200 rfl h_v0 (rfl) h_v1 (rfl) hq203
    refine WL.fnq hE (hc_) (runs_plain rfl) bd123 rfl rfl rfl ?_
    clear hE hS hc_; rintro e w ⟨cs204, rfl, h205, hn206, hS⟩; refine ⟨_, rfl, ?_⟩; clear a; intro a hE
    refine WL.nil ?_
    refine W.seq (W.region ?_)
    refine vP hS hE (Gives.p hE rfl) rfl ?_; clear hE a; intro a hE
    refine vP hS hE (Gives.p hE rfl) rfl ?_; clear hE a; intro a hE
    refine vP hS hE (Gives.p hE rfl) rfl ?_; clear hE a; intro a hE
    obtain ⟨x207, hx208, hr⟩ := bindS hr
    obtain ⟨_, h209, h210, h211, h212, _⟩ := cutl_some hx208
    have h213 := (hS.vecCap 4 rfl).1
    have h214 : Ev 1 (RI .i64) s (cs204.take ((x4).toNat * 1)) x207 := by rw [h211]; exact h205.take _
    have hn215 : x207.length = (x4).toNat := by rw [h211]; simp; omega
    replace hS := hS.vecTakeM 4 rfl (m := (x4).toNat) (by have := hn206; omega)
    refine vP hS hE (Gives.slHM hE sl45 rfl rfl rfl h209 (Int.le_refl _) (Int.le_trans h210 (by have := hn206; omega)) (sliced_zero _ _ _ _)) rfl ?_; clear hE a; intro a hE
    refine vP hS hE (Gives.p hE rfl) rfl ?_; clear hE a; intro a hE
    refine WL.nil ?_
    refine W.seq (W.region ?_)
    refine vP hS hE (Gives.p hE rfl) rfl ?_; clear hE a; intro a hE
    replace hS := hS.front 4 rfl
    obtain ⟨q219, hq220, hr⟩ := bindS hr
    refine WL.fnq hE (itSort_ok hS h214 hn215 hq220) (runs_plain rfl) bd43 rfl rfl rfl ?_
    clear hE hS; rintro e w ⟨cs217, rfl, h218, hn221, hS⟩; refine ⟨_, rfl, ?_⟩; clear a; intro a hE
    refine WL.nil ?_
    refine W.seq (W.region ?_)
    refine vP hS hE (Gives.p hE rfl) rfl ?_; clear hE a; intro a hE
    refine vP hS hE (Gives.p hE rfl) rfl ?_; clear hE a; intro a hE
    refine WL.nil ?_
    refine W.ret ?_
    refine finG (fn := Tryd.f92) (rs := [.tmp 10]) (vs := [_]) hE rfl ⟨rfl, trivial⟩ ?_
    obtain rfl := Option.some.inj hr
    replace hS := hS.dropAt 1
    replace hS := hS.dropAt 1
    replace hS := hS.dropAt 1
    replace hS := hS.dropAt 4
    exact ⟨a196, (x4).toNat, (x4).toNat, cs217, rfl, h218, hn221, hS⟩
set_option maxHeartbeats 8000000 in
theorem FareCarBook_v1_ok {fu : Nat}  {w : World} {s : Sg} {R : List HP} {pb0 : Nat} {x1 : Int} {x2 : Int} {x3 : Int} {y0 : FareCar} {a_v0 : Option Addr} {c_v0 n_v0 : Nat} {cs_v0 : List Value} {a_v1 : Option Addr} {c_v1 n_v1 : Nat} {cs_v1 : List Value} (hS : St w s (pt pb0 (.cells #[.int .i64 y0.rows, .int .i64 y0.across, .int .i64 y0.stops, .slice a_v0 n_v0 c_v0, .slice a_v1 n_v1 c_v1] 148 (0, 0)) :: vecC 80 4 a_v0 c_v0 n_v0 cs_v0 :: vecC 4 1 a_v1 c_v1 n_v1 cs_v1 :: R)) (h_v0 : Ev 4 RFareBooking s cs_v0 y0.bookings) (hn_v0 : y0.bookings.length = n_v0) (h_v1 : Ev 1 RB s cs_v1 y0.cancelled) (hn_v1 : y0.cancelled.length = n_v1) {r : FareBooking × Int × (List FareBooking) × (List Bool)} (hr : FareCarBook_v1 fu x1 x2 x3 y0 = some r) :
  Calls Tryd.prog 38 [.pointer (some ⟨pb0, 0, none⟩), .int .i64 x1, .int .i64 x2, .int .i64 x3].toArray w (fun e w => ∃ (cs0 : List Value) (a66 : Option Addr) (c67 : Nat) (n69 : Nat) (cs70 : List Value) (a73 : Option Addr) (c74 : Nat) (n76 : Nat) (cs77 : List Value) (t : Sg), e = .returned (.tuple #[.agg cs0.toArray, .int .i64 r.2.1]) ∧ s.Le t ∧ RFareBooking t cs0 r.1 ∧ Ev 4 RFareBooking t cs70 r.2.2.1 ∧ r.2.2.1.length = n69 ∧ Ev 1 RB t cs77 r.2.2.2 ∧ r.2.2.2.length = n76 ∧ St w t (pt pb0 (.cells #[.int .i64 y0.rows, .int .i64 y0.across, .int .i64 y0.stops, .slice a66 n69 c67, .slice a73 n76 c74] 148 (0, 0)) :: vecC 80 4 a66 c67 n69 cs70 :: vecC 4 1 a73 c74 n76 cs77 :: R)) := by
 refine enter Tryd.func38 rfl rfl rfl fun a hE => ?_
 rw [FareCarBook_v1] at hr
 subst hn_v0
 subst hn_v1
 refine W.seq (W.region ?_)
 refine WL.alloc hE hS (runs_plain rfl) zr80 rfl ?_; clear hE hS a w; intro b79 a w hE hS
 refine vP hS hE (Gives.p hE rfl) rfl ?_; clear hE a; intro a hE
 refine WL.nil ?_
 refine W.seq ?_
 refine W.seq ?_
 obtain ⟨q81, hq80, hr⟩ := bndS hr
 refine W.cut (fun a w => ∃ (q84 : Bool), q84 = q81 ∧ Rep a 73 [(0, .pointer (some ⟨pb0, 0, none⟩)), (1, .int .i64 x1), (2, .int .i64 x2), (3, .int .i64 x3), (8, .pointer (some ⟨b79, 0, none⟩)), (24, .bool q84)] ∧ St w s (pt b79 (.cells #[.int .i64 0, .int .i64 0, .int .i64 0, .slice none 0 0] 80 (0, 0)) :: pt pb0 (.cells #[.int .i64 y0.rows, .int .i64 y0.across, .int .i64 y0.stops, .slice a_v0 y0.bookings.length c_v0, .slice a_v1 y0.cancelled.length c_v1] 148 (0, 0)) :: vecC 80 4 a_v0 c_v0 y0.bookings.length cs_v0 :: vecC 4 1 a_v1 c_v1 y0.cancelled.length cs_v1 :: R)) ?_ ?_
 ·refine W.gen fun K85 hK85 => ?_
  refine W.region ?_
  refine vP hS hE (Gives.p hE rfl) rfl ?_; clear hE a; intro a hE
  refine vP hS hE (Gives.p hE rfl) rfl ?_; clear hE a; intro a hE
  refine vP hS hE (Gives.p hE rfl) rfl ?_; clear hE a; intro a hE
  refine vP hS hE (Gives.nilOk hE rfl) rfl ?_; clear hE a; intro a hE
  refine vP hS hE (Gives.fld hE rfl fl148_2) rfl ?_; clear hE a; intro a hE
  refine vP hS hE (Gives.loadB hE 1 rfl rfl rfl ty3) rfl ?_; clear hE a; intro a hE
  refine WL.fnq hE (Farespan_ok hS  rfl (r := Farespan x1 x2 y0.stops)) (runs_plain rfl) bd90 rfl rfl rfl ?_
  clear hE hS; rintro e w ⟨rfl, hS⟩; refine ⟨_, rfl, ?_⟩; clear a; intro a hE
  refine vP hS hE (Gives.p hE rfl) rfl ?_; clear hE a; intro a hE
  refine vP hS hE (Gives.p hE rfl) rfl ?_; clear hE a; intro a hE
  rcases Bool.eq_false_or_eq_true (!(Farespan x1 x2 y0.stops)) with hg86 | hg86
  ·replace hq80 := iteT hg86 hq80
   refine WL.no hE (runs_not hE rfl rfl rfl (by rw [hg86]; decide)) rfl ?_; clear hE a; intro a hE
   refine WL.no hE (runs_not hE rfl rfl rfl (by rw [hg86]; decide)) rfl ?_; clear hE a; intro a hE
   refine WL.no hE (runs_not hE rfl rfl rfl (by rw [hg86]; decide)) rfl ?_; clear hE a; intro a hE
   refine vP hS hE (Gives.pickT hE rfl hg86 rfl) rfl ?_; clear hE a; intro a hE
   refine WL.nil ?_
   subst hK85
   exact ⟨true, hq80, hE.pick _ ⟨rfl, rfl, rfl, rfl, rfl, rfl, trivial⟩, hS⟩
  ·replace hq80 := iteF hg86 hq80
   refine WL.vS hS hE (runs_if hE rfl rfl rfl hg86) (Gives.p hE rfl) rfl ?_; clear hE a; intro a hE
   refine WL.fnq hE (Farewithin_ok hS  rfl (r := Farewithin x3 1 8)) (runs_if hE rfl rfl rfl hg86) bd89 rfl rfl rfl ?_
   clear hE hS; rintro e w ⟨rfl, hS⟩; refine ⟨_, rfl, ?_⟩; clear a; intro a hE
   refine WL.vS hS hE (runs_if hE rfl rfl rfl hg86) (Gives.p hE rfl) rfl ?_; clear hE a; intro a hE
   refine vP hS hE (Gives.pickF hE rfl hg86 rfl) rfl ?_; clear hE a; intro a hE
   refine WL.nil ?_
   subst hK85
   exact ⟨!(Farewithin x3 1 8), hq80, hE.pick _ ⟨rfl, rfl, rfl, rfl, rfl, rfl, trivial⟩, hS⟩
 ·clear hE hS a w; rintro a w ⟨q84, rfl, hE, hS⟩
  refine W.cond hE rfl (fun hc87 => ?_) (fun hc87 => ?_)
  ·replace hr := iteT hc87 hr
   refine W.seq (W.region ?_)
   refine vP hS hE (Gives.build hE (vs := []) [.int .i64 0, .int .i64 0, .int .i64 0, .slice none 0 0] rfl (by kernel_rfl)) rfl ?_; clear hE a; intro a hE
   refine WL.storeI hE hS 0 rfl [.int .i64 0, .int .i64 0, .int .i64 0, .slice none 0 0] (runs_plain rfl) rfl rfl rfl ty80 rfl rfl rfl rfl ?_; clear hE hS a w; intro a w hE hS
   refine vP hS hE (Gives.p hE rfl) rfl ?_; clear hE a; intro a hE
   refine WL.nil ?_
   refine W.ret ?_
   refine finG (fn := Tryd.f38) (rs := [.cell 8 80, .tmp 9]) (vs := [_, _]) hE rfl ⟨⟨_, rfl, .inl ⟨_, rfl, hS.seesAt 0 rfl, ty80⟩⟩, rfl, trivial⟩ ?_
   obtain rfl := Option.some.inj hr
   replace hS := hS.tail
   exact ⟨_, a_v0, c_v0, y0.bookings.length, cs_v0, a_v1, c_v1, y0.cancelled.length, cs_v1, s, rfl, (Sg.Le.refl _), ⟨_, _, rfl, Sl.nil⟩, h_v0, (rfl), h_v1, (rfl), hS⟩
  ·replace hr := iteF hc87 hr
   refine W.skip ?_
   refine W.seq (W.region ?_)
   refine vP hS hE (Gives.p hE rfl) rfl ?_; clear hE a; intro a hE
   refine vP hS hE (Gives.p hE rfl) rfl ?_; clear hE a; intro a hE
   refine vP hS hE (Gives.p hE rfl) rfl ?_; clear hE a; intro a hE
   obtain ⟨q88, hq89, hr⟩ := bindS hr
   replace hS := hS.front 3 rfl
   replace hS := hS.front 3 rfl
   replace hS := hS.front 3 rfl
   have hc_ := FareCarfree_v1_ok (y0 := y0) hS h_v0 (rfl) h_v1 (rfl) hq89
   refine WL.fnq hE (hc_) (runs_plain rfl) bd91 rfl rfl rfl ?_
   clear hE hS hc_; rintro e w ⟨a90, c91, n92, cs93, rfl, h94, rfl, hS⟩; refine ⟨_, rfl, ?_⟩; clear a; intro a hE
   refine vP hS hE (Gives.p hE rfl) rfl ?_; clear hE a; intro a hE
   refine WL.nil ?_
   refine W.seq ?_
   refine W.seq (W.region ?_)
   refine vP hS hE (Gives.p hE rfl) rfl ?_; clear hE a; intro a hE
   refine vP hS hE (Gives.len hE rfl sl45) rfl ?_; clear hE a; intro a hE
   refine vP hS hE (Gives.p hE rfl) rfl ?_; clear hE a; intro a hE
   refine vP hS hE (Gives.p hE rfl) rfl ?_; clear hE a; intro a hE
   refine WL.nil ?_
   refine W.cond hE rfl (fun hc96 => ?_) (fun hc96 => ?_)
   ·replace hr := iteT hc96 hr
    refine W.seq (W.region ?_)
    refine vP hS hE (Gives.build hE (vs := []) [.int .i64 0, .int .i64 0, .int .i64 0, .slice none 0 0] rfl (by kernel_rfl)) rfl ?_; clear hE a; intro a hE
    refine WL.storeI hE hS 4 rfl [.int .i64 0, .int .i64 0, .int .i64 0, .slice none 0 0] (runs_plain rfl) rfl rfl rfl ty80 rfl rfl rfl rfl ?_; clear hE hS a w; intro a w hE hS
    refine vP hS hE (Gives.p hE rfl) rfl ?_; clear hE a; intro a hE
    refine WL.nil ?_
    refine W.ret ?_
    refine finG (fn := Tryd.f38) (rs := [.cell 8 80, .tmp 9]) (vs := [_, _]) hE rfl ⟨⟨_, rfl, .inl ⟨_, rfl, hS.seesAt 4 rfl, ty80⟩⟩, rfl, trivial⟩ ?_
    obtain rfl := Option.some.inj hr
    replace hS := hS.tail
    replace hS := hS.dropAt 3
    exact ⟨_, a_v0, c_v0, y0.bookings.length, cs_v0, a_v1, c_v1, y0.cancelled.length, cs_v1, s, rfl, (Sg.Le.refl _), ⟨_, _, rfl, Sl.nil⟩, h_v0, (rfl), h_v1, (rfl), hS⟩
   ·replace hr := iteF hc96 hr
    refine W.skip ?_
    refine W.seq ?_
    refine W.gen fun K97 hK97 => ?_
    refine W.regionE (sel (fun w => St w s (vecC 3 1 a90 c91 q88.length cs93 :: pt pb0 (.cells #[.int .i64 y0.rows, .int .i64 y0.across, .int .i64 y0.stops, .slice a_v0 y0.bookings.length c_v0, .slice a_v1 y0.cancelled.length c_v1] 148 (0, 0)) :: vecC 80 4 a_v0 c_v0 y0.bookings.length cs_v0 :: vecC 4 1 a_v1 c_v1 y0.cancelled.length cs_v1 :: pt b79 (.cells #[.int .i64 0, .int .i64 0, .int .i64 0, .slice none 0 0] 80 (0, 0)) :: R)) (fun w => St w s (vecC 3 1 a90 c91 q88.length cs93 :: pt pb0 (.cells #[.int .i64 y0.rows, .int .i64 y0.across, .int .i64 y0.stops, .slice a_v0 y0.bookings.length c_v0, .slice a_v1 y0.cancelled.length c_v1] 148 (0, 0)) :: vecC 80 4 a_v0 c_v0 y0.bookings.length cs_v0 :: vecC 4 1 a_v1 c_v1 y0.cancelled.length cs_v1 :: pt b79 (.cells #[.int .i64 0, .int .i64 0, .int .i64 0, .slice none 0 0] 80 (0, 0)) :: R))) (fun b i => cond b ([0, 1, 2, 3, 4, 5, 6, 7, 8, 9, 10, 11, 12, 13, 14, 15].contains i) ([0, 1, 2, 3, 4, 5, 6, 7, 8, 9, 10, 11, 12, 13, 14, 15].contains i)) mixed ?_
    replace hS := hS.drew
    refine Rg.takeP (i := 0) hE rfl (by kernel_rfl) (runs_plain rfl) (Gives.p hE rfl) rfl (tw_sel (fun _ => hS) (fun _ => hS)) ?_; clear hE a; intro a hE
    have hT := tw_sel (A := fun w => St w s _) (B := fun w => St w s _) (w := _) (x := true) (y := true) (fun _ => hS) (fun _ => hS)
    have hF := hS; replace hS := hS
    refine Rg.take (i := 1) true rfl hE rfl (by kernel_rfl) (runs_plain rfl) (Gives.nilOk hE rfl) rfl hT ?_; clear hE a; intro a hE
    replace hS := hF; clear hF hT
    refine Rg.takeP (i := 2) hE rfl (by kernel_rfl) (runs_plain rfl) (Gives.fld hE rfl fl148_3) rfl (tw_sel (fun _ => hS) (fun _ => hS)) ?_; clear hE a; intro a hE
    have hT := tw_sel (A := fun w => St w s _) (B := fun w => St w s _) (w := _) (x := true) (y := true) (fun _ => hS) (fun _ => hS)
    have hF := hS; replace hS := hS
    refine Rg.take (i := 3) true rfl hE rfl (by kernel_rfl) (runs_plain rfl) (Gives.loadB hE 1 rfl rfl rfl ty85) rfl hT ?_; clear hE a; intro a hE
    replace hS := hF; clear hF hT
    refine Rg.takeP (i := 4) hE rfl (by kernel_rfl) (runs_plain rfl) (Gives.len hE rfl sl85) rfl (tw_sel (fun _ => hS) (fun _ => hS)) ?_; clear hE a; intro a hE
    refine Rg.takeP (i := 5) hE rfl (by kernel_rfl) (runs_plain rfl) (Gives.p hE rfl) rfl (tw_sel (fun _ => hS) (fun _ => hS)) ?_; clear hE a; intro a hE
    refine Rg.takeP (i := 6) hE rfl (by kernel_rfl) (runs_plain rfl) (Gives.p hE rfl) rfl (tw_sel (fun _ => hS) (fun _ => hS)) ?_; clear hE a; intro a hE
    refine Rg.takeP (i := 7) hE rfl (by kernel_rfl) (runs_plain rfl) (Gives.p hE rfl) rfl (tw_sel (fun _ => hS) (fun _ => hS)) ?_; clear hE a; intro a hE
    refine Rg.takeP (i := 8) hE rfl (by kernel_rfl) (runs_plain rfl) (Gives.p hE rfl) rfl (tw_sel (fun _ => hS) (fun _ => hS)) ?_; clear hE a; intro a hE
    refine Rg.takeP (i := 9) hE rfl (by kernel_rfl) (runs_plain rfl) (Gives.p hE rfl) rfl (tw_sel (fun _ => hS) (fun _ => hS)) ?_; clear hE a; intro a hE
    refine Rg.takeP (i := 10) hE rfl (by kernel_rfl) (runs_plain rfl) (Gives.p hE rfl) rfl (tw_sel (fun _ => hS) (fun _ => hS)) ?_; clear hE a; intro a hE
    refine Rg.takeP (i := 11) hE rfl (by kernel_rfl) (runs_plain rfl) (Gives.p hE rfl) rfl (tw_sel (fun _ => hS) (fun _ => hS)) ?_; clear hE a; intro a hE
    obtain ⟨q98, hq99, hr⟩ := bindS hr
    suffices key : ∀ cs103 b110 a100 c101 (a : Act) (w : World), Ev 1 (RI .i64) s cs93 q88 → Ev 1 (RI .i64) s cs103 q98 → Ev 4 RFareBooking s cs_v0 y0.bookings → Ev 1 RB s cs_v1 y0.cancelled → Rep a 73 [(0, .pointer (some ⟨pb0, 0, none⟩)), (8, .pointer (some ⟨b79, 0, none⟩)), (11, .pointer (some ⟨b110, 0, none⟩))] → St w s (pt b110 (.cells #[.int .i64 ((y0.bookings.length : Nat) : Int), .int .i64 x1, .int .i64 x2, .slice a100 q98.length c101] 80 (0, 0)) :: vecC 3 1 a90 c91 q88.length cs93 :: vecC 3 1 a100 c101 q98.length cs103 :: pt pb0 (.cells #[.int .i64 y0.rows, .int .i64 y0.across, .int .i64 y0.stops, .slice a_v0 y0.bookings.length c_v0, .slice a_v1 y0.cancelled.length c_v1] 148 (0, 0)) :: vecC 80 4 a_v0 c_v0 y0.bookings.length cs_v0 :: vecC 4 1 a_v1 c_v1 y0.cancelled.length cs_v1 :: pt b79 (.cells #[.int .i64 0, .int .i64 0, .int .i64 0, .slice none 0 0] 80 (0, 0)) :: R) → K97.nor a w by
     refine Rg.many 12 [14] (by kernel_rfl) ⟨?_, ?_, trivial⟩
     ·refine Br.mk (i := 12) true true rfl (by kernel_rfl) (by kernel_rfl) ?_
      have hF := hS.lendV RI.mono 0 rfl h94 rfl; clear hS; obtain ⟨t106, hle107, hS, hs108, bk109⟩ := hF
      have hc_ := FareCarchoose_v1_ok (y0 := y0) hS hs108 (Ev.mono RFareBooking.mono hle107 h_v0) (rfl) (Ev.mono RB.mono hle107 h_v1) (rfl) hq99
      refine WL.fnq hE (hc_) (runs_plain rfl) bd92 rfl rfl rfl ?_
      clear hE hS hc_; rintro e w ⟨a100, c101, n102, cs103, rfl, h104, rfl, hS⟩; refine ⟨_, rfl, ?_⟩; clear a; intro a hE
      replace hS := bk109 _ _ hS
      replace h104 := Ev.flat (s2 := s) (fun _ _ _ _ h => h) h104
      refine WL.nil ?_
      refine ⟨⟨fun _ => (hS.dropAt 1), fun _ => (hS.dropAt 1)⟩, ?_⟩
      refine Rg.takeP (i := 13) hE rfl (by kernel_rfl) (runs_plain rfl) (Gives.build hE (vs := [(0, .int .i64 ((y0.bookings.length : Nat) : Int)), (1, .int .i64 x1), (2, .int .i64 x2), (3, .slice a100 q98.length c101)]) [.int .i64 ((y0.bookings.length : Nat) : Int), .int .i64 x1, .int .i64 x2, .slice a100 q98.length c101] rfl (by kernel_rfl)) rfl (tw_sel (fun _ => (hS.dropAt 1)) (fun _ => (hS.dropAt 1))) ?_; clear hE a; intro a hE
      refine Rg.one (i := 14) true true rfl (by kernel_rfl) (by kernel_rfl) (by kernel_rfl) ?_
      refine WL.alloc hE hS (runs_plain rfl) zr80 rfl ?_; clear hE hS a w; intro b110 a w hE hS
      refine WL.nil ?_
      refine ⟨⟨fun _ => ((hS.tail).dropAt 1), fun _ => ((hS.tail).dropAt 1)⟩, ?_⟩
      refine Rg.one (i := 15) true true rfl (by kernel_rfl) (by kernel_rfl) (by kernel_rfl) ?_
      refine WL.storeI hE hS 0 rfl [.int .i64 ((y0.bookings.length : Nat) : Int), .int .i64 x1, .int .i64 x2, .slice a100 q98.length c101] (runs_plain rfl) rfl rfl rfl ty80 rfl rfl rfl rfl ?_; clear hE hS a w; intro a w hE hS
      refine WL.nil ?_
      refine ⟨⟨fun _ => ((hS.tail).dropAt 1), fun _ => ((hS.tail).dropAt 1)⟩, ?_⟩
      refine Rg.done (by kernel_rfl) ?_
      exact key _ _ _ _ _ _ h94 h104 h_v0 h_v1 (hE.pick _ ⟨rfl, rfl, rfl, trivial⟩) hS
     ·refine Br.mk (i := 14) true true rfl (by kernel_rfl) (by kernel_rfl) ?_
      refine WL.alloc hE hS (runs_plain rfl) zr80 rfl ?_; clear hE hS a w; intro b110 a w hE hS
      refine WL.nil ?_
      refine ⟨⟨fun _ => (hS.tail), fun _ => (hS.tail)⟩, ?_⟩
      refine Rg.one (i := 12) true true rfl (by kernel_rfl) (by kernel_rfl) (by kernel_rfl) ?_
      have hF := hS.lendV RI.mono 1 rfl h94 rfl; clear hS; obtain ⟨t106, hle107, hS, hs108, bk109⟩ := hF
      replace hS := hS.front 3 rfl
      replace hS := hS.front 3 rfl
      replace hS := hS.front 3 rfl
      have hc_ := FareCarchoose_v1_ok (y0 := y0) hS hs108 (Ev.mono RFareBooking.mono hle107 h_v0) (rfl) (Ev.mono RB.mono hle107 h_v1) (rfl) hq99
      refine WL.fnq hE (hc_) (runs_plain rfl) bd92 rfl rfl rfl ?_
      clear hE hS hc_; rintro e w ⟨a100, c101, n102, cs103, rfl, h104, rfl, hS⟩; refine ⟨_, rfl, ?_⟩; clear a; intro a hE
      replace hS := bk109 _ _ hS
      replace h104 := Ev.flat (s2 := s) (fun _ _ _ _ h => h) h104
      refine WL.nil ?_
      refine ⟨⟨fun _ => ((hS.dropAt 1).dropAt 4), fun _ => ((hS.dropAt 1).dropAt 4)⟩, ?_⟩
      refine Rg.takeP (i := 13) hE rfl (by kernel_rfl) (runs_plain rfl) (Gives.build hE (vs := [(0, .int .i64 ((y0.bookings.length : Nat) : Int)), (1, .int .i64 x1), (2, .int .i64 x2), (3, .slice a100 q98.length c101)]) [.int .i64 ((y0.bookings.length : Nat) : Int), .int .i64 x1, .int .i64 x2, .slice a100 q98.length c101] rfl (by kernel_rfl)) rfl (tw_sel (fun _ => ((hS.dropAt 1).dropAt 4)) (fun _ => ((hS.dropAt 1).dropAt 4))) ?_; clear hE a; intro a hE
      refine Rg.one (i := 15) true true rfl (by kernel_rfl) (by kernel_rfl) (by kernel_rfl) ?_
      refine WL.storeI hE hS 5 rfl [.int .i64 ((y0.bookings.length : Nat) : Int), .int .i64 x1, .int .i64 x2, .slice a100 q98.length c101] (runs_plain rfl) rfl rfl rfl ty80 rfl rfl rfl rfl ?_; clear hE hS a w; intro a w hE hS
      refine WL.nil ?_
      refine ⟨⟨fun _ => ((hS.dropAt 1).dropAt 4), fun _ => ((hS.dropAt 1).dropAt 4)⟩, ?_⟩
      refine Rg.done (by kernel_rfl) ?_
      replace hS := hS.front 6 rfl
      replace hS := hS.front 5 rfl
      replace hS := hS.front 5 rfl
      replace hS := hS.front 5 rfl
      replace hS := hS.front 5 rfl
      replace hS := hS.front 5 rfl
      replace hS := hS.front 6 rfl
      exact key _ _ _ _ _ _ h94 h104 h_v0 h_v1 (hE.pick _ ⟨rfl, rfl, rfl, trivial⟩) hS
    clear hE hS a w; intro cs103 b110 a100 c101 a w h94 h104 h_v0 h_v1 hE hS
    subst hK97
    refine W.seq ?_
    have hF := hS.fixD RI.mono 2 rfl h104 rfl; clear hS; obtain ⟨s112, hle113, hS, h114⟩ := hF
    replace h94 := Ev.mono RI.mono hle113 h94
    replace h_v0 := Ev.mono RFareBooking.mono hle113 h_v0
    replace h_v1 := Ev.mono RB.mono hle113 h_v1
    refine W.gen fun K115 hK115 => ?_
    refine W.regionE (sel (fun w => St w s112 (pt b110 (.cells #[.int .i64 ((y0.bookings.length : Nat) : Int), .int .i64 x1, .int .i64 x2, .slice a100 q98.length c101] 80 (0, 0)) :: vecC 3 1 a90 c91 q88.length cs93 :: pt pb0 (.cells #[.int .i64 y0.rows, .int .i64 y0.across, .int .i64 y0.stops, .slice a_v0 y0.bookings.length c_v0, .slice a_v1 y0.cancelled.length c_v1] 148 (0, 0)) :: vecC 80 4 a_v0 c_v0 y0.bookings.length cs_v0 :: vecC 4 1 a_v1 c_v1 y0.cancelled.length cs_v1 :: pt b79 (.cells #[.int .i64 0, .int .i64 0, .int .i64 0, .slice none 0 0] 80 (0, 0)) :: R)) (fun w => St w s112 (pt b110 (.cells #[.int .i64 ((y0.bookings.length : Nat) : Int), .int .i64 x1, .int .i64 x2, .slice a100 q98.length c101] 80 (0, 0)) :: vecC 3 1 a90 c91 q88.length cs93 :: pt pb0 (.cells #[.int .i64 y0.rows, .int .i64 y0.across, .int .i64 y0.stops, .slice a_v0 y0.bookings.length c_v0, .slice a_v1 y0.cancelled.length c_v1] 148 (0, 0)) :: pt b79 (.cells #[.int .i64 0, .int .i64 0, .int .i64 0, .slice none 0 0] 80 (0, 0)) :: R))) (fun b i => cond b ([0, 1, 2, 3, 4, 5, 6, 7, 9, 10, 11, 12, 13, 15, 16, 18, 19].contains i) ([0, 1, 2, 3, 4, 5, 6, 7, 8, 9, 10, 11, 12, 13, 14, 15, 16, 18, 19].contains i)) mixed ?_
    replace hS := hS.drew
    refine Rg.takeP (i := 0) hE rfl (by kernel_rfl) (runs_plain rfl) (Gives.p hE rfl) rfl (tw_sel (fun _ => hS) (fun _ => ((hS.dropAt 3).dropAt 3))) ?_; clear hE a; intro a hE
    refine Rg.takeP (i := 1) hE rfl (by kernel_rfl) (runs_plain rfl) (Gives.p hE rfl) rfl (tw_sel (fun _ => hS) (fun _ => ((hS.dropAt 3).dropAt 3))) ?_; clear hE a; intro a hE
    refine Rg.takeP (i := 2) hE rfl (by kernel_rfl) (runs_plain rfl) (Gives.p hE rfl) rfl (tw_sel (fun _ => hS) (fun _ => ((hS.dropAt 3).dropAt 3))) ?_; clear hE a; intro a hE
    have hT := tw_sel (A := fun w => St w s112 (pt b110 (.cells #[.int .i64 ((y0.bookings.length : Nat) : Int), .int .i64 x1, .int .i64 x2, .slice a100 q98.length c101] 80 (0, 0)) :: vecC 3 1 a90 c91 q88.length cs93 :: pt pb0 (.cells #[.int .i64 y0.rows, .int .i64 y0.across, .int .i64 y0.stops, .slice a_v0 y0.bookings.length c_v0, .slice a_v1 y0.cancelled.length c_v1] 148 (0, 0)) :: vecC 80 4 a_v0 c_v0 y0.bookings.length cs_v0 :: vecC 4 1 a_v1 c_v1 y0.cancelled.length cs_v1 :: pt b79 (.cells #[.int .i64 0, .int .i64 0, .int .i64 0, .slice none 0 0] 80 (0, 0)) :: R)) (B := fun w => St w s112 (pt b110 (.cells #[.int .i64 ((y0.bookings.length : Nat) : Int), .int .i64 x1, .int .i64 x2, .slice a100 q98.length c101] 80 (0, 0)) :: vecC 3 1 a90 c91 q88.length cs93 :: pt pb0 (.cells #[.int .i64 y0.rows, .int .i64 y0.across, .int .i64 y0.stops, .slice a_v0 y0.bookings.length c_v0, .slice a_v1 y0.cancelled.length c_v1] 148 (0, 0)) :: pt b79 (.cells #[.int .i64 0, .int .i64 0, .int .i64 0, .slice none 0 0] 80 (0, 0)) :: R)) (w := _) (x := true) (y := true) (fun _ => hS) (fun _ => ((hS.dropAt 3).dropAt 3))
    have hF := hS; replace hS := ((hS.dropAt 3).dropAt 3)
    refine Rg.take (i := 3) false rfl hE rfl (by kernel_rfl) (runs_plain rfl) (Gives.nilOk hE rfl) rfl hT ?_; clear hE a; intro a hE
    replace hS := hF; clear hF hT
    refine Rg.takeP (i := 4) hE rfl (by kernel_rfl) (runs_plain rfl) (Gives.fld hE rfl fl148_3) rfl (tw_sel (fun _ => hS) (fun _ => ((hS.dropAt 3).dropAt 3))) ?_; clear hE a; intro a hE
    have hT := tw_sel (A := fun w => St w s112 (pt b110 (.cells #[.int .i64 ((y0.bookings.length : Nat) : Int), .int .i64 x1, .int .i64 x2, .slice a100 q98.length c101] 80 (0, 0)) :: vecC 3 1 a90 c91 q88.length cs93 :: pt pb0 (.cells #[.int .i64 y0.rows, .int .i64 y0.across, .int .i64 y0.stops, .slice a_v0 y0.bookings.length c_v0, .slice a_v1 y0.cancelled.length c_v1] 148 (0, 0)) :: vecC 80 4 a_v0 c_v0 y0.bookings.length cs_v0 :: vecC 4 1 a_v1 c_v1 y0.cancelled.length cs_v1 :: pt b79 (.cells #[.int .i64 0, .int .i64 0, .int .i64 0, .slice none 0 0] 80 (0, 0)) :: R)) (B := fun w => St w s112 (pt b110 (.cells #[.int .i64 ((y0.bookings.length : Nat) : Int), .int .i64 x1, .int .i64 x2, .slice a100 q98.length c101] 80 (0, 0)) :: vecC 3 1 a90 c91 q88.length cs93 :: pt pb0 (.cells #[.int .i64 y0.rows, .int .i64 y0.across, .int .i64 y0.stops, .slice a_v0 y0.bookings.length c_v0, .slice a_v1 y0.cancelled.length c_v1] 148 (0, 0)) :: pt b79 (.cells #[.int .i64 0, .int .i64 0, .int .i64 0, .slice none 0 0] 80 (0, 0)) :: R)) (w := _) (x := true) (y := true) (fun _ => hS) (fun _ => ((hS.dropAt 3).dropAt 3))
    have hF := hS; replace hS := ((hS.dropAt 3).dropAt 3)
    refine Rg.take (i := 5) false rfl hE rfl (by kernel_rfl) (runs_plain rfl) (Gives.loadB hE 2 rfl rfl rfl ty85) rfl hT ?_; clear hE a; intro a hE
    replace hS := hF; clear hF hT
    have hT := tw_sel (A := fun w => St w s112 (pt b110 (.cells #[.int .i64 ((y0.bookings.length : Nat) : Int), .int .i64 x1, .int .i64 x2, .slice a100 q98.length c101] 80 (0, 0)) :: vecC 3 1 a90 c91 q88.length cs93 :: pt pb0 (.cells #[.int .i64 y0.rows, .int .i64 y0.across, .int .i64 y0.stops, .slice a_v0 y0.bookings.length c_v0, .slice a_v1 y0.cancelled.length c_v1] 148 (0, 0)) :: vecC 80 4 a_v0 c_v0 y0.bookings.length cs_v0 :: vecC 4 1 a_v1 c_v1 y0.cancelled.length cs_v1 :: pt b79 (.cells #[.int .i64 0, .int .i64 0, .int .i64 0, .slice none 0 0] 80 (0, 0)) :: R)) (B := fun w => St w s112 (pt b110 (.cells #[.int .i64 ((y0.bookings.length : Nat) : Int), .int .i64 x1, .int .i64 x2, .slice a100 q98.length c101] 80 (0, 0)) :: vecC 3 1 a90 c91 q88.length cs93 :: pt pb0 (.cells #[.int .i64 y0.rows, .int .i64 y0.across, .int .i64 y0.stops, .slice a_v0 y0.bookings.length c_v0, .slice a_v1 y0.cancelled.length c_v1] 148 (0, 0)) :: pt b79 (.cells #[.int .i64 0, .int .i64 0, .int .i64 0, .slice none 0 0] 80 (0, 0)) :: R)) (w := _) (x := true) (y := true) (fun _ => hS) (fun _ => ((hS.dropAt 3).dropAt 3))
    have hF := hS; replace hS := ((hS.dropAt 3).dropAt 3)
    refine Rg.take (i := 6) false rfl hE rfl (by kernel_rfl) (runs_plain rfl) (Gives.loadBA hE 0 rfl rfl ty80) rfl hT ?_; clear hE a; intro a hE
    replace hS := hF; clear hF hT
    refine Rg.takeP (i := 9) hE rfl (by kernel_rfl) (runs_plain rfl) (Gives.p hE rfl) rfl (tw_sel (fun _ => hS) (fun _ => ((hS.dropAt 3).dropAt 3))) ?_; clear hE a; intro a hE
    obtain ⟨x117, hx118, hr⟩ := bindS hr
    obtain ⟨x124, hx125, hr⟩ := bindS hr
    suffices key : ∀ cs121 cs128 a119 c120 a126 c127 (a : Act) (w : World), Sl 1 (RI .i64) s112 a100 c101 q98 → Ev 1 (RI .i64) s112 cs93 q88 → Ev 4 RFareBooking s112 cs121 x117 → Ev 1 RB s112 cs128 x124 → Rep a 73 [(8, .pointer (some ⟨b79, 0, none⟩)), (11, .pointer (some ⟨b110, 0, none⟩))] → St w s112 (pt b110 (.cells #[.int .i64 ((y0.bookings.length : Nat) : Int), .int .i64 x1, .int .i64 x2, .slice a100 q98.length c101] 80 (0, 0)) :: vecC 3 1 a90 c91 q88.length cs93 :: pt pb0 (.cells #[.int .i64 y0.rows, .int .i64 y0.across, .int .i64 y0.stops, .slice a119 x117.length c120, .slice a126 x124.length c127] 148 (0, 0)) :: vecC 80 4 a119 c120 x117.length cs121 :: vecC 4 1 a126 c127 x124.length cs128 :: pt b79 (.cells #[.int .i64 0, .int .i64 0, .int .i64 0, .slice none 0 0] 80 (0, 0)) :: R) → K115.nor a w by
     refine Rg.many 7 [10, 13] (by kernel_rfl) ⟨?_, ?_, ?_, trivial⟩
     ·refine Br.mk (i := 7) true true rfl (by kernel_rfl) (by kernel_rfl) ?_
      refine WL.lit hE hS (e := 80) (es := 4) (vs := [(0, .agg (List.toArray [.int .i64 ((y0.bookings.length : Nat) : Int), .int .i64 x1, .int .i64 x2, .slice a100 q98.length c101]))]) (cs := [.int .i64 ((y0.bookings.length : Nat) : Int), .int .i64 x1, .int .i64 x2, .slice a100 q98.length c101]) (runs_plain rfl) rfl (by kernel_rfl) rfl ?_; clear hE hS a w; intro b116 a w hE hS
      refine WL.nil ?_
      refine ⟨⟨fun _ => (hS.tail), fun _ => (((hS.tail).dropAt 3).dropAt 3)⟩, ?_⟩
      refine Rg.many 8 [10, 13] (by kernel_rfl) ⟨?_, ?_, ?_, trivial⟩
      ·refine Br.mk (i := 8) false true rfl (by kernel_rfl) (by kernel_rfl) ?_
       refine WL.appD hE hS 3 (m := 1) (runs_plain rfl) rfl rfl rfl ap85 rfl h_v0 (rfl) (xs := [(FareBooking.mk ((y0.bookings.length : Nat) : Int) x1 x2 q98)]) (Ev.cons (c1 := [.int .i64 ((y0.bookings.length : Nat) : Int), .int .i64 x1, .int .i64 x2, .slice a100 q98.length c101]) ⟨_, _, rfl, h114⟩ rfl (Ev.nil)) rfl rfl hx118 rfl ?_; clear hE hS a w; intro a119 c120 cs121 a w h122 hE hS
       refine WL.nil ?_
       refine ⟨⟨fun h => absurd h (by decide), fun _ => ((hS.dropAt 3).dropAt 3)⟩, ?_⟩
       refine Rg.many 10 [13] (by kernel_rfl) ⟨?_, ?_, trivial⟩
       ·refine Br.mk (i := 10) false true rfl (by kernel_rfl) (by kernel_rfl) ?_
        refine vP hS hE (Gives.nilOk hE rfl) rfl ?_; clear hE a; intro a hE
        refine WL.nil ?_
        refine ⟨⟨fun h => absurd h (by decide), fun _ => ((hS.dropAt 3).dropAt 3)⟩, ?_⟩
        refine Rg.takeP (i := 11) hE rfl (by kernel_rfl) (runs_plain rfl) (Gives.fld hE rfl fl148_4) rfl (tw_sel (fun h => absurd h (by decide)) (fun _ => ((hS.dropAt 3).dropAt 3))) ?_; clear hE a; intro a hE
        have hT := tw_sel (A := fun w => St w s112 (pt b110 (.cells #[.int .i64 ((y0.bookings.length : Nat) : Int), .int .i64 x1, .int .i64 x2, .slice a100 q98.length c101] 80 (0, 0)) :: vecC 3 1 a90 c91 q88.length cs93 :: pt pb0 (.cells #[.int .i64 y0.rows, .int .i64 y0.across, .int .i64 y0.stops, .slice a_v0 y0.bookings.length c_v0, .slice a_v1 y0.cancelled.length c_v1] 148 (0, 0)) :: vecC 80 4 a_v0 c_v0 y0.bookings.length cs_v0 :: vecC 4 1 a_v1 c_v1 y0.cancelled.length cs_v1 :: pt b79 (.cells #[.int .i64 0, .int .i64 0, .int .i64 0, .slice none 0 0] 80 (0, 0)) :: R)) (B := fun w => St w s112 (pt b110 (.cells #[.int .i64 ((y0.bookings.length : Nat) : Int), .int .i64 x1, .int .i64 x2, .slice a100 q98.length c101] 80 (0, 0)) :: vecC 3 1 a90 c91 q88.length cs93 :: pt pb0 (.cells #[.int .i64 y0.rows, .int .i64 y0.across, .int .i64 y0.stops, .slice a_v0 y0.bookings.length c_v0, .slice a_v1 y0.cancelled.length c_v1] 148 (0, 0)) :: pt b79 (.cells #[.int .i64 0, .int .i64 0, .int .i64 0, .slice none 0 0] 80 (0, 0)) :: R)) (w := _) (x := false) (y := true) (fun h => absurd h (by decide)) (fun _ => ((hS.dropAt 3).dropAt 3))
        have hF := hS; replace hS := ((hS.dropAt 3).dropAt 3)
        refine Rg.take (i := 12) false rfl hE rfl (by kernel_rfl) (runs_plain rfl) (Gives.loadB hE 2 rfl rfl rfl ty146) rfl hT ?_; clear hE a; intro a hE
        replace hS := hF; clear hF hT
        refine Rg.one (i := 13) false true rfl (by kernel_rfl) (by kernel_rfl) (by kernel_rfl) ?_
        refine WL.lit hE hS (e := 4) (es := 1) (vs := [(0, .bool false)]) (cs := [.bool false]) (runs_plain rfl) rfl (by kernel_rfl) rfl ?_; clear hE hS a w; intro b123 a w hE hS
        refine WL.nil ?_
        refine ⟨⟨fun h => absurd h (by decide), fun _ => (((hS.tail).dropAt 3).dropAt 3)⟩, ?_⟩
        refine Rg.one (i := 14) false true rfl (by kernel_rfl) (by kernel_rfl) (by kernel_rfl) ?_
        refine WL.appD hE hS 4 (m := 1) (runs_plain rfl) rfl rfl rfl ap146 rfl h_v1 (rfl) (xs := [false]) (Ev.cons (c1 := [.bool false]) rfl rfl (Ev.nil)) rfl rfl hx125 rfl ?_; clear hE hS a w; intro a126 c127 cs128 a w h129 hE hS
        refine WL.nil ?_
        refine ⟨⟨fun h => absurd h (by decide), fun _ => ((hS.dropAt 3).dropAt 3)⟩, ?_⟩
        refine Rg.one (i := 15) false true rfl (by kernel_rfl) (by kernel_rfl) (by kernel_rfl) ?_
        refine vP hS hE (Gives.nilOk hE rfl) rfl ?_; clear hE a; intro a hE
        refine WL.nil ?_
        refine ⟨⟨fun h => absurd h (by decide), fun _ => ((hS.dropAt 3).dropAt 3)⟩, ?_⟩
        refine Rg.takeP (i := 16) hE rfl (by kernel_rfl) (runs_plain rfl) (Gives.fld hE rfl fl148_3) rfl (tw_sel (fun h => absurd h (by decide)) (fun _ => ((hS.dropAt 3).dropAt 3))) ?_; clear hE a; intro a hE
        refine Rg.one (i := 17) false false rfl (by kernel_rfl) (by kernel_rfl) (by kernel_rfl) ?_
        refine WL.storeI hE hS 2 rfl [.int .i64 y0.rows, .int .i64 y0.across, .int .i64 y0.stops, .slice a119 x117.length c120, .slice a_v1 y0.cancelled.length c_v1] (runs_plain rfl) rfl rfl rfl ty85 rfl rfl rfl rfl ?_; clear hE hS a w; intro a w hE hS
        refine WL.nil ?_
        refine ⟨⟨fun h => absurd h (by decide), fun h => absurd h (by decide)⟩, ?_⟩
        refine Rg.one (i := 18) false false rfl (by kernel_rfl) (by kernel_rfl) (by kernel_rfl) ?_
        refine vP hS hE (Gives.nilOk hE rfl) rfl ?_; clear hE a; intro a hE
        refine WL.nil ?_
        refine ⟨⟨fun h => absurd h (by decide), fun h => absurd h (by decide)⟩, ?_⟩
        refine Rg.takeP (i := 19) hE rfl (by kernel_rfl) (runs_plain rfl) (Gives.fld hE rfl fl148_4) rfl (tw_sel (fun h => absurd h (by decide)) (fun h => absurd h (by decide))) ?_; clear hE a; intro a hE
        refine Rg.one (i := 20) false false rfl (by kernel_rfl) (by kernel_rfl) (by kernel_rfl) ?_
        refine WL.storeI hE hS 2 rfl [.int .i64 y0.rows, .int .i64 y0.across, .int .i64 y0.stops, .slice a119 x117.length c120, .slice a126 x124.length c127] (runs_plain rfl) rfl rfl rfl ty146 rfl rfl rfl rfl ?_; clear hE hS a w; intro a w hE hS
        refine WL.nil ?_
        refine ⟨⟨fun h => absurd h (by decide), fun h => absurd h (by decide)⟩, ?_⟩
        refine Rg.done (by kernel_rfl) ?_
        exact key _ _ _ _ _ _ _ _ h114 h94 h122 h129 (hE.pick _ ⟨rfl, rfl, trivial⟩) hS
       ·refine Br.mk (i := 13) false true rfl (by kernel_rfl) (by kernel_rfl) ?_
        refine WL.lit hE hS (e := 4) (es := 1) (vs := [(0, .bool false)]) (cs := [.bool false]) (runs_plain rfl) rfl (by kernel_rfl) rfl ?_; clear hE hS a w; intro b123 a w hE hS
        refine WL.nil ?_
        refine ⟨⟨fun h => absurd h (by decide), fun _ => (((hS.tail).dropAt 3).dropAt 3)⟩, ?_⟩
        refine Rg.one (i := 10) false true rfl (by kernel_rfl) (by kernel_rfl) (by kernel_rfl) ?_
        refine vP hS hE (Gives.nilOk hE rfl) rfl ?_; clear hE a; intro a hE
        refine WL.nil ?_
        refine ⟨⟨fun h => absurd h (by decide), fun _ => (((hS.tail).dropAt 3).dropAt 3)⟩, ?_⟩
        refine Rg.takeP (i := 11) hE rfl (by kernel_rfl) (runs_plain rfl) (Gives.fld hE rfl fl148_4) rfl (tw_sel (fun h => absurd h (by decide)) (fun _ => (((hS.tail).dropAt 3).dropAt 3))) ?_; clear hE a; intro a hE
        have hT := tw_sel (A := fun w => St w s112 (pt b110 (.cells #[.int .i64 ((y0.bookings.length : Nat) : Int), .int .i64 x1, .int .i64 x2, .slice a100 q98.length c101] 80 (0, 0)) :: vecC 3 1 a90 c91 q88.length cs93 :: pt pb0 (.cells #[.int .i64 y0.rows, .int .i64 y0.across, .int .i64 y0.stops, .slice a_v0 y0.bookings.length c_v0, .slice a_v1 y0.cancelled.length c_v1] 148 (0, 0)) :: vecC 80 4 a_v0 c_v0 y0.bookings.length cs_v0 :: vecC 4 1 a_v1 c_v1 y0.cancelled.length cs_v1 :: pt b79 (.cells #[.int .i64 0, .int .i64 0, .int .i64 0, .slice none 0 0] 80 (0, 0)) :: R)) (B := fun w => St w s112 (pt b110 (.cells #[.int .i64 ((y0.bookings.length : Nat) : Int), .int .i64 x1, .int .i64 x2, .slice a100 q98.length c101] 80 (0, 0)) :: vecC 3 1 a90 c91 q88.length cs93 :: pt pb0 (.cells #[.int .i64 y0.rows, .int .i64 y0.across, .int .i64 y0.stops, .slice a_v0 y0.bookings.length c_v0, .slice a_v1 y0.cancelled.length c_v1] 148 (0, 0)) :: pt b79 (.cells #[.int .i64 0, .int .i64 0, .int .i64 0, .slice none 0 0] 80 (0, 0)) :: R)) (w := _) (x := false) (y := true) (fun h => absurd h (by decide)) (fun _ => (((hS.tail).dropAt 3).dropAt 3))
        have hF := hS; replace hS := (((hS.tail).dropAt 3).dropAt 3)
        refine Rg.take (i := 12) false rfl hE rfl (by kernel_rfl) (runs_plain rfl) (Gives.loadB hE 2 rfl rfl rfl ty146) rfl hT ?_; clear hE a; intro a hE
        replace hS := hF; clear hF hT
        refine Rg.one (i := 14) false true rfl (by kernel_rfl) (by kernel_rfl) (by kernel_rfl) ?_
        refine WL.appD hE hS 4 (m := 1) (runs_plain rfl) rfl rfl rfl ap146 rfl h_v1 (rfl) (xs := [false]) (Ev.cons (c1 := [.bool false]) rfl rfl (Ev.nil)) rfl rfl hx125 rfl ?_; clear hE hS a w; intro a126 c127 cs128 a w h129 hE hS
        refine WL.nil ?_
        refine ⟨⟨fun h => absurd h (by decide), fun _ => ((hS.dropAt 3).dropAt 3)⟩, ?_⟩
        refine Rg.one (i := 15) false true rfl (by kernel_rfl) (by kernel_rfl) (by kernel_rfl) ?_
        refine vP hS hE (Gives.nilOk hE rfl) rfl ?_; clear hE a; intro a hE
        refine WL.nil ?_
        refine ⟨⟨fun h => absurd h (by decide), fun _ => ((hS.dropAt 3).dropAt 3)⟩, ?_⟩
        refine Rg.takeP (i := 16) hE rfl (by kernel_rfl) (runs_plain rfl) (Gives.fld hE rfl fl148_3) rfl (tw_sel (fun h => absurd h (by decide)) (fun _ => ((hS.dropAt 3).dropAt 3))) ?_; clear hE a; intro a hE
        refine Rg.one (i := 17) false false rfl (by kernel_rfl) (by kernel_rfl) (by kernel_rfl) ?_
        refine WL.storeI hE hS 2 rfl [.int .i64 y0.rows, .int .i64 y0.across, .int .i64 y0.stops, .slice a119 x117.length c120, .slice a_v1 y0.cancelled.length c_v1] (runs_plain rfl) rfl rfl rfl ty85 rfl rfl rfl rfl ?_; clear hE hS a w; intro a w hE hS
        refine WL.nil ?_
        refine ⟨⟨fun h => absurd h (by decide), fun h => absurd h (by decide)⟩, ?_⟩
        refine Rg.one (i := 18) false false rfl (by kernel_rfl) (by kernel_rfl) (by kernel_rfl) ?_
        refine vP hS hE (Gives.nilOk hE rfl) rfl ?_; clear hE a; intro a hE
        refine WL.nil ?_
        refine ⟨⟨fun h => absurd h (by decide), fun h => absurd h (by decide)⟩, ?_⟩
        refine Rg.takeP (i := 19) hE rfl (by kernel_rfl) (runs_plain rfl) (Gives.fld hE rfl fl148_4) rfl (tw_sel (fun h => absurd h (by decide)) (fun h => absurd h (by decide))) ?_; clear hE a; intro a hE
        refine Rg.one (i := 20) false false rfl (by kernel_rfl) (by kernel_rfl) (by kernel_rfl) ?_
        refine WL.storeI hE hS 2 rfl [.int .i64 y0.rows, .int .i64 y0.across, .int .i64 y0.stops, .slice a119 x117.length c120, .slice a126 x124.length c127] (runs_plain rfl) rfl rfl rfl ty146 rfl rfl rfl rfl ?_; clear hE hS a w; intro a w hE hS
        refine WL.nil ?_
        refine ⟨⟨fun h => absurd h (by decide), fun h => absurd h (by decide)⟩, ?_⟩
        refine Rg.done (by kernel_rfl) ?_
        exact key _ _ _ _ _ _ _ _ h114 h94 h122 h129 (hE.pick _ ⟨rfl, rfl, trivial⟩) hS
      ·refine Br.mk (i := 10) true true rfl (by kernel_rfl) (by kernel_rfl) ?_
       refine vP hS hE (Gives.nilOk hE rfl) rfl ?_; clear hE a; intro a hE
       refine WL.nil ?_
       refine ⟨⟨fun _ => (hS.tail), fun _ => (((hS.tail).dropAt 3).dropAt 3)⟩, ?_⟩
       refine Rg.takeP (i := 11) hE rfl (by kernel_rfl) (runs_plain rfl) (Gives.fld hE rfl fl148_4) rfl (tw_sel (fun _ => (hS.tail)) (fun _ => (((hS.tail).dropAt 3).dropAt 3))) ?_; clear hE a; intro a hE
       have hT := tw_sel (A := fun w => St w s112 (pt b110 (.cells #[.int .i64 ((y0.bookings.length : Nat) : Int), .int .i64 x1, .int .i64 x2, .slice a100 q98.length c101] 80 (0, 0)) :: vecC 3 1 a90 c91 q88.length cs93 :: pt pb0 (.cells #[.int .i64 y0.rows, .int .i64 y0.across, .int .i64 y0.stops, .slice a_v0 y0.bookings.length c_v0, .slice a_v1 y0.cancelled.length c_v1] 148 (0, 0)) :: vecC 80 4 a_v0 c_v0 y0.bookings.length cs_v0 :: vecC 4 1 a_v1 c_v1 y0.cancelled.length cs_v1 :: pt b79 (.cells #[.int .i64 0, .int .i64 0, .int .i64 0, .slice none 0 0] 80 (0, 0)) :: R)) (B := fun w => St w s112 (pt b110 (.cells #[.int .i64 ((y0.bookings.length : Nat) : Int), .int .i64 x1, .int .i64 x2, .slice a100 q98.length c101] 80 (0, 0)) :: vecC 3 1 a90 c91 q88.length cs93 :: pt pb0 (.cells #[.int .i64 y0.rows, .int .i64 y0.across, .int .i64 y0.stops, .slice a_v0 y0.bookings.length c_v0, .slice a_v1 y0.cancelled.length c_v1] 148 (0, 0)) :: pt b79 (.cells #[.int .i64 0, .int .i64 0, .int .i64 0, .slice none 0 0] 80 (0, 0)) :: R)) (w := _) (x := true) (y := true) (fun _ => (hS.tail)) (fun _ => (((hS.tail).dropAt 3).dropAt 3))
       have hF := hS; replace hS := (((hS.tail).dropAt 3).dropAt 3)
       refine Rg.take (i := 12) false rfl hE rfl (by kernel_rfl) (runs_plain rfl) (Gives.loadB hE 2 rfl rfl rfl ty146) rfl hT ?_; clear hE a; intro a hE
       replace hS := hF; clear hF hT
       refine Rg.many 8 [13] (by kernel_rfl) ⟨?_, ?_, trivial⟩
       ·refine Br.mk (i := 8) false true rfl (by kernel_rfl) (by kernel_rfl) ?_
        refine WL.appD hE hS 3 (m := 1) (runs_plain rfl) rfl rfl rfl ap85 rfl h_v0 (rfl) (xs := [(FareBooking.mk ((y0.bookings.length : Nat) : Int) x1 x2 q98)]) (Ev.cons (c1 := [.int .i64 ((y0.bookings.length : Nat) : Int), .int .i64 x1, .int .i64 x2, .slice a100 q98.length c101]) ⟨_, _, rfl, h114⟩ rfl (Ev.nil)) rfl rfl hx118 rfl ?_; clear hE hS a w; intro a119 c120 cs121 a w h122 hE hS
        refine WL.nil ?_
        refine ⟨⟨fun h => absurd h (by decide), fun _ => ((hS.dropAt 3).dropAt 3)⟩, ?_⟩
        refine Rg.one (i := 13) false true rfl (by kernel_rfl) (by kernel_rfl) (by kernel_rfl) ?_
        refine WL.lit hE hS (e := 4) (es := 1) (vs := [(0, .bool false)]) (cs := [.bool false]) (runs_plain rfl) rfl (by kernel_rfl) rfl ?_; clear hE hS a w; intro b123 a w hE hS
        refine WL.nil ?_
        refine ⟨⟨fun h => absurd h (by decide), fun _ => (((hS.tail).dropAt 3).dropAt 3)⟩, ?_⟩
        refine Rg.one (i := 14) false true rfl (by kernel_rfl) (by kernel_rfl) (by kernel_rfl) ?_
        refine WL.appD hE hS 4 (m := 1) (runs_plain rfl) rfl rfl rfl ap146 rfl h_v1 (rfl) (xs := [false]) (Ev.cons (c1 := [.bool false]) rfl rfl (Ev.nil)) rfl rfl hx125 rfl ?_; clear hE hS a w; intro a126 c127 cs128 a w h129 hE hS
        refine WL.nil ?_
        refine ⟨⟨fun h => absurd h (by decide), fun _ => ((hS.dropAt 3).dropAt 3)⟩, ?_⟩
        refine Rg.one (i := 15) false true rfl (by kernel_rfl) (by kernel_rfl) (by kernel_rfl) ?_
        refine vP hS hE (Gives.nilOk hE rfl) rfl ?_; clear hE a; intro a hE
        refine WL.nil ?_
        refine ⟨⟨fun h => absurd h (by decide), fun _ => ((hS.dropAt 3).dropAt 3)⟩, ?_⟩
        refine Rg.takeP (i := 16) hE rfl (by kernel_rfl) (runs_plain rfl) (Gives.fld hE rfl fl148_3) rfl (tw_sel (fun h => absurd h (by decide)) (fun _ => ((hS.dropAt 3).dropAt 3))) ?_; clear hE a; intro a hE
        refine Rg.one (i := 17) false false rfl (by kernel_rfl) (by kernel_rfl) (by kernel_rfl) ?_
        refine WL.storeI hE hS 2 rfl [.int .i64 y0.rows, .int .i64 y0.across, .int .i64 y0.stops, .slice a119 x117.length c120, .slice a_v1 y0.cancelled.length c_v1] (runs_plain rfl) rfl rfl rfl ty85 rfl rfl rfl rfl ?_; clear hE hS a w; intro a w hE hS
        refine WL.nil ?_
        refine ⟨⟨fun h => absurd h (by decide), fun h => absurd h (by decide)⟩, ?_⟩
        refine Rg.one (i := 18) false false rfl (by kernel_rfl) (by kernel_rfl) (by kernel_rfl) ?_
        refine vP hS hE (Gives.nilOk hE rfl) rfl ?_; clear hE a; intro a hE
        refine WL.nil ?_
        refine ⟨⟨fun h => absurd h (by decide), fun h => absurd h (by decide)⟩, ?_⟩
        refine Rg.takeP (i := 19) hE rfl (by kernel_rfl) (runs_plain rfl) (Gives.fld hE rfl fl148_4) rfl (tw_sel (fun h => absurd h (by decide)) (fun h => absurd h (by decide))) ?_; clear hE a; intro a hE
        refine Rg.one (i := 20) false false rfl (by kernel_rfl) (by kernel_rfl) (by kernel_rfl) ?_
        refine WL.storeI hE hS 2 rfl [.int .i64 y0.rows, .int .i64 y0.across, .int .i64 y0.stops, .slice a119 x117.length c120, .slice a126 x124.length c127] (runs_plain rfl) rfl rfl rfl ty146 rfl rfl rfl rfl ?_; clear hE hS a w; intro a w hE hS
        refine WL.nil ?_
        refine ⟨⟨fun h => absurd h (by decide), fun h => absurd h (by decide)⟩, ?_⟩
        refine Rg.done (by kernel_rfl) ?_
        exact key _ _ _ _ _ _ _ _ h114 h94 h122 h129 (hE.pick _ ⟨rfl, rfl, trivial⟩) hS
       ·refine Br.mk (i := 13) true true rfl (by kernel_rfl) (by kernel_rfl) ?_
        refine WL.lit hE hS (e := 4) (es := 1) (vs := [(0, .bool false)]) (cs := [.bool false]) (runs_plain rfl) rfl (by kernel_rfl) rfl ?_; clear hE hS a w; intro b123 a w hE hS
        refine WL.nil ?_
        refine ⟨⟨fun _ => ((hS.tail).tail), fun _ => ((((hS.tail).tail).dropAt 3).dropAt 3)⟩, ?_⟩
        refine Rg.one (i := 8) false true rfl (by kernel_rfl) (by kernel_rfl) (by kernel_rfl) ?_
        replace hS := hS.front 1 rfl
        refine WL.appD hE hS 4 (m := 1) (runs_plain rfl) rfl rfl rfl ap85 rfl h_v0 (rfl) (xs := [(FareBooking.mk ((y0.bookings.length : Nat) : Int) x1 x2 q98)]) (Ev.cons (c1 := [.int .i64 ((y0.bookings.length : Nat) : Int), .int .i64 x1, .int .i64 x2, .slice a100 q98.length c101]) ⟨_, _, rfl, h114⟩ rfl (Ev.nil)) rfl rfl hx118 rfl ?_; clear hE hS a w; intro a119 c120 cs121 a w h122 hE hS
        refine WL.nil ?_
        refine ⟨⟨fun h => absurd h (by decide), fun _ => (((hS.tail).dropAt 3).dropAt 3)⟩, ?_⟩
        refine Rg.one (i := 14) false true rfl (by kernel_rfl) (by kernel_rfl) (by kernel_rfl) ?_
        refine WL.appD hE hS 4 (m := 1) (runs_plain rfl) rfl rfl rfl ap146 rfl h_v1 (rfl) (xs := [false]) (Ev.cons (c1 := [.bool false]) rfl rfl (Ev.nil)) rfl rfl hx125 rfl ?_; clear hE hS a w; intro a126 c127 cs128 a w h129 hE hS
        refine WL.nil ?_
        refine ⟨⟨fun h => absurd h (by decide), fun _ => ((hS.dropAt 3).dropAt 3)⟩, ?_⟩
        refine Rg.one (i := 15) false true rfl (by kernel_rfl) (by kernel_rfl) (by kernel_rfl) ?_
        refine vP hS hE (Gives.nilOk hE rfl) rfl ?_; clear hE a; intro a hE
        refine WL.nil ?_
        refine ⟨⟨fun h => absurd h (by decide), fun _ => ((hS.dropAt 3).dropAt 3)⟩, ?_⟩
        refine Rg.takeP (i := 16) hE rfl (by kernel_rfl) (runs_plain rfl) (Gives.fld hE rfl fl148_3) rfl (tw_sel (fun h => absurd h (by decide)) (fun _ => ((hS.dropAt 3).dropAt 3))) ?_; clear hE a; intro a hE
        refine Rg.one (i := 17) false false rfl (by kernel_rfl) (by kernel_rfl) (by kernel_rfl) ?_
        refine WL.storeI hE hS 2 rfl [.int .i64 y0.rows, .int .i64 y0.across, .int .i64 y0.stops, .slice a119 x117.length c120, .slice a_v1 y0.cancelled.length c_v1] (runs_plain rfl) rfl rfl rfl ty85 rfl rfl rfl rfl ?_; clear hE hS a w; intro a w hE hS
        refine WL.nil ?_
        refine ⟨⟨fun h => absurd h (by decide), fun h => absurd h (by decide)⟩, ?_⟩
        refine Rg.one (i := 18) false false rfl (by kernel_rfl) (by kernel_rfl) (by kernel_rfl) ?_
        refine vP hS hE (Gives.nilOk hE rfl) rfl ?_; clear hE a; intro a hE
        refine WL.nil ?_
        refine ⟨⟨fun h => absurd h (by decide), fun h => absurd h (by decide)⟩, ?_⟩
        refine Rg.takeP (i := 19) hE rfl (by kernel_rfl) (runs_plain rfl) (Gives.fld hE rfl fl148_4) rfl (tw_sel (fun h => absurd h (by decide)) (fun h => absurd h (by decide))) ?_; clear hE a; intro a hE
        refine Rg.one (i := 20) false false rfl (by kernel_rfl) (by kernel_rfl) (by kernel_rfl) ?_
        refine WL.storeI hE hS 2 rfl [.int .i64 y0.rows, .int .i64 y0.across, .int .i64 y0.stops, .slice a119 x117.length c120, .slice a126 x124.length c127] (runs_plain rfl) rfl rfl rfl ty146 rfl rfl rfl rfl ?_; clear hE hS a w; intro a w hE hS
        refine WL.nil ?_
        refine ⟨⟨fun h => absurd h (by decide), fun h => absurd h (by decide)⟩, ?_⟩
        refine Rg.done (by kernel_rfl) ?_
        exact key _ _ _ _ _ _ _ _ h114 h94 h122 h129 (hE.pick _ ⟨rfl, rfl, trivial⟩) hS
      ·refine Br.mk (i := 13) true true rfl (by kernel_rfl) (by kernel_rfl) ?_
       refine WL.lit hE hS (e := 4) (es := 1) (vs := [(0, .bool false)]) (cs := [.bool false]) (runs_plain rfl) rfl (by kernel_rfl) rfl ?_; clear hE hS a w; intro b123 a w hE hS
       refine WL.nil ?_
       refine ⟨⟨fun _ => ((hS.tail).tail), fun _ => ((((hS.tail).tail).dropAt 3).dropAt 3)⟩, ?_⟩
       refine Rg.many 8 [10] (by kernel_rfl) ⟨?_, ?_, trivial⟩
       ·refine Br.mk (i := 8) false true rfl (by kernel_rfl) (by kernel_rfl) ?_
        replace hS := hS.front 1 rfl
        refine WL.appD hE hS 4 (m := 1) (runs_plain rfl) rfl rfl rfl ap85 rfl h_v0 (rfl) (xs := [(FareBooking.mk ((y0.bookings.length : Nat) : Int) x1 x2 q98)]) (Ev.cons (c1 := [.int .i64 ((y0.bookings.length : Nat) : Int), .int .i64 x1, .int .i64 x2, .slice a100 q98.length c101]) ⟨_, _, rfl, h114⟩ rfl (Ev.nil)) rfl rfl hx118 rfl ?_; clear hE hS a w; intro a119 c120 cs121 a w h122 hE hS
        refine WL.nil ?_
        refine ⟨⟨fun h => absurd h (by decide), fun _ => (((hS.tail).dropAt 3).dropAt 3)⟩, ?_⟩
        refine Rg.one (i := 10) false true rfl (by kernel_rfl) (by kernel_rfl) (by kernel_rfl) ?_
        refine vP hS hE (Gives.nilOk hE rfl) rfl ?_; clear hE a; intro a hE
        refine WL.nil ?_
        refine ⟨⟨fun h => absurd h (by decide), fun _ => (((hS.tail).dropAt 3).dropAt 3)⟩, ?_⟩
        refine Rg.takeP (i := 11) hE rfl (by kernel_rfl) (runs_plain rfl) (Gives.fld hE rfl fl148_4) rfl (tw_sel (fun h => absurd h (by decide)) (fun _ => (((hS.tail).dropAt 3).dropAt 3))) ?_; clear hE a; intro a hE
        have hT := tw_sel (A := fun w => St w s112 (pt b110 (.cells #[.int .i64 ((y0.bookings.length : Nat) : Int), .int .i64 x1, .int .i64 x2, .slice a100 q98.length c101] 80 (0, 0)) :: vecC 3 1 a90 c91 q88.length cs93 :: pt pb0 (.cells #[.int .i64 y0.rows, .int .i64 y0.across, .int .i64 y0.stops, .slice a_v0 y0.bookings.length c_v0, .slice a_v1 y0.cancelled.length c_v1] 148 (0, 0)) :: vecC 80 4 a_v0 c_v0 y0.bookings.length cs_v0 :: vecC 4 1 a_v1 c_v1 y0.cancelled.length cs_v1 :: pt b79 (.cells #[.int .i64 0, .int .i64 0, .int .i64 0, .slice none 0 0] 80 (0, 0)) :: R)) (B := fun w => St w s112 (pt b110 (.cells #[.int .i64 ((y0.bookings.length : Nat) : Int), .int .i64 x1, .int .i64 x2, .slice a100 q98.length c101] 80 (0, 0)) :: vecC 3 1 a90 c91 q88.length cs93 :: pt pb0 (.cells #[.int .i64 y0.rows, .int .i64 y0.across, .int .i64 y0.stops, .slice a_v0 y0.bookings.length c_v0, .slice a_v1 y0.cancelled.length c_v1] 148 (0, 0)) :: pt b79 (.cells #[.int .i64 0, .int .i64 0, .int .i64 0, .slice none 0 0] 80 (0, 0)) :: R)) (w := _) (x := false) (y := true) (fun h => absurd h (by decide)) (fun _ => (((hS.tail).dropAt 3).dropAt 3))
        have hF := hS; replace hS := (((hS.tail).dropAt 3).dropAt 3)
        refine Rg.take (i := 12) false rfl hE rfl (by kernel_rfl) (runs_plain rfl) (Gives.loadB hE 2 rfl rfl rfl ty146) rfl hT ?_; clear hE a; intro a hE
        replace hS := hF; clear hF hT
        refine Rg.one (i := 14) false true rfl (by kernel_rfl) (by kernel_rfl) (by kernel_rfl) ?_
        refine WL.appD hE hS 4 (m := 1) (runs_plain rfl) rfl rfl rfl ap146 rfl h_v1 (rfl) (xs := [false]) (Ev.cons (c1 := [.bool false]) rfl rfl (Ev.nil)) rfl rfl hx125 rfl ?_; clear hE hS a w; intro a126 c127 cs128 a w h129 hE hS
        refine WL.nil ?_
        refine ⟨⟨fun h => absurd h (by decide), fun _ => ((hS.dropAt 3).dropAt 3)⟩, ?_⟩
        refine Rg.one (i := 15) false true rfl (by kernel_rfl) (by kernel_rfl) (by kernel_rfl) ?_
        refine vP hS hE (Gives.nilOk hE rfl) rfl ?_; clear hE a; intro a hE
        refine WL.nil ?_
        refine ⟨⟨fun h => absurd h (by decide), fun _ => ((hS.dropAt 3).dropAt 3)⟩, ?_⟩
        refine Rg.takeP (i := 16) hE rfl (by kernel_rfl) (runs_plain rfl) (Gives.fld hE rfl fl148_3) rfl (tw_sel (fun h => absurd h (by decide)) (fun _ => ((hS.dropAt 3).dropAt 3))) ?_; clear hE a; intro a hE
        refine Rg.one (i := 17) false false rfl (by kernel_rfl) (by kernel_rfl) (by kernel_rfl) ?_
        refine WL.storeI hE hS 2 rfl [.int .i64 y0.rows, .int .i64 y0.across, .int .i64 y0.stops, .slice a119 x117.length c120, .slice a_v1 y0.cancelled.length c_v1] (runs_plain rfl) rfl rfl rfl ty85 rfl rfl rfl rfl ?_; clear hE hS a w; intro a w hE hS
        refine WL.nil ?_
        refine ⟨⟨fun h => absurd h (by decide), fun h => absurd h (by decide)⟩, ?_⟩
        refine Rg.one (i := 18) false false rfl (by kernel_rfl) (by kernel_rfl) (by kernel_rfl) ?_
        refine vP hS hE (Gives.nilOk hE rfl) rfl ?_; clear hE a; intro a hE
        refine WL.nil ?_
        refine ⟨⟨fun h => absurd h (by decide), fun h => absurd h (by decide)⟩, ?_⟩
        refine Rg.takeP (i := 19) hE rfl (by kernel_rfl) (runs_plain rfl) (Gives.fld hE rfl fl148_4) rfl (tw_sel (fun h => absurd h (by decide)) (fun h => absurd h (by decide))) ?_; clear hE a; intro a hE
        refine Rg.one (i := 20) false false rfl (by kernel_rfl) (by kernel_rfl) (by kernel_rfl) ?_
        refine WL.storeI hE hS 2 rfl [.int .i64 y0.rows, .int .i64 y0.across, .int .i64 y0.stops, .slice a119 x117.length c120, .slice a126 x124.length c127] (runs_plain rfl) rfl rfl rfl ty146 rfl rfl rfl rfl ?_; clear hE hS a w; intro a w hE hS
        refine WL.nil ?_
        refine ⟨⟨fun h => absurd h (by decide), fun h => absurd h (by decide)⟩, ?_⟩
        refine Rg.done (by kernel_rfl) ?_
        exact key _ _ _ _ _ _ _ _ h114 h94 h122 h129 (hE.pick _ ⟨rfl, rfl, trivial⟩) hS
       ·refine Br.mk (i := 10) true true rfl (by kernel_rfl) (by kernel_rfl) ?_
        refine vP hS hE (Gives.nilOk hE rfl) rfl ?_; clear hE a; intro a hE
        refine WL.nil ?_
        refine ⟨⟨fun _ => ((hS.tail).tail), fun _ => ((((hS.tail).tail).dropAt 3).dropAt 3)⟩, ?_⟩
        refine Rg.takeP (i := 11) hE rfl (by kernel_rfl) (runs_plain rfl) (Gives.fld hE rfl fl148_4) rfl (tw_sel (fun _ => ((hS.tail).tail)) (fun _ => ((((hS.tail).tail).dropAt 3).dropAt 3))) ?_; clear hE a; intro a hE
        have hT := tw_sel (A := fun w => St w s112 (pt b110 (.cells #[.int .i64 ((y0.bookings.length : Nat) : Int), .int .i64 x1, .int .i64 x2, .slice a100 q98.length c101] 80 (0, 0)) :: vecC 3 1 a90 c91 q88.length cs93 :: pt pb0 (.cells #[.int .i64 y0.rows, .int .i64 y0.across, .int .i64 y0.stops, .slice a_v0 y0.bookings.length c_v0, .slice a_v1 y0.cancelled.length c_v1] 148 (0, 0)) :: vecC 80 4 a_v0 c_v0 y0.bookings.length cs_v0 :: vecC 4 1 a_v1 c_v1 y0.cancelled.length cs_v1 :: pt b79 (.cells #[.int .i64 0, .int .i64 0, .int .i64 0, .slice none 0 0] 80 (0, 0)) :: R)) (B := fun w => St w s112 (pt b110 (.cells #[.int .i64 ((y0.bookings.length : Nat) : Int), .int .i64 x1, .int .i64 x2, .slice a100 q98.length c101] 80 (0, 0)) :: vecC 3 1 a90 c91 q88.length cs93 :: pt pb0 (.cells #[.int .i64 y0.rows, .int .i64 y0.across, .int .i64 y0.stops, .slice a_v0 y0.bookings.length c_v0, .slice a_v1 y0.cancelled.length c_v1] 148 (0, 0)) :: pt b79 (.cells #[.int .i64 0, .int .i64 0, .int .i64 0, .slice none 0 0] 80 (0, 0)) :: R)) (w := _) (x := true) (y := true) (fun _ => ((hS.tail).tail)) (fun _ => ((((hS.tail).tail).dropAt 3).dropAt 3))
        have hF := hS; replace hS := ((((hS.tail).tail).dropAt 3).dropAt 3)
        refine Rg.take (i := 12) false rfl hE rfl (by kernel_rfl) (runs_plain rfl) (Gives.loadB hE 2 rfl rfl rfl ty146) rfl hT ?_; clear hE a; intro a hE
        replace hS := hF; clear hF hT
        refine Rg.one (i := 8) false true rfl (by kernel_rfl) (by kernel_rfl) (by kernel_rfl) ?_
        replace hS := hS.front 1 rfl
        refine WL.appD hE hS 4 (m := 1) (runs_plain rfl) rfl rfl rfl ap85 rfl h_v0 (rfl) (xs := [(FareBooking.mk ((y0.bookings.length : Nat) : Int) x1 x2 q98)]) (Ev.cons (c1 := [.int .i64 ((y0.bookings.length : Nat) : Int), .int .i64 x1, .int .i64 x2, .slice a100 q98.length c101]) ⟨_, _, rfl, h114⟩ rfl (Ev.nil)) rfl rfl hx118 rfl ?_; clear hE hS a w; intro a119 c120 cs121 a w h122 hE hS
        refine WL.nil ?_
        refine ⟨⟨fun h => absurd h (by decide), fun _ => (((hS.tail).dropAt 3).dropAt 3)⟩, ?_⟩
        refine Rg.one (i := 14) false true rfl (by kernel_rfl) (by kernel_rfl) (by kernel_rfl) ?_
        refine WL.appD hE hS 4 (m := 1) (runs_plain rfl) rfl rfl rfl ap146 rfl h_v1 (rfl) (xs := [false]) (Ev.cons (c1 := [.bool false]) rfl rfl (Ev.nil)) rfl rfl hx125 rfl ?_; clear hE hS a w; intro a126 c127 cs128 a w h129 hE hS
        refine WL.nil ?_
        refine ⟨⟨fun h => absurd h (by decide), fun _ => ((hS.dropAt 3).dropAt 3)⟩, ?_⟩
        refine Rg.one (i := 15) false true rfl (by kernel_rfl) (by kernel_rfl) (by kernel_rfl) ?_
        refine vP hS hE (Gives.nilOk hE rfl) rfl ?_; clear hE a; intro a hE
        refine WL.nil ?_
        refine ⟨⟨fun h => absurd h (by decide), fun _ => ((hS.dropAt 3).dropAt 3)⟩, ?_⟩
        refine Rg.takeP (i := 16) hE rfl (by kernel_rfl) (runs_plain rfl) (Gives.fld hE rfl fl148_3) rfl (tw_sel (fun h => absurd h (by decide)) (fun _ => ((hS.dropAt 3).dropAt 3))) ?_; clear hE a; intro a hE
        refine Rg.one (i := 17) false false rfl (by kernel_rfl) (by kernel_rfl) (by kernel_rfl) ?_
        refine WL.storeI hE hS 2 rfl [.int .i64 y0.rows, .int .i64 y0.across, .int .i64 y0.stops, .slice a119 x117.length c120, .slice a_v1 y0.cancelled.length c_v1] (runs_plain rfl) rfl rfl rfl ty85 rfl rfl rfl rfl ?_; clear hE hS a w; intro a w hE hS
        refine WL.nil ?_
        refine ⟨⟨fun h => absurd h (by decide), fun h => absurd h (by decide)⟩, ?_⟩
        refine Rg.one (i := 18) false false rfl (by kernel_rfl) (by kernel_rfl) (by kernel_rfl) ?_
        refine vP hS hE (Gives.nilOk hE rfl) rfl ?_; clear hE a; intro a hE
        refine WL.nil ?_
        refine ⟨⟨fun h => absurd h (by decide), fun h => absurd h (by decide)⟩, ?_⟩
        refine Rg.takeP (i := 19) hE rfl (by kernel_rfl) (runs_plain rfl) (Gives.fld hE rfl fl148_4) rfl (tw_sel (fun h => absurd h (by decide)) (fun h => absurd h (by decide))) ?_; clear hE a; intro a hE
        refine Rg.one (i := 20) false false rfl (by kernel_rfl) (by kernel_rfl) (by kernel_rfl) ?_
        refine WL.storeI hE hS 2 rfl [.int .i64 y0.rows, .int .i64 y0.across, .int .i64 y0.stops, .slice a119 x117.length c120, .slice a126 x124.length c127] (runs_plain rfl) rfl rfl rfl ty146 rfl rfl rfl rfl ?_; clear hE hS a w; intro a w hE hS
        refine WL.nil ?_
        refine ⟨⟨fun h => absurd h (by decide), fun h => absurd h (by decide)⟩, ?_⟩
        refine Rg.done (by kernel_rfl) ?_
        exact key _ _ _ _ _ _ _ _ h114 h94 h122 h129 (hE.pick _ ⟨rfl, rfl, trivial⟩) hS
     ·refine Br.mk (i := 10) true true rfl (by kernel_rfl) (by kernel_rfl) ?_
      refine vP hS hE (Gives.nilOk hE rfl) rfl ?_; clear hE a; intro a hE
      refine WL.nil ?_
      refine ⟨⟨fun _ => hS, fun _ => ((hS.dropAt 3).dropAt 3)⟩, ?_⟩
      refine Rg.takeP (i := 11) hE rfl (by kernel_rfl) (runs_plain rfl) (Gives.fld hE rfl fl148_4) rfl (tw_sel (fun _ => hS) (fun _ => ((hS.dropAt 3).dropAt 3))) ?_; clear hE a; intro a hE
      have hT := tw_sel (A := fun w => St w s112 (pt b110 (.cells #[.int .i64 ((y0.bookings.length : Nat) : Int), .int .i64 x1, .int .i64 x2, .slice a100 q98.length c101] 80 (0, 0)) :: vecC 3 1 a90 c91 q88.length cs93 :: pt pb0 (.cells #[.int .i64 y0.rows, .int .i64 y0.across, .int .i64 y0.stops, .slice a_v0 y0.bookings.length c_v0, .slice a_v1 y0.cancelled.length c_v1] 148 (0, 0)) :: vecC 80 4 a_v0 c_v0 y0.bookings.length cs_v0 :: vecC 4 1 a_v1 c_v1 y0.cancelled.length cs_v1 :: pt b79 (.cells #[.int .i64 0, .int .i64 0, .int .i64 0, .slice none 0 0] 80 (0, 0)) :: R)) (B := fun w => St w s112 (pt b110 (.cells #[.int .i64 ((y0.bookings.length : Nat) : Int), .int .i64 x1, .int .i64 x2, .slice a100 q98.length c101] 80 (0, 0)) :: vecC 3 1 a90 c91 q88.length cs93 :: pt pb0 (.cells #[.int .i64 y0.rows, .int .i64 y0.across, .int .i64 y0.stops, .slice a_v0 y0.bookings.length c_v0, .slice a_v1 y0.cancelled.length c_v1] 148 (0, 0)) :: pt b79 (.cells #[.int .i64 0, .int .i64 0, .int .i64 0, .slice none 0 0] 80 (0, 0)) :: R)) (w := _) (x := true) (y := true) (fun _ => hS) (fun _ => ((hS.dropAt 3).dropAt 3))
      have hF := hS; replace hS := ((hS.dropAt 3).dropAt 3)
      refine Rg.take (i := 12) false rfl hE rfl (by kernel_rfl) (runs_plain rfl) (Gives.loadB hE 2 rfl rfl rfl ty146) rfl hT ?_; clear hE a; intro a hE
      replace hS := hF; clear hF hT
      refine Rg.many 7 [13] (by kernel_rfl) ⟨?_, ?_, trivial⟩
      ·refine Br.mk (i := 7) true true rfl (by kernel_rfl) (by kernel_rfl) ?_
       refine WL.lit hE hS (e := 80) (es := 4) (vs := [(0, .agg (List.toArray [.int .i64 ((y0.bookings.length : Nat) : Int), .int .i64 x1, .int .i64 x2, .slice a100 q98.length c101]))]) (cs := [.int .i64 ((y0.bookings.length : Nat) : Int), .int .i64 x1, .int .i64 x2, .slice a100 q98.length c101]) (runs_plain rfl) rfl (by kernel_rfl) rfl ?_; clear hE hS a w; intro b116 a w hE hS
       refine WL.nil ?_
       refine ⟨⟨fun _ => (hS.tail), fun _ => (((hS.tail).dropAt 3).dropAt 3)⟩, ?_⟩
       refine Rg.many 8 [13] (by kernel_rfl) ⟨?_, ?_, trivial⟩
       ·refine Br.mk (i := 8) false true rfl (by kernel_rfl) (by kernel_rfl) ?_
        refine WL.appD hE hS 3 (m := 1) (runs_plain rfl) rfl rfl rfl ap85 rfl h_v0 (rfl) (xs := [(FareBooking.mk ((y0.bookings.length : Nat) : Int) x1 x2 q98)]) (Ev.cons (c1 := [.int .i64 ((y0.bookings.length : Nat) : Int), .int .i64 x1, .int .i64 x2, .slice a100 q98.length c101]) ⟨_, _, rfl, h114⟩ rfl (Ev.nil)) rfl rfl hx118 rfl ?_; clear hE hS a w; intro a119 c120 cs121 a w h122 hE hS
        refine WL.nil ?_
        refine ⟨⟨fun h => absurd h (by decide), fun _ => ((hS.dropAt 3).dropAt 3)⟩, ?_⟩
        refine Rg.one (i := 13) false true rfl (by kernel_rfl) (by kernel_rfl) (by kernel_rfl) ?_
        refine WL.lit hE hS (e := 4) (es := 1) (vs := [(0, .bool false)]) (cs := [.bool false]) (runs_plain rfl) rfl (by kernel_rfl) rfl ?_; clear hE hS a w; intro b123 a w hE hS
        refine WL.nil ?_
        refine ⟨⟨fun h => absurd h (by decide), fun _ => (((hS.tail).dropAt 3).dropAt 3)⟩, ?_⟩
        refine Rg.one (i := 14) false true rfl (by kernel_rfl) (by kernel_rfl) (by kernel_rfl) ?_
        refine WL.appD hE hS 4 (m := 1) (runs_plain rfl) rfl rfl rfl ap146 rfl h_v1 (rfl) (xs := [false]) (Ev.cons (c1 := [.bool false]) rfl rfl (Ev.nil)) rfl rfl hx125 rfl ?_; clear hE hS a w; intro a126 c127 cs128 a w h129 hE hS
        refine WL.nil ?_
        refine ⟨⟨fun h => absurd h (by decide), fun _ => ((hS.dropAt 3).dropAt 3)⟩, ?_⟩
        refine Rg.one (i := 15) false true rfl (by kernel_rfl) (by kernel_rfl) (by kernel_rfl) ?_
        refine vP hS hE (Gives.nilOk hE rfl) rfl ?_; clear hE a; intro a hE
        refine WL.nil ?_
        refine ⟨⟨fun h => absurd h (by decide), fun _ => ((hS.dropAt 3).dropAt 3)⟩, ?_⟩
        refine Rg.takeP (i := 16) hE rfl (by kernel_rfl) (runs_plain rfl) (Gives.fld hE rfl fl148_3) rfl (tw_sel (fun h => absurd h (by decide)) (fun _ => ((hS.dropAt 3).dropAt 3))) ?_; clear hE a; intro a hE
        refine Rg.one (i := 17) false false rfl (by kernel_rfl) (by kernel_rfl) (by kernel_rfl) ?_
        refine WL.storeI hE hS 2 rfl [.int .i64 y0.rows, .int .i64 y0.across, .int .i64 y0.stops, .slice a119 x117.length c120, .slice a_v1 y0.cancelled.length c_v1] (runs_plain rfl) rfl rfl rfl ty85 rfl rfl rfl rfl ?_; clear hE hS a w; intro a w hE hS
        refine WL.nil ?_
        refine ⟨⟨fun h => absurd h (by decide), fun h => absurd h (by decide)⟩, ?_⟩
        refine Rg.one (i := 18) false false rfl (by kernel_rfl) (by kernel_rfl) (by kernel_rfl) ?_
        refine vP hS hE (Gives.nilOk hE rfl) rfl ?_; clear hE a; intro a hE
        refine WL.nil ?_
        refine ⟨⟨fun h => absurd h (by decide), fun h => absurd h (by decide)⟩, ?_⟩
        refine Rg.takeP (i := 19) hE rfl (by kernel_rfl) (runs_plain rfl) (Gives.fld hE rfl fl148_4) rfl (tw_sel (fun h => absurd h (by decide)) (fun h => absurd h (by decide))) ?_; clear hE a; intro a hE
        refine Rg.one (i := 20) false false rfl (by kernel_rfl) (by kernel_rfl) (by kernel_rfl) ?_
        refine WL.storeI hE hS 2 rfl [.int .i64 y0.rows, .int .i64 y0.across, .int .i64 y0.stops, .slice a119 x117.length c120, .slice a126 x124.length c127] (runs_plain rfl) rfl rfl rfl ty146 rfl rfl rfl rfl ?_; clear hE hS a w; intro a w hE hS
        refine WL.nil ?_
        refine ⟨⟨fun h => absurd h (by decide), fun h => absurd h (by decide)⟩, ?_⟩
        refine Rg.done (by kernel_rfl) ?_
        exact key _ _ _ _ _ _ _ _ h114 h94 h122 h129 (hE.pick _ ⟨rfl, rfl, trivial⟩) hS
       ·refine Br.mk (i := 13) true true rfl (by kernel_rfl) (by kernel_rfl) ?_
        refine WL.lit hE hS (e := 4) (es := 1) (vs := [(0, .bool false)]) (cs := [.bool false]) (runs_plain rfl) rfl (by kernel_rfl) rfl ?_; clear hE hS a w; intro b123 a w hE hS
        refine WL.nil ?_
        refine ⟨⟨fun _ => ((hS.tail).tail), fun _ => ((((hS.tail).tail).dropAt 3).dropAt 3)⟩, ?_⟩
        refine Rg.one (i := 8) false true rfl (by kernel_rfl) (by kernel_rfl) (by kernel_rfl) ?_
        replace hS := hS.front 1 rfl
        refine WL.appD hE hS 4 (m := 1) (runs_plain rfl) rfl rfl rfl ap85 rfl h_v0 (rfl) (xs := [(FareBooking.mk ((y0.bookings.length : Nat) : Int) x1 x2 q98)]) (Ev.cons (c1 := [.int .i64 ((y0.bookings.length : Nat) : Int), .int .i64 x1, .int .i64 x2, .slice a100 q98.length c101]) ⟨_, _, rfl, h114⟩ rfl (Ev.nil)) rfl rfl hx118 rfl ?_; clear hE hS a w; intro a119 c120 cs121 a w h122 hE hS
        refine WL.nil ?_
        refine ⟨⟨fun h => absurd h (by decide), fun _ => (((hS.tail).dropAt 3).dropAt 3)⟩, ?_⟩
        refine Rg.one (i := 14) false true rfl (by kernel_rfl) (by kernel_rfl) (by kernel_rfl) ?_
        refine WL.appD hE hS 4 (m := 1) (runs_plain rfl) rfl rfl rfl ap146 rfl h_v1 (rfl) (xs := [false]) (Ev.cons (c1 := [.bool false]) rfl rfl (Ev.nil)) rfl rfl hx125 rfl ?_; clear hE hS a w; intro a126 c127 cs128 a w h129 hE hS
        refine WL.nil ?_
        refine ⟨⟨fun h => absurd h (by decide), fun _ => ((hS.dropAt 3).dropAt 3)⟩, ?_⟩
        refine Rg.one (i := 15) false true rfl (by kernel_rfl) (by kernel_rfl) (by kernel_rfl) ?_
        refine vP hS hE (Gives.nilOk hE rfl) rfl ?_; clear hE a; intro a hE
        refine WL.nil ?_
        refine ⟨⟨fun h => absurd h (by decide), fun _ => ((hS.dropAt 3).dropAt 3)⟩, ?_⟩
        refine Rg.takeP (i := 16) hE rfl (by kernel_rfl) (runs_plain rfl) (Gives.fld hE rfl fl148_3) rfl (tw_sel (fun h => absurd h (by decide)) (fun _ => ((hS.dropAt 3).dropAt 3))) ?_; clear hE a; intro a hE
        refine Rg.one (i := 17) false false rfl (by kernel_rfl) (by kernel_rfl) (by kernel_rfl) ?_
        refine WL.storeI hE hS 2 rfl [.int .i64 y0.rows, .int .i64 y0.across, .int .i64 y0.stops, .slice a119 x117.length c120, .slice a_v1 y0.cancelled.length c_v1] (runs_plain rfl) rfl rfl rfl ty85 rfl rfl rfl rfl ?_; clear hE hS a w; intro a w hE hS
        refine WL.nil ?_
        refine ⟨⟨fun h => absurd h (by decide), fun h => absurd h (by decide)⟩, ?_⟩
        refine Rg.one (i := 18) false false rfl (by kernel_rfl) (by kernel_rfl) (by kernel_rfl) ?_
        refine vP hS hE (Gives.nilOk hE rfl) rfl ?_; clear hE a; intro a hE
        refine WL.nil ?_
        refine ⟨⟨fun h => absurd h (by decide), fun h => absurd h (by decide)⟩, ?_⟩
        refine Rg.takeP (i := 19) hE rfl (by kernel_rfl) (runs_plain rfl) (Gives.fld hE rfl fl148_4) rfl (tw_sel (fun h => absurd h (by decide)) (fun h => absurd h (by decide))) ?_; clear hE a; intro a hE
        refine Rg.one (i := 20) false false rfl (by kernel_rfl) (by kernel_rfl) (by kernel_rfl) ?_
        refine WL.storeI hE hS 2 rfl [.int .i64 y0.rows, .int .i64 y0.across, .int .i64 y0.stops, .slice a119 x117.length c120, .slice a126 x124.length c127] (runs_plain rfl) rfl rfl rfl ty146 rfl rfl rfl rfl ?_; clear hE hS a w; intro a w hE hS
        refine WL.nil ?_
        refine ⟨⟨fun h => absurd h (by decide), fun h => absurd h (by decide)⟩, ?_⟩
        refine Rg.done (by kernel_rfl) ?_
        exact key _ _ _ _ _ _ _ _ h114 h94 h122 h129 (hE.pick _ ⟨rfl, rfl, trivial⟩) hS
      ·refine Br.mk (i := 13) true true rfl (by kernel_rfl) (by kernel_rfl) ?_
       refine WL.lit hE hS (e := 4) (es := 1) (vs := [(0, .bool false)]) (cs := [.bool false]) (runs_plain rfl) rfl (by kernel_rfl) rfl ?_; clear hE hS a w; intro b123 a w hE hS
       refine WL.nil ?_
       refine ⟨⟨fun _ => (hS.tail), fun _ => (((hS.tail).dropAt 3).dropAt 3)⟩, ?_⟩
       refine Rg.one (i := 7) true true rfl (by kernel_rfl) (by kernel_rfl) (by kernel_rfl) ?_
       refine WL.lit hE hS (e := 80) (es := 4) (vs := [(0, .agg (List.toArray [.int .i64 ((y0.bookings.length : Nat) : Int), .int .i64 x1, .int .i64 x2, .slice a100 q98.length c101]))]) (cs := [.int .i64 ((y0.bookings.length : Nat) : Int), .int .i64 x1, .int .i64 x2, .slice a100 q98.length c101]) (runs_plain rfl) rfl (by kernel_rfl) rfl ?_; clear hE hS a w; intro b116 a w hE hS
       refine WL.nil ?_
       refine ⟨⟨fun _ => ((hS.tail).tail), fun _ => ((((hS.tail).tail).dropAt 3).dropAt 3)⟩, ?_⟩
       refine Rg.one (i := 8) false true rfl (by kernel_rfl) (by kernel_rfl) (by kernel_rfl) ?_
       refine WL.appD hE hS 4 (m := 1) (runs_plain rfl) rfl rfl rfl ap85 rfl h_v0 (rfl) (xs := [(FareBooking.mk ((y0.bookings.length : Nat) : Int) x1 x2 q98)]) (Ev.cons (c1 := [.int .i64 ((y0.bookings.length : Nat) : Int), .int .i64 x1, .int .i64 x2, .slice a100 q98.length c101]) ⟨_, _, rfl, h114⟩ rfl (Ev.nil)) rfl rfl hx118 rfl ?_; clear hE hS a w; intro a119 c120 cs121 a w h122 hE hS
       refine WL.nil ?_
       refine ⟨⟨fun h => absurd h (by decide), fun _ => (((hS.tail).dropAt 3).dropAt 3)⟩, ?_⟩
       refine Rg.one (i := 14) false true rfl (by kernel_rfl) (by kernel_rfl) (by kernel_rfl) ?_
       refine WL.appD hE hS 4 (m := 1) (runs_plain rfl) rfl rfl rfl ap146 rfl h_v1 (rfl) (xs := [false]) (Ev.cons (c1 := [.bool false]) rfl rfl (Ev.nil)) rfl rfl hx125 rfl ?_; clear hE hS a w; intro a126 c127 cs128 a w h129 hE hS
       refine WL.nil ?_
       refine ⟨⟨fun h => absurd h (by decide), fun _ => ((hS.dropAt 3).dropAt 3)⟩, ?_⟩
       refine Rg.one (i := 15) false true rfl (by kernel_rfl) (by kernel_rfl) (by kernel_rfl) ?_
       refine vP hS hE (Gives.nilOk hE rfl) rfl ?_; clear hE a; intro a hE
       refine WL.nil ?_
       refine ⟨⟨fun h => absurd h (by decide), fun _ => ((hS.dropAt 3).dropAt 3)⟩, ?_⟩
       refine Rg.takeP (i := 16) hE rfl (by kernel_rfl) (runs_plain rfl) (Gives.fld hE rfl fl148_3) rfl (tw_sel (fun h => absurd h (by decide)) (fun _ => ((hS.dropAt 3).dropAt 3))) ?_; clear hE a; intro a hE
       refine Rg.one (i := 17) false false rfl (by kernel_rfl) (by kernel_rfl) (by kernel_rfl) ?_
       refine WL.storeI hE hS 2 rfl [.int .i64 y0.rows, .int .i64 y0.across, .int .i64 y0.stops, .slice a119 x117.length c120, .slice a_v1 y0.cancelled.length c_v1] (runs_plain rfl) rfl rfl rfl ty85 rfl rfl rfl rfl ?_; clear hE hS a w; intro a w hE hS
       refine WL.nil ?_
       refine ⟨⟨fun h => absurd h (by decide), fun h => absurd h (by decide)⟩, ?_⟩
       refine Rg.one (i := 18) false false rfl (by kernel_rfl) (by kernel_rfl) (by kernel_rfl) ?_
       refine vP hS hE (Gives.nilOk hE rfl) rfl ?_; clear hE a; intro a hE
       refine WL.nil ?_
       refine ⟨⟨fun h => absurd h (by decide), fun h => absurd h (by decide)⟩, ?_⟩
       refine Rg.takeP (i := 19) hE rfl (by kernel_rfl) (runs_plain rfl) (Gives.fld hE rfl fl148_4) rfl (tw_sel (fun h => absurd h (by decide)) (fun h => absurd h (by decide))) ?_; clear hE a; intro a hE
       refine Rg.one (i := 20) false false rfl (by kernel_rfl) (by kernel_rfl) (by kernel_rfl) ?_
       refine WL.storeI hE hS 2 rfl [.int .i64 y0.rows, .int .i64 y0.across, .int .i64 y0.stops, .slice a119 x117.length c120, .slice a126 x124.length c127] (runs_plain rfl) rfl rfl rfl ty146 rfl rfl rfl rfl ?_; clear hE hS a w; intro a w hE hS
       refine WL.nil ?_
       refine ⟨⟨fun h => absurd h (by decide), fun h => absurd h (by decide)⟩, ?_⟩
       refine Rg.done (by kernel_rfl) ?_
       exact key _ _ _ _ _ _ _ _ h114 h94 h122 h129 (hE.pick _ ⟨rfl, rfl, trivial⟩) hS
     ·refine Br.mk (i := 13) true true rfl (by kernel_rfl) (by kernel_rfl) ?_
      refine WL.lit hE hS (e := 4) (es := 1) (vs := [(0, .bool false)]) (cs := [.bool false]) (runs_plain rfl) rfl (by kernel_rfl) rfl ?_; clear hE hS a w; intro b123 a w hE hS
      refine WL.nil ?_
      refine ⟨⟨fun _ => (hS.tail), fun _ => (((hS.tail).dropAt 3).dropAt 3)⟩, ?_⟩
      refine Rg.many 7 [10] (by kernel_rfl) ⟨?_, ?_, trivial⟩
      ·refine Br.mk (i := 7) true true rfl (by kernel_rfl) (by kernel_rfl) ?_
       refine WL.lit hE hS (e := 80) (es := 4) (vs := [(0, .agg (List.toArray [.int .i64 ((y0.bookings.length : Nat) : Int), .int .i64 x1, .int .i64 x2, .slice a100 q98.length c101]))]) (cs := [.int .i64 ((y0.bookings.length : Nat) : Int), .int .i64 x1, .int .i64 x2, .slice a100 q98.length c101]) (runs_plain rfl) rfl (by kernel_rfl) rfl ?_; clear hE hS a w; intro b116 a w hE hS
       refine WL.nil ?_
       refine ⟨⟨fun _ => ((hS.tail).tail), fun _ => ((((hS.tail).tail).dropAt 3).dropAt 3)⟩, ?_⟩
       refine Rg.many 8 [10] (by kernel_rfl) ⟨?_, ?_, trivial⟩
       ·refine Br.mk (i := 8) false true rfl (by kernel_rfl) (by kernel_rfl) ?_
        refine WL.appD hE hS 4 (m := 1) (runs_plain rfl) rfl rfl rfl ap85 rfl h_v0 (rfl) (xs := [(FareBooking.mk ((y0.bookings.length : Nat) : Int) x1 x2 q98)]) (Ev.cons (c1 := [.int .i64 ((y0.bookings.length : Nat) : Int), .int .i64 x1, .int .i64 x2, .slice a100 q98.length c101]) ⟨_, _, rfl, h114⟩ rfl (Ev.nil)) rfl rfl hx118 rfl ?_; clear hE hS a w; intro a119 c120 cs121 a w h122 hE hS
        refine WL.nil ?_
        refine ⟨⟨fun h => absurd h (by decide), fun _ => (((hS.tail).dropAt 3).dropAt 3)⟩, ?_⟩
        refine Rg.one (i := 10) false true rfl (by kernel_rfl) (by kernel_rfl) (by kernel_rfl) ?_
        refine vP hS hE (Gives.nilOk hE rfl) rfl ?_; clear hE a; intro a hE
        refine WL.nil ?_
        refine ⟨⟨fun h => absurd h (by decide), fun _ => (((hS.tail).dropAt 3).dropAt 3)⟩, ?_⟩
        refine Rg.takeP (i := 11) hE rfl (by kernel_rfl) (runs_plain rfl) (Gives.fld hE rfl fl148_4) rfl (tw_sel (fun h => absurd h (by decide)) (fun _ => (((hS.tail).dropAt 3).dropAt 3))) ?_; clear hE a; intro a hE
        have hT := tw_sel (A := fun w => St w s112 (pt b110 (.cells #[.int .i64 ((y0.bookings.length : Nat) : Int), .int .i64 x1, .int .i64 x2, .slice a100 q98.length c101] 80 (0, 0)) :: vecC 3 1 a90 c91 q88.length cs93 :: pt pb0 (.cells #[.int .i64 y0.rows, .int .i64 y0.across, .int .i64 y0.stops, .slice a_v0 y0.bookings.length c_v0, .slice a_v1 y0.cancelled.length c_v1] 148 (0, 0)) :: vecC 80 4 a_v0 c_v0 y0.bookings.length cs_v0 :: vecC 4 1 a_v1 c_v1 y0.cancelled.length cs_v1 :: pt b79 (.cells #[.int .i64 0, .int .i64 0, .int .i64 0, .slice none 0 0] 80 (0, 0)) :: R)) (B := fun w => St w s112 (pt b110 (.cells #[.int .i64 ((y0.bookings.length : Nat) : Int), .int .i64 x1, .int .i64 x2, .slice a100 q98.length c101] 80 (0, 0)) :: vecC 3 1 a90 c91 q88.length cs93 :: pt pb0 (.cells #[.int .i64 y0.rows, .int .i64 y0.across, .int .i64 y0.stops, .slice a_v0 y0.bookings.length c_v0, .slice a_v1 y0.cancelled.length c_v1] 148 (0, 0)) :: pt b79 (.cells #[.int .i64 0, .int .i64 0, .int .i64 0, .slice none 0 0] 80 (0, 0)) :: R)) (w := _) (x := false) (y := true) (fun h => absurd h (by decide)) (fun _ => (((hS.tail).dropAt 3).dropAt 3))
        have hF := hS; replace hS := (((hS.tail).dropAt 3).dropAt 3)
        refine Rg.take (i := 12) false rfl hE rfl (by kernel_rfl) (runs_plain rfl) (Gives.loadB hE 2 rfl rfl rfl ty146) rfl hT ?_; clear hE a; intro a hE
        replace hS := hF; clear hF hT
        refine Rg.one (i := 14) false true rfl (by kernel_rfl) (by kernel_rfl) (by kernel_rfl) ?_
        refine WL.appD hE hS 4 (m := 1) (runs_plain rfl) rfl rfl rfl ap146 rfl h_v1 (rfl) (xs := [false]) (Ev.cons (c1 := [.bool false]) rfl rfl (Ev.nil)) rfl rfl hx125 rfl ?_; clear hE hS a w; intro a126 c127 cs128 a w h129 hE hS
        refine WL.nil ?_
        refine ⟨⟨fun h => absurd h (by decide), fun _ => ((hS.dropAt 3).dropAt 3)⟩, ?_⟩
        refine Rg.one (i := 15) false true rfl (by kernel_rfl) (by kernel_rfl) (by kernel_rfl) ?_
        refine vP hS hE (Gives.nilOk hE rfl) rfl ?_; clear hE a; intro a hE
        refine WL.nil ?_
        refine ⟨⟨fun h => absurd h (by decide), fun _ => ((hS.dropAt 3).dropAt 3)⟩, ?_⟩
        refine Rg.takeP (i := 16) hE rfl (by kernel_rfl) (runs_plain rfl) (Gives.fld hE rfl fl148_3) rfl (tw_sel (fun h => absurd h (by decide)) (fun _ => ((hS.dropAt 3).dropAt 3))) ?_; clear hE a; intro a hE
        refine Rg.one (i := 17) false false rfl (by kernel_rfl) (by kernel_rfl) (by kernel_rfl) ?_
        refine WL.storeI hE hS 2 rfl [.int .i64 y0.rows, .int .i64 y0.across, .int .i64 y0.stops, .slice a119 x117.length c120, .slice a_v1 y0.cancelled.length c_v1] (runs_plain rfl) rfl rfl rfl ty85 rfl rfl rfl rfl ?_; clear hE hS a w; intro a w hE hS
        refine WL.nil ?_
        refine ⟨⟨fun h => absurd h (by decide), fun h => absurd h (by decide)⟩, ?_⟩
        refine Rg.one (i := 18) false false rfl (by kernel_rfl) (by kernel_rfl) (by kernel_rfl) ?_
        refine vP hS hE (Gives.nilOk hE rfl) rfl ?_; clear hE a; intro a hE
        refine WL.nil ?_
        refine ⟨⟨fun h => absurd h (by decide), fun h => absurd h (by decide)⟩, ?_⟩
        refine Rg.takeP (i := 19) hE rfl (by kernel_rfl) (runs_plain rfl) (Gives.fld hE rfl fl148_4) rfl (tw_sel (fun h => absurd h (by decide)) (fun h => absurd h (by decide))) ?_; clear hE a; intro a hE
        refine Rg.one (i := 20) false false rfl (by kernel_rfl) (by kernel_rfl) (by kernel_rfl) ?_
        refine WL.storeI hE hS 2 rfl [.int .i64 y0.rows, .int .i64 y0.across, .int .i64 y0.stops, .slice a119 x117.length c120, .slice a126 x124.length c127] (runs_plain rfl) rfl rfl rfl ty146 rfl rfl rfl rfl ?_; clear hE hS a w; intro a w hE hS
        refine WL.nil ?_
        refine ⟨⟨fun h => absurd h (by decide), fun h => absurd h (by decide)⟩, ?_⟩
        refine Rg.done (by kernel_rfl) ?_
        exact key _ _ _ _ _ _ _ _ h114 h94 h122 h129 (hE.pick _ ⟨rfl, rfl, trivial⟩) hS
       ·refine Br.mk (i := 10) true true rfl (by kernel_rfl) (by kernel_rfl) ?_
        refine vP hS hE (Gives.nilOk hE rfl) rfl ?_; clear hE a; intro a hE
        refine WL.nil ?_
        refine ⟨⟨fun _ => ((hS.tail).tail), fun _ => ((((hS.tail).tail).dropAt 3).dropAt 3)⟩, ?_⟩
        refine Rg.takeP (i := 11) hE rfl (by kernel_rfl) (runs_plain rfl) (Gives.fld hE rfl fl148_4) rfl (tw_sel (fun _ => ((hS.tail).tail)) (fun _ => ((((hS.tail).tail).dropAt 3).dropAt 3))) ?_; clear hE a; intro a hE
        have hT := tw_sel (A := fun w => St w s112 (pt b110 (.cells #[.int .i64 ((y0.bookings.length : Nat) : Int), .int .i64 x1, .int .i64 x2, .slice a100 q98.length c101] 80 (0, 0)) :: vecC 3 1 a90 c91 q88.length cs93 :: pt pb0 (.cells #[.int .i64 y0.rows, .int .i64 y0.across, .int .i64 y0.stops, .slice a_v0 y0.bookings.length c_v0, .slice a_v1 y0.cancelled.length c_v1] 148 (0, 0)) :: vecC 80 4 a_v0 c_v0 y0.bookings.length cs_v0 :: vecC 4 1 a_v1 c_v1 y0.cancelled.length cs_v1 :: pt b79 (.cells #[.int .i64 0, .int .i64 0, .int .i64 0, .slice none 0 0] 80 (0, 0)) :: R)) (B := fun w => St w s112 (pt b110 (.cells #[.int .i64 ((y0.bookings.length : Nat) : Int), .int .i64 x1, .int .i64 x2, .slice a100 q98.length c101] 80 (0, 0)) :: vecC 3 1 a90 c91 q88.length cs93 :: pt pb0 (.cells #[.int .i64 y0.rows, .int .i64 y0.across, .int .i64 y0.stops, .slice a_v0 y0.bookings.length c_v0, .slice a_v1 y0.cancelled.length c_v1] 148 (0, 0)) :: pt b79 (.cells #[.int .i64 0, .int .i64 0, .int .i64 0, .slice none 0 0] 80 (0, 0)) :: R)) (w := _) (x := true) (y := true) (fun _ => ((hS.tail).tail)) (fun _ => ((((hS.tail).tail).dropAt 3).dropAt 3))
        have hF := hS; replace hS := ((((hS.tail).tail).dropAt 3).dropAt 3)
        refine Rg.take (i := 12) false rfl hE rfl (by kernel_rfl) (runs_plain rfl) (Gives.loadB hE 2 rfl rfl rfl ty146) rfl hT ?_; clear hE a; intro a hE
        replace hS := hF; clear hF hT
        refine Rg.one (i := 8) false true rfl (by kernel_rfl) (by kernel_rfl) (by kernel_rfl) ?_
        refine WL.appD hE hS 4 (m := 1) (runs_plain rfl) rfl rfl rfl ap85 rfl h_v0 (rfl) (xs := [(FareBooking.mk ((y0.bookings.length : Nat) : Int) x1 x2 q98)]) (Ev.cons (c1 := [.int .i64 ((y0.bookings.length : Nat) : Int), .int .i64 x1, .int .i64 x2, .slice a100 q98.length c101]) ⟨_, _, rfl, h114⟩ rfl (Ev.nil)) rfl rfl hx118 rfl ?_; clear hE hS a w; intro a119 c120 cs121 a w h122 hE hS
        refine WL.nil ?_
        refine ⟨⟨fun h => absurd h (by decide), fun _ => (((hS.tail).dropAt 3).dropAt 3)⟩, ?_⟩
        refine Rg.one (i := 14) false true rfl (by kernel_rfl) (by kernel_rfl) (by kernel_rfl) ?_
        refine WL.appD hE hS 4 (m := 1) (runs_plain rfl) rfl rfl rfl ap146 rfl h_v1 (rfl) (xs := [false]) (Ev.cons (c1 := [.bool false]) rfl rfl (Ev.nil)) rfl rfl hx125 rfl ?_; clear hE hS a w; intro a126 c127 cs128 a w h129 hE hS
        refine WL.nil ?_
        refine ⟨⟨fun h => absurd h (by decide), fun _ => ((hS.dropAt 3).dropAt 3)⟩, ?_⟩
        refine Rg.one (i := 15) false true rfl (by kernel_rfl) (by kernel_rfl) (by kernel_rfl) ?_
        refine vP hS hE (Gives.nilOk hE rfl) rfl ?_; clear hE a; intro a hE
        refine WL.nil ?_
        refine ⟨⟨fun h => absurd h (by decide), fun _ => ((hS.dropAt 3).dropAt 3)⟩, ?_⟩
        refine Rg.takeP (i := 16) hE rfl (by kernel_rfl) (runs_plain rfl) (Gives.fld hE rfl fl148_3) rfl (tw_sel (fun h => absurd h (by decide)) (fun _ => ((hS.dropAt 3).dropAt 3))) ?_; clear hE a; intro a hE
        refine Rg.one (i := 17) false false rfl (by kernel_rfl) (by kernel_rfl) (by kernel_rfl) ?_
        refine WL.storeI hE hS 2 rfl [.int .i64 y0.rows, .int .i64 y0.across, .int .i64 y0.stops, .slice a119 x117.length c120, .slice a_v1 y0.cancelled.length c_v1] (runs_plain rfl) rfl rfl rfl ty85 rfl rfl rfl rfl ?_; clear hE hS a w; intro a w hE hS
        refine WL.nil ?_
        refine ⟨⟨fun h => absurd h (by decide), fun h => absurd h (by decide)⟩, ?_⟩
        refine Rg.one (i := 18) false false rfl (by kernel_rfl) (by kernel_rfl) (by kernel_rfl) ?_
        refine vP hS hE (Gives.nilOk hE rfl) rfl ?_; clear hE a; intro a hE
        refine WL.nil ?_
        refine ⟨⟨fun h => absurd h (by decide), fun h => absurd h (by decide)⟩, ?_⟩
        refine Rg.takeP (i := 19) hE rfl (by kernel_rfl) (runs_plain rfl) (Gives.fld hE rfl fl148_4) rfl (tw_sel (fun h => absurd h (by decide)) (fun h => absurd h (by decide))) ?_; clear hE a; intro a hE
        refine Rg.one (i := 20) false false rfl (by kernel_rfl) (by kernel_rfl) (by kernel_rfl) ?_
        refine WL.storeI hE hS 2 rfl [.int .i64 y0.rows, .int .i64 y0.across, .int .i64 y0.stops, .slice a119 x117.length c120, .slice a126 x124.length c127] (runs_plain rfl) rfl rfl rfl ty146 rfl rfl rfl rfl ?_; clear hE hS a w; intro a w hE hS
        refine WL.nil ?_
        refine ⟨⟨fun h => absurd h (by decide), fun h => absurd h (by decide)⟩, ?_⟩
        refine Rg.done (by kernel_rfl) ?_
        exact key _ _ _ _ _ _ _ _ h114 h94 h122 h129 (hE.pick _ ⟨rfl, rfl, trivial⟩) hS
      ·refine Br.mk (i := 10) true true rfl (by kernel_rfl) (by kernel_rfl) ?_
       refine vP hS hE (Gives.nilOk hE rfl) rfl ?_; clear hE a; intro a hE
       refine WL.nil ?_
       refine ⟨⟨fun _ => (hS.tail), fun _ => (((hS.tail).dropAt 3).dropAt 3)⟩, ?_⟩
       refine Rg.takeP (i := 11) hE rfl (by kernel_rfl) (runs_plain rfl) (Gives.fld hE rfl fl148_4) rfl (tw_sel (fun _ => (hS.tail)) (fun _ => (((hS.tail).dropAt 3).dropAt 3))) ?_; clear hE a; intro a hE
       have hT := tw_sel (A := fun w => St w s112 (pt b110 (.cells #[.int .i64 ((y0.bookings.length : Nat) : Int), .int .i64 x1, .int .i64 x2, .slice a100 q98.length c101] 80 (0, 0)) :: vecC 3 1 a90 c91 q88.length cs93 :: pt pb0 (.cells #[.int .i64 y0.rows, .int .i64 y0.across, .int .i64 y0.stops, .slice a_v0 y0.bookings.length c_v0, .slice a_v1 y0.cancelled.length c_v1] 148 (0, 0)) :: vecC 80 4 a_v0 c_v0 y0.bookings.length cs_v0 :: vecC 4 1 a_v1 c_v1 y0.cancelled.length cs_v1 :: pt b79 (.cells #[.int .i64 0, .int .i64 0, .int .i64 0, .slice none 0 0] 80 (0, 0)) :: R)) (B := fun w => St w s112 (pt b110 (.cells #[.int .i64 ((y0.bookings.length : Nat) : Int), .int .i64 x1, .int .i64 x2, .slice a100 q98.length c101] 80 (0, 0)) :: vecC 3 1 a90 c91 q88.length cs93 :: pt pb0 (.cells #[.int .i64 y0.rows, .int .i64 y0.across, .int .i64 y0.stops, .slice a_v0 y0.bookings.length c_v0, .slice a_v1 y0.cancelled.length c_v1] 148 (0, 0)) :: pt b79 (.cells #[.int .i64 0, .int .i64 0, .int .i64 0, .slice none 0 0] 80 (0, 0)) :: R)) (w := _) (x := true) (y := true) (fun _ => (hS.tail)) (fun _ => (((hS.tail).dropAt 3).dropAt 3))
       have hF := hS; replace hS := (((hS.tail).dropAt 3).dropAt 3)
       refine Rg.take (i := 12) false rfl hE rfl (by kernel_rfl) (runs_plain rfl) (Gives.loadB hE 2 rfl rfl rfl ty146) rfl hT ?_; clear hE a; intro a hE
       replace hS := hF; clear hF hT
       refine Rg.one (i := 7) true true rfl (by kernel_rfl) (by kernel_rfl) (by kernel_rfl) ?_
       refine WL.lit hE hS (e := 80) (es := 4) (vs := [(0, .agg (List.toArray [.int .i64 ((y0.bookings.length : Nat) : Int), .int .i64 x1, .int .i64 x2, .slice a100 q98.length c101]))]) (cs := [.int .i64 ((y0.bookings.length : Nat) : Int), .int .i64 x1, .int .i64 x2, .slice a100 q98.length c101]) (runs_plain rfl) rfl (by kernel_rfl) rfl ?_; clear hE hS a w; intro b116 a w hE hS
       refine WL.nil ?_
       refine ⟨⟨fun _ => ((hS.tail).tail), fun _ => ((((hS.tail).tail).dropAt 3).dropAt 3)⟩, ?_⟩
       refine Rg.one (i := 8) false true rfl (by kernel_rfl) (by kernel_rfl) (by kernel_rfl) ?_
       refine WL.appD hE hS 4 (m := 1) (runs_plain rfl) rfl rfl rfl ap85 rfl h_v0 (rfl) (xs := [(FareBooking.mk ((y0.bookings.length : Nat) : Int) x1 x2 q98)]) (Ev.cons (c1 := [.int .i64 ((y0.bookings.length : Nat) : Int), .int .i64 x1, .int .i64 x2, .slice a100 q98.length c101]) ⟨_, _, rfl, h114⟩ rfl (Ev.nil)) rfl rfl hx118 rfl ?_; clear hE hS a w; intro a119 c120 cs121 a w h122 hE hS
       refine WL.nil ?_
       refine ⟨⟨fun h => absurd h (by decide), fun _ => (((hS.tail).dropAt 3).dropAt 3)⟩, ?_⟩
       refine Rg.one (i := 14) false true rfl (by kernel_rfl) (by kernel_rfl) (by kernel_rfl) ?_
       refine WL.appD hE hS 4 (m := 1) (runs_plain rfl) rfl rfl rfl ap146 rfl h_v1 (rfl) (xs := [false]) (Ev.cons (c1 := [.bool false]) rfl rfl (Ev.nil)) rfl rfl hx125 rfl ?_; clear hE hS a w; intro a126 c127 cs128 a w h129 hE hS
       refine WL.nil ?_
       refine ⟨⟨fun h => absurd h (by decide), fun _ => ((hS.dropAt 3).dropAt 3)⟩, ?_⟩
       refine Rg.one (i := 15) false true rfl (by kernel_rfl) (by kernel_rfl) (by kernel_rfl) ?_
       refine vP hS hE (Gives.nilOk hE rfl) rfl ?_; clear hE a; intro a hE
       refine WL.nil ?_
       refine ⟨⟨fun h => absurd h (by decide), fun _ => ((hS.dropAt 3).dropAt 3)⟩, ?_⟩
       refine Rg.takeP (i := 16) hE rfl (by kernel_rfl) (runs_plain rfl) (Gives.fld hE rfl fl148_3) rfl (tw_sel (fun h => absurd h (by decide)) (fun _ => ((hS.dropAt 3).dropAt 3))) ?_; clear hE a; intro a hE
       refine Rg.one (i := 17) false false rfl (by kernel_rfl) (by kernel_rfl) (by kernel_rfl) ?_
       refine WL.storeI hE hS 2 rfl [.int .i64 y0.rows, .int .i64 y0.across, .int .i64 y0.stops, .slice a119 x117.length c120, .slice a_v1 y0.cancelled.length c_v1] (runs_plain rfl) rfl rfl rfl ty85 rfl rfl rfl rfl ?_; clear hE hS a w; intro a w hE hS
       refine WL.nil ?_
       refine ⟨⟨fun h => absurd h (by decide), fun h => absurd h (by decide)⟩, ?_⟩
       refine Rg.one (i := 18) false false rfl (by kernel_rfl) (by kernel_rfl) (by kernel_rfl) ?_
       refine vP hS hE (Gives.nilOk hE rfl) rfl ?_; clear hE a; intro a hE
       refine WL.nil ?_
       refine ⟨⟨fun h => absurd h (by decide), fun h => absurd h (by decide)⟩, ?_⟩
       refine Rg.takeP (i := 19) hE rfl (by kernel_rfl) (runs_plain rfl) (Gives.fld hE rfl fl148_4) rfl (tw_sel (fun h => absurd h (by decide)) (fun h => absurd h (by decide))) ?_; clear hE a; intro a hE
       refine Rg.one (i := 20) false false rfl (by kernel_rfl) (by kernel_rfl) (by kernel_rfl) ?_
       refine WL.storeI hE hS 2 rfl [.int .i64 y0.rows, .int .i64 y0.across, .int .i64 y0.stops, .slice a119 x117.length c120, .slice a126 x124.length c127] (runs_plain rfl) rfl rfl rfl ty146 rfl rfl rfl rfl ?_; clear hE hS a w; intro a w hE hS
       refine WL.nil ?_
       refine ⟨⟨fun h => absurd h (by decide), fun h => absurd h (by decide)⟩, ?_⟩
       refine Rg.done (by kernel_rfl) ?_
       exact key _ _ _ _ _ _ _ _ h114 h94 h122 h129 (hE.pick _ ⟨rfl, rfl, trivial⟩) hS
    clear hE hS a w; intro cs121 cs128 a119 c120 a126 c127 a w h114 h94 h122 h129 hE hS
    subst hK115
    refine W.seq (W.region ?_)
    refine vP hS hE (Gives.fld hE rfl fl80_3) rfl ?_; clear hE a; intro a hE
    refine vP hS hE (Gives.loadB hE 0 rfl rfl rfl ty45) rfl ?_; clear hE a; intro a hE
    obtain ⟨q131, hq132, hr⟩ := bindS hr
    have hc_ := SlicesCloneLint_ok hS h114 hq132
    refine WL.fnq hE (hc_) (runs_plain rfl) bd45 rfl rfl rfl ?_
    clear hE hS hc_; rintro e w ⟨a133, c134, n135, cs136, rfl, h137, rfl, hS⟩; refine ⟨_, rfl, ?_⟩; clear a; intro a hE
    refine vP hS hE (Gives.fld hE rfl fl80_3) rfl ?_; clear hE a; intro a hE
    refine WL.storeI hE hS 1 rfl [.int .i64 ((y0.bookings.length : Nat) : Int), .int .i64 x1, .int .i64 x2, .slice a133 q131.length c134] (runs_plain rfl) rfl rfl rfl ty45 rfl rfl rfl rfl ?_; clear hE hS a w; intro a w hE hS
    refine WL.nil ?_
    refine W.seq (W.region ?_)
    refine vP hS hE (Gives.loadBA hE 1 rfl rfl ty80) rfl ?_; clear hE a; intro a hE
    refine WL.storeI hE hS 6 rfl [.int .i64 ((y0.bookings.length : Nat) : Int), .int .i64 x1, .int .i64 x2, .slice a133 q131.length c134] (runs_plain rfl) rfl rfl rfl ty80 rfl rfl rfl rfl ?_; clear hE hS a w; intro a w hE hS
    refine vP hS hE (Gives.p hE rfl) rfl ?_; clear hE a; intro a hE
    refine WL.nil ?_
    refine W.ret ?_
    have hF := hS.fixD RI.mono 0 rfl h137 rfl; clear hS; obtain ⟨s139, hle140, hS, h141⟩ := hF
    replace h114 := Sl.mono RI.mono hle140 h114
    replace h94 := Ev.mono RI.mono hle140 h94
    replace h122 := Ev.mono RFareBooking.mono hle140 h122
    replace h129 := Ev.mono RB.mono hle140 h129
    refine finG (fn := Tryd.f38) (rs := [.cell 8 80, .tmp 9]) (vs := [_, _]) hE rfl ⟨⟨_, rfl, .inl ⟨_, rfl, hS.seesAt 5 rfl, ty80⟩⟩, rfl, trivial⟩ ?_
    obtain rfl := Option.some.inj hr
    replace hS := hS.tail
    replace hS := hS.tail
    replace hS := hS.dropAt 3
    exact ⟨_, a119, c120, x117.length, cs121, a126, c127, x124.length, cs128, s139, rfl, (Sg.Le.trans hle113 hle140), ⟨_, _, rfl, h141⟩, h122, (rfl), h129, (rfl), hS⟩
set_option maxHeartbeats 8000000 in
theorem FareCarCancel_v1_ok  {w : World} {s : Sg} {R : List HP} {pb0 : Nat} {x1 : Int} {y0 : FareCar} {a_v0 : Option Addr} {c_v0 n_v0 : Nat} {cs_v0 : List Value} {a_v1 : Option Addr} {c_v1 n_v1 : Nat} {cs_v1 : List Value} (hS : St w s (pt pb0 (.cells #[.int .i64 y0.rows, .int .i64 y0.across, .int .i64 y0.stops, .slice a_v0 n_v0 c_v0, .slice a_v1 n_v1 c_v1] 148 (0, 0)) :: vecC 80 4 a_v0 c_v0 n_v0 cs_v0 :: vecC 4 1 a_v1 c_v1 n_v1 cs_v1 :: R)) (_h_v0 : Ev 4 RFareBooking s cs_v0 y0.bookings) (hn_v0 : y0.bookings.length = n_v0) (h_v1 : Ev 1 RB s cs_v1 y0.cancelled) (hn_v1 : y0.cancelled.length = n_v1) {r : Int × (List Bool)} (hr : FareCarCancel_v1 x1 y0 = some r) :
  Calls Tryd.prog 40 [.pointer (some ⟨pb0, 0, none⟩), .int .i64 x1].toArray w (fun e w => ∃ (cs55 : List Value), e = .returned (.int .i64 r.1) ∧ Ev 1 RB s cs55 r.2 ∧ r.2.length = n_v1 ∧ St w s (pt pb0 (.cells #[.int .i64 y0.rows, .int .i64 y0.across, .int .i64 y0.stops, .slice a_v0 n_v0 c_v0, .slice a_v1 n_v1 c_v1] 148 (0, 0)) :: vecC 80 4 a_v0 c_v0 n_v0 cs_v0 :: vecC 4 1 a_v1 c_v1 n_v1 cs55 :: R)) := by
 refine enter Tryd.func40 rfl rfl rfl fun a hE => ?_
 rw [FareCarCancel_v1] at hr
 subst hn_v0
 subst hn_v1
 refine W.seq (W.region ?_)
 refine vP hS hE (Gives.p hE rfl) rfl ?_; clear hE a; intro a hE
 refine WL.nil ?_
 refine W.seq ?_
 refine W.seq ?_
 obtain ⟨q58, hq57, hr⟩ := bindS hr
 refine W.cut (fun a w => ∃ (q61 : Bool), q61 = q58 ∧ Rep a 29 [(0, .pointer (some ⟨pb0, 0, none⟩)), (1, .int .i64 x1), (22, .bool q61)] ∧ St w s (pt pb0 (.cells #[.int .i64 y0.rows, .int .i64 y0.across, .int .i64 y0.stops, .slice a_v0 y0.bookings.length c_v0, .slice a_v1 y0.cancelled.length c_v1] 148 (0, 0)) :: vecC 80 4 a_v0 c_v0 y0.bookings.length cs_v0 :: vecC 4 1 a_v1 c_v1 y0.cancelled.length cs_v1 :: R)) ?_ ?_
 ·refine W.gen fun K62 hK62 => ?_
  refine W.region ?_
  refine vP hS hE (Gives.p hE rfl) rfl ?_; clear hE a; intro a hE
  refine vP hS hE (Gives.p hE rfl) rfl ?_; clear hE a; intro a hE
  refine vP hS hE (Gives.nilOk hE rfl) rfl ?_; clear hE a; intro a hE
  refine vP hS hE (Gives.fld hE rfl fl148_3) rfl ?_; clear hE a; intro a hE
  refine vP hS hE (Gives.loadB hE 0 rfl rfl rfl ty85) rfl ?_; clear hE a; intro a hE
  refine vP hS hE (Gives.len hE rfl sl85) rfl ?_; clear hE a; intro a hE
  refine vP hS hE (Gives.p hE rfl) rfl ?_; clear hE a; intro a hE
  refine WL.fnq hE (Farewithin_ok hS  rfl (r := Farewithin x1 0 (w64 (((y0.bookings.length : Nat) : Int) - 1)))) (runs_plain rfl) bd89 rfl rfl rfl ?_
  clear hE hS; rintro e w ⟨rfl, hS⟩; refine ⟨_, rfl, ?_⟩; clear a; intro a hE
  refine vP hS hE (Gives.p hE rfl) rfl ?_; clear hE a; intro a hE
  refine vP hS hE (Gives.p hE rfl) rfl ?_; clear hE a; intro a hE
  rcases Bool.eq_false_or_eq_true (!(Farewithin x1 0 (w64 (((y0.bookings.length : Nat) : Int) - 1)))) with hg63 | hg63
  ·replace hq57 := iteT hg63 hq57
   refine WL.no hE (runs_not hE rfl rfl rfl (by rw [hg63]; decide)) rfl ?_; clear hE a; intro a hE
   refine WL.no hE (runs_not hE rfl rfl rfl (by rw [hg63]; decide)) rfl ?_; clear hE a; intro a hE
   refine WL.no hE (runs_not hE rfl rfl rfl (by rw [hg63]; decide)) rfl ?_; clear hE a; intro a hE
   refine WL.no hE (runs_not hE rfl rfl rfl (by rw [hg63]; decide)) rfl ?_; clear hE a; intro a hE
   refine WL.no hE (runs_not hE rfl rfl rfl (by rw [hg63]; decide)) rfl ?_; clear hE a; intro a hE
   refine WL.no hE (runs_not hE rfl rfl rfl (by rw [hg63]; decide)) rfl ?_; clear hE a; intro a hE
   refine WL.no hE (runs_not hE rfl rfl rfl (by rw [hg63]; decide)) rfl ?_; clear hE a; intro a hE
   refine vP hS hE (Gives.pickT hE rfl hg63 rfl) rfl ?_; clear hE a; intro a hE
   refine WL.nil ?_
   subst hK62
   exact ⟨true, Option.some.inj hq57, hE.pick _ ⟨rfl, rfl, rfl, trivial⟩, hS⟩
  ·replace hq57 := iteF hg63 hq57
   refine WL.vS hS hE (runs_if hE rfl rfl rfl hg63) (Gives.p hE rfl) rfl ?_; clear hE a; intro a hE
   refine WL.vS hS hE (runs_if hE rfl rfl rfl hg63) (Gives.nilOk hE rfl) rfl ?_; clear hE a; intro a hE
   refine WL.vS hS hE (runs_if hE rfl rfl rfl hg63) (Gives.fld hE rfl fl148_4) rfl ?_; clear hE a; intro a hE
   refine WL.vS hS hE (runs_if hE rfl rfl rfl hg63) (Gives.loadB hE 0 rfl rfl rfl ty146) rfl ?_; clear hE a; intro a hE
   refine WL.vS hS hE (runs_if hE rfl rfl rfl hg63) (Gives.p hE rfl) rfl ?_; clear hE a; intro a hE
   obtain ⟨x64, hx65, hq57⟩ := bindS hq57
   obtain ⟨hi66, hlt67, hy68⟩ := gx_some hx65
   obtain ⟨vs69, hl70, hR71, hd72, hget73⟩ := h_v1.at hy68
   subst hR71
   refine WL.vS hS hE (runs_if hE rfl rfl rfl hg63) (Gives.idx hE ((x1).toNat) rfl rfl sl146 hi66 (by omega) (hS.vecAok 2 rfl (by omega : (x1).toNat < y0.cancelled.length))) rfl ?_; clear hE a; intro a hE
   refine WL.vS hS hE (runs_if hE rfl rfl rfl hg63) (Gives.load1 hE rfl (fun w h => St.vecSees h 2 rfl ((x1).toNat * 1) _ hget73) ty4) rfl ?_; clear hE a; intro a hE
   refine vP hS hE (Gives.pickF hE rfl hg63 rfl) rfl ?_; clear hE a; intro a hE
   refine WL.nil ?_
   subst hK62
   exact ⟨x64, Option.some.inj hq57, hE.pick _ ⟨rfl, rfl, rfl, trivial⟩, hS⟩
 ·clear hE hS a w; rintro a w ⟨q61, rfl, hE, hS⟩
  refine W.cond hE rfl (fun hc74 => ?_) (fun hc74 => ?_)
  ·replace hr := iteT hc74 hr
   refine W.seq (W.region ?_)
   refine vP hS hE (Gives.p hE rfl) rfl ?_; clear hE a; intro a hE
   refine WL.nil ?_
   refine W.ret ?_
   refine finG (fn := Tryd.f40) (rs := [.tmp 4]) (vs := [_]) hE rfl ⟨rfl, trivial⟩ ?_
   obtain rfl := Option.some.inj hr
   exact ⟨cs_v1, rfl, h_v1, (rfl), hS⟩
  ·replace hr := iteF hc74 hr
   refine W.skip ?_
   refine W.seq (W.region ?_)
   refine vP hS hE (Gives.p hE rfl) rfl ?_; clear hE a; intro a hE
   refine vP hS hE (Gives.nilOk hE rfl) rfl ?_; clear hE a; intro a hE
   refine vP hS hE (Gives.fld hE rfl fl148_4) rfl ?_; clear hE a; intro a hE
   refine vP hS hE (Gives.loadB hE 0 rfl rfl rfl ty146) rfl ?_; clear hE a; intro a hE
   refine vP hS hE (Gives.p hE rfl) rfl ?_; clear hE a; intro a hE
   obtain ⟨_, hx76, hr⟩ := bindS hr
   obtain ⟨h77, h78⟩ := ix_some hx76
   refine vP hS hE (Gives.idx hE ((x1).toNat) rfl rfl sl146 h77 (by omega) (hS.vecAok 2 rfl (by omega : (x1).toNat < y0.cancelled.length))) rfl ?_; clear hE a; intro a hE
   obtain ⟨x80, hx81, hr⟩ := bindS hr
   refine WL.setD hE hS 2 rfl (runs_plain rfl) rfl rfl (vs := [.bool true]) rfl ty4 rfl rfl rfl h_v1 (rfl) (sx_some hx81).1 hx81 rfl rfl ?_; clear hE hS a w; intro cs82 a w h83 hn84 hE hS
   refine WL.nil ?_
   refine W.seq (W.region ?_)
   refine vP hS hE (Gives.p hE rfl) rfl ?_; clear hE a; intro a hE
   refine WL.nil ?_
   refine W.ret ?_
   refine finG (fn := Tryd.f40) (rs := [.tmp 4]) (vs := [_]) hE rfl ⟨rfl, trivial⟩ ?_
   obtain rfl := Option.some.inj hr
   exact ⟨cs82, rfl, h83, hn84, hS⟩
end Go.Proofs.YtpcebngchmgckaaDoor
