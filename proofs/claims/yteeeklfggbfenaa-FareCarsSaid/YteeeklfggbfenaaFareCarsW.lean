/- The walks of the functions that FareCars reaches: each call comes to what its mirror says. The conditions are those of each contract. -/
import Derived.Test.YteeeklfggbfenaaProg
import Derived.Test.YteeeklfggbfenaaFareCarsM
import Derived.Test.YteeeklfggbfenaaFpAllS
import Derived.Test.YteeeklfggbfenaaFareCarsS
import Derived.Test.YteeeklfggbfenaaFpCut
import Derived.Test.YteeeklfggbfenaaFpRgn
import Derived.Test.YteeeklfggbfenaaFareCarsW2
set_option maxRecDepth 10000
namespace Go.Proofs.Yteeeklfggbfenaa
open Go Go.Fp
set_option maxHeartbeats 8000000 in
theorem Fishref2CarBook_v1_ok {fu : Nat}  {w : World} {s : Sg} {R : List HP} {pb0 : Nat} {x1 : Int} {x2 : Int} {x3 : Int} {y0 : Fishref2Car} {a_v0 : Option Addr} {c_v0 n_v0 : Nat} {cs_v0 : List Value} {a_v1 : Option Addr} {c_v1 n_v1 : Nat} {cs_v1 : List Value} (hS : St w s (pt pb0 (.cells #[.int .i64 y0.Rows, .int .i64 y0.Across, .int .i64 y0.Stops, .slice a_v0 n_v0 c_v0, .slice a_v1 n_v1 c_v1] 33 (0, 0)) :: vecC 39 4 a_v0 c_v0 n_v0 cs_v0 :: vecC 4 1 a_v1 c_v1 n_v1 cs_v1 :: R)) (h_v0 : Ev 4 RFareBooking s cs_v0 y0.All) (hn_v0 : y0.All.length = n_v0) (h_v1 : Ev 1 RB s cs_v1 y0.Gone) (hn_v1 : y0.Gone.length = n_v1) {r : FareBooking × Int × (List FareBooking) × (List Bool)} (hr : Fishref2CarBook_v1 fu x1 x2 x3 y0 = some r) :
    Calls Try.prog 13 [.pointer (some ⟨pb0, 0, none⟩), .int .i64 x1, .int .i64 x2, .int .i64 x3].toArray w (fun e w => ∃ (cs0 : List Value) (a66 : Option Addr) (c67 : Nat) (n69 : Nat) (cs70 : List Value) (a73 : Option Addr) (c74 : Nat) (n76 : Nat) (cs77 : List Value) (t : Sg), e = .returned (.tuple #[.agg cs0.toArray, .int .i64 r.2.1]) ∧ s.Le t ∧ RFareBooking t cs0 r.1 ∧ Ev 4 RFareBooking t cs70 r.2.2.1 ∧ r.2.2.1.length = n69 ∧ Ev 1 RB t cs77 r.2.2.2 ∧ r.2.2.2.length = n76 ∧ St w t (pt pb0 (.cells #[.int .i64 y0.Rows, .int .i64 y0.Across, .int .i64 y0.Stops, .slice a66 n69 c67, .slice a73 n76 c74] 33 (0, 0)) :: vecC 39 4 a66 c67 n69 cs70 :: vecC 4 1 a73 c74 n76 cs77 :: R)) := by
  refine enter Try.func13 rfl rfl rfl fun a hE => ?_
  rw [Fishref2CarBook_v1] at hr
  subst hn_v0
  subst hn_v1
  refine W.seq ?_
  refine W.region ?_
  refine WL.alloc hE hS (runs_plain rfl) zr39 rfl ?_; clear hE hS a w; intro b79 a w hE hS
  refine WL.vS hS hE (runs_plain rfl) (Gives.p hE rfl) rfl ?_; clear hE a; intro a hE
  refine WL.nil ?_
  refine W.seq ?_
  refine W.region ?_
  refine WL.vS hS hE (runs_plain rfl) (Gives.p hE rfl) rfl ?_; clear hE a; intro a hE
  refine WL.vS hS hE (runs_plain rfl) (Gives.p hE rfl) rfl ?_; clear hE a; intro a hE
  refine WL.vS hS hE (runs_plain rfl) (Gives.p hE rfl) rfl ?_; clear hE a; intro a hE
  obtain ⟨q80, hq81, hr⟩ := bindS hr
  replace hS := hS.front 3 rfl
  replace hS := hS.front 3 rfl
  replace hS := hS.front 3 rfl
  have hc_ := Fishref2CarFree_v1_ok (y0 := y0) hS h_v0 (rfl) h_v1 (rfl) hq81
  refine WL.fnq hE (hc_) (runs_plain rfl) bd10 rfl rfl rfl ?_
  clear hE hS hc_; rintro e w ⟨a82, c83, n84, cs85, rfl, h86, rfl, hS⟩; refine ⟨_, rfl, ?_⟩; clear a; intro a hE
  refine WL.vS hS hE (runs_plain rfl) (Gives.p hE rfl) rfl ?_; clear hE a; intro a hE
  refine WL.vS hS hE (runs_plain rfl) (Gives.p hE rfl) rfl ?_; clear hE a; intro a hE
  refine WL.vS hS hE (runs_plain rfl) (Gives.p hE rfl) rfl ?_; clear hE a; intro a hE
  refine WL.vS hS hE (runs_plain rfl) (Gives.p hE rfl) rfl ?_; clear hE a; intro a hE
  refine WL.vS hS hE (runs_plain rfl) (Gives.p hE rfl) rfl ?_; clear hE a; intro a hE
  refine WL.nil ?_
  refine W.seq ?_
  refine W.seq ?_
  obtain ⟨q89, hq88, hr⟩ := bndS hr
  refine W.cut (fun a w => ∃ (q92 : Bool), q92 = q89 ∧ Rep a 157 [(0, .pointer (some ⟨pb0, 0, none⟩)), (1, .int .i64 x1), (2, .int .i64 x2), (3, .int .i64 x3), (8, .pointer (some ⟨b79, 0, none⟩)), (10, .slice a82 q80.1.length c83), (35, .bool q92)] ∧ St w s (vecC 3 1 a82 c83 q80.1.length cs85 :: pt pb0 (.cells #[.int .i64 y0.Rows, .int .i64 y0.Across, .int .i64 y0.Stops, .slice a_v0 y0.All.length c_v0, .slice a_v1 y0.Gone.length c_v1] 33 (0, 0)) :: vecC 39 4 a_v0 c_v0 y0.All.length cs_v0 :: vecC 4 1 a_v1 c_v1 y0.Gone.length cs_v1 :: pt b79 (.cells #[.int .i64 0, .int .i64 0, .int .i64 0, .slice none 0 0] 39 (0, 0)) :: R)) ?_ ?_
  · refine W.gen fun K93 hK93 => ?_
    refine W.region ?_
    refine WL.vS hS hE (runs_plain rfl) (Gives.p hE rfl) rfl ?_; clear hE a; intro a hE
    refine WL.vS hS hE (runs_plain rfl) (Gives.p hE rfl) rfl ?_; clear hE a; intro a hE
    refine WL.vS hS hE (runs_plain rfl) (Gives.p hE rfl) rfl ?_; clear hE a; intro a hE
    rcases Bool.eq_false_or_eq_true (q80.2 != 0) with hg94 | hg94
    · replace hq88 := iteT hg94 hq88
      refine WL.no hE (runs_not hE rfl rfl rfl (by rw [hg94]; decide)) rfl ?_; clear hE a; intro a hE
      refine WL.no hE (runs_not hE rfl rfl rfl (by rw [hg94]; decide)) rfl ?_; clear hE a; intro a hE
      refine WL.no hE (runs_not hE rfl rfl rfl (by rw [hg94]; decide)) rfl ?_; clear hE a; intro a hE
      refine WL.vS hS hE (runs_plain rfl) (Gives.pickT hE rfl hg94 rfl) rfl ?_; clear hE a; intro a hE
      refine WL.nil ?_
      subst hK93
      exact ⟨true, hq88, hE.pick _ ⟨rfl, rfl, rfl, rfl, rfl, rfl, rfl, trivial⟩, hS⟩
    · replace hq88 := iteF hg94 hq88
      refine WL.vS hS hE (runs_if hE rfl rfl rfl hg94) (Gives.p hE rfl) rfl ?_; clear hE a; intro a hE
      refine WL.fnq hE (Fishref2within_ok hS  rfl (r := Fishref2within x3 1 8)) (runs_if hE rfl rfl rfl hg94) bd19 rfl rfl rfl ?_
      clear hE hS; rintro e w ⟨rfl, hS⟩; refine ⟨_, rfl, ?_⟩; clear a; intro a hE
      refine WL.vS hS hE (runs_if hE rfl rfl rfl hg94) (Gives.p hE rfl) rfl ?_; clear hE a; intro a hE
      refine WL.vS hS hE (runs_plain rfl) (Gives.pickF hE rfl hg94 rfl) rfl ?_; clear hE a; intro a hE
      refine WL.nil ?_
      subst hK93
      exact ⟨!(Fishref2within x3 1 8), hq88, hE.pick _ ⟨rfl, rfl, rfl, rfl, rfl, rfl, rfl, trivial⟩, hS⟩
  · clear hE hS a w; rintro a w ⟨q92, rfl, hE, hS⟩
    refine W.cond hE rfl (fun hc95 => ?_) (fun hc95 => ?_)
    · replace hr := iteT hc95 hr
      refine W.seq ?_
      refine W.region ?_
      refine WL.vS hS hE (runs_plain rfl) (Gives.build hE (vs := []) [.int .i64 0, .int .i64 0, .int .i64 0, .slice none 0 0] rfl (by kernel_rfl)) rfl ?_; clear hE a; intro a hE
      refine WL.storeI hE hS 4 rfl [.int .i64 0, .int .i64 0, .int .i64 0, .slice none 0 0] (runs_plain rfl) rfl rfl rfl ty39 rfl rfl rfl rfl ?_; clear hE hS a w; intro a w hE hS
      refine WL.vS hS hE (runs_plain rfl) (Gives.p hE rfl) rfl ?_; clear hE a; intro a hE
      refine WL.nil ?_
      refine W.ret ?_
      refine finG (fn := Try.f13) (rs := [.cell 8 39, .tmp 9]) (vs := [_, _]) hE rfl ⟨⟨_, rfl, .inl ⟨_, rfl, hS.seesAt 4 rfl, ty39⟩⟩, rfl, trivial⟩ ?_
      obtain rfl := Option.some.inj hr
      replace hS := hS.tail
      replace hS := hS.dropAt 3
      exact ⟨_, a_v0, c_v0, y0.All.length, cs_v0, a_v1, c_v1, y0.Gone.length, cs_v1, s, rfl, (Sg.Le.refl _), ⟨_, _, rfl, Sl.nil⟩, h_v0, (rfl), h_v1, (rfl), hS⟩
    · replace hr := iteF hc95 hr
      refine W.skip ?_
      refine W.seq ?_
      refine W.seq ?_
      refine W.region ?_
      refine WL.vS hS hE (runs_plain rfl) (Gives.p hE rfl) rfl ?_; clear hE a; intro a hE
      refine WL.vS hS hE (runs_plain rfl) (Gives.len hE rfl sl22) rfl ?_; clear hE a; intro a hE
      refine WL.vS hS hE (runs_plain rfl) (Gives.p hE rfl) rfl ?_; clear hE a; intro a hE
      refine WL.vS hS hE (runs_plain rfl) (Gives.p hE rfl) rfl ?_; clear hE a; intro a hE
      refine WL.nil ?_
      refine W.cond hE rfl (fun hc96 => ?_) (fun hc96 => ?_)
      · replace hr := iteT hc96 hr
        refine W.seq ?_
        refine W.region ?_
        refine WL.vS hS hE (runs_plain rfl) (Gives.build hE (vs := []) [.int .i64 0, .int .i64 0, .int .i64 0, .slice none 0 0] rfl (by kernel_rfl)) rfl ?_; clear hE a; intro a hE
        refine WL.storeI hE hS 4 rfl [.int .i64 0, .int .i64 0, .int .i64 0, .slice none 0 0] (runs_plain rfl) rfl rfl rfl ty39 rfl rfl rfl rfl ?_; clear hE hS a w; intro a w hE hS
        refine WL.vS hS hE (runs_plain rfl) (Gives.p hE rfl) rfl ?_; clear hE a; intro a hE
        refine WL.nil ?_
        refine W.ret ?_
        refine finG (fn := Try.f13) (rs := [.cell 8 39, .tmp 9]) (vs := [_, _]) hE rfl ⟨⟨_, rfl, .inl ⟨_, rfl, hS.seesAt 4 rfl, ty39⟩⟩, rfl, trivial⟩ ?_
        obtain rfl := Option.some.inj hr
        replace hS := hS.tail
        replace hS := hS.dropAt 3
        exact ⟨_, a_v0, c_v0, y0.All.length, cs_v0, a_v1, c_v1, y0.Gone.length, cs_v1, s, rfl, (Sg.Le.refl _), ⟨_, _, rfl, Sl.nil⟩, h_v0, (rfl), h_v1, (rfl), hS⟩
      · replace hr := iteF hc96 hr
        refine W.skip ?_
        refine W.seq ?_
        refine W.region ?_
        replace hS := hS.vecNil 3 1
        refine WL.vS hS hE (runs_plain rfl) (Gives.p hE rfl) rfl ?_; clear hE a; intro a hE
        refine WL.nil ?_
        refine W.seq ?_
        refine W.region ?_
        refine WL.vS hS hE (runs_plain rfl) (Gives.p hE rfl) rfl ?_; clear hE a; intro a hE
        refine WL.nil ?_
        refine W.seq ?_
        refine W.seq ?_
        refine W.region ?_
        refine WL.vS hS hE (runs_plain rfl) (Gives.p hE rfl) rfl ?_; clear hE a; intro a hE
        refine WL.vS hS hE (runs_plain rfl) (Gives.nilOk hE rfl) rfl ?_; clear hE a; intro a hE
        refine WL.vS hS hE (runs_plain rfl) (Gives.fld hE rfl fl33_0) rfl ?_; clear hE a; intro a hE
        refine WL.vS hS hE (runs_plain rfl) (Gives.loadB hE 2 rfl rfl rfl ty3) rfl ?_; clear hE a; intro a hE
        refine WL.vS hS hE (runs_plain rfl) (Gives.p hE rfl) rfl ?_; clear hE a; intro a hE
        refine WL.nil ?_
        obtain ⟨q110, hq109, hr⟩ := bindS hr
        refine W.cut (fun a w => ∃ (q115 : List Int), ∃ (q122 : Int), ∃ (q123 : Int), ∃ (a116 : Option Addr), ∃ (c117 : Nat), ∃ (n119 : Nat), ∃ (cs120 : List Value), (q115, q122, q123) = q110 ∧ Ev 1 (RI .i64) s cs120 q115 ∧ q115.length = n119 ∧ Rep a 157 [(0, .pointer (some ⟨pb0, 0, none⟩)), (1, .int .i64 x1), (2, .int .i64 x2), (3, .int .i64 x3), (8, .pointer (some ⟨b79, 0, none⟩)), (10, .slice a82 q80.1.length c83), (12, .slice a116 n119 c117)] ∧ St w s (vecC 3 1 a116 c117 n119 cs120 :: vecC 3 1 a82 c83 q80.1.length cs85 :: pt pb0 (.cells #[.int .i64 y0.Rows, .int .i64 y0.Across, .int .i64 y0.Stops, .slice a_v0 y0.All.length c_v0, .slice a_v1 y0.Gone.length c_v1] 33 (0, 0)) :: vecC 39 4 a_v0 c_v0 y0.All.length cs_v0 :: vecC 4 1 a_v1 c_v1 y0.Gone.length cs_v1 :: pt b79 (.cells #[.int .i64 0, .int .i64 0, .int .i64 0, .slice none 0 0] 39 (0, 0)) :: R)) ?_ ?_
        · refine W.block ?_
          refine W.loop (fun m a w => ∃ (n111 : Nat), ∃ (q115 : List Int), ∃ (q122 : Int), ∃ (q123 : Int), ∃ (a116 : Option Addr), ∃ (c117 : Nat), ∃ (n119 : Nat), ∃ (cs120 : List Value), n111 = m ∧ Fishref2CarBook_v1.loop2 x3 y0 q80 n111 q115 q122 q123 = some q110 ∧ Ev 1 (RI .i64) s cs120 q115 ∧ q115.length = n119 ∧ Rep a 157 [(0, .pointer (some ⟨pb0, 0, none⟩)), (1, .int .i64 x1), (2, .int .i64 x2), (3, .int .i64 x3), (8, .pointer (some ⟨b79, 0, none⟩)), (10, .slice a82 q80.1.length c83), (12, .slice a116 n119 c117), (13, .int .i64 q122), (45, .int .i64 y0.Rows), (46, .int .i64 q123)] ∧ St w s (vecC 3 1 a116 c117 n119 cs120 :: vecC 3 1 a82 c83 q80.1.length cs85 :: pt pb0 (.cells #[.int .i64 y0.Rows, .int .i64 y0.Across, .int .i64 y0.Stops, .slice a_v0 y0.All.length c_v0, .slice a_v1 y0.Gone.length c_v1] 33 (0, 0)) :: vecC 39 4 a_v0 c_v0 y0.All.length cs_v0 :: vecC 4 1 a_v1 c_v1 y0.Gone.length cs_v1 :: pt b79 (.cells #[.int .i64 0, .int .i64 0, .int .i64 0, .slice none 0 0] 39 (0, 0)) :: R)) (m := fu) ⟨fu, [], 0, 0, none, 0, 0, [], rfl, hq109, (Ev.nil), (rfl), hE.pick _ ⟨rfl, rfl, rfl, rfl, rfl, rfl, rfl, rfl, rfl, rfl, trivial⟩, hS⟩ ?_
          clear hE hS a w hq109; rintro m112 a w ⟨n111, q115, q122, q123, a116, c117, n119, cs120, rfl, hq109, h118, rfl, hE, hS⟩
          refine W.gen fun K124 hK124 => ?_
          rcases n111 with _ | n111
          · rw [Fishref2CarBook_v1.loop2] at hq109; exact absurd hq109 (by simp)
          rw [Fishref2CarBook_v1.loop2] at hq109
          refine W.seq ?_
          refine W.region ?_
          refine WL.vS hS hE (runs_plain rfl) (Gives.p hE rfl) rfl ?_; clear hE a; intro a hE
          refine WL.nil ?_
          refine W.seq ?_
          refine W.cond hE rfl (fun hc125 => ?_) (fun hc125 => ?_)
          · replace hq109 := iteT hc125 hq109
            refine W.skip ?_
            refine W.seq ?_
            refine W.block ?_
            refine W.seq ?_
            refine W.region ?_
            refine WL.vS hS hE (runs_plain rfl) (Gives.p hE rfl) rfl ?_; clear hE a; intro a hE
            refine WL.vS hS hE (runs_plain rfl) (Gives.p hE rfl) rfl ?_; clear hE a; intro a hE
            refine WL.nil ?_
            refine W.seq ?_
            refine W.region ?_
            replace hS := hS.vecNil 3 1
            refine WL.vS hS hE (runs_plain rfl) (Gives.p hE rfl) rfl ?_; clear hE a; intro a hE
            refine WL.nil ?_
            refine W.seq ?_
            refine W.seq ?_
            refine W.region ?_
            refine WL.vS hS hE (runs_plain rfl) (Gives.p hE rfl) rfl ?_; clear hE a; intro a hE
            refine WL.vS hS hE (runs_plain rfl) (Gives.len hE rfl sl22) rfl ?_; clear hE a; intro a hE
            refine WL.vS hS hE (runs_plain rfl) (Gives.p hE rfl) rfl ?_; clear hE a; intro a hE
            refine WL.nil ?_
            have hb138 : q80.1.length ≤ 9223372036854775807 := by have := hS.vecCap 2 rfl; unfold maxLen at this; omega
            obtain ⟨q128, hq127, hq109⟩ := bindS hq109
            refine W.cut (fun a w => ∃ (q139 : List Int), ∃ (a140 : Option Addr), ∃ (c141 : Nat), ∃ (n143 : Nat), ∃ (cs144 : List Value), q139 = q128 ∧ Ev 1 (RI .i64) s cs144 q139 ∧ q139.length = n143 ∧ Rep a 157 [(0, .pointer (some ⟨pb0, 0, none⟩)), (1, .int .i64 x1), (2, .int .i64 x2), (3, .int .i64 x3), (8, .pointer (some ⟨b79, 0, none⟩)), (10, .slice a82 q80.1.length c83), (12, .slice a116 q115.length c117), (13, .int .i64 q122), (15, .slice a140 n143 c141), (45, .int .i64 y0.Rows), (46, .int .i64 q123)] ∧ St w s (vecC 3 1 a140 c141 n143 cs144 :: vecC 3 1 a116 c117 q115.length cs120 :: vecC 3 1 a82 c83 q80.1.length cs85 :: pt pb0 (.cells #[.int .i64 y0.Rows, .int .i64 y0.Across, .int .i64 y0.Stops, .slice a_v0 y0.All.length c_v0, .slice a_v1 y0.Gone.length c_v1] 33 (0, 0)) :: vecC 39 4 a_v0 c_v0 y0.All.length cs_v0 :: vecC 4 1 a_v1 c_v1 y0.Gone.length cs_v1 :: pt b79 (.cells #[.int .i64 0, .int .i64 0, .int .i64 0, .slice none 0 0] 39 (0, 0)) :: R)) ?_ ?_
            · refine W.block ?_
              refine W.loop (fun m a w => ∃ (rest131 : Nat) (k129 : Nat), ∃ (q139 : List Int), ∃ (a140 : Option Addr), ∃ (c141 : Nat), ∃ (n143 : Nat), ∃ (cs144 : List Value), rest131 = m ∧ k129 + rest131 = q80.1.length ∧ Fishref2CarBook_v1.loop3 y0 q80 q123 rest131 k129 q139 = some q128 ∧ Ev 1 (RI .i64) s cs144 q139 ∧ q139.length = n143 ∧ Rep a 157 [(0, .pointer (some ⟨pb0, 0, none⟩)), (1, .int .i64 x1), (2, .int .i64 x2), (3, .int .i64 x3), (8, .pointer (some ⟨b79, 0, none⟩)), (10, .slice a82 q80.1.length c83), (12, .slice a116 q115.length c117), (13, .int .i64 q122), (14, .int .i64 q123), (15, .slice a140 n143 c141), (45, .int .i64 y0.Rows), (46, .int .i64 q123), (49, .slice a82 q80.1.length c83), (50, .int .i64 ((q80.1.length : Nat) : Int)), (51, .int .i64 ((k129 : Nat) : Int))] ∧ St w s (vecC 3 1 a140 c141 n143 cs144 :: vecC 3 1 a116 c117 q115.length cs120 :: vecC 3 1 a82 c83 q80.1.length cs85 :: pt pb0 (.cells #[.int .i64 y0.Rows, .int .i64 y0.Across, .int .i64 y0.Stops, .slice a_v0 y0.All.length c_v0, .slice a_v1 y0.Gone.length c_v1] 33 (0, 0)) :: vecC 39 4 a_v0 c_v0 y0.All.length cs_v0 :: vecC 4 1 a_v1 c_v1 y0.Gone.length cs_v1 :: pt b79 (.cells #[.int .i64 0, .int .i64 0, .int .i64 0, .slice none 0 0] 39 (0, 0)) :: R)) (m := q80.1.length) ⟨q80.1.length, 0, [], none, 0, 0, [], rfl, by omega, hq127, (Ev.nil), (rfl), hE.pick _ ⟨rfl, rfl, rfl, rfl, rfl, rfl, rfl, rfl, rfl, rfl, rfl, rfl, rfl, rfl, rfl, trivial⟩, hS⟩ ?_
              clear hE hS a w hq127; rintro m135 a w ⟨rest131, k129, q139, a140, c141, n143, cs144, rfl, hd132, hq127, h142, rfl, hE, hS⟩
              refine W.gen fun K146 hK146 => ?_
              rcases rest131 with _ | rest131
              · skip
                refine W.seq ?_
                refine W.region ?_
                refine WL.vS hS hE (runs_plain rfl) (Gives.p hE rfl) rfl ?_; clear hE a; intro a hE
                refine WL.nil ?_
                refine W.seq ?_
                refine W.condF hE rfl (decide_eq_false (by omega)) ?_
                subst hK146
                refine W.exit rfl ?_
                exact ⟨q139, a140, c141, q139.length, cs144, Option.some.inj hq127, h142, rfl, hE.pick _ ⟨rfl, rfl, rfl, rfl, rfl, rfl, rfl, rfl, rfl, rfl, rfl, trivial⟩, hS⟩
              · have hlt133 : k129 < q80.1.length := by omega
                rw [Fishref2CarBook_v1.loop3] at hq127
                refine W.seq ?_
                refine W.region ?_
                refine WL.vS hS hE (runs_plain rfl) (Gives.p hE rfl) rfl ?_; clear hE a; intro a hE
                refine WL.nil ?_
                refine W.seq ?_
                refine W.condT hE rfl (decide_eq_true (by omega)) ?_
                refine W.skip ?_
                refine W.seq ?_
                refine W.block ?_
                refine W.seq ?_
                refine W.region ?_
                obtain ⟨x147, hx148, hq127⟩ := bindS hq127
                obtain ⟨hi149, hlt150, hy151⟩ := gx_some hx148
                obtain ⟨vs152, hl153, hR154, hd155, hget156⟩ := h86.at hy151
                subst hR154
                refine WL.vS hS hE (runs_plain rfl) (Gives.idx hE ((((k129 : Nat) : Int)).toNat) rfl rfl sl22 hi149 (by omega) (hS.vecAok 2 rfl (by omega : (((k129 : Nat) : Int)).toNat < q80.1.length))) rfl ?_; clear hE a; intro a hE
                refine WL.vS hS hE (runs_plain rfl) (Gives.load1 hE rfl (fun w h => St.vecSees h 2 rfl ((((k129 : Nat) : Int)).toNat * 1) _ hget156) ty3) rfl ?_; clear hE a; intro a hE
                refine WL.vS hS hE (runs_plain rfl) (Gives.p hE rfl) rfl ?_; clear hE a; intro a hE
                refine WL.nil ?_
                refine W.seq ?_
                refine W.region ?_
                refine WL.vS hS hE (runs_plain rfl) (Gives.p hE rfl) rfl ?_; clear hE a; intro a hE
                refine WL.vS hS hE (runs_plain rfl) (Gives.p hE rfl) rfl ?_; clear hE a; intro a hE
                refine WL.vS hS hE (runs_plain rfl) (Gives.nilOk hE rfl) rfl ?_; clear hE a; intro a hE
                refine WL.vS hS hE (runs_plain rfl) (Gives.fld hE rfl fl33_1) rfl ?_; clear hE a; intro a hE
                refine WL.vS hS hE (runs_plain rfl) (Gives.loadB hE 3 rfl rfl rfl ty3) rfl ?_; clear hE a; intro a hE
                obtain ⟨x157, hx158, hq127⟩ := bindS hq127
                refine WL.vS hS hE (runs_plain rfl) (Gives.dv hE rfl rfl hx158) rfl ?_; clear hE a; intro a hE
                refine WL.vS hS hE (runs_plain rfl) (Gives.p hE rfl) rfl ?_; clear hE a; intro a hE
                refine WL.vS hS hE (runs_plain rfl) (Gives.p hE rfl) rfl ?_; clear hE a; intro a hE
                refine WL.nil ?_
                obtain ⟨q160, hq159, hq127⟩ := bindS hq127
                refine W.cut (fun a w => ∃ (q163 : List Int), ∃ (a164 : Option Addr), ∃ (c165 : Nat), ∃ (n167 : Nat), ∃ (cs168 : List Value), q163 = q160 ∧ Ev 1 (RI .i64) s cs168 q163 ∧ q163.length = n167 ∧ Rep a 157 [(0, .pointer (some ⟨pb0, 0, none⟩)), (1, .int .i64 x1), (2, .int .i64 x2), (3, .int .i64 x3), (8, .pointer (some ⟨b79, 0, none⟩)), (10, .slice a82 q80.1.length c83), (12, .slice a116 q115.length c117), (13, .int .i64 q122), (14, .int .i64 q123), (15, .slice a164 n167 c165), (45, .int .i64 y0.Rows), (46, .int .i64 q123), (49, .slice a82 q80.1.length c83), (50, .int .i64 ((q80.1.length : Nat) : Int)), (51, .int .i64 ((k129 : Nat) : Int))] ∧ St w s (vecC 3 1 a164 c165 n167 cs168 :: vecC 3 1 a116 c117 q115.length cs120 :: vecC 3 1 a82 c83 q80.1.length cs85 :: pt pb0 (.cells #[.int .i64 y0.Rows, .int .i64 y0.Across, .int .i64 y0.Stops, .slice a_v0 y0.All.length c_v0, .slice a_v1 y0.Gone.length c_v1] 33 (0, 0)) :: vecC 39 4 a_v0 c_v0 y0.All.length cs_v0 :: vecC 4 1 a_v1 c_v1 y0.Gone.length cs_v1 :: pt b79 (.cells #[.int .i64 0, .int .i64 0, .int .i64 0, .slice none 0 0] 39 (0, 0)) :: R)) ?_ ?_
                · refine W.gen fun K170 hK170 => ?_
                  refine W.cond hE rfl (fun hc171 => ?_) (fun hc171 => ?_)
                  · replace hq159 := iteT hc171 hq159
                    refine W.region ?_
                    refine WL.vS hS hE (runs_plain rfl) (Gives.p hE rfl) rfl ?_; clear hE a; intro a hE
                    refine WL.vS hS hE (runs_plain rfl) (Gives.p hE rfl) rfl ?_; clear hE a; intro a hE
                    refine WL.lit hE hS (e := 3) (es := 1) (vs := [(0, .int .i64 x147)]) (cs := [.int .i64 x147]) (runs_plain rfl) rfl (by kernel_rfl) rfl ?_; clear hE hS a w; intro b172 a w hE hS
                    obtain ⟨x173, hx174, hq159⟩ := bindS hq159
                    refine WL.appD hE hS 0 (m := 1) (runs_plain rfl) rfl rfl rfl ap22 rfl h142 rfl (xs := [x147]) (Ev.cons (c1 := [.int .i64 x147]) rfl rfl (Ev.nil)) rfl rfl hx174 rfl ?_; clear hE hS a w; intro a175 c176 cs177 a w h178 hE hS
                    refine WL.vS hS hE (runs_plain rfl) (Gives.p hE rfl) rfl ?_; clear hE a; intro a hE
                    refine WL.nil ?_
                    subst hK170
                    exact ⟨x173, a175, c176, x173.length, cs177, Option.some.inj hq159, h178, (rfl), hE.pick _ ⟨rfl, rfl, rfl, rfl, rfl, rfl, rfl, rfl, rfl, rfl, rfl, rfl, rfl, rfl, rfl, trivial⟩, hS⟩
                  · replace hq159 := iteF hc171 hq159
                    refine W.skip ?_
                    subst hK170
                    exact ⟨q139, a140, c141, q139.length, cs144, Option.some.inj hq159, h142, rfl, hE.pick _ ⟨rfl, rfl, rfl, rfl, rfl, rfl, rfl, rfl, rfl, rfl, rfl, rfl, rfl, rfl, rfl, trivial⟩, hS⟩
                · clear hE hS a w; rintro a w ⟨q163, a164, c165, n167, cs168, rfl, h166, rfl, hE, hS⟩
                  refine W.region ?_
                  refine WL.vS hS hE (runs_plain rfl) (Gives.inc hE rfl (by omega)) rfl ?_; clear hE a; intro a hE
                  refine WL.vS hS hE (runs_plain rfl) (Gives.p hE rfl) rfl ?_; clear hE a; intro a hE
                  refine WL.nil ?_
                  subst hK146
                  exact ⟨rest131, Nat.lt_succ_self _, rest131, k129 + 1, q163, a164, c165, q163.length, cs168, rfl, (by omega), hq127, h166, rfl, hE.pick _ ⟨rfl, rfl, rfl, rfl, rfl, rfl, rfl, rfl, rfl, rfl, rfl, rfl, rfl, rfl, rfl, trivial⟩, hS⟩
            · clear hE hS a w; rintro a w ⟨q139, a140, c141, n143, cs144, rfl, h142, rfl, hE, hS⟩
              refine W.seq ?_
              obtain ⟨q180, hq179, hq109⟩ := bndS hq109
              refine W.cut (fun a w => ∃ (q183 : Bool), q183 = q180 ∧ Rep a 157 [(0, .pointer (some ⟨pb0, 0, none⟩)), (1, .int .i64 x1), (2, .int .i64 x2), (3, .int .i64 x3), (8, .pointer (some ⟨b79, 0, none⟩)), (10, .slice a82 q80.1.length c83), (12, .slice a116 q115.length c117), (13, .int .i64 q122), (15, .slice a140 q139.length c141), (45, .int .i64 y0.Rows), (46, .int .i64 q123), (81, .bool q183)] ∧ St w s (vecC 3 1 a140 c141 q139.length cs144 :: vecC 3 1 a116 c117 q115.length cs120 :: vecC 3 1 a82 c83 q80.1.length cs85 :: pt pb0 (.cells #[.int .i64 y0.Rows, .int .i64 y0.Across, .int .i64 y0.Stops, .slice a_v0 y0.All.length c_v0, .slice a_v1 y0.Gone.length c_v1] 33 (0, 0)) :: vecC 39 4 a_v0 c_v0 y0.All.length cs_v0 :: vecC 4 1 a_v1 c_v1 y0.Gone.length cs_v1 :: pt b79 (.cells #[.int .i64 0, .int .i64 0, .int .i64 0, .slice none 0 0] 39 (0, 0)) :: R)) ?_ ?_
              · refine W.gen fun K184 hK184 => ?_
                refine W.region ?_
                refine WL.vS hS hE (runs_plain rfl) (Gives.p hE rfl) rfl ?_; clear hE a; intro a hE
                refine WL.vS hS hE (runs_plain rfl) (Gives.len hE rfl sl22) rfl ?_; clear hE a; intro a hE
                refine WL.vS hS hE (runs_plain rfl) (Gives.p hE rfl) rfl ?_; clear hE a; intro a hE
                refine WL.vS hS hE (runs_plain rfl) (Gives.p hE rfl) rfl ?_; clear hE a; intro a hE
                refine WL.vS hS hE (runs_plain rfl) (Gives.p hE rfl) rfl ?_; clear hE a; intro a hE
                rcases Bool.eq_false_or_eq_true (decide (((q139.length : Nat) : Int) ≥ x3)) with hg185 | hg185
                · replace hq179 := iteT hg185 hq179
                  refine WL.vS hS hE (runs_if hE rfl rfl rfl hg185) (Gives.p hE rfl) rfl ?_; clear hE a; intro a hE
                  refine WL.vS hS hE (runs_if hE rfl rfl rfl hg185) (Gives.p hE rfl) rfl ?_; clear hE a; intro a hE
                  refine WL.vS hS hE (runs_if hE rfl rfl rfl hg185) (Gives.p hE rfl) rfl ?_; clear hE a; intro a hE
                  rcases Bool.eq_false_or_eq_true (q122 == 0) with hg186 | hg186
                  · replace hq179 := iteT hg186 hq179
                    refine WL.no hE (runs_not hE rfl rfl rfl (by rw [hg186]; decide)) rfl ?_; clear hE a; intro a hE
                    refine WL.no hE (runs_not hE rfl rfl rfl (by rw [hg186]; decide)) rfl ?_; clear hE a; intro a hE
                    refine WL.no hE (runs_not hE rfl rfl rfl (by rw [hg186]; decide)) rfl ?_; clear hE a; intro a hE
                    refine WL.no hE (runs_not hE rfl rfl rfl (by rw [hg186]; decide)) rfl ?_; clear hE a; intro a hE
                    refine WL.vS hS hE (runs_if hE rfl rfl rfl hg185) (Gives.pickT hE rfl hg186 rfl) rfl ?_; clear hE a; intro a hE
                    refine WL.vS hS hE (runs_plain rfl) (Gives.pickT hE rfl hg185 rfl) rfl ?_; clear hE a; intro a hE
                    refine WL.nil ?_
                    subst hK184
                    exact ⟨true, hq179, hE.pick _ ⟨rfl, rfl, rfl, rfl, rfl, rfl, rfl, rfl, rfl, rfl, rfl, rfl, trivial⟩, hS⟩
                  · replace hq179 := iteF hg186 hq179
                    refine WL.vS hS hE (runs_if hE rfl rfl rfl hg186) (Gives.p hE rfl) rfl ?_; clear hE a; intro a hE
                    refine WL.vS hS hE (runs_if hE rfl rfl rfl hg186) (Gives.len hE rfl sl22) rfl ?_; clear hE a; intro a hE
                    refine WL.vS hS hE (runs_if hE rfl rfl rfl hg186) (Gives.p hE rfl) rfl ?_; clear hE a; intro a hE
                    refine WL.vS hS hE (runs_if hE rfl rfl rfl hg186) (Gives.p hE rfl) rfl ?_; clear hE a; intro a hE
                    refine WL.vS hS hE (runs_if hE rfl rfl rfl hg185) (Gives.pickF hE rfl hg186 rfl) rfl ?_; clear hE a; intro a hE
                    refine WL.vS hS hE (runs_plain rfl) (Gives.pickT hE rfl hg185 rfl) rfl ?_; clear hE a; intro a hE
                    refine WL.nil ?_
                    subst hK184
                    exact ⟨decide (((q139.length : Nat) : Int) < q122), hq179, hE.pick _ ⟨rfl, rfl, rfl, rfl, rfl, rfl, rfl, rfl, rfl, rfl, rfl, rfl, trivial⟩, hS⟩
                · replace hq179 := iteF hg185 hq179
                  refine WL.no hE (runs_not hE rfl rfl rfl (by rw [hg185]; decide)) rfl ?_; clear hE a; intro a hE
                  refine WL.no hE (runs_not hE rfl rfl rfl (by rw [hg185]; decide)) rfl ?_; clear hE a; intro a hE
                  refine WL.no hE (runs_not hE rfl rfl rfl (by rw [hg185]; decide)) rfl ?_; clear hE a; intro a hE
                  refine WL.no hE (runs_undef hE rfl rfl rfl) rfl ?_; clear hE a; intro a hE
                  refine WL.no hE (runs_undef hE rfl rfl rfl) rfl ?_; clear hE a; intro a hE
                  refine WL.no hE (runs_undef hE rfl rfl rfl) rfl ?_; clear hE a; intro a hE
                  refine WL.no hE (runs_undef hE rfl rfl rfl) rfl ?_; clear hE a; intro a hE
                  refine WL.no hE (runs_not hE rfl rfl rfl (by rw [hg185]; decide)) rfl ?_; clear hE a; intro a hE
                  refine WL.vS hS hE (runs_plain rfl) (Gives.pickF hE rfl hg185 rfl) rfl ?_; clear hE a; intro a hE
                  refine WL.nil ?_
                  subst hK184
                  exact ⟨false, hq179, hE.pick _ ⟨rfl, rfl, rfl, rfl, rfl, rfl, rfl, rfl, rfl, rfl, rfl, rfl, trivial⟩, hS⟩
              · clear hE hS a w; rintro a w ⟨q183, rfl, hE, hS⟩
                obtain ⟨q188, hq187, hq109⟩ := bindS hq109
                refine W.cut (fun a w => ∃ (q191 : List Int), ∃ (q198 : Int), ∃ (a192 : Option Addr), ∃ (c193 : Nat), ∃ (n195 : Nat), ∃ (cs196 : List Value), (q191, q198) = q188 ∧ Ev 1 (RI .i64) s cs196 q191 ∧ q191.length = n195 ∧ Rep a 157 [(0, .pointer (some ⟨pb0, 0, none⟩)), (1, .int .i64 x1), (2, .int .i64 x2), (3, .int .i64 x3), (8, .pointer (some ⟨b79, 0, none⟩)), (10, .slice a82 q80.1.length c83), (12, .slice a192 n195 c193), (13, .int .i64 q198), (45, .int .i64 y0.Rows), (46, .int .i64 q123)] ∧ St w s (vecC 3 1 a192 c193 n195 cs196 :: vecC 3 1 a82 c83 q80.1.length cs85 :: pt pb0 (.cells #[.int .i64 y0.Rows, .int .i64 y0.Across, .int .i64 y0.Stops, .slice a_v0 y0.All.length c_v0, .slice a_v1 y0.Gone.length c_v1] 33 (0, 0)) :: vecC 39 4 a_v0 c_v0 y0.All.length cs_v0 :: vecC 4 1 a_v1 c_v1 y0.Gone.length cs_v1 :: pt b79 (.cells #[.int .i64 0, .int .i64 0, .int .i64 0, .slice none 0 0] 39 (0, 0)) :: R)) ?_ ?_
                · refine W.gen fun K199 hK199 => ?_
                  refine W.cond hE rfl (fun hc200 => ?_) (fun hc200 => ?_)
                  · replace hq187 := iteT hc200 hq187
                    refine W.gen fun K201 hK201 => ?_
                    refine rE hS [0] [0] [0, 1, 2, 3, 4, 5, 6] [0, 1, 2, 3, 4, 5, 6] mixed ?_
                    replace hS := hS.drew
                    refine Rg.takeP (i := 0) hE rfl (by kernel_rfl) (runs_plain rfl) (Gives.p hE rfl) rfl (tw_sel (fun _ => (hS.tail)) (fun _ => (hS.tail))) ?_; clear hE a; intro a hE
                    refine Rg.takeP (i := 1) hE rfl (by kernel_rfl) (runs_plain rfl) (Gives.len hE rfl sl22) rfl (tw_sel (fun _ => (hS.tail)) (fun _ => (hS.tail))) ?_; clear hE a; intro a hE
                    refine Rg.takeP (i := 2) hE rfl (by kernel_rfl) (runs_plain rfl) (Gives.p hE rfl) rfl (tw_sel (fun _ => (hS.tail)) (fun _ => (hS.tail))) ?_; clear hE a; intro a hE
                    refine Rg.takeP (i := 3) hE rfl (by kernel_rfl) (runs_plain rfl) (Gives.p hE rfl) rfl (tw_sel (fun _ => (hS.tail)) (fun _ => (hS.tail))) ?_; clear hE a; intro a hE
                    obtain ⟨x202, hx203, hq187⟩ := bindS hq187
                    obtain ⟨_, h204, h205, h206, h207, _⟩ := cutl_some hx203
                    have h208 := (hS.vecCap 0 rfl).1
                    have h209 : Ev 1 (RI .i64) s (cs144.take ((x3).toNat * 1)) x202 := by rw [h206]; exact h142.take _
                    have hn210 : x202.length = (x3).toNat := by rw [h206]; simp; omega
                    replace hS := hS.vecTake 0 rfl (by omega)
                    refine Rg.takeP (i := 4) hE rfl (by kernel_rfl) (runs_plain rfl) (Gives.slH hE sl22 rfl rfl h204 (Int.le_trans h205 (by omega)) (sliced_zero _ _ _ _)) rfl (tw_sel (fun _ => (hS.tail)) (fun _ => (hS.tail))) ?_; clear hE a; intro a hE
                    refine Rg.takeP (i := 5) hE rfl (by kernel_rfl) (runs_plain rfl) (Gives.p hE rfl) rfl (tw_sel (fun _ => (hS.tail)) (fun _ => (hS.tail))) ?_; clear hE a; intro a hE
                    refine Rg.takeP (i := 6) hE rfl (by kernel_rfl) (runs_plain rfl) (Gives.p hE rfl) rfl (tw_sel (fun _ => (hS.tail)) (fun _ => (hS.tail))) ?_; clear hE a; intro a hE
                    refine Rg.done (by kernel_rfl) ?_
                    subst hK201
                    replace hS := hS.dropAt 1
                    subst hK199
                    exact ⟨x202, ((q139.length : Nat) : Int), a140, c141, (x3).toNat, (cs144.take ((x3).toNat * 1)), Option.some.inj hq187, h209, hn210, hE.pick _ ⟨rfl, rfl, rfl, rfl, rfl, rfl, rfl, rfl, rfl, rfl, trivial⟩, hS⟩
                  · replace hq187 := iteF hc200 hq187
                    refine W.skip ?_
                    replace hS := hS.tail
                    subst hK199
                    exact ⟨q115, q122, a116, c117, q115.length, cs120, Option.some.inj hq187, h118, rfl, hE.pick _ ⟨rfl, rfl, rfl, rfl, rfl, rfl, rfl, rfl, rfl, rfl, trivial⟩, hS⟩
                · clear hE hS a w; rintro a w ⟨q191, q198, a192, c193, n195, cs196, rfl, h194, rfl, hE, hS⟩
                  dsimp only at hq109
                  refine W.region ?_
                  refine WL.vS hS hE (runs_plain rfl) (Gives.p hE rfl) rfl ?_; clear hE a; intro a hE
                  refine WL.vS hS hE (runs_plain rfl) (Gives.p hE rfl) rfl ?_; clear hE a; intro a hE
                  refine WL.nil ?_
                  subst hK124
                  exact ⟨n111, Nat.lt_succ_self _, n111, q191, q198, (w64 (q123 + 1)), a192, c193, q191.length, cs196, rfl, hq109, h194, rfl, hE.pick _ ⟨rfl, rfl, rfl, rfl, rfl, rfl, rfl, rfl, rfl, rfl, trivial⟩, hS⟩
          · replace hq109 := iteF hc125 hq109
            subst hK124
            refine W.exit rfl ?_
            exact ⟨q115, q122, q123, a116, c117, q115.length, cs120, Option.some.inj hq109, h118, rfl, hE.pick _ ⟨rfl, rfl, rfl, rfl, rfl, rfl, rfl, trivial⟩, hS⟩
        · clear hE hS a w; rintro a w ⟨q115, q122, q123, a116, c117, n119, cs120, rfl, h118, rfl, hE, hS⟩
          dsimp only at hr
          refine W.seq ?_
          refine W.seq ?_
          refine W.region ?_
          refine WL.vS hS hE (runs_plain rfl) (Gives.p hE rfl) rfl ?_; clear hE a; intro a hE
          refine WL.nil ?_
          obtain ⟨q212, hq211, hr⟩ := bindS hr
          refine W.cut (fun a w => ∃ (q217 : List Int), ∃ (q224 : Int), ∃ (a218 : Option Addr), ∃ (c219 : Nat), ∃ (n221 : Nat), ∃ (cs222 : List Value), (q217, q224) = q212 ∧ Ev 1 (RI .i64) s cs222 q217 ∧ q217.length = n221 ∧ Rep a 157 [(0, .pointer (some ⟨pb0, 0, none⟩)), (1, .int .i64 x1), (2, .int .i64 x2), (8, .pointer (some ⟨b79, 0, none⟩)), (12, .slice a218 n221 c219)] ∧ St w s (vecC 3 1 a218 c219 n221 cs222 :: vecC 3 1 a82 c83 q80.1.length cs85 :: pt pb0 (.cells #[.int .i64 y0.Rows, .int .i64 y0.Across, .int .i64 y0.Stops, .slice a_v0 y0.All.length c_v0, .slice a_v1 y0.Gone.length c_v1] 33 (0, 0)) :: vecC 39 4 a_v0 c_v0 y0.All.length cs_v0 :: vecC 4 1 a_v1 c_v1 y0.Gone.length cs_v1 :: pt b79 (.cells #[.int .i64 0, .int .i64 0, .int .i64 0, .slice none 0 0] 39 (0, 0)) :: R)) ?_ ?_
          · refine W.block ?_
            refine W.loop (fun m a w => ∃ (n213 : Nat), ∃ (q217 : List Int), ∃ (q224 : Int), ∃ (a218 : Option Addr), ∃ (c219 : Nat), ∃ (n221 : Nat), ∃ (cs222 : List Value), n213 = m ∧ Fishref2CarBook_v1.loop4 x1 x2 x3 y0 fu q80 n213 q217 q224 = some q212 ∧ Ev 1 (RI .i64) s cs222 q217 ∧ q217.length = n221 ∧ Rep a 157 [(0, .pointer (some ⟨pb0, 0, none⟩)), (1, .int .i64 x1), (2, .int .i64 x2), (3, .int .i64 x3), (8, .pointer (some ⟨b79, 0, none⟩)), (10, .slice a82 q80.1.length c83), (12, .slice a218 n221 c219), (18, .int .i64 q224)] ∧ St w s (vecC 3 1 a218 c219 n221 cs222 :: vecC 3 1 a82 c83 q80.1.length cs85 :: pt pb0 (.cells #[.int .i64 y0.Rows, .int .i64 y0.Across, .int .i64 y0.Stops, .slice a_v0 y0.All.length c_v0, .slice a_v1 y0.Gone.length c_v1] 33 (0, 0)) :: vecC 39 4 a_v0 c_v0 y0.All.length cs_v0 :: vecC 4 1 a_v1 c_v1 y0.Gone.length cs_v1 :: pt b79 (.cells #[.int .i64 0, .int .i64 0, .int .i64 0, .slice none 0 0] 39 (0, 0)) :: R)) (m := fu) ⟨fu, q115, 1, a116, c117, q115.length, cs120, rfl, hq211, h118, rfl, hE.pick _ ⟨rfl, rfl, rfl, rfl, rfl, rfl, rfl, rfl, trivial⟩, hS⟩ ?_
            clear hE hS a w hq211; rintro m214 a w ⟨n213, q217, q224, a218, c219, n221, cs222, rfl, hq211, h220, rfl, hE, hS⟩
            refine W.gen fun K225 hK225 => ?_
            rcases n213 with _ | n213
            · rw [Fishref2CarBook_v1.loop4] at hq211; exact absurd hq211 (by simp)
            rw [Fishref2CarBook_v1.loop4] at hq211
            refine W.seq ?_
            refine W.seq ?_
            obtain ⟨q227, hq226, hq211⟩ := bndS hq211
            refine W.cut (fun a w => ∃ (q230 : Bool), q230 = q227 ∧ Rep a 157 [(0, .pointer (some ⟨pb0, 0, none⟩)), (1, .int .i64 x1), (2, .int .i64 x2), (3, .int .i64 x3), (8, .pointer (some ⟨b79, 0, none⟩)), (10, .slice a82 q80.1.length c83), (12, .slice a218 q217.length c219), (18, .int .i64 q224), (99, .bool q230)] ∧ St w s (vecC 3 1 a218 c219 q217.length cs222 :: vecC 3 1 a82 c83 q80.1.length cs85 :: pt pb0 (.cells #[.int .i64 y0.Rows, .int .i64 y0.Across, .int .i64 y0.Stops, .slice a_v0 y0.All.length c_v0, .slice a_v1 y0.Gone.length c_v1] 33 (0, 0)) :: vecC 39 4 a_v0 c_v0 y0.All.length cs_v0 :: vecC 4 1 a_v1 c_v1 y0.Gone.length cs_v1 :: pt b79 (.cells #[.int .i64 0, .int .i64 0, .int .i64 0, .slice none 0 0] 39 (0, 0)) :: R)) ?_ ?_
            · refine W.gen fun K231 hK231 => ?_
              refine W.region ?_
              refine WL.vS hS hE (runs_plain rfl) (Gives.p hE rfl) rfl ?_; clear hE a; intro a hE
              refine WL.vS hS hE (runs_plain rfl) (Gives.len hE rfl sl22) rfl ?_; clear hE a; intro a hE
              refine WL.vS hS hE (runs_plain rfl) (Gives.p hE rfl) rfl ?_; clear hE a; intro a hE
              refine WL.vS hS hE (runs_plain rfl) (Gives.p hE rfl) rfl ?_; clear hE a; intro a hE
              refine WL.vS hS hE (runs_plain rfl) (Gives.p hE rfl) rfl ?_; clear hE a; intro a hE
              rcases Bool.eq_false_or_eq_true (decide (((q217.length : Nat) : Int) < x3)) with hg232 | hg232
              · replace hq226 := iteT hg232 hq226
                refine WL.vS hS hE (runs_if hE rfl rfl rfl hg232) (Gives.p hE rfl) rfl ?_; clear hE a; intro a hE
                refine WL.vS hS hE (runs_if hE rfl rfl rfl hg232) (Gives.p hE rfl) rfl ?_; clear hE a; intro a hE
                refine WL.vS hS hE (runs_if hE rfl rfl rfl hg232) (Gives.nilOk hE rfl) rfl ?_; clear hE a; intro a hE
                refine WL.vS hS hE (runs_if hE rfl rfl rfl hg232) (Gives.fld hE rfl fl33_2) rfl ?_; clear hE a; intro a hE
                refine WL.vS hS hE (runs_if hE rfl rfl rfl hg232) (Gives.loadB hE 2 rfl rfl rfl ty3) rfl ?_; clear hE a; intro a hE
                refine WL.vS hS hE (runs_if hE rfl rfl rfl hg232) (Gives.p hE rfl) rfl ?_; clear hE a; intro a hE
                refine WL.vS hS hE (runs_plain rfl) (Gives.pickT hE rfl hg232 rfl) rfl ?_; clear hE a; intro a hE
                refine WL.nil ?_
                subst hK231
                exact ⟨decide (q224 < y0.Stops), hq226, hE.pick _ ⟨rfl, rfl, rfl, rfl, rfl, rfl, rfl, rfl, rfl, trivial⟩, hS⟩
              · replace hq226 := iteF hg232 hq226
                refine WL.no hE (runs_not hE rfl rfl rfl (by rw [hg232]; decide)) rfl ?_; clear hE a; intro a hE
                refine WL.no hE (runs_not hE rfl rfl rfl (by rw [hg232]; decide)) rfl ?_; clear hE a; intro a hE
                refine WL.no hE (runs_not hE rfl rfl rfl (by rw [hg232]; decide)) rfl ?_; clear hE a; intro a hE
                refine WL.no hE (runs_not hE rfl rfl rfl (by rw [hg232]; decide)) rfl ?_; clear hE a; intro a hE
                refine WL.no hE (runs_not hE rfl rfl rfl (by rw [hg232]; decide)) rfl ?_; clear hE a; intro a hE
                refine WL.no hE (runs_not hE rfl rfl rfl (by rw [hg232]; decide)) rfl ?_; clear hE a; intro a hE
                refine WL.vS hS hE (runs_plain rfl) (Gives.pickF hE rfl hg232 rfl) rfl ?_; clear hE a; intro a hE
                refine WL.nil ?_
                subst hK231
                exact ⟨false, hq226, hE.pick _ ⟨rfl, rfl, rfl, rfl, rfl, rfl, rfl, rfl, rfl, trivial⟩, hS⟩
            · clear hE hS a w; rintro a w ⟨q230, rfl, hE, hS⟩
              refine W.cond hE rfl (fun hc233 => ?_) (fun hc233 => ?_)
              · replace hq211 := iteT hc233 hq211
                refine W.skip ?_
                refine W.seq ?_
                refine W.block ?_
                refine W.seq ?_
                refine W.region ?_
                refine WL.vS hS hE (runs_plain rfl) (Gives.p hE rfl) rfl ?_; clear hE a; intro a hE
                refine WL.vS hS hE (runs_plain rfl) (Gives.len hE rfl sl22) rfl ?_; clear hE a; intro a hE
                refine WL.vS hS hE (runs_plain rfl) (Gives.p hE rfl) rfl ?_; clear hE a; intro a hE
                refine WL.nil ?_
                have hb245 : q80.1.length ≤ 9223372036854775807 := by have := hS.vecCap 1 rfl; unfold maxLen at this; omega
                obtain ⟨q235, hq234, hq211⟩ := bindS hq211
                refine W.cut (fun a w => ∃ (q246 : List Int), ∃ (a247 : Option Addr), ∃ (c248 : Nat), ∃ (n250 : Nat), ∃ (cs251 : List Value), q246 = q235 ∧ Ev 1 (RI .i64) s cs251 q246 ∧ q246.length = n250 ∧ Rep a 157 [(0, .pointer (some ⟨pb0, 0, none⟩)), (1, .int .i64 x1), (2, .int .i64 x2), (3, .int .i64 x3), (8, .pointer (some ⟨b79, 0, none⟩)), (10, .slice a82 q80.1.length c83), (12, .slice a247 n250 c248), (18, .int .i64 q224)] ∧ St w s (vecC 3 1 a247 c248 n250 cs251 :: vecC 3 1 a82 c83 q80.1.length cs85 :: pt pb0 (.cells #[.int .i64 y0.Rows, .int .i64 y0.Across, .int .i64 y0.Stops, .slice a_v0 y0.All.length c_v0, .slice a_v1 y0.Gone.length c_v1] 33 (0, 0)) :: vecC 39 4 a_v0 c_v0 y0.All.length cs_v0 :: vecC 4 1 a_v1 c_v1 y0.Gone.length cs_v1 :: pt b79 (.cells #[.int .i64 0, .int .i64 0, .int .i64 0, .slice none 0 0] 39 (0, 0)) :: R)) ?_ ?_
                · refine W.block ?_
                  refine W.loop (fun m a w => ∃ (rest238 : Nat) (k236 : Nat), ∃ (q246 : List Int), ∃ (a247 : Option Addr), ∃ (c248 : Nat), ∃ (n250 : Nat), ∃ (cs251 : List Value), rest238 = m ∧ k236 + rest238 = q80.1.length ∧ Fishref2CarBook_v1.loop5 x1 x2 x3 y0 fu q80 q224 rest238 k236 q246 = some q235 ∧ Ev 1 (RI .i64) s cs251 q246 ∧ q246.length = n250 ∧ Rep a 157 [(0, .pointer (some ⟨pb0, 0, none⟩)), (1, .int .i64 x1), (2, .int .i64 x2), (3, .int .i64 x3), (8, .pointer (some ⟨b79, 0, none⟩)), (10, .slice a82 q80.1.length c83), (12, .slice a247 n250 c248), (18, .int .i64 q224), (102, .slice a82 q80.1.length c83), (103, .int .i64 ((q80.1.length : Nat) : Int)), (104, .int .i64 ((k236 : Nat) : Int))] ∧ St w s (vecC 3 1 a247 c248 n250 cs251 :: vecC 3 1 a82 c83 q80.1.length cs85 :: pt pb0 (.cells #[.int .i64 y0.Rows, .int .i64 y0.Across, .int .i64 y0.Stops, .slice a_v0 y0.All.length c_v0, .slice a_v1 y0.Gone.length c_v1] 33 (0, 0)) :: vecC 39 4 a_v0 c_v0 y0.All.length cs_v0 :: vecC 4 1 a_v1 c_v1 y0.Gone.length cs_v1 :: pt b79 (.cells #[.int .i64 0, .int .i64 0, .int .i64 0, .slice none 0 0] 39 (0, 0)) :: R)) (m := q80.1.length) ⟨q80.1.length, 0, q217, a218, c219, q217.length, cs222, rfl, by omega, hq234, h220, rfl, hE.pick _ ⟨rfl, rfl, rfl, rfl, rfl, rfl, rfl, rfl, rfl, rfl, rfl, trivial⟩, hS⟩ ?_
                  clear hE hS a w hq234; rintro m242 a w ⟨rest238, k236, q246, a247, c248, n250, cs251, rfl, hd239, hq234, h249, rfl, hE, hS⟩
                  refine W.gen fun K253 hK253 => ?_
                  rcases rest238 with _ | rest238
                  · skip
                    refine W.seq ?_
                    refine W.region ?_
                    refine WL.vS hS hE (runs_plain rfl) (Gives.p hE rfl) rfl ?_; clear hE a; intro a hE
                    refine WL.nil ?_
                    refine W.seq ?_
                    refine W.condF hE rfl (decide_eq_false (by omega)) ?_
                    subst hK253
                    refine W.exit rfl ?_
                    exact ⟨q246, a247, c248, q246.length, cs251, Option.some.inj hq234, h249, rfl, hE.pick _ ⟨rfl, rfl, rfl, rfl, rfl, rfl, rfl, rfl, trivial⟩, hS⟩
                  · have hlt240 : k236 < q80.1.length := by omega
                    rw [Fishref2CarBook_v1.loop5] at hq234
                    refine W.seq ?_
                    refine W.region ?_
                    refine WL.vS hS hE (runs_plain rfl) (Gives.p hE rfl) rfl ?_; clear hE a; intro a hE
                    refine WL.nil ?_
                    refine W.seq ?_
                    refine W.condT hE rfl (decide_eq_true (by omega)) ?_
                    refine W.skip ?_
                    refine W.seq ?_
                    refine W.block ?_
                    refine W.seq ?_
                    refine W.region ?_
                    obtain ⟨x254, hx255, hq234⟩ := bindS hq234
                    obtain ⟨hi256, hlt257, hy258⟩ := gx_some hx255
                    obtain ⟨vs259, hl260, hR261, hd262, hget263⟩ := h86.at hy258
                    subst hR261
                    refine WL.vS hS hE (runs_plain rfl) (Gives.idx hE ((((k236 : Nat) : Int)).toNat) rfl rfl sl22 hi256 (by omega) (hS.vecAok 1 rfl (by omega : (((k236 : Nat) : Int)).toNat < q80.1.length))) rfl ?_; clear hE a; intro a hE
                    refine WL.vS hS hE (runs_plain rfl) (Gives.load1 hE rfl (fun w h => St.vecSees h 1 rfl ((((k236 : Nat) : Int)).toNat * 1) _ hget263) ty3) rfl ?_; clear hE a; intro a hE
                    refine WL.vS hS hE (runs_plain rfl) (Gives.p hE rfl) rfl ?_; clear hE a; intro a hE
                    refine WL.nil ?_
                    refine W.seq ?_
                    obtain ⟨q265, hq264, hq234⟩ := bindS hq234
                    refine W.cut (fun a w => ∃ (q268 : Bool), q268 = q265 ∧ Rep a 157 [(0, .pointer (some ⟨pb0, 0, none⟩)), (1, .int .i64 x1), (2, .int .i64 x2), (3, .int .i64 x3), (8, .pointer (some ⟨b79, 0, none⟩)), (10, .slice a82 q80.1.length c83), (12, .slice a247 q246.length c248), (18, .int .i64 q224), (20, .int .i64 x254), (102, .slice a82 q80.1.length c83), (103, .int .i64 ((q80.1.length : Nat) : Int)), (104, .int .i64 ((k236 : Nat) : Int)), (120, .bool q268)] ∧ St w s (vecC 3 1 a247 c248 q246.length cs251 :: vecC 3 1 a82 c83 q80.1.length cs85 :: pt pb0 (.cells #[.int .i64 y0.Rows, .int .i64 y0.Across, .int .i64 y0.Stops, .slice a_v0 y0.All.length c_v0, .slice a_v1 y0.Gone.length c_v1] 33 (0, 0)) :: vecC 39 4 a_v0 c_v0 y0.All.length cs_v0 :: vecC 4 1 a_v1 c_v1 y0.Gone.length cs_v1 :: pt b79 (.cells #[.int .i64 0, .int .i64 0, .int .i64 0, .slice none 0 0] 39 (0, 0)) :: R)) ?_ ?_
                    · refine W.gen fun K269 hK269 => ?_
                      refine W.region ?_
                      refine WL.vS hS hE (runs_plain rfl) (Gives.p hE rfl) rfl ?_; clear hE a; intro a hE
                      refine WL.vS hS hE (runs_plain rfl) (Gives.len hE rfl sl22) rfl ?_; clear hE a; intro a hE
                      refine WL.vS hS hE (runs_plain rfl) (Gives.p hE rfl) rfl ?_; clear hE a; intro a hE
                      refine WL.vS hS hE (runs_plain rfl) (Gives.p hE rfl) rfl ?_; clear hE a; intro a hE
                      refine WL.vS hS hE (runs_plain rfl) (Gives.p hE rfl) rfl ?_; clear hE a; intro a hE
                      rcases Bool.eq_false_or_eq_true (decide (((q246.length : Nat) : Int) < x3)) with hg270 | hg270
                      · replace hq264 := iteT hg270 hq264
                        refine WL.vS hS hE (runs_if hE rfl rfl rfl hg270) (Gives.p hE rfl) rfl ?_; clear hE a; intro a hE
                        refine WL.vS hS hE (runs_if hE rfl rfl rfl hg270) (Gives.p hE rfl) rfl ?_; clear hE a; intro a hE
                        refine WL.vS hS hE (runs_if hE rfl rfl rfl hg270) (Gives.p hE rfl) rfl ?_; clear hE a; intro a hE
                        refine WL.vS hS hE (runs_if hE rfl rfl rfl hg270) (Gives.p hE rfl) rfl ?_; clear hE a; intro a hE
                        obtain ⟨q271, hq272, hq264⟩ := bindS hq264
                        replace hS := hS.front 4 rfl
                        replace hS := hS.front 4 rfl
                        replace hS := hS.front 4 rfl
                        have hc_ := Fishref2Cargap_v1_ok (y0 := y0) hS h_v0 (rfl) h_v1 (rfl) hq272
                        refine WL.fnq hE (hc_) (runs_if hE rfl rfl rfl hg270) bd25 rfl rfl rfl ?_
                        clear hE hS hc_; rintro e w ⟨rfl, hS⟩; refine ⟨_, rfl, ?_⟩; clear a; intro a hE
                        refine WL.vS hS hE (runs_if hE rfl rfl rfl hg270) (Gives.p hE rfl) rfl ?_; clear hE a; intro a hE
                        refine WL.vS hS hE (runs_if hE rfl rfl rfl hg270) (Gives.p hE rfl) rfl ?_; clear hE a; intro a hE
                        refine WL.vS hS hE (runs_plain rfl) (Gives.pickT hE rfl hg270 rfl) rfl ?_; clear hE a; intro a hE
                        refine WL.nil ?_
                        replace hS := hS.front 5 rfl
                        replace hS := hS.front 3 rfl
                        replace hS := hS.front 3 rfl
                        replace hS := hS.front 3 rfl
                        replace hS := hS.front 5 rfl
                        replace hS := hS.front 5 rfl
                        subst hK269
                        exact ⟨(q271 == q224), Option.some.inj hq264, hE.pick _ ⟨rfl, rfl, rfl, rfl, rfl, rfl, rfl, rfl, rfl, rfl, rfl, rfl, rfl, trivial⟩, hS⟩
                      · replace hq264 := iteF hg270 hq264
                        refine WL.no hE (runs_not hE rfl rfl rfl (by rw [hg270]; decide)) rfl ?_; clear hE a; intro a hE
                        refine WL.no hE (runs_not hE rfl rfl rfl (by rw [hg270]; decide)) rfl ?_; clear hE a; intro a hE
                        refine WL.no hE (runs_not hE rfl rfl rfl (by rw [hg270]; decide)) rfl ?_; clear hE a; intro a hE
                        refine WL.no hE (runs_not hE rfl rfl rfl (by rw [hg270]; decide)) rfl ?_; clear hE a; intro a hE
                        refine WL.no hE (runs_not hE rfl rfl rfl (by rw [hg270]; decide)) rfl ?_; clear hE a; intro a hE
                        refine WL.no hE (runs_not hE rfl rfl rfl (by rw [hg270]; decide)) rfl ?_; clear hE a; intro a hE
                        refine WL.no hE (runs_not hE rfl rfl rfl (by rw [hg270]; decide)) rfl ?_; clear hE a; intro a hE
                        refine WL.vS hS hE (runs_plain rfl) (Gives.pickF hE rfl hg270 rfl) rfl ?_; clear hE a; intro a hE
                        refine WL.nil ?_
                        subst hK269
                        exact ⟨false, Option.some.inj hq264, hE.pick _ ⟨rfl, rfl, rfl, rfl, rfl, rfl, rfl, rfl, rfl, rfl, rfl, rfl, rfl, trivial⟩, hS⟩
                    · clear hE hS a w; rintro a w ⟨q268, rfl, hE, hS⟩
                      obtain ⟨q274, hq273, hq234⟩ := bindS hq234
                      refine W.cut (fun a w => ∃ (q277 : List Int), ∃ (a278 : Option Addr), ∃ (c279 : Nat), ∃ (n281 : Nat), ∃ (cs282 : List Value), q277 = q274 ∧ Ev 1 (RI .i64) s cs282 q277 ∧ q277.length = n281 ∧ Rep a 157 [(0, .pointer (some ⟨pb0, 0, none⟩)), (1, .int .i64 x1), (2, .int .i64 x2), (3, .int .i64 x3), (8, .pointer (some ⟨b79, 0, none⟩)), (10, .slice a82 q80.1.length c83), (12, .slice a278 n281 c279), (18, .int .i64 q224), (102, .slice a82 q80.1.length c83), (103, .int .i64 ((q80.1.length : Nat) : Int)), (104, .int .i64 ((k236 : Nat) : Int))] ∧ St w s (vecC 3 1 a278 c279 n281 cs282 :: vecC 3 1 a82 c83 q80.1.length cs85 :: pt pb0 (.cells #[.int .i64 y0.Rows, .int .i64 y0.Across, .int .i64 y0.Stops, .slice a_v0 y0.All.length c_v0, .slice a_v1 y0.Gone.length c_v1] 33 (0, 0)) :: vecC 39 4 a_v0 c_v0 y0.All.length cs_v0 :: vecC 4 1 a_v1 c_v1 y0.Gone.length cs_v1 :: pt b79 (.cells #[.int .i64 0, .int .i64 0, .int .i64 0, .slice none 0 0] 39 (0, 0)) :: R)) ?_ ?_
                      · refine W.gen fun K284 hK284 => ?_
                        refine W.cond hE rfl (fun hc285 => ?_) (fun hc285 => ?_)
                        · replace hq273 := iteT hc285 hq273
                          refine W.region ?_
                          refine WL.vS hS hE (runs_plain rfl) (Gives.p hE rfl) rfl ?_; clear hE a; intro a hE
                          refine WL.vS hS hE (runs_plain rfl) (Gives.p hE rfl) rfl ?_; clear hE a; intro a hE
                          refine WL.lit hE hS (e := 3) (es := 1) (vs := [(0, .int .i64 x254)]) (cs := [.int .i64 x254]) (runs_plain rfl) rfl (by kernel_rfl) rfl ?_; clear hE hS a w; intro b286 a w hE hS
                          obtain ⟨x287, hx288, hq273⟩ := bindS hq273
                          refine WL.appD hE hS 0 (m := 1) (runs_plain rfl) rfl rfl rfl ap22 rfl h249 rfl (xs := [x254]) (Ev.cons (c1 := [.int .i64 x254]) rfl rfl (Ev.nil)) rfl rfl hx288 rfl ?_; clear hE hS a w; intro a289 c290 cs291 a w h292 hE hS
                          refine WL.vS hS hE (runs_plain rfl) (Gives.p hE rfl) rfl ?_; clear hE a; intro a hE
                          refine WL.nil ?_
                          subst hK284
                          exact ⟨x287, a289, c290, x287.length, cs291, Option.some.inj hq273, h292, (rfl), hE.pick _ ⟨rfl, rfl, rfl, rfl, rfl, rfl, rfl, rfl, rfl, rfl, rfl, trivial⟩, hS⟩
                        · replace hq273 := iteF hc285 hq273
                          refine W.skip ?_
                          subst hK284
                          exact ⟨q246, a247, c248, q246.length, cs251, Option.some.inj hq273, h249, rfl, hE.pick _ ⟨rfl, rfl, rfl, rfl, rfl, rfl, rfl, rfl, rfl, rfl, rfl, trivial⟩, hS⟩
                      · clear hE hS a w; rintro a w ⟨q277, a278, c279, n281, cs282, rfl, h280, rfl, hE, hS⟩
                        refine W.region ?_
                        refine WL.vS hS hE (runs_plain rfl) (Gives.inc hE rfl (by omega)) rfl ?_; clear hE a; intro a hE
                        refine WL.vS hS hE (runs_plain rfl) (Gives.p hE rfl) rfl ?_; clear hE a; intro a hE
                        refine WL.nil ?_
                        subst hK253
                        exact ⟨rest238, Nat.lt_succ_self _, rest238, k236 + 1, q277, a278, c279, q277.length, cs282, rfl, (by omega), hq234, h280, rfl, hE.pick _ ⟨rfl, rfl, rfl, rfl, rfl, rfl, rfl, rfl, rfl, rfl, rfl, trivial⟩, hS⟩
                · clear hE hS a w; rintro a w ⟨q246, a247, c248, n250, cs251, rfl, h249, rfl, hE, hS⟩
                  refine W.region ?_
                  refine WL.vS hS hE (runs_plain rfl) (Gives.p hE rfl) rfl ?_; clear hE a; intro a hE
                  refine WL.vS hS hE (runs_plain rfl) (Gives.p hE rfl) rfl ?_; clear hE a; intro a hE
                  refine WL.vS hS hE (runs_plain rfl) (Gives.p hE rfl) rfl ?_; clear hE a; intro a hE
                  refine WL.nil ?_
                  subst hK225
                  exact ⟨n213, Nat.lt_succ_self _, n213, q246, (w64 (q224 + 1)), a247, c248, q246.length, cs251, rfl, hq211, h249, rfl, hE.pick _ ⟨rfl, rfl, rfl, rfl, rfl, rfl, rfl, rfl, trivial⟩, hS⟩
              · replace hq211 := iteF hc233 hq211
                subst hK225
                refine W.exit rfl ?_
                exact ⟨q217, q224, a218, c219, q217.length, cs222, Option.some.inj hq211, h220, rfl, hE.pick _ ⟨rfl, rfl, rfl, rfl, rfl, trivial⟩, hS⟩
          · clear hE hS a w; rintro a w ⟨q217, q224, a218, c219, n221, cs222, rfl, h220, rfl, hE, hS⟩
            dsimp only at hr
            refine W.seq ?_
            have hF := hS.fixD RI.mono 0 rfl h220 rfl; clear hS; obtain ⟨s293, hle294, hS, h295⟩ := hF
            replace h86 := Ev.mono RI.mono hle294 h86
            replace h_v0 := Ev.mono RFareBooking.mono hle294 h_v0
            replace h_v1 := Ev.mono RB.mono hle294 h_v1
            refine W.gen fun K296 hK296 => ?_
            refine rE hS [] [] [0, 1, 2, 3, 4, 5, 6, 7, 8, 9, 10, 11, 12] [0, 1, 2, 3, 4, 5, 6, 7, 8, 9, 10, 11, 12] mixed ?_
            replace hS := hS.drew
            refine Rg.takeP (i := 0) hE rfl (by kernel_rfl) (runs_plain rfl) (Gives.p hE rfl) rfl (tw_sel (fun _ => hS) (fun _ => hS)) ?_; clear hE a; intro a hE
            refine Rg.take (i := 1) true rfl hE rfl (by kernel_rfl) (runs_plain rfl) (Gives.nilOk hE rfl) rfl (tw_sel (fun _ => hS) (fun _ => hS)) ?_; clear hE a; intro a hE
            refine Rg.takeP (i := 2) hE rfl (by kernel_rfl) (runs_plain rfl) (Gives.fld hE rfl fl33_3) rfl (tw_sel (fun _ => hS) (fun _ => hS)) ?_; clear hE a; intro a hE
            refine Rg.take (i := 3) true rfl hE rfl (by kernel_rfl) (runs_plain rfl) (Gives.loadB hE 1 rfl rfl rfl ty30) rfl (tw_sel (fun _ => hS) (fun _ => hS)) ?_; clear hE a; intro a hE
            refine Rg.takeP (i := 4) hE rfl (by kernel_rfl) (runs_plain rfl) (Gives.len hE rfl sl30) rfl (tw_sel (fun _ => hS) (fun _ => hS)) ?_; clear hE a; intro a hE
            refine Rg.takeP (i := 5) hE rfl (by kernel_rfl) (runs_plain rfl) (Gives.p hE rfl) rfl (tw_sel (fun _ => hS) (fun _ => hS)) ?_; clear hE a; intro a hE
            refine Rg.takeP (i := 6) hE rfl (by kernel_rfl) (runs_plain rfl) (Gives.p hE rfl) rfl (tw_sel (fun _ => hS) (fun _ => hS)) ?_; clear hE a; intro a hE
            refine Rg.takeP (i := 7) hE rfl (by kernel_rfl) (runs_plain rfl) (Gives.p hE rfl) rfl (tw_sel (fun _ => hS) (fun _ => hS)) ?_; clear hE a; intro a hE
            obtain ⟨q298, hq299, hr⟩ := bindS hr
            suffices key : ∀ cs303 b306 a300 c301 b297 (a : Act) (w : World), Ev 1 (RI .i64) s293 cs303 q298 → Sl 1 (RI .i64) s293 a218 c219 q217 → Ev 1 (RI .i64) s293 cs85 q80.1 → Ev 4 RFareBooking s293 cs_v0 y0.All → Ev 1 RB s293 cs_v1 y0.Gone → Rep a 157 [(0, .pointer (some ⟨pb0, 0, none⟩)), (8, .pointer (some ⟨b79, 0, none⟩)), (21, .pointer (some ⟨b306, 0, none⟩))] → St w s293 (pt b306 (.cells #[.int .i64 ((y0.All.length : Nat) : Int), .int .i64 x1, .int .i64 x2, .slice a300 q298.length c301] 39 (0, 0)) :: vecC 3 1 a300 c301 q298.length cs303 :: pt b297 (.cells #[.slice a218 q217.length c219] 22 (0, 0)) :: vecC 3 1 a82 c83 q80.1.length cs85 :: pt pb0 (.cells #[.int .i64 y0.Rows, .int .i64 y0.Across, .int .i64 y0.Stops, .slice a_v0 y0.All.length c_v0, .slice a_v1 y0.Gone.length c_v1] 33 (0, 0)) :: vecC 39 4 a_v0 c_v0 y0.All.length cs_v0 :: vecC 4 1 a_v1 c_v1 y0.Gone.length cs_v1 :: pt b79 (.cells #[.int .i64 0, .int .i64 0, .int .i64 0, .slice none 0 0] 39 (0, 0)) :: R) → K296.nor a w by
              refine Rg.many 8 [11] (by kernel_rfl) ⟨?_, ?_, trivial⟩
              · refine Br.mk (i := 8) true true rfl (by kernel_rfl) (by kernel_rfl) ?_
                refine WL.fnq hE (itVals_ok hS) (runs_plain rfl) bd27 rfl rfl rfl ?_
                clear hE hS; rintro e w ⟨b297, rfl, hS⟩; refine ⟨_, rfl, ?_⟩; clear a; intro a hE
                refine WL.nil ?_
                refine ⟨⟨fun _ => (hS.tail), fun _ => (hS.tail)⟩, ?_⟩
                refine Rg.many 9 [11] (by kernel_rfl) ⟨?_, ?_, trivial⟩
                · refine Br.mk (i := 9) true true rfl (by kernel_rfl) (by kernel_rfl) ?_
                  have hc_ := SlicesSortedint_v1_ok hS h295 hq299
                  refine WL.fnq hE (hc_) (runs_plain rfl) bd26 rfl rfl rfl ?_
                  clear hE hS hc_; rintro e w ⟨a300, c301, n302, cs303, rfl, h304, rfl, hS⟩; refine ⟨_, rfl, ?_⟩; clear a; intro a hE
                  refine WL.nil ?_
                  refine ⟨⟨fun _ => ((hS.tail).tail), fun _ => ((hS.tail).tail)⟩, ?_⟩
                  refine Rg.takeP (i := 10) hE rfl (by kernel_rfl) (runs_plain rfl) (Gives.build hE (vs := [(0, .int .i64 ((y0.All.length : Nat) : Int)), (1, .int .i64 x1), (2, .int .i64 x2), (3, .slice a300 q298.length c301)]) [.int .i64 ((y0.All.length : Nat) : Int), .int .i64 x1, .int .i64 x2, .slice a300 q298.length c301] rfl (by kernel_rfl)) rfl (tw_sel (fun _ => ((hS.tail).tail)) (fun _ => ((hS.tail).tail))) ?_; clear hE a; intro a hE
                  refine Rg.one (i := 11) true true rfl (by kernel_rfl) (by kernel_rfl) (by kernel_rfl) ?_
                  refine WL.alloc hE hS (runs_plain rfl) zr39 rfl ?_; clear hE hS a w; intro b306 a w hE hS
                  refine WL.nil ?_
                  refine ⟨⟨fun _ => (((hS.tail).tail).tail), fun _ => (((hS.tail).tail).tail)⟩, ?_⟩
                  refine Rg.one (i := 12) true true rfl (by kernel_rfl) (by kernel_rfl) (by kernel_rfl) ?_
                  refine WL.storeI hE hS 0 rfl [.int .i64 ((y0.All.length : Nat) : Int), .int .i64 x1, .int .i64 x2, .slice a300 q298.length c301] (runs_plain rfl) rfl rfl rfl ty39 rfl rfl rfl rfl ?_; clear hE hS a w; intro a w hE hS
                  refine WL.nil ?_
                  refine ⟨⟨fun _ => (((hS.tail).tail).tail), fun _ => (((hS.tail).tail).tail)⟩, ?_⟩
                  refine Rg.done (by kernel_rfl) ?_
                  exact key _ _ _ _ _ _ _ h304 h295 h86 h_v0 h_v1 (hE.pick _ ⟨rfl, rfl, rfl, trivial⟩) hS
                · refine Br.mk (i := 11) true true rfl (by kernel_rfl) (by kernel_rfl) ?_
                  refine WL.alloc hE hS (runs_plain rfl) zr39 rfl ?_; clear hE hS a w; intro b306 a w hE hS
                  refine WL.nil ?_
                  refine ⟨⟨fun _ => ((hS.tail).tail), fun _ => ((hS.tail).tail)⟩, ?_⟩
                  refine Rg.one (i := 9) true true rfl (by kernel_rfl) (by kernel_rfl) (by kernel_rfl) ?_
                  replace hS := hS.front 1 rfl
                  have hc_ := SlicesSortedint_v1_ok hS h295 hq299
                  refine WL.fnq hE (hc_) (runs_plain rfl) bd26 rfl rfl rfl ?_
                  clear hE hS hc_; rintro e w ⟨a300, c301, n302, cs303, rfl, h304, rfl, hS⟩; refine ⟨_, rfl, ?_⟩; clear a; intro a hE
                  refine WL.nil ?_
                  refine ⟨⟨fun _ => (((hS.tail).tail).tail), fun _ => (((hS.tail).tail).tail)⟩, ?_⟩
                  refine Rg.takeP (i := 10) hE rfl (by kernel_rfl) (runs_plain rfl) (Gives.build hE (vs := [(0, .int .i64 ((y0.All.length : Nat) : Int)), (1, .int .i64 x1), (2, .int .i64 x2), (3, .slice a300 q298.length c301)]) [.int .i64 ((y0.All.length : Nat) : Int), .int .i64 x1, .int .i64 x2, .slice a300 q298.length c301] rfl (by kernel_rfl)) rfl (tw_sel (fun _ => (((hS.tail).tail).tail)) (fun _ => (((hS.tail).tail).tail))) ?_; clear hE a; intro a hE
                  refine Rg.one (i := 12) true true rfl (by kernel_rfl) (by kernel_rfl) (by kernel_rfl) ?_
                  refine WL.storeI hE hS 2 rfl [.int .i64 ((y0.All.length : Nat) : Int), .int .i64 x1, .int .i64 x2, .slice a300 q298.length c301] (runs_plain rfl) rfl rfl rfl ty39 rfl rfl rfl rfl ?_; clear hE hS a w; intro a w hE hS
                  refine WL.nil ?_
                  refine ⟨⟨fun _ => (((hS.tail).tail).tail), fun _ => (((hS.tail).tail).tail)⟩, ?_⟩
                  refine Rg.done (by kernel_rfl) ?_
                  replace hS := hS.front 7 rfl
                  replace hS := hS.front 7 rfl
                  replace hS := hS.front 7 rfl
                  replace hS := hS.front 7 rfl
                  replace hS := hS.front 7 rfl
                  replace hS := hS.front 6 rfl
                  replace hS := hS.front 6 rfl
                  replace hS := hS.front 7 rfl
                  exact key _ _ _ _ _ _ _ h304 h295 h86 h_v0 h_v1 (hE.pick _ ⟨rfl, rfl, rfl, trivial⟩) hS
              · refine Br.mk (i := 11) true true rfl (by kernel_rfl) (by kernel_rfl) ?_
                refine WL.alloc hE hS (runs_plain rfl) zr39 rfl ?_; clear hE hS a w; intro b306 a w hE hS
                refine WL.nil ?_
                refine ⟨⟨fun _ => (hS.tail), fun _ => (hS.tail)⟩, ?_⟩
                refine Rg.one (i := 8) true true rfl (by kernel_rfl) (by kernel_rfl) (by kernel_rfl) ?_
                refine WL.fnq hE (itVals_ok hS) (runs_plain rfl) bd27 rfl rfl rfl ?_
                clear hE hS; rintro e w ⟨b297, rfl, hS⟩; refine ⟨_, rfl, ?_⟩; clear a; intro a hE
                refine WL.nil ?_
                refine ⟨⟨fun _ => ((hS.tail).tail), fun _ => ((hS.tail).tail)⟩, ?_⟩
                refine Rg.one (i := 9) true true rfl (by kernel_rfl) (by kernel_rfl) (by kernel_rfl) ?_
                have hc_ := SlicesSortedint_v1_ok hS h295 hq299
                refine WL.fnq hE (hc_) (runs_plain rfl) bd26 rfl rfl rfl ?_
                clear hE hS hc_; rintro e w ⟨a300, c301, n302, cs303, rfl, h304, rfl, hS⟩; refine ⟨_, rfl, ?_⟩; clear a; intro a hE
                refine WL.nil ?_
                refine ⟨⟨fun _ => (((hS.tail).tail).tail), fun _ => (((hS.tail).tail).tail)⟩, ?_⟩
                refine Rg.takeP (i := 10) hE rfl (by kernel_rfl) (runs_plain rfl) (Gives.build hE (vs := [(0, .int .i64 ((y0.All.length : Nat) : Int)), (1, .int .i64 x1), (2, .int .i64 x2), (3, .slice a300 q298.length c301)]) [.int .i64 ((y0.All.length : Nat) : Int), .int .i64 x1, .int .i64 x2, .slice a300 q298.length c301] rfl (by kernel_rfl)) rfl (tw_sel (fun _ => (((hS.tail).tail).tail)) (fun _ => (((hS.tail).tail).tail))) ?_; clear hE a; intro a hE
                refine Rg.one (i := 12) true true rfl (by kernel_rfl) (by kernel_rfl) (by kernel_rfl) ?_
                refine WL.storeI hE hS 2 rfl [.int .i64 ((y0.All.length : Nat) : Int), .int .i64 x1, .int .i64 x2, .slice a300 q298.length c301] (runs_plain rfl) rfl rfl rfl ty39 rfl rfl rfl rfl ?_; clear hE hS a w; intro a w hE hS
                refine WL.nil ?_
                refine ⟨⟨fun _ => (((hS.tail).tail).tail), fun _ => (((hS.tail).tail).tail)⟩, ?_⟩
                refine Rg.done (by kernel_rfl) ?_
                replace hS := hS.front 7 rfl
                replace hS := hS.front 7 rfl
                replace hS := hS.front 7 rfl
                replace hS := hS.front 7 rfl
                replace hS := hS.front 7 rfl
                replace hS := hS.front 6 rfl
                replace hS := hS.front 6 rfl
                replace hS := hS.front 7 rfl
                exact key _ _ _ _ _ _ _ h304 h295 h86 h_v0 h_v1 (hE.pick _ ⟨rfl, rfl, rfl, trivial⟩) hS
            clear hE hS a w; intro cs303 b306 a300 c301 b297 a w h304 h295 h86 h_v0 h_v1 hE hS
            subst hK296
            refine W.seq ?_
            have hF := hS.fixD RI.mono 1 rfl h304 rfl; clear hS; obtain ⟨s308, hle309, hS, h310⟩ := hF
            replace h295 := Sl.mono RI.mono hle309 h295
            replace h86 := Ev.mono RI.mono hle309 h86
            replace h_v0 := Ev.mono RFareBooking.mono hle309 h_v0
            replace h_v1 := Ev.mono RB.mono hle309 h_v1
            refine W.gen fun K311 hK311 => ?_
            refine rE hS [] [4, 4] [0, 1, 2, 3, 4, 5, 6, 7, 9, 10, 11, 12, 13, 15, 16, 18, 19] [0, 1, 2, 3, 4, 5, 6, 7, 8, 9, 10, 11, 12, 13, 14, 15, 16, 18, 19] mixed ?_
            replace hS := hS.drew
            refine Rg.takeP (i := 0) hE rfl (by kernel_rfl) (runs_plain rfl) (Gives.p hE rfl) rfl (tw_sel (fun _ => hS) (fun _ => ((hS.dropAt 4).dropAt 4))) ?_; clear hE a; intro a hE
            refine Rg.takeP (i := 1) hE rfl (by kernel_rfl) (runs_plain rfl) (Gives.p hE rfl) rfl (tw_sel (fun _ => hS) (fun _ => ((hS.dropAt 4).dropAt 4))) ?_; clear hE a; intro a hE
            refine Rg.takeP (i := 2) hE rfl (by kernel_rfl) (runs_plain rfl) (Gives.p hE rfl) rfl (tw_sel (fun _ => hS) (fun _ => ((hS.dropAt 4).dropAt 4))) ?_; clear hE a; intro a hE
            refine Rg.take (i := 3) false rfl hE rfl (by kernel_rfl) (runs_plain rfl) (Gives.nilOk hE rfl) rfl (tw_sel (fun _ => hS) (fun _ => ((hS.dropAt 4).dropAt 4))) ?_; clear hE a; intro a hE
            refine Rg.takeP (i := 4) hE rfl (by kernel_rfl) (runs_plain rfl) (Gives.fld hE rfl fl33_3) rfl (tw_sel (fun _ => hS) (fun _ => ((hS.dropAt 4).dropAt 4))) ?_; clear hE a; intro a hE
            refine Rg.take (i := 5) false rfl hE rfl (by kernel_rfl) (runs_plain rfl) (Gives.loadB hE 3 rfl rfl rfl ty30) rfl (tw_sel (fun _ => hS) (fun _ => ((hS.dropAt 4).dropAt 4))) ?_; clear hE a; intro a hE
            refine Rg.take (i := 6) false rfl hE rfl (by kernel_rfl) (runs_plain rfl) (Gives.loadBA hE 0 rfl rfl ty39) rfl (tw_sel (fun _ => hS) (fun _ => ((hS.dropAt 4).dropAt 4))) ?_; clear hE a; intro a hE
            refine Rg.takeP (i := 9) hE rfl (by kernel_rfl) (runs_plain rfl) (Gives.p hE rfl) rfl (tw_sel (fun _ => hS) (fun _ => ((hS.dropAt 4).dropAt 4))) ?_; clear hE a; intro a hE
            obtain ⟨x313, hx314, hr⟩ := bindS hr
            obtain ⟨x320, hx321, hr⟩ := bindS hr
            suffices key : ∀ cs317 cs324 a315 c316 a322 c323 (a : Act) (w : World), Sl 1 (RI .i64) s308 a300 c301 q298 → Sl 1 (RI .i64) s308 a218 c219 q217 → Ev 1 (RI .i64) s308 cs85 q80.1 → Ev 4 RFareBooking s308 cs317 x313 → Ev 1 RB s308 cs324 x320 → Rep a 157 [(8, .pointer (some ⟨b79, 0, none⟩)), (21, .pointer (some ⟨b306, 0, none⟩))] → St w s308 (pt b306 (.cells #[.int .i64 ((y0.All.length : Nat) : Int), .int .i64 x1, .int .i64 x2, .slice a300 q298.length c301] 39 (0, 0)) :: pt b297 (.cells #[.slice a218 q217.length c219] 22 (0, 0)) :: vecC 3 1 a82 c83 q80.1.length cs85 :: pt pb0 (.cells #[.int .i64 y0.Rows, .int .i64 y0.Across, .int .i64 y0.Stops, .slice a315 x313.length c316, .slice a322 x320.length c323] 33 (0, 0)) :: vecC 39 4 a315 c316 x313.length cs317 :: vecC 4 1 a322 c323 x320.length cs324 :: pt b79 (.cells #[.int .i64 0, .int .i64 0, .int .i64 0, .slice none 0 0] 39 (0, 0)) :: R) → K311.nor a w by
              refine Rg.many 7 [10, 13] (by kernel_rfl) ⟨?_, ?_, ?_, trivial⟩
              · refine Br.mk (i := 7) true true rfl (by kernel_rfl) (by kernel_rfl) ?_
                refine WL.lit hE hS (e := 39) (es := 4) (vs := [(0, .agg (List.toArray [.int .i64 ((y0.All.length : Nat) : Int), .int .i64 x1, .int .i64 x2, .slice a300 q298.length c301]))]) (cs := [.int .i64 ((y0.All.length : Nat) : Int), .int .i64 x1, .int .i64 x2, .slice a300 q298.length c301]) (runs_plain rfl) rfl (by kernel_rfl) rfl ?_; clear hE hS a w; intro b312 a w hE hS
                refine WL.nil ?_
                refine ⟨⟨fun _ => (hS.tail), fun _ => (((hS.tail).dropAt 4).dropAt 4)⟩, ?_⟩
                refine Rg.many 8 [10, 13] (by kernel_rfl) ⟨?_, ?_, ?_, trivial⟩
                · refine Br.mk (i := 8) false true rfl (by kernel_rfl) (by kernel_rfl) ?_
                  refine WL.appDX (kk := 48) hE hS 4 (m := 1) (runs_plain rfl) rfl rfl rfl aw30 rfl h_v0 (rfl) (xs := [(FareBooking.mk ((y0.All.length : Nat) : Int) x1 x2 q298)]) (Ev.cons (c1 := [.int .i64 ((y0.All.length : Nat) : Int), .int .i64 x1, .int .i64 x2, .slice a300 q298.length c301]) ⟨_, _, rfl, h310⟩ rfl (Ev.nil)) rfl rfl hx314 rfl ?_; clear hE hS a w; intro a315 c316 cs317 a w h318 hE hS
                  refine WL.nil ?_
                  refine ⟨⟨fun h => absurd h (by decide), fun _ => ((hS.dropAt 4).dropAt 4)⟩, ?_⟩
                  refine Rg.many 10 [13] (by kernel_rfl) ⟨?_, ?_, trivial⟩
                  · refine Br.mk (i := 10) false true rfl (by kernel_rfl) (by kernel_rfl) ?_
                    refine WL.vS hS hE (runs_plain rfl) (Gives.nilOk hE rfl) rfl ?_; clear hE a; intro a hE
                    refine WL.nil ?_
                    refine ⟨⟨fun h => absurd h (by decide), fun _ => ((hS.dropAt 4).dropAt 4)⟩, ?_⟩
                    refine Rg.takeP (i := 11) hE rfl (by kernel_rfl) (runs_plain rfl) (Gives.fld hE rfl fl33_4) rfl (tw_sel (fun h => absurd h (by decide)) (fun _ => ((hS.dropAt 4).dropAt 4))) ?_; clear hE a; intro a hE
                    refine Rg.take (i := 12) false rfl hE rfl (by kernel_rfl) (runs_plain rfl) (Gives.loadB hE 3 rfl rfl rfl ty31) rfl (tw_sel (fun h => absurd h (by decide)) (fun _ => ((hS.dropAt 4).dropAt 4))) ?_; clear hE a; intro a hE
                    refine Rg.one (i := 13) false true rfl (by kernel_rfl) (by kernel_rfl) (by kernel_rfl) ?_
                    refine WL.lit hE hS (e := 4) (es := 1) (vs := [(0, .bool false)]) (cs := [.bool false]) (runs_plain rfl) rfl (by kernel_rfl) rfl ?_; clear hE hS a w; intro b319 a w hE hS
                    refine WL.nil ?_
                    refine ⟨⟨fun h => absurd h (by decide), fun _ => (((hS.tail).dropAt 4).dropAt 4)⟩, ?_⟩
                    refine Rg.one (i := 14) false true rfl (by kernel_rfl) (by kernel_rfl) (by kernel_rfl) ?_
                    refine WL.appDX (kk := 1) hE hS 5 (m := 1) (runs_plain rfl) rfl rfl rfl aw31 rfl h_v1 (rfl) (xs := [false]) (Ev.cons (c1 := [.bool false]) rfl rfl (Ev.nil)) rfl rfl hx321 rfl ?_; clear hE hS a w; intro a322 c323 cs324 a w h325 hE hS
                    refine WL.nil ?_
                    refine ⟨⟨fun h => absurd h (by decide), fun _ => ((hS.dropAt 4).dropAt 4)⟩, ?_⟩
                    refine Rg.one (i := 15) false true rfl (by kernel_rfl) (by kernel_rfl) (by kernel_rfl) ?_
                    refine WL.vS hS hE (runs_plain rfl) (Gives.nilOk hE rfl) rfl ?_; clear hE a; intro a hE
                    refine WL.nil ?_
                    refine ⟨⟨fun h => absurd h (by decide), fun _ => ((hS.dropAt 4).dropAt 4)⟩, ?_⟩
                    refine Rg.takeP (i := 16) hE rfl (by kernel_rfl) (runs_plain rfl) (Gives.fld hE rfl fl33_3) rfl (tw_sel (fun h => absurd h (by decide)) (fun _ => ((hS.dropAt 4).dropAt 4))) ?_; clear hE a; intro a hE
                    refine Rg.one (i := 17) false false rfl (by kernel_rfl) (by kernel_rfl) (by kernel_rfl) ?_
                    refine WL.storeI hE hS 3 rfl [.int .i64 y0.Rows, .int .i64 y0.Across, .int .i64 y0.Stops, .slice a315 x313.length c316, .slice a_v1 y0.Gone.length c_v1] (runs_plain rfl) rfl rfl rfl ty30 rfl rfl rfl rfl ?_; clear hE hS a w; intro a w hE hS
                    refine WL.nil ?_
                    refine ⟨⟨fun h => absurd h (by decide), fun h => absurd h (by decide)⟩, ?_⟩
                    refine Rg.one (i := 18) false false rfl (by kernel_rfl) (by kernel_rfl) (by kernel_rfl) ?_
                    refine WL.vS hS hE (runs_plain rfl) (Gives.nilOk hE rfl) rfl ?_; clear hE a; intro a hE
                    refine WL.nil ?_
                    refine ⟨⟨fun h => absurd h (by decide), fun h => absurd h (by decide)⟩, ?_⟩
                    refine Rg.takeP (i := 19) hE rfl (by kernel_rfl) (runs_plain rfl) (Gives.fld hE rfl fl33_4) rfl (tw_sel (fun h => absurd h (by decide)) (fun h => absurd h (by decide))) ?_; clear hE a; intro a hE
                    refine Rg.one (i := 20) false false rfl (by kernel_rfl) (by kernel_rfl) (by kernel_rfl) ?_
                    refine WL.storeI hE hS 3 rfl [.int .i64 y0.Rows, .int .i64 y0.Across, .int .i64 y0.Stops, .slice a315 x313.length c316, .slice a322 x320.length c323] (runs_plain rfl) rfl rfl rfl ty31 rfl rfl rfl rfl ?_; clear hE hS a w; intro a w hE hS
                    refine WL.nil ?_
                    refine ⟨⟨fun h => absurd h (by decide), fun h => absurd h (by decide)⟩, ?_⟩
                    refine Rg.done (by kernel_rfl) ?_
                    exact key _ _ _ _ _ _ _ _ h310 h295 h86 h318 h325 (hE.pick _ ⟨rfl, rfl, trivial⟩) hS
                  · refine Br.mk (i := 13) false true rfl (by kernel_rfl) (by kernel_rfl) ?_
                    refine WL.lit hE hS (e := 4) (es := 1) (vs := [(0, .bool false)]) (cs := [.bool false]) (runs_plain rfl) rfl (by kernel_rfl) rfl ?_; clear hE hS a w; intro b319 a w hE hS
                    refine WL.nil ?_
                    refine ⟨⟨fun h => absurd h (by decide), fun _ => (((hS.tail).dropAt 4).dropAt 4)⟩, ?_⟩
                    refine Rg.one (i := 10) false true rfl (by kernel_rfl) (by kernel_rfl) (by kernel_rfl) ?_
                    refine WL.vS hS hE (runs_plain rfl) (Gives.nilOk hE rfl) rfl ?_; clear hE a; intro a hE
                    refine WL.nil ?_
                    refine ⟨⟨fun h => absurd h (by decide), fun _ => (((hS.tail).dropAt 4).dropAt 4)⟩, ?_⟩
                    refine Rg.takeP (i := 11) hE rfl (by kernel_rfl) (runs_plain rfl) (Gives.fld hE rfl fl33_4) rfl (tw_sel (fun h => absurd h (by decide)) (fun _ => (((hS.tail).dropAt 4).dropAt 4))) ?_; clear hE a; intro a hE
                    refine Rg.take (i := 12) false rfl hE rfl (by kernel_rfl) (runs_plain rfl) (Gives.loadB hE 3 rfl rfl rfl ty31) rfl (tw_sel (fun h => absurd h (by decide)) (fun _ => (((hS.tail).dropAt 4).dropAt 4))) ?_; clear hE a; intro a hE
                    refine Rg.one (i := 14) false true rfl (by kernel_rfl) (by kernel_rfl) (by kernel_rfl) ?_
                    refine WL.appDX (kk := 1) hE hS 5 (m := 1) (runs_plain rfl) rfl rfl rfl aw31 rfl h_v1 (rfl) (xs := [false]) (Ev.cons (c1 := [.bool false]) rfl rfl (Ev.nil)) rfl rfl hx321 rfl ?_; clear hE hS a w; intro a322 c323 cs324 a w h325 hE hS
                    refine WL.nil ?_
                    refine ⟨⟨fun h => absurd h (by decide), fun _ => ((hS.dropAt 4).dropAt 4)⟩, ?_⟩
                    refine Rg.one (i := 15) false true rfl (by kernel_rfl) (by kernel_rfl) (by kernel_rfl) ?_
                    refine WL.vS hS hE (runs_plain rfl) (Gives.nilOk hE rfl) rfl ?_; clear hE a; intro a hE
                    refine WL.nil ?_
                    refine ⟨⟨fun h => absurd h (by decide), fun _ => ((hS.dropAt 4).dropAt 4)⟩, ?_⟩
                    refine Rg.takeP (i := 16) hE rfl (by kernel_rfl) (runs_plain rfl) (Gives.fld hE rfl fl33_3) rfl (tw_sel (fun h => absurd h (by decide)) (fun _ => ((hS.dropAt 4).dropAt 4))) ?_; clear hE a; intro a hE
                    refine Rg.one (i := 17) false false rfl (by kernel_rfl) (by kernel_rfl) (by kernel_rfl) ?_
                    refine WL.storeI hE hS 3 rfl [.int .i64 y0.Rows, .int .i64 y0.Across, .int .i64 y0.Stops, .slice a315 x313.length c316, .slice a_v1 y0.Gone.length c_v1] (runs_plain rfl) rfl rfl rfl ty30 rfl rfl rfl rfl ?_; clear hE hS a w; intro a w hE hS
                    refine WL.nil ?_
                    refine ⟨⟨fun h => absurd h (by decide), fun h => absurd h (by decide)⟩, ?_⟩
                    refine Rg.one (i := 18) false false rfl (by kernel_rfl) (by kernel_rfl) (by kernel_rfl) ?_
                    refine WL.vS hS hE (runs_plain rfl) (Gives.nilOk hE rfl) rfl ?_; clear hE a; intro a hE
                    refine WL.nil ?_
                    refine ⟨⟨fun h => absurd h (by decide), fun h => absurd h (by decide)⟩, ?_⟩
                    refine Rg.takeP (i := 19) hE rfl (by kernel_rfl) (runs_plain rfl) (Gives.fld hE rfl fl33_4) rfl (tw_sel (fun h => absurd h (by decide)) (fun h => absurd h (by decide))) ?_; clear hE a; intro a hE
                    refine Rg.one (i := 20) false false rfl (by kernel_rfl) (by kernel_rfl) (by kernel_rfl) ?_
                    refine WL.storeI hE hS 3 rfl [.int .i64 y0.Rows, .int .i64 y0.Across, .int .i64 y0.Stops, .slice a315 x313.length c316, .slice a322 x320.length c323] (runs_plain rfl) rfl rfl rfl ty31 rfl rfl rfl rfl ?_; clear hE hS a w; intro a w hE hS
                    refine WL.nil ?_
                    refine ⟨⟨fun h => absurd h (by decide), fun h => absurd h (by decide)⟩, ?_⟩
                    refine Rg.done (by kernel_rfl) ?_
                    exact key _ _ _ _ _ _ _ _ h310 h295 h86 h318 h325 (hE.pick _ ⟨rfl, rfl, trivial⟩) hS
                · refine Br.mk (i := 10) true true rfl (by kernel_rfl) (by kernel_rfl) ?_
                  refine WL.vS hS hE (runs_plain rfl) (Gives.nilOk hE rfl) rfl ?_; clear hE a; intro a hE
                  refine WL.nil ?_
                  refine ⟨⟨fun _ => (hS.tail), fun _ => (((hS.tail).dropAt 4).dropAt 4)⟩, ?_⟩
                  refine Rg.takeP (i := 11) hE rfl (by kernel_rfl) (runs_plain rfl) (Gives.fld hE rfl fl33_4) rfl (tw_sel (fun _ => (hS.tail)) (fun _ => (((hS.tail).dropAt 4).dropAt 4))) ?_; clear hE a; intro a hE
                  refine Rg.take (i := 12) false rfl hE rfl (by kernel_rfl) (runs_plain rfl) (Gives.loadB hE 3 rfl rfl rfl ty31) rfl (tw_sel (fun _ => (hS.tail)) (fun _ => (((hS.tail).dropAt 4).dropAt 4))) ?_; clear hE a; intro a hE
                  refine Rg.many 8 [13] (by kernel_rfl) ⟨?_, ?_, trivial⟩
                  · refine Br.mk (i := 8) false true rfl (by kernel_rfl) (by kernel_rfl) ?_
                    refine WL.appDX (kk := 48) hE hS 4 (m := 1) (runs_plain rfl) rfl rfl rfl aw30 rfl h_v0 (rfl) (xs := [(FareBooking.mk ((y0.All.length : Nat) : Int) x1 x2 q298)]) (Ev.cons (c1 := [.int .i64 ((y0.All.length : Nat) : Int), .int .i64 x1, .int .i64 x2, .slice a300 q298.length c301]) ⟨_, _, rfl, h310⟩ rfl (Ev.nil)) rfl rfl hx314 rfl ?_; clear hE hS a w; intro a315 c316 cs317 a w h318 hE hS
                    refine WL.nil ?_
                    refine ⟨⟨fun h => absurd h (by decide), fun _ => ((hS.dropAt 4).dropAt 4)⟩, ?_⟩
                    refine Rg.one (i := 13) false true rfl (by kernel_rfl) (by kernel_rfl) (by kernel_rfl) ?_
                    refine WL.lit hE hS (e := 4) (es := 1) (vs := [(0, .bool false)]) (cs := [.bool false]) (runs_plain rfl) rfl (by kernel_rfl) rfl ?_; clear hE hS a w; intro b319 a w hE hS
                    refine WL.nil ?_
                    refine ⟨⟨fun h => absurd h (by decide), fun _ => (((hS.tail).dropAt 4).dropAt 4)⟩, ?_⟩
                    refine Rg.one (i := 14) false true rfl (by kernel_rfl) (by kernel_rfl) (by kernel_rfl) ?_
                    refine WL.appDX (kk := 1) hE hS 5 (m := 1) (runs_plain rfl) rfl rfl rfl aw31 rfl h_v1 (rfl) (xs := [false]) (Ev.cons (c1 := [.bool false]) rfl rfl (Ev.nil)) rfl rfl hx321 rfl ?_; clear hE hS a w; intro a322 c323 cs324 a w h325 hE hS
                    refine WL.nil ?_
                    refine ⟨⟨fun h => absurd h (by decide), fun _ => ((hS.dropAt 4).dropAt 4)⟩, ?_⟩
                    refine Rg.one (i := 15) false true rfl (by kernel_rfl) (by kernel_rfl) (by kernel_rfl) ?_
                    refine WL.vS hS hE (runs_plain rfl) (Gives.nilOk hE rfl) rfl ?_; clear hE a; intro a hE
                    refine WL.nil ?_
                    refine ⟨⟨fun h => absurd h (by decide), fun _ => ((hS.dropAt 4).dropAt 4)⟩, ?_⟩
                    refine Rg.takeP (i := 16) hE rfl (by kernel_rfl) (runs_plain rfl) (Gives.fld hE rfl fl33_3) rfl (tw_sel (fun h => absurd h (by decide)) (fun _ => ((hS.dropAt 4).dropAt 4))) ?_; clear hE a; intro a hE
                    refine Rg.one (i := 17) false false rfl (by kernel_rfl) (by kernel_rfl) (by kernel_rfl) ?_
                    refine WL.storeI hE hS 3 rfl [.int .i64 y0.Rows, .int .i64 y0.Across, .int .i64 y0.Stops, .slice a315 x313.length c316, .slice a_v1 y0.Gone.length c_v1] (runs_plain rfl) rfl rfl rfl ty30 rfl rfl rfl rfl ?_; clear hE hS a w; intro a w hE hS
                    refine WL.nil ?_
                    refine ⟨⟨fun h => absurd h (by decide), fun h => absurd h (by decide)⟩, ?_⟩
                    refine Rg.one (i := 18) false false rfl (by kernel_rfl) (by kernel_rfl) (by kernel_rfl) ?_
                    refine WL.vS hS hE (runs_plain rfl) (Gives.nilOk hE rfl) rfl ?_; clear hE a; intro a hE
                    refine WL.nil ?_
                    refine ⟨⟨fun h => absurd h (by decide), fun h => absurd h (by decide)⟩, ?_⟩
                    refine Rg.takeP (i := 19) hE rfl (by kernel_rfl) (runs_plain rfl) (Gives.fld hE rfl fl33_4) rfl (tw_sel (fun h => absurd h (by decide)) (fun h => absurd h (by decide))) ?_; clear hE a; intro a hE
                    refine Rg.one (i := 20) false false rfl (by kernel_rfl) (by kernel_rfl) (by kernel_rfl) ?_
                    refine WL.storeI hE hS 3 rfl [.int .i64 y0.Rows, .int .i64 y0.Across, .int .i64 y0.Stops, .slice a315 x313.length c316, .slice a322 x320.length c323] (runs_plain rfl) rfl rfl rfl ty31 rfl rfl rfl rfl ?_; clear hE hS a w; intro a w hE hS
                    refine WL.nil ?_
                    refine ⟨⟨fun h => absurd h (by decide), fun h => absurd h (by decide)⟩, ?_⟩
                    refine Rg.done (by kernel_rfl) ?_
                    exact key _ _ _ _ _ _ _ _ h310 h295 h86 h318 h325 (hE.pick _ ⟨rfl, rfl, trivial⟩) hS
                  · refine Br.mk (i := 13) true true rfl (by kernel_rfl) (by kernel_rfl) ?_
                    refine WL.lit hE hS (e := 4) (es := 1) (vs := [(0, .bool false)]) (cs := [.bool false]) (runs_plain rfl) rfl (by kernel_rfl) rfl ?_; clear hE hS a w; intro b319 a w hE hS
                    refine WL.nil ?_
                    refine ⟨⟨fun _ => ((hS.tail).tail), fun _ => ((((hS.tail).tail).dropAt 4).dropAt 4)⟩, ?_⟩
                    refine Rg.one (i := 8) false true rfl (by kernel_rfl) (by kernel_rfl) (by kernel_rfl) ?_
                    replace hS := hS.front 1 rfl
                    refine WL.appDX (kk := 48) hE hS 5 (m := 1) (runs_plain rfl) rfl rfl rfl aw30 rfl h_v0 (rfl) (xs := [(FareBooking.mk ((y0.All.length : Nat) : Int) x1 x2 q298)]) (Ev.cons (c1 := [.int .i64 ((y0.All.length : Nat) : Int), .int .i64 x1, .int .i64 x2, .slice a300 q298.length c301]) ⟨_, _, rfl, h310⟩ rfl (Ev.nil)) rfl rfl hx314 rfl ?_; clear hE hS a w; intro a315 c316 cs317 a w h318 hE hS
                    refine WL.nil ?_
                    refine ⟨⟨fun h => absurd h (by decide), fun _ => (((hS.tail).dropAt 4).dropAt 4)⟩, ?_⟩
                    refine Rg.one (i := 14) false true rfl (by kernel_rfl) (by kernel_rfl) (by kernel_rfl) ?_
                    refine WL.appDX (kk := 1) hE hS 5 (m := 1) (runs_plain rfl) rfl rfl rfl aw31 rfl h_v1 (rfl) (xs := [false]) (Ev.cons (c1 := [.bool false]) rfl rfl (Ev.nil)) rfl rfl hx321 rfl ?_; clear hE hS a w; intro a322 c323 cs324 a w h325 hE hS
                    refine WL.nil ?_
                    refine ⟨⟨fun h => absurd h (by decide), fun _ => ((hS.dropAt 4).dropAt 4)⟩, ?_⟩
                    refine Rg.one (i := 15) false true rfl (by kernel_rfl) (by kernel_rfl) (by kernel_rfl) ?_
                    refine WL.vS hS hE (runs_plain rfl) (Gives.nilOk hE rfl) rfl ?_; clear hE a; intro a hE
                    refine WL.nil ?_
                    refine ⟨⟨fun h => absurd h (by decide), fun _ => ((hS.dropAt 4).dropAt 4)⟩, ?_⟩
                    refine Rg.takeP (i := 16) hE rfl (by kernel_rfl) (runs_plain rfl) (Gives.fld hE rfl fl33_3) rfl (tw_sel (fun h => absurd h (by decide)) (fun _ => ((hS.dropAt 4).dropAt 4))) ?_; clear hE a; intro a hE
                    refine Rg.one (i := 17) false false rfl (by kernel_rfl) (by kernel_rfl) (by kernel_rfl) ?_
                    refine WL.storeI hE hS 3 rfl [.int .i64 y0.Rows, .int .i64 y0.Across, .int .i64 y0.Stops, .slice a315 x313.length c316, .slice a_v1 y0.Gone.length c_v1] (runs_plain rfl) rfl rfl rfl ty30 rfl rfl rfl rfl ?_; clear hE hS a w; intro a w hE hS
                    refine WL.nil ?_
                    refine ⟨⟨fun h => absurd h (by decide), fun h => absurd h (by decide)⟩, ?_⟩
                    refine Rg.one (i := 18) false false rfl (by kernel_rfl) (by kernel_rfl) (by kernel_rfl) ?_
                    refine WL.vS hS hE (runs_plain rfl) (Gives.nilOk hE rfl) rfl ?_; clear hE a; intro a hE
                    refine WL.nil ?_
                    refine ⟨⟨fun h => absurd h (by decide), fun h => absurd h (by decide)⟩, ?_⟩
                    refine Rg.takeP (i := 19) hE rfl (by kernel_rfl) (runs_plain rfl) (Gives.fld hE rfl fl33_4) rfl (tw_sel (fun h => absurd h (by decide)) (fun h => absurd h (by decide))) ?_; clear hE a; intro a hE
                    refine Rg.one (i := 20) false false rfl (by kernel_rfl) (by kernel_rfl) (by kernel_rfl) ?_
                    refine WL.storeI hE hS 3 rfl [.int .i64 y0.Rows, .int .i64 y0.Across, .int .i64 y0.Stops, .slice a315 x313.length c316, .slice a322 x320.length c323] (runs_plain rfl) rfl rfl rfl ty31 rfl rfl rfl rfl ?_; clear hE hS a w; intro a w hE hS
                    refine WL.nil ?_
                    refine ⟨⟨fun h => absurd h (by decide), fun h => absurd h (by decide)⟩, ?_⟩
                    refine Rg.done (by kernel_rfl) ?_
                    exact key _ _ _ _ _ _ _ _ h310 h295 h86 h318 h325 (hE.pick _ ⟨rfl, rfl, trivial⟩) hS
                · refine Br.mk (i := 13) true true rfl (by kernel_rfl) (by kernel_rfl) ?_
                  refine WL.lit hE hS (e := 4) (es := 1) (vs := [(0, .bool false)]) (cs := [.bool false]) (runs_plain rfl) rfl (by kernel_rfl) rfl ?_; clear hE hS a w; intro b319 a w hE hS
                  refine WL.nil ?_
                  refine ⟨⟨fun _ => ((hS.tail).tail), fun _ => ((((hS.tail).tail).dropAt 4).dropAt 4)⟩, ?_⟩
                  refine Rg.many 8 [10] (by kernel_rfl) ⟨?_, ?_, trivial⟩
                  · refine Br.mk (i := 8) false true rfl (by kernel_rfl) (by kernel_rfl) ?_
                    replace hS := hS.front 1 rfl
                    refine WL.appDX (kk := 48) hE hS 5 (m := 1) (runs_plain rfl) rfl rfl rfl aw30 rfl h_v0 (rfl) (xs := [(FareBooking.mk ((y0.All.length : Nat) : Int) x1 x2 q298)]) (Ev.cons (c1 := [.int .i64 ((y0.All.length : Nat) : Int), .int .i64 x1, .int .i64 x2, .slice a300 q298.length c301]) ⟨_, _, rfl, h310⟩ rfl (Ev.nil)) rfl rfl hx314 rfl ?_; clear hE hS a w; intro a315 c316 cs317 a w h318 hE hS
                    refine WL.nil ?_
                    refine ⟨⟨fun h => absurd h (by decide), fun _ => (((hS.tail).dropAt 4).dropAt 4)⟩, ?_⟩
                    refine Rg.one (i := 10) false true rfl (by kernel_rfl) (by kernel_rfl) (by kernel_rfl) ?_
                    refine WL.vS hS hE (runs_plain rfl) (Gives.nilOk hE rfl) rfl ?_; clear hE a; intro a hE
                    refine WL.nil ?_
                    refine ⟨⟨fun h => absurd h (by decide), fun _ => (((hS.tail).dropAt 4).dropAt 4)⟩, ?_⟩
                    refine Rg.takeP (i := 11) hE rfl (by kernel_rfl) (runs_plain rfl) (Gives.fld hE rfl fl33_4) rfl (tw_sel (fun h => absurd h (by decide)) (fun _ => (((hS.tail).dropAt 4).dropAt 4))) ?_; clear hE a; intro a hE
                    refine Rg.take (i := 12) false rfl hE rfl (by kernel_rfl) (runs_plain rfl) (Gives.loadB hE 3 rfl rfl rfl ty31) rfl (tw_sel (fun h => absurd h (by decide)) (fun _ => (((hS.tail).dropAt 4).dropAt 4))) ?_; clear hE a; intro a hE
                    refine Rg.one (i := 14) false true rfl (by kernel_rfl) (by kernel_rfl) (by kernel_rfl) ?_
                    refine WL.appDX (kk := 1) hE hS 5 (m := 1) (runs_plain rfl) rfl rfl rfl aw31 rfl h_v1 (rfl) (xs := [false]) (Ev.cons (c1 := [.bool false]) rfl rfl (Ev.nil)) rfl rfl hx321 rfl ?_; clear hE hS a w; intro a322 c323 cs324 a w h325 hE hS
                    refine WL.nil ?_
                    refine ⟨⟨fun h => absurd h (by decide), fun _ => ((hS.dropAt 4).dropAt 4)⟩, ?_⟩
                    refine Rg.one (i := 15) false true rfl (by kernel_rfl) (by kernel_rfl) (by kernel_rfl) ?_
                    refine WL.vS hS hE (runs_plain rfl) (Gives.nilOk hE rfl) rfl ?_; clear hE a; intro a hE
                    refine WL.nil ?_
                    refine ⟨⟨fun h => absurd h (by decide), fun _ => ((hS.dropAt 4).dropAt 4)⟩, ?_⟩
                    refine Rg.takeP (i := 16) hE rfl (by kernel_rfl) (runs_plain rfl) (Gives.fld hE rfl fl33_3) rfl (tw_sel (fun h => absurd h (by decide)) (fun _ => ((hS.dropAt 4).dropAt 4))) ?_; clear hE a; intro a hE
                    refine Rg.one (i := 17) false false rfl (by kernel_rfl) (by kernel_rfl) (by kernel_rfl) ?_
                    refine WL.storeI hE hS 3 rfl [.int .i64 y0.Rows, .int .i64 y0.Across, .int .i64 y0.Stops, .slice a315 x313.length c316, .slice a_v1 y0.Gone.length c_v1] (runs_plain rfl) rfl rfl rfl ty30 rfl rfl rfl rfl ?_; clear hE hS a w; intro a w hE hS
                    refine WL.nil ?_
                    refine ⟨⟨fun h => absurd h (by decide), fun h => absurd h (by decide)⟩, ?_⟩
                    refine Rg.one (i := 18) false false rfl (by kernel_rfl) (by kernel_rfl) (by kernel_rfl) ?_
                    refine WL.vS hS hE (runs_plain rfl) (Gives.nilOk hE rfl) rfl ?_; clear hE a; intro a hE
                    refine WL.nil ?_
                    refine ⟨⟨fun h => absurd h (by decide), fun h => absurd h (by decide)⟩, ?_⟩
                    refine Rg.takeP (i := 19) hE rfl (by kernel_rfl) (runs_plain rfl) (Gives.fld hE rfl fl33_4) rfl (tw_sel (fun h => absurd h (by decide)) (fun h => absurd h (by decide))) ?_; clear hE a; intro a hE
                    refine Rg.one (i := 20) false false rfl (by kernel_rfl) (by kernel_rfl) (by kernel_rfl) ?_
                    refine WL.storeI hE hS 3 rfl [.int .i64 y0.Rows, .int .i64 y0.Across, .int .i64 y0.Stops, .slice a315 x313.length c316, .slice a322 x320.length c323] (runs_plain rfl) rfl rfl rfl ty31 rfl rfl rfl rfl ?_; clear hE hS a w; intro a w hE hS
                    refine WL.nil ?_
                    refine ⟨⟨fun h => absurd h (by decide), fun h => absurd h (by decide)⟩, ?_⟩
                    refine Rg.done (by kernel_rfl) ?_
                    exact key _ _ _ _ _ _ _ _ h310 h295 h86 h318 h325 (hE.pick _ ⟨rfl, rfl, trivial⟩) hS
                  · refine Br.mk (i := 10) true true rfl (by kernel_rfl) (by kernel_rfl) ?_
                    refine WL.vS hS hE (runs_plain rfl) (Gives.nilOk hE rfl) rfl ?_; clear hE a; intro a hE
                    refine WL.nil ?_
                    refine ⟨⟨fun _ => ((hS.tail).tail), fun _ => ((((hS.tail).tail).dropAt 4).dropAt 4)⟩, ?_⟩
                    refine Rg.takeP (i := 11) hE rfl (by kernel_rfl) (runs_plain rfl) (Gives.fld hE rfl fl33_4) rfl (tw_sel (fun _ => ((hS.tail).tail)) (fun _ => ((((hS.tail).tail).dropAt 4).dropAt 4))) ?_; clear hE a; intro a hE
                    refine Rg.take (i := 12) false rfl hE rfl (by kernel_rfl) (runs_plain rfl) (Gives.loadB hE 3 rfl rfl rfl ty31) rfl (tw_sel (fun _ => ((hS.tail).tail)) (fun _ => ((((hS.tail).tail).dropAt 4).dropAt 4))) ?_; clear hE a; intro a hE
                    refine Rg.one (i := 8) false true rfl (by kernel_rfl) (by kernel_rfl) (by kernel_rfl) ?_
                    replace hS := hS.front 1 rfl
                    refine WL.appDX (kk := 48) hE hS 5 (m := 1) (runs_plain rfl) rfl rfl rfl aw30 rfl h_v0 (rfl) (xs := [(FareBooking.mk ((y0.All.length : Nat) : Int) x1 x2 q298)]) (Ev.cons (c1 := [.int .i64 ((y0.All.length : Nat) : Int), .int .i64 x1, .int .i64 x2, .slice a300 q298.length c301]) ⟨_, _, rfl, h310⟩ rfl (Ev.nil)) rfl rfl hx314 rfl ?_; clear hE hS a w; intro a315 c316 cs317 a w h318 hE hS
                    refine WL.nil ?_
                    refine ⟨⟨fun h => absurd h (by decide), fun _ => (((hS.tail).dropAt 4).dropAt 4)⟩, ?_⟩
                    refine Rg.one (i := 14) false true rfl (by kernel_rfl) (by kernel_rfl) (by kernel_rfl) ?_
                    refine WL.appDX (kk := 1) hE hS 5 (m := 1) (runs_plain rfl) rfl rfl rfl aw31 rfl h_v1 (rfl) (xs := [false]) (Ev.cons (c1 := [.bool false]) rfl rfl (Ev.nil)) rfl rfl hx321 rfl ?_; clear hE hS a w; intro a322 c323 cs324 a w h325 hE hS
                    refine WL.nil ?_
                    refine ⟨⟨fun h => absurd h (by decide), fun _ => ((hS.dropAt 4).dropAt 4)⟩, ?_⟩
                    refine Rg.one (i := 15) false true rfl (by kernel_rfl) (by kernel_rfl) (by kernel_rfl) ?_
                    refine WL.vS hS hE (runs_plain rfl) (Gives.nilOk hE rfl) rfl ?_; clear hE a; intro a hE
                    refine WL.nil ?_
                    refine ⟨⟨fun h => absurd h (by decide), fun _ => ((hS.dropAt 4).dropAt 4)⟩, ?_⟩
                    refine Rg.takeP (i := 16) hE rfl (by kernel_rfl) (runs_plain rfl) (Gives.fld hE rfl fl33_3) rfl (tw_sel (fun h => absurd h (by decide)) (fun _ => ((hS.dropAt 4).dropAt 4))) ?_; clear hE a; intro a hE
                    refine Rg.one (i := 17) false false rfl (by kernel_rfl) (by kernel_rfl) (by kernel_rfl) ?_
                    refine WL.storeI hE hS 3 rfl [.int .i64 y0.Rows, .int .i64 y0.Across, .int .i64 y0.Stops, .slice a315 x313.length c316, .slice a_v1 y0.Gone.length c_v1] (runs_plain rfl) rfl rfl rfl ty30 rfl rfl rfl rfl ?_; clear hE hS a w; intro a w hE hS
                    refine WL.nil ?_
                    refine ⟨⟨fun h => absurd h (by decide), fun h => absurd h (by decide)⟩, ?_⟩
                    refine Rg.one (i := 18) false false rfl (by kernel_rfl) (by kernel_rfl) (by kernel_rfl) ?_
                    refine WL.vS hS hE (runs_plain rfl) (Gives.nilOk hE rfl) rfl ?_; clear hE a; intro a hE
                    refine WL.nil ?_
                    refine ⟨⟨fun h => absurd h (by decide), fun h => absurd h (by decide)⟩, ?_⟩
                    refine Rg.takeP (i := 19) hE rfl (by kernel_rfl) (runs_plain rfl) (Gives.fld hE rfl fl33_4) rfl (tw_sel (fun h => absurd h (by decide)) (fun h => absurd h (by decide))) ?_; clear hE a; intro a hE
                    refine Rg.one (i := 20) false false rfl (by kernel_rfl) (by kernel_rfl) (by kernel_rfl) ?_
                    refine WL.storeI hE hS 3 rfl [.int .i64 y0.Rows, .int .i64 y0.Across, .int .i64 y0.Stops, .slice a315 x313.length c316, .slice a322 x320.length c323] (runs_plain rfl) rfl rfl rfl ty31 rfl rfl rfl rfl ?_; clear hE hS a w; intro a w hE hS
                    refine WL.nil ?_
                    refine ⟨⟨fun h => absurd h (by decide), fun h => absurd h (by decide)⟩, ?_⟩
                    refine Rg.done (by kernel_rfl) ?_
                    exact key _ _ _ _ _ _ _ _ h310 h295 h86 h318 h325 (hE.pick _ ⟨rfl, rfl, trivial⟩) hS
              · refine Br.mk (i := 10) true true rfl (by kernel_rfl) (by kernel_rfl) ?_
                refine WL.vS hS hE (runs_plain rfl) (Gives.nilOk hE rfl) rfl ?_; clear hE a; intro a hE
                refine WL.nil ?_
                refine ⟨⟨fun _ => hS, fun _ => ((hS.dropAt 4).dropAt 4)⟩, ?_⟩
                refine Rg.takeP (i := 11) hE rfl (by kernel_rfl) (runs_plain rfl) (Gives.fld hE rfl fl33_4) rfl (tw_sel (fun _ => hS) (fun _ => ((hS.dropAt 4).dropAt 4))) ?_; clear hE a; intro a hE
                refine Rg.take (i := 12) false rfl hE rfl (by kernel_rfl) (runs_plain rfl) (Gives.loadB hE 3 rfl rfl rfl ty31) rfl (tw_sel (fun _ => hS) (fun _ => ((hS.dropAt 4).dropAt 4))) ?_; clear hE a; intro a hE
                refine Rg.many 7 [13] (by kernel_rfl) ⟨?_, ?_, trivial⟩
                · refine Br.mk (i := 7) true true rfl (by kernel_rfl) (by kernel_rfl) ?_
                  refine WL.lit hE hS (e := 39) (es := 4) (vs := [(0, .agg (List.toArray [.int .i64 ((y0.All.length : Nat) : Int), .int .i64 x1, .int .i64 x2, .slice a300 q298.length c301]))]) (cs := [.int .i64 ((y0.All.length : Nat) : Int), .int .i64 x1, .int .i64 x2, .slice a300 q298.length c301]) (runs_plain rfl) rfl (by kernel_rfl) rfl ?_; clear hE hS a w; intro b312 a w hE hS
                  refine WL.nil ?_
                  refine ⟨⟨fun _ => (hS.tail), fun _ => (((hS.tail).dropAt 4).dropAt 4)⟩, ?_⟩
                  refine Rg.many 8 [13] (by kernel_rfl) ⟨?_, ?_, trivial⟩
                  · refine Br.mk (i := 8) false true rfl (by kernel_rfl) (by kernel_rfl) ?_
                    refine WL.appDX (kk := 48) hE hS 4 (m := 1) (runs_plain rfl) rfl rfl rfl aw30 rfl h_v0 (rfl) (xs := [(FareBooking.mk ((y0.All.length : Nat) : Int) x1 x2 q298)]) (Ev.cons (c1 := [.int .i64 ((y0.All.length : Nat) : Int), .int .i64 x1, .int .i64 x2, .slice a300 q298.length c301]) ⟨_, _, rfl, h310⟩ rfl (Ev.nil)) rfl rfl hx314 rfl ?_; clear hE hS a w; intro a315 c316 cs317 a w h318 hE hS
                    refine WL.nil ?_
                    refine ⟨⟨fun h => absurd h (by decide), fun _ => ((hS.dropAt 4).dropAt 4)⟩, ?_⟩
                    refine Rg.one (i := 13) false true rfl (by kernel_rfl) (by kernel_rfl) (by kernel_rfl) ?_
                    refine WL.lit hE hS (e := 4) (es := 1) (vs := [(0, .bool false)]) (cs := [.bool false]) (runs_plain rfl) rfl (by kernel_rfl) rfl ?_; clear hE hS a w; intro b319 a w hE hS
                    refine WL.nil ?_
                    refine ⟨⟨fun h => absurd h (by decide), fun _ => (((hS.tail).dropAt 4).dropAt 4)⟩, ?_⟩
                    refine Rg.one (i := 14) false true rfl (by kernel_rfl) (by kernel_rfl) (by kernel_rfl) ?_
                    refine WL.appDX (kk := 1) hE hS 5 (m := 1) (runs_plain rfl) rfl rfl rfl aw31 rfl h_v1 (rfl) (xs := [false]) (Ev.cons (c1 := [.bool false]) rfl rfl (Ev.nil)) rfl rfl hx321 rfl ?_; clear hE hS a w; intro a322 c323 cs324 a w h325 hE hS
                    refine WL.nil ?_
                    refine ⟨⟨fun h => absurd h (by decide), fun _ => ((hS.dropAt 4).dropAt 4)⟩, ?_⟩
                    refine Rg.one (i := 15) false true rfl (by kernel_rfl) (by kernel_rfl) (by kernel_rfl) ?_
                    refine WL.vS hS hE (runs_plain rfl) (Gives.nilOk hE rfl) rfl ?_; clear hE a; intro a hE
                    refine WL.nil ?_
                    refine ⟨⟨fun h => absurd h (by decide), fun _ => ((hS.dropAt 4).dropAt 4)⟩, ?_⟩
                    refine Rg.takeP (i := 16) hE rfl (by kernel_rfl) (runs_plain rfl) (Gives.fld hE rfl fl33_3) rfl (tw_sel (fun h => absurd h (by decide)) (fun _ => ((hS.dropAt 4).dropAt 4))) ?_; clear hE a; intro a hE
                    refine Rg.one (i := 17) false false rfl (by kernel_rfl) (by kernel_rfl) (by kernel_rfl) ?_
                    refine WL.storeI hE hS 3 rfl [.int .i64 y0.Rows, .int .i64 y0.Across, .int .i64 y0.Stops, .slice a315 x313.length c316, .slice a_v1 y0.Gone.length c_v1] (runs_plain rfl) rfl rfl rfl ty30 rfl rfl rfl rfl ?_; clear hE hS a w; intro a w hE hS
                    refine WL.nil ?_
                    refine ⟨⟨fun h => absurd h (by decide), fun h => absurd h (by decide)⟩, ?_⟩
                    refine Rg.one (i := 18) false false rfl (by kernel_rfl) (by kernel_rfl) (by kernel_rfl) ?_
                    refine WL.vS hS hE (runs_plain rfl) (Gives.nilOk hE rfl) rfl ?_; clear hE a; intro a hE
                    refine WL.nil ?_
                    refine ⟨⟨fun h => absurd h (by decide), fun h => absurd h (by decide)⟩, ?_⟩
                    refine Rg.takeP (i := 19) hE rfl (by kernel_rfl) (runs_plain rfl) (Gives.fld hE rfl fl33_4) rfl (tw_sel (fun h => absurd h (by decide)) (fun h => absurd h (by decide))) ?_; clear hE a; intro a hE
                    refine Rg.one (i := 20) false false rfl (by kernel_rfl) (by kernel_rfl) (by kernel_rfl) ?_
                    refine WL.storeI hE hS 3 rfl [.int .i64 y0.Rows, .int .i64 y0.Across, .int .i64 y0.Stops, .slice a315 x313.length c316, .slice a322 x320.length c323] (runs_plain rfl) rfl rfl rfl ty31 rfl rfl rfl rfl ?_; clear hE hS a w; intro a w hE hS
                    refine WL.nil ?_
                    refine ⟨⟨fun h => absurd h (by decide), fun h => absurd h (by decide)⟩, ?_⟩
                    refine Rg.done (by kernel_rfl) ?_
                    exact key _ _ _ _ _ _ _ _ h310 h295 h86 h318 h325 (hE.pick _ ⟨rfl, rfl, trivial⟩) hS
                  · refine Br.mk (i := 13) true true rfl (by kernel_rfl) (by kernel_rfl) ?_
                    refine WL.lit hE hS (e := 4) (es := 1) (vs := [(0, .bool false)]) (cs := [.bool false]) (runs_plain rfl) rfl (by kernel_rfl) rfl ?_; clear hE hS a w; intro b319 a w hE hS
                    refine WL.nil ?_
                    refine ⟨⟨fun _ => ((hS.tail).tail), fun _ => ((((hS.tail).tail).dropAt 4).dropAt 4)⟩, ?_⟩
                    refine Rg.one (i := 8) false true rfl (by kernel_rfl) (by kernel_rfl) (by kernel_rfl) ?_
                    replace hS := hS.front 1 rfl
                    refine WL.appDX (kk := 48) hE hS 5 (m := 1) (runs_plain rfl) rfl rfl rfl aw30 rfl h_v0 (rfl) (xs := [(FareBooking.mk ((y0.All.length : Nat) : Int) x1 x2 q298)]) (Ev.cons (c1 := [.int .i64 ((y0.All.length : Nat) : Int), .int .i64 x1, .int .i64 x2, .slice a300 q298.length c301]) ⟨_, _, rfl, h310⟩ rfl (Ev.nil)) rfl rfl hx314 rfl ?_; clear hE hS a w; intro a315 c316 cs317 a w h318 hE hS
                    refine WL.nil ?_
                    refine ⟨⟨fun h => absurd h (by decide), fun _ => (((hS.tail).dropAt 4).dropAt 4)⟩, ?_⟩
                    refine Rg.one (i := 14) false true rfl (by kernel_rfl) (by kernel_rfl) (by kernel_rfl) ?_
                    refine WL.appDX (kk := 1) hE hS 5 (m := 1) (runs_plain rfl) rfl rfl rfl aw31 rfl h_v1 (rfl) (xs := [false]) (Ev.cons (c1 := [.bool false]) rfl rfl (Ev.nil)) rfl rfl hx321 rfl ?_; clear hE hS a w; intro a322 c323 cs324 a w h325 hE hS
                    refine WL.nil ?_
                    refine ⟨⟨fun h => absurd h (by decide), fun _ => ((hS.dropAt 4).dropAt 4)⟩, ?_⟩
                    refine Rg.one (i := 15) false true rfl (by kernel_rfl) (by kernel_rfl) (by kernel_rfl) ?_
                    refine WL.vS hS hE (runs_plain rfl) (Gives.nilOk hE rfl) rfl ?_; clear hE a; intro a hE
                    refine WL.nil ?_
                    refine ⟨⟨fun h => absurd h (by decide), fun _ => ((hS.dropAt 4).dropAt 4)⟩, ?_⟩
                    refine Rg.takeP (i := 16) hE rfl (by kernel_rfl) (runs_plain rfl) (Gives.fld hE rfl fl33_3) rfl (tw_sel (fun h => absurd h (by decide)) (fun _ => ((hS.dropAt 4).dropAt 4))) ?_; clear hE a; intro a hE
                    refine Rg.one (i := 17) false false rfl (by kernel_rfl) (by kernel_rfl) (by kernel_rfl) ?_
                    refine WL.storeI hE hS 3 rfl [.int .i64 y0.Rows, .int .i64 y0.Across, .int .i64 y0.Stops, .slice a315 x313.length c316, .slice a_v1 y0.Gone.length c_v1] (runs_plain rfl) rfl rfl rfl ty30 rfl rfl rfl rfl ?_; clear hE hS a w; intro a w hE hS
                    refine WL.nil ?_
                    refine ⟨⟨fun h => absurd h (by decide), fun h => absurd h (by decide)⟩, ?_⟩
                    refine Rg.one (i := 18) false false rfl (by kernel_rfl) (by kernel_rfl) (by kernel_rfl) ?_
                    refine WL.vS hS hE (runs_plain rfl) (Gives.nilOk hE rfl) rfl ?_; clear hE a; intro a hE
                    refine WL.nil ?_
                    refine ⟨⟨fun h => absurd h (by decide), fun h => absurd h (by decide)⟩, ?_⟩
                    refine Rg.takeP (i := 19) hE rfl (by kernel_rfl) (runs_plain rfl) (Gives.fld hE rfl fl33_4) rfl (tw_sel (fun h => absurd h (by decide)) (fun h => absurd h (by decide))) ?_; clear hE a; intro a hE
                    refine Rg.one (i := 20) false false rfl (by kernel_rfl) (by kernel_rfl) (by kernel_rfl) ?_
                    refine WL.storeI hE hS 3 rfl [.int .i64 y0.Rows, .int .i64 y0.Across, .int .i64 y0.Stops, .slice a315 x313.length c316, .slice a322 x320.length c323] (runs_plain rfl) rfl rfl rfl ty31 rfl rfl rfl rfl ?_; clear hE hS a w; intro a w hE hS
                    refine WL.nil ?_
                    refine ⟨⟨fun h => absurd h (by decide), fun h => absurd h (by decide)⟩, ?_⟩
                    refine Rg.done (by kernel_rfl) ?_
                    exact key _ _ _ _ _ _ _ _ h310 h295 h86 h318 h325 (hE.pick _ ⟨rfl, rfl, trivial⟩) hS
                · refine Br.mk (i := 13) true true rfl (by kernel_rfl) (by kernel_rfl) ?_
                  refine WL.lit hE hS (e := 4) (es := 1) (vs := [(0, .bool false)]) (cs := [.bool false]) (runs_plain rfl) rfl (by kernel_rfl) rfl ?_; clear hE hS a w; intro b319 a w hE hS
                  refine WL.nil ?_
                  refine ⟨⟨fun _ => (hS.tail), fun _ => (((hS.tail).dropAt 4).dropAt 4)⟩, ?_⟩
                  refine Rg.one (i := 7) true true rfl (by kernel_rfl) (by kernel_rfl) (by kernel_rfl) ?_
                  refine WL.lit hE hS (e := 39) (es := 4) (vs := [(0, .agg (List.toArray [.int .i64 ((y0.All.length : Nat) : Int), .int .i64 x1, .int .i64 x2, .slice a300 q298.length c301]))]) (cs := [.int .i64 ((y0.All.length : Nat) : Int), .int .i64 x1, .int .i64 x2, .slice a300 q298.length c301]) (runs_plain rfl) rfl (by kernel_rfl) rfl ?_; clear hE hS a w; intro b312 a w hE hS
                  refine WL.nil ?_
                  refine ⟨⟨fun _ => ((hS.tail).tail), fun _ => ((((hS.tail).tail).dropAt 4).dropAt 4)⟩, ?_⟩
                  refine Rg.one (i := 8) false true rfl (by kernel_rfl) (by kernel_rfl) (by kernel_rfl) ?_
                  refine WL.appDX (kk := 48) hE hS 5 (m := 1) (runs_plain rfl) rfl rfl rfl aw30 rfl h_v0 (rfl) (xs := [(FareBooking.mk ((y0.All.length : Nat) : Int) x1 x2 q298)]) (Ev.cons (c1 := [.int .i64 ((y0.All.length : Nat) : Int), .int .i64 x1, .int .i64 x2, .slice a300 q298.length c301]) ⟨_, _, rfl, h310⟩ rfl (Ev.nil)) rfl rfl hx314 rfl ?_; clear hE hS a w; intro a315 c316 cs317 a w h318 hE hS
                  refine WL.nil ?_
                  refine ⟨⟨fun h => absurd h (by decide), fun _ => (((hS.tail).dropAt 4).dropAt 4)⟩, ?_⟩
                  refine Rg.one (i := 14) false true rfl (by kernel_rfl) (by kernel_rfl) (by kernel_rfl) ?_
                  refine WL.appDX (kk := 1) hE hS 5 (m := 1) (runs_plain rfl) rfl rfl rfl aw31 rfl h_v1 (rfl) (xs := [false]) (Ev.cons (c1 := [.bool false]) rfl rfl (Ev.nil)) rfl rfl hx321 rfl ?_; clear hE hS a w; intro a322 c323 cs324 a w h325 hE hS
                  refine WL.nil ?_
                  refine ⟨⟨fun h => absurd h (by decide), fun _ => ((hS.dropAt 4).dropAt 4)⟩, ?_⟩
                  refine Rg.one (i := 15) false true rfl (by kernel_rfl) (by kernel_rfl) (by kernel_rfl) ?_
                  refine WL.vS hS hE (runs_plain rfl) (Gives.nilOk hE rfl) rfl ?_; clear hE a; intro a hE
                  refine WL.nil ?_
                  refine ⟨⟨fun h => absurd h (by decide), fun _ => ((hS.dropAt 4).dropAt 4)⟩, ?_⟩
                  refine Rg.takeP (i := 16) hE rfl (by kernel_rfl) (runs_plain rfl) (Gives.fld hE rfl fl33_3) rfl (tw_sel (fun h => absurd h (by decide)) (fun _ => ((hS.dropAt 4).dropAt 4))) ?_; clear hE a; intro a hE
                  refine Rg.one (i := 17) false false rfl (by kernel_rfl) (by kernel_rfl) (by kernel_rfl) ?_
                  refine WL.storeI hE hS 3 rfl [.int .i64 y0.Rows, .int .i64 y0.Across, .int .i64 y0.Stops, .slice a315 x313.length c316, .slice a_v1 y0.Gone.length c_v1] (runs_plain rfl) rfl rfl rfl ty30 rfl rfl rfl rfl ?_; clear hE hS a w; intro a w hE hS
                  refine WL.nil ?_
                  refine ⟨⟨fun h => absurd h (by decide), fun h => absurd h (by decide)⟩, ?_⟩
                  refine Rg.one (i := 18) false false rfl (by kernel_rfl) (by kernel_rfl) (by kernel_rfl) ?_
                  refine WL.vS hS hE (runs_plain rfl) (Gives.nilOk hE rfl) rfl ?_; clear hE a; intro a hE
                  refine WL.nil ?_
                  refine ⟨⟨fun h => absurd h (by decide), fun h => absurd h (by decide)⟩, ?_⟩
                  refine Rg.takeP (i := 19) hE rfl (by kernel_rfl) (runs_plain rfl) (Gives.fld hE rfl fl33_4) rfl (tw_sel (fun h => absurd h (by decide)) (fun h => absurd h (by decide))) ?_; clear hE a; intro a hE
                  refine Rg.one (i := 20) false false rfl (by kernel_rfl) (by kernel_rfl) (by kernel_rfl) ?_
                  refine WL.storeI hE hS 3 rfl [.int .i64 y0.Rows, .int .i64 y0.Across, .int .i64 y0.Stops, .slice a315 x313.length c316, .slice a322 x320.length c323] (runs_plain rfl) rfl rfl rfl ty31 rfl rfl rfl rfl ?_; clear hE hS a w; intro a w hE hS
                  refine WL.nil ?_
                  refine ⟨⟨fun h => absurd h (by decide), fun h => absurd h (by decide)⟩, ?_⟩
                  refine Rg.done (by kernel_rfl) ?_
                  exact key _ _ _ _ _ _ _ _ h310 h295 h86 h318 h325 (hE.pick _ ⟨rfl, rfl, trivial⟩) hS
              · refine Br.mk (i := 13) true true rfl (by kernel_rfl) (by kernel_rfl) ?_
                refine WL.lit hE hS (e := 4) (es := 1) (vs := [(0, .bool false)]) (cs := [.bool false]) (runs_plain rfl) rfl (by kernel_rfl) rfl ?_; clear hE hS a w; intro b319 a w hE hS
                refine WL.nil ?_
                refine ⟨⟨fun _ => (hS.tail), fun _ => (((hS.tail).dropAt 4).dropAt 4)⟩, ?_⟩
                refine Rg.many 7 [10] (by kernel_rfl) ⟨?_, ?_, trivial⟩
                · refine Br.mk (i := 7) true true rfl (by kernel_rfl) (by kernel_rfl) ?_
                  refine WL.lit hE hS (e := 39) (es := 4) (vs := [(0, .agg (List.toArray [.int .i64 ((y0.All.length : Nat) : Int), .int .i64 x1, .int .i64 x2, .slice a300 q298.length c301]))]) (cs := [.int .i64 ((y0.All.length : Nat) : Int), .int .i64 x1, .int .i64 x2, .slice a300 q298.length c301]) (runs_plain rfl) rfl (by kernel_rfl) rfl ?_; clear hE hS a w; intro b312 a w hE hS
                  refine WL.nil ?_
                  refine ⟨⟨fun _ => ((hS.tail).tail), fun _ => ((((hS.tail).tail).dropAt 4).dropAt 4)⟩, ?_⟩
                  refine Rg.many 8 [10] (by kernel_rfl) ⟨?_, ?_, trivial⟩
                  · refine Br.mk (i := 8) false true rfl (by kernel_rfl) (by kernel_rfl) ?_
                    refine WL.appDX (kk := 48) hE hS 5 (m := 1) (runs_plain rfl) rfl rfl rfl aw30 rfl h_v0 (rfl) (xs := [(FareBooking.mk ((y0.All.length : Nat) : Int) x1 x2 q298)]) (Ev.cons (c1 := [.int .i64 ((y0.All.length : Nat) : Int), .int .i64 x1, .int .i64 x2, .slice a300 q298.length c301]) ⟨_, _, rfl, h310⟩ rfl (Ev.nil)) rfl rfl hx314 rfl ?_; clear hE hS a w; intro a315 c316 cs317 a w h318 hE hS
                    refine WL.nil ?_
                    refine ⟨⟨fun h => absurd h (by decide), fun _ => (((hS.tail).dropAt 4).dropAt 4)⟩, ?_⟩
                    refine Rg.one (i := 10) false true rfl (by kernel_rfl) (by kernel_rfl) (by kernel_rfl) ?_
                    refine WL.vS hS hE (runs_plain rfl) (Gives.nilOk hE rfl) rfl ?_; clear hE a; intro a hE
                    refine WL.nil ?_
                    refine ⟨⟨fun h => absurd h (by decide), fun _ => (((hS.tail).dropAt 4).dropAt 4)⟩, ?_⟩
                    refine Rg.takeP (i := 11) hE rfl (by kernel_rfl) (runs_plain rfl) (Gives.fld hE rfl fl33_4) rfl (tw_sel (fun h => absurd h (by decide)) (fun _ => (((hS.tail).dropAt 4).dropAt 4))) ?_; clear hE a; intro a hE
                    refine Rg.take (i := 12) false rfl hE rfl (by kernel_rfl) (runs_plain rfl) (Gives.loadB hE 3 rfl rfl rfl ty31) rfl (tw_sel (fun h => absurd h (by decide)) (fun _ => (((hS.tail).dropAt 4).dropAt 4))) ?_; clear hE a; intro a hE
                    refine Rg.one (i := 14) false true rfl (by kernel_rfl) (by kernel_rfl) (by kernel_rfl) ?_
                    refine WL.appDX (kk := 1) hE hS 5 (m := 1) (runs_plain rfl) rfl rfl rfl aw31 rfl h_v1 (rfl) (xs := [false]) (Ev.cons (c1 := [.bool false]) rfl rfl (Ev.nil)) rfl rfl hx321 rfl ?_; clear hE hS a w; intro a322 c323 cs324 a w h325 hE hS
                    refine WL.nil ?_
                    refine ⟨⟨fun h => absurd h (by decide), fun _ => ((hS.dropAt 4).dropAt 4)⟩, ?_⟩
                    refine Rg.one (i := 15) false true rfl (by kernel_rfl) (by kernel_rfl) (by kernel_rfl) ?_
                    refine WL.vS hS hE (runs_plain rfl) (Gives.nilOk hE rfl) rfl ?_; clear hE a; intro a hE
                    refine WL.nil ?_
                    refine ⟨⟨fun h => absurd h (by decide), fun _ => ((hS.dropAt 4).dropAt 4)⟩, ?_⟩
                    refine Rg.takeP (i := 16) hE rfl (by kernel_rfl) (runs_plain rfl) (Gives.fld hE rfl fl33_3) rfl (tw_sel (fun h => absurd h (by decide)) (fun _ => ((hS.dropAt 4).dropAt 4))) ?_; clear hE a; intro a hE
                    refine Rg.one (i := 17) false false rfl (by kernel_rfl) (by kernel_rfl) (by kernel_rfl) ?_
                    refine WL.storeI hE hS 3 rfl [.int .i64 y0.Rows, .int .i64 y0.Across, .int .i64 y0.Stops, .slice a315 x313.length c316, .slice a_v1 y0.Gone.length c_v1] (runs_plain rfl) rfl rfl rfl ty30 rfl rfl rfl rfl ?_; clear hE hS a w; intro a w hE hS
                    refine WL.nil ?_
                    refine ⟨⟨fun h => absurd h (by decide), fun h => absurd h (by decide)⟩, ?_⟩
                    refine Rg.one (i := 18) false false rfl (by kernel_rfl) (by kernel_rfl) (by kernel_rfl) ?_
                    refine WL.vS hS hE (runs_plain rfl) (Gives.nilOk hE rfl) rfl ?_; clear hE a; intro a hE
                    refine WL.nil ?_
                    refine ⟨⟨fun h => absurd h (by decide), fun h => absurd h (by decide)⟩, ?_⟩
                    refine Rg.takeP (i := 19) hE rfl (by kernel_rfl) (runs_plain rfl) (Gives.fld hE rfl fl33_4) rfl (tw_sel (fun h => absurd h (by decide)) (fun h => absurd h (by decide))) ?_; clear hE a; intro a hE
                    refine Rg.one (i := 20) false false rfl (by kernel_rfl) (by kernel_rfl) (by kernel_rfl) ?_
                    refine WL.storeI hE hS 3 rfl [.int .i64 y0.Rows, .int .i64 y0.Across, .int .i64 y0.Stops, .slice a315 x313.length c316, .slice a322 x320.length c323] (runs_plain rfl) rfl rfl rfl ty31 rfl rfl rfl rfl ?_; clear hE hS a w; intro a w hE hS
                    refine WL.nil ?_
                    refine ⟨⟨fun h => absurd h (by decide), fun h => absurd h (by decide)⟩, ?_⟩
                    refine Rg.done (by kernel_rfl) ?_
                    exact key _ _ _ _ _ _ _ _ h310 h295 h86 h318 h325 (hE.pick _ ⟨rfl, rfl, trivial⟩) hS
                  · refine Br.mk (i := 10) true true rfl (by kernel_rfl) (by kernel_rfl) ?_
                    refine WL.vS hS hE (runs_plain rfl) (Gives.nilOk hE rfl) rfl ?_; clear hE a; intro a hE
                    refine WL.nil ?_
                    refine ⟨⟨fun _ => ((hS.tail).tail), fun _ => ((((hS.tail).tail).dropAt 4).dropAt 4)⟩, ?_⟩
                    refine Rg.takeP (i := 11) hE rfl (by kernel_rfl) (runs_plain rfl) (Gives.fld hE rfl fl33_4) rfl (tw_sel (fun _ => ((hS.tail).tail)) (fun _ => ((((hS.tail).tail).dropAt 4).dropAt 4))) ?_; clear hE a; intro a hE
                    refine Rg.take (i := 12) false rfl hE rfl (by kernel_rfl) (runs_plain rfl) (Gives.loadB hE 3 rfl rfl rfl ty31) rfl (tw_sel (fun _ => ((hS.tail).tail)) (fun _ => ((((hS.tail).tail).dropAt 4).dropAt 4))) ?_; clear hE a; intro a hE
                    refine Rg.one (i := 8) false true rfl (by kernel_rfl) (by kernel_rfl) (by kernel_rfl) ?_
                    refine WL.appDX (kk := 48) hE hS 5 (m := 1) (runs_plain rfl) rfl rfl rfl aw30 rfl h_v0 (rfl) (xs := [(FareBooking.mk ((y0.All.length : Nat) : Int) x1 x2 q298)]) (Ev.cons (c1 := [.int .i64 ((y0.All.length : Nat) : Int), .int .i64 x1, .int .i64 x2, .slice a300 q298.length c301]) ⟨_, _, rfl, h310⟩ rfl (Ev.nil)) rfl rfl hx314 rfl ?_; clear hE hS a w; intro a315 c316 cs317 a w h318 hE hS
                    refine WL.nil ?_
                    refine ⟨⟨fun h => absurd h (by decide), fun _ => (((hS.tail).dropAt 4).dropAt 4)⟩, ?_⟩
                    refine Rg.one (i := 14) false true rfl (by kernel_rfl) (by kernel_rfl) (by kernel_rfl) ?_
                    refine WL.appDX (kk := 1) hE hS 5 (m := 1) (runs_plain rfl) rfl rfl rfl aw31 rfl h_v1 (rfl) (xs := [false]) (Ev.cons (c1 := [.bool false]) rfl rfl (Ev.nil)) rfl rfl hx321 rfl ?_; clear hE hS a w; intro a322 c323 cs324 a w h325 hE hS
                    refine WL.nil ?_
                    refine ⟨⟨fun h => absurd h (by decide), fun _ => ((hS.dropAt 4).dropAt 4)⟩, ?_⟩
                    refine Rg.one (i := 15) false true rfl (by kernel_rfl) (by kernel_rfl) (by kernel_rfl) ?_
                    refine WL.vS hS hE (runs_plain rfl) (Gives.nilOk hE rfl) rfl ?_; clear hE a; intro a hE
                    refine WL.nil ?_
                    refine ⟨⟨fun h => absurd h (by decide), fun _ => ((hS.dropAt 4).dropAt 4)⟩, ?_⟩
                    refine Rg.takeP (i := 16) hE rfl (by kernel_rfl) (runs_plain rfl) (Gives.fld hE rfl fl33_3) rfl (tw_sel (fun h => absurd h (by decide)) (fun _ => ((hS.dropAt 4).dropAt 4))) ?_; clear hE a; intro a hE
                    refine Rg.one (i := 17) false false rfl (by kernel_rfl) (by kernel_rfl) (by kernel_rfl) ?_
                    refine WL.storeI hE hS 3 rfl [.int .i64 y0.Rows, .int .i64 y0.Across, .int .i64 y0.Stops, .slice a315 x313.length c316, .slice a_v1 y0.Gone.length c_v1] (runs_plain rfl) rfl rfl rfl ty30 rfl rfl rfl rfl ?_; clear hE hS a w; intro a w hE hS
                    refine WL.nil ?_
                    refine ⟨⟨fun h => absurd h (by decide), fun h => absurd h (by decide)⟩, ?_⟩
                    refine Rg.one (i := 18) false false rfl (by kernel_rfl) (by kernel_rfl) (by kernel_rfl) ?_
                    refine WL.vS hS hE (runs_plain rfl) (Gives.nilOk hE rfl) rfl ?_; clear hE a; intro a hE
                    refine WL.nil ?_
                    refine ⟨⟨fun h => absurd h (by decide), fun h => absurd h (by decide)⟩, ?_⟩
                    refine Rg.takeP (i := 19) hE rfl (by kernel_rfl) (runs_plain rfl) (Gives.fld hE rfl fl33_4) rfl (tw_sel (fun h => absurd h (by decide)) (fun h => absurd h (by decide))) ?_; clear hE a; intro a hE
                    refine Rg.one (i := 20) false false rfl (by kernel_rfl) (by kernel_rfl) (by kernel_rfl) ?_
                    refine WL.storeI hE hS 3 rfl [.int .i64 y0.Rows, .int .i64 y0.Across, .int .i64 y0.Stops, .slice a315 x313.length c316, .slice a322 x320.length c323] (runs_plain rfl) rfl rfl rfl ty31 rfl rfl rfl rfl ?_; clear hE hS a w; intro a w hE hS
                    refine WL.nil ?_
                    refine ⟨⟨fun h => absurd h (by decide), fun h => absurd h (by decide)⟩, ?_⟩
                    refine Rg.done (by kernel_rfl) ?_
                    exact key _ _ _ _ _ _ _ _ h310 h295 h86 h318 h325 (hE.pick _ ⟨rfl, rfl, trivial⟩) hS
                · refine Br.mk (i := 10) true true rfl (by kernel_rfl) (by kernel_rfl) ?_
                  refine WL.vS hS hE (runs_plain rfl) (Gives.nilOk hE rfl) rfl ?_; clear hE a; intro a hE
                  refine WL.nil ?_
                  refine ⟨⟨fun _ => (hS.tail), fun _ => (((hS.tail).dropAt 4).dropAt 4)⟩, ?_⟩
                  refine Rg.takeP (i := 11) hE rfl (by kernel_rfl) (runs_plain rfl) (Gives.fld hE rfl fl33_4) rfl (tw_sel (fun _ => (hS.tail)) (fun _ => (((hS.tail).dropAt 4).dropAt 4))) ?_; clear hE a; intro a hE
                  refine Rg.take (i := 12) false rfl hE rfl (by kernel_rfl) (runs_plain rfl) (Gives.loadB hE 3 rfl rfl rfl ty31) rfl (tw_sel (fun _ => (hS.tail)) (fun _ => (((hS.tail).dropAt 4).dropAt 4))) ?_; clear hE a; intro a hE
                  refine Rg.one (i := 7) true true rfl (by kernel_rfl) (by kernel_rfl) (by kernel_rfl) ?_
                  refine WL.lit hE hS (e := 39) (es := 4) (vs := [(0, .agg (List.toArray [.int .i64 ((y0.All.length : Nat) : Int), .int .i64 x1, .int .i64 x2, .slice a300 q298.length c301]))]) (cs := [.int .i64 ((y0.All.length : Nat) : Int), .int .i64 x1, .int .i64 x2, .slice a300 q298.length c301]) (runs_plain rfl) rfl (by kernel_rfl) rfl ?_; clear hE hS a w; intro b312 a w hE hS
                  refine WL.nil ?_
                  refine ⟨⟨fun _ => ((hS.tail).tail), fun _ => ((((hS.tail).tail).dropAt 4).dropAt 4)⟩, ?_⟩
                  refine Rg.one (i := 8) false true rfl (by kernel_rfl) (by kernel_rfl) (by kernel_rfl) ?_
                  refine WL.appDX (kk := 48) hE hS 5 (m := 1) (runs_plain rfl) rfl rfl rfl aw30 rfl h_v0 (rfl) (xs := [(FareBooking.mk ((y0.All.length : Nat) : Int) x1 x2 q298)]) (Ev.cons (c1 := [.int .i64 ((y0.All.length : Nat) : Int), .int .i64 x1, .int .i64 x2, .slice a300 q298.length c301]) ⟨_, _, rfl, h310⟩ rfl (Ev.nil)) rfl rfl hx314 rfl ?_; clear hE hS a w; intro a315 c316 cs317 a w h318 hE hS
                  refine WL.nil ?_
                  refine ⟨⟨fun h => absurd h (by decide), fun _ => (((hS.tail).dropAt 4).dropAt 4)⟩, ?_⟩
                  refine Rg.one (i := 14) false true rfl (by kernel_rfl) (by kernel_rfl) (by kernel_rfl) ?_
                  refine WL.appDX (kk := 1) hE hS 5 (m := 1) (runs_plain rfl) rfl rfl rfl aw31 rfl h_v1 (rfl) (xs := [false]) (Ev.cons (c1 := [.bool false]) rfl rfl (Ev.nil)) rfl rfl hx321 rfl ?_; clear hE hS a w; intro a322 c323 cs324 a w h325 hE hS
                  refine WL.nil ?_
                  refine ⟨⟨fun h => absurd h (by decide), fun _ => ((hS.dropAt 4).dropAt 4)⟩, ?_⟩
                  refine Rg.one (i := 15) false true rfl (by kernel_rfl) (by kernel_rfl) (by kernel_rfl) ?_
                  refine WL.vS hS hE (runs_plain rfl) (Gives.nilOk hE rfl) rfl ?_; clear hE a; intro a hE
                  refine WL.nil ?_
                  refine ⟨⟨fun h => absurd h (by decide), fun _ => ((hS.dropAt 4).dropAt 4)⟩, ?_⟩
                  refine Rg.takeP (i := 16) hE rfl (by kernel_rfl) (runs_plain rfl) (Gives.fld hE rfl fl33_3) rfl (tw_sel (fun h => absurd h (by decide)) (fun _ => ((hS.dropAt 4).dropAt 4))) ?_; clear hE a; intro a hE
                  refine Rg.one (i := 17) false false rfl (by kernel_rfl) (by kernel_rfl) (by kernel_rfl) ?_
                  refine WL.storeI hE hS 3 rfl [.int .i64 y0.Rows, .int .i64 y0.Across, .int .i64 y0.Stops, .slice a315 x313.length c316, .slice a_v1 y0.Gone.length c_v1] (runs_plain rfl) rfl rfl rfl ty30 rfl rfl rfl rfl ?_; clear hE hS a w; intro a w hE hS
                  refine WL.nil ?_
                  refine ⟨⟨fun h => absurd h (by decide), fun h => absurd h (by decide)⟩, ?_⟩
                  refine Rg.one (i := 18) false false rfl (by kernel_rfl) (by kernel_rfl) (by kernel_rfl) ?_
                  refine WL.vS hS hE (runs_plain rfl) (Gives.nilOk hE rfl) rfl ?_; clear hE a; intro a hE
                  refine WL.nil ?_
                  refine ⟨⟨fun h => absurd h (by decide), fun h => absurd h (by decide)⟩, ?_⟩
                  refine Rg.takeP (i := 19) hE rfl (by kernel_rfl) (runs_plain rfl) (Gives.fld hE rfl fl33_4) rfl (tw_sel (fun h => absurd h (by decide)) (fun h => absurd h (by decide))) ?_; clear hE a; intro a hE
                  refine Rg.one (i := 20) false false rfl (by kernel_rfl) (by kernel_rfl) (by kernel_rfl) ?_
                  refine WL.storeI hE hS 3 rfl [.int .i64 y0.Rows, .int .i64 y0.Across, .int .i64 y0.Stops, .slice a315 x313.length c316, .slice a322 x320.length c323] (runs_plain rfl) rfl rfl rfl ty31 rfl rfl rfl rfl ?_; clear hE hS a w; intro a w hE hS
                  refine WL.nil ?_
                  refine ⟨⟨fun h => absurd h (by decide), fun h => absurd h (by decide)⟩, ?_⟩
                  refine Rg.done (by kernel_rfl) ?_
                  exact key _ _ _ _ _ _ _ _ h310 h295 h86 h318 h325 (hE.pick _ ⟨rfl, rfl, trivial⟩) hS
            clear hE hS a w; intro cs317 cs324 a315 c316 a322 c323 a w h310 h295 h86 h318 h325 hE hS
            subst hK311
            refine W.seq ?_
            refine W.region ?_
            refine WL.vS hS hE (runs_plain rfl) (Gives.loadBA hE 0 rfl rfl ty39) rfl ?_; clear hE a; intro a hE
            refine WL.storeI hE hS 6 rfl [.int .i64 ((y0.All.length : Nat) : Int), .int .i64 x1, .int .i64 x2, .slice a300 q298.length c301] (runs_plain rfl) rfl rfl rfl ty39 rfl rfl rfl rfl ?_; clear hE hS a w; intro a w hE hS
            refine WL.vS hS hE (runs_plain rfl) (Gives.p hE rfl) rfl ?_; clear hE a; intro a hE
            refine WL.nil ?_
            refine W.ret ?_
            refine finG (fn := Try.f13) (rs := [.cell 8 39, .tmp 9]) (vs := [_, _]) hE rfl ⟨⟨_, rfl, .inl ⟨_, rfl, hS.seesAt 6 rfl, ty39⟩⟩, rfl, trivial⟩ ?_
            obtain rfl := Option.some.inj hr
            replace hS := hS.tail
            replace hS := hS.tail
            replace hS := hS.tail
            replace hS := hS.dropAt 3
            exact ⟨_, a315, c316, x313.length, cs317, a322, c323, x320.length, cs324, s308, rfl, (Sg.Le.trans hle294 hle309), ⟨_, _, rfl, h310⟩, h318, (rfl), h325, (rfl), hS⟩
set_option maxHeartbeats 8000000 in
theorem FareCarBookings_v1_ok  {w : World} {s : Sg} {R : List HP} {pb0 : Nat} {y0 : FareCar} {a_v0 : Option Addr} {c_v0 n_v0 : Nat} {cs_v0 : List Value} {a_v1 : Option Addr} {c_v1 n_v1 : Nat} {cs_v1 : List Value} (hS : St w s (pt pb0 (.cells #[.int .i64 y0.rows, .int .i64 y0.across, .int .i64 y0.stops, .slice a_v0 n_v0 c_v0, .slice a_v1 n_v1 c_v1] 48 (0, 0)) :: vecC 39 4 a_v0 c_v0 n_v0 cs_v0 :: vecC 4 1 a_v1 c_v1 n_v1 cs_v1 :: R)) (h_v0 : Ev 4 RFareBooking s cs_v0 y0.bookings) (hn_v0 : y0.bookings.length = n_v0) (h_v1 : Ev 1 RB s cs_v1 y0.cancelled) (hn_v1 : y0.cancelled.length = n_v1) {r : (List FareBooking)} (hr : FareCarBookings_v1 y0 = some r) :
    Calls Try.prog 16 [.pointer (some ⟨pb0, 0, none⟩)].toArray w (fun e w => ∃ (a0 : Option Addr) (c0 n0 : Nat) (cs0 : List Value) (t : Sg), e = .returned (.slice a0 n0 c0) ∧ s.Le t ∧ Ev 4 RFareBooking t cs0 r ∧ r.length = n0 ∧ St w t (vecC 39 4 a0 c0 n0 cs0 :: pt pb0 (.cells #[.int .i64 y0.rows, .int .i64 y0.across, .int .i64 y0.stops, .slice a_v0 n_v0 c_v0, .slice a_v1 n_v1 c_v1] 48 (0, 0)) :: vecC 39 4 a_v0 c_v0 n_v0 cs_v0 :: vecC 4 1 a_v1 c_v1 n_v1 cs_v1 :: R)) := by
  refine enter Try.func16 rfl rfl rfl fun a hE => ?_
  rw [FareCarBookings_v1] at hr
  subst hn_v0
  subst hn_v1
  refine W.seq ?_
  refine W.region ?_
  refine WL.vS hS hE (runs_plain rfl) (Gives.p hE rfl) rfl ?_; clear hE a; intro a hE
  refine WL.nil ?_
  refine W.seq ?_
  refine W.region ?_
  replace hS := hS.vecNil 39 4
  refine WL.vS hS hE (runs_plain rfl) (Gives.p hE rfl) rfl ?_; clear hE a; intro a hE
  refine WL.nil ?_
  refine W.seq ?_
  refine W.seq ?_
  refine W.region ?_
  refine WL.vS hS hE (runs_plain rfl) (Gives.p hE rfl) rfl ?_; clear hE a; intro a hE
  refine WL.vS hS hE (runs_plain rfl) (Gives.nilOk hE rfl) rfl ?_; clear hE a; intro a hE
  refine WL.vS hS hE (runs_plain rfl) (Gives.fld hE rfl fl48_3) rfl ?_; clear hE a; intro a hE
  refine WL.vS hS hE (runs_plain rfl) (Gives.loadB hE 1 rfl rfl rfl ty30) rfl ?_; clear hE a; intro a hE
  refine WL.vS hS hE (runs_plain rfl) (Gives.len hE rfl sl30) rfl ?_; clear hE a; intro a hE
  refine WL.vS hS hE (runs_plain rfl) (Gives.p hE rfl) rfl ?_; clear hE a; intro a hE
  refine WL.nil ?_
  have hb63 : y0.bookings.length ≤ 9223372036854775807 := by have := hS.vecCap 2 rfl; unfold maxLen at this; omega
  obtain ⟨q53, hq52, hr⟩ := bindS hr
  refine W.cut (fun a w => ∃ (q64 : List FareBooking), ∃ (a65 : Option Addr), ∃ (c66 : Nat), ∃ (n68 : Nat), ∃ (cs69 : List Value), ∃ (s61 : Sg), s.Le s61 ∧ q64 = q53 ∧ Ev 4 RFareBooking s61 cs69 q64 ∧ q64.length = n68 ∧ Rep a 34 [(3, .slice a65 n68 c66)] ∧ St w s61 (vecC 39 4 a65 c66 n68 cs69 :: pt pb0 (.cells #[.int .i64 y0.rows, .int .i64 y0.across, .int .i64 y0.stops, .slice a_v0 y0.bookings.length c_v0, .slice a_v1 y0.cancelled.length c_v1] 48 (0, 0)) :: vecC 39 4 a_v0 c_v0 y0.bookings.length cs_v0 :: vecC 4 1 a_v1 c_v1 y0.cancelled.length cs_v1 :: R)) ?_ ?_
  · refine W.block ?_
    refine W.loop (fun m a w => ∃ (rest56 : Nat) (k54 : Nat), ∃ (q64 : List FareBooking), ∃ (a65 : Option Addr), ∃ (c66 : Nat), ∃ (n68 : Nat), ∃ (cs69 : List Value), ∃ (s61 : Sg), rest56 = m ∧ k54 + rest56 = y0.bookings.length ∧ s.Le s61 ∧ FareCarBookings_v1.loop1 y0 rest56 k54 q64 = some q53 ∧ Ev 4 RFareBooking s61 cs69 q64 ∧ q64.length = n68 ∧ Rep a 34 [(0, .pointer (some ⟨pb0, 0, none⟩)), (3, .slice a65 n68 c66), (9, .slice a_v0 y0.bookings.length c_v0), (10, .int .i64 ((y0.bookings.length : Nat) : Int)), (11, .int .i64 ((k54 : Nat) : Int))] ∧ St w s61 (vecC 39 4 a65 c66 n68 cs69 :: pt pb0 (.cells #[.int .i64 y0.rows, .int .i64 y0.across, .int .i64 y0.stops, .slice a_v0 y0.bookings.length c_v0, .slice a_v1 y0.cancelled.length c_v1] 48 (0, 0)) :: vecC 39 4 a_v0 c_v0 y0.bookings.length cs_v0 :: vecC 4 1 a_v1 c_v1 y0.cancelled.length cs_v1 :: R)) (m := y0.bookings.length) ⟨y0.bookings.length, 0, [], none, 0, 0, [], s, rfl, by omega, (Sg.Le.refl _), hq52, (Ev.nil), (rfl), hE.pick _ ⟨rfl, rfl, rfl, rfl, rfl, trivial⟩, hS⟩ ?_
    clear hE hS a w hq52; rintro m60 a w ⟨rest56, k54, q64, a65, c66, n68, cs69, s61, rfl, hd57, hle62, hq52, h67, rfl, hE, hS⟩
    refine W.gen fun K71 hK71 => ?_
    replace h_v0 := Ev.mono RFareBooking.mono hle62 h_v0
    replace h_v1 := Ev.mono RB.mono hle62 h_v1
    rcases rest56 with _ | rest56
    · skip
      refine W.seq ?_
      refine W.region ?_
      refine WL.vS hS hE (runs_plain rfl) (Gives.p hE rfl) rfl ?_; clear hE a; intro a hE
      refine WL.nil ?_
      refine W.seq ?_
      refine W.condF hE rfl (decide_eq_false (by omega)) ?_
      subst hK71
      refine W.exit rfl ?_
      exact ⟨q64, a65, c66, q64.length, cs69, s61, hle62, Option.some.inj hq52, h67, rfl, hE.pick _ ⟨rfl, trivial⟩, hS⟩
    · have hlt58 : k54 < y0.bookings.length := by omega
      rw [FareCarBookings_v1.loop1] at hq52
      refine W.seq ?_
      refine W.region ?_
      refine WL.vS hS hE (runs_plain rfl) (Gives.p hE rfl) rfl ?_; clear hE a; intro a hE
      refine WL.nil ?_
      refine W.seq ?_
      refine W.condT hE rfl (decide_eq_true (by omega)) ?_
      refine W.skip ?_
      refine W.seq ?_
      refine W.block ?_
      refine W.seq ?_
      refine W.region ?_
      refine WL.vS hS hE (runs_plain rfl) (Gives.p hE rfl) rfl ?_; clear hE a; intro a hE
      obtain ⟨x72, hx73, hq52⟩ := bindS hq52
      obtain ⟨hi74, hlt75, hy76⟩ := gx_some hx73
      obtain ⟨vs77, hl78, hR79, hd80, hget81⟩ := h_v0.at hy76
      obtain ⟨a82, c83, rfl, h84⟩ := hR79
      refine WL.vS hS hE (runs_plain rfl) (Gives.idx hE ((((k54 : Nat) : Int)).toNat) rfl rfl sl30 hi74 (by omega) (hS.vecAok 2 rfl (by omega : (((k54 : Nat) : Int)).toNat < y0.bookings.length))) rfl ?_; clear hE a; intro a hE
      refine WL.vS hS hE (runs_plain rfl) (Gives.loadA hE rfl (fun w h => St.vecSees h 2 rfl ((((k54 : Nat) : Int)).toNat * 4) _ hget81) ty39) rfl ?_; clear hE a; intro a hE
      refine WL.alloc hE hS (runs_plain rfl) zr39 rfl ?_; clear hE hS a w; intro b85 a w hE hS
      refine WL.vS hS hE (runs_plain rfl) (Gives.p hE rfl) rfl ?_; clear hE a; intro a hE
      refine WL.storeI hE hS 0 rfl [.int .i64 x72.No, .int .i64 x72.From, .int .i64 x72.To, .slice a82 x72.Seats.length c83] (runs_plain rfl) rfl rfl rfl ty39 rfl rfl rfl rfl ?_; clear hE hS a w; intro a w hE hS
      refine WL.nil ?_
      refine W.seq ?_
      refine W.region ?_
      refine WL.vS hS hE (runs_plain rfl) (Gives.p hE rfl) rfl ?_; clear hE a; intro a hE
      refine WL.vS hS hE (runs_plain rfl) (Gives.nilOk hE rfl) rfl ?_; clear hE a; intro a hE
      refine WL.vS hS hE (runs_plain rfl) (Gives.fld hE rfl fl48_4) rfl ?_; clear hE a; intro a hE
      refine WL.vS hS hE (runs_plain rfl) (Gives.loadB hE 2 rfl rfl rfl ty31) rfl ?_; clear hE a; intro a hE
      refine WL.vS hS hE (runs_plain rfl) (Gives.p hE rfl) rfl ?_; clear hE a; intro a hE
      obtain ⟨x86, hx87, hq52⟩ := bindS hq52
      obtain ⟨hi88, hlt89, hy90⟩ := gx_some hx87
      obtain ⟨vs91, hl92, hR93, hd94, hget95⟩ := h_v1.at hy90
      subst hR93
      refine WL.vS hS hE (runs_plain rfl) (Gives.idx hE ((((k54 : Nat) : Int)).toNat) rfl rfl sl31 hi88 (by omega) (hS.vecAok 4 rfl (by omega : (((k54 : Nat) : Int)).toNat < y0.cancelled.length))) rfl ?_; clear hE a; intro a hE
      refine WL.vS hS hE (runs_plain rfl) (Gives.load1 hE rfl (fun w h => St.vecSees h 4 rfl ((((k54 : Nat) : Int)).toNat * 1) _ hget95) ty4) rfl ?_; clear hE a; intro a hE
      refine WL.vS hS hE (runs_plain rfl) (Gives.p hE rfl) rfl ?_; clear hE a; intro a hE
      refine WL.nil ?_
      obtain ⟨q97, hq96, hq52⟩ := bindS hq52
      refine W.cut (fun a w => ∃ (q100 : List FareBooking), ∃ (q107 : List Int), ∃ (a101 : Option Addr), ∃ (c102 : Nat), ∃ (n104 : Nat), ∃ (cs105 : List Value), ∃ (a108 : Option Addr), ∃ (c109 : Nat), ∃ (s98 : Sg), s61.Le s98 ∧ (q100, q107) = q97 ∧ Ev 4 RFareBooking s98 cs105 q100 ∧ q100.length = n104 ∧ Sl 1 (RI .i64) s98 a108 c109 q107 ∧ Rep a 34 [(0, .pointer (some ⟨pb0, 0, none⟩)), (3, .slice a101 n104 c102), (9, .slice a_v0 y0.bookings.length c_v0), (10, .int .i64 ((y0.bookings.length : Nat) : Int)), (11, .int .i64 ((k54 : Nat) : Int))] ∧ St w s98 (pt b85 (.cells #[.int .i64 x72.No, .int .i64 x72.From, .int .i64 x72.To, .slice a108 q107.length c109] 39 (0, 0)) :: vecC 39 4 a101 c102 n104 cs105 :: pt pb0 (.cells #[.int .i64 y0.rows, .int .i64 y0.across, .int .i64 y0.stops, .slice a_v0 y0.bookings.length c_v0, .slice a_v1 y0.cancelled.length c_v1] 48 (0, 0)) :: vecC 39 4 a_v0 c_v0 y0.bookings.length cs_v0 :: vecC 4 1 a_v1 c_v1 y0.cancelled.length cs_v1 :: R)) ?_ ?_
      · refine W.gen fun K111 hK111 => ?_
        refine W.cond hE rfl (fun hc112 => ?_) (fun hc112 => ?_)
        · replace hq96 := iteT hc112 hq96
          refine W.seq ?_
          refine W.region ?_
          refine WL.vS hS hE (runs_plain rfl) (Gives.fld hE rfl fl39_3) rfl ?_; clear hE a; intro a hE
          refine WL.vS hS hE (runs_plain rfl) (Gives.loadB hE 0 rfl rfl rfl ty22) rfl ?_; clear hE a; intro a hE
          obtain ⟨q113, hq114, hq96⟩ := bindS hq96
          have hc_ := SlicesCloneLint_ok hS h84 hq114
          refine WL.fnq hE (hc_) (runs_plain rfl) bd24 rfl rfl rfl ?_
          clear hE hS hc_; rintro e w ⟨a115, c116, n117, cs118, rfl, h119, rfl, hS⟩; refine ⟨_, rfl, ?_⟩; clear a; intro a hE
          refine WL.vS hS hE (runs_plain rfl) (Gives.fld hE rfl fl39_3) rfl ?_; clear hE a; intro a hE
          refine WL.storeI hE hS 1 rfl [.int .i64 x72.No, .int .i64 x72.From, .int .i64 x72.To, .slice a115 q113.length c116] (runs_plain rfl) rfl rfl rfl ty22 rfl rfl rfl rfl ?_; clear hE hS a w; intro a w hE hS
          refine WL.nil ?_
          refine W.region ?_
          refine WL.vS hS hE (runs_plain rfl) (Gives.p hE rfl) rfl ?_; clear hE a; intro a hE
          refine WL.vS hS hE (runs_plain rfl) (Gives.loadBA hE 1 rfl rfl ty39) rfl ?_; clear hE a; intro a hE
          have hF := hS.fixD RI.mono 0 rfl h119 rfl; clear hS; obtain ⟨s121, hle122, hS, h123⟩ := hF
          replace h84 := Sl.mono RI.mono hle122 h84
          replace h67 := Ev.mono RFareBooking.mono hle122 h67
          replace h_v0 := Ev.mono RFareBooking.mono hle122 h_v0
          replace h_v1 := Ev.mono RB.mono hle122 h_v1
          refine WL.lit hE hS (e := 39) (es := 4) (vs := [(0, .agg (List.toArray [.int .i64 x72.No, .int .i64 x72.From, .int .i64 x72.To, .slice a115 q113.length c116]))]) (cs := [.int .i64 x72.No, .int .i64 x72.From, .int .i64 x72.To, .slice a115 q113.length c116]) (runs_plain rfl) rfl (by kernel_rfl) rfl ?_; clear hE hS a w; intro b124 a w hE hS
          obtain ⟨x125, hx126, hq96⟩ := bindS hq96
          refine WL.appDX (kk := 48) hE hS 1 (m := 1) (runs_plain rfl) rfl rfl rfl aw30 rfl h67 rfl (xs := [(FareBooking.mk x72.No x72.From x72.To q113)]) (Ev.cons (c1 := [.int .i64 x72.No, .int .i64 x72.From, .int .i64 x72.To, .slice a115 q113.length c116]) ⟨_, _, rfl, h123⟩ rfl (Ev.nil)) rfl rfl hx126 rfl ?_; clear hE hS a w; intro a127 c128 cs129 a w h130 hE hS
          refine WL.vS hS hE (runs_plain rfl) (Gives.p hE rfl) rfl ?_; clear hE a; intro a hE
          refine WL.nil ?_
          subst hK111
          exact ⟨x125, q113, a127, c128, x125.length, cs129, a115, c116, s121, hle122, Option.some.inj hq96, h130, (rfl), h123, hE.pick _ ⟨rfl, rfl, rfl, rfl, rfl, trivial⟩, hS⟩
        · replace hq96 := iteF hc112 hq96
          refine W.skip ?_
          subst hK111
          exact ⟨q64, x72.Seats, a65, c66, q64.length, cs69, a82, c83, s61, (Sg.Le.refl _), Option.some.inj hq96, h67, rfl, h84, hE.pick _ ⟨rfl, rfl, rfl, rfl, rfl, trivial⟩, hS⟩
      · clear hE hS a w; rintro a w ⟨q100, q107, a101, c102, n104, cs105, a108, c109, s98, hle99, rfl, h103, rfl, h110, hE, hS⟩
        dsimp only at hq52
        replace h84 := Sl.mono RI.mono hle99 h84
        replace h67 := Ev.mono RFareBooking.mono hle99 h67
        replace h_v0 := Ev.mono RFareBooking.mono hle99 h_v0
        replace h_v1 := Ev.mono RB.mono hle99 h_v1
        refine W.region ?_
        refine WL.vS hS hE (runs_plain rfl) (Gives.inc hE rfl (by omega)) rfl ?_; clear hE a; intro a hE
        refine WL.vS hS hE (runs_plain rfl) (Gives.p hE rfl) rfl ?_; clear hE a; intro a hE
        refine WL.nil ?_
        replace hS := hS.tail
        subst hK71
        exact ⟨rest56, Nat.lt_succ_self _, rest56, k54 + 1, q100, a101, c102, q100.length, cs105, s98, rfl, (by omega), (Sg.Le.trans hle62 hle99), hq52, h103, rfl, hE.pick _ ⟨rfl, rfl, rfl, rfl, rfl, trivial⟩, hS⟩
  · clear hE hS a w; rintro a w ⟨q64, a65, c66, n68, cs69, s61, hle62, rfl, h67, rfl, hE, hS⟩
    replace h_v0 := Ev.mono RFareBooking.mono hle62 h_v0
    replace h_v1 := Ev.mono RB.mono hle62 h_v1
    refine W.seq ?_
    refine W.region ?_
    refine WL.vS hS hE (runs_plain rfl) (Gives.p hE rfl) rfl ?_; clear hE a; intro a hE
    refine WL.vS hS hE (runs_plain rfl) (Gives.p hE rfl) rfl ?_; clear hE a; intro a hE
    refine WL.nil ?_
    refine W.ret ?_
    refine finG (fn := Try.f16) (rs := [.tmp 2]) (vs := [_]) hE rfl ⟨rfl, trivial⟩ ?_
    obtain rfl := Option.some.inj hr
    exact ⟨a65, c66, q64.length, cs69, s61, rfl, hle62, h67, rfl, hS⟩
set_option maxHeartbeats 8000000 in
theorem Fishref2CarBookings_v1_ok  {w : World} {s : Sg} {R : List HP} {pb0 : Nat} {y0 : Fishref2Car} {a_v0 : Option Addr} {c_v0 n_v0 : Nat} {cs_v0 : List Value} {a_v1 : Option Addr} {c_v1 n_v1 : Nat} {cs_v1 : List Value} (hS : St w s (pt pb0 (.cells #[.int .i64 y0.Rows, .int .i64 y0.Across, .int .i64 y0.Stops, .slice a_v0 n_v0 c_v0, .slice a_v1 n_v1 c_v1] 33 (0, 0)) :: vecC 39 4 a_v0 c_v0 n_v0 cs_v0 :: vecC 4 1 a_v1 c_v1 n_v1 cs_v1 :: R)) (h_v0 : Ev 4 RFareBooking s cs_v0 y0.All) (hn_v0 : y0.All.length = n_v0) (h_v1 : Ev 1 RB s cs_v1 y0.Gone) (hn_v1 : y0.Gone.length = n_v1) {r : (List FareBooking)} (hr : Fishref2CarBookings_v1 y0 = some r) :
    Calls Try.prog 17 [.pointer (some ⟨pb0, 0, none⟩)].toArray w (fun e w => ∃ (a0 : Option Addr) (c0 n0 : Nat) (cs0 : List Value), e = .returned (.slice a0 n0 c0) ∧ Ev 4 RFareBooking s cs0 r ∧ r.length = n0 ∧ St w s (vecC 39 4 a0 c0 n0 cs0 :: pt pb0 (.cells #[.int .i64 y0.Rows, .int .i64 y0.Across, .int .i64 y0.Stops, .slice a_v0 n_v0 c_v0, .slice a_v1 n_v1 c_v1] 33 (0, 0)) :: vecC 39 4 a_v0 c_v0 n_v0 cs_v0 :: vecC 4 1 a_v1 c_v1 n_v1 cs_v1 :: R)) := by
  refine enter Try.func17 rfl rfl rfl fun a hE => ?_
  rw [Fishref2CarBookings_v1] at hr
  subst hn_v0
  subst hn_v1
  refine W.seq ?_
  refine W.region ?_
  refine WL.vS hS hE (runs_plain rfl) (Gives.p hE rfl) rfl ?_; clear hE a; intro a hE
  refine WL.nil ?_
  refine W.seq ?_
  refine W.region ?_
  replace hS := hS.vecNil 39 4
  refine WL.vS hS hE (runs_plain rfl) (Gives.p hE rfl) rfl ?_; clear hE a; intro a hE
  refine WL.nil ?_
  refine W.seq ?_
  refine W.seq ?_
  refine W.region ?_
  refine WL.vS hS hE (runs_plain rfl) (Gives.p hE rfl) rfl ?_; clear hE a; intro a hE
  refine WL.vS hS hE (runs_plain rfl) (Gives.nilOk hE rfl) rfl ?_; clear hE a; intro a hE
  refine WL.vS hS hE (runs_plain rfl) (Gives.fld hE rfl fl33_3) rfl ?_; clear hE a; intro a hE
  refine WL.vS hS hE (runs_plain rfl) (Gives.loadB hE 1 rfl rfl rfl ty30) rfl ?_; clear hE a; intro a hE
  refine WL.vS hS hE (runs_plain rfl) (Gives.len hE rfl sl30) rfl ?_; clear hE a; intro a hE
  refine WL.vS hS hE (runs_plain rfl) (Gives.p hE rfl) rfl ?_; clear hE a; intro a hE
  refine WL.nil ?_
  have hb63 : y0.All.length ≤ 9223372036854775807 := by have := hS.vecCap 2 rfl; unfold maxLen at this; omega
  obtain ⟨q53, hq52, hr⟩ := bindS hr
  refine W.cut (fun a w => ∃ (q64 : List FareBooking), ∃ (a65 : Option Addr), ∃ (c66 : Nat), ∃ (n68 : Nat), ∃ (cs69 : List Value), q64 = q53 ∧ Ev 4 RFareBooking s cs69 q64 ∧ q64.length = n68 ∧ Rep a 30 [(3, .slice a65 n68 c66)] ∧ St w s (vecC 39 4 a65 c66 n68 cs69 :: pt pb0 (.cells #[.int .i64 y0.Rows, .int .i64 y0.Across, .int .i64 y0.Stops, .slice a_v0 y0.All.length c_v0, .slice a_v1 y0.Gone.length c_v1] 33 (0, 0)) :: vecC 39 4 a_v0 c_v0 y0.All.length cs_v0 :: vecC 4 1 a_v1 c_v1 y0.Gone.length cs_v1 :: R)) ?_ ?_
  · refine W.block ?_
    refine W.loop (fun m a w => ∃ (rest56 : Nat) (k54 : Nat), ∃ (q64 : List FareBooking), ∃ (a65 : Option Addr), ∃ (c66 : Nat), ∃ (n68 : Nat), ∃ (cs69 : List Value), rest56 = m ∧ k54 + rest56 = y0.All.length ∧ Fishref2CarBookings_v1.loop1 y0 rest56 k54 q64 = some q53 ∧ Ev 4 RFareBooking s cs69 q64 ∧ q64.length = n68 ∧ Rep a 30 [(0, .pointer (some ⟨pb0, 0, none⟩)), (3, .slice a65 n68 c66), (9, .slice a_v0 y0.All.length c_v0), (10, .int .i64 ((y0.All.length : Nat) : Int)), (11, .int .i64 ((k54 : Nat) : Int))] ∧ St w s (vecC 39 4 a65 c66 n68 cs69 :: pt pb0 (.cells #[.int .i64 y0.Rows, .int .i64 y0.Across, .int .i64 y0.Stops, .slice a_v0 y0.All.length c_v0, .slice a_v1 y0.Gone.length c_v1] 33 (0, 0)) :: vecC 39 4 a_v0 c_v0 y0.All.length cs_v0 :: vecC 4 1 a_v1 c_v1 y0.Gone.length cs_v1 :: R)) (m := y0.All.length) ⟨y0.All.length, 0, [], none, 0, 0, [], rfl, by omega, hq52, (Ev.nil), (rfl), hE.pick _ ⟨rfl, rfl, rfl, rfl, rfl, trivial⟩, hS⟩ ?_
    clear hE hS a w hq52; rintro m60 a w ⟨rest56, k54, q64, a65, c66, n68, cs69, rfl, hd57, hq52, h67, rfl, hE, hS⟩
    refine W.gen fun K71 hK71 => ?_
    rcases rest56 with _ | rest56
    · skip
      refine W.seq ?_
      refine W.region ?_
      refine WL.vS hS hE (runs_plain rfl) (Gives.p hE rfl) rfl ?_; clear hE a; intro a hE
      refine WL.nil ?_
      refine W.seq ?_
      refine W.condF hE rfl (decide_eq_false (by omega)) ?_
      subst hK71
      refine W.exit rfl ?_
      exact ⟨q64, a65, c66, q64.length, cs69, Option.some.inj hq52, h67, rfl, hE.pick _ ⟨rfl, trivial⟩, hS⟩
    · have hlt58 : k54 < y0.All.length := by omega
      rw [Fishref2CarBookings_v1.loop1] at hq52
      refine W.seq ?_
      refine W.region ?_
      refine WL.vS hS hE (runs_plain rfl) (Gives.p hE rfl) rfl ?_; clear hE a; intro a hE
      refine WL.nil ?_
      refine W.seq ?_
      refine W.condT hE rfl (decide_eq_true (by omega)) ?_
      refine W.skip ?_
      refine W.seq ?_
      refine W.block ?_
      refine W.seq ?_
      refine W.region ?_
      refine WL.vS hS hE (runs_plain rfl) (Gives.p hE rfl) rfl ?_; clear hE a; intro a hE
      obtain ⟨x72, hx73, hq52⟩ := bindS hq52
      obtain ⟨hi74, hlt75, hy76⟩ := gx_some hx73
      obtain ⟨vs77, hl78, hR79, hd80, hget81⟩ := h_v0.at hy76
      obtain ⟨a82, c83, rfl, h84⟩ := hR79
      refine WL.vS hS hE (runs_plain rfl) (Gives.idx hE ((((k54 : Nat) : Int)).toNat) rfl rfl sl30 hi74 (by omega) (hS.vecAok 2 rfl (by omega : (((k54 : Nat) : Int)).toNat < y0.All.length))) rfl ?_; clear hE a; intro a hE
      refine WL.vS hS hE (runs_plain rfl) (Gives.loadA hE rfl (fun w h => St.vecSees h 2 rfl ((((k54 : Nat) : Int)).toNat * 4) _ hget81) ty39) rfl ?_; clear hE a; intro a hE
      refine WL.alloc hE hS (runs_plain rfl) zr39 rfl ?_; clear hE hS a w; intro b85 a w hE hS
      refine WL.vS hS hE (runs_plain rfl) (Gives.p hE rfl) rfl ?_; clear hE a; intro a hE
      refine WL.storeI hE hS 0 rfl [.int .i64 x72.No, .int .i64 x72.From, .int .i64 x72.To, .slice a82 x72.Seats.length c83] (runs_plain rfl) rfl rfl rfl ty39 rfl rfl rfl rfl ?_; clear hE hS a w; intro a w hE hS
      refine WL.nil ?_
      refine W.seq ?_
      refine W.region ?_
      refine WL.vS hS hE (runs_plain rfl) (Gives.p hE rfl) rfl ?_; clear hE a; intro a hE
      refine WL.vS hS hE (runs_plain rfl) (Gives.nilOk hE rfl) rfl ?_; clear hE a; intro a hE
      refine WL.vS hS hE (runs_plain rfl) (Gives.fld hE rfl fl33_4) rfl ?_; clear hE a; intro a hE
      refine WL.vS hS hE (runs_plain rfl) (Gives.loadB hE 2 rfl rfl rfl ty31) rfl ?_; clear hE a; intro a hE
      refine WL.vS hS hE (runs_plain rfl) (Gives.p hE rfl) rfl ?_; clear hE a; intro a hE
      obtain ⟨x86, hx87, hq52⟩ := bindS hq52
      obtain ⟨hi88, hlt89, hy90⟩ := gx_some hx87
      obtain ⟨vs91, hl92, hR93, hd94, hget95⟩ := h_v1.at hy90
      subst hR93
      refine WL.vS hS hE (runs_plain rfl) (Gives.idx hE ((((k54 : Nat) : Int)).toNat) rfl rfl sl31 hi88 (by omega) (hS.vecAok 4 rfl (by omega : (((k54 : Nat) : Int)).toNat < y0.Gone.length))) rfl ?_; clear hE a; intro a hE
      refine WL.vS hS hE (runs_plain rfl) (Gives.load1 hE rfl (fun w h => St.vecSees h 4 rfl ((((k54 : Nat) : Int)).toNat * 1) _ hget95) ty4) rfl ?_; clear hE a; intro a hE
      refine WL.vS hS hE (runs_plain rfl) (Gives.p hE rfl) rfl ?_; clear hE a; intro a hE
      refine WL.nil ?_
      obtain ⟨q97, hq96, hq52⟩ := bindS hq52
      refine W.cut (fun a w => ∃ (q100 : List FareBooking), ∃ (a101 : Option Addr), ∃ (c102 : Nat), ∃ (n104 : Nat), ∃ (cs105 : List Value), q100 = q97 ∧ Ev 4 RFareBooking s cs105 q100 ∧ q100.length = n104 ∧ Rep a 30 [(0, .pointer (some ⟨pb0, 0, none⟩)), (3, .slice a101 n104 c102), (9, .slice a_v0 y0.All.length c_v0), (10, .int .i64 ((y0.All.length : Nat) : Int)), (11, .int .i64 ((k54 : Nat) : Int))] ∧ St w s (pt b85 (.cells #[.int .i64 x72.No, .int .i64 x72.From, .int .i64 x72.To, .slice a82 x72.Seats.length c83] 39 (0, 0)) :: vecC 39 4 a101 c102 n104 cs105 :: pt pb0 (.cells #[.int .i64 y0.Rows, .int .i64 y0.Across, .int .i64 y0.Stops, .slice a_v0 y0.All.length c_v0, .slice a_v1 y0.Gone.length c_v1] 33 (0, 0)) :: vecC 39 4 a_v0 c_v0 y0.All.length cs_v0 :: vecC 4 1 a_v1 c_v1 y0.Gone.length cs_v1 :: R)) ?_ ?_
      · refine W.gen fun K107 hK107 => ?_
        refine W.cond hE rfl (fun hc108 => ?_) (fun hc108 => ?_)
        · replace hq96 := iteT hc108 hq96
          refine W.region ?_
          refine WL.vS hS hE (runs_plain rfl) (Gives.p hE rfl) rfl ?_; clear hE a; intro a hE
          refine WL.vS hS hE (runs_plain rfl) (Gives.loadBA hE 0 rfl rfl ty39) rfl ?_; clear hE a; intro a hE
          refine WL.lit hE hS (e := 39) (es := 4) (vs := [(0, .agg (List.toArray [.int .i64 x72.No, .int .i64 x72.From, .int .i64 x72.To, .slice a82 x72.Seats.length c83]))]) (cs := [.int .i64 x72.No, .int .i64 x72.From, .int .i64 x72.To, .slice a82 x72.Seats.length c83]) (runs_plain rfl) rfl (by kernel_rfl) rfl ?_; clear hE hS a w; intro b109 a w hE hS
          obtain ⟨x110, hx111, hq96⟩ := bindS hq96
          refine WL.appDX (kk := 48) hE hS 1 (m := 1) (runs_plain rfl) rfl rfl rfl aw30 rfl h67 rfl (xs := [x72]) (Ev.cons (c1 := [.int .i64 x72.No, .int .i64 x72.From, .int .i64 x72.To, .slice a82 x72.Seats.length c83]) ⟨_, _, rfl, h84⟩ rfl (Ev.nil)) rfl rfl hx111 rfl ?_; clear hE hS a w; intro a112 c113 cs114 a w h115 hE hS
          refine WL.vS hS hE (runs_plain rfl) (Gives.p hE rfl) rfl ?_; clear hE a; intro a hE
          refine WL.nil ?_
          subst hK107
          exact ⟨x110, a112, c113, x110.length, cs114, Option.some.inj hq96, h115, (rfl), hE.pick _ ⟨rfl, rfl, rfl, rfl, rfl, trivial⟩, hS⟩
        · replace hq96 := iteF hc108 hq96
          refine W.skip ?_
          subst hK107
          exact ⟨q64, a65, c66, q64.length, cs69, Option.some.inj hq96, h67, rfl, hE.pick _ ⟨rfl, rfl, rfl, rfl, rfl, trivial⟩, hS⟩
      · clear hE hS a w; rintro a w ⟨q100, a101, c102, n104, cs105, rfl, h103, rfl, hE, hS⟩
        refine W.region ?_
        refine WL.vS hS hE (runs_plain rfl) (Gives.inc hE rfl (by omega)) rfl ?_; clear hE a; intro a hE
        refine WL.vS hS hE (runs_plain rfl) (Gives.p hE rfl) rfl ?_; clear hE a; intro a hE
        refine WL.nil ?_
        replace hS := hS.tail
        subst hK71
        exact ⟨rest56, Nat.lt_succ_self _, rest56, k54 + 1, q100, a101, c102, q100.length, cs105, rfl, (by omega), hq52, h103, rfl, hE.pick _ ⟨rfl, rfl, rfl, rfl, rfl, trivial⟩, hS⟩
  · clear hE hS a w; rintro a w ⟨q64, a65, c66, n68, cs69, rfl, h67, rfl, hE, hS⟩
    refine W.seq ?_
    refine W.region ?_
    refine WL.vS hS hE (runs_plain rfl) (Gives.p hE rfl) rfl ?_; clear hE a; intro a hE
    refine WL.vS hS hE (runs_plain rfl) (Gives.p hE rfl) rfl ?_; clear hE a; intro a hE
    refine WL.nil ?_
    refine W.ret ?_
    refine finG (fn := Try.f17) (rs := [.tmp 2]) (vs := [_]) hE rfl ⟨rfl, trivial⟩ ?_
    obtain rfl := Option.some.inj hr
    exact ⟨a65, c66, q64.length, cs69, rfl, h67, rfl, hS⟩
set_option maxHeartbeats 8000000 in
theorem SlicesEqualFuncLfareBooking_v1_ok  {w : World} {s : Sg} {R : List HP} {x0 : List FareBooking} {a0 : Option Addr} {c0 : Nat} {x1 : List FareBooking} {a1 : Option Addr} {c1 : Nat} (hS : St w s (R)) (h0 : Sl 4 RFareBooking s a0 c0 x0) (h1 : Sl 4 RFareBooking s a1 c1 x1) {r : Bool} (hr : SlicesEqualFuncLfareBooking_v1 x0 x1 = some r) :
    Calls Try.prog 15 [.slice a0 x0.length c0, .slice a1 x1.length c1, .func (.func 14) #[] #[]].toArray w (fun e w => e = .returned (.bool r) ∧ St w s (R)) := by
  refine enter Try.func15 rfl rfl rfl fun a hE => ?_
  rw [SlicesEqualFuncLfareBooking_v1] at hr
  refine W.seq ?_
  refine W.region ?_
  refine WL.vS hS hE (runs_plain rfl) (Gives.p hE rfl) rfl ?_; clear hE a; intro a hE
  refine WL.nil ?_
  refine W.seq ?_
  refine W.seq ?_
  refine W.region ?_
  refine WL.vS hS hE (runs_plain rfl) (Gives.p hE rfl) rfl ?_; clear hE a; intro a hE
  refine WL.vS hS hE (runs_plain rfl) (Gives.len hE rfl sl30) rfl ?_; clear hE a; intro a hE
  refine WL.vS hS hE (runs_plain rfl) (Gives.p hE rfl) rfl ?_; clear hE a; intro a hE
  refine WL.vS hS hE (runs_plain rfl) (Gives.len hE rfl sl30) rfl ?_; clear hE a; intro a hE
  refine WL.vS hS hE (runs_plain rfl) (Gives.p hE rfl) rfl ?_; clear hE a; intro a hE
  refine WL.nil ?_
  refine W.cond hE rfl (fun hc51 => ?_) (fun hc51 => ?_)
  · replace hr := iteT hc51 hr
    refine W.seq ?_
    refine W.region ?_
    refine WL.vS hS hE (runs_plain rfl) (Gives.p hE rfl) rfl ?_; clear hE a; intro a hE
    refine WL.nil ?_
    refine W.ret ?_
    refine finG (fn := Try.f15) (rs := [.tmp 6]) (vs := [_]) hE rfl ⟨rfl, trivial⟩ ?_
    obtain rfl := Option.some.inj hr
    exact ⟨rfl, hS⟩
  · replace hr := iteF hc51 hr
    refine W.skip ?_
    refine W.seq ?_
    refine W.seq ?_
    refine W.region ?_
    refine WL.vS hS hE (runs_plain rfl) (Gives.p hE rfl) rfl ?_; clear hE a; intro a hE
    refine WL.vS hS hE (runs_plain rfl) (Gives.len hE rfl sl30) rfl ?_; clear hE a; intro a hE
    refine WL.vS hS hE (runs_plain rfl) (Gives.p hE rfl) rfl ?_; clear hE a; intro a hE
    refine WL.nil ?_
    obtain ⟨q53, hq52, hr⟩ := bindS hr
    refine W.cut (fun a w => (.next ()) = q53 ∧ Rep a 32 [] ∧ St w s (R)) ?_ ?_
    · refine W.block ?_
      refine W.loop (fun m a w => ∃ (rest56 : List FareBooking) (k54 : Nat), rest56.length = m ∧ x0.drop k54 = rest56 ∧ SlicesEqualFuncLfareBooking_v1.loop1 x1 rest56 k54 = some q53 ∧ Rep a 32 [(1, .slice a1 x1.length c1), (2, .func (.func 14) #[] #[]), (15, .slice a0 x0.length c0), (16, .int .i64 ((x0).length : Int)), (17, .int .i64 ((k54 : Nat) : Int))] ∧ St w s (R)) (m := x0.length) ⟨x0, 0, rfl, rfl, hq52, hE.pick _ ⟨rfl, rfl, rfl, rfl, rfl, trivial⟩, hS⟩ ?_
      clear hE hS a w hq52; rintro m60 a w ⟨rest56, k54, rfl, hd57, hq52, hE, hS⟩
      refine W.gen fun K63 hK63 => ?_
      rcases rest56 with _ | ⟨x55, rest56⟩
      · have hlt58 := drop_nil hd57
        refine W.seq ?_
        refine W.region ?_
        refine WL.vS hS hE (runs_plain rfl) (Gives.p hE rfl) rfl ?_; clear hE a; intro a hE
        refine WL.nil ?_
        refine W.seq ?_
        refine W.condF hE rfl (decide_eq_false (by omega)) ?_
        subst hK63
        refine W.exit rfl ?_
        exact ⟨Option.some.inj hq52, hE.pick _ trivial, hS⟩
      · obtain ⟨hlt58, hx59, hd57⟩ := drop_cons hd57
        rw [SlicesEqualFuncLfareBooking_v1.loop1] at hq52
        refine W.seq ?_
        refine W.region ?_
        refine WL.vS hS hE (runs_plain rfl) (Gives.p hE rfl) rfl ?_; clear hE a; intro a hE
        refine WL.nil ?_
        refine W.seq ?_
        refine W.condT hE rfl (decide_eq_true (by omega)) ?_
        refine W.skip ?_
        refine W.seq ?_
        refine W.block ?_
        refine W.seq ?_
        refine W.region ?_
        refine WL.vS hS hE (runs_plain rfl) (Gives.p hE rfl) rfl ?_; clear hE a; intro a hE
        obtain ⟨cs64, hl65, hR66, hat67⟩ := h0.at hx59
        obtain ⟨a68, c69, rfl, h70⟩ := hR66
        refine WL.vS hS hE (runs_plain rfl) (Gives.idx hE k54 rfl rfl sl30 rfl hlt58 (h0.aok hlt58)) rfl ?_; clear hE a; intro a hE
        refine WL.vS hS hE (runs_plain rfl) (Gives.loadA hE rfl (fun w h => hat67 w _ h) ty39) rfl ?_; clear hE a; intro a hE
        refine WL.alloc hE hS (runs_plain rfl) zr39 rfl ?_; clear hE hS a w; intro b71 a w hE hS
        refine WL.vS hS hE (runs_plain rfl) (Gives.p hE rfl) rfl ?_; clear hE a; intro a hE
        refine WL.storeI hE hS 0 rfl [.int .i64 x55.No, .int .i64 x55.From, .int .i64 x55.To, .slice a68 x55.Seats.length c69] (runs_plain rfl) rfl rfl rfl ty39 rfl rfl rfl rfl ?_; clear hE hS a w; intro a w hE hS
        refine WL.nil ?_
        refine W.seq ?_
        refine W.region ?_
        refine WL.vS hS hE (runs_plain rfl) (Gives.p hE rfl) rfl ?_; clear hE a; intro a hE
        refine WL.vS hS hE (runs_plain rfl) (Gives.p hE rfl) rfl ?_; clear hE a; intro a hE
        obtain ⟨x72, hx73, hq52⟩ := bindS hq52
        obtain ⟨hi74, hlt75, hy76⟩ := gx_some hx73
        obtain ⟨cs77, hl78, hR79, hat80⟩ := h1.at hy76
        obtain ⟨a81, c82, rfl, h83⟩ := hR79
        refine WL.vS hS hE (runs_plain rfl) (Gives.idx hE (((k54 : Nat) : Int)).toNat rfl rfl sl30 hi74 hlt75 (h1.aok hlt75)) rfl ?_; clear hE a; intro a hE
        refine WL.vS hS hE (runs_plain rfl) (Gives.loadA hE rfl (fun w h => hat80 w _ h) ty39) rfl ?_; clear hE a; intro a hE
        refine WL.alloc hE hS (runs_plain rfl) zr39 rfl ?_; clear hE hS a w; intro b84 a w hE hS
        refine WL.storeI hE hS 0 rfl [.int .i64 x72.No, .int .i64 x72.From, .int .i64 x72.To, .slice a81 x72.Seats.length c82] (runs_plain rfl) rfl rfl rfl ty39 rfl rfl rfl rfl ?_; clear hE hS a w; intro a w hE hS
        refine WL.nil ?_
        refine W.seq ?_
        refine W.region ?_
        refine WL.vS hS hE (runs_plain rfl) (Gives.p hE rfl) rfl ?_; clear hE a; intro a hE
        refine WL.vS hS hE (runs_plain rfl) (Gives.loadBA hE 1 rfl rfl ty39) rfl ?_; clear hE a; intro a hE
        refine WL.vS hS hE (runs_plain rfl) (Gives.loadBA hE 0 rfl rfl ty39) rfl ?_; clear hE a; intro a hE
        obtain ⟨q85, hq86, hq52⟩ := bindS hq52
        have hc_ := Fishref2SameBooking_ok hS h70 h83 hq86
        refine WL.fnw hE (hc_) rfl (runs_plain rfl) bd14 rfl rfl rfl ?_
        clear hE hS hc_; rintro e w ⟨rfl, hS⟩; refine ⟨_, rfl, ?_⟩; clear a; intro a hE
        refine WL.vS hS hE (runs_plain rfl) (Gives.p hE rfl) rfl ?_; clear hE a; intro a hE
        refine WL.nil ?_
        refine W.cond hE rfl (fun hc87 => ?_) (fun hc87 => ?_)
        · replace hq52 := iteT hc87 hq52
          refine W.seq ?_
          refine W.region ?_
          refine WL.vS hS hE (runs_plain rfl) (Gives.p hE rfl) rfl ?_; clear hE a; intro a hE
          refine WL.nil ?_
          refine W.ret ?_
          subst hK63
          rw [← Option.some.inj hq52] at hr
          dsimp only at hr
          refine finG (fn := Try.f15) (rs := [.tmp 6]) (vs := [_]) hE rfl ⟨rfl, trivial⟩ ?_
          obtain rfl := Option.some.inj hr
          replace hS := hS.tail
          replace hS := hS.tail
          exact ⟨rfl, hS⟩
        · replace hq52 := iteF hc87 hq52
          refine W.skip ?_
          refine W.region ?_
          refine WL.vS hS hE (runs_plain rfl) (Gives.inc hE rfl (by have := h0.small; omega)) rfl ?_; clear hE a; intro a hE
          refine WL.vS hS hE (runs_plain rfl) (Gives.p hE rfl) rfl ?_; clear hE a; intro a hE
          refine WL.nil ?_
          replace hS := hS.tail
          replace hS := hS.tail
          subst hK63
          exact ⟨rest56.length, Nat.lt_succ_self _, rest56, k54 + 1, rfl, hd57, hq52, hE.pick _ ⟨rfl, rfl, rfl, rfl, rfl, trivial⟩, hS⟩
    · clear hE hS a w; rintro a w ⟨rfl, hE, hS⟩
      dsimp only at hr
      refine W.seq ?_
      refine W.region ?_
      refine WL.vS hS hE (runs_plain rfl) (Gives.p hE rfl) rfl ?_; clear hE a; intro a hE
      refine WL.nil ?_
      refine W.ret ?_
      refine finG (fn := Try.f15) (rs := [.tmp 6]) (vs := [_]) hE rfl ⟨rfl, trivial⟩ ?_
      obtain rfl := Option.some.inj hr
      exact ⟨rfl, hS⟩
set_option maxHeartbeats 8000000 in
theorem Fishlaw2FareCars_ok {fu : Nat}  {w : World} {s : Sg} {R : List HP} {x0 : Int} {x1 : Int} {x2 : Int} {x3 : List Int} {a3 : Option Addr} {c3 : Nat} (hS : St w s (R)) (h3 : Sl 1 (RI .i64) s a3 c3 x3) {r : Bool} (hr : Fishlaw2FareCars fu x0 x1 x2 x3 = some r) :
    Calls Try.prog 3 [.int .i64 x0, .int .i64 x1, .int .i64 x2, .slice a3 x3.length c3].toArray w (fun e w => e = .returned (.bool r) ∧ St w s (R)) := by
  refine enter Try.func3 rfl rfl rfl fun a hE => ?_
  rw [Fishlaw2FareCars] at hr
  refine W.seq ?_
  refine W.region ?_
  refine WL.vS hS hE (runs_plain rfl) (Gives.p hE rfl) rfl ?_; clear hE a; intro a hE
  refine WL.nil ?_
  refine W.seq ?_
  refine W.region ?_
  refine WL.vS hS hE (runs_plain rfl) (Gives.p hE rfl) rfl ?_; clear hE a; intro a hE
  refine WL.vS hS hE (runs_plain rfl) (Gives.p hE rfl) rfl ?_; clear hE a; intro a hE
  refine WL.vS hS hE (runs_plain rfl) (Gives.p hE rfl) rfl ?_; clear hE a; intro a hE
  obtain ⟨q51, hq52, hr⟩ := bndS hr
  have hc_ := FareNewCar_ok hS  hq52
  refine WL.fnq hE (hc_) (runs_plain rfl) bd4 rfl rfl rfl ?_
  clear hE hS hc_; rintro e w (⟨s55, hz53, rfl, hle56, hS⟩ | ⟨d57, b58, a59, c60, n61, cs62, a65, c66, n67, cs68, s55, hz54, rfl, hle56, h63, rfl, h69, rfl, hS⟩)
  · refine ⟨_, rfl, ?_⟩; clear a; intro a hE
    replace h3 := Sl.mono RI.mono hle56 h3
    rw [hz53] at hr; dsimp only at hr
    refine WL.vS hS hE (runs_plain rfl) (Gives.p hE rfl) rfl ?_; clear hE a; intro a hE
    refine WL.vS hS hE (runs_plain rfl) (Gives.p hE rfl) rfl ?_; clear hE a; intro a hE
    refine WL.vS hS hE (runs_plain rfl) (Gives.p hE rfl) rfl ?_; clear hE a; intro a hE
    refine WL.vS hS hE (runs_plain rfl) (Gives.p hE rfl) rfl ?_; clear hE a; intro a hE
    refine WL.vS hS hE (runs_plain rfl) (Gives.p hE rfl) rfl ?_; clear hE a; intro a hE
    refine WL.nil ?_
    refine W.seq ?_
    refine W.region ?_
    refine WL.vS hS hE (runs_plain rfl) (Gives.p hE rfl) rfl ?_; clear hE a; intro a hE
    refine WL.vS hS hE (runs_plain rfl) (Gives.p hE rfl) rfl ?_; clear hE a; intro a hE
    refine WL.vS hS hE (runs_plain rfl) (Gives.p hE rfl) rfl ?_; clear hE a; intro a hE
    refine WL.fnq hE (Fishref2CarFault_ok hS  rfl (r := Fishref2CarFault x0 x1 x2)) (runs_plain rfl) bd5 rfl rfl rfl ?_
    clear hE hS; rintro e w ⟨rfl, hS⟩; refine ⟨_, rfl, ?_⟩; clear a; intro a hE
    refine WL.vS hS hE (runs_plain rfl) (Gives.p hE rfl) rfl ?_; clear hE a; intro a hE
    refine WL.nil ?_
    refine W.seq ?_
    refine W.seq ?_
    obtain ⟨q72, hq71, hr⟩ := bindS hr
    refine W.cut (fun a w => ∃ (q75 : Bool), q75 = q72 ∧ Rep a 135 [(0, .int .i64 x0), (1, .int .i64 x1), (2, .int .i64 x2), (3, .slice a3 x3.length c3), (9, .pointer none), (11, .int .i64 (Fishref2CarFault x0 x1 x2)), (42, .bool q75)] ∧ St w s55 (R)) ?_ ?_
    · refine W.gen fun K76 hK76 => ?_
      refine W.region ?_
      obtain ⟨q77, hq78, hq71⟩ := bindS hq71
      have hc_ := Fishlaw2seats_ok hS  hq78
      refine WL.fnq hE (hc_) (runs_plain rfl) bd6 rfl rfl rfl ?_
      clear hE hS hc_; rintro e w ⟨rfl, hS⟩; refine ⟨_, rfl, ?_⟩; clear a; intro a hE
      refine WL.vS hS hE (runs_plain rfl) (Gives.p hE rfl) rfl ?_; clear hE a; intro a hE
      refine WL.vS hS hE (runs_plain rfl) (Gives.p hE rfl) rfl ?_; clear hE a; intro a hE
      rcases Bool.eq_false_or_eq_true !q77 with hg79 | hg79
      · replace hq71 := iteT hg79 hq71
        refine WL.no hE (runs_not hE rfl rfl rfl (by rw [hg79]; decide)) rfl ?_; clear hE a; intro a hE
        refine WL.no hE (runs_not hE rfl rfl rfl (by rw [hg79]; decide)) rfl ?_; clear hE a; intro a hE
        refine WL.no hE (runs_not hE rfl rfl rfl (by rw [hg79]; decide)) rfl ?_; clear hE a; intro a hE
        refine WL.vS hS hE (runs_plain rfl) (Gives.pickT hE rfl hg79 rfl) rfl ?_; clear hE a; intro a hE
        refine WL.nil ?_
        subst hK76
        exact ⟨true, Option.some.inj hq71, hE.pick _ ⟨rfl, rfl, rfl, rfl, rfl, rfl, rfl, trivial⟩, hS⟩
      · replace hq71 := iteF hg79 hq71
        refine WL.vS hS hE (runs_if hE rfl rfl rfl hg79) (Gives.p hE rfl) rfl ?_; clear hE a; intro a hE
        refine WL.vS hS hE (runs_if hE rfl rfl rfl hg79) (Gives.p hE rfl) rfl ?_; clear hE a; intro a hE
        refine WL.vS hS hE (runs_if hE rfl rfl rfl hg79) (Gives.p hE rfl) rfl ?_; clear hE a; intro a hE
        refine WL.vS hS hE (runs_plain rfl) (Gives.pickF hE rfl hg79 rfl) rfl ?_; clear hE a; intro a hE
        refine WL.nil ?_
        subst hK76
        exact ⟨(q51.2 != (Fishref2CarFault x0 x1 x2)), Option.some.inj hq71, hE.pick _ ⟨rfl, rfl, rfl, rfl, rfl, rfl, rfl, trivial⟩, hS⟩
    · clear hE hS a w; rintro a w ⟨q75, rfl, hE, hS⟩
      refine W.cond hE rfl (fun hc80 => ?_) (fun hc80 => ?_)
      · replace hr := iteT hc80 hr
        refine W.seq ?_
        refine W.region ?_
        refine WL.vS hS hE (runs_plain rfl) (Gives.p hE rfl) rfl ?_; clear hE a; intro a hE
        refine WL.nil ?_
        refine W.ret ?_
        refine finG (fn := Try.f3) (rs := [.tmp 8]) (vs := [_]) hE rfl ⟨rfl, trivial⟩ ?_
        obtain rfl := Option.some.inj hr
        exact ⟨rfl, (hS.down hle56)⟩
      · replace hr := iteF hc80 hr
        refine W.skip ?_
        refine W.seq ?_
        refine W.seq ?_
        refine W.region ?_
        refine WL.vS hS hE (runs_plain rfl) (Gives.p hE rfl) rfl ?_; clear hE a; intro a hE
        refine WL.vS hS hE (runs_plain rfl) (Gives.p hE rfl) rfl ?_; clear hE a; intro a hE
        refine WL.nil ?_
        refine W.cond hE rfl (fun hc81 => ?_) (fun hc81 => ?_)
        · replace hr := iteT hc81 hr
          refine W.seq ?_
          refine W.region ?_
          refine WL.vS hS hE (runs_plain rfl) (Gives.p hE rfl) rfl ?_; clear hE a; intro a hE
          refine WL.vS hS hE (runs_plain rfl) (Gives.isNilP hE rfl rfl pk23) rfl ?_; clear hE a; intro a hE
          refine WL.vS hS hE (runs_plain rfl) (Gives.p hE rfl) rfl ?_; clear hE a; intro a hE
          refine WL.nil ?_
          refine W.ret ?_
          refine finG (fn := Try.f3) (rs := [.tmp 8]) (vs := [_]) hE rfl ⟨rfl, trivial⟩ ?_
          obtain rfl := Option.some.inj hr
          exact ⟨rfl, (hS.down hle56)⟩
        · replace hr := iteF hc81 hr
          refine W.skip ?_
          refine W.seq ?_
          refine W.region ?_
          refine WL.vS hS hE (runs_plain rfl) (Gives.p hE rfl) rfl ?_; clear hE a; intro a hE
          refine WL.vS hS hE (runs_plain rfl) (Gives.p hE rfl) rfl ?_; clear hE a; intro a hE
          refine WL.vS hS hE (runs_plain rfl) (Gives.p hE rfl) rfl ?_; clear hE a; intro a hE
          refine WL.vS hS hE (runs_plain rfl) (Gives.build hE (vs := [(0, .int .i64 x0), (1, .int .i64 x1), (2, .int .i64 x2)]) [.int .i64 x0, .int .i64 x1, .int .i64 x2, .slice none 0 0, .slice none 0 0] rfl (by kernel_rfl)) rfl ?_; clear hE a; intro a hE
          refine WL.box hE hS (runs_plain rfl) rfl rfl rfl ?_; clear hE hS a w; intro b82 a w hE hS
          refine WL.vS hS hE (runs_plain rfl) (Gives.p hE rfl) rfl ?_; clear hE a; intro a hE
          refine WL.nil ?_
          refine W.seq ?_
          replace hS := hS.vecNil 4 1
          replace hS := hS.vecNil 39 4
          obtain ⟨q86, hq85, hr⟩ := bindS hr
          refine W.cut (fun a w => ∃ (q91 : List Int), ∃ (q95 : List FareBooking), ∃ (q102 : List Bool), ∃ (a92 : Option Addr), ∃ (c93 : Nat), ∃ (a96 : Option Addr), ∃ (c97 : Nat), ∃ (n99 : Nat), ∃ (cs100 : List Value), ∃ (a103 : Option Addr), ∃ (c104 : Nat), ∃ (n106 : Nat), ∃ (cs107 : List Value), (.next (q91, q95, q102)) = q86 ∧ Sl 1 (RI .i64) s55 a92 c93 q91 ∧ Ev 4 RFareBooking s55 cs100 q95 ∧ q95.length = n99 ∧ Ev 1 RB s55 cs107 q102 ∧ q102.length = n106 ∧ Rep a 135 [] ∧ St w s55 (vecC 39 4 a96 c97 n99 cs100 :: vecC 4 1 a103 c104 n106 cs107 :: pt b82 (.cells #[.int .i64 x0, .int .i64 x1, .int .i64 x2, .slice a96 n99 c97, .slice a103 n106 c104] 33 (0, 0)) :: R)) ?_ ?_
          · refine W.block ?_
            refine W.loop (fun m a w => ∃ (n87 : Nat), ∃ (q91 : List Int), ∃ (q95 : List FareBooking), ∃ (q102 : List Bool), ∃ (a92 : Option Addr), ∃ (c93 : Nat), ∃ (a96 : Option Addr), ∃ (c97 : Nat), ∃ (n99 : Nat), ∃ (cs100 : List Value), ∃ (a103 : Option Addr), ∃ (c104 : Nat), ∃ (n106 : Nat), ∃ (cs107 : List Value), n87 = m ∧ Fishlaw2FareCars.loop1 n87 q91 q95 q102 = some q86 ∧ Sl 1 (RI .i64) s55 a92 c93 q91 ∧ Ev 4 RFareBooking s55 cs100 q95 ∧ q95.length = n99 ∧ Ev 1 RB s55 cs107 q102 ∧ q102.length = n106 ∧ Rep a 135 [(3, .slice a92 q91.length c93), (9, .pointer none), (12, .pointer (some ⟨b82, 0, none⟩))] ∧ St w s55 (vecC 39 4 a96 c97 n99 cs100 :: vecC 4 1 a103 c104 n106 cs107 :: pt b82 (.cells #[.int .i64 x0, .int .i64 x1, .int .i64 x2, .slice a96 n99 c97, .slice a103 n106 c104] 33 (0, 0)) :: R)) (m := fu) ⟨fu, x3, [], [], a3, c3, none, 0, 0, [], none, 0, 0, [], rfl, hq85, h3, (Ev.nil), (rfl), (Ev.nil), (rfl), hE.pick _ ⟨rfl, rfl, rfl, trivial⟩, hS⟩ ?_
            clear hE hS a w hq85; rintro m88 a w ⟨n87, q91, q95, q102, a92, c93, a96, c97, n99, cs100, a103, c104, n106, cs107, rfl, hq85, h94, h98, rfl, h105, rfl, hE, hS⟩
            refine W.gen fun K109 hK109 => ?_
            rcases n87 with _ | n87
            · rw [Fishlaw2FareCars.loop1] at hq85; exact absurd hq85 (by simp)
            rw [Fishlaw2FareCars.loop1] at hq85
            refine W.seq ?_
            refine W.seq ?_
            refine W.region ?_
            refine WL.vS hS hE (runs_plain rfl) (Gives.p hE rfl) rfl ?_; clear hE a; intro a hE
            refine WL.vS hS hE (runs_plain rfl) (Gives.len hE rfl sl22) rfl ?_; clear hE a; intro a hE
            refine WL.vS hS hE (runs_plain rfl) (Gives.p hE rfl) rfl ?_; clear hE a; intro a hE
            refine WL.nil ?_
            refine W.cond hE rfl (fun hc110 => ?_) (fun hc110 => ?_)
            · replace hq85 := iteT hc110 hq85
              refine W.skip ?_
              refine W.block ?_
              refine W.seq ?_
              refine W.regionQ (C := fun w => St w s55 (vecC 39 4 a96 c97 q95.length cs100 :: vecC 4 1 a103 c104 q102.length cs107 :: pt b82 (.cells #[.int .i64 x0, .int .i64 x1, .int .i64 x2, .slice a96 q95.length c97, .slice a103 q102.length c104] 33 (0, 0)) :: R)) mixed (by kernel_rfl) hS.drew ?_
              refine QL.v hE (runs_plain rfl) (Gives.p hE rfl) rfl ?_; clear hE a; intro a hE
              obtain ⟨x111, hx112, hq85⟩ := bindS hq85
              obtain ⟨hi113, hlt114, hy115⟩ := gx_some hx112
              obtain ⟨cs116, hl117, hR118, hat119⟩ := h94.at hy115
              subst hR118
              refine QL.v hE (runs_plain rfl) (Gives.idx hE ((0 : Int)).toNat rfl rfl sl22 hi113 hlt114 (h94.aok hlt114)) rfl ?_; clear hE a; intro a hE
              refine QL.v hE (runs_plain rfl) (Gives.load1 hE rfl (fun w h => hat119 w _ h) ty3) rfl ?_; clear hE a; intro a hE
              refine QL.v hE (runs_plain rfl) (Gives.p hE rfl) rfl ?_; clear hE a; intro a hE
              obtain ⟨x120, hx121, hq85⟩ := bindS hq85
              obtain ⟨hi122, hlt123, hy124⟩ := gx_some hx121
              obtain ⟨cs125, hl126, hR127, hat128⟩ := h94.at hy124
              subst hR127
              refine QL.v hE (runs_plain rfl) (Gives.idx hE ((1 : Int)).toNat rfl rfl sl22 hi122 hlt123 (h94.aok hlt123)) rfl ?_; clear hE a; intro a hE
              refine QL.v hE (runs_plain rfl) (Gives.load1 hE rfl (fun w h => hat128 w _ h) ty3) rfl ?_; clear hE a; intro a hE
              refine QL.v hE (runs_plain rfl) (Gives.p hE rfl) rfl ?_; clear hE a; intro a hE
              obtain ⟨x129, hx130, hq85⟩ := bindS hq85
              obtain ⟨hi131, hlt132, hy133⟩ := gx_some hx130
              obtain ⟨cs134, hl135, hR136, hat137⟩ := h94.at hy133
              subst hR136
              refine QL.v hE (runs_plain rfl) (Gives.idx hE ((2 : Int)).toNat rfl rfl sl22 hi131 hlt132 (h94.aok hlt132)) rfl ?_; clear hE a; intro a hE
              refine QL.v hE (runs_plain rfl) (Gives.load1 hE rfl (fun w h => hat137 w _ h) ty3) rfl ?_; clear hE a; intro a hE
              refine QL.v hE (runs_plain rfl) (Gives.p hE rfl) rfl ?_; clear hE a; intro a hE
              obtain ⟨x138, hx139, hq85⟩ := bindS hq85
              obtain ⟨hi140, hlt141, hy142⟩ := gx_some hx139
              obtain ⟨cs143, hl144, hR145, hat146⟩ := h94.at hy142
              subst hR145
              refine QL.v hE (runs_plain rfl) (Gives.idx hE ((3 : Int)).toNat rfl rfl sl22 hi140 hlt141 (h94.aok hlt141)) rfl ?_; clear hE a; intro a hE
              refine QL.v hE (runs_plain rfl) (Gives.load1 hE rfl (fun w h => hat146 w _ h) ty3) rfl ?_; clear hE a; intro a hE
              refine QL.v hE (runs_plain rfl) (Gives.p hE rfl) rfl ?_; clear hE a; intro a hE
              refine QL.v hE (runs_plain rfl) (Gives.p hE rfl) rfl ?_; clear hE a; intro a hE
              refine QL.v hE (runs_plain rfl) (Gives.p hE rfl) rfl ?_; clear hE a; intro a hE
              refine QL.v hE (runs_plain rfl) (Gives.p hE rfl) rfl ?_; clear hE a; intro a hE
              refine QL.nil ?_; clear hS w; intro w hS
              refine W.seq ?_
              refine W.region ?_
              refine WL.vS hS hE (runs_plain rfl) (Gives.p hE rfl) rfl ?_; clear hE a; intro a hE
              obtain ⟨x147, hx148, hq85⟩ := bindS hq85
              obtain ⟨a149, c150, heq151, h152⟩ := h94.cut hx148
              obtain ⟨h153, h154, h155, _⟩ := cutl_some hx148
              refine WL.vS hS hE (runs_plain rfl) (Gives.slL hE sl22 rfl rfl h153 (by omega) (by simpa using heq151)) rfl ?_; clear hE a; intro a hE
              refine WL.vS hS hE (runs_plain rfl) (Gives.p hE rfl) rfl ?_; clear hE a; intro a hE
              refine WL.nil ?_
              refine W.seq ?_
              refine W.seq ?_
              refine W.region ?_
              refine WL.vS hS hE (runs_plain rfl) (Gives.p hE rfl) rfl ?_; clear hE a; intro a hE
              refine WL.nil ?_
              refine W.block ?_
              refine W.seq ?_
              refine W.region ?_
              refine WL.vS hS hE (runs_plain rfl) (Gives.p hE rfl) rfl ?_; clear hE a; intro a hE
              refine WL.vS hS hE (runs_plain rfl) (Gives.p hE rfl) rfl ?_; clear hE a; intro a hE
              refine WL.nil ?_
              obtain ⟨q157, hq156, hq85⟩ := bindS hq85
              refine W.cut (fun a w => ∃ (q160 : List FareBooking), ∃ (q167 : List Bool), ∃ (a161 : Option Addr), ∃ (c162 : Nat), ∃ (n164 : Nat), ∃ (cs165 : List Value), ∃ (a168 : Option Addr), ∃ (c169 : Nat), ∃ (n171 : Nat), ∃ (cs172 : List Value), .next (q160, q167) = q157 ∧ Ev 4 RFareBooking s55 cs165 q160 ∧ q160.length = n164 ∧ Ev 1 RB s55 cs172 q167 ∧ q167.length = n171 ∧ Rep a 135 [(3, .slice a149 x147.length c150), (9, .pointer none), (12, .pointer (some ⟨b82, 0, none⟩))] ∧ St w s55 (vecC 39 4 a161 c162 n164 cs165 :: vecC 4 1 a168 c169 n171 cs172 :: pt b82 (.cells #[.int .i64 x0, .int .i64 x1, .int .i64 x2, .slice a161 n164 c162, .slice a168 n171 c169] 33 (0, 0)) :: R)) ?_ ?_
              · refine W.gen fun K174 hK174 => ?_
                refine W.cond hE rfl (fun hc175 => ?_) (fun hc175 => ?_)
                · replace hq156 := iteT hc175 hq156
                  refine W.seq ?_
                  refine W.region ?_
                  refine WL.vS hS hE (runs_plain rfl) (Gives.p hE rfl) rfl ?_; clear hE a; intro a hE
                  refine WL.vS hS hE (runs_plain rfl) (Gives.p hE rfl) rfl ?_; clear hE a; intro a hE
                  exact absurd hq156 (by simp)
                · replace hq156 := iteF hc175 hq156
                  refine W.seq ?_
                  refine W.region ?_
                  refine WL.vS hS hE (runs_plain rfl) (Gives.p hE rfl) rfl ?_; clear hE a; intro a hE
                  refine WL.vS hS hE (runs_plain rfl) (Gives.p hE rfl) rfl ?_; clear hE a; intro a hE
                  refine WL.nil ?_
                  obtain ⟨q177, hq176, hq156⟩ := bindS hq156
                  refine W.cut (fun a w => ∃ (q180 : List FareBooking), ∃ (q187 : List Bool), ∃ (a181 : Option Addr), ∃ (c182 : Nat), ∃ (n184 : Nat), ∃ (cs185 : List Value), ∃ (a188 : Option Addr), ∃ (c189 : Nat), ∃ (n191 : Nat), ∃ (cs192 : List Value), .next (q180, q187) = q177 ∧ Ev 4 RFareBooking s55 cs185 q180 ∧ q180.length = n184 ∧ Ev 1 RB s55 cs192 q187 ∧ q187.length = n191 ∧ Rep a 135 [(3, .slice a149 x147.length c150), (9, .pointer none), (12, .pointer (some ⟨b82, 0, none⟩))] ∧ St w s55 (vecC 39 4 a181 c182 n184 cs185 :: vecC 4 1 a188 c189 n191 cs192 :: pt b82 (.cells #[.int .i64 x0, .int .i64 x1, .int .i64 x2, .slice a181 n184 c182, .slice a188 n191 c189] 33 (0, 0)) :: R)) ?_ ?_
                  · refine W.gen fun K194 hK194 => ?_
                    refine W.cond hE rfl (fun hc195 => ?_) (fun hc195 => ?_)
                    · replace hq176 := iteT hc195 hq176
                      refine W.seq ?_
                      refine W.region ?_
                      refine WL.vS hS hE (runs_plain rfl) (Gives.p hE rfl) rfl ?_; clear hE a; intro a hE
                      refine WL.vS hS hE (runs_plain rfl) (Gives.p hE rfl) rfl ?_; clear hE a; intro a hE
                      refine WL.vS hS hE (runs_plain rfl) (Gives.p hE rfl) rfl ?_; clear hE a; intro a hE
                      exact absurd hq176 (by simp)
                    · replace hq176 := iteF hc195 hq176
                      refine W.seq ?_
                      refine W.region ?_
                      refine WL.vS hS hE (runs_plain rfl) (Gives.p hE rfl) rfl ?_; clear hE a; intro a hE
                      refine WL.vS hS hE (runs_plain rfl) (Gives.p hE rfl) rfl ?_; clear hE a; intro a hE
                      refine WL.vS hS hE (runs_plain rfl) (Gives.p hE rfl) rfl ?_; clear hE a; intro a hE
                      refine WL.vS hS hE (runs_plain rfl) (Gives.p hE rfl) rfl ?_; clear hE a; intro a hE
                      exact absurd hq176 (by simp)
                  · clear hE hS a w; rintro a w ⟨q180, q187, a181, c182, n184, cs185, a188, c189, n191, cs192, rfl, h183, rfl, h190, rfl, hE, hS⟩
                    dsimp only at hq156
                    subst hK174
                    exact ⟨q180, q187, a181, c182, q180.length, cs185, a188, c189, q187.length, cs192, Option.some.inj hq156, h183, rfl, h190, rfl, hE.pick _ ⟨rfl, rfl, rfl, trivial⟩, hS⟩
              · clear hE hS a w; rintro a w ⟨q160, q167, a161, c162, n164, cs165, a168, c169, n171, cs172, rfl, h163, rfl, h170, rfl, hE, hS⟩
                dsimp only at hq85
                refine W.seq ?_
                refine W.region ?_
                refine WL.vS hS hE (runs_plain rfl) (Gives.p hE rfl) rfl ?_; clear hE a; intro a hE
                exact absurd hq85 (by simp)
            · replace hq85 := iteF hc110 hq85
              subst hK109
              refine W.exit rfl ?_
              exact ⟨q91, q95, q102, a92, c93, a96, c97, q95.length, cs100, a103, c104, q102.length, cs107, Option.some.inj hq85, h94, h98, rfl, h105, rfl, hE.pick _ trivial, hS⟩
          · clear hE hS a w; rintro a w ⟨q91, q95, q102, a92, c93, a96, c97, n99, cs100, a103, c104, n106, cs107, rfl, h94, h98, rfl, h105, rfl, hE, hS⟩
            dsimp only at hr
            refine W.seq ?_
            refine W.region ?_
            refine WL.vS hS hE (runs_plain rfl) (Gives.p hE rfl) rfl ?_; clear hE a; intro a hE
            refine WL.nil ?_
            refine W.ret ?_
            refine finG (fn := Try.f3) (rs := [.tmp 8]) (vs := [_]) hE rfl ⟨rfl, trivial⟩ ?_
            obtain rfl := Option.some.inj hr
            replace hS := hS.tail
            replace hS := hS.tail
            replace hS := hS.tail
            exact ⟨rfl, (hS.down hle56)⟩
  · refine ⟨_, rfl, ?_⟩; clear a; intro a hE
    replace h3 := Sl.mono RI.mono hle56 h3
    rw [hz54] at hr; dsimp only at hr
    refine WL.vS hS hE (runs_plain rfl) (Gives.p hE rfl) rfl ?_; clear hE a; intro a hE
    refine WL.vS hS hE (runs_plain rfl) (Gives.p hE rfl) rfl ?_; clear hE a; intro a hE
    refine WL.vS hS hE (runs_plain rfl) (Gives.p hE rfl) rfl ?_; clear hE a; intro a hE
    refine WL.vS hS hE (runs_plain rfl) (Gives.p hE rfl) rfl ?_; clear hE a; intro a hE
    refine WL.vS hS hE (runs_plain rfl) (Gives.p hE rfl) rfl ?_; clear hE a; intro a hE
    refine WL.nil ?_
    refine W.seq ?_
    refine W.region ?_
    refine WL.vS hS hE (runs_plain rfl) (Gives.p hE rfl) rfl ?_; clear hE a; intro a hE
    refine WL.vS hS hE (runs_plain rfl) (Gives.p hE rfl) rfl ?_; clear hE a; intro a hE
    refine WL.vS hS hE (runs_plain rfl) (Gives.p hE rfl) rfl ?_; clear hE a; intro a hE
    refine WL.fnq hE (Fishref2CarFault_ok hS  rfl (r := Fishref2CarFault x0 x1 x2)) (runs_plain rfl) bd5 rfl rfl rfl ?_
    clear hE hS; rintro e w ⟨rfl, hS⟩; refine ⟨_, rfl, ?_⟩; clear a; intro a hE
    refine WL.vS hS hE (runs_plain rfl) (Gives.p hE rfl) rfl ?_; clear hE a; intro a hE
    refine WL.nil ?_
    refine W.seq ?_
    refine W.seq ?_
    obtain ⟨q197, hq196, hr⟩ := bindS hr
    refine W.cut (fun a w => ∃ (q200 : Bool), q200 = q197 ∧ Rep a 135 [(0, .int .i64 x0), (1, .int .i64 x1), (2, .int .i64 x2), (3, .slice a3 x3.length c3), (9, .pointer (some ⟨b58, 0, none⟩)), (11, .int .i64 (Fishref2CarFault x0 x1 x2)), (42, .bool q200)] ∧ St w s55 (pt b58 (.cells #[.int .i64 d57.1, .int .i64 d57.2.1, .int .i64 d57.2.2.1, .slice a59 d57.2.2.2.1.length c60, .slice a65 d57.2.2.2.2.length c66] 48 (0, 0)) :: vecC 39 4 a59 c60 d57.2.2.2.1.length cs62 :: vecC 4 1 a65 c66 d57.2.2.2.2.length cs68 :: R)) ?_ ?_
    · refine W.gen fun K201 hK201 => ?_
      refine W.region ?_
      obtain ⟨q202, hq203, hq196⟩ := bindS hq196
      have hc_ := Fishlaw2seats_ok hS  hq203
      refine WL.fnq hE (hc_) (runs_plain rfl) bd6 rfl rfl rfl ?_
      clear hE hS hc_; rintro e w ⟨rfl, hS⟩; refine ⟨_, rfl, ?_⟩; clear a; intro a hE
      refine WL.vS hS hE (runs_plain rfl) (Gives.p hE rfl) rfl ?_; clear hE a; intro a hE
      refine WL.vS hS hE (runs_plain rfl) (Gives.p hE rfl) rfl ?_; clear hE a; intro a hE
      rcases Bool.eq_false_or_eq_true !q202 with hg204 | hg204
      · replace hq196 := iteT hg204 hq196
        refine WL.no hE (runs_not hE rfl rfl rfl (by rw [hg204]; decide)) rfl ?_; clear hE a; intro a hE
        refine WL.no hE (runs_not hE rfl rfl rfl (by rw [hg204]; decide)) rfl ?_; clear hE a; intro a hE
        refine WL.no hE (runs_not hE rfl rfl rfl (by rw [hg204]; decide)) rfl ?_; clear hE a; intro a hE
        refine WL.vS hS hE (runs_plain rfl) (Gives.pickT hE rfl hg204 rfl) rfl ?_; clear hE a; intro a hE
        refine WL.nil ?_
        subst hK201
        exact ⟨true, Option.some.inj hq196, hE.pick _ ⟨rfl, rfl, rfl, rfl, rfl, rfl, rfl, trivial⟩, hS⟩
      · replace hq196 := iteF hg204 hq196
        refine WL.vS hS hE (runs_if hE rfl rfl rfl hg204) (Gives.p hE rfl) rfl ?_; clear hE a; intro a hE
        refine WL.vS hS hE (runs_if hE rfl rfl rfl hg204) (Gives.p hE rfl) rfl ?_; clear hE a; intro a hE
        refine WL.vS hS hE (runs_if hE rfl rfl rfl hg204) (Gives.p hE rfl) rfl ?_; clear hE a; intro a hE
        refine WL.vS hS hE (runs_plain rfl) (Gives.pickF hE rfl hg204 rfl) rfl ?_; clear hE a; intro a hE
        refine WL.nil ?_
        subst hK201
        exact ⟨(q51.2 != (Fishref2CarFault x0 x1 x2)), Option.some.inj hq196, hE.pick _ ⟨rfl, rfl, rfl, rfl, rfl, rfl, rfl, trivial⟩, hS⟩
    · clear hE hS a w; rintro a w ⟨q200, rfl, hE, hS⟩
      refine W.cond hE rfl (fun hc205 => ?_) (fun hc205 => ?_)
      · replace hr := iteT hc205 hr
        refine W.seq ?_
        refine W.region ?_
        refine WL.vS hS hE (runs_plain rfl) (Gives.p hE rfl) rfl ?_; clear hE a; intro a hE
        refine WL.nil ?_
        refine W.ret ?_
        refine finG (fn := Try.f3) (rs := [.tmp 8]) (vs := [_]) hE rfl ⟨rfl, trivial⟩ ?_
        obtain rfl := Option.some.inj hr
        replace hS := hS.tail
        replace hS := hS.tail
        replace hS := hS.tail
        exact ⟨rfl, (hS.down hle56)⟩
      · replace hr := iteF hc205 hr
        refine W.skip ?_
        refine W.seq ?_
        refine W.seq ?_
        refine W.region ?_
        refine WL.vS hS hE (runs_plain rfl) (Gives.p hE rfl) rfl ?_; clear hE a; intro a hE
        refine WL.vS hS hE (runs_plain rfl) (Gives.p hE rfl) rfl ?_; clear hE a; intro a hE
        refine WL.nil ?_
        refine W.cond hE rfl (fun hc206 => ?_) (fun hc206 => ?_)
        · replace hr := iteT hc206 hr
          refine W.seq ?_
          refine W.region ?_
          refine WL.vS hS hE (runs_plain rfl) (Gives.p hE rfl) rfl ?_; clear hE a; intro a hE
          refine WL.vS hS hE (runs_plain rfl) (Gives.isNilP hE rfl rfl pk23) rfl ?_; clear hE a; intro a hE
          refine WL.vS hS hE (runs_plain rfl) (Gives.p hE rfl) rfl ?_; clear hE a; intro a hE
          refine WL.nil ?_
          refine W.ret ?_
          refine finG (fn := Try.f3) (rs := [.tmp 8]) (vs := [_]) hE rfl ⟨rfl, trivial⟩ ?_
          obtain rfl := Option.some.inj hr
          replace hS := hS.tail
          replace hS := hS.tail
          replace hS := hS.tail
          exact ⟨rfl, (hS.down hle56)⟩
        · replace hr := iteF hc206 hr
          refine W.skip ?_
          refine W.seq ?_
          refine W.region ?_
          refine WL.vS hS hE (runs_plain rfl) (Gives.p hE rfl) rfl ?_; clear hE a; intro a hE
          refine WL.vS hS hE (runs_plain rfl) (Gives.p hE rfl) rfl ?_; clear hE a; intro a hE
          refine WL.vS hS hE (runs_plain rfl) (Gives.p hE rfl) rfl ?_; clear hE a; intro a hE
          refine WL.vS hS hE (runs_plain rfl) (Gives.build hE (vs := [(0, .int .i64 x0), (1, .int .i64 x1), (2, .int .i64 x2)]) [.int .i64 x0, .int .i64 x1, .int .i64 x2, .slice none 0 0, .slice none 0 0] rfl (by kernel_rfl)) rfl ?_; clear hE a; intro a hE
          refine WL.box hE hS (runs_plain rfl) rfl rfl rfl ?_; clear hE hS a w; intro b207 a w hE hS
          refine WL.vS hS hE (runs_plain rfl) (Gives.p hE rfl) rfl ?_; clear hE a; intro a hE
          refine WL.nil ?_
          refine W.seq ?_
          replace hS := hS.vecNil 4 1
          replace hS := hS.vecNil 39 4
          obtain ⟨q211, hq210, hr⟩ := bindS hr
          refine W.cut (fun a w => ∃ (q216 : List Int), ∃ (q220 : List FareBooking), ∃ (q227 : List Bool), ∃ (q234 : List FareBooking), ∃ (q241 : List Bool), ∃ (a217 : Option Addr), ∃ (c218 : Nat), ∃ (a221 : Option Addr), ∃ (c222 : Nat), ∃ (n224 : Nat), ∃ (cs225 : List Value), ∃ (a228 : Option Addr), ∃ (c229 : Nat), ∃ (n231 : Nat), ∃ (cs232 : List Value), ∃ (a235 : Option Addr), ∃ (c236 : Nat), ∃ (n238 : Nat), ∃ (cs239 : List Value), ∃ (a242 : Option Addr), ∃ (c243 : Nat), ∃ (n245 : Nat), ∃ (cs246 : List Value), ∃ (s214 : Sg), s55.Le s214 ∧ (.next (q216, q220, q227, q234, q241)) = q211 ∧ Sl 1 (RI .i64) s214 a217 c218 q216 ∧ Ev 4 RFareBooking s214 cs225 q220 ∧ q220.length = n224 ∧ Ev 1 RB s214 cs232 q227 ∧ q227.length = n231 ∧ Ev 4 RFareBooking s214 cs239 q234 ∧ q234.length = n238 ∧ Ev 1 RB s214 cs246 q241 ∧ q241.length = n245 ∧ Rep a 135 [] ∧ St w s214 (vecC 39 4 a221 c222 n224 cs225 :: vecC 4 1 a228 c229 n231 cs232 :: pt b207 (.cells #[.int .i64 x0, .int .i64 x1, .int .i64 x2, .slice a221 n224 c222, .slice a228 n231 c229] 33 (0, 0)) :: pt b58 (.cells #[.int .i64 d57.1, .int .i64 d57.2.1, .int .i64 d57.2.2.1, .slice a235 n238 c236, .slice a242 n245 c243] 48 (0, 0)) :: vecC 39 4 a235 c236 n238 cs239 :: vecC 4 1 a242 c243 n245 cs246 :: R)) ?_ ?_
          · refine W.block ?_
            refine W.loop (fun m a w => ∃ (n212 : Nat), ∃ (q216 : List Int), ∃ (q220 : List FareBooking), ∃ (q227 : List Bool), ∃ (q234 : List FareBooking), ∃ (q241 : List Bool), ∃ (a217 : Option Addr), ∃ (c218 : Nat), ∃ (a221 : Option Addr), ∃ (c222 : Nat), ∃ (n224 : Nat), ∃ (cs225 : List Value), ∃ (a228 : Option Addr), ∃ (c229 : Nat), ∃ (n231 : Nat), ∃ (cs232 : List Value), ∃ (a235 : Option Addr), ∃ (c236 : Nat), ∃ (n238 : Nat), ∃ (cs239 : List Value), ∃ (a242 : Option Addr), ∃ (c243 : Nat), ∃ (n245 : Nat), ∃ (cs246 : List Value), ∃ (s214 : Sg), n212 = m ∧ s55.Le s214 ∧ Fishlaw2FareCars.loop2 x0 x1 x2 fu d57 n212 q216 q220 q227 q234 q241 = some q211 ∧ Sl 1 (RI .i64) s214 a217 c218 q216 ∧ Ev 4 RFareBooking s214 cs225 q220 ∧ q220.length = n224 ∧ Ev 1 RB s214 cs232 q227 ∧ q227.length = n231 ∧ Ev 4 RFareBooking s214 cs239 q234 ∧ q234.length = n238 ∧ Ev 1 RB s214 cs246 q241 ∧ q241.length = n245 ∧ Rep a 135 [(3, .slice a217 q216.length c218), (9, .pointer (some ⟨b58, 0, none⟩)), (12, .pointer (some ⟨b207, 0, none⟩))] ∧ St w s214 (vecC 39 4 a221 c222 n224 cs225 :: vecC 4 1 a228 c229 n231 cs232 :: pt b207 (.cells #[.int .i64 x0, .int .i64 x1, .int .i64 x2, .slice a221 n224 c222, .slice a228 n231 c229] 33 (0, 0)) :: pt b58 (.cells #[.int .i64 d57.1, .int .i64 d57.2.1, .int .i64 d57.2.2.1, .slice a235 n238 c236, .slice a242 n245 c243] 48 (0, 0)) :: vecC 39 4 a235 c236 n238 cs239 :: vecC 4 1 a242 c243 n245 cs246 :: R)) (m := fu) ⟨fu, x3, [], [], d57.2.2.2.1, d57.2.2.2.2, a3, c3, none, 0, 0, [], none, 0, 0, [], a59, c60, d57.2.2.2.1.length, cs62, a65, c66, d57.2.2.2.2.length, cs68, s55, rfl, (Sg.Le.refl _), hq210, h3, (Ev.nil), (rfl), (Ev.nil), (rfl), h63, rfl, h69, rfl, hE.pick _ ⟨rfl, rfl, rfl, trivial⟩, hS⟩ ?_
            clear hE hS a w hq210; rintro m213 a w ⟨n212, q216, q220, q227, q234, q241, a217, c218, a221, c222, n224, cs225, a228, c229, n231, cs232, a235, c236, n238, cs239, a242, c243, n245, cs246, s214, rfl, hle215, hq210, h219, h223, rfl, h230, rfl, h237, rfl, h244, rfl, hE, hS⟩
            refine W.gen fun K248 hK248 => ?_
            replace h3 := Sl.mono RI.mono hle215 h3
            replace h63 := Ev.mono RFareBooking.mono hle215 h63
            replace h69 := Ev.mono RB.mono hle215 h69
            rcases n212 with _ | n212
            · rw [Fishlaw2FareCars.loop2] at hq210; exact absurd hq210 (by simp)
            rw [Fishlaw2FareCars.loop2] at hq210
            refine W.seq ?_
            refine W.seq ?_
            refine W.region ?_
            refine WL.vS hS hE (runs_plain rfl) (Gives.p hE rfl) rfl ?_; clear hE a; intro a hE
            refine WL.vS hS hE (runs_plain rfl) (Gives.len hE rfl sl22) rfl ?_; clear hE a; intro a hE
            refine WL.vS hS hE (runs_plain rfl) (Gives.p hE rfl) rfl ?_; clear hE a; intro a hE
            refine WL.nil ?_
            refine W.cond hE rfl (fun hc249 => ?_) (fun hc249 => ?_)
            · replace hq210 := iteT hc249 hq210
              refine W.skip ?_
              refine W.block ?_
              refine W.seq ?_
              refine W.regionQ (C := fun w => St w s214 (vecC 39 4 a221 c222 q220.length cs225 :: vecC 4 1 a228 c229 q227.length cs232 :: pt b207 (.cells #[.int .i64 x0, .int .i64 x1, .int .i64 x2, .slice a221 q220.length c222, .slice a228 q227.length c229] 33 (0, 0)) :: pt b58 (.cells #[.int .i64 d57.1, .int .i64 d57.2.1, .int .i64 d57.2.2.1, .slice a235 q234.length c236, .slice a242 q241.length c243] 48 (0, 0)) :: vecC 39 4 a235 c236 q234.length cs239 :: vecC 4 1 a242 c243 q241.length cs246 :: R)) mixed (by kernel_rfl) hS.drew ?_
              refine QL.v hE (runs_plain rfl) (Gives.p hE rfl) rfl ?_; clear hE a; intro a hE
              obtain ⟨x250, hx251, hq210⟩ := bindS hq210
              obtain ⟨hi252, hlt253, hy254⟩ := gx_some hx251
              obtain ⟨cs255, hl256, hR257, hat258⟩ := h219.at hy254
              subst hR257
              refine QL.v hE (runs_plain rfl) (Gives.idx hE ((0 : Int)).toNat rfl rfl sl22 hi252 hlt253 (h219.aok hlt253)) rfl ?_; clear hE a; intro a hE
              refine QL.v hE (runs_plain rfl) (Gives.load1 hE rfl (fun w h => hat258 w _ h) ty3) rfl ?_; clear hE a; intro a hE
              refine QL.v hE (runs_plain rfl) (Gives.p hE rfl) rfl ?_; clear hE a; intro a hE
              obtain ⟨x259, hx260, hq210⟩ := bindS hq210
              obtain ⟨hi261, hlt262, hy263⟩ := gx_some hx260
              obtain ⟨cs264, hl265, hR266, hat267⟩ := h219.at hy263
              subst hR266
              refine QL.v hE (runs_plain rfl) (Gives.idx hE ((1 : Int)).toNat rfl rfl sl22 hi261 hlt262 (h219.aok hlt262)) rfl ?_; clear hE a; intro a hE
              refine QL.v hE (runs_plain rfl) (Gives.load1 hE rfl (fun w h => hat267 w _ h) ty3) rfl ?_; clear hE a; intro a hE
              refine QL.v hE (runs_plain rfl) (Gives.p hE rfl) rfl ?_; clear hE a; intro a hE
              obtain ⟨x268, hx269, hq210⟩ := bindS hq210
              obtain ⟨hi270, hlt271, hy272⟩ := gx_some hx269
              obtain ⟨cs273, hl274, hR275, hat276⟩ := h219.at hy272
              subst hR275
              refine QL.v hE (runs_plain rfl) (Gives.idx hE ((2 : Int)).toNat rfl rfl sl22 hi270 hlt271 (h219.aok hlt271)) rfl ?_; clear hE a; intro a hE
              refine QL.v hE (runs_plain rfl) (Gives.load1 hE rfl (fun w h => hat276 w _ h) ty3) rfl ?_; clear hE a; intro a hE
              refine QL.v hE (runs_plain rfl) (Gives.p hE rfl) rfl ?_; clear hE a; intro a hE
              obtain ⟨x277, hx278, hq210⟩ := bindS hq210
              obtain ⟨hi279, hlt280, hy281⟩ := gx_some hx278
              obtain ⟨cs282, hl283, hR284, hat285⟩ := h219.at hy281
              subst hR284
              refine QL.v hE (runs_plain rfl) (Gives.idx hE ((3 : Int)).toNat rfl rfl sl22 hi279 hlt280 (h219.aok hlt280)) rfl ?_; clear hE a; intro a hE
              refine QL.v hE (runs_plain rfl) (Gives.load1 hE rfl (fun w h => hat285 w _ h) ty3) rfl ?_; clear hE a; intro a hE
              refine QL.v hE (runs_plain rfl) (Gives.p hE rfl) rfl ?_; clear hE a; intro a hE
              refine QL.v hE (runs_plain rfl) (Gives.p hE rfl) rfl ?_; clear hE a; intro a hE
              refine QL.v hE (runs_plain rfl) (Gives.p hE rfl) rfl ?_; clear hE a; intro a hE
              refine QL.v hE (runs_plain rfl) (Gives.p hE rfl) rfl ?_; clear hE a; intro a hE
              refine QL.nil ?_; clear hS w; intro w hS
              refine W.seq ?_
              refine W.region ?_
              refine WL.vS hS hE (runs_plain rfl) (Gives.p hE rfl) rfl ?_; clear hE a; intro a hE
              obtain ⟨x286, hx287, hq210⟩ := bindS hq210
              obtain ⟨a288, c289, heq290, h291⟩ := h219.cut hx287
              obtain ⟨h292, h293, h294, _⟩ := cutl_some hx287
              refine WL.vS hS hE (runs_plain rfl) (Gives.slL hE sl22 rfl rfl h292 (by omega) (by simpa using heq290)) rfl ?_; clear hE a; intro a hE
              refine WL.vS hS hE (runs_plain rfl) (Gives.p hE rfl) rfl ?_; clear hE a; intro a hE
              refine WL.nil ?_
              refine W.seq ?_
              refine W.seq ?_
              refine W.region ?_
              refine WL.vS hS hE (runs_plain rfl) (Gives.p hE rfl) rfl ?_; clear hE a; intro a hE
              refine WL.nil ?_
              refine W.block ?_
              refine W.seq ?_
              refine W.region ?_
              refine WL.vS hS hE (runs_plain rfl) (Gives.p hE rfl) rfl ?_; clear hE a; intro a hE
              refine WL.vS hS hE (runs_plain rfl) (Gives.p hE rfl) rfl ?_; clear hE a; intro a hE
              refine WL.nil ?_
              obtain ⟨q296, hq295, hq210⟩ := bindS hq210
              refine W.cut (fun a w => ∃ (q299 : List FareBooking), ∃ (q306 : List Bool), ∃ (q313 : List FareBooking), ∃ (q320 : List Bool), ∃ (a300 : Option Addr), ∃ (c301 : Nat), ∃ (n303 : Nat), ∃ (cs304 : List Value), ∃ (a307 : Option Addr), ∃ (c308 : Nat), ∃ (n310 : Nat), ∃ (cs311 : List Value), ∃ (a314 : Option Addr), ∃ (c315 : Nat), ∃ (n317 : Nat), ∃ (cs318 : List Value), ∃ (a321 : Option Addr), ∃ (c322 : Nat), ∃ (n324 : Nat), ∃ (cs325 : List Value), ∃ (s297 : Sg), s214.Le s297 ∧ .next (q299, q306, q313, q320) = q296 ∧ Ev 4 RFareBooking s297 cs304 q299 ∧ q299.length = n303 ∧ Ev 1 RB s297 cs311 q306 ∧ q306.length = n310 ∧ Ev 4 RFareBooking s297 cs318 q313 ∧ q313.length = n317 ∧ Ev 1 RB s297 cs325 q320 ∧ q320.length = n324 ∧ Rep a 135 [(3, .slice a288 x286.length c289), (9, .pointer (some ⟨b58, 0, none⟩)), (12, .pointer (some ⟨b207, 0, none⟩))] ∧ St w s297 (vecC 39 4 a300 c301 n303 cs304 :: vecC 4 1 a307 c308 n310 cs311 :: pt b207 (.cells #[.int .i64 x0, .int .i64 x1, .int .i64 x2, .slice a300 n303 c301, .slice a307 n310 c308] 33 (0, 0)) :: pt b58 (.cells #[.int .i64 d57.1, .int .i64 d57.2.1, .int .i64 d57.2.2.1, .slice a314 n317 c315, .slice a321 n324 c322] 48 (0, 0)) :: vecC 39 4 a314 c315 n317 cs318 :: vecC 4 1 a321 c322 n324 cs325 :: R)) ?_ ?_
              · refine W.gen fun K327 hK327 => ?_
                refine W.cond hE rfl (fun hc328 => ?_) (fun hc328 => ?_)
                · replace hq295 := iteT hc328 hq295
                  refine W.seq ?_
                  refine W.region ?_
                  refine WL.vS hS hE (runs_plain rfl) (Gives.p hE rfl) rfl ?_; clear hE a; intro a hE
                  refine WL.vS hS hE (runs_plain rfl) (Gives.p hE rfl) rfl ?_; clear hE a; intro a hE
                  obtain ⟨q329, hq330, hq295⟩ := bindS hq295
                  replace hS := hS.front 5 rfl
                  replace hS := hS.front 5 rfl
                  replace hS := hS.front 5 rfl
                  have hc_ := FareCarCancel_v1_ok (y0 := (FareCar.mk d57.1 d57.2.1 d57.2.2.1 q234 q241)) hS h237 rfl h244 rfl hq330
                  refine WL.fnq hE (hc_) (runs_plain rfl) bd7 rfl rfl rfl ?_
                  clear hE hS hc_; rintro e w ⟨cs331, rfl, h332, hn333, hS⟩; refine ⟨_, rfl, ?_⟩; clear a; intro a hE
                  refine WL.vS hS hE (runs_plain rfl) (Gives.p hE rfl) rfl ?_; clear hE a; intro a hE
                  refine WL.vS hS hE (runs_plain rfl) (Gives.p hE rfl) rfl ?_; clear hE a; intro a hE
                  obtain ⟨q334, hq335, hq295⟩ := bindS hq295
                  replace hS := hS.front 4 rfl
                  replace hS := hS.front 4 rfl
                  replace hS := hS.front 5 rfl
                  have hc_ := Fishref2CarCancel_v1_ok (y0 := (Fishref2Car.mk x0 x1 x2 q220 q227)) hS h223 rfl h230 rfl hq335
                  refine WL.fnq hE (hc_) (runs_plain rfl) bd8 rfl rfl rfl ?_
                  clear hE hS hc_; rintro e w ⟨cs336, rfl, h337, hn338, hS⟩; refine ⟨_, rfl, ?_⟩; clear a; intro a hE
                  refine WL.vS hS hE (runs_plain rfl) (Gives.p hE rfl) rfl ?_; clear hE a; intro a hE
                  refine WL.nil ?_
                  refine W.cond hE rfl (fun hc339 => ?_) (fun hc339 => ?_)
                  · replace hq295 := iteT hc339 hq295
                    refine W.seq ?_
                    refine W.region ?_
                    refine WL.vS hS hE (runs_plain rfl) (Gives.p hE rfl) rfl ?_; clear hE a; intro a hE
                    refine WL.nil ?_
                    refine W.ret ?_
                    subst hK327
                    subst hK248
                    rw [← Option.some.inj hq295] at hq210
                    dsimp only at hq210
                    rw [← Option.some.inj hq210] at hr
                    dsimp only at hr
                    refine finG (fn := Try.f3) (rs := [.tmp 8]) (vs := [_]) hE rfl ⟨rfl, trivial⟩ ?_
                    obtain rfl := Option.some.inj hr
                    replace hS := hS.tail
                    replace hS := hS.tail
                    replace hS := hS.tail
                    replace hS := hS.tail
                    replace hS := hS.tail
                    replace hS := hS.tail
                    exact ⟨rfl, (hS.down (Sg.Le.trans hle56 hle215))⟩
                  · replace hq295 := iteF hc339 hq295
                    refine W.skip ?_
                    replace hS := hS.front 5 rfl
                    replace hS := hS.front 5 rfl
                    replace hS := hS.front 5 rfl
                    replace hS := hS.front 3 rfl
                    replace hS := hS.front 5 rfl
                    replace hS := hS.front 5 rfl
                    subst hK327
                    exact ⟨q220, q334.2, q234, q329.2, a221, c222, q220.length, cs225, a228, c229, q227.length, cs336, a235, c236, q234.length, cs239, a242, c243, q241.length, cs331, s214, (Sg.Le.refl _), Option.some.inj hq295, h223, rfl, h337, hn338, h237, rfl, h332, hn333, hE.pick _ ⟨rfl, rfl, rfl, trivial⟩, hS⟩
                · replace hq295 := iteF hc328 hq295
                  refine W.seq ?_
                  refine W.region ?_
                  refine WL.vS hS hE (runs_plain rfl) (Gives.p hE rfl) rfl ?_; clear hE a; intro a hE
                  refine WL.vS hS hE (runs_plain rfl) (Gives.p hE rfl) rfl ?_; clear hE a; intro a hE
                  refine WL.nil ?_
                  obtain ⟨q341, hq340, hq295⟩ := bindS hq295
                  refine W.cut (fun a w => ∃ (q344 : List FareBooking), ∃ (q351 : List Bool), ∃ (q358 : List FareBooking), ∃ (q365 : List Bool), ∃ (a345 : Option Addr), ∃ (c346 : Nat), ∃ (n348 : Nat), ∃ (cs349 : List Value), ∃ (a352 : Option Addr), ∃ (c353 : Nat), ∃ (n355 : Nat), ∃ (cs356 : List Value), ∃ (a359 : Option Addr), ∃ (c360 : Nat), ∃ (n362 : Nat), ∃ (cs363 : List Value), ∃ (a366 : Option Addr), ∃ (c367 : Nat), ∃ (n369 : Nat), ∃ (cs370 : List Value), ∃ (s342 : Sg), s214.Le s342 ∧ .next (q344, q351, q358, q365) = q341 ∧ Ev 4 RFareBooking s342 cs349 q344 ∧ q344.length = n348 ∧ Ev 1 RB s342 cs356 q351 ∧ q351.length = n355 ∧ Ev 4 RFareBooking s342 cs363 q358 ∧ q358.length = n362 ∧ Ev 1 RB s342 cs370 q365 ∧ q365.length = n369 ∧ Rep a 135 [(3, .slice a288 x286.length c289), (9, .pointer (some ⟨b58, 0, none⟩)), (12, .pointer (some ⟨b207, 0, none⟩))] ∧ St w s342 (vecC 39 4 a345 c346 n348 cs349 :: vecC 4 1 a352 c353 n355 cs356 :: pt b207 (.cells #[.int .i64 x0, .int .i64 x1, .int .i64 x2, .slice a345 n348 c346, .slice a352 n355 c353] 33 (0, 0)) :: pt b58 (.cells #[.int .i64 d57.1, .int .i64 d57.2.1, .int .i64 d57.2.2.1, .slice a359 n362 c360, .slice a366 n369 c367] 48 (0, 0)) :: vecC 39 4 a359 c360 n362 cs363 :: vecC 4 1 a366 c367 n369 cs370 :: R)) ?_ ?_
                  · refine W.gen fun K372 hK372 => ?_
                    refine W.cond hE rfl (fun hc373 => ?_) (fun hc373 => ?_)
                    · replace hq340 := iteT hc373 hq340
                      refine W.seq ?_
                      refine W.region ?_
                      refine WL.vS hS hE (runs_plain rfl) (Gives.p hE rfl) rfl ?_; clear hE a; intro a hE
                      refine WL.vS hS hE (runs_plain rfl) (Gives.p hE rfl) rfl ?_; clear hE a; intro a hE
                      refine WL.vS hS hE (runs_plain rfl) (Gives.p hE rfl) rfl ?_; clear hE a; intro a hE
                      obtain ⟨q374, hq375, hq340⟩ := bindS hq340
                      replace hS := hS.front 5 rfl
                      replace hS := hS.front 5 rfl
                      replace hS := hS.front 5 rfl
                      have hc_ := FareCarFree_v1_ok (y0 := (FareCar.mk d57.1 d57.2.1 d57.2.2.1 q234 q241)) hS h237 rfl h244 rfl hq375
                      refine WL.fnq hE (hc_) (runs_plain rfl) bd9 rfl rfl rfl ?_
                      clear hE hS hc_; rintro e w ⟨a376, c377, n378, cs379, rfl, h380, rfl, hS⟩; refine ⟨_, rfl, ?_⟩; clear a; intro a hE
                      refine WL.vS hS hE (runs_plain rfl) (Gives.p hE rfl) rfl ?_; clear hE a; intro a hE
                      refine WL.vS hS hE (runs_plain rfl) (Gives.p hE rfl) rfl ?_; clear hE a; intro a hE
                      refine WL.vS hS hE (runs_plain rfl) (Gives.p hE rfl) rfl ?_; clear hE a; intro a hE
                      refine WL.vS hS hE (runs_plain rfl) (Gives.p hE rfl) rfl ?_; clear hE a; intro a hE
                      refine WL.vS hS hE (runs_plain rfl) (Gives.p hE rfl) rfl ?_; clear hE a; intro a hE
                      refine WL.nil ?_
                      refine W.seq ?_
                      refine W.region ?_
                      refine WL.vS hS hE (runs_plain rfl) (Gives.p hE rfl) rfl ?_; clear hE a; intro a hE
                      refine WL.vS hS hE (runs_plain rfl) (Gives.p hE rfl) rfl ?_; clear hE a; intro a hE
                      refine WL.vS hS hE (runs_plain rfl) (Gives.p hE rfl) rfl ?_; clear hE a; intro a hE
                      obtain ⟨q382, hq383, hq340⟩ := bindS hq340
                      replace hS := hS.front 5 rfl
                      replace hS := hS.front 5 rfl
                      replace hS := hS.front 6 rfl
                      have hc_ := Fishref2CarFree_v1_ok (y0 := (Fishref2Car.mk x0 x1 x2 q220 q227)) hS h223 rfl h230 rfl hq383
                      refine WL.fnq hE (hc_) (runs_plain rfl) bd10 rfl rfl rfl ?_
                      clear hE hS hc_; rintro e w ⟨a384, c385, n386, cs387, rfl, h388, rfl, hS⟩; refine ⟨_, rfl, ?_⟩; clear a; intro a hE
                      refine WL.vS hS hE (runs_plain rfl) (Gives.p hE rfl) rfl ?_; clear hE a; intro a hE
                      refine WL.vS hS hE (runs_plain rfl) (Gives.p hE rfl) rfl ?_; clear hE a; intro a hE
                      refine WL.vS hS hE (runs_plain rfl) (Gives.p hE rfl) rfl ?_; clear hE a; intro a hE
                      refine WL.vS hS hE (runs_plain rfl) (Gives.p hE rfl) rfl ?_; clear hE a; intro a hE
                      refine WL.vS hS hE (runs_plain rfl) (Gives.p hE rfl) rfl ?_; clear hE a; intro a hE
                      refine WL.nil ?_
                      refine W.seq ?_
                      obtain ⟨q391, hq390, hq340⟩ := bindS hq340
                      refine W.cut (fun a w => ∃ (q394 : Bool), q394 = q391 ∧ Rep a 135 [(3, .slice a288 x286.length c289), (9, .pointer (some ⟨b58, 0, none⟩)), (12, .pointer (some ⟨b207, 0, none⟩)), (128, .bool q394)] ∧ St w s214 (pt b207 (.cells #[.int .i64 x0, .int .i64 x1, .int .i64 x2, .slice a221 q220.length c222, .slice a228 q227.length c229] 33 (0, 0)) :: vecC 39 4 a221 c222 q220.length cs225 :: vecC 4 1 a228 c229 q227.length cs232 :: pt b58 (.cells #[.int .i64 d57.1, .int .i64 d57.2.1, .int .i64 d57.2.2.1, .slice a235 q234.length c236, .slice a242 q241.length c243] 48 (0, 0)) :: vecC 39 4 a235 c236 q234.length cs239 :: vecC 4 1 a242 c243 q241.length cs246 :: R)) ?_ ?_
                      · refine W.gen fun K395 hK395 => ?_
                        refine W.region ?_
                        refine WL.vS hS hE (runs_plain rfl) (Gives.p hE rfl) rfl ?_; clear hE a; intro a hE
                        refine WL.vS hS hE (runs_plain rfl) (Gives.p hE rfl) rfl ?_; clear hE a; intro a hE
                        refine WL.vS hS hE (runs_plain rfl) (Gives.p hE rfl) rfl ?_; clear hE a; intro a hE
                        refine WL.vS hS hE (runs_plain rfl) (Gives.p hE rfl) rfl ?_; clear hE a; intro a hE
                        rcases Bool.eq_false_or_eq_true (q374.2 != q382.2) with hg396 | hg396
                        · replace hq390 := iteT hg396 hq390
                          refine WL.no hE (runs_not hE rfl rfl rfl (by rw [hg396]; decide)) rfl ?_; clear hE a; intro a hE
                          refine WL.no hE (runs_not hE rfl rfl rfl (by rw [hg396]; decide)) rfl ?_; clear hE a; intro a hE
                          refine WL.no hE (runs_not hE rfl rfl rfl (by rw [hg396]; decide)) rfl ?_; clear hE a; intro a hE
                          refine WL.no hE (runs_not hE rfl rfl rfl (by rw [hg396]; decide)) rfl ?_; clear hE a; intro a hE
                          refine WL.vS hS hE (runs_plain rfl) (Gives.pickT hE rfl hg396 rfl) rfl ?_; clear hE a; intro a hE
                          refine WL.nil ?_
                          replace hS := hS.tail
                          replace hS := hS.dropAt 3
                          subst hK395
                          exact ⟨true, Option.some.inj hq390, hE.pick _ ⟨rfl, rfl, rfl, rfl, trivial⟩, hS⟩
                        · replace hq390 := iteF hg396 hq390
                          refine WL.vS hS hE (runs_if hE rfl rfl rfl hg396) (Gives.p hE rfl) rfl ?_; clear hE a; intro a hE
                          refine WL.vS hS hE (runs_if hE rfl rfl rfl hg396) (Gives.p hE rfl) rfl ?_; clear hE a; intro a hE
                          obtain ⟨q397, hq398, hq390⟩ := bindS hq390
                          have hF := hS.lendV RI.mono 4 rfl h380 rfl; clear hS; obtain ⟨t399, hle400, hS, hs401, bk402⟩ := hF
                          have hF := hS.lendV RI.mono 0 rfl (Ev.mono RI.mono hle400 h388) rfl; clear hS; obtain ⟨t403, hle404, hS, hs405, bk406⟩ := hF
                          have hc_ := SlicesEqualLint_ok hS (Sl.mono RI.mono hle404 hs401) hs405 hq398
                          refine WL.fnq hE (hc_) (runs_if hE rfl rfl rfl hg396) bd11 rfl rfl rfl ?_
                          clear hE hS hc_; rintro e w ⟨rfl, hS⟩; refine ⟨_, rfl, ?_⟩; clear a; intro a hE
                          replace hS := bk406 _ _ hS
                          replace hS := bk402 _ _ hS
                          refine WL.vS hS hE (runs_if hE rfl rfl rfl hg396) (Gives.p hE rfl) rfl ?_; clear hE a; intro a hE
                          refine WL.vS hS hE (runs_plain rfl) (Gives.pickF hE rfl hg396 rfl) rfl ?_; clear hE a; intro a hE
                          refine WL.nil ?_
                          replace hS := hS.tail
                          replace hS := hS.tail
                          subst hK395
                          exact ⟨!q397, Option.some.inj hq390, hE.pick _ ⟨rfl, rfl, rfl, rfl, trivial⟩, hS⟩
                      · clear hE hS a w; rintro a w ⟨q394, rfl, hE, hS⟩
                        refine W.cond hE rfl (fun hc407 => ?_) (fun hc407 => ?_)
                        · replace hq340 := iteT hc407 hq340
                          refine W.seq ?_
                          refine W.region ?_
                          refine WL.vS hS hE (runs_plain rfl) (Gives.p hE rfl) rfl ?_; clear hE a; intro a hE
                          refine WL.nil ?_
                          refine W.ret ?_
                          subst hK372
                          subst hK327
                          subst hK248
                          rw [← Option.some.inj hq340] at hq295
                          dsimp only at hq295
                          rw [← Option.some.inj hq295] at hq210
                          dsimp only at hq210
                          rw [← Option.some.inj hq210] at hr
                          dsimp only at hr
                          refine finG (fn := Try.f3) (rs := [.tmp 8]) (vs := [_]) hE rfl ⟨rfl, trivial⟩ ?_
                          obtain rfl := Option.some.inj hr
                          replace hS := hS.tail
                          replace hS := hS.tail
                          replace hS := hS.tail
                          replace hS := hS.tail
                          replace hS := hS.tail
                          replace hS := hS.tail
                          exact ⟨rfl, (hS.down (Sg.Le.trans hle56 hle215))⟩
                        · replace hq340 := iteF hc407 hq340
                          refine W.skip ?_
                          replace hS := hS.front 5 rfl
                          replace hS := hS.front 5 rfl
                          replace hS := hS.front 5 rfl
                          replace hS := hS.front 3 rfl
                          replace hS := hS.front 5 rfl
                          replace hS := hS.front 5 rfl
                          subst hK372
                          exact ⟨q220, q227, q234, q241, a221, c222, q220.length, cs225, a228, c229, q227.length, cs232, a235, c236, q234.length, cs239, a242, c243, q241.length, cs246, s214, (Sg.Le.refl _), Option.some.inj hq340, h223, rfl, h230, rfl, h237, rfl, h244, rfl, hE.pick _ ⟨rfl, rfl, rfl, trivial⟩, hS⟩
                    · replace hq340 := iteF hc373 hq340
                      refine W.seq ?_
                      refine W.region ?_
                      refine WL.vS hS hE (runs_plain rfl) (Gives.p hE rfl) rfl ?_; clear hE a; intro a hE
                      refine WL.vS hS hE (runs_plain rfl) (Gives.p hE rfl) rfl ?_; clear hE a; intro a hE
                      refine WL.vS hS hE (runs_plain rfl) (Gives.p hE rfl) rfl ?_; clear hE a; intro a hE
                      refine WL.vS hS hE (runs_plain rfl) (Gives.p hE rfl) rfl ?_; clear hE a; intro a hE
                      obtain ⟨q408, hq409, hq340⟩ := bindS hq340
                      replace hS := hS.front 5 rfl
                      replace hS := hS.front 5 rfl
                      replace hS := hS.front 5 rfl
                      have hc_ := FareCarBook_v1_ok (y0 := (FareCar.mk d57.1 d57.2.1 d57.2.2.1 q234 q241)) hS h237 rfl h244 rfl hq409
                      refine WL.fnq hE (hc_) (runs_plain rfl) bd12 rfl rfl rfl ?_
                      clear hE hS hc_; rintro e w ⟨cs410, a412, c413, n414, cs415, a417, c418, n419, cs420, s422, rfl, hle423, h411, h416, rfl, h421, rfl, hS⟩; refine ⟨_, rfl, ?_⟩; clear a; intro a hE
                      replace h291 := Sl.mono RI.mono hle423 h291
                      replace h219 := Sl.mono RI.mono hle423 h219
                      replace h237 := Ev.mono RFareBooking.mono hle423 h237
                      replace h244 := Ev.mono RB.mono hle423 h244
                      replace h223 := Ev.mono RFareBooking.mono hle423 h223
                      replace h230 := Ev.mono RB.mono hle423 h230
                      obtain ⟨a424, c425, rfl, h426⟩ := h411
                      refine WL.vS hS hE (runs_plain rfl) (Gives.p hE rfl) rfl ?_; clear hE a; intro a hE
                      refine WL.vS hS hE (runs_plain rfl) (Gives.p hE rfl) rfl ?_; clear hE a; intro a hE
                      refine WL.vS hS hE (runs_plain rfl) (Gives.p hE rfl) rfl ?_; clear hE a; intro a hE
                      refine WL.alloc hE hS (runs_plain rfl) zr39 rfl ?_; clear hE hS a w; intro b427 a w hE hS
                      refine WL.storeI hE hS 0 rfl [.int .i64 q408.1.No, .int .i64 q408.1.From, .int .i64 q408.1.To, .slice a424 q408.1.Seats.length c425] (runs_plain rfl) rfl rfl rfl ty39 rfl rfl rfl rfl ?_; clear hE hS a w; intro a w hE hS
                      refine WL.vS hS hE (runs_plain rfl) (Gives.p hE rfl) rfl ?_; clear hE a; intro a hE
                      refine WL.nil ?_
                      refine W.seq ?_
                      refine W.region ?_
                      refine WL.vS hS hE (runs_plain rfl) (Gives.p hE rfl) rfl ?_; clear hE a; intro a hE
                      refine WL.vS hS hE (runs_plain rfl) (Gives.p hE rfl) rfl ?_; clear hE a; intro a hE
                      refine WL.vS hS hE (runs_plain rfl) (Gives.p hE rfl) rfl ?_; clear hE a; intro a hE
                      refine WL.vS hS hE (runs_plain rfl) (Gives.p hE rfl) rfl ?_; clear hE a; intro a hE
                      obtain ⟨q428, hq429, hq340⟩ := bindS hq340
                      replace hS := hS.front 5 rfl
                      replace hS := hS.front 5 rfl
                      replace hS := hS.front 6 rfl
                      have hc_ := Fishref2CarBook_v1_ok (y0 := (Fishref2Car.mk x0 x1 x2 q220 q227)) hS h223 rfl h230 rfl hq429
                      refine WL.fnq hE (hc_) (runs_plain rfl) bd13 rfl rfl rfl ?_
                      clear hE hS hc_; rintro e w ⟨cs430, a432, c433, n434, cs435, a437, c438, n439, cs440, s442, rfl, hle443, h431, h436, rfl, h441, rfl, hS⟩; refine ⟨_, rfl, ?_⟩; clear a; intro a hE
                      replace h291 := Sl.mono RI.mono hle443 h291
                      replace h219 := Sl.mono RI.mono hle443 h219
                      replace h426 := Sl.mono RI.mono hle443 h426
                      replace h223 := Ev.mono RFareBooking.mono hle443 h223
                      replace h230 := Ev.mono RB.mono hle443 h230
                      replace h416 := Ev.mono RFareBooking.mono hle443 h416
                      replace h421 := Ev.mono RB.mono hle443 h421
                      obtain ⟨a444, c445, rfl, h446⟩ := h431
                      refine WL.vS hS hE (runs_plain rfl) (Gives.p hE rfl) rfl ?_; clear hE a; intro a hE
                      refine WL.vS hS hE (runs_plain rfl) (Gives.p hE rfl) rfl ?_; clear hE a; intro a hE
                      refine WL.vS hS hE (runs_plain rfl) (Gives.p hE rfl) rfl ?_; clear hE a; intro a hE
                      refine WL.alloc hE hS (runs_plain rfl) zr39 rfl ?_; clear hE hS a w; intro b447 a w hE hS
                      refine WL.storeI hE hS 0 rfl [.int .i64 q428.1.No, .int .i64 q428.1.From, .int .i64 q428.1.To, .slice a444 q428.1.Seats.length c445] (runs_plain rfl) rfl rfl rfl ty39 rfl rfl rfl rfl ?_; clear hE hS a w; intro a w hE hS
                      refine WL.vS hS hE (runs_plain rfl) (Gives.p hE rfl) rfl ?_; clear hE a; intro a hE
                      refine WL.nil ?_
                      refine W.seq ?_
                      obtain ⟨q449, hq448, hq340⟩ := bindS hq340
                      refine W.cut (fun a w => ∃ (q452 : Bool), q452 = q449 ∧ Rep a 135 [(3, .slice a288 x286.length c289), (9, .pointer (some ⟨b58, 0, none⟩)), (12, .pointer (some ⟨b207, 0, none⟩)), (94, .bool q452)] ∧ St w s442 (pt b447 (.cells #[.int .i64 q428.1.No, .int .i64 q428.1.From, .int .i64 q428.1.To, .slice a444 q428.1.Seats.length c445] 39 (0, 0)) :: pt b207 (.cells #[.int .i64 x0, .int .i64 x1, .int .i64 x2, .slice a432 q428.2.2.1.length c433, .slice a437 q428.2.2.2.length c438] 33 (0, 0)) :: vecC 39 4 a432 c433 q428.2.2.1.length cs435 :: vecC 4 1 a437 c438 q428.2.2.2.length cs440 :: pt b427 (.cells #[.int .i64 q408.1.No, .int .i64 q408.1.From, .int .i64 q408.1.To, .slice a424 q408.1.Seats.length c425] 39 (0, 0)) :: pt b58 (.cells #[.int .i64 d57.1, .int .i64 d57.2.1, .int .i64 d57.2.2.1, .slice a412 q408.2.2.1.length c413, .slice a417 q408.2.2.2.length c418] 48 (0, 0)) :: vecC 39 4 a412 c413 q408.2.2.1.length cs415 :: vecC 4 1 a417 c418 q408.2.2.2.length cs420 :: R)) ?_ ?_
                      · refine W.gen fun K453 hK453 => ?_
                        refine W.region ?_
                        refine WL.vS hS hE (runs_plain rfl) (Gives.p hE rfl) rfl ?_; clear hE a; intro a hE
                        refine WL.vS hS hE (runs_plain rfl) (Gives.p hE rfl) rfl ?_; clear hE a; intro a hE
                        refine WL.vS hS hE (runs_plain rfl) (Gives.p hE rfl) rfl ?_; clear hE a; intro a hE
                        refine WL.vS hS hE (runs_plain rfl) (Gives.p hE rfl) rfl ?_; clear hE a; intro a hE
                        rcases Bool.eq_false_or_eq_true (q408.2.1 != q428.2.1) with hg454 | hg454
                        · replace hq448 := iteT hg454 hq448
                          refine WL.no hE (runs_not hE rfl rfl rfl (by rw [hg454]; decide)) rfl ?_; clear hE a; intro a hE
                          refine WL.no hE (runs_not hE rfl rfl rfl (by rw [hg454]; decide)) rfl ?_; clear hE a; intro a hE
                          refine WL.no hE (runs_not hE rfl rfl rfl (by rw [hg454]; decide)) rfl ?_; clear hE a; intro a hE
                          refine WL.no hE (runs_not hE rfl rfl rfl (by rw [hg454]; decide)) rfl ?_; clear hE a; intro a hE
                          refine WL.vS hS hE (runs_plain rfl) (Gives.pickT hE rfl hg454 rfl) rfl ?_; clear hE a; intro a hE
                          refine WL.nil ?_
                          subst hK453
                          exact ⟨true, Option.some.inj hq448, hE.pick _ ⟨rfl, rfl, rfl, rfl, trivial⟩, hS⟩
                        · replace hq448 := iteF hg454 hq448
                          refine WL.vS hS hE (runs_if hE rfl rfl rfl hg454) (Gives.loadBA hE 4 rfl rfl ty39) rfl ?_; clear hE a; intro a hE
                          refine WL.vS hS hE (runs_if hE rfl rfl rfl hg454) (Gives.loadBA hE 0 rfl rfl ty39) rfl ?_; clear hE a; intro a hE
                          obtain ⟨q455, hq456, hq448⟩ := bindS hq448
                          have hc_ := Fishref2SameBooking_ok hS h426 h446 hq456
                          refine WL.fnq hE (hc_) (runs_if hE rfl rfl rfl hg454) bd14 rfl rfl rfl ?_
                          clear hE hS hc_; rintro e w ⟨rfl, hS⟩; refine ⟨_, rfl, ?_⟩; clear a; intro a hE
                          refine WL.vS hS hE (runs_if hE rfl rfl rfl hg454) (Gives.p hE rfl) rfl ?_; clear hE a; intro a hE
                          refine WL.vS hS hE (runs_plain rfl) (Gives.pickF hE rfl hg454 rfl) rfl ?_; clear hE a; intro a hE
                          refine WL.nil ?_
                          subst hK453
                          exact ⟨!q455, Option.some.inj hq448, hE.pick _ ⟨rfl, rfl, rfl, rfl, trivial⟩, hS⟩
                      · clear hE hS a w; rintro a w ⟨q452, rfl, hE, hS⟩
                        refine W.cond hE rfl (fun hc457 => ?_) (fun hc457 => ?_)
                        · replace hq340 := iteT hc457 hq340
                          refine W.seq ?_
                          refine W.region ?_
                          refine WL.vS hS hE (runs_plain rfl) (Gives.p hE rfl) rfl ?_; clear hE a; intro a hE
                          refine WL.nil ?_
                          refine W.ret ?_
                          subst hK372
                          subst hK327
                          subst hK248
                          rw [← Option.some.inj hq340] at hq295
                          dsimp only at hq295
                          rw [← Option.some.inj hq295] at hq210
                          dsimp only at hq210
                          rw [← Option.some.inj hq210] at hr
                          dsimp only at hr
                          refine finG (fn := Try.f3) (rs := [.tmp 8]) (vs := [_]) hE rfl ⟨rfl, trivial⟩ ?_
                          obtain rfl := Option.some.inj hr
                          replace hS := hS.tail
                          replace hS := hS.tail
                          replace hS := hS.tail
                          replace hS := hS.tail
                          replace hS := hS.tail
                          replace hS := hS.tail
                          replace hS := hS.tail
                          replace hS := hS.tail
                          exact ⟨rfl, (hS.down (Sg.Le.trans (Sg.Le.trans (Sg.Le.trans hle56 hle215) hle423) hle443))⟩
                        · replace hq340 := iteF hc457 hq340
                          refine W.skip ?_
                          replace hS := hS.tail
                          replace hS := hS.dropAt 3
                          replace hS := hS.front 5 rfl
                          replace hS := hS.front 5 rfl
                          replace hS := hS.front 5 rfl
                          replace hS := hS.front 3 rfl
                          replace hS := hS.front 5 rfl
                          replace hS := hS.front 5 rfl
                          subst hK372
                          exact ⟨q428.2.2.1, q428.2.2.2, q408.2.2.1, q408.2.2.2, a432, c433, q428.2.2.1.length, cs435, a437, c438, q428.2.2.2.length, cs440, a412, c413, q408.2.2.1.length, cs415, a417, c418, q408.2.2.2.length, cs420, s442, (Sg.Le.trans hle423 hle443), Option.some.inj hq340, h436, rfl, h441, rfl, h416, rfl, h421, rfl, hE.pick _ ⟨rfl, rfl, rfl, trivial⟩, hS⟩
                  · clear hE hS a w; rintro a w ⟨q344, q351, q358, q365, a345, c346, n348, cs349, a352, c353, n355, cs356, a359, c360, n362, cs363, a366, c367, n369, cs370, s342, hle343, rfl, h347, rfl, h354, rfl, h361, rfl, h368, rfl, hE, hS⟩
                    dsimp only at hq295
                    replace h291 := Sl.mono RI.mono hle343 h291
                    replace h223 := Ev.mono RFareBooking.mono hle343 h223
                    replace h230 := Ev.mono RB.mono hle343 h230
                    replace h237 := Ev.mono RFareBooking.mono hle343 h237
                    replace h244 := Ev.mono RB.mono hle343 h244
                    subst hK327
                    exact ⟨q344, q351, q358, q365, a345, c346, q344.length, cs349, a352, c353, q351.length, cs356, a359, c360, q358.length, cs363, a366, c367, q365.length, cs370, s342, hle343, Option.some.inj hq295, h347, rfl, h354, rfl, h361, rfl, h368, rfl, hE.pick _ ⟨rfl, rfl, rfl, trivial⟩, hS⟩
              · clear hE hS a w; rintro a w ⟨q299, q306, q313, q320, a300, c301, n303, cs304, a307, c308, n310, cs311, a314, c315, n317, cs318, a321, c322, n324, cs325, s297, hle298, rfl, h302, rfl, h309, rfl, h316, rfl, h323, rfl, hE, hS⟩
                dsimp only at hq210
                replace h291 := Sl.mono RI.mono hle298 h291
                replace h223 := Ev.mono RFareBooking.mono hle298 h223
                replace h230 := Ev.mono RB.mono hle298 h230
                replace h237 := Ev.mono RFareBooking.mono hle298 h237
                replace h244 := Ev.mono RB.mono hle298 h244
                refine W.seq ?_
                refine W.region ?_
                refine WL.vS hS hE (runs_plain rfl) (Gives.p hE rfl) rfl ?_; clear hE a; intro a hE
                obtain ⟨q458, hq459, hq210⟩ := bindS hq210
                replace hS := hS.front 5 rfl
                replace hS := hS.front 5 rfl
                replace hS := hS.front 5 rfl
                have hc_ := FareCarBookings_v1_ok (y0 := (FareCar.mk d57.1 d57.2.1 d57.2.2.1 q313 q320)) hS h316 rfl h323 rfl hq459
                refine WL.fnq hE (hc_) (runs_plain rfl) bd16 rfl rfl rfl ?_
                clear hE hS hc_; rintro e w ⟨a460, c461, n462, cs463, s466, rfl, hle467, h464, rfl, hS⟩; refine ⟨_, rfl, ?_⟩; clear a; intro a hE
                replace h291 := Sl.mono RI.mono hle467 h291
                replace h316 := Ev.mono RFareBooking.mono hle467 h316
                replace h323 := Ev.mono RB.mono hle467 h323
                replace h302 := Ev.mono RFareBooking.mono hle467 h302
                replace h309 := Ev.mono RB.mono hle467 h309
                refine WL.vS hS hE (runs_plain rfl) (Gives.p hE rfl) rfl ?_; clear hE a; intro a hE
                obtain ⟨q468, hq469, hq210⟩ := bindS hq210
                replace hS := hS.front 5 rfl
                replace hS := hS.front 5 rfl
                replace hS := hS.front 6 rfl
                have hc_ := Fishref2CarBookings_v1_ok (y0 := (Fishref2Car.mk x0 x1 x2 q299 q306)) hS h302 rfl h309 rfl hq469
                refine WL.fnq hE (hc_) (runs_plain rfl) bd17 rfl rfl rfl ?_
                clear hE hS hc_; rintro e w ⟨a470, c471, n472, cs473, rfl, h474, rfl, hS⟩; refine ⟨_, rfl, ?_⟩; clear a; intro a hE
                obtain ⟨q476, hq477, hq210⟩ := bindS hq210
                have hF := hS.lendV RFareBooking.mono 4 rfl h464 rfl; clear hS; obtain ⟨t478, hle479, hS, hs480, bk481⟩ := hF
                have hF := hS.lendV RFareBooking.mono 0 rfl (Ev.mono RFareBooking.mono hle479 h474) rfl; clear hS; obtain ⟨t482, hle483, hS, hs484, bk485⟩ := hF
                have hc_ := SlicesEqualFuncLfareBooking_v1_ok hS (Sl.mono RFareBooking.mono hle483 hs480) hs484 hq477
                refine WL.fnq hE (hc_) (runs_plain rfl) bd15 rfl rfl rfl ?_
                clear hE hS hc_; rintro e w ⟨rfl, hS⟩; refine ⟨_, rfl, ?_⟩; clear a; intro a hE
                replace hS := bk485 _ _ hS
                replace hS := bk481 _ _ hS
                refine WL.vS hS hE (runs_plain rfl) (Gives.p hE rfl) rfl ?_; clear hE a; intro a hE
                refine WL.nil ?_
                refine W.cond hE rfl (fun hc486 => ?_) (fun hc486 => ?_)
                · replace hq210 := iteT hc486 hq210
                  refine W.seq ?_
                  refine W.region ?_
                  refine WL.vS hS hE (runs_plain rfl) (Gives.p hE rfl) rfl ?_; clear hE a; intro a hE
                  refine WL.nil ?_
                  refine W.ret ?_
                  subst hK248
                  rw [← Option.some.inj hq210] at hr
                  dsimp only at hr
                  refine finG (fn := Try.f3) (rs := [.tmp 8]) (vs := [_]) hE rfl ⟨rfl, trivial⟩ ?_
                  obtain rfl := Option.some.inj hr
                  replace hS := hS.tail
                  replace hS := hS.tail
                  replace hS := hS.tail
                  replace hS := hS.tail
                  replace hS := hS.tail
                  replace hS := hS.tail
                  replace hS := hS.tail
                  replace hS := hS.tail
                  exact ⟨rfl, (hS.down (Sg.Le.trans (Sg.Le.trans (Sg.Le.trans hle56 hle215) hle298) hle467))⟩
                · replace hq210 := iteF hc486 hq210
                  refine W.skip ?_
                  replace hS := hS.tail
                  replace hS := hS.tail
                  replace hS := hS.front 5 rfl
                  replace hS := hS.front 5 rfl
                  replace hS := hS.front 5 rfl
                  replace hS := hS.front 3 rfl
                  replace hS := hS.front 5 rfl
                  replace hS := hS.front 5 rfl
                  subst hK248
                  exact ⟨n212, Nat.lt_succ_self _, n212, x286, q299, q306, q313, q320, a288, c289, a300, c301, q299.length, cs304, a307, c308, q306.length, cs311, a314, c315, q313.length, cs318, a321, c322, q320.length, cs325, s466, rfl, (Sg.Le.trans (Sg.Le.trans hle215 hle298) hle467), hq210, h291, h302, rfl, h309, rfl, h316, rfl, h323, rfl, hE.pick _ ⟨rfl, rfl, rfl, trivial⟩, hS⟩
            · replace hq210 := iteF hc249 hq210
              subst hK248
              refine W.exit rfl ?_
              exact ⟨q216, q220, q227, q234, q241, a217, c218, a221, c222, q220.length, cs225, a228, c229, q227.length, cs232, a235, c236, q234.length, cs239, a242, c243, q241.length, cs246, s214, hle215, Option.some.inj hq210, h219, h223, rfl, h230, rfl, h237, rfl, h244, rfl, hE.pick _ trivial, hS⟩
          · clear hE hS a w; rintro a w ⟨q216, q220, q227, q234, q241, a217, c218, a221, c222, n224, cs225, a228, c229, n231, cs232, a235, c236, n238, cs239, a242, c243, n245, cs246, s214, hle215, rfl, h219, h223, rfl, h230, rfl, h237, rfl, h244, rfl, hE, hS⟩
            dsimp only at hr
            replace h3 := Sl.mono RI.mono hle215 h3
            replace h63 := Ev.mono RFareBooking.mono hle215 h63
            replace h69 := Ev.mono RB.mono hle215 h69
            refine W.seq ?_
            refine W.region ?_
            refine WL.vS hS hE (runs_plain rfl) (Gives.p hE rfl) rfl ?_; clear hE a; intro a hE
            refine WL.nil ?_
            refine W.ret ?_
            refine finG (fn := Try.f3) (rs := [.tmp 8]) (vs := [_]) hE rfl ⟨rfl, trivial⟩ ?_
            obtain rfl := Option.some.inj hr
            replace hS := hS.tail
            replace hS := hS.tail
            replace hS := hS.tail
            replace hS := hS.tail
            replace hS := hS.tail
            replace hS := hS.tail
            exact ⟨rfl, (hS.down (Sg.Le.trans hle56 hle215))⟩
end Go.Proofs.Yteeeklfggbfenaa
