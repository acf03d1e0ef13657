/- The walks of the functions that FareSettles reaches: each call comes to what its mirror says. The conditions are those of each contract. -/
import Derived.Test.YtdioaeeaifahnaaProg
import Derived.Test.YtdioaeeaifahnaaFareSettlesM
import Derived.Test.YtdioaeeaifahnaaFpMore
import Derived.Test.YtdioaeeaifahnaaFareSettlesW2
namespace Go.Proofs.Ytdioaeeaifahnaa
open Go Go.Fp
set_option maxHeartbeats 8000000 in
theorem Fishref2PaymentsOf_ok {fu : Nat}  {w : World} {s : Sg} {R : List HP} {x0 : List Int} {a0 : Option Addr} {c0 : Nat} (hS : St w s (R)) (h0 : Sl 1 (RI .i64) s a0 c0 x0) {r : Int} (hr : Fishref2PaymentsOf fu x0 = some r) :
    Calls Try.prog 28 [.slice a0 x0.length c0].toArray w (fun e w => e = .returned (.int .i64 r) ∧ St w s (R)) := by
  refine enter Try.func28 rfl rfl rfl fun a hE => ?_
  rw [Fishref2PaymentsOf] at hr
  refine W.seq ?_
  refine W.region ?_
  refine WL.vS hS hE (runs_plain rfl) (Gives.p hE rfl) rfl ?_; clear hE a; intro a hE
  refine WL.nil ?_
  refine W.seq ?_
  refine W.region ?_
  replace hS := hS.vecNil 3 1
  refine WL.vS hS hE (runs_plain rfl) (Gives.p hE rfl) rfl ?_; clear hE a; intro a hE
  refine WL.nil ?_
  refine W.seq ?_
  refine W.seq ?_
  refine W.region ?_
  refine WL.vS hS hE (runs_plain rfl) (Gives.p hE rfl) rfl ?_; clear hE a; intro a hE
  refine WL.vS hS hE (runs_plain rfl) (Gives.len hE rfl sl41) rfl ?_; clear hE a; intro a hE
  refine WL.vS hS hE (runs_plain rfl) (Gives.p hE rfl) rfl ?_; clear hE a; intro a hE
  refine WL.nil ?_
  obtain ⟨q53, hq52, hr⟩ := bindS hr
  refine W.cut (fun a w => ∃ (q63 : List Int), ∃ (a64 : Option Addr), ∃ (c65 : Nat), ∃ (n67 : Nat), ∃ (cs68 : List Value), q63 = q53 ∧ Ev 1 (RI .i64) s cs68 q63 ∧ q63.length = n67 ∧ Rep a 94 [(3, .slice a64 n67 c65)] ∧ St w s (vecC 3 1 a64 c65 n67 cs68 :: R)) ?_ ?_
  · refine W.block ?_
    refine W.loop (fun m a w => ∃ (rest56 : List Int) (k54 : Nat), ∃ (q63 : List Int), ∃ (a64 : Option Addr), ∃ (c65 : Nat), ∃ (n67 : Nat), ∃ (cs68 : List Value), rest56.length = m ∧ x0.drop k54 = rest56 ∧ Fishref2PaymentsOf.loop1 rest56 q63 = some q53 ∧ Ev 1 (RI .i64) s cs68 q63 ∧ q63.length = n67 ∧ Rep a 94 [(3, .slice a64 n67 c65), (12, .slice a0 x0.length c0), (13, .int .i64 ((x0).length : Int)), (14, .int .i64 ((k54 : Nat) : Int))] ∧ St w s (vecC 3 1 a64 c65 n67 cs68 :: R)) (m := x0.length) ⟨x0, 0, [], none, 0, 0, [], rfl, rfl, hq52, (Ev.nil), (rfl), hE.pick _ ⟨rfl, rfl, rfl, rfl, trivial⟩, hS⟩ ?_
    clear hE hS a w hq52; rintro m60 a w ⟨rest56, k54, q63, a64, c65, n67, cs68, rfl, hd57, hq52, h66, rfl, hE, hS⟩
    refine W.gen fun K70 hK70 => ?_
    rcases rest56 with _ | ⟨x55, rest56⟩
    · have hlt58 := drop_nil hd57
      refine W.seq ?_
      refine W.region ?_
      refine WL.vS hS hE (runs_plain rfl) (Gives.p hE rfl) rfl ?_; clear hE a; intro a hE
      refine WL.nil ?_
      refine W.seq ?_
      refine W.condF hE rfl (decide_eq_false (by omega)) ?_
      subst hK70
      refine W.exit rfl ?_
      exact ⟨q63, a64, c65, q63.length, cs68, Option.some.inj hq52, h66, rfl, hE.pick _ ⟨rfl, trivial⟩, hS⟩
    · obtain ⟨hlt58, hx59, hd57⟩ := drop_cons hd57
      rw [Fishref2PaymentsOf.loop1] at hq52
      refine W.seq ?_
      refine W.region ?_
      refine WL.vS hS hE (runs_plain rfl) (Gives.p hE rfl) rfl ?_; clear hE a; intro a hE
      refine WL.nil ?_
      refine W.seq ?_
      refine W.condT hE rfl (decide_eq_true (by omega)) ?_
      refine W.skip ?_
      refine W.seq ?_
      refine W.block ?_
      refine W.seq ?_
      refine W.region ?_
      obtain ⟨cs71, hl72, hR73, hat74⟩ := h0.at hx59
      subst hR73
      refine WL.vS hS hE (runs_plain rfl) (Gives.idx hE k54 rfl rfl sl41 rfl hlt58 (h0.aok hlt58)) rfl ?_; clear hE a; intro a hE
      refine WL.vS hS hE (runs_plain rfl) (Gives.load1 hE rfl (fun w h => hat74 w _ h) ty3) rfl ?_; clear hE a; intro a hE
      refine WL.vS hS hE (runs_plain rfl) (Gives.p hE rfl) rfl ?_; clear hE a; intro a hE
      refine WL.nil ?_
      refine W.seq ?_
      refine W.region ?_
      refine WL.vS hS hE (runs_plain rfl) (Gives.p hE rfl) rfl ?_; clear hE a; intro a hE
      refine WL.vS hS hE (runs_plain rfl) (Gives.p hE rfl) rfl ?_; clear hE a; intro a hE
      refine WL.nil ?_
      obtain ⟨q76, hq75, hq52⟩ := bindS hq52
      refine W.cut (fun a w => ∃ (q79 : List Int), ∃ (a80 : Option Addr), ∃ (c81 : Nat), ∃ (n83 : Nat), ∃ (cs84 : List Value), q79 = q76 ∧ Ev 1 (RI .i64) s cs84 q79 ∧ q79.length = n83 ∧ Rep a 94 [(3, .slice a80 n83 c81), (12, .slice a0 x0.length c0), (13, .int .i64 ((x0).length : Int)), (14, .int .i64 ((k54 : Nat) : Int))] ∧ St w s (vecC 3 1 a80 c81 n83 cs84 :: R)) ?_ ?_
      · refine W.gen fun K86 hK86 => ?_
        refine W.cond hE rfl (fun hc87 => ?_) (fun hc87 => ?_)
        · replace hq75 := iteT hc87 hq75
          refine W.region ?_
          refine WL.vS hS hE (runs_plain rfl) (Gives.p hE rfl) rfl ?_; clear hE a; intro a hE
          refine WL.vS hS hE (runs_plain rfl) (Gives.p hE rfl) rfl ?_; clear hE a; intro a hE
          refine WL.lit hE hS (e := 3) (es := 1) (vs := [(0, .int .i64 x55)]) (cs := [.int .i64 x55]) (runs_plain rfl) rfl (by kernel_rfl) rfl ?_; clear hE hS a w; intro b88 a w hE hS
          obtain ⟨x89, hx90, hq75⟩ := bindS hq75
          refine WL.appD hE hS 0 (m := 1) (runs_plain rfl) rfl rfl rfl ap41 rfl h66 rfl (xs := [x55]) (Ev.cons (c1 := [.int .i64 x55]) rfl rfl (Ev.nil)) rfl rfl hx90 rfl ?_; clear hE hS a w; intro a91 c92 cs93 a w h94 hE hS
          refine WL.vS hS hE (runs_plain rfl) (Gives.p hE rfl) rfl ?_; clear hE a; intro a hE
          refine WL.nil ?_
          subst hK86
          exact ⟨x89, a91, c92, x89.length, cs93, Option.some.inj hq75, h94, (rfl), hE.pick _ ⟨rfl, rfl, rfl, rfl, trivial⟩, hS⟩
        · replace hq75 := iteF hc87 hq75
          refine W.skip ?_
          subst hK86
          exact ⟨q63, a64, c65, q63.length, cs68, Option.some.inj hq75, h66, rfl, hE.pick _ ⟨rfl, rfl, rfl, rfl, trivial⟩, hS⟩
      · clear hE hS a w; rintro a w ⟨q79, a80, c81, n83, cs84, rfl, h82, rfl, hE, hS⟩
        refine W.region ?_
        refine WL.vS hS hE (runs_plain rfl) (Gives.inc hE rfl (by have := h0.small; omega)) rfl ?_; clear hE a; intro a hE
        refine WL.vS hS hE (runs_plain rfl) (Gives.p hE rfl) rfl ?_; clear hE a; intro a hE
        refine WL.nil ?_
        subst hK70
        exact ⟨rest56.length, Nat.lt_succ_self _, rest56, k54 + 1, q79, a80, c81, q79.length, cs84, rfl, hd57, hq52, h82, rfl, hE.pick _ ⟨rfl, rfl, rfl, rfl, trivial⟩, hS⟩
  · clear hE hS a w; rintro a w ⟨q63, a64, c65, n67, cs68, rfl, h66, rfl, hE, hS⟩
    refine W.seq ?_
    refine W.region ?_
    refine WL.vS hS hE (runs_plain rfl) (Gives.p hE rfl) rfl ?_; clear hE a; intro a hE
    refine WL.vS hS hE (runs_plain rfl) (Gives.len hE rfl sl41) rfl ?_; clear hE a; intro a hE
    refine WL.vS hS hE (runs_plain rfl) (Gives.shl hE rfl rfl (by omega)) rfl ?_; clear hE a; intro a hE
    obtain ⟨x95, hx96, hr⟩ := bindS hr
    refine WL.mkD (Rr := RI .i64) hE hS (runs_plain rfl) rfl rfl ap41 zr3 rfl hx96 rfl ?_; clear hE hS a w; intro b97 cs98 a w h99 hE hS
    refine WL.vS hS hE (runs_plain rfl) (Gives.p hE rfl) rfl ?_; clear hE a; intro a hE
    refine WL.nil ?_
    refine W.seq ?_
    refine W.seq ?_
    refine W.region ?_
    refine WL.vS hS hE (runs_plain rfl) (Gives.p hE rfl) rfl ?_; clear hE a; intro a hE
    refine WL.nil ?_
    obtain ⟨q102, hq101, hr⟩ := bindS hr
    refine W.cut (fun a w => ∃ (q107 : Int), ∃ (q108 : List Int), ∃ (cs112 : List Value), (q107, q108) = q102 ∧ Ev 1 (RI .i64) s cs112 q108 ∧ q108.length = x95.length ∧ Rep a 94 [(3, .slice a64 q63.length c65), (6, .slice (some ⟨b97, 0, none⟩) x95.length x95.length)] ∧ St w s (vecC 3 1 (some ⟨b97, 0, none⟩) x95.length x95.length cs112 :: vecC 3 1 a64 c65 q63.length cs68 :: R)) ?_ ?_
    · refine W.block ?_
      refine W.loop (fun m a w => ∃ (n103 : Nat), ∃ (q107 : Int), ∃ (q108 : List Int), ∃ (cs112 : List Value), n103 = m ∧ Fishref2PaymentsOf.loop2 q63 x95 n103 q107 q108 = some q102 ∧ Ev 1 (RI .i64) s cs112 q108 ∧ q108.length = x95.length ∧ Rep a 94 [(3, .slice a64 q63.length c65), (6, .slice (some ⟨b97, 0, none⟩) x95.length x95.length), (7, .int .i64 q107)] ∧ St w s (vecC 3 1 (some ⟨b97, 0, none⟩) x95.length x95.length cs112 :: vecC 3 1 a64 c65 q63.length cs68 :: R)) (m := fu) ⟨fu, 1, x95, cs98, rfl, hq101, h99, (rfl), hE.pick _ ⟨rfl, rfl, rfl, trivial⟩, hS⟩ ?_
      clear hE hS a w hq101; rintro m104 a w ⟨n103, q107, q108, cs112, rfl, hq101, h111, hn113, hE, hS⟩
      refine W.gen fun K114 hK114 => ?_
      rcases n103 with _ | n103
      · rw [Fishref2PaymentsOf.loop2] at hq101; exact absurd hq101 (by simp)
      rw [Fishref2PaymentsOf.loop2] at hq101
      refine W.seq ?_
      refine W.seq ?_
      refine W.region ?_
      refine WL.vS hS hE (runs_plain rfl) (Gives.p hE rfl) rfl ?_; clear hE a; intro a hE
      refine WL.vS hS hE (runs_plain rfl) (Gives.p hE rfl) rfl ?_; clear hE a; intro a hE
      refine WL.vS hS hE (runs_plain rfl) (Gives.len hE rfl sl41) rfl ?_; clear hE a; intro a hE
      refine WL.vS hS hE (runs_plain rfl) (Gives.p hE rfl) rfl ?_; clear hE a; intro a hE
      refine WL.nil ?_
      refine W.cond hE rfl (fun hc115 => ?_) (fun hc115 => ?_)
      · replace hq101 := iteT hc115 hq101
        refine W.skip ?_
        refine W.seq ?_
        refine W.block ?_
        refine W.seq ?_
        refine W.region ?_
        refine WL.vS hS hE (runs_plain rfl) (Gives.p hE rfl) rfl ?_; clear hE a; intro a hE
        refine WL.nil ?_
        refine W.seq ?_
        refine W.seq ?_
        refine W.region ?_
        refine WL.vS hS hE (runs_plain rfl) (Gives.p hE rfl) rfl ?_; clear hE a; intro a hE
        refine WL.vS hS hE (runs_plain rfl) (Gives.len hE rfl sl41) rfl ?_; clear hE a; intro a hE
        refine WL.vS hS hE (runs_plain rfl) (Gives.p hE rfl) rfl ?_; clear hE a; intro a hE
        refine WL.nil ?_
        have hb127 : q63.length ≤ 9223372036854775807 := by have := hS.vecCap 1 rfl; unfold maxLen at this; omega
        obtain ⟨q117, hq116, hq101⟩ := bindS hq101
        refine W.cut (fun a w => ∃ (q128 : Int), q128 = q117 ∧ Rep a 94 [(3, .slice a64 q63.length c65), (6, .slice (some ⟨b97, 0, none⟩) x95.length x95.length), (7, .int .i64 q107), (8, .int .i64 q128)] ∧ St w s (vecC 3 1 (some ⟨b97, 0, none⟩) x95.length x95.length cs112 :: vecC 3 1 a64 c65 q63.length cs68 :: R)) ?_ ?_
        · refine W.block ?_
          refine W.loop (fun m a w => ∃ (rest120 : Nat) (k118 : Nat), ∃ (q128 : Int), rest120 = m ∧ k118 + rest120 = q63.length ∧ Fishref2PaymentsOf.loop3 q63 q107 rest120 k118 q128 = some q117 ∧ Rep a 94 [(3, .slice a64 q63.length c65), (6, .slice (some ⟨b97, 0, none⟩) x95.length x95.length), (7, .int .i64 q107), (8, .int .i64 q128), (35, .slice a64 q63.length c65), (36, .int .i64 ((q63.length : Nat) : Int)), (37, .int .i64 ((k118 : Nat) : Int))] ∧ St w s (vecC 3 1 (some ⟨b97, 0, none⟩) x95.length x95.length cs112 :: vecC 3 1 a64 c65 q63.length cs68 :: R)) (m := q63.length) ⟨q63.length, 0, 0, rfl, by omega, hq116, hE.pick _ ⟨rfl, rfl, rfl, rfl, rfl, rfl, rfl, trivial⟩, hS⟩ ?_
          clear hE hS a w hq116; rintro m124 a w ⟨rest120, k118, q128, rfl, hd121, hq116, hE, hS⟩
          refine W.gen fun K129 hK129 => ?_
          rcases rest120 with _ | rest120
          · skip
            refine W.seq ?_
            refine W.region ?_
            refine WL.vS hS hE (runs_plain rfl) (Gives.p hE rfl) rfl ?_; clear hE a; intro a hE
            refine WL.nil ?_
            refine W.seq ?_
            refine W.condF hE rfl (decide_eq_false (by omega)) ?_
            subst hK129
            refine W.exit rfl ?_
            exact ⟨q128, Option.some.inj hq116, hE.pick _ ⟨rfl, rfl, rfl, rfl, trivial⟩, hS⟩
          · have hlt122 : k118 < q63.length := by omega
            rw [Fishref2PaymentsOf.loop3] at hq116
            refine W.seq ?_
            refine W.region ?_
            refine WL.vS hS hE (runs_plain rfl) (Gives.p hE rfl) rfl ?_; clear hE a; intro a hE
            refine WL.nil ?_
            refine W.seq ?_
            refine W.condT hE rfl (decide_eq_true (by omega)) ?_
            refine W.skip ?_
            refine W.seq ?_
            refine W.block ?_
            refine W.seq ?_
            refine W.region ?_
            refine WL.vS hS hE (runs_plain rfl) (Gives.p hE rfl) rfl ?_; clear hE a; intro a hE
            obtain ⟨x130, hx131, hq116⟩ := bindS hq116
            obtain ⟨hi132, hlt133, hy134⟩ := gx_some hx131
            obtain ⟨vs135, hl136, hR137, hd138, hget139⟩ := h66.at hy134
            subst hR137
            refine WL.vS hS hE (runs_plain rfl) (Gives.idx hE ((((k118 : Nat) : Int)).toNat) rfl rfl sl41 hi132 (by omega) (hS.vecAok 1 rfl (by omega : (((k118 : Nat) : Int)).toNat < q63.length))) rfl ?_; clear hE a; intro a hE
            refine WL.vS hS hE (runs_plain rfl) (Gives.load1 hE rfl (fun w h => St.vecSees h 1 rfl ((((k118 : Nat) : Int)).toNat * 1) _ hget139) ty3) rfl ?_; clear hE a; intro a hE
            refine WL.vS hS hE (runs_plain rfl) (Gives.p hE rfl) rfl ?_; clear hE a; intro a hE
            refine WL.vS hS hE (runs_plain rfl) (Gives.p hE rfl) rfl ?_; clear hE a; intro a hE
            refine WL.nil ?_
            refine W.seq ?_
            refine W.region ?_
            refine WL.vS hS hE (runs_plain rfl) (Gives.p hE rfl) rfl ?_; clear hE a; intro a hE
            refine WL.vS hS hE (runs_plain rfl) (Gives.p hE rfl) rfl ?_; clear hE a; intro a hE
            refine WL.vS hS hE (runs_plain rfl) (Gives.shr hE rfl rfl (by omega)) rfl ?_; clear hE a; intro a hE
            refine WL.vS hS hE (runs_plain rfl) (Gives.p hE rfl) rfl ?_; clear hE a; intro a hE
            refine WL.vS hS hE (runs_plain rfl) (Gives.p hE rfl) rfl ?_; clear hE a; intro a hE
            refine WL.nil ?_
            obtain ⟨q141, hq140, hq116⟩ := bndS hq116
            refine W.cut (fun a w => ∃ (q144 : Int), q144 = q141 ∧ Rep a 94 [(3, .slice a64 q63.length c65), (6, .slice (some ⟨b97, 0, none⟩) x95.length x95.length), (7, .int .i64 q107), (8, .int .i64 q144), (35, .slice a64 q63.length c65), (36, .int .i64 ((q63.length : Nat) : Int)), (37, .int .i64 ((k118 : Nat) : Int))] ∧ St w s (vecC 3 1 (some ⟨b97, 0, none⟩) x95.length x95.length cs112 :: vecC 3 1 a64 c65 q63.length cs68 :: R)) ?_ ?_
            · refine W.gen fun K145 hK145 => ?_
              refine W.cond hE rfl (fun hc146 => ?_) (fun hc146 => ?_)
              · replace hq140 := iteT hc146 hq140
                refine W.region ?_
                refine WL.vS hS hE (runs_plain rfl) (Gives.p hE rfl) rfl ?_; clear hE a; intro a hE
                refine WL.vS hS hE (runs_plain rfl) (Gives.p hE rfl) rfl ?_; clear hE a; intro a hE
                refine WL.vS hS hE (runs_plain rfl) (Gives.p hE rfl) rfl ?_; clear hE a; intro a hE
                refine WL.vS hS hE (runs_plain rfl) (Gives.p hE rfl) rfl ?_; clear hE a; intro a hE
                refine WL.nil ?_
                subst hK145
                exact ⟨w64 (q128 + x130), hq140, hE.pick _ ⟨rfl, rfl, rfl, rfl, rfl, rfl, rfl, trivial⟩, hS⟩
              · replace hq140 := iteF hc146 hq140
                refine W.skip ?_
                subst hK145
                exact ⟨q128, hq140, hE.pick _ ⟨rfl, rfl, rfl, rfl, rfl, rfl, rfl, trivial⟩, hS⟩
            · clear hE hS a w; rintro a w ⟨q144, rfl, hE, hS⟩
              refine W.region ?_
              refine WL.vS hS hE (runs_plain rfl) (Gives.inc hE rfl (by omega)) rfl ?_; clear hE a; intro a hE
              refine WL.vS hS hE (runs_plain rfl) (Gives.p hE rfl) rfl ?_; clear hE a; intro a hE
              refine WL.nil ?_
              subst hK129
              exact ⟨rest120, Nat.lt_succ_self _, rest120, k118 + 1, q144, rfl, (by omega), hq116, hE.pick _ ⟨rfl, rfl, rfl, rfl, rfl, rfl, rfl, trivial⟩, hS⟩
        · clear hE hS a w; rintro a w ⟨q128, rfl, hE, hS⟩
          refine W.seq ?_
          refine W.seq ?_
          refine W.region ?_
          refine WL.vS hS hE (runs_plain rfl) (Gives.p hE rfl) rfl ?_; clear hE a; intro a hE
          refine WL.vS hS hE (runs_plain rfl) (Gives.len hE rfl sl41) rfl ?_; clear hE a; intro a hE
          refine WL.vS hS hE (runs_plain rfl) (Gives.p hE rfl) rfl ?_; clear hE a; intro a hE
          refine WL.nil ?_
          have hb158 : q63.length ≤ 9223372036854775807 := by have := hS.vecCap 1 rfl; unfold maxLen at this; omega
          obtain ⟨q148, hq147, hq101⟩ := bindS hq101
          refine W.cut (fun a w => ∃ (q159 : List Int), ∃ (cs163 : List Value), q159 = q148 ∧ Ev 1 (RI .i64) s cs163 q159 ∧ q159.length = x95.length ∧ Rep a 94 [(3, .slice a64 q63.length c65), (6, .slice (some ⟨b97, 0, none⟩) x95.length x95.length), (7, .int .i64 q107), (8, .int .i64 q128)] ∧ St w s (vecC 3 1 (some ⟨b97, 0, none⟩) x95.length x95.length cs163 :: vecC 3 1 a64 c65 q63.length cs68 :: R)) ?_ ?_
          · refine W.block ?_
            refine W.loop (fun m a w => ∃ (rest151 : Nat) (k149 : Nat), ∃ (q159 : List Int), ∃ (cs163 : List Value), rest151 = m ∧ k149 + rest151 = q63.length ∧ Fishref2PaymentsOf.loop4 q107 rest151 k149 q159 = some q148 ∧ Ev 1 (RI .i64) s cs163 q159 ∧ q159.length = x95.length ∧ Rep a 94 [(3, .slice a64 q63.length c65), (6, .slice (some ⟨b97, 0, none⟩) x95.length x95.length), (7, .int .i64 q107), (8, .int .i64 q128), (52, .int .i64 ((q63.length : Nat) : Int)), (53, .int .i64 ((k149 : Nat) : Int))] ∧ St w s (vecC 3 1 (some ⟨b97, 0, none⟩) x95.length x95.length cs163 :: vecC 3 1 a64 c65 q63.length cs68 :: R)) (m := q63.length) ⟨q63.length, 0, q108, cs112, rfl, by omega, hq147, h111, hn113, hE.pick _ ⟨rfl, rfl, rfl, rfl, rfl, rfl, trivial⟩, hS⟩ ?_
            clear hE hS a w hq147; rintro m155 a w ⟨rest151, k149, q159, cs163, rfl, hd152, hq147, h162, hn164, hE, hS⟩
            refine W.gen fun K165 hK165 => ?_
            rcases rest151 with _ | rest151
            · skip
              refine W.seq ?_
              refine W.region ?_
              refine WL.vS hS hE (runs_plain rfl) (Gives.p hE rfl) rfl ?_; clear hE a; intro a hE
              refine WL.nil ?_
              refine W.seq ?_
              refine W.condF hE rfl (decide_eq_false (by omega)) ?_
              subst hK165
              refine W.exit rfl ?_
              exact ⟨q159, cs163, Option.some.inj hq147, h162, hn164, hE.pick _ ⟨rfl, rfl, rfl, rfl, trivial⟩, hS⟩
            · have hlt153 : k149 < q63.length := by omega
              rw [Fishref2PaymentsOf.loop4] at hq147
              refine W.seq ?_
              refine W.region ?_
              refine WL.vS hS hE (runs_plain rfl) (Gives.p hE rfl) rfl ?_; clear hE a; intro a hE
              refine WL.nil ?_
              refine W.seq ?_
              refine W.condT hE rfl (decide_eq_true (by omega)) ?_
              refine W.skip ?_
              refine W.seq ?_
              refine W.block ?_
              refine W.seq ?_
              refine W.region ?_
              refine WL.vS hS hE (runs_plain rfl) (Gives.p hE rfl) rfl ?_; clear hE a; intro a hE
              refine WL.vS hS hE (runs_plain rfl) (Gives.p hE rfl) rfl ?_; clear hE a; intro a hE
              refine WL.nil ?_
              refine W.seq ?_
              refine W.region ?_
              refine WL.vS hS hE (runs_plain rfl) (Gives.p hE rfl) rfl ?_; clear hE a; intro a hE
              refine WL.vS hS hE (runs_plain rfl) (Gives.p hE rfl) rfl ?_; clear hE a; intro a hE
              refine WL.vS hS hE (runs_plain rfl) (Gives.shr hE rfl rfl (by omega)) rfl ?_; clear hE a; intro a hE
              refine WL.vS hS hE (runs_plain rfl) (Gives.p hE rfl) rfl ?_; clear hE a; intro a hE
              refine WL.vS hS hE (runs_plain rfl) (Gives.p hE rfl) rfl ?_; clear hE a; intro a hE
              refine WL.nil ?_
              obtain ⟨q167, hq166, hq147⟩ := bindS hq147
              refine W.cut (fun a w => ∃ (q170 : List Int), ∃ (cs174 : List Value), q170 = q167 ∧ Ev 1 (RI .i64) s cs174 q170 ∧ q170.length = x95.length ∧ Rep a 94 [(3, .slice a64 q63.length c65), (6, .slice (some ⟨b97, 0, none⟩) x95.length x95.length), (7, .int .i64 q107), (8, .int .i64 q128), (52, .int .i64 ((q63.length : Nat) : Int)), (53, .int .i64 ((k149 : Nat) : Int))] ∧ St w s (vecC 3 1 (some ⟨b97, 0, none⟩) x95.length x95.length cs174 :: vecC 3 1 a64 c65 q63.length cs68 :: R)) ?_ ?_
              · refine W.gen fun K176 hK176 => ?_
                refine W.cond hE rfl (fun hc177 => ?_) (fun hc177 => ?_)
                · replace hq166 := iteT hc177 hq166
                  refine W.gen fun K178 hK178 => ?_
                  refine W.regionE (sel (fun w => St w s (vecC 3 1 (some ⟨b97, 0, none⟩) x95.length x95.length cs163 :: vecC 3 1 a64 c65 q63.length cs68 :: R)) (fun w => St w s (vecC 3 1 a64 c65 q63.length cs68 :: R))) (fun b i => cond b ([0, 1, 2, 3, 4, 5, 6, 7, 8, 9, 10, 11, 12, 13, 14].contains i) ([0, 1, 2, 3, 4, 5, 6, 7, 8, 9, 10, 11, 12, 13, 14, 15].contains i)) mixed ?_
                  replace hS := hS.drew
                  refine Rg.takeP (i := 0) hE rfl (by kernel_rfl) (runs_plain rfl) (Gives.p hE rfl) rfl (tw_sel (fun _ => hS) (fun _ => (hS.tail))) ?_; clear hE a; intro a hE
                  refine Rg.takeP (i := 1) hE rfl (by kernel_rfl) (runs_plain rfl) (Gives.p hE rfl) rfl (tw_sel (fun _ => hS) (fun _ => (hS.tail))) ?_; clear hE a; intro a hE
                  refine Rg.takeP (i := 2) hE rfl (by kernel_rfl) (runs_plain rfl) (Gives.p hE rfl) rfl (tw_sel (fun _ => hS) (fun _ => (hS.tail))) ?_; clear hE a; intro a hE
                  refine Rg.takeP (i := 3) hE rfl (by kernel_rfl) (runs_plain rfl) (Gives.p hE rfl) rfl (tw_sel (fun _ => hS) (fun _ => (hS.tail))) ?_; clear hE a; intro a hE
                  obtain ⟨x179, hx180, hq166⟩ := bindS hq166
                  obtain ⟨hi181, hlt182, hy183⟩ := gx_some hx180
                  obtain ⟨vs184, hl185, hR186, hd187, hget188⟩ := h162.at hy183
                  subst hR186
                  refine Rg.takeP (i := 4) hE rfl (by kernel_rfl) (runs_plain rfl) (Gives.idx hE ((q107).toNat) rfl rfl sl41 hi181 (by have := hn164; omega) (hS.vecAok 0 rfl (by have := hn164; omega : (q107).toNat < x95.length))) rfl (tw_sel (fun _ => hS) (fun _ => (hS.tail))) ?_; clear hE a; intro a hE
                  have hT := tw_sel (A := fun w => St w s (vecC 3 1 (some ⟨b97, 0, none⟩) x95.length x95.length cs163 :: vecC 3 1 a64 c65 q63.length cs68 :: R)) (B := fun w => St w s (vecC 3 1 a64 c65 q63.length cs68 :: R)) (w := _) (x := true) (y := true) (fun _ => hS) (fun _ => (hS.tail))
                  have hF := hS; replace hS := hS
                  refine Rg.take (i := 5) true rfl hE rfl (by kernel_rfl) (runs_plain rfl) (Gives.load1 hE rfl (fun w h => St.vecSees h 0 rfl ((q107).toNat * 1) _ hget188) ty3) rfl hT ?_; clear hE a; intro a hE
                  replace hS := hF; clear hF hT
                  refine Rg.takeP (i := 6) hE rfl (by kernel_rfl) (runs_plain rfl) (Gives.p hE rfl) rfl (tw_sel (fun _ => hS) (fun _ => (hS.tail))) ?_; clear hE a; intro a hE
                  refine Rg.takeP (i := 7) hE rfl (by kernel_rfl) (runs_plain rfl) (Gives.p hE rfl) rfl (tw_sel (fun _ => hS) (fun _ => (hS.tail))) ?_; clear hE a; intro a hE
                  refine Rg.takeP (i := 8) hE rfl (by kernel_rfl) (runs_plain rfl) (Gives.p hE rfl) rfl (tw_sel (fun _ => hS) (fun _ => (hS.tail))) ?_; clear hE a; intro a hE
                  refine Rg.takeP (i := 9) hE rfl (by kernel_rfl) (runs_plain rfl) (Gives.shl hE rfl rfl (by omega)) rfl (tw_sel (fun _ => hS) (fun _ => (hS.tail))) ?_; clear hE a; intro a hE
                  refine Rg.takeP (i := 10) hE rfl (by kernel_rfl) (runs_plain rfl) (Gives.p hE rfl) rfl (tw_sel (fun _ => hS) (fun _ => (hS.tail))) ?_; clear hE a; intro a hE
                  obtain ⟨x189, hx190, hq166⟩ := bindS hq166
                  obtain ⟨hi191, hlt192, hy193⟩ := gx_some hx190
                  obtain ⟨vs194, hl195, hR196, hd197, hget198⟩ := h162.at hy193
                  subst hR196
                  refine Rg.takeP (i := 11) hE rfl (by kernel_rfl) (runs_plain rfl) (Gives.idx hE ((IntKind.wrap .i64 ((BitVec.ofInt (IntKind.bits .i64) q107 &&& ~~~ BitVec.ofInt (IntKind.bits .i64) (IntKind.wrap .i64 (1 * (2 ^ (min (Int.toNat ((k149 : Nat) : Int)) (IntKind.bits .i64)))))).toNat : Int)).toNat) rfl rfl sl41 hi191 (by have := hn164; omega) (hS.vecAok 0 rfl (by have := hn164; omega : (IntKind.wrap .i64 ((BitVec.ofInt (IntKind.bits .i64) q107 &&& ~~~ BitVec.ofInt (IntKind.bits .i64) (IntKind.wrap .i64 (1 * (2 ^ (min (Int.toNat ((k149 : Nat) : Int)) (IntKind.bits .i64)))))).toNat : Int)).toNat < x95.length))) rfl (tw_sel (fun _ => hS) (fun _ => (hS.tail))) ?_; clear hE a; intro a hE
                  have hT := tw_sel (A := fun w => St w s (vecC 3 1 (some ⟨b97, 0, none⟩) x95.length x95.length cs163 :: vecC 3 1 a64 c65 q63.length cs68 :: R)) (B := fun w => St w s (vecC 3 1 a64 c65 q63.length cs68 :: R)) (w := _) (x := true) (y := true) (fun _ => hS) (fun _ => (hS.tail))
                  have hF := hS; replace hS := hS
                  refine Rg.take (i := 12) true rfl hE rfl (by kernel_rfl) (runs_plain rfl) (Gives.load1 hE rfl (fun w h => St.vecSees h 0 rfl ((IntKind.wrap .i64 ((BitVec.ofInt (IntKind.bits .i64) q107 &&& ~~~ BitVec.ofInt (IntKind.bits .i64) (IntKind.wrap .i64 (1 * (2 ^ (min (Int.toNat ((k149 : Nat) : Int)) (IntKind.bits .i64)))))).toNat : Int)).toNat * 1) _ hget198) ty3) rfl hT ?_; clear hE a; intro a hE
                  replace hS := hF; clear hF hT
                  refine Rg.takeP (i := 13) hE rfl (by kernel_rfl) (runs_plain rfl) (Gives.max2 hE rfl rfl) rfl (tw_sel (fun _ => hS) (fun _ => (hS.tail))) ?_; clear hE a; intro a hE
                  obtain ⟨_, hx200, hq166⟩ := bindS hq166
                  obtain ⟨h201, h202⟩ := ix_some hx200
                  refine Rg.takeP (i := 14) hE rfl (by kernel_rfl) (runs_plain rfl) (Gives.idx hE ((q107).toNat) rfl rfl sl41 h201 (by have := hn164; omega) (hS.vecAok 0 rfl (by have := hn164; omega : (q107).toNat < x95.length))) rfl (tw_sel (fun _ => hS) (fun _ => (hS.tail))) ?_; clear hE a; intro a hE
                  refine Rg.one (i := 15) false true rfl (by kernel_rfl) (by kernel_rfl) (by kernel_rfl) ?_
                  obtain ⟨x204, hx205, hq166⟩ := bindS hq166
                  refine WL.setD hE hS 0 rfl (runs_plain rfl) rfl rfl (vs := [.int .i64 (mx x179 x189)]) rfl ty3 rfl rfl rfl h162 hn164 (sx_some hx205).1 hx205 rfl rfl ?_; clear hE hS a w; intro cs206 a w h207 hn208 hE hS
                  refine WL.nil ?_
                  refine ⟨⟨fun h => absurd h (by decide), fun _ => (hS.tail)⟩, ?_⟩
                  refine Rg.done (by kernel_rfl) ?_
                  subst hK178
                  subst hK176
                  exact ⟨x204, cs206, Option.some.inj hq166, h207, hn208, hE.pick _ ⟨rfl, rfl, rfl, rfl, rfl, rfl, trivial⟩, hS⟩
                · replace hq166 := iteF hc177 hq166
                  refine W.skip ?_
                  subst hK176
                  exact ⟨q159, cs163, Option.some.inj hq166, h162, hn164, hE.pick _ ⟨rfl, rfl, rfl, rfl, rfl, rfl, trivial⟩, hS⟩
              · clear hE hS a w; rintro a w ⟨q170, cs174, rfl, h173, hn175, hE, hS⟩
                refine W.region ?_
                refine WL.vS hS hE (runs_plain rfl) (Gives.inc hE rfl (by omega)) rfl ?_; clear hE a; intro a hE
                refine WL.vS hS hE (runs_plain rfl) (Gives.p hE rfl) rfl ?_; clear hE a; intro a hE
                refine WL.nil ?_
                subst hK165
                exact ⟨rest151, Nat.lt_succ_self _, rest151, k149 + 1, q170, cs174, rfl, (by omega), hq147, h173, hn175, hE.pick _ ⟨rfl, rfl, rfl, rfl, rfl, rfl, trivial⟩, hS⟩
          · clear hE hS a w; rintro a w ⟨q159, cs163, rfl, h162, hn164, hE, hS⟩
            refine W.seq ?_
            refine W.region ?_
            refine WL.vS hS hE (runs_plain rfl) (Gives.p hE rfl) rfl ?_; clear hE a; intro a hE
            refine WL.vS hS hE (runs_plain rfl) (Gives.p hE rfl) rfl ?_; clear hE a; intro a hE
            refine WL.nil ?_
            obtain ⟨q210, hq209, hq101⟩ := bindS hq101
            refine W.cut (fun a w => ∃ (q213 : List Int), ∃ (cs217 : List Value), q213 = q210 ∧ Ev 1 (RI .i64) s cs217 q213 ∧ q213.length = x95.length ∧ Rep a 94 [(3, .slice a64 q63.length c65), (6, .slice (some ⟨b97, 0, none⟩) x95.length x95.length), (7, .int .i64 q107)] ∧ St w s (vecC 3 1 (some ⟨b97, 0, none⟩) x95.length x95.length cs217 :: vecC 3 1 a64 c65 q63.length cs68 :: R)) ?_ ?_
            · refine W.gen fun K219 hK219 => ?_
              refine W.cond hE rfl (fun hc220 => ?_) (fun hc220 => ?_)
              · replace hq209 := iteT hc220 hq209
                refine W.region ?_
                refine WL.vS hS hE (runs_plain rfl) (Gives.p hE rfl) rfl ?_; clear hE a; intro a hE
                refine WL.vS hS hE (runs_plain rfl) (Gives.p hE rfl) rfl ?_; clear hE a; intro a hE
                obtain ⟨x221, hx222, hq209⟩ := bindS hq209
                obtain ⟨hi223, hlt224, hy225⟩ := gx_some hx222
                obtain ⟨vs226, hl227, hR228, hd229, hget230⟩ := h162.at hy225
                subst hR228
                refine WL.vS hS hE (runs_plain rfl) (Gives.idx hE ((q107).toNat) rfl rfl sl41 hi223 (by have := hn164; omega) (hS.vecAok 0 rfl (by have := hn164; omega : (q107).toNat < x95.length))) rfl ?_; clear hE a; intro a hE
                refine WL.vS hS hE (runs_plain rfl) (Gives.load1 hE rfl (fun w h => St.vecSees h 0 rfl ((q107).toNat * 1) _ hget230) ty3) rfl ?_; clear hE a; intro a hE
                refine WL.vS hS hE (runs_plain rfl) (Gives.p hE rfl) rfl ?_; clear hE a; intro a hE
                obtain ⟨_, hx232, hq209⟩ := bindS hq209
                obtain ⟨h233, h234⟩ := ix_some hx232
                refine WL.vS hS hE (runs_plain rfl) (Gives.idx hE ((q107).toNat) rfl rfl sl41 h233 (by have := hn164; omega) (hS.vecAok 0 rfl (by have := hn164; omega : (q107).toNat < x95.length))) rfl ?_; clear hE a; intro a hE
                obtain ⟨x236, hx237, hq209⟩ := bindS hq209
                refine WL.setD hE hS 0 rfl (runs_plain rfl) rfl rfl (vs := [.int .i64 (w64 (x221 + 1))]) rfl ty3 rfl rfl rfl h162 hn164 (sx_some hx237).1 hx237 rfl rfl ?_; clear hE hS a w; intro cs238 a w h239 hn240 hE hS
                refine WL.nil ?_
                subst hK219
                exact ⟨x236, cs238, Option.some.inj hq209, h239, hn240, hE.pick _ ⟨rfl, rfl, rfl, trivial⟩, hS⟩
              · replace hq209 := iteF hc220 hq209
                refine W.skip ?_
                subst hK219
                exact ⟨q159, cs163, Option.some.inj hq209, h162, hn164, hE.pick _ ⟨rfl, rfl, rfl, trivial⟩, hS⟩
            · clear hE hS a w; rintro a w ⟨q213, cs217, rfl, h216, hn218, hE, hS⟩
              refine W.region ?_
              refine WL.vS hS hE (runs_plain rfl) (Gives.p hE rfl) rfl ?_; clear hE a; intro a hE
              refine WL.vS hS hE (runs_plain rfl) (Gives.p hE rfl) rfl ?_; clear hE a; intro a hE
              refine WL.vS hS hE (runs_plain rfl) (Gives.p hE rfl) rfl ?_; clear hE a; intro a hE
              refine WL.nil ?_
              subst hK114
              exact ⟨n103, Nat.lt_succ_self _, n103, (w64 (q107 + 1)), q213, cs217, rfl, hq101, h216, hn218, hE.pick _ ⟨rfl, rfl, rfl, trivial⟩, hS⟩
      · replace hq101 := iteF hc115 hq101
        subst hK114
        refine W.exit rfl ?_
        exact ⟨q107, q108, cs112, Option.some.inj hq101, h111, hn113, hE.pick _ ⟨rfl, rfl, trivial⟩, hS⟩
    · clear hE hS a w; rintro a w ⟨q107, q108, cs112, rfl, h111, hn113, hE, hS⟩
      dsimp only at hr
      refine W.seq ?_
      refine W.region ?_
      refine WL.vS hS hE (runs_plain rfl) (Gives.p hE rfl) rfl ?_; clear hE a; intro a hE
      refine WL.vS hS hE (runs_plain rfl) (Gives.len hE rfl sl41) rfl ?_; clear hE a; intro a hE
      refine WL.vS hS hE (runs_plain rfl) (Gives.p hE rfl) rfl ?_; clear hE a; intro a hE
      refine WL.vS hS hE (runs_plain rfl) (Gives.p hE rfl) rfl ?_; clear hE a; intro a hE
      refine WL.vS hS hE (runs_plain rfl) (Gives.len hE rfl sl41) rfl ?_; clear hE a; intro a hE
      refine WL.vS hS hE (runs_plain rfl) (Gives.p hE rfl) rfl ?_; clear hE a; intro a hE
      obtain ⟨x241, hx242, hr⟩ := bindS hr
      obtain ⟨hi243, hlt244, hy245⟩ := gx_some hx242
      obtain ⟨vs246, hl247, hR248, hd249, hget250⟩ := h111.at hy245
      subst hR248
      refine WL.vS hS hE (runs_plain rfl) (Gives.idx hE ((w64 (((x95.length : Nat) : Int) - 1)).toNat) rfl rfl sl41 hi243 (by have := hn113; omega) (hS.vecAok 0 rfl (by have := hn113; omega : (w64 (((x95.length : Nat) : Int) - 1)).toNat < x95.length))) rfl ?_; clear hE a; intro a hE
      refine WL.vS hS hE (runs_plain rfl) (Gives.load1 hE rfl (fun w h => St.vecSees h 0 rfl ((w64 (((x95.length : Nat) : Int) - 1)).toNat * 1) _ hget250) ty3) rfl ?_; clear hE a; intro a hE
      refine WL.vS hS hE (runs_plain rfl) (Gives.p hE rfl) rfl ?_; clear hE a; intro a hE
      refine WL.vS hS hE (runs_plain rfl) (Gives.p hE rfl) rfl ?_; clear hE a; intro a hE
      refine WL.nil ?_
      refine W.ret ?_
      refine finG (fn := Try.f28) (rs := [.tmp 2]) (vs := [_]) hE rfl ⟨rfl, trivial⟩ ?_
      obtain rfl := Option.some.inj hr
      replace hS := hS.tail
      replace hS := hS.tail
      exact ⟨rfl, hS⟩
set_option maxHeartbeats 8000000 in
theorem SlicesCompareLint_ok  {w : World} {s : Sg} {R : List HP} {x0 : List Int} {a0 : Option Addr} {c0 : Nat} {x1 : List Int} {a1 : Option Addr} {c1 : Nat} (hS : St w s (R)) (h0 : Sl 1 (RI .i64) s a0 c0 x0) (h1 : Sl 1 (RI .i64) s a1 c1 x1) {r : Int} (hr : SlicesCompareLint x0 x1 = some r) :
    Calls Try.prog 29 [.slice a0 x0.length c0, .slice a1 x1.length c1].toArray w (fun e w => e = .returned (.int .i64 r) ∧ St w s (R)) := by
  refine enter Try.func29 rfl rfl rfl fun a hE => ?_
  rw [SlicesCompareLint] at hr
  refine W.seq ?_
  refine W.region ?_
  refine WL.vS hS hE (runs_plain rfl) (Gives.p hE rfl) rfl ?_; clear hE a; intro a hE
  refine WL.nil ?_
  refine W.seq ?_
  refine W.seq ?_
  refine W.region ?_
  refine WL.vS hS hE (runs_plain rfl) (Gives.p hE rfl) rfl ?_; clear hE a; intro a hE
  refine WL.vS hS hE (runs_plain rfl) (Gives.len hE rfl sl41) rfl ?_; clear hE a; intro a hE
  refine WL.vS hS hE (runs_plain rfl) (Gives.p hE rfl) rfl ?_; clear hE a; intro a hE
  refine WL.nil ?_
  obtain ⟨q52, hq51, hr⟩ := bindS hr
  refine W.cut (fun a w => (.next ()) = q52 ∧ Rep a 36 [(0, .slice a0 x0.length c0), (1, .slice a1 x1.length c1)] ∧ St w s (R)) ?_ ?_
  · refine W.block ?_
    refine W.loop (fun m a w => ∃ (rest55 : List Int) (k53 : Nat), rest55.length = m ∧ x0.drop k53 = rest55 ∧ SlicesCompareLint.loop1 x1 rest55 k53 = some q52 ∧ Rep a 36 [(0, .slice a0 x0.length c0), (1, .slice a1 x1.length c1), (9, .slice a0 x0.length c0), (10, .int .i64 ((x0).length : Int)), (11, .int .i64 ((k53 : Nat) : Int))] ∧ St w s (R)) (m := x0.length) ⟨x0, 0, rfl, rfl, hq51, hE.pick _ ⟨rfl, rfl, rfl, rfl, rfl, trivial⟩, hS⟩ ?_
    clear hE hS a w hq51; rintro m59 a w ⟨rest55, k53, rfl, hd56, hq51, hE, hS⟩
    refine W.gen fun K62 hK62 => ?_
    rcases rest55 with _ | ⟨x54, rest55⟩
    · have hlt57 := drop_nil hd56
      refine W.seq ?_
      refine W.region ?_
      refine WL.vS hS hE (runs_plain rfl) (Gives.p hE rfl) rfl ?_; clear hE a; intro a hE
      refine WL.nil ?_
      refine W.seq ?_
      refine W.condF hE rfl (decide_eq_false (by omega)) ?_
      subst hK62
      refine W.exit rfl ?_
      exact ⟨Option.some.inj hq51, hE.pick _ ⟨rfl, rfl, trivial⟩, hS⟩
    · obtain ⟨hlt57, hx58, hd56⟩ := drop_cons hd56
      rw [SlicesCompareLint.loop1] at hq51
      refine W.seq ?_
      refine W.region ?_
      refine WL.vS hS hE (runs_plain rfl) (Gives.p hE rfl) rfl ?_; clear hE a; intro a hE
      refine WL.nil ?_
      refine W.seq ?_
      refine W.condT hE rfl (decide_eq_true (by omega)) ?_
      refine W.skip ?_
      refine W.seq ?_
      refine W.block ?_
      refine W.seq ?_
      refine W.region ?_
      refine WL.vS hS hE (runs_plain rfl) (Gives.p hE rfl) rfl ?_; clear hE a; intro a hE
      obtain ⟨cs63, hl64, hR65, hat66⟩ := h0.at hx58
      subst hR65
      refine WL.vS hS hE (runs_plain rfl) (Gives.idx hE k53 rfl rfl sl41 rfl hlt57 (h0.aok hlt57)) rfl ?_; clear hE a; intro a hE
      refine WL.vS hS hE (runs_plain rfl) (Gives.load1 hE rfl (fun w h => hat66 w _ h) ty3) rfl ?_; clear hE a; intro a hE
      refine WL.vS hS hE (runs_plain rfl) (Gives.p hE rfl) rfl ?_; clear hE a; intro a hE
      refine WL.vS hS hE (runs_plain rfl) (Gives.p hE rfl) rfl ?_; clear hE a; intro a hE
      refine WL.nil ?_
      refine W.seq ?_
      refine W.seq ?_
      refine W.region ?_
      refine WL.vS hS hE (runs_plain rfl) (Gives.p hE rfl) rfl ?_; clear hE a; intro a hE
      refine WL.vS hS hE (runs_plain rfl) (Gives.p hE rfl) rfl ?_; clear hE a; intro a hE
      refine WL.vS hS hE (runs_plain rfl) (Gives.len hE rfl sl41) rfl ?_; clear hE a; intro a hE
      refine WL.vS hS hE (runs_plain rfl) (Gives.p hE rfl) rfl ?_; clear hE a; intro a hE
      refine WL.nil ?_
      refine W.cond hE rfl (fun hc67 => ?_) (fun hc67 => ?_)
      · replace hq51 := iteT hc67 hq51
        refine W.seq ?_
        refine W.region ?_
        refine WL.vS hS hE (runs_plain rfl) (Gives.p hE rfl) rfl ?_; clear hE a; intro a hE
        refine WL.nil ?_
        refine W.ret ?_
        subst hK62
        rw [← Option.some.inj hq51] at hr
        dsimp only at hr
        refine finG (fn := Try.f29) (rs := [.tmp 4]) (vs := [_]) hE rfl ⟨rfl, trivial⟩ ?_
        obtain rfl := Option.some.inj hr
        exact ⟨rfl, hS⟩
      · replace hq51 := iteF hc67 hq51
        refine W.skip ?_
        refine W.seq ?_
        refine W.region ?_
        refine WL.vS hS hE (runs_plain rfl) (Gives.p hE rfl) rfl ?_; clear hE a; intro a hE
        refine WL.vS hS hE (runs_plain rfl) (Gives.p hE rfl) rfl ?_; clear hE a; intro a hE
        obtain ⟨x68, hx69, hq51⟩ := bindS hq51
        obtain ⟨hi70, hlt71, hy72⟩ := gx_some hx69
        obtain ⟨cs73, hl74, hR75, hat76⟩ := h1.at hy72
        subst hR75
        refine WL.vS hS hE (runs_plain rfl) (Gives.idx hE (((k53 : Nat) : Int)).toNat rfl rfl sl41 hi70 hlt71 (h1.aok hlt71)) rfl ?_; clear hE a; intro a hE
        refine WL.vS hS hE (runs_plain rfl) (Gives.load1 hE rfl (fun w h => hat76 w _ h) ty3) rfl ?_; clear hE a; intro a hE
        refine WL.vS hS hE (runs_plain rfl) (Gives.p hE rfl) rfl ?_; clear hE a; intro a hE
        refine WL.nil ?_
        refine W.seq ?_
        refine W.region ?_
        refine WL.vS hS hE (runs_plain rfl) (Gives.p hE rfl) rfl ?_; clear hE a; intro a hE
        refine WL.vS hS hE (runs_plain rfl) (Gives.p hE rfl) rfl ?_; clear hE a; intro a hE
        refine WL.fnq hE (CmpCompareint_ok hS  rfl (r := CmpCompareint x54 x68)) (runs_plain rfl) bd56 rfl rfl rfl ?_
        clear hE hS; rintro e w ⟨rfl, hS⟩; refine ⟨_, rfl, ?_⟩; clear a; intro a hE
        refine WL.vS hS hE (runs_plain rfl) (Gives.p hE rfl) rfl ?_; clear hE a; intro a hE
        refine WL.nil ?_
        refine W.seq ?_
        refine W.region ?_
        refine WL.vS hS hE (runs_plain rfl) (Gives.p hE rfl) rfl ?_; clear hE a; intro a hE
        refine WL.vS hS hE (runs_plain rfl) (Gives.p hE rfl) rfl ?_; clear hE a; intro a hE
        refine WL.nil ?_
        refine W.cond hE rfl (fun hc77 => ?_) (fun hc77 => ?_)
        · replace hq51 := iteT hc77 hq51
          refine W.seq ?_
          refine W.region ?_
          refine WL.vS hS hE (runs_plain rfl) (Gives.p hE rfl) rfl ?_; clear hE a; intro a hE
          refine WL.vS hS hE (runs_plain rfl) (Gives.p hE rfl) rfl ?_; clear hE a; intro a hE
          refine WL.nil ?_
          refine W.ret ?_
          subst hK62
          rw [← Option.some.inj hq51] at hr
          dsimp only at hr
          refine finG (fn := Try.f29) (rs := [.tmp 4]) (vs := [_]) hE rfl ⟨rfl, trivial⟩ ?_
          obtain rfl := Option.some.inj hr
          exact ⟨rfl, hS⟩
        · replace hq51 := iteF hc77 hq51
          refine W.skip ?_
          refine W.region ?_
          refine WL.vS hS hE (runs_plain rfl) (Gives.inc hE rfl (by have := h0.small; omega)) rfl ?_; clear hE a; intro a hE
          refine WL.vS hS hE (runs_plain rfl) (Gives.p hE rfl) rfl ?_; clear hE a; intro a hE
          refine WL.nil ?_
          subst hK62
          exact ⟨rest55.length, Nat.lt_succ_self _, rest55, k53 + 1, rfl, hd56, hq51, hE.pick _ ⟨rfl, rfl, rfl, rfl, rfl, trivial⟩, hS⟩
  · clear hE hS a w; rintro a w ⟨rfl, hE, hS⟩
    dsimp only at hr
    refine W.seq ?_
    refine W.seq ?_
    refine W.region ?_
    refine WL.vS hS hE (runs_plain rfl) (Gives.p hE rfl) rfl ?_; clear hE a; intro a hE
    refine WL.vS hS hE (runs_plain rfl) (Gives.len hE rfl sl41) rfl ?_; clear hE a; intro a hE
    refine WL.vS hS hE (runs_plain rfl) (Gives.p hE rfl) rfl ?_; clear hE a; intro a hE
    refine WL.vS hS hE (runs_plain rfl) (Gives.len hE rfl sl41) rfl ?_; clear hE a; intro a hE
    refine WL.vS hS hE (runs_plain rfl) (Gives.p hE rfl) rfl ?_; clear hE a; intro a hE
    refine WL.nil ?_
    refine W.cond hE rfl (fun hc78 => ?_) (fun hc78 => ?_)
    · replace hr := iteT hc78 hr
      refine W.seq ?_
      refine W.region ?_
      refine WL.vS hS hE (runs_plain rfl) (Gives.p hE rfl) rfl ?_; clear hE a; intro a hE
      refine WL.nil ?_
      refine W.ret ?_
      refine finG (fn := Try.f29) (rs := [.tmp 4]) (vs := [_]) hE rfl ⟨rfl, trivial⟩ ?_
      obtain rfl := Option.some.inj hr
      exact ⟨rfl, hS⟩
    · replace hr := iteF hc78 hr
      refine W.skip ?_
      refine W.seq ?_
      refine W.region ?_
      refine WL.vS hS hE (runs_plain rfl) (Gives.p hE rfl) rfl ?_; clear hE a; intro a hE
      refine WL.nil ?_
      refine W.ret ?_
      refine finG (fn := Try.f29) (rs := [.tmp 4]) (vs := [_]) hE rfl ⟨rfl, trivial⟩ ?_
      obtain rfl := Option.some.inj hr
      exact ⟨rfl, hS⟩
set_option maxHeartbeats 8000000 in
theorem Fishlaw2FareSettles_1_ok  {w : World} {s : Sg} {R : List HP} {x0 : Int} (hS : St w s (R))  {r : Bool} (hr : Fishlaw2FareSettles_1 x0 = r) :
    Calls Try.prog 31 [.int .i64 x0].toArray w (fun e w => e = .returned (.bool r) ∧ St w s (R)) := by
  refine enter Try.func31 rfl rfl rfl fun a hE => ?_
  rw [Fishlaw2FareSettles_1] at hr
  refine W.seq ?_
  refine W.region ?_
  refine WL.vS hS hE (runs_plain rfl) (Gives.p hE rfl) rfl ?_; clear hE a; intro a hE
  refine WL.nil ?_
  refine W.seq ?_
  refine W.region ?_
  refine WL.vS hS hE (runs_plain rfl) (Gives.p hE rfl) rfl ?_; clear hE a; intro a hE
  refine WL.vS hS hE (runs_plain rfl) (Gives.p hE rfl) rfl ?_; clear hE a; intro a hE
  refine WL.vS hS hE (runs_plain rfl) (Gives.p hE rfl) rfl ?_; clear hE a; intro a hE
  refine WL.nil ?_
  refine W.ret ?_
  refine finG (fn := Try.f31) (rs := [.tmp 2]) (vs := [_]) hE rfl ⟨rfl, trivial⟩ ?_
  subst hr
  exact ⟨rfl, hS⟩
set_option maxHeartbeats 8000000 in
theorem SlicesIndexFuncLint_v1_ok  {w : World} {s : Sg} {R : List HP} {x0 : List Int} {a0 : Option Addr} {c0 : Nat} (hS : St w s (R)) (h0 : Sl 1 (RI .i64) s a0 c0 x0) {r : Int} (hr : SlicesIndexFuncLint_v1 x0 = r) :
    Calls Try.prog 73 [.slice a0 x0.length c0, .func (.func 31) #[] #[]].toArray w (fun e w => e = .returned (.int .i64 r) ∧ St w s (R)) := by
  refine enter Try.func73 rfl rfl rfl fun a hE => ?_
  rw [SlicesIndexFuncLint_v1] at hr
  refine W.seq ?_
  refine W.region ?_
  refine WL.vS hS hE (runs_plain rfl) (Gives.p hE rfl) rfl ?_; clear hE a; intro a hE
  refine WL.nil ?_
  refine W.seq ?_
  refine W.seq ?_
  refine W.region ?_
  refine WL.vS hS hE (runs_plain rfl) (Gives.p hE rfl) rfl ?_; clear hE a; intro a hE
  refine WL.vS hS hE (runs_plain rfl) (Gives.len hE rfl sl41) rfl ?_; clear hE a; intro a hE
  refine WL.vS hS hE (runs_plain rfl) (Gives.p hE rfl) rfl ?_; clear hE a; intro a hE
  refine WL.nil ?_
  obtain ⟨q52, hq51, hr⟩ := bndS hr
  refine W.cut (fun a w => (.next ()) = q52 ∧ Rep a 19 [] ∧ St w s (R)) ?_ ?_
  · refine W.block ?_
    refine W.loop (fun m a w => ∃ (rest55 : List Int) (k53 : Nat), rest55.length = m ∧ x0.drop k53 = rest55 ∧ SlicesIndexFuncLint_v1.loop1 rest55 k53 = q52 ∧ Rep a 19 [(0, .slice a0 x0.length c0), (1, .func (.func 31) #[] #[]), (7, .int .i64 ((x0).length : Int)), (8, .int .i64 ((k53 : Nat) : Int))] ∧ St w s (R)) (m := x0.length) ⟨x0, 0, rfl, rfl, hq51, hE.pick _ ⟨rfl, rfl, rfl, rfl, trivial⟩, hS⟩ ?_
    clear hE hS a w hq51; rintro m59 a w ⟨rest55, k53, rfl, hd56, hq51, hE, hS⟩
    refine W.gen fun K62 hK62 => ?_
    rcases rest55 with _ | ⟨x54, rest55⟩
    · have hlt57 := drop_nil hd56
      refine W.seq ?_
      refine W.region ?_
      refine WL.vS hS hE (runs_plain rfl) (Gives.p hE rfl) rfl ?_; clear hE a; intro a hE
      refine WL.nil ?_
      refine W.seq ?_
      refine W.condF hE rfl (decide_eq_false (by omega)) ?_
      subst hK62
      refine W.exit rfl ?_
      exact ⟨hq51, hE.pick _ trivial, hS⟩
    · obtain ⟨hlt57, hx58, hd56⟩ := drop_cons hd56
      rw [SlicesIndexFuncLint_v1.loop1] at hq51
      refine W.seq ?_
      refine W.region ?_
      refine WL.vS hS hE (runs_plain rfl) (Gives.p hE rfl) rfl ?_; clear hE a; intro a hE
      refine WL.nil ?_
      refine W.seq ?_
      refine W.condT hE rfl (decide_eq_true (by omega)) ?_
      refine W.skip ?_
      refine W.seq ?_
      refine W.block ?_
      refine W.seq ?_
      refine W.region ?_
      refine WL.vS hS hE (runs_plain rfl) (Gives.p hE rfl) rfl ?_; clear hE a; intro a hE
      refine WL.vS hS hE (runs_plain rfl) (Gives.p hE rfl) rfl ?_; clear hE a; intro a hE
      refine WL.nil ?_
      refine W.seq ?_
      refine W.region ?_
      refine WL.vS hS hE (runs_plain rfl) (Gives.p hE rfl) rfl ?_; clear hE a; intro a hE
      refine WL.vS hS hE (runs_plain rfl) (Gives.p hE rfl) rfl ?_; clear hE a; intro a hE
      refine WL.vS hS hE (runs_plain rfl) (Gives.p hE rfl) rfl ?_; clear hE a; intro a hE
      obtain ⟨cs63, hl64, hR65, hat66⟩ := h0.at hx58
      subst hR65
      refine WL.vS hS hE (runs_plain rfl) (Gives.idx hE k53 rfl rfl sl41 rfl hlt57 (h0.aok hlt57)) rfl ?_; clear hE a; intro a hE
      refine WL.vS hS hE (runs_plain rfl) (Gives.load1 hE rfl (fun w h => hat66 w _ h) ty3) rfl ?_; clear hE a; intro a hE
      refine WL.fnw hE (Fishlaw2FareSettles_1_ok hS  rfl (r := Fishlaw2FareSettles_1 x54)) rfl (runs_plain rfl) bd31 rfl rfl rfl ?_
      clear hE hS; rintro e w ⟨rfl, hS⟩; refine ⟨_, rfl, ?_⟩; clear a; intro a hE
      refine WL.nil ?_
      refine W.cond hE rfl (fun hc67 => ?_) (fun hc67 => ?_)
      · replace hq51 := iteT hc67 hq51
        refine W.seq ?_
        refine W.region ?_
        refine WL.vS hS hE (runs_plain rfl) (Gives.p hE rfl) rfl ?_; clear hE a; intro a hE
        refine WL.vS hS hE (runs_plain rfl) (Gives.p hE rfl) rfl ?_; clear hE a; intro a hE
        refine WL.nil ?_
        refine W.ret ?_
        subst hK62
        rw [← hq51] at hr
        dsimp only at hr
        refine finG (fn := Try.f73) (rs := [.tmp 4]) (vs := [_]) hE rfl ⟨rfl, trivial⟩ ?_
        subst hr
        exact ⟨rfl, hS⟩
      · replace hq51 := iteF hc67 hq51
        refine W.skip ?_
        refine W.region ?_
        refine WL.vS hS hE (runs_plain rfl) (Gives.inc hE rfl (by have := h0.small; omega)) rfl ?_; clear hE a; intro a hE
        refine WL.vS hS hE (runs_plain rfl) (Gives.p hE rfl) rfl ?_; clear hE a; intro a hE
        refine WL.nil ?_
        subst hK62
        exact ⟨rest55.length, Nat.lt_succ_self _, rest55, k53 + 1, rfl, hd56, hq51, hE.pick _ ⟨rfl, rfl, rfl, rfl, trivial⟩, hS⟩
  · clear hE hS a w; rintro a w ⟨rfl, hE, hS⟩
    dsimp only at hr
    refine W.seq ?_
    refine W.region ?_
    refine WL.vS hS hE (runs_plain rfl) (Gives.p hE rfl) rfl ?_; clear hE a; intro a hE
    refine WL.nil ?_
    refine W.ret ?_
    refine finG (fn := Try.f73) (rs := [.tmp 4]) (vs := [_]) hE rfl ⟨rfl, trivial⟩ ?_
    subst hr
    exact ⟨rfl, hS⟩
set_option maxHeartbeats 8000000 in
theorem SlicesContainsFuncLint_v1_ok  {w : World} {s : Sg} {R : List HP} {x0 : List Int} {a0 : Option Addr} {c0 : Nat} (hS : St w s (R)) (h0 : Sl 1 (RI .i64) s a0 c0 x0) {r : Bool} (hr : SlicesContainsFuncLint_v1 x0 = r) :
    Calls Try.prog 30 [.slice a0 x0.length c0, .func (.func 31) #[] #[]].toArray w (fun e w => e = .returned (.bool r) ∧ St w s (R)) := by
  refine enter Try.func30 rfl rfl rfl fun a hE => ?_
  rw [SlicesContainsFuncLint_v1] at hr
  refine W.seq ?_
  refine W.region ?_
  refine WL.vS hS hE (runs_plain rfl) (Gives.p hE rfl) rfl ?_; clear hE a; intro a hE
  refine WL.nil ?_
  refine W.seq ?_
  refine W.region ?_
  refine WL.vS hS hE (runs_plain rfl) (Gives.p hE rfl) rfl ?_; clear hE a; intro a hE
  refine WL.vS hS hE (runs_plain rfl) (Gives.p hE rfl) rfl ?_; clear hE a; intro a hE
  refine WL.fnq hE (SlicesIndexFuncLint_v1_ok hS h0 rfl (r := SlicesIndexFuncLint_v1 x0)) (runs_plain rfl) bd73 rfl rfl rfl ?_
  clear hE hS; rintro e w ⟨rfl, hS⟩; refine ⟨_, rfl, ?_⟩; clear a; intro a hE
  refine WL.vS hS hE (runs_plain rfl) (Gives.p hE rfl) rfl ?_; clear hE a; intro a hE
  refine WL.vS hS hE (runs_plain rfl) (Gives.p hE rfl) rfl ?_; clear hE a; intro a hE
  refine WL.nil ?_
  refine W.ret ?_
  refine finG (fn := Try.f30) (rs := [.tmp 4]) (vs := [_]) hE rfl ⟨rfl, trivial⟩ ?_
  subst hr
  exact ⟨rfl, hS⟩
set_option maxHeartbeats 8000000 in
theorem Fishlaw2FareSettles_ok {fu : Nat}  {w : World} {s : Sg} {R : List HP} {x0 : List (List Int)} {a0 : Option Addr} {c0 : Nat} (hS : St w s (R)) (h0 : Sl 1 (RL 1 (RI .i64)) s a0 c0 x0) {r : Bool} (hr : Fishlaw2FareSettles fu x0 = some r) :
    Calls Try.prog 7 [.slice a0 x0.length c0].toArray w (fun e w => e = .returned (.bool r) ∧ St w s (R)) := by
  refine enter Try.func7 rfl rfl rfl fun a hE => ?_
  rw [Fishlaw2FareSettles] at hr
  refine W.seq ?_
  refine W.region ?_
  refine WL.vS hS hE (runs_plain rfl) (Gives.p hE rfl) rfl ?_; clear hE a; intro a hE
  refine WL.nil ?_
  refine W.seq ?_
  refine W.region ?_
  refine WL.vS hS hE (runs_plain rfl) (Gives.p hE rfl) rfl ?_; clear hE a; intro a hE
  obtain ⟨q51, hq52, hr⟩ := bindS hr
  have hc_ := FareSettle_ok hS h0 hq52
  refine WL.fnq hE (hc_) (runs_plain rfl) bd25 rfl rfl rfl ?_
  clear hE hS hc_; rintro e w ⟨a53, c54, n55, cs56, s59, rfl, hle60, h57, rfl, hS⟩; refine ⟨_, rfl, ?_⟩; clear a; intro a hE
  replace h0 := Sl.mono (RL.mono RI.mono) hle60 h0
  refine WL.vS hS hE (runs_plain rfl) (Gives.p hE rfl) rfl ?_; clear hE a; intro a hE
  refine WL.vS hS hE (runs_plain rfl) (Gives.p hE rfl) rfl ?_; clear hE a; intro a hE
  refine WL.vS hS hE (runs_plain rfl) (Gives.p hE rfl) rfl ?_; clear hE a; intro a hE
  refine WL.vS hS hE (runs_plain rfl) (Gives.p hE rfl) rfl ?_; clear hE a; intro a hE
  refine WL.vS hS hE (runs_plain rfl) (Gives.p hE rfl) rfl ?_; clear hE a; intro a hE
  refine WL.nil ?_
  refine W.seq ?_
  refine W.seq ?_
  refine W.region ?_
  refine WL.vS hS hE (runs_plain rfl) (Gives.p hE rfl) rfl ?_; clear hE a; intro a hE
  refine WL.fnq hE (Fishref2DebtsFault_ok hS h0 rfl (r := Fishref2DebtsFault x0)) (runs_plain rfl) bd26 rfl rfl rfl ?_
  clear hE hS; rintro e w ⟨rfl, hS⟩; refine ⟨_, rfl, ?_⟩; clear a; intro a hE
  refine WL.vS hS hE (runs_plain rfl) (Gives.p hE rfl) rfl ?_; clear hE a; intro a hE
  refine WL.nil ?_
  refine W.seq ?_
  refine W.region ?_
  refine WL.vS hS hE (runs_plain rfl) (Gives.p hE rfl) rfl ?_; clear hE a; intro a hE
  refine WL.vS hS hE (runs_plain rfl) (Gives.p hE rfl) rfl ?_; clear hE a; intro a hE
  refine WL.nil ?_
  refine W.cond hE rfl (fun hc61 => ?_) (fun hc61 => ?_)
  · replace hr := iteT hc61 hr
    refine W.seq ?_
    obtain ⟨q63, hq62, hr⟩ := bindS hr
    refine W.cut (fun a w => ∃ (q66 : Bool), q66 = q63 ∧ Rep a 134 [(2, .bool q66)] ∧ St w s59 (R)) ?_ ?_
    · refine W.gen fun K67 hK67 => ?_
      refine W.region ?_
      obtain ⟨q68, hq69, hq62⟩ := bindS hq62
      have hc_ := Fishlaw2fares_ok hS  hq69
      refine WL.fnq hE (hc_) (runs_plain rfl) bd12 rfl rfl rfl ?_
      clear hE hS hc_; rintro e w ⟨rfl, hS⟩; refine ⟨_, rfl, ?_⟩; clear a; intro a hE
      refine WL.vS hS hE (runs_plain rfl) (Gives.p hE rfl) rfl ?_; clear hE a; intro a hE
      rcases Bool.eq_false_or_eq_true q68 with hg70 | hg70
      · replace hq62 := iteT hg70 hq62
        refine WL.vS hS hE (runs_if hE rfl rfl rfl hg70) (Gives.p hE rfl) rfl ?_; clear hE a; intro a hE
        refine WL.vS hS hE (runs_if hE rfl rfl rfl hg70) (Gives.p hE rfl) rfl ?_; clear hE a; intro a hE
        refine WL.vS hS hE (runs_if hE rfl rfl rfl hg70) (Gives.p hE rfl) rfl ?_; clear hE a; intro a hE
        refine WL.vS hS hE (runs_plain rfl) (Gives.pickT hE rfl hg70 rfl) rfl ?_; clear hE a; intro a hE
        refine WL.vS hS hE (runs_plain rfl) (Gives.p hE rfl) rfl ?_; clear hE a; intro a hE
        rcases Bool.eq_false_or_eq_true (q51.2 == (Fishref2DebtsFault x0)) with hg71 | hg71
        · replace hq62 := iteT hg71 hq62
          refine WL.vS hS hE (runs_if hE rfl rfl rfl hg71) (Gives.p hE rfl) rfl ?_; clear hE a; intro a hE
          refine WL.vS hS hE (runs_if hE rfl rfl rfl hg71) (Gives.len hE rfl sl58) rfl ?_; clear hE a; intro a hE
          refine WL.vS hS hE (runs_if hE rfl rfl rfl hg71) (Gives.p hE rfl) rfl ?_; clear hE a; intro a hE
          refine WL.vS hS hE (runs_plain rfl) (Gives.pickT hE rfl hg71 rfl) rfl ?_; clear hE a; intro a hE
          refine WL.vS hS hE (runs_plain rfl) (Gives.p hE rfl) rfl ?_; clear hE a; intro a hE
          refine WL.nil ?_
          replace hS := hS.tail
          subst hK67
          exact ⟨(((q51.1.length : Nat) : Int) == 0), Option.some.inj hq62, hE.pick _ ⟨rfl, trivial⟩, hS⟩
        · replace hq62 := iteF hg71 hq62
          refine WL.no hE (runs_not hE rfl rfl rfl (by rw [hg71]; decide)) rfl ?_; clear hE a; intro a hE
          refine WL.no hE (runs_not hE rfl rfl rfl (by rw [hg71]; decide)) rfl ?_; clear hE a; intro a hE
          refine WL.no hE (runs_not hE rfl rfl rfl (by rw [hg71]; decide)) rfl ?_; clear hE a; intro a hE
          refine WL.vS hS hE (runs_plain rfl) (Gives.pickF hE rfl hg71 rfl) rfl ?_; clear hE a; intro a hE
          refine WL.vS hS hE (runs_plain rfl) (Gives.p hE rfl) rfl ?_; clear hE a; intro a hE
          refine WL.nil ?_
          replace hS := hS.tail
          subst hK67
          exact ⟨false, Option.some.inj hq62, hE.pick _ ⟨rfl, trivial⟩, hS⟩
      · replace hq62 := iteF hg70 hq62
        refine WL.no hE (runs_not hE rfl rfl rfl (by rw [hg70]; decide)) rfl ?_; clear hE a; intro a hE
        refine WL.no hE (runs_not hE rfl rfl rfl (by rw [hg70]; decide)) rfl ?_; clear hE a; intro a hE
        refine WL.no hE (runs_not hE rfl rfl rfl (by rw [hg70]; decide)) rfl ?_; clear hE a; intro a hE
        refine WL.vS hS hE (runs_plain rfl) (Gives.pickF hE rfl hg70 rfl) rfl ?_; clear hE a; intro a hE
        refine WL.vS hS hE (runs_plain rfl) (Gives.p hE rfl) rfl ?_; clear hE a; intro a hE
        refine WL.no hE (runs_not hE rfl rfl rfl (by decide)) rfl ?_; clear hE a; intro a hE
        refine WL.no hE (runs_not hE rfl rfl rfl (by decide)) rfl ?_; clear hE a; intro a hE
        refine WL.no hE (runs_not hE rfl rfl rfl (by decide)) rfl ?_; clear hE a; intro a hE
        refine WL.vS hS hE (runs_plain rfl) (Gives.pickF hE rfl rfl rfl) rfl ?_; clear hE a; intro a hE
        refine WL.vS hS hE (runs_plain rfl) (Gives.p hE rfl) rfl ?_; clear hE a; intro a hE
        refine WL.nil ?_
        replace hS := hS.tail
        subst hK67
        exact ⟨false, Option.some.inj hq62, hE.pick _ ⟨rfl, trivial⟩, hS⟩
    · clear hE hS a w; rintro a w ⟨q66, rfl, hE, hS⟩
      refine W.ret ?_
      refine finG (fn := Try.f7) (rs := [.tmp 2]) (vs := [_]) hE rfl ⟨rfl, trivial⟩ ?_
      obtain rfl := Option.some.inj hr
      exact ⟨rfl, (hS.down hle60)⟩
  · replace hr := iteF hc61 hr
    refine W.skip ?_
    refine W.seq ?_
    refine W.seq ?_
    obtain ⟨q73, hq72, hr⟩ := bindS hr
    refine W.cut (fun a w => ∃ (q76 : Bool), q76 = q73 ∧ Rep a 134 [(0, .slice a0 x0.length c0), (3, .slice a53 q51.1.length c54), (34, .bool q76)] ∧ St w s59 (vecC 65 3 a53 c54 q51.1.length cs56 :: R)) ?_ ?_
    · refine W.gen fun K77 hK77 => ?_
      refine W.region ?_
      obtain ⟨q78, hq79, hq72⟩ := bindS hq72
      have hc_ := Fishlaw2fares_ok hS  hq79
      refine WL.fnq hE (hc_) (runs_plain rfl) bd12 rfl rfl rfl ?_
      clear hE hS hc_; rintro e w ⟨rfl, hS⟩; refine ⟨_, rfl, ?_⟩; clear a; intro a hE
      refine WL.vS hS hE (runs_plain rfl) (Gives.p hE rfl) rfl ?_; clear hE a; intro a hE
      refine WL.vS hS hE (runs_plain rfl) (Gives.p hE rfl) rfl ?_; clear hE a; intro a hE
      rcases Bool.eq_false_or_eq_true !q78 with hg80 | hg80
      · replace hq72 := iteT hg80 hq72
        refine WL.no hE (runs_not hE rfl rfl rfl (by rw [hg80]; decide)) rfl ?_; clear hE a; intro a hE
        refine WL.no hE (runs_not hE rfl rfl rfl (by rw [hg80]; decide)) rfl ?_; clear hE a; intro a hE
        refine WL.vS hS hE (runs_plain rfl) (Gives.pickT hE rfl hg80 rfl) rfl ?_; clear hE a; intro a hE
        refine WL.nil ?_
        subst hK77
        exact ⟨true, Option.some.inj hq72, hE.pick _ ⟨rfl, rfl, rfl, trivial⟩, hS⟩
      · replace hq72 := iteF hg80 hq72
        refine WL.vS hS hE (runs_if hE rfl rfl rfl hg80) (Gives.p hE rfl) rfl ?_; clear hE a; intro a hE
        refine WL.vS hS hE (runs_if hE rfl rfl rfl hg80) (Gives.p hE rfl) rfl ?_; clear hE a; intro a hE
        refine WL.vS hS hE (runs_plain rfl) (Gives.pickF hE rfl hg80 rfl) rfl ?_; clear hE a; intro a hE
        refine WL.nil ?_
        subst hK77
        exact ⟨(q51.2 != 0), Option.some.inj hq72, hE.pick _ ⟨rfl, rfl, rfl, trivial⟩, hS⟩
    · clear hE hS a w; rintro a w ⟨q76, rfl, hE, hS⟩
      refine W.cond hE rfl (fun hc81 => ?_) (fun hc81 => ?_)
      · replace hr := iteT hc81 hr
        refine W.seq ?_
        refine W.region ?_
        refine WL.vS hS hE (runs_plain rfl) (Gives.p hE rfl) rfl ?_; clear hE a; intro a hE
        refine WL.nil ?_
        refine W.ret ?_
        refine finG (fn := Try.f7) (rs := [.tmp 2]) (vs := [_]) hE rfl ⟨rfl, trivial⟩ ?_
        obtain rfl := Option.some.inj hr
        replace hS := hS.tail
        exact ⟨rfl, (hS.down hle60)⟩
      · replace hr := iteF hc81 hr
        refine W.skip ?_
        refine W.seq ?_
        refine W.region ?_
        refine WL.vS hS hE (runs_plain rfl) (Gives.p hE rfl) rfl ?_; clear hE a; intro a hE
        obtain ⟨q82, hq83, hr⟩ := bindS hr
        have hc_ := Fishref2OwesOf_ok hS h0 hq83
        refine WL.fnq hE (hc_) (runs_plain rfl) bd27 rfl rfl rfl ?_
        clear hE hS hc_; rintro e w ⟨a84, c85, n86, cs87, rfl, h88, rfl, hS⟩; refine ⟨_, rfl, ?_⟩; clear a; intro a hE
        refine WL.vS hS hE (runs_plain rfl) (Gives.p hE rfl) rfl ?_; clear hE a; intro a hE
        refine WL.nil ?_
        refine W.seq ?_
        refine W.seq ?_
        refine W.region ?_
        refine WL.vS hS hE (runs_plain rfl) (Gives.p hE rfl) rfl ?_; clear hE a; intro a hE
        refine WL.vS hS hE (runs_plain rfl) (Gives.len hE rfl sl58) rfl ?_; clear hE a; intro a hE
        refine WL.vS hS hE (runs_plain rfl) (Gives.p hE rfl) rfl ?_; clear hE a; intro a hE
        obtain ⟨q90, hq91, hr⟩ := bindS hr
        have hF := hS.lendV RI.mono 0 rfl h88 rfl; clear hS; obtain ⟨t92, hle93, hS, hs94, bk95⟩ := hF
        have hc_ := Fishref2PaymentsOf_ok hS hs94 hq91
        refine WL.fnq hE (hc_) (runs_plain rfl) bd28 rfl rfl rfl ?_
        clear hE hS hc_; rintro e w ⟨rfl, hS⟩; refine ⟨_, rfl, ?_⟩; clear a; intro a hE
        replace hS := bk95 _ _ hS
        refine WL.vS hS hE (runs_plain rfl) (Gives.p hE rfl) rfl ?_; clear hE a; intro a hE
        refine WL.nil ?_
        refine W.cond hE rfl (fun hc96 => ?_) (fun hc96 => ?_)
        · replace hr := iteT hc96 hr
          refine W.seq ?_
          refine W.region ?_
          refine WL.vS hS hE (runs_plain rfl) (Gives.p hE rfl) rfl ?_; clear hE a; intro a hE
          refine WL.nil ?_
          refine W.ret ?_
          refine finG (fn := Try.f7) (rs := [.tmp 2]) (vs := [_]) hE rfl ⟨rfl, trivial⟩ ?_
          obtain rfl := Option.some.inj hr
          replace hS := hS.tail
          replace hS := hS.tail
          exact ⟨rfl, (hS.down hle60)⟩
        · replace hr := iteF hc96 hr
          refine W.skip ?_
          refine W.seq ?_
          refine W.seq ?_
          refine W.region ?_
          refine WL.vS hS hE (runs_plain rfl) (Gives.p hE rfl) rfl ?_; clear hE a; intro a hE
          refine WL.vS hS hE (runs_plain rfl) (Gives.len hE rfl sl58) rfl ?_; clear hE a; intro a hE
          refine WL.vS hS hE (runs_plain rfl) (Gives.p hE rfl) rfl ?_; clear hE a; intro a hE
          refine WL.nil ?_
          have hb108 : q51.1.length ≤ 9223372036854775807 := by have := hS.vecCap 1 rfl; unfold maxLen at this; omega
          obtain ⟨q98, hq97, hr⟩ := bindS hr
          refine W.cut (fun a w => ∃ (q109 : List Int), ∃ (cs113 : List Value), ∃ (s106 : Sg), s59.Le s106 ∧ (.next q109) = q98 ∧ Ev 1 (RI .i64) s106 cs113 q109 ∧ q109.length = q82.length ∧ Rep a 134 [(6, .slice a84 q82.length c85)] ∧ St w s106 (vecC 3 1 a84 c85 q82.length cs113 :: vecC 65 3 a53 c54 q51.1.length cs56 :: R)) ?_ ?_
          · refine W.block ?_
            refine W.loop (fun m a w => ∃ (rest101 : Nat) (k99 : Nat), ∃ (q109 : List Int), ∃ (cs113 : List Value), ∃ (s106 : Sg), rest101 = m ∧ k99 + rest101 = q51.1.length ∧ s59.Le s106 ∧ Fishlaw2FareSettles.loop1 q51 q82 rest101 k99 q109 = some q98 ∧ Ev 1 (RI .i64) s106 cs113 q109 ∧ q109.length = q82.length ∧ Rep a 134 [(3, .slice a53 q51.1.length c54), (6, .slice a84 q82.length c85), (42, .slice a53 q51.1.length c54), (43, .int .i64 ((q51.1.length : Nat) : Int)), (44, .int .i64 ((k99 : Nat) : Int))] ∧ St w s106 (vecC 3 1 a84 c85 q82.length cs113 :: vecC 65 3 a53 c54 q51.1.length cs56 :: R)) (m := q51.1.length) ⟨q51.1.length, 0, q82, cs87, s59, rfl, by omega, (Sg.Le.refl _), hq97, h88, rfl, hE.pick _ ⟨rfl, rfl, rfl, rfl, rfl, trivial⟩, hS⟩ ?_
            clear hE hS a w hq97; rintro m105 a w ⟨rest101, k99, q109, cs113, s106, rfl, hd102, hle107, hq97, h112, hn114, hE, hS⟩
            refine W.gen fun K115 hK115 => ?_
            replace h0 := Sl.mono (RL.mono RI.mono) hle107 h0
            replace h88 := Ev.mono RI.mono hle107 h88
            replace h57 := Ev.mono RFarePayment.mono hle107 h57
            rcases rest101 with _ | rest101
            · skip
              refine W.seq ?_
              refine W.region ?_
              refine WL.vS hS hE (runs_plain rfl) (Gives.p hE rfl) rfl ?_; clear hE a; intro a hE
              refine WL.nil ?_
              refine W.seq ?_
              refine W.condF hE rfl (decide_eq_false (by omega)) ?_
              subst hK115
              refine W.exit rfl ?_
              exact ⟨q109, cs113, s106, hle107, Option.some.inj hq97, h112, hn114, hE.pick _ ⟨rfl, trivial⟩, hS⟩
            · have hlt103 : k99 < q51.1.length := by omega
              rw [Fishlaw2FareSettles.loop1] at hq97
              refine W.seq ?_
              refine W.region ?_
              refine WL.vS hS hE (runs_plain rfl) (Gives.p hE rfl) rfl ?_; clear hE a; intro a hE
              refine WL.nil ?_
              refine W.seq ?_
              refine W.condT hE rfl (decide_eq_true (by omega)) ?_
              refine W.skip ?_
              refine W.seq ?_
              refine W.block ?_
              refine W.seq ?_
              refine W.region ?_
              refine WL.vS hS hE (runs_plain rfl) (Gives.p hE rfl) rfl ?_; clear hE a; intro a hE
              obtain ⟨x116, hx117, hq97⟩ := bindS hq97
              obtain ⟨hi118, hlt119, hy120⟩ := gx_some hx117
              obtain ⟨vs121, hl122, hR123, hd124, hget125⟩ := h57.at hy120
              subst hR123
              refine WL.vS hS hE (runs_plain rfl) (Gives.idx hE ((((k99 : Nat) : Int)).toNat) rfl rfl sl58 hi118 (by omega) (hS.vecAok 1 rfl (by omega : (((k99 : Nat) : Int)).toNat < q51.1.length))) rfl ?_; clear hE a; intro a hE
              refine WL.vS hS hE (runs_plain rfl) (Gives.loadA hE rfl (fun w h => St.vecSees h 1 rfl ((((k99 : Nat) : Int)).toNat * 3) _ hget125) ty65) rfl ?_; clear hE a; intro a hE
              refine WL.alloc hE hS (runs_plain rfl) zr65 rfl ?_; clear hE hS a w; intro b126 a w hE hS
              refine WL.vS hS hE (runs_plain rfl) (Gives.p hE rfl) rfl ?_; clear hE a; intro a hE
              refine WL.storeI hE hS 0 rfl (FarePayment.cells x116) (runs_plain rfl) rfl rfl rfl ty65 rfl rfl rfl rfl ?_; clear hE hS a w; intro a w hE hS
              refine WL.nil ?_
              refine W.seq ?_
              refine W.seq ?_
              obtain ⟨q128, hq127, hq97⟩ := bndS hq97
              refine W.cut (fun a w => ∃ (q131 : Bool), q131 = q128 ∧ Rep a 134 [(3, .slice a53 q51.1.length c54), (6, .slice a84 q82.length c85), (7, .int .i64 ((k99 : Nat) : Int)), (8, .pointer (some ⟨b126, 0, none⟩)), (42, .slice a53 q51.1.length c54), (43, .int .i64 ((q51.1.length : Nat) : Int)), (44, .int .i64 ((k99 : Nat) : Int)), (87, .bool q131)] ∧ St w s106 (pt b126 (.cells (FarePayment.cells x116).toArray 65 (0, 0)) :: vecC 3 1 a84 c85 q82.length cs113 :: vecC 65 3 a53 c54 q51.1.length cs56 :: R)) ?_ ?_
              · refine W.gen fun K132 hK132 => ?_
                refine W.region ?_
                refine WL.vS hS hE (runs_plain rfl) (Gives.fld hE rfl fl65_0) rfl ?_; clear hE a; intro a hE
                refine WL.vS hS hE (runs_plain rfl) (Gives.loadB hE 0 rfl rfl rfl ty3) rfl ?_; clear hE a; intro a hE
                refine WL.vS hS hE (runs_plain rfl) (Gives.p hE rfl) rfl ?_; clear hE a; intro a hE
                refine WL.vS hS hE (runs_plain rfl) (Gives.p hE rfl) rfl ?_; clear hE a; intro a hE
                rcases Bool.eq_false_or_eq_true (decide (x116.From < 0)) with hg133 | hg133
                · replace hq127 := iteT hg133 hq127
                  refine WL.no hE (runs_not hE rfl rfl rfl (by rw [hg133]; decide)) rfl ?_; clear hE a; intro a hE
                  refine WL.no hE (runs_not hE rfl rfl rfl (by rw [hg133]; decide)) rfl ?_; clear hE a; intro a hE
                  refine WL.no hE (runs_not hE rfl rfl rfl (by rw [hg133]; decide)) rfl ?_; clear hE a; intro a hE
                  refine WL.no hE (runs_not hE rfl rfl rfl (by rw [hg133]; decide)) rfl ?_; clear hE a; intro a hE
                  refine WL.no hE (runs_not hE rfl rfl rfl (by rw [hg133]; decide)) rfl ?_; clear hE a; intro a hE
                  refine WL.vS hS hE (runs_plain rfl) (Gives.pickT hE rfl hg133 rfl) rfl ?_; clear hE a; intro a hE
                  refine WL.vS hS hE (runs_plain rfl) (Gives.p hE rfl) rfl ?_; clear hE a; intro a hE
                  refine WL.no hE (runs_not hE rfl rfl rfl (by decide)) rfl ?_; clear hE a; intro a hE
                  refine WL.no hE (runs_not hE rfl rfl rfl (by decide)) rfl ?_; clear hE a; intro a hE
                  refine WL.no hE (runs_not hE rfl rfl rfl (by decide)) rfl ?_; clear hE a; intro a hE
                  refine WL.vS hS hE (runs_plain rfl) (Gives.pickT hE rfl rfl rfl) rfl ?_; clear hE a; intro a hE
                  refine WL.vS hS hE (runs_plain rfl) (Gives.p hE rfl) rfl ?_; clear hE a; intro a hE
                  refine WL.no hE (runs_not hE rfl rfl rfl (by decide)) rfl ?_; clear hE a; intro a hE
                  refine WL.no hE (runs_not hE rfl rfl rfl (by decide)) rfl ?_; clear hE a; intro a hE
                  refine WL.no hE (runs_not hE rfl rfl rfl (by decide)) rfl ?_; clear hE a; intro a hE
                  refine WL.no hE (runs_not hE rfl rfl rfl (by decide)) rfl ?_; clear hE a; intro a hE
                  refine WL.no hE (runs_not hE rfl rfl rfl (by decide)) rfl ?_; clear hE a; intro a hE
                  refine WL.vS hS hE (runs_plain rfl) (Gives.pickT hE rfl rfl rfl) rfl ?_; clear hE a; intro a hE
                  refine WL.vS hS hE (runs_plain rfl) (Gives.p hE rfl) rfl ?_; clear hE a; intro a hE
                  refine WL.no hE (runs_not hE rfl rfl rfl (by decide)) rfl ?_; clear hE a; intro a hE
                  refine WL.no hE (runs_not hE rfl rfl rfl (by decide)) rfl ?_; clear hE a; intro a hE
                  refine WL.no hE (runs_not hE rfl rfl rfl (by decide)) rfl ?_; clear hE a; intro a hE
                  refine WL.no hE (runs_not hE rfl rfl rfl (by decide)) rfl ?_; clear hE a; intro a hE
                  refine WL.no hE (runs_not hE rfl rfl rfl (by decide)) rfl ?_; clear hE a; intro a hE
                  refine WL.vS hS hE (runs_plain rfl) (Gives.pickT hE rfl rfl rfl) rfl ?_; clear hE a; intro a hE
                  refine WL.vS hS hE (runs_plain rfl) (Gives.p hE rfl) rfl ?_; clear hE a; intro a hE
                  refine WL.no hE (runs_not hE rfl rfl rfl (by decide)) rfl ?_; clear hE a; intro a hE
                  refine WL.no hE (runs_not hE rfl rfl rfl (by decide)) rfl ?_; clear hE a; intro a hE
                  refine WL.no hE (runs_not hE rfl rfl rfl (by decide)) rfl ?_; clear hE a; intro a hE
                  refine WL.vS hS hE (runs_plain rfl) (Gives.pickT hE rfl rfl rfl) rfl ?_; clear hE a; intro a hE
                  refine WL.vS hS hE (runs_plain rfl) (Gives.p hE rfl) rfl ?_; clear hE a; intro a hE
                  refine WL.no hE (runs_not hE rfl rfl rfl (by decide)) rfl ?_; clear hE a; intro a hE
                  refine WL.no hE (runs_not hE rfl rfl rfl (by decide)) rfl ?_; clear hE a; intro a hE
                  refine WL.no hE (runs_not hE rfl rfl rfl (by decide)) rfl ?_; clear hE a; intro a hE
                  refine WL.vS hS hE (runs_plain rfl) (Gives.pickT hE rfl rfl rfl) rfl ?_; clear hE a; intro a hE
                  refine WL.nil ?_
                  subst hK132
                  exact ⟨true, hq127, hE.pick _ ⟨rfl, rfl, rfl, rfl, rfl, rfl, rfl, rfl, trivial⟩, hS⟩
                · replace hq127 := iteF hg133 hq127
                  refine WL.vS hS hE (runs_if hE rfl rfl rfl hg133) (Gives.fld hE rfl fl65_0) rfl ?_; clear hE a; intro a hE
                  refine WL.vS hS hE (runs_if hE rfl rfl rfl hg133) (Gives.loadB hE 0 rfl rfl rfl ty3) rfl ?_; clear hE a; intro a hE
                  refine WL.vS hS hE (runs_if hE rfl rfl rfl hg133) (Gives.p hE rfl) rfl ?_; clear hE a; intro a hE
                  refine WL.vS hS hE (runs_if hE rfl rfl rfl hg133) (Gives.len hE rfl sl41) rfl ?_; clear hE a; intro a hE
                  refine WL.vS hS hE (runs_if hE rfl rfl rfl hg133) (Gives.p hE rfl) rfl ?_; clear hE a; intro a hE
                  refine WL.vS hS hE (runs_plain rfl) (Gives.pickF hE rfl hg133 rfl) rfl ?_; clear hE a; intro a hE
                  refine WL.vS hS hE (runs_plain rfl) (Gives.p hE rfl) rfl ?_; clear hE a; intro a hE
                  rcases Bool.eq_false_or_eq_true (decide (x116.From ≥ ((q82.length : Nat) : Int))) with hg134 | hg134
                  · replace hq127 := iteT hg134 hq127
                    refine WL.no hE (runs_not hE rfl rfl rfl (by rw [hg134]; decide)) rfl ?_; clear hE a; intro a hE
                    refine WL.no hE (runs_not hE rfl rfl rfl (by rw [hg134]; decide)) rfl ?_; clear hE a; intro a hE
                    refine WL.no hE (runs_not hE rfl rfl rfl (by rw [hg134]; decide)) rfl ?_; clear hE a; intro a hE
                    refine WL.vS hS hE (runs_plain rfl) (Gives.pickT hE rfl hg134 rfl) rfl ?_; clear hE a; intro a hE
                    refine WL.vS hS hE (runs_plain rfl) (Gives.p hE rfl) rfl ?_; clear hE a; intro a hE
                    refine WL.no hE (runs_not hE rfl rfl rfl (by decide)) rfl ?_; clear hE a; intro a hE
                    refine WL.no hE (runs_not hE rfl rfl rfl (by decide)) rfl ?_; clear hE a; intro a hE
                    refine WL.no hE (runs_not hE rfl rfl rfl (by decide)) rfl ?_; clear hE a; intro a hE
                    refine WL.no hE (runs_not hE rfl rfl rfl (by decide)) rfl ?_; clear hE a; intro a hE
                    refine WL.no hE (runs_not hE rfl rfl rfl (by decide)) rfl ?_; clear hE a; intro a hE
                    refine WL.vS hS hE (runs_plain rfl) (Gives.pickT hE rfl rfl rfl) rfl ?_; clear hE a; intro a hE
                    refine WL.vS hS hE (runs_plain rfl) (Gives.p hE rfl) rfl ?_; clear hE a; intro a hE
                    refine WL.no hE (runs_not hE rfl rfl rfl (by decide)) rfl ?_; clear hE a; intro a hE
                    refine WL.no hE (runs_not hE rfl rfl rfl (by decide)) rfl ?_; clear hE a; intro a hE
                    refine WL.no hE (runs_not hE rfl rfl rfl (by decide)) rfl ?_; clear hE a; intro a hE
                    refine WL.no hE (runs_not hE rfl rfl rfl (by decide)) rfl ?_; clear hE a; intro a hE
                    refine WL.no hE (runs_not hE rfl rfl rfl (by decide)) rfl ?_; clear hE a; intro a hE
                    refine WL.vS hS hE (runs_plain rfl) (Gives.pickT hE rfl rfl rfl) rfl ?_; clear hE a; intro a hE
                    refine WL.vS hS hE (runs_plain rfl) (Gives.p hE rfl) rfl ?_; clear hE a; intro a hE
                    refine WL.no hE (runs_not hE rfl rfl rfl (by decide)) rfl ?_; clear hE a; intro a hE
                    refine WL.no hE (runs_not hE rfl rfl rfl (by decide)) rfl ?_; clear hE a; intro a hE
                    refine WL.no hE (runs_not hE rfl rfl rfl (by decide)) rfl ?_; clear hE a; intro a hE
                    refine WL.vS hS hE (runs_plain rfl) (Gives.pickT hE rfl rfl rfl) rfl ?_; clear hE a; intro a hE
                    refine WL.vS hS hE (runs_plain rfl) (Gives.p hE rfl) rfl ?_; clear hE a; intro a hE
                    refine WL.no hE (runs_not hE rfl rfl rfl (by decide)) rfl ?_; clear hE a; intro a hE
                    refine WL.no hE (runs_not hE rfl rfl rfl (by decide)) rfl ?_; clear hE a; intro a hE
                    refine WL.no hE (runs_not hE rfl rfl rfl (by decide)) rfl ?_; clear hE a; intro a hE
                    refine WL.vS hS hE (runs_plain rfl) (Gives.pickT hE rfl rfl rfl) rfl ?_; clear hE a; intro a hE
                    refine WL.nil ?_
                    subst hK132
                    exact ⟨true, hq127, hE.pick _ ⟨rfl, rfl, rfl, rfl, rfl, rfl, rfl, rfl, trivial⟩, hS⟩
                  · replace hq127 := iteF hg134 hq127
                    refine WL.vS hS hE (runs_if hE rfl rfl rfl hg134) (Gives.fld hE rfl fl65_1) rfl ?_; clear hE a; intro a hE
                    refine WL.vS hS hE (runs_if hE rfl rfl rfl hg134) (Gives.loadB hE 0 rfl rfl rfl ty3) rfl ?_; clear hE a; intro a hE
                    refine WL.vS hS hE (runs_if hE rfl rfl rfl hg134) (Gives.p hE rfl) rfl ?_; clear hE a; intro a hE
                    refine WL.vS hS hE (runs_plain rfl) (Gives.pickF hE rfl hg134 rfl) rfl ?_; clear hE a; intro a hE
                    refine WL.vS hS hE (runs_plain rfl) (Gives.p hE rfl) rfl ?_; clear hE a; intro a hE
                    rcases Bool.eq_false_or_eq_true (decide (x116.To < 0)) with hg135 | hg135
                    · replace hq127 := iteT hg135 hq127
                      refine WL.no hE (runs_not hE rfl rfl rfl (by rw [hg135]; decide)) rfl ?_; clear hE a; intro a hE
                      refine WL.no hE (runs_not hE rfl rfl rfl (by rw [hg135]; decide)) rfl ?_; clear hE a; intro a hE
                      refine WL.no hE (runs_not hE rfl rfl rfl (by rw [hg135]; decide)) rfl ?_; clear hE a; intro a hE
                      refine WL.no hE (runs_not hE rfl rfl rfl (by rw [hg135]; decide)) rfl ?_; clear hE a; intro a hE
                      refine WL.no hE (runs_not hE rfl rfl rfl (by rw [hg135]; decide)) rfl ?_; clear hE a; intro a hE
                      refine WL.vS hS hE (runs_plain rfl) (Gives.pickT hE rfl hg135 rfl) rfl ?_; clear hE a; intro a hE
                      refine WL.vS hS hE (runs_plain rfl) (Gives.p hE rfl) rfl ?_; clear hE a; intro a hE
                      refine WL.no hE (runs_not hE rfl rfl rfl (by decide)) rfl ?_; clear hE a; intro a hE
                      refine WL.no hE (runs_not hE rfl rfl rfl (by decide)) rfl ?_; clear hE a; intro a hE
                      refine WL.no hE (runs_not hE rfl rfl rfl (by decide)) rfl ?_; clear hE a; intro a hE
                      refine WL.no hE (runs_not hE rfl rfl rfl (by decide)) rfl ?_; clear hE a; intro a hE
                      refine WL.no hE (runs_not hE rfl rfl rfl (by decide)) rfl ?_; clear hE a; intro a hE
                      refine WL.vS hS hE (runs_plain rfl) (Gives.pickT hE rfl rfl rfl) rfl ?_; clear hE a; intro a hE
                      refine WL.vS hS hE (runs_plain rfl) (Gives.p hE rfl) rfl ?_; clear hE a; intro a hE
                      refine WL.no hE (runs_not hE rfl rfl rfl (by decide)) rfl ?_; clear hE a; intro a hE
                      refine WL.no hE (runs_not hE rfl rfl rfl (by decide)) rfl ?_; clear hE a; intro a hE
                      refine WL.no hE (runs_not hE rfl rfl rfl (by decide)) rfl ?_; clear hE a; intro a hE
                      refine WL.vS hS hE (runs_plain rfl) (Gives.pickT hE rfl rfl rfl) rfl ?_; clear hE a; intro a hE
                      refine WL.vS hS hE (runs_plain rfl) (Gives.p hE rfl) rfl ?_; clear hE a; intro a hE
                      refine WL.no hE (runs_not hE rfl rfl rfl (by decide)) rfl ?_; clear hE a; intro a hE
                      refine WL.no hE (runs_not hE rfl rfl rfl (by decide)) rfl ?_; clear hE a; intro a hE
                      refine WL.no hE (runs_not hE rfl rfl rfl (by decide)) rfl ?_; clear hE a; intro a hE
                      refine WL.vS hS hE (runs_plain rfl) (Gives.pickT hE rfl rfl rfl) rfl ?_; clear hE a; intro a hE
                      refine WL.nil ?_
                      subst hK132
                      exact ⟨true, hq127, hE.pick _ ⟨rfl, rfl, rfl, rfl, rfl, rfl, rfl, rfl, trivial⟩, hS⟩
                    · replace hq127 := iteF hg135 hq127
                      refine WL.vS hS hE (runs_if hE rfl rfl rfl hg135) (Gives.fld hE rfl fl65_1) rfl ?_; clear hE a; intro a hE
                      refine WL.vS hS hE (runs_if hE rfl rfl rfl hg135) (Gives.loadB hE 0 rfl rfl rfl ty3) rfl ?_; clear hE a; intro a hE
                      refine WL.vS hS hE (runs_if hE rfl rfl rfl hg135) (Gives.p hE rfl) rfl ?_; clear hE a; intro a hE
                      refine WL.vS hS hE (runs_if hE rfl rfl rfl hg135) (Gives.len hE rfl sl41) rfl ?_; clear hE a; intro a hE
                      refine WL.vS hS hE (runs_if hE rfl rfl rfl hg135) (Gives.p hE rfl) rfl ?_; clear hE a; intro a hE
                      refine WL.vS hS hE (runs_plain rfl) (Gives.pickF hE rfl hg135 rfl) rfl ?_; clear hE a; intro a hE
                      refine WL.vS hS hE (runs_plain rfl) (Gives.p hE rfl) rfl ?_; clear hE a; intro a hE
                      rcases Bool.eq_false_or_eq_true (decide (x116.To ≥ ((q82.length : Nat) : Int))) with hg136 | hg136
                      · replace hq127 := iteT hg136 hq127
                        refine WL.no hE (runs_not hE rfl rfl rfl (by rw [hg136]; decide)) rfl ?_; clear hE a; intro a hE
                        refine WL.no hE (runs_not hE rfl rfl rfl (by rw [hg136]; decide)) rfl ?_; clear hE a; intro a hE
                        refine WL.no hE (runs_not hE rfl rfl rfl (by rw [hg136]; decide)) rfl ?_; clear hE a; intro a hE
                        refine WL.no hE (runs_not hE rfl rfl rfl (by rw [hg136]; decide)) rfl ?_; clear hE a; intro a hE
                        refine WL.no hE (runs_not hE rfl rfl rfl (by rw [hg136]; decide)) rfl ?_; clear hE a; intro a hE
                        refine WL.vS hS hE (runs_plain rfl) (Gives.pickT hE rfl hg136 rfl) rfl ?_; clear hE a; intro a hE
                        refine WL.vS hS hE (runs_plain rfl) (Gives.p hE rfl) rfl ?_; clear hE a; intro a hE
                        refine WL.no hE (runs_not hE rfl rfl rfl (by decide)) rfl ?_; clear hE a; intro a hE
                        refine WL.no hE (runs_not hE rfl rfl rfl (by decide)) rfl ?_; clear hE a; intro a hE
                        refine WL.no hE (runs_not hE rfl rfl rfl (by decide)) rfl ?_; clear hE a; intro a hE
                        refine WL.vS hS hE (runs_plain rfl) (Gives.pickT hE rfl rfl rfl) rfl ?_; clear hE a; intro a hE
                        refine WL.vS hS hE (runs_plain rfl) (Gives.p hE rfl) rfl ?_; clear hE a; intro a hE
                        refine WL.no hE (runs_not hE rfl rfl rfl (by decide)) rfl ?_; clear hE a; intro a hE
                        refine WL.no hE (runs_not hE rfl rfl rfl (by decide)) rfl ?_; clear hE a; intro a hE
                        refine WL.no hE (runs_not hE rfl rfl rfl (by decide)) rfl ?_; clear hE a; intro a hE
                        refine WL.vS hS hE (runs_plain rfl) (Gives.pickT hE rfl rfl rfl) rfl ?_; clear hE a; intro a hE
                        refine WL.nil ?_
                        subst hK132
                        exact ⟨true, hq127, hE.pick _ ⟨rfl, rfl, rfl, rfl, rfl, rfl, rfl, rfl, trivial⟩, hS⟩
                      · replace hq127 := iteF hg136 hq127
                        refine WL.vS hS hE (runs_if hE rfl rfl rfl hg136) (Gives.fld hE rfl fl65_0) rfl ?_; clear hE a; intro a hE
                        refine WL.vS hS hE (runs_if hE rfl rfl rfl hg136) (Gives.loadB hE 0 rfl rfl rfl ty3) rfl ?_; clear hE a; intro a hE
                        refine WL.vS hS hE (runs_if hE rfl rfl rfl hg136) (Gives.fld hE rfl fl65_1) rfl ?_; clear hE a; intro a hE
                        refine WL.vS hS hE (runs_if hE rfl rfl rfl hg136) (Gives.loadB hE 0 rfl rfl rfl ty3) rfl ?_; clear hE a; intro a hE
                        refine WL.vS hS hE (runs_if hE rfl rfl rfl hg136) (Gives.p hE rfl) rfl ?_; clear hE a; intro a hE
                        refine WL.vS hS hE (runs_plain rfl) (Gives.pickF hE rfl hg136 rfl) rfl ?_; clear hE a; intro a hE
                        refine WL.vS hS hE (runs_plain rfl) (Gives.p hE rfl) rfl ?_; clear hE a; intro a hE
                        rcases Bool.eq_false_or_eq_true (x116.From == x116.To) with hg137 | hg137
                        · replace hq127 := iteT hg137 hq127
                          refine WL.no hE (runs_not hE rfl rfl rfl (by rw [hg137]; decide)) rfl ?_; clear hE a; intro a hE
                          refine WL.no hE (runs_not hE rfl rfl rfl (by rw [hg137]; decide)) rfl ?_; clear hE a; intro a hE
                          refine WL.no hE (runs_not hE rfl rfl rfl (by rw [hg137]; decide)) rfl ?_; clear hE a; intro a hE
                          refine WL.vS hS hE (runs_plain rfl) (Gives.pickT hE rfl hg137 rfl) rfl ?_; clear hE a; intro a hE
                          refine WL.vS hS hE (runs_plain rfl) (Gives.p hE rfl) rfl ?_; clear hE a; intro a hE
                          refine WL.no hE (runs_not hE rfl rfl rfl (by decide)) rfl ?_; clear hE a; intro a hE
                          refine WL.no hE (runs_not hE rfl rfl rfl (by decide)) rfl ?_; clear hE a; intro a hE
                          refine WL.no hE (runs_not hE rfl rfl rfl (by decide)) rfl ?_; clear hE a; intro a hE
                          refine WL.vS hS hE (runs_plain rfl) (Gives.pickT hE rfl rfl rfl) rfl ?_; clear hE a; intro a hE
                          refine WL.nil ?_
                          subst hK132
                          exact ⟨true, hq127, hE.pick _ ⟨rfl, rfl, rfl, rfl, rfl, rfl, rfl, rfl, trivial⟩, hS⟩
                        · replace hq127 := iteF hg137 hq127
                          refine WL.vS hS hE (runs_if hE rfl rfl rfl hg137) (Gives.fld hE rfl fl65_2) rfl ?_; clear hE a; intro a hE
                          refine WL.vS hS hE (runs_if hE rfl rfl rfl hg137) (Gives.loadB hE 0 rfl rfl rfl ty3) rfl ?_; clear hE a; intro a hE
                          refine WL.vS hS hE (runs_if hE rfl rfl rfl hg137) (Gives.p hE rfl) rfl ?_; clear hE a; intro a hE
                          refine WL.vS hS hE (runs_plain rfl) (Gives.pickF hE rfl hg137 rfl) rfl ?_; clear hE a; intro a hE
                          refine WL.vS hS hE (runs_plain rfl) (Gives.p hE rfl) rfl ?_; clear hE a; intro a hE
                          rcases Bool.eq_false_or_eq_true (decide (x116.Sum < 1)) with hg138 | hg138
                          · replace hq127 := iteT hg138 hq127
                            refine WL.no hE (runs_not hE rfl rfl rfl (by rw [hg138]; decide)) rfl ?_; clear hE a; intro a hE
                            refine WL.no hE (runs_not hE rfl rfl rfl (by rw [hg138]; decide)) rfl ?_; clear hE a; intro a hE
                            refine WL.no hE (runs_not hE rfl rfl rfl (by rw [hg138]; decide)) rfl ?_; clear hE a; intro a hE
                            refine WL.vS hS hE (runs_plain rfl) (Gives.pickT hE rfl hg138 rfl) rfl ?_; clear hE a; intro a hE
                            refine WL.nil ?_
                            subst hK132
                            exact ⟨true, hq127, hE.pick _ ⟨rfl, rfl, rfl, rfl, rfl, rfl, rfl, rfl, trivial⟩, hS⟩
                          · replace hq127 := iteF hg138 hq127
                            refine WL.vS hS hE (runs_if hE rfl rfl rfl hg138) (Gives.fld hE rfl fl65_2) rfl ?_; clear hE a; intro a hE
                            refine WL.vS hS hE (runs_if hE rfl rfl rfl hg138) (Gives.loadB hE 0 rfl rfl rfl ty3) rfl ?_; clear hE a; intro a hE
                            refine WL.vS hS hE (runs_if hE rfl rfl rfl hg138) (Gives.p hE rfl) rfl ?_; clear hE a; intro a hE
                            refine WL.vS hS hE (runs_plain rfl) (Gives.pickF hE rfl hg138 rfl) rfl ?_; clear hE a; intro a hE
                            refine WL.nil ?_
                            subst hK132
                            exact ⟨decide (x116.Sum > 1099511627776), hq127, hE.pick _ ⟨rfl, rfl, rfl, rfl, rfl, rfl, rfl, rfl, trivial⟩, hS⟩
              · clear hE hS a w; rintro a w ⟨q131, rfl, hE, hS⟩
                refine W.cond hE rfl (fun hc139 => ?_) (fun hc139 => ?_)
                · replace hq97 := iteT hc139 hq97
                  refine W.seq ?_
                  refine W.region ?_
                  refine WL.vS hS hE (runs_plain rfl) (Gives.p hE rfl) rfl ?_; clear hE a; intro a hE
                  refine WL.nil ?_
                  refine W.ret ?_
                  subst hK115
                  rw [← Option.some.inj hq97] at hr
                  dsimp only at hr
                  refine finG (fn := Try.f7) (rs := [.tmp 2]) (vs := [_]) hE rfl ⟨rfl, trivial⟩ ?_
                  obtain rfl := Option.some.inj hr
                  replace hS := hS.tail
                  replace hS := hS.tail
                  replace hS := hS.tail
                  exact ⟨rfl, (hS.down (Sg.Le.trans hle60 hle107))⟩
                · replace hq97 := iteF hc139 hq97
                  refine W.skip ?_
                  refine W.seq ?_
                  refine W.seq ?_
                  obtain ⟨q141, hq140, hq97⟩ := bindS hq97
                  refine W.cut (fun a w => ∃ (q144 : Bool), ∃ (s142 : Sg), s106.Le s142 ∧ q144 = q141 ∧ Rep a 134 [(3, .slice a53 q51.1.length c54), (6, .slice a84 q82.length c85), (8, .pointer (some ⟨b126, 0, none⟩)), (42, .slice a53 q51.1.length c54), (43, .int .i64 ((q51.1.length : Nat) : Int)), (44, .int .i64 ((k99 : Nat) : Int)), (111, .bool q144)] ∧ St w s142 (pt b126 (.cells (FarePayment.cells x116).toArray 65 (0, 0)) :: vecC 3 1 a84 c85 q82.length cs113 :: vecC 65 3 a53 c54 q51.1.length cs56 :: R)) ?_ ?_
                  · refine W.gen fun K145 hK145 => ?_
                    refine W.gen fun K146 hK146 => ?_
                    refine W.regionE (sel (fun w => St w s106 (pt b126 (.cells (FarePayment.cells x116).toArray 65 (0, 0)) :: vecC 3 1 a84 c85 q82.length cs113 :: vecC 65 3 a53 c54 q51.1.length cs56 :: R)) (fun w => St w s106 (pt b126 (.cells (FarePayment.cells x116).toArray 65 (0, 0)) :: vecC 3 1 a84 c85 q82.length cs113 :: vecC 65 3 a53 c54 q51.1.length cs56 :: R))) (fun b i => cond b ([0, 1, 2, 3, 4, 5, 6, 7, 8, 9, 10, 11, 12, 13, 14, 15, 16, 17, 18, 19, 20, 21, 22, 23].contains i) ([0, 1, 2, 3, 4, 5, 6, 7, 8, 9, 10, 11, 12, 13, 14, 15, 16, 17, 18, 19, 20, 21, 22, 23].contains i)) mixed ?_
                    replace hS := hS.drew
                    refine Rg.takeP (i := 0) hE rfl (by kernel_rfl) (runs_plain rfl) (Gives.p hE rfl) rfl (tw_sel (fun _ => hS) (fun _ => hS)) ?_; clear hE a; intro a hE
                    refine Rg.takeP (i := 1) hE rfl (by kernel_rfl) (runs_plain rfl) (Gives.p hE rfl) rfl (tw_sel (fun _ => hS) (fun _ => hS)) ?_; clear hE a; intro a hE
                    refine Rg.takeP (i := 2) hE rfl (by kernel_rfl) (runs_plain rfl) (Gives.p hE rfl) rfl (tw_sel (fun _ => hS) (fun _ => hS)) ?_; clear hE a; intro a hE
                    rcases Bool.eq_false_or_eq_true (decide (((k99 : Nat) : Int) > 0)) with hg147 | hg147
                    · replace hq140 := iteT hg147 hq140
                      refine Rg.takeP (i := 3) hE rfl (by kernel_rfl) (runs_if hE rfl rfl rfl hg147) (Gives.fld hE rfl fl65_0) rfl (tw_sel (fun _ => hS) (fun _ => hS)) ?_; clear hE a; intro a hE
                      have hT := tw_sel (A := fun w => St w s106 (pt b126 (.cells (FarePayment.cells x116).toArray 65 (0, 0)) :: vecC 3 1 a84 c85 q82.length cs113 :: vecC 65 3 a53 c54 q51.1.length cs56 :: R)) (B := fun w => St w s106 (pt b126 (.cells (FarePayment.cells x116).toArray 65 (0, 0)) :: vecC 3 1 a84 c85 q82.length cs113 :: vecC 65 3 a53 c54 q51.1.length cs56 :: R)) (w := _) (x := true) (y := true) (fun _ => hS) (fun _ => hS)
                      have hF := hS; replace hS := hS
                      refine Rg.take (i := 4) true rfl hE rfl (by kernel_rfl) (runs_if hE rfl rfl rfl hg147) (Gives.loadB hE 0 rfl rfl rfl ty3) rfl hT ?_; clear hE a; intro a hE
                      replace hS := hF; clear hF hT
                      refine Rg.takeP (i := 5) hE rfl (by kernel_rfl) (runs_if hE rfl rfl rfl hg147) (Gives.fld hE rfl fl65_1) rfl (tw_sel (fun _ => hS) (fun _ => hS)) ?_; clear hE a; intro a hE
                      have hT := tw_sel (A := fun w => St w s106 (pt b126 (.cells (FarePayment.cells x116).toArray 65 (0, 0)) :: vecC 3 1 a84 c85 q82.length cs113 :: vecC 65 3 a53 c54 q51.1.length cs56 :: R)) (B := fun w => St w s106 (pt b126 (.cells (FarePayment.cells x116).toArray 65 (0, 0)) :: vecC 3 1 a84 c85 q82.length cs113 :: vecC 65 3 a53 c54 q51.1.length cs56 :: R)) (w := _) (x := true) (y := true) (fun _ => hS) (fun _ => hS)
                      have hF := hS; replace hS := hS
                      refine Rg.take (i := 6) true rfl hE rfl (by kernel_rfl) (runs_if hE rfl rfl rfl hg147) (Gives.loadB hE 0 rfl rfl rfl ty3) rfl hT ?_; clear hE a; intro a hE
                      replace hS := hF; clear hF hT
                      refine Rg.takeP (i := 8) hE rfl (by kernel_rfl) (runs_if hE rfl rfl rfl hg147) (Gives.p hE rfl) rfl (tw_sel (fun _ => hS) (fun _ => hS)) ?_; clear hE a; intro a hE
                      refine Rg.takeP (i := 9) hE rfl (by kernel_rfl) (runs_if hE rfl rfl rfl hg147) (Gives.p hE rfl) rfl (tw_sel (fun _ => hS) (fun _ => hS)) ?_; clear hE a; intro a hE
                      refine Rg.takeP (i := 10) hE rfl (by kernel_rfl) (runs_if hE rfl rfl rfl hg147) (Gives.p hE rfl) rfl (tw_sel (fun _ => hS) (fun _ => hS)) ?_; clear hE a; intro a hE
                      obtain ⟨x148, hx149, hq140⟩ := bindS hq140
                      obtain ⟨hi150, hlt151, hy152⟩ := gx_some hx149
                      obtain ⟨vs153, hl154, hR155, hd156, hget157⟩ := h57.at hy152
                      subst hR155
                      refine Rg.takeP (i := 11) hE rfl (by kernel_rfl) (runs_if hE rfl rfl rfl hg147) (Gives.idx hE ((w64 (((k99 : Nat) : Int) - 1)).toNat) rfl rfl sl58 hi150 (by omega) (hS.vecAok 2 rfl (by omega : (w64 (((k99 : Nat) : Int) - 1)).toNat < q51.1.length))) rfl (tw_sel (fun _ => hS) (fun _ => hS)) ?_; clear hE a; intro a hE
                      refine Rg.takeP (i := 12) hE rfl (by kernel_rfl) (runs_if hE rfl rfl rfl hg147) (Gives.fld hE rfl fl65_0) rfl (tw_sel (fun _ => hS) (fun _ => hS)) ?_; clear hE a; intro a hE
                      have hT := tw_sel (A := fun w => St w s106 (pt b126 (.cells (FarePayment.cells x116).toArray 65 (0, 0)) :: vecC 3 1 a84 c85 q82.length cs113 :: vecC 65 3 a53 c54 q51.1.length cs56 :: R)) (B := fun w => St w s106 (pt b126 (.cells (FarePayment.cells x116).toArray 65 (0, 0)) :: vecC 3 1 a84 c85 q82.length cs113 :: vecC 65 3 a53 c54 q51.1.length cs56 :: R)) (w := _) (x := true) (y := true) (fun _ => hS) (fun _ => hS)
                      have hF := hS; replace hS := hS
                      refine Rg.take (i := 13) true rfl hE rfl (by kernel_rfl) (runs_if hE rfl rfl rfl hg147) (Gives.load1 hE rfl (fun w h => (St.vecSees h 2 rfl ((w64 (((k99 : Nat) : Int) - 1)).toNat * 3) _ hget157).one rfl) ty3) rfl hT ?_; clear hE a; intro a hE
                      replace hS := hF; clear hF hT
                      refine Rg.takeP (i := 14) hE rfl (by kernel_rfl) (runs_if hE rfl rfl rfl hg147) (Gives.p hE rfl) rfl (tw_sel (fun _ => hS) (fun _ => hS)) ?_; clear hE a; intro a hE
                      refine Rg.takeP (i := 15) hE rfl (by kernel_rfl) (runs_if hE rfl rfl rfl hg147) (Gives.p hE rfl) rfl (tw_sel (fun _ => hS) (fun _ => hS)) ?_; clear hE a; intro a hE
                      refine Rg.takeP (i := 16) hE rfl (by kernel_rfl) (runs_if hE rfl rfl rfl hg147) (Gives.p hE rfl) rfl (tw_sel (fun _ => hS) (fun _ => hS)) ?_; clear hE a; intro a hE
                      obtain ⟨x158, hx159, hq140⟩ := bindS hq140
                      obtain ⟨hi160, hlt161, hy162⟩ := gx_some hx159
                      obtain ⟨vs163, hl164, hR165, hd166, hget167⟩ := h57.at hy162
                      subst hR165
                      refine Rg.takeP (i := 17) hE rfl (by kernel_rfl) (runs_if hE rfl rfl rfl hg147) (Gives.idx hE ((w64 (((k99 : Nat) : Int) - 1)).toNat) rfl rfl sl58 hi160 (by omega) (hS.vecAok 2 rfl (by omega : (w64 (((k99 : Nat) : Int) - 1)).toNat < q51.1.length))) rfl (tw_sel (fun _ => hS) (fun _ => hS)) ?_; clear hE a; intro a hE
                      refine Rg.takeP (i := 18) hE rfl (by kernel_rfl) (runs_if hE rfl rfl rfl hg147) (Gives.fld hE rfl fl65_1) rfl (tw_sel (fun _ => hS) (fun _ => hS)) ?_; clear hE a; intro a hE
                      have hT := tw_sel (A := fun w => St w s106 (pt b126 (.cells (FarePayment.cells x116).toArray 65 (0, 0)) :: vecC 3 1 a84 c85 q82.length cs113 :: vecC 65 3 a53 c54 q51.1.length cs56 :: R)) (B := fun w => St w s106 (pt b126 (.cells (FarePayment.cells x116).toArray 65 (0, 0)) :: vecC 3 1 a84 c85 q82.length cs113 :: vecC 65 3 a53 c54 q51.1.length cs56 :: R)) (w := _) (x := true) (y := true) (fun _ => hS) (fun _ => hS)
                      have hF := hS; replace hS := hS
                      refine Rg.take (i := 19) true rfl hE rfl (by kernel_rfl) (runs_if hE rfl rfl rfl hg147) (Gives.load1 hE rfl (fun w h => (St.vecSees h 2 rfl ((w64 (((k99 : Nat) : Int) - 1)).toNat * 3) _ hget167).one rfl) ty3) rfl hT ?_; clear hE a; intro a hE
                      replace hS := hF; clear hF hT
                      obtain ⟨q180, hq181, hq140⟩ := bindS hq140
                      suffices key : ∀ s177 (a : Act) (w : World), s106.Le s177 → Ev 1 (RI .i64) s177 cs113 q109 → (q109).length = q82.length → Ev 3 RFarePayment s177 cs56 q51.1 → Rep a 134 [(3, .slice a53 q51.1.length c54), (6, .slice a84 q82.length c85), (8, .pointer (some ⟨b126, 0, none⟩)), (42, .slice a53 q51.1.length c54), (43, .int .i64 ((q51.1.length : Nat) : Int)), (44, .int .i64 ((k99 : Nat) : Int)), (111, .bool (decide (q180 ≤ 0)))] → St w s177 (pt b126 (.cells (FarePayment.cells x116).toArray 65 (0, 0)) :: vecC 3 1 a84 c85 q82.length cs113 :: vecC 65 3 a53 c54 q51.1.length cs56 :: R) → K146.nor a w by
                        refine Rg.many 7 [20] (by kernel_rfl) ⟨?_, ?_, trivial⟩
                        · refine Br.mk (i := 7) true true rfl (by kernel_rfl) (by kernel_rfl) ?_
                          refine WL.lit hE hS (e := 3) (es := 1) (vs := [(0, .int .i64 x116.From), (1, .int .i64 x116.To)]) (cs := [.int .i64 x116.From, .int .i64 x116.To]) (runs_if hE rfl rfl rfl hg147) rfl (by kernel_rfl) rfl ?_; clear hE hS a w; intro b168 a w hE hS
                          replace hS := hS.ptVec (es := 1) (m := 2) rfl (by decide)
                          have h170 : Ev 1 (RI .i64) s106 [.int .i64 x116.From, .int .i64 x116.To] [x116.From, x116.To] := (Ev.cons (c1 := [.int .i64 x116.From]) rfl rfl (Ev.cons (c1 := [.int .i64 x116.To]) rfl rfl (Ev.nil)))
                          have hF := hS.fixD RI.mono 0 rfl h170 (rfl); clear hS; obtain ⟨s171, hle172, hS, h173⟩ := hF
                          replace h112 := Ev.mono RI.mono hle172 h112
                          replace h57 := Ev.mono RFarePayment.mono hle172 h57
                          refine WL.nil ?_
                          refine ⟨⟨fun _ => (St.down hle172 hS), fun _ => (St.down hle172 hS)⟩, ?_⟩
                          refine Rg.one (i := 20) true true rfl (by kernel_rfl) (by kernel_rfl) (by kernel_rfl) ?_
                          refine WL.lit hE hS (e := 3) (es := 1) (vs := [(0, .int .i64 x148.From), (1, .int .i64 x158.To)]) (cs := [.int .i64 x148.From, .int .i64 x158.To]) (runs_if hE rfl rfl rfl hg147) rfl (by kernel_rfl) rfl ?_; clear hE hS a w; intro b174 a w hE hS
                          replace hS := hS.ptVec (es := 1) (m := 2) rfl (by decide)
                          have h176 : Ev 1 (RI .i64) s171 [.int .i64 x148.From, .int .i64 x158.To] [x148.From, x158.To] := (Ev.cons (c1 := [.int .i64 x148.From]) rfl rfl (Ev.cons (c1 := [.int .i64 x158.To]) rfl rfl (Ev.nil)))
                          have hF := hS.fixD RI.mono 0 rfl h176 (rfl); clear hS; obtain ⟨s177, hle178, hS, h179⟩ := hF
                          replace h173 := Sl.mono RI.mono hle178 h173
                          replace h112 := Ev.mono RI.mono hle178 h112
                          replace h57 := Ev.mono RFarePayment.mono hle178 h57
                          refine WL.nil ?_
                          refine ⟨⟨fun _ => (St.down (Sg.Le.trans hle172 hle178) hS), fun _ => (St.down (Sg.Le.trans hle172 hle178) hS)⟩, ?_⟩
                          refine Rg.one (i := 21) true true rfl (by kernel_rfl) (by kernel_rfl) (by kernel_rfl) ?_
                          have hc_ := SlicesCompareLint_ok hS h173 h179 hq181
                          refine WL.fnq hE (hc_) (runs_if hE rfl rfl rfl hg147) bd29 rfl rfl rfl ?_
                          clear hE hS hc_; rintro e w ⟨rfl, hS⟩; refine ⟨_, rfl, ?_⟩; clear a; intro a hE
                          refine WL.nil ?_
                          refine ⟨⟨fun _ => (St.down (Sg.Le.trans hle172 hle178) hS), fun _ => (St.down (Sg.Le.trans hle172 hle178) hS)⟩, ?_⟩
                          refine Rg.takeP (i := 22) hE rfl (by kernel_rfl) (runs_if hE rfl rfl rfl hg147) (Gives.p hE rfl) rfl (tw_sel (fun _ => (St.down (Sg.Le.trans hle172 hle178) hS)) (fun _ => (St.down (Sg.Le.trans hle172 hle178) hS))) ?_; clear hE a; intro a hE
                          refine Rg.takeP (i := 23) hE rfl (by kernel_rfl) (runs_plain rfl) (Gives.pickT hE rfl hg147 rfl) rfl (tw_sel (fun _ => (St.down (Sg.Le.trans hle172 hle178) hS)) (fun _ => (St.down (Sg.Le.trans hle172 hle178) hS))) ?_; clear hE a; intro a hE
                          refine Rg.done (by kernel_rfl) ?_
                          exact key _ _ _ (Sg.Le.trans hle172 hle178) h112 hn114 h57 (hE.pick _ ⟨rfl, rfl, rfl, rfl, rfl, rfl, rfl, trivial⟩) hS
                        · refine Br.mk (i := 20) true true rfl (by kernel_rfl) (by kernel_rfl) ?_
                          refine WL.lit hE hS (e := 3) (es := 1) (vs := [(0, .int .i64 x148.From), (1, .int .i64 x158.To)]) (cs := [.int .i64 x148.From, .int .i64 x158.To]) (runs_if hE rfl rfl rfl hg147) rfl (by kernel_rfl) rfl ?_; clear hE hS a w; intro b174 a w hE hS
                          replace hS := hS.ptVec (es := 1) (m := 2) rfl (by decide)
                          have h176 : Ev 1 (RI .i64) s106 [.int .i64 x148.From, .int .i64 x158.To] [x148.From, x158.To] := (Ev.cons (c1 := [.int .i64 x148.From]) rfl rfl (Ev.cons (c1 := [.int .i64 x158.To]) rfl rfl (Ev.nil)))
                          have hF := hS.fixD RI.mono 0 rfl h176 (rfl); clear hS; obtain ⟨s177, hle178, hS, h179⟩ := hF
                          replace h112 := Ev.mono RI.mono hle178 h112
                          replace h57 := Ev.mono RFarePayment.mono hle178 h57
                          refine WL.nil ?_
                          refine ⟨⟨fun _ => (St.down hle178 hS), fun _ => (St.down hle178 hS)⟩, ?_⟩
                          refine Rg.one (i := 7) true true rfl (by kernel_rfl) (by kernel_rfl) (by kernel_rfl) ?_
                          refine WL.lit hE hS (e := 3) (es := 1) (vs := [(0, .int .i64 x116.From), (1, .int .i64 x116.To)]) (cs := [.int .i64 x116.From, .int .i64 x116.To]) (runs_if hE rfl rfl rfl hg147) rfl (by kernel_rfl) rfl ?_; clear hE hS a w; intro b168 a w hE hS
                          replace hS := hS.ptVec (es := 1) (m := 2) rfl (by decide)
                          have h170 : Ev 1 (RI .i64) s177 [.int .i64 x116.From, .int .i64 x116.To] [x116.From, x116.To] := (Ev.cons (c1 := [.int .i64 x116.From]) rfl rfl (Ev.cons (c1 := [.int .i64 x116.To]) rfl rfl (Ev.nil)))
                          have hF := hS.fixD RI.mono 0 rfl h170 (rfl); clear hS; obtain ⟨s171, hle172, hS, h173⟩ := hF
                          replace h179 := Sl.mono RI.mono hle172 h179
                          replace h112 := Ev.mono RI.mono hle172 h112
                          replace h57 := Ev.mono RFarePayment.mono hle172 h57
                          refine WL.nil ?_
                          refine ⟨⟨fun _ => (St.down (Sg.Le.trans hle178 hle172) hS), fun _ => (St.down (Sg.Le.trans hle178 hle172) hS)⟩, ?_⟩
                          refine Rg.one (i := 21) true true rfl (by kernel_rfl) (by kernel_rfl) (by kernel_rfl) ?_
                          have hc_ := SlicesCompareLint_ok hS h173 h179 hq181
                          refine WL.fnq hE (hc_) (runs_if hE rfl rfl rfl hg147) bd29 rfl rfl rfl ?_
                          clear hE hS hc_; rintro e w ⟨rfl, hS⟩; refine ⟨_, rfl, ?_⟩; clear a; intro a hE
                          refine WL.nil ?_
                          refine ⟨⟨fun _ => (St.down (Sg.Le.trans hle178 hle172) hS), fun _ => (St.down (Sg.Le.trans hle178 hle172) hS)⟩, ?_⟩
                          refine Rg.takeP (i := 22) hE rfl (by kernel_rfl) (runs_if hE rfl rfl rfl hg147) (Gives.p hE rfl) rfl (tw_sel (fun _ => (St.down (Sg.Le.trans hle178 hle172) hS)) (fun _ => (St.down (Sg.Le.trans hle178 hle172) hS))) ?_; clear hE a; intro a hE
                          refine Rg.takeP (i := 23) hE rfl (by kernel_rfl) (runs_plain rfl) (Gives.pickT hE rfl hg147 rfl) rfl (tw_sel (fun _ => (St.down (Sg.Le.trans hle178 hle172) hS)) (fun _ => (St.down (Sg.Le.trans hle178 hle172) hS))) ?_; clear hE a; intro a hE
                          refine Rg.done (by kernel_rfl) ?_
                          exact key _ _ _ (Sg.Le.trans hle178 hle172) h112 hn114 h57 (hE.pick _ ⟨rfl, rfl, rfl, rfl, rfl, rfl, rfl, trivial⟩) hS
                      clear hE hS a w; intro s177 a w hle182 h112 hn114 h57 hE hS
                      subst hK146
                      subst hK145
                      exact ⟨decide (q180 ≤ 0), s177, hle182, Option.some.inj hq140, hE.pick _ ⟨rfl, rfl, rfl, rfl, rfl, rfl, rfl, trivial⟩, hS⟩
                    · replace hq140 := iteF hg147 hq140
                      refine Rg.no (i := 3) hE rfl (by kernel_rfl) (runs_not hE rfl rfl rfl (by rw [hg147]; decide)) rfl (tw_sel (fun _ => hS) (fun _ => hS)) ?_; clear hE a; intro a hE
                      refine Rg.no (i := 4) hE rfl (by kernel_rfl) (runs_not hE rfl rfl rfl (by rw [hg147]; decide)) rfl (tw_sel (fun _ => hS) (fun _ => hS)) ?_; clear hE a; intro a hE
                      refine Rg.no (i := 5) hE rfl (by kernel_rfl) (runs_not hE rfl rfl rfl (by rw [hg147]; decide)) rfl (tw_sel (fun _ => hS) (fun _ => hS)) ?_; clear hE a; intro a hE
                      refine Rg.no (i := 6) hE rfl (by kernel_rfl) (runs_not hE rfl rfl rfl (by rw [hg147]; decide)) rfl (tw_sel (fun _ => hS) (fun _ => hS)) ?_; clear hE a; intro a hE
                      refine Rg.no (i := 8) hE rfl (by kernel_rfl) (runs_not hE rfl rfl rfl (by rw [hg147]; decide)) rfl (tw_sel (fun _ => hS) (fun _ => hS)) ?_; clear hE a; intro a hE
                      refine Rg.no (i := 9) hE rfl (by kernel_rfl) (runs_not hE rfl rfl rfl (by rw [hg147]; decide)) rfl (tw_sel (fun _ => hS) (fun _ => hS)) ?_; clear hE a; intro a hE
                      refine Rg.no (i := 10) hE rfl (by kernel_rfl) (runs_not hE rfl rfl rfl (by rw [hg147]; decide)) rfl (tw_sel (fun _ => hS) (fun _ => hS)) ?_; clear hE a; intro a hE
                      refine Rg.no (i := 11) hE rfl (by kernel_rfl) (runs_not hE rfl rfl rfl (by rw [hg147]; decide)) rfl (tw_sel (fun _ => hS) (fun _ => hS)) ?_; clear hE a; intro a hE
                      refine Rg.no (i := 12) hE rfl (by kernel_rfl) (runs_not hE rfl rfl rfl (by rw [hg147]; decide)) rfl (tw_sel (fun _ => hS) (fun _ => hS)) ?_; clear hE a; intro a hE
                      refine Rg.no (i := 13) hE rfl (by kernel_rfl) (runs_not hE rfl rfl rfl (by rw [hg147]; decide)) rfl (tw_sel (fun _ => hS) (fun _ => hS)) ?_; clear hE a; intro a hE
                      refine Rg.no (i := 14) hE rfl (by kernel_rfl) (runs_not hE rfl rfl rfl (by rw [hg147]; decide)) rfl (tw_sel (fun _ => hS) (fun _ => hS)) ?_; clear hE a; intro a hE
                      refine Rg.no (i := 15) hE rfl (by kernel_rfl) (runs_not hE rfl rfl rfl (by rw [hg147]; decide)) rfl (tw_sel (fun _ => hS) (fun _ => hS)) ?_; clear hE a; intro a hE
                      refine Rg.no (i := 16) hE rfl (by kernel_rfl) (runs_not hE rfl rfl rfl (by rw [hg147]; decide)) rfl (tw_sel (fun _ => hS) (fun _ => hS)) ?_; clear hE a; intro a hE
                      refine Rg.no (i := 17) hE rfl (by kernel_rfl) (runs_not hE rfl rfl rfl (by rw [hg147]; decide)) rfl (tw_sel (fun _ => hS) (fun _ => hS)) ?_; clear hE a; intro a hE
                      refine Rg.no (i := 18) hE rfl (by kernel_rfl) (runs_not hE rfl rfl rfl (by rw [hg147]; decide)) rfl (tw_sel (fun _ => hS) (fun _ => hS)) ?_; clear hE a; intro a hE
                      refine Rg.no (i := 19) hE rfl (by kernel_rfl) (runs_not hE rfl rfl rfl (by rw [hg147]; decide)) rfl (tw_sel (fun _ => hS) (fun _ => hS)) ?_; clear hE a; intro a hE
                      suffices key : ∀ (a : Act) (w : World), Ev 1 (RI .i64) s106 cs113 q109 → (q109).length = q82.length → Ev 3 RFarePayment s106 cs56 q51.1 → Rep a 134 [(3, .slice a53 q51.1.length c54), (6, .slice a84 q82.length c85), (8, .pointer (some ⟨b126, 0, none⟩)), (42, .slice a53 q51.1.length c54), (43, .int .i64 ((q51.1.length : Nat) : Int)), (44, .int .i64 ((k99 : Nat) : Int)), (111, .bool false)] → St w s106 (pt b126 (.cells (FarePayment.cells x116).toArray 65 (0, 0)) :: vecC 3 1 a84 c85 q82.length cs113 :: vecC 65 3 a53 c54 q51.1.length cs56 :: R) → K146.nor a w by
                        refine Rg.many 7 [20] (by kernel_rfl) ⟨?_, ?_, trivial⟩
                        · refine Br.mk (i := 7) true true rfl (by kernel_rfl) (by kernel_rfl) ?_
                          refine WL.no hE (runs_not hE rfl rfl rfl (by rw [hg147]; decide)) rfl ?_; clear hE a; intro a hE
                          refine WL.nil ?_
                          refine ⟨⟨fun _ => hS, fun _ => hS⟩, ?_⟩
                          refine Rg.one (i := 20) true true rfl (by kernel_rfl) (by kernel_rfl) (by kernel_rfl) ?_
                          refine WL.no hE (runs_not hE rfl rfl rfl (by rw [hg147]; decide)) rfl ?_; clear hE a; intro a hE
                          refine WL.nil ?_
                          refine ⟨⟨fun _ => hS, fun _ => hS⟩, ?_⟩
                          refine Rg.one (i := 21) true true rfl (by kernel_rfl) (by kernel_rfl) (by kernel_rfl) ?_
                          refine WL.no hE (runs_not hE rfl rfl rfl (by rw [hg147]; decide)) rfl ?_; clear hE a; intro a hE
                          refine WL.nil ?_
                          refine ⟨⟨fun _ => hS, fun _ => hS⟩, ?_⟩
                          refine Rg.no (i := 22) hE rfl (by kernel_rfl) (runs_not hE rfl rfl rfl (by rw [hg147]; decide)) rfl (tw_sel (fun _ => hS) (fun _ => hS)) ?_; clear hE a; intro a hE
                          refine Rg.takeP (i := 23) hE rfl (by kernel_rfl) (runs_plain rfl) (Gives.pickF hE rfl hg147 rfl) rfl (tw_sel (fun _ => hS) (fun _ => hS)) ?_; clear hE a; intro a hE
                          refine Rg.done (by kernel_rfl) ?_
                          exact key  _ _ h112 hn114 h57 (hE.pick _ ⟨rfl, rfl, rfl, rfl, rfl, rfl, rfl, trivial⟩) hS
                        · refine Br.mk (i := 20) true true rfl (by kernel_rfl) (by kernel_rfl) ?_
                          refine WL.no hE (runs_not hE rfl rfl rfl (by rw [hg147]; decide)) rfl ?_; clear hE a; intro a hE
                          refine WL.nil ?_
                          refine ⟨⟨fun _ => hS, fun _ => hS⟩, ?_⟩
                          refine Rg.one (i := 7) true true rfl (by kernel_rfl) (by kernel_rfl) (by kernel_rfl) ?_
                          refine WL.no hE (runs_not hE rfl rfl rfl (by rw [hg147]; decide)) rfl ?_; clear hE a; intro a hE
                          refine WL.nil ?_
                          refine ⟨⟨fun _ => hS, fun _ => hS⟩, ?_⟩
                          refine Rg.one (i := 21) true true rfl (by kernel_rfl) (by kernel_rfl) (by kernel_rfl) ?_
                          refine WL.no hE (runs_not hE rfl rfl rfl (by rw [hg147]; decide)) rfl ?_; clear hE a; intro a hE
                          refine WL.nil ?_
                          refine ⟨⟨fun _ => hS, fun _ => hS⟩, ?_⟩
                          refine Rg.no (i := 22) hE rfl (by kernel_rfl) (runs_not hE rfl rfl rfl (by rw [hg147]; decide)) rfl (tw_sel (fun _ => hS) (fun _ => hS)) ?_; clear hE a; intro a hE
                          refine Rg.takeP (i := 23) hE rfl (by kernel_rfl) (runs_plain rfl) (Gives.pickF hE rfl hg147 rfl) rfl (tw_sel (fun _ => hS) (fun _ => hS)) ?_; clear hE a; intro a hE
                          refine Rg.done (by kernel_rfl) ?_
                          exact key  _ _ h112 hn114 h57 (hE.pick _ ⟨rfl, rfl, rfl, rfl, rfl, rfl, rfl, trivial⟩) hS
                      clear hE hS a w; intro a w h112 hn114 h57 hE hS
                      subst hK146
                      subst hK145
                      exact ⟨false, s106, (Sg.Le.refl _), Option.some.inj hq140, hE.pick _ ⟨rfl, rfl, rfl, rfl, rfl, rfl, rfl, trivial⟩, hS⟩
                  · clear hE hS a w; rintro a w ⟨q144, s142, hle143, rfl, hE, hS⟩
                    replace h112 := Ev.mono RI.mono hle143 h112
                    replace h57 := Ev.mono RFarePayment.mono hle143 h57
                    refine W.cond hE rfl (fun hc184 => ?_) (fun hc184 => ?_)
                    · replace hq97 := iteT hc184 hq97
                      refine W.seq ?_
                      refine W.region ?_
                      refine WL.vS hS hE (runs_plain rfl) (Gives.p hE rfl) rfl ?_; clear hE a; intro a hE
                      refine WL.nil ?_
                      refine W.ret ?_
                      subst hK115
                      rw [← Option.some.inj hq97] at hr
                      dsimp only at hr
                      refine finG (fn := Try.f7) (rs := [.tmp 2]) (vs := [_]) hE rfl ⟨rfl, trivial⟩ ?_
                      obtain rfl := Option.some.inj hr
                      replace hS := hS.tail
                      replace hS := hS.tail
                      replace hS := hS.tail
                      exact ⟨rfl, (hS.down (Sg.Le.trans (Sg.Le.trans hle60 hle107) hle143))⟩
                    · replace hq97 := iteF hc184 hq97
                      refine W.skip ?_
                      refine W.seq ?_
                      refine W.gen fun K185 hK185 => ?_
                      refine W.regionE (sel (fun w => St w s142 (pt b126 (.cells (FarePayment.cells x116).toArray 65 (0, 0)) :: vecC 3 1 a84 c85 q82.length cs113 :: vecC 65 3 a53 c54 q51.1.length cs56 :: R)) (fun w => St w s142 (pt b126 (.cells (FarePayment.cells x116).toArray 65 (0, 0)) :: vecC 65 3 a53 c54 q51.1.length cs56 :: R))) (fun b i => cond b ([0, 1, 2, 3, 4, 5, 6, 7, 8].contains i) ([0, 1, 2, 3, 4, 5, 6, 7, 8, 9].contains i)) mixed ?_
                      replace hS := hS.drew
                      refine Rg.takeP (i := 0) hE rfl (by kernel_rfl) (runs_plain rfl) (Gives.p hE rfl) rfl (tw_sel (fun _ => hS) (fun _ => (hS.dropAt 1))) ?_; clear hE a; intro a hE
                      refine Rg.takeP (i := 1) hE rfl (by kernel_rfl) (runs_plain rfl) (Gives.fld hE rfl fl65_0) rfl (tw_sel (fun _ => hS) (fun _ => (hS.dropAt 1))) ?_; clear hE a; intro a hE
                      have hT := tw_sel (A := fun w => St w s142 (pt b126 (.cells (FarePayment.cells x116).toArray 65 (0, 0)) :: vecC 3 1 a84 c85 q82.length cs113 :: vecC 65 3 a53 c54 q51.1.length cs56 :: R)) (B := fun w => St w s142 (pt b126 (.cells (FarePayment.cells x116).toArray 65 (0, 0)) :: vecC 65 3 a53 c54 q51.1.length cs56 :: R)) (w := _) (x := true) (y := true) (fun _ => hS) (fun _ => (hS.dropAt 1))
                      have hF := hS; replace hS := hS
                      refine Rg.take (i := 2) true rfl hE rfl (by kernel_rfl) (runs_plain rfl) (Gives.loadB hE 0 rfl rfl rfl ty3) rfl hT ?_; clear hE a; intro a hE
                      replace hS := hF; clear hF hT
                      obtain ⟨x186, hx187, hq97⟩ := bindS hq97
                      obtain ⟨hi188, hlt189, hy190⟩ := gx_some hx187
                      obtain ⟨vs191, hl192, hR193, hd194, hget195⟩ := h112.at hy190
                      subst hR193
                      refine Rg.takeP (i := 3) hE rfl (by kernel_rfl) (runs_plain rfl) (Gives.idx hE ((x116.From).toNat) rfl rfl sl41 hi188 (by have := hn114; omega) (hS.vecAok 1 rfl (by have := hn114; omega : (x116.From).toNat < q82.length))) rfl (tw_sel (fun _ => hS) (fun _ => (hS.dropAt 1))) ?_; clear hE a; intro a hE
                      have hT := tw_sel (A := fun w => St w s142 (pt b126 (.cells (FarePayment.cells x116).toArray 65 (0, 0)) :: vecC 3 1 a84 c85 q82.length cs113 :: vecC 65 3 a53 c54 q51.1.length cs56 :: R)) (B := fun w => St w s142 (pt b126 (.cells (FarePayment.cells x116).toArray 65 (0, 0)) :: vecC 65 3 a53 c54 q51.1.length cs56 :: R)) (w := _) (x := true) (y := true) (fun _ => hS) (fun _ => (hS.dropAt 1))
                      have hF := hS; replace hS := hS
                      refine Rg.take (i := 4) true rfl hE rfl (by kernel_rfl) (runs_plain rfl) (Gives.load1 hE rfl (fun w h => St.vecSees h 1 rfl ((x116.From).toNat * 1) _ hget195) ty3) rfl hT ?_; clear hE a; intro a hE
                      replace hS := hF; clear hF hT
                      refine Rg.takeP (i := 5) hE rfl (by kernel_rfl) (runs_plain rfl) (Gives.fld hE rfl fl65_2) rfl (tw_sel (fun _ => hS) (fun _ => (hS.dropAt 1))) ?_; clear hE a; intro a hE
                      have hT := tw_sel (A := fun w => St w s142 (pt b126 (.cells (FarePayment.cells x116).toArray 65 (0, 0)) :: vecC 3 1 a84 c85 q82.length cs113 :: vecC 65 3 a53 c54 q51.1.length cs56 :: R)) (B := fun w => St w s142 (pt b126 (.cells (FarePayment.cells x116).toArray 65 (0, 0)) :: vecC 65 3 a53 c54 q51.1.length cs56 :: R)) (w := _) (x := true) (y := true) (fun _ => hS) (fun _ => (hS.dropAt 1))
                      have hF := hS; replace hS := hS
                      refine Rg.take (i := 6) true rfl hE rfl (by kernel_rfl) (runs_plain rfl) (Gives.loadB hE 0 rfl rfl rfl ty3) rfl hT ?_; clear hE a; intro a hE
                      replace hS := hF; clear hF hT
                      refine Rg.takeP (i := 7) hE rfl (by kernel_rfl) (runs_plain rfl) (Gives.p hE rfl) rfl (tw_sel (fun _ => hS) (fun _ => (hS.dropAt 1))) ?_; clear hE a; intro a hE
                      obtain ⟨_, hx197, hq97⟩ := bindS hq97
                      obtain ⟨h198, h199⟩ := ix_some hx197
                      refine Rg.takeP (i := 8) hE rfl (by kernel_rfl) (runs_plain rfl) (Gives.idx hE ((x116.From).toNat) rfl rfl sl41 h198 (by have := hn114; omega) (hS.vecAok 1 rfl (by have := hn114; omega : (x116.From).toNat < q82.length))) rfl (tw_sel (fun _ => hS) (fun _ => (hS.dropAt 1))) ?_; clear hE a; intro a hE
                      refine Rg.one (i := 9) false true rfl (by kernel_rfl) (by kernel_rfl) (by kernel_rfl) ?_
                      obtain ⟨x201, hx202, hq97⟩ := bindS hq97
                      refine WL.setD hE hS 1 rfl (runs_plain rfl) rfl rfl (vs := [.int .i64 (w64 (x186 - x116.Sum))]) rfl ty3 rfl rfl rfl h112 hn114 (sx_some hx202).1 hx202 rfl rfl ?_; clear hE hS a w; intro cs203 a w h204 hn205 hE hS
                      refine WL.nil ?_
                      refine ⟨⟨fun h => absurd h (by decide), fun _ => (hS.dropAt 1)⟩, ?_⟩
                      refine Rg.done (by kernel_rfl) ?_
                      subst hK185
                      refine W.gen fun K206 hK206 => ?_
                      refine W.regionE (sel (fun w => St w s142 (pt b126 (.cells (FarePayment.cells x116).toArray 65 (0, 0)) :: vecC 3 1 a84 c85 q82.length cs203 :: vecC 65 3 a53 c54 q51.1.length cs56 :: R)) (fun w => St w s142 (pt b126 (.cells (FarePayment.cells x116).toArray 65 (0, 0)) :: vecC 65 3 a53 c54 q51.1.length cs56 :: R))) (fun b i => cond b ([0, 1, 2, 3, 4, 5, 6, 7, 8].contains i) ([0, 1, 2, 3, 4, 5, 6, 7, 8, 9].contains i)) mixed ?_
                      replace hS := hS.drew
                      refine Rg.takeP (i := 0) hE rfl (by kernel_rfl) (runs_plain rfl) (Gives.p hE rfl) rfl (tw_sel (fun _ => hS) (fun _ => (hS.dropAt 1))) ?_; clear hE a; intro a hE
                      refine Rg.takeP (i := 1) hE rfl (by kernel_rfl) (runs_plain rfl) (Gives.fld hE rfl fl65_1) rfl (tw_sel (fun _ => hS) (fun _ => (hS.dropAt 1))) ?_; clear hE a; intro a hE
                      have hT := tw_sel (A := fun w => St w s142 (pt b126 (.cells (FarePayment.cells x116).toArray 65 (0, 0)) :: vecC 3 1 a84 c85 q82.length cs203 :: vecC 65 3 a53 c54 q51.1.length cs56 :: R)) (B := fun w => St w s142 (pt b126 (.cells (FarePayment.cells x116).toArray 65 (0, 0)) :: vecC 65 3 a53 c54 q51.1.length cs56 :: R)) (w := _) (x := true) (y := true) (fun _ => hS) (fun _ => (hS.dropAt 1))
                      have hF := hS; replace hS := hS
                      refine Rg.take (i := 2) true rfl hE rfl (by kernel_rfl) (runs_plain rfl) (Gives.loadB hE 0 rfl rfl rfl ty3) rfl hT ?_; clear hE a; intro a hE
                      replace hS := hF; clear hF hT
                      obtain ⟨x207, hx208, hq97⟩ := bindS hq97
                      obtain ⟨hi209, hlt210, hy211⟩ := gx_some hx208
                      obtain ⟨vs212, hl213, hR214, hd215, hget216⟩ := h204.at hy211
                      subst hR214
                      refine Rg.takeP (i := 3) hE rfl (by kernel_rfl) (runs_plain rfl) (Gives.idx hE ((x116.To).toNat) rfl rfl sl41 hi209 (by have := hn205; omega) (hS.vecAok 1 rfl (by have := hn205; omega : (x116.To).toNat < q82.length))) rfl (tw_sel (fun _ => hS) (fun _ => (hS.dropAt 1))) ?_; clear hE a; intro a hE
                      have hT := tw_sel (A := fun w => St w s142 (pt b126 (.cells (FarePayment.cells x116).toArray 65 (0, 0)) :: vecC 3 1 a84 c85 q82.length cs203 :: vecC 65 3 a53 c54 q51.1.length cs56 :: R)) (B := fun w => St w s142 (pt b126 (.cells (FarePayment.cells x116).toArray 65 (0, 0)) :: vecC 65 3 a53 c54 q51.1.length cs56 :: R)) (w := _) (x := true) (y := true) (fun _ => hS) (fun _ => (hS.dropAt 1))
                      have hF := hS; replace hS := hS
                      refine Rg.take (i := 4) true rfl hE rfl (by kernel_rfl) (runs_plain rfl) (Gives.load1 hE rfl (fun w h => St.vecSees h 1 rfl ((x116.To).toNat * 1) _ hget216) ty3) rfl hT ?_; clear hE a; intro a hE
                      replace hS := hF; clear hF hT
                      refine Rg.takeP (i := 5) hE rfl (by kernel_rfl) (runs_plain rfl) (Gives.fld hE rfl fl65_2) rfl (tw_sel (fun _ => hS) (fun _ => (hS.dropAt 1))) ?_; clear hE a; intro a hE
                      have hT := tw_sel (A := fun w => St w s142 (pt b126 (.cells (FarePayment.cells x116).toArray 65 (0, 0)) :: vecC 3 1 a84 c85 q82.length cs203 :: vecC 65 3 a53 c54 q51.1.length cs56 :: R)) (B := fun w => St w s142 (pt b126 (.cells (FarePayment.cells x116).toArray 65 (0, 0)) :: vecC 65 3 a53 c54 q51.1.length cs56 :: R)) (w := _) (x := true) (y := true) (fun _ => hS) (fun _ => (hS.dropAt 1))
                      have hF := hS; replace hS := hS
                      refine Rg.take (i := 6) true rfl hE rfl (by kernel_rfl) (runs_plain rfl) (Gives.loadB hE 0 rfl rfl rfl ty3) rfl hT ?_; clear hE a; intro a hE
                      replace hS := hF; clear hF hT
                      refine Rg.takeP (i := 7) hE rfl (by kernel_rfl) (runs_plain rfl) (Gives.p hE rfl) rfl (tw_sel (fun _ => hS) (fun _ => (hS.dropAt 1))) ?_; clear hE a; intro a hE
                      obtain ⟨_, hx218, hq97⟩ := bindS hq97
                      obtain ⟨h219, h220⟩ := ix_some hx218
                      refine Rg.takeP (i := 8) hE rfl (by kernel_rfl) (runs_plain rfl) (Gives.idx hE ((x116.To).toNat) rfl rfl sl41 h219 (by have := hn205; omega) (hS.vecAok 1 rfl (by have := hn205; omega : (x116.To).toNat < q82.length))) rfl (tw_sel (fun _ => hS) (fun _ => (hS.dropAt 1))) ?_; clear hE a; intro a hE
                      refine Rg.one (i := 9) false true rfl (by kernel_rfl) (by kernel_rfl) (by kernel_rfl) ?_
                      obtain ⟨x222, hx223, hq97⟩ := bindS hq97
                      refine WL.setD hE hS 1 rfl (runs_plain rfl) rfl rfl (vs := [.int .i64 (w64 (x207 + x116.Sum))]) rfl ty3 rfl rfl rfl h204 hn205 (sx_some hx223).1 hx223 rfl rfl ?_; clear hE hS a w; intro cs224 a w h225 hn226 hE hS
                      refine WL.nil ?_
                      refine ⟨⟨fun h => absurd h (by decide), fun _ => (hS.dropAt 1)⟩, ?_⟩
                      refine Rg.done (by kernel_rfl) ?_
                      subst hK206
                      refine W.region ?_
                      refine WL.vS hS hE (runs_plain rfl) (Gives.inc hE rfl (by omega)) rfl ?_; clear hE a; intro a hE
                      refine WL.vS hS hE (runs_plain rfl) (Gives.p hE rfl) rfl ?_; clear hE a; intro a hE
                      refine WL.nil ?_
                      replace hS := hS.tail
                      subst hK115
                      exact ⟨rest101, Nat.lt_succ_self _, rest101, k99 + 1, x222, cs224, s142, rfl, (by omega), (Sg.Le.trans hle107 hle143), hq97, h225, hn226, hE.pick _ ⟨rfl, rfl, rfl, rfl, rfl, trivial⟩, hS⟩
          · clear hE hS a w; rintro a w ⟨q109, cs113, s106, hle107, rfl, h112, hn114, hE, hS⟩
            dsimp only at hr
            replace h0 := Sl.mono (RL.mono RI.mono) hle107 h0
            replace h88 := Ev.mono RI.mono hle107 h88
            replace h57 := Ev.mono RFarePayment.mono hle107 h57
            refine W.seq ?_
            refine W.region ?_
            refine WL.vS hS hE (runs_plain rfl) (Gives.p hE rfl) rfl ?_; clear hE a; intro a hE
            have hF := hS.lendV RI.mono 0 rfl h112 hn114; clear hS; obtain ⟨t227, hle228, hS, hs229, bk230⟩ := hF
            refine WL.fnq hE ((by have hc_ := SlicesContainsFuncLint_v1_ok hS hs229 rfl (r := SlicesContainsFuncLint_v1 q109); rw [hn114] at hc_; exact hc_)) (runs_plain rfl) bd30 rfl rfl rfl ?_
            clear hE hS; rintro e w ⟨rfl, hS⟩; refine ⟨_, rfl, ?_⟩; clear a; intro a hE
            replace hS := bk230 _ _ hS
            refine WL.vS hS hE (runs_plain rfl) (Gives.p hE rfl) rfl ?_; clear hE a; intro a hE
            refine WL.vS hS hE (runs_plain rfl) (Gives.p hE rfl) rfl ?_; clear hE a; intro a hE
            refine WL.nil ?_
            refine W.ret ?_
            refine finG (fn := Try.f7) (rs := [.tmp 2]) (vs := [_]) hE rfl ⟨rfl, trivial⟩ ?_
            obtain rfl := Option.some.inj hr
            replace hS := hS.tail
            replace hS := hS.tail
            exact ⟨rfl, (hS.down (Sg.Le.trans hle60 hle107))⟩
end Go.Proofs.Ytdioaeeaifahnaa
