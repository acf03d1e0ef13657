/- The walks of the functions that FareShares reaches: each call comes to what its mirror says. The conditions are those of each contract. -/
import Derived.Test.YtdioaeeaifahnaaProg
import Derived.Test.YtdioaeeaifahnaaFareSharesM
import Derived.Test.YtdioaeeaifahnaaFpMore
import Derived.Test.YtdioaeeaifahnaaFareSharesW2
namespace Go.Proofs.Ytdioaeeaifahnaa
open Go Go.Fp
set_option maxHeartbeats 8000000 in
theorem Fishref2SharesOf_ok {fu : Nat}  {w : World} {s : Sg} {R : List HP} {x0 : Int} {x1 : List Int} {a1 : Option Addr} {c1 : Nat} (hS : St w s (R)) (h1 : Sl 1 (RI .i64) s a1 c1 x1) {r : (List Int)} (hr : Fishref2SharesOf fu x0 x1 = some r) :
    Calls Try.prog 22 [.int .i64 x0, .slice a1 x1.length c1].toArray w (fun e w => ∃ (a0 : Option Addr) (c0 n0 : Nat) (cs0 : List Value), e = .returned (.slice a0 n0 c0) ∧ Ev 1 (RI .i64) s cs0 r ∧ r.length = n0 ∧ St w s (vecC 3 1 a0 c0 n0 cs0 :: R)) := by
  refine enter Try.func22 rfl rfl rfl fun a hE => ?_
  rw [Fishref2SharesOf] at hr
  refine W.seq ?_
  refine W.region ?_
  refine WL.vS hS hE (runs_plain rfl) (Gives.p hE rfl) rfl ?_; clear hE a; intro a hE
  refine WL.nil ?_
  refine W.seq ?_
  refine W.region ?_
  refine WL.vS hS hE (runs_plain rfl) (Gives.p hE rfl) rfl ?_; clear hE a; intro a hE
  refine WL.vS hS hE (runs_plain rfl) (Gives.p hE rfl) rfl ?_; clear hE a; intro a hE
  refine WL.nil ?_
  refine W.seq ?_
  refine W.seq ?_
  refine W.region ?_
  refine WL.vS hS hE (runs_plain rfl) (Gives.p hE rfl) rfl ?_; clear hE a; intro a hE
  refine WL.vS hS hE (runs_plain rfl) (Gives.len hE rfl sl41) rfl ?_; clear hE a; intro a hE
  refine WL.vS hS hE (runs_plain rfl) (Gives.p hE rfl) rfl ?_; clear hE a; intro a hE
  refine WL.nil ?_
  obtain ⟨q52, hq51, hr⟩ := bndS hr
  refine W.cut (fun a w => ∃ (q62 : Int), q62 = q52 ∧ Rep a 103 [(0, .int .i64 x0), (1, .slice a1 x1.length c1), (5, .int .i64 q62), (6, .int .i64 0)] ∧ St w s (R)) ?_ ?_
  · refine W.block ?_
    refine W.loop (fun m a w => ∃ (rest55 : List Int) (k53 : Nat), ∃ (q62 : Int), rest55.length = m ∧ x1.drop k53 = rest55 ∧ Fishref2SharesOf.loop1 rest55 q62 = q52 ∧ Rep a 103 [(0, .int .i64 x0), (1, .slice a1 x1.length c1), (5, .int .i64 q62), (6, .int .i64 0), (16, .slice a1 x1.length c1), (17, .int .i64 ((x1).length : Int)), (18, .int .i64 ((k53 : Nat) : Int))] ∧ St w s (R)) (m := x1.length) ⟨x1, 0, 0, rfl, rfl, hq51, hE.pick _ ⟨rfl, rfl, rfl, rfl, rfl, rfl, rfl, trivial⟩, hS⟩ ?_
    clear hE hS a w hq51; rintro m59 a w ⟨rest55, k53, q62, rfl, hd56, hq51, hE, hS⟩
    refine W.gen fun K63 hK63 => ?_
    rcases rest55 with _ | ⟨x54, rest55⟩
    · have hlt57 := drop_nil hd56
      refine W.seq ?_
      refine W.region ?_
      refine WL.vS hS hE (runs_plain rfl) (Gives.p hE rfl) rfl ?_; clear hE a; intro a hE
      refine WL.nil ?_
      refine W.seq ?_
      refine W.condF hE rfl (decide_eq_false (by omega)) ?_
      subst hK63
      refine W.exit rfl ?_
      exact ⟨q62, hq51, hE.pick _ ⟨rfl, rfl, rfl, rfl, trivial⟩, hS⟩
    · obtain ⟨hlt57, hx58, hd56⟩ := drop_cons hd56
      rw [Fishref2SharesOf.loop1] at hq51
      refine W.seq ?_
      refine W.region ?_
      refine WL.vS hS hE (runs_plain rfl) (Gives.p hE rfl) rfl ?_; clear hE a; intro a hE
      refine WL.nil ?_
      refine W.seq ?_
      refine W.condT hE rfl (decide_eq_true (by omega)) ?_
      refine W.skip ?_
      refine W.seq ?_
      refine W.block ?_
      refine W.seq ?_
      refine W.region ?_
      obtain ⟨cs64, hl65, hR66, hat67⟩ := h1.at hx58
      subst hR66
      refine WL.vS hS hE (runs_plain rfl) (Gives.idx hE k53 rfl rfl sl41 rfl hlt57 (h1.aok hlt57)) rfl ?_; clear hE a; intro a hE
      refine WL.vS hS hE (runs_plain rfl) (Gives.load1 hE rfl (fun w h => hat67 w _ h) ty3) rfl ?_; clear hE a; intro a hE
      refine WL.vS hS hE (runs_plain rfl) (Gives.p hE rfl) rfl ?_; clear hE a; intro a hE
      refine WL.nil ?_
      refine W.region ?_
      refine WL.vS hS hE (runs_plain rfl) (Gives.p hE rfl) rfl ?_; clear hE a; intro a hE
      refine WL.vS hS hE (runs_plain rfl) (Gives.p hE rfl) rfl ?_; clear hE a; intro a hE
      refine WL.vS hS hE (runs_plain rfl) (Gives.p hE rfl) rfl ?_; clear hE a; intro a hE
      refine WL.vS hS hE (runs_plain rfl) (Gives.p hE rfl) rfl ?_; clear hE a; intro a hE
      refine WL.nil ?_
      refine W.region ?_
      refine WL.vS hS hE (runs_plain rfl) (Gives.inc hE rfl (by have := h1.small; omega)) rfl ?_; clear hE a; intro a hE
      refine WL.vS hS hE (runs_plain rfl) (Gives.p hE rfl) rfl ?_; clear hE a; intro a hE
      refine WL.nil ?_
      subst hK63
      exact ⟨rest55.length, Nat.lt_succ_self _, rest55, k53 + 1, (w64 (q62 + x54)), rfl, hd56, hq51, hE.pick _ ⟨rfl, rfl, rfl, rfl, rfl, rfl, rfl, trivial⟩, hS⟩
  · clear hE hS a w; rintro a w ⟨q62, rfl, hE, hS⟩
    refine W.seq ?_
    refine W.region ?_
    refine WL.vS hS hE (runs_plain rfl) (Gives.p hE rfl) rfl ?_; clear hE a; intro a hE
    refine WL.vS hS hE (runs_plain rfl) (Gives.len hE rfl sl41) rfl ?_; clear hE a; intro a hE
    obtain ⟨x68, hx69, hr⟩ := bindS hr
    refine WL.mkD (Rr := RI .i64) hE hS (runs_plain rfl) rfl rfl ap41 zr3 rfl hx69 rfl ?_; clear hE hS a w; intro b70 cs71 a w h72 hE hS
    refine WL.vS hS hE (runs_plain rfl) (Gives.p hE rfl) rfl ?_; clear hE a; intro a hE
    refine WL.nil ?_
    refine W.seq ?_
    refine W.seq ?_
    refine W.region ?_
    refine WL.vS hS hE (runs_plain rfl) (Gives.p hE rfl) rfl ?_; clear hE a; intro a hE
    refine WL.vS hS hE (runs_plain rfl) (Gives.len hE rfl sl41) rfl ?_; clear hE a; intro a hE
    refine WL.vS hS hE (runs_plain rfl) (Gives.p hE rfl) rfl ?_; clear hE a; intro a hE
    refine WL.nil ?_
    obtain ⟨q75, hq74, hr⟩ := bindS hr
    refine W.cut (fun a w => ∃ (q85 : Int), ∃ (q86 : List Int), ∃ (cs90 : List Value), (q85, q86) = q75 ∧ Ev 1 (RI .i64) s cs90 q86 ∧ q86.length = x68.length ∧ Rep a 103 [(0, .int .i64 x0), (1, .slice a1 x1.length c1), (5, .int .i64 q62), (6, .int .i64 q85), (9, .slice (some ⟨b70, 0, none⟩) x68.length x68.length)] ∧ St w s (vecC 3 1 (some ⟨b70, 0, none⟩) x68.length x68.length cs90 :: R)) ?_ ?_
    · refine W.block ?_
      refine W.loop (fun m a w => ∃ (rest78 : List Int) (k76 : Nat), ∃ (q85 : Int), ∃ (q86 : List Int), ∃ (cs90 : List Value), rest78.length = m ∧ x1.drop k76 = rest78 ∧ Fishref2SharesOf.loop2 x0 q62 rest78 k76 q85 q86 = some q75 ∧ Ev 1 (RI .i64) s cs90 q86 ∧ q86.length = x68.length ∧ Rep a 103 [(0, .int .i64 x0), (1, .slice a1 x1.length c1), (5, .int .i64 q62), (6, .int .i64 q85), (9, .slice (some ⟨b70, 0, none⟩) x68.length x68.length), (29, .slice a1 x1.length c1), (30, .int .i64 ((x1).length : Int)), (31, .int .i64 ((k76 : Nat) : Int))] ∧ St w s (vecC 3 1 (some ⟨b70, 0, none⟩) x68.length x68.length cs90 :: R)) (m := x1.length) ⟨x1, 0, 0, x68, cs71, rfl, rfl, hq74, h72, (rfl), hE.pick _ ⟨rfl, rfl, rfl, rfl, rfl, rfl, rfl, rfl, trivial⟩, hS⟩ ?_
      clear hE hS a w hq74; rintro m82 a w ⟨rest78, k76, q85, q86, cs90, rfl, hd79, hq74, h89, hn91, hE, hS⟩
      refine W.gen fun K92 hK92 => ?_
      rcases rest78 with _ | ⟨x77, rest78⟩
      · have hlt80 := drop_nil hd79
        refine W.seq ?_
        refine W.region ?_
        refine WL.vS hS hE (runs_plain rfl) (Gives.p hE rfl) rfl ?_; clear hE a; intro a hE
        refine WL.nil ?_
        refine W.seq ?_
        refine W.condF hE rfl (decide_eq_false (by omega)) ?_
        subst hK92
        refine W.exit rfl ?_
        exact ⟨q85, q86, cs90, Option.some.inj hq74, h89, hn91, hE.pick _ ⟨rfl, rfl, rfl, rfl, rfl, trivial⟩, hS⟩
      · obtain ⟨hlt80, hx81, hd79⟩ := drop_cons hd79
        rw [Fishref2SharesOf.loop2] at hq74
        refine W.seq ?_
        refine W.region ?_
        refine WL.vS hS hE (runs_plain rfl) (Gives.p hE rfl) rfl ?_; clear hE a; intro a hE
        refine WL.nil ?_
        refine W.seq ?_
        refine W.condT hE rfl (decide_eq_true (by omega)) ?_
        refine W.skip ?_
        refine W.seq ?_
        refine W.block ?_
        refine W.seq ?_
        refine W.region ?_
        refine WL.vS hS hE (runs_plain rfl) (Gives.p hE rfl) rfl ?_; clear hE a; intro a hE
        obtain ⟨cs93, hl94, hR95, hat96⟩ := h1.at hx81
        subst hR95
        refine WL.vS hS hE (runs_plain rfl) (Gives.idx hE k76 rfl rfl sl41 rfl hlt80 (h1.aok hlt80)) rfl ?_; clear hE a; intro a hE
        refine WL.vS hS hE (runs_plain rfl) (Gives.load1 hE rfl (fun w h => hat96 w _ h) ty3) rfl ?_; clear hE a; intro a hE
        refine WL.vS hS hE (runs_plain rfl) (Gives.p hE rfl) rfl ?_; clear hE a; intro a hE
        refine WL.vS hS hE (runs_plain rfl) (Gives.p hE rfl) rfl ?_; clear hE a; intro a hE
        refine WL.nil ?_
        refine W.seq ?_
        refine W.region ?_
        refine WL.vS hS hE (runs_plain rfl) (Gives.p hE rfl) rfl ?_; clear hE a; intro a hE
        refine WL.vS hS hE (runs_plain rfl) (Gives.p hE rfl) rfl ?_; clear hE a; intro a hE
        refine WL.vS hS hE (runs_plain rfl) (Gives.p hE rfl) rfl ?_; clear hE a; intro a hE
        refine WL.vS hS hE (runs_plain rfl) (Gives.p hE rfl) rfl ?_; clear hE a; intro a hE
        refine WL.vS hS hE (runs_plain rfl) (Gives.p hE rfl) rfl ?_; clear hE a; intro a hE
        refine WL.vS hS hE (runs_plain rfl) (Gives.p hE rfl) rfl ?_; clear hE a; intro a hE
        obtain ⟨x97, hx98, hq74⟩ := bindS hq74
        refine WL.vS hS hE (runs_plain rfl) (Gives.dv hE rfl rfl hx98) rfl ?_; clear hE a; intro a hE
        obtain ⟨_, hx100, hq74⟩ := bindS hq74
        obtain ⟨h101, h102⟩ := ix_some hx100
        refine WL.vS hS hE (runs_plain rfl) (Gives.idx hE ((((k76 : Nat) : Int)).toNat) rfl rfl sl41 h101 (by have := hn91; omega) (hS.vecAok 0 rfl (by have := hn91; omega : (((k76 : Nat) : Int)).toNat < x68.length))) rfl ?_; clear hE a; intro a hE
        obtain ⟨x104, hx105, hq74⟩ := bindS hq74
        refine WL.setD hE hS 0 rfl (runs_plain rfl) rfl rfl (vs := [.int .i64 x97]) rfl ty3 rfl rfl rfl h89 hn91 (sx_some hx105).1 hx105 rfl rfl ?_; clear hE hS a w; intro cs106 a w h107 hn108 hE hS
        refine WL.nil ?_
        refine W.region ?_
        refine WL.vS hS hE (runs_plain rfl) (Gives.p hE rfl) rfl ?_; clear hE a; intro a hE
        refine WL.vS hS hE (runs_plain rfl) (Gives.p hE rfl) rfl ?_; clear hE a; intro a hE
        refine WL.vS hS hE (runs_plain rfl) (Gives.p hE rfl) rfl ?_; clear hE a; intro a hE
        obtain ⟨x109, hx110, hq74⟩ := bindS hq74
        obtain ⟨hi111, hlt112, hy113⟩ := gx_some hx110
        obtain ⟨vs114, hl115, hR116, hd117, hget118⟩ := h107.at hy113
        subst hR116
        refine WL.vS hS hE (runs_plain rfl) (Gives.idx hE ((((k76 : Nat) : Int)).toNat) rfl rfl sl41 hi111 (by have := hn108; omega) (hS.vecAok 0 rfl (by have := hn108; omega : (((k76 : Nat) : Int)).toNat < x68.length))) rfl ?_; clear hE a; intro a hE
        refine WL.vS hS hE (runs_plain rfl) (Gives.load1 hE rfl (fun w h => St.vecSees h 0 rfl ((((k76 : Nat) : Int)).toNat * 1) _ hget118) ty3) rfl ?_; clear hE a; intro a hE
        refine WL.vS hS hE (runs_plain rfl) (Gives.p hE rfl) rfl ?_; clear hE a; intro a hE
        refine WL.vS hS hE (runs_plain rfl) (Gives.p hE rfl) rfl ?_; clear hE a; intro a hE
        refine WL.nil ?_
        refine W.region ?_
        refine WL.vS hS hE (runs_plain rfl) (Gives.inc hE rfl (by have := h1.small; omega)) rfl ?_; clear hE a; intro a hE
        refine WL.vS hS hE (runs_plain rfl) (Gives.p hE rfl) rfl ?_; clear hE a; intro a hE
        refine WL.nil ?_
        subst hK92
        exact ⟨rest78.length, Nat.lt_succ_self _, rest78, k76 + 1, (w64 (q85 + x109)), x104, cs106, rfl, hd79, hq74, h107, hn108, hE.pick _ ⟨rfl, rfl, rfl, rfl, rfl, rfl, rfl, rfl, trivial⟩, hS⟩
    · clear hE hS a w; rintro a w ⟨q85, q86, cs90, rfl, h89, hn91, hE, hS⟩
      dsimp only at hr
      refine W.seq ?_
      refine W.region ?_
      refine WL.vS hS hE (runs_plain rfl) (Gives.p hE rfl) rfl ?_; clear hE a; intro a hE
      refine WL.vS hS hE (runs_plain rfl) (Gives.len hE rfl sl41) rfl ?_; clear hE a; intro a hE
      obtain ⟨x119, hx120, hr⟩ := bindS hr
      refine WL.mkD (Rr := RB) hE hS (runs_plain rfl) rfl rfl ap78 zr4 rfl hx120 rfl ?_; clear hE hS a w; intro b121 cs122 a w h123 hE hS
      refine WL.vS hS hE (runs_plain rfl) (Gives.p hE rfl) rfl ?_; clear hE a; intro a hE
      refine WL.nil ?_
      refine W.seq ?_
      obtain ⟨q126, hq125, hr⟩ := bindS hr
      refine W.cut (fun a w => ∃ (q131 : Int), ∃ (q132 : List Bool), ∃ (q138 : List Int), ∃ (cs136 : List Value), ∃ (cs142 : List Value), (q131, q132, q138) = q126 ∧ Ev 1 RB s cs136 q132 ∧ q132.length = x119.length ∧ Ev 1 (RI .i64) s cs142 q138 ∧ q138.length = x68.length ∧ Rep a 103 [(9, .slice (some ⟨b70, 0, none⟩) x68.length x68.length)] ∧ St w s (vecC 4 1 (some ⟨b121, 0, none⟩) x119.length x119.length cs136 :: vecC 3 1 (some ⟨b70, 0, none⟩) x68.length x68.length cs142 :: R)) ?_ ?_
      · refine W.block ?_
        refine W.loop (fun m a w => ∃ (n127 : Nat), ∃ (q131 : Int), ∃ (q132 : List Bool), ∃ (q138 : List Int), ∃ (cs136 : List Value), ∃ (cs142 : List Value), n127 = m ∧ Fishref2SharesOf.loop3 x0 x1 q62 n127 q131 q132 q138 = some q126 ∧ Ev 1 RB s cs136 q132 ∧ q132.length = x119.length ∧ Ev 1 (RI .i64) s cs142 q138 ∧ q138.length = x68.length ∧ Rep a 103 [(0, .int .i64 x0), (1, .slice a1 x1.length c1), (5, .int .i64 q62), (6, .int .i64 q131), (9, .slice (some ⟨b70, 0, none⟩) x68.length x68.length), (12, .slice (some ⟨b121, 0, none⟩) x119.length x119.length)] ∧ St w s (vecC 4 1 (some ⟨b121, 0, none⟩) x119.length x119.length cs136 :: vecC 3 1 (some ⟨b70, 0, none⟩) x68.length x68.length cs142 :: R)) (m := fu) ⟨fu, q85, x119, q86, cs122, cs90, rfl, hq125, h123, (rfl), h89, hn91, hE.pick _ ⟨rfl, rfl, rfl, rfl, rfl, rfl, trivial⟩, hS⟩ ?_
        clear hE hS a w hq125; rintro m128 a w ⟨n127, q131, q132, q138, cs136, cs142, rfl, hq125, h135, hn137, h141, hn143, hE, hS⟩
        refine W.gen fun K144 hK144 => ?_
        rcases n127 with _ | n127
        · rw [Fishref2SharesOf.loop3] at hq125; exact absurd hq125 (by simp)
        rw [Fishref2SharesOf.loop3] at hq125
        refine W.seq ?_
        refine W.seq ?_
        refine W.region ?_
        refine WL.vS hS hE (runs_plain rfl) (Gives.p hE rfl) rfl ?_; clear hE a; intro a hE
        refine WL.vS hS hE (runs_plain rfl) (Gives.p hE rfl) rfl ?_; clear hE a; intro a hE
        refine WL.vS hS hE (runs_plain rfl) (Gives.p hE rfl) rfl ?_; clear hE a; intro a hE
        refine WL.nil ?_
        refine W.cond hE rfl (fun hc145 => ?_) (fun hc145 => ?_)
        · replace hq125 := iteT hc145 hq125
          refine W.skip ?_
          refine W.seq ?_
          refine W.block ?_
          refine W.seq ?_
          refine W.region ?_
          refine WL.vS hS hE (runs_plain rfl) (Gives.p hE rfl) rfl ?_; clear hE a; intro a hE
          refine WL.nil ?_
          refine W.seq ?_
          refine W.seq ?_
          refine W.region ?_
          refine WL.vS hS hE (runs_plain rfl) (Gives.p hE rfl) rfl ?_; clear hE a; intro a hE
          refine WL.vS hS hE (runs_plain rfl) (Gives.len hE rfl sl41) rfl ?_; clear hE a; intro a hE
          refine WL.vS hS hE (runs_plain rfl) (Gives.p hE rfl) rfl ?_; clear hE a; intro a hE
          refine WL.nil ?_
          obtain ⟨q147, hq146, hq125⟩ := bindS hq125
          refine W.cut (fun a w => ∃ (q157 : Int), q157 = q147 ∧ Rep a 103 [(0, .int .i64 x0), (1, .slice a1 x1.length c1), (5, .int .i64 q62), (6, .int .i64 q131), (9, .slice (some ⟨b70, 0, none⟩) x68.length x68.length), (12, .slice (some ⟨b121, 0, none⟩) x119.length x119.length), (13, .int .i64 q157)] ∧ St w s (vecC 4 1 (some ⟨b121, 0, none⟩) x119.length x119.length cs136 :: vecC 3 1 (some ⟨b70, 0, none⟩) x68.length x68.length cs142 :: R)) ?_ ?_
          · refine W.block ?_
            refine W.loop (fun m a w => ∃ (rest150 : List Int) (k148 : Nat), ∃ (q157 : Int), rest150.length = m ∧ x1.drop k148 = rest150 ∧ Fishref2SharesOf.loop4 x0 x1 q62 q132 rest150 k148 q157 = some q147 ∧ Rep a 103 [(0, .int .i64 x0), (1, .slice a1 x1.length c1), (5, .int .i64 q62), (6, .int .i64 q131), (9, .slice (some ⟨b70, 0, none⟩) x68.length x68.length), (12, .slice (some ⟨b121, 0, none⟩) x119.length x119.length), (13, .int .i64 q157), (59, .slice a1 x1.length c1), (60, .int .i64 ((x1).length : Int)), (61, .int .i64 ((k148 : Nat) : Int))] ∧ St w s (vecC 4 1 (some ⟨b121, 0, none⟩) x119.length x119.length cs136 :: vecC 3 1 (some ⟨b70, 0, none⟩) x68.length x68.length cs142 :: R)) (m := x1.length) ⟨x1, 0, (-1), rfl, rfl, hq146, hE.pick _ ⟨rfl, rfl, rfl, rfl, rfl, rfl, rfl, rfl, rfl, rfl, trivial⟩, hS⟩ ?_
            clear hE hS a w hq146; rintro m154 a w ⟨rest150, k148, q157, rfl, hd151, hq146, hE, hS⟩
            refine W.gen fun K158 hK158 => ?_
            rcases rest150 with _ | ⟨x149, rest150⟩
            · have hlt152 := drop_nil hd151
              refine W.seq ?_
              refine W.region ?_
              refine WL.vS hS hE (runs_plain rfl) (Gives.p hE rfl) rfl ?_; clear hE a; intro a hE
              refine WL.nil ?_
              refine W.seq ?_
              refine W.condF hE rfl (decide_eq_false (by omega)) ?_
              subst hK158
              refine W.exit rfl ?_
              exact ⟨q157, Option.some.inj hq146, hE.pick _ ⟨rfl, rfl, rfl, rfl, rfl, rfl, rfl, trivial⟩, hS⟩
            · obtain ⟨hlt152, hx153, hd151⟩ := drop_cons hd151
              rw [Fishref2SharesOf.loop4] at hq146
              refine W.seq ?_
              refine W.region ?_
              refine WL.vS hS hE (runs_plain rfl) (Gives.p hE rfl) rfl ?_; clear hE a; intro a hE
              refine WL.nil ?_
              refine W.seq ?_
              refine W.condT hE rfl (decide_eq_true (by omega)) ?_
              refine W.skip ?_
              refine W.seq ?_
              refine W.block ?_
              refine W.seq ?_
              refine W.region ?_
              refine WL.vS hS hE (runs_plain rfl) (Gives.p hE rfl) rfl ?_; clear hE a; intro a hE
              obtain ⟨cs159, hl160, hR161, hat162⟩ := h1.at hx153
              subst hR161
              refine WL.vS hS hE (runs_plain rfl) (Gives.idx hE k148 rfl rfl sl41 rfl hlt152 (h1.aok hlt152)) rfl ?_; clear hE a; intro a hE
              refine WL.vS hS hE (runs_plain rfl) (Gives.load1 hE rfl (fun w h => hat162 w _ h) ty3) rfl ?_; clear hE a; intro a hE
              refine WL.vS hS hE (runs_plain rfl) (Gives.p hE rfl) rfl ?_; clear hE a; intro a hE
              refine WL.vS hS hE (runs_plain rfl) (Gives.p hE rfl) rfl ?_; clear hE a; intro a hE
              refine WL.nil ?_
              refine W.seq ?_
              obtain ⟨q164, hq163, hq146⟩ := bindS hq146
              refine W.cut (fun a w => ∃ (q167 : Bool), q167 = q164 ∧ Rep a 103 [(0, .int .i64 x0), (1, .slice a1 x1.length c1), (5, .int .i64 q62), (6, .int .i64 q131), (9, .slice (some ⟨b70, 0, none⟩) x68.length x68.length), (12, .slice (some ⟨b121, 0, none⟩) x119.length x119.length), (13, .int .i64 q157), (14, .int .i64 ((k148 : Nat) : Int)), (59, .slice a1 x1.length c1), (60, .int .i64 ((x1).length : Int)), (61, .int .i64 ((k148 : Nat) : Int)), (90, .bool q167)] ∧ St w s (vecC 4 1 (some ⟨b121, 0, none⟩) x119.length x119.length cs136 :: vecC 3 1 (some ⟨b70, 0, none⟩) x68.length x68.length cs142 :: R)) ?_ ?_
              · refine W.gen fun K168 hK168 => ?_
                refine W.regionQ (C := fun w => St w s (vecC 4 1 (some ⟨b121, 0, none⟩) x119.length x119.length cs136 :: vecC 3 1 (some ⟨b70, 0, none⟩) x68.length x68.length cs142 :: R)) mixed (by kernel_rfl) hS.drew ?_
                refine QL.v hE (runs_plain rfl) (Gives.p hE rfl) rfl ?_; clear hE a; intro a hE
                refine QL.v hE (runs_plain rfl) (Gives.p hE rfl) rfl ?_; clear hE a; intro a hE
                obtain ⟨x169, hx170, hq163⟩ := bindS hq163
                obtain ⟨hi171, hlt172, hy173⟩ := gx_some hx170
                obtain ⟨vs174, hl175, hR176, hd177, hget178⟩ := h135.at hy173
                subst hR176
                refine QL.v hE (runs_plain rfl) (Gives.idx hE ((((k148 : Nat) : Int)).toNat) rfl rfl sl78 hi171 (by have := hn137; omega) (hS.vecAok 0 rfl (by have := hn137; omega : (((k148 : Nat) : Int)).toNat < x119.length))) rfl ?_; clear hE a; intro a hE
                refine QL.v hE (runs_plain rfl) (Gives.load1 hE rfl (fun w h => St.vecSees h 0 rfl ((((k148 : Nat) : Int)).toNat * 1) _ hget178) ty4) rfl ?_; clear hE a; intro a hE
                refine QL.v hE (runs_plain rfl) (Gives.p hE rfl) rfl ?_; clear hE a; intro a hE
                refine QL.v hE (runs_plain rfl) (Gives.p hE rfl) rfl ?_; clear hE a; intro a hE
                rcases Bool.eq_false_or_eq_true !x169 with hg179 | hg179
                · replace hq163 := iteT hg179 hq163
                  refine QL.v hE (runs_if hE rfl rfl rfl hg179) (Gives.p hE rfl) rfl ?_; clear hE a; intro a hE
                  refine QL.v hE (runs_if hE rfl rfl rfl hg179) (Gives.p hE rfl) rfl ?_; clear hE a; intro a hE
                  refine QL.v hE (runs_if hE rfl rfl rfl hg179) (Gives.p hE rfl) rfl ?_; clear hE a; intro a hE
                  rcases Bool.eq_false_or_eq_true (decide (q157 < 0)) with hg180 | hg180
                  · replace hq163 := iteT hg180 hq163
                    refine QL.no hE (runs_not hE rfl rfl rfl (by rw [hg180]; decide)) rfl ?_; clear hE a; intro a hE
                    refine QL.no hE (runs_not hE rfl rfl rfl (by rw [hg180]; decide)) rfl ?_; clear hE a; intro a hE
                    refine QL.no hE (runs_not hE rfl rfl rfl (by rw [hg180]; decide)) rfl ?_; clear hE a; intro a hE
                    refine QL.no hE (runs_not hE rfl rfl rfl (by rw [hg180]; decide)) rfl ?_; clear hE a; intro a hE
                    refine QL.no hE (runs_not hE rfl rfl rfl (by rw [hg180]; decide)) rfl ?_; clear hE a; intro a hE
                    refine QL.no hE (runs_not hE rfl rfl rfl (by rw [hg180]; decide)) rfl ?_; clear hE a; intro a hE
                    refine QL.no hE (runs_not hE rfl rfl rfl (by rw [hg180]; decide)) rfl ?_; clear hE a; intro a hE
                    refine QL.no hE (runs_not hE rfl rfl rfl (by rw [hg180]; decide)) rfl ?_; clear hE a; intro a hE
                    refine QL.no hE (runs_not hE rfl rfl rfl (by rw [hg180]; decide)) rfl ?_; clear hE a; intro a hE
                    refine QL.no hE (runs_not hE rfl rfl rfl (by rw [hg180]; decide)) rfl ?_; clear hE a; intro a hE
                    refine QL.no hE (runs_not hE rfl rfl rfl (by rw [hg180]; decide)) rfl ?_; clear hE a; intro a hE
                    refine QL.no hE (runs_not hE rfl rfl rfl (by rw [hg180]; decide)) rfl ?_; clear hE a; intro a hE
                    refine QL.no hE (runs_not hE rfl rfl rfl (by rw [hg180]; decide)) rfl ?_; clear hE a; intro a hE
                    refine QL.no hE (runs_not hE rfl rfl rfl (by rw [hg180]; decide)) rfl ?_; clear hE a; intro a hE
                    refine QL.v hE (runs_if hE rfl rfl rfl hg179) (Gives.pickT hE rfl hg180 rfl) rfl ?_; clear hE a; intro a hE
                    refine QL.v hE (runs_plain rfl) (Gives.pickT hE rfl hg179 rfl) rfl ?_; clear hE a; intro a hE
                    refine QL.nil ?_; clear hS w; intro w hS
                    subst hK168
                    exact ⟨true, Option.some.inj hq163, hE.pick _ ⟨rfl, rfl, rfl, rfl, rfl, rfl, rfl, rfl, rfl, rfl, rfl, rfl, trivial⟩, hS⟩
                  · replace hq163 := iteF hg180 hq163
                    refine QL.v hE (runs_if hE rfl rfl rfl hg180) (Gives.p hE rfl) rfl ?_; clear hE a; intro a hE
                    refine QL.v hE (runs_if hE rfl rfl rfl hg180) (Gives.p hE rfl) rfl ?_; clear hE a; intro a hE
                    refine QL.v hE (runs_if hE rfl rfl rfl hg180) (Gives.p hE rfl) rfl ?_; clear hE a; intro a hE
                    refine QL.v hE (runs_if hE rfl rfl rfl hg180) (Gives.p hE rfl) rfl ?_; clear hE a; intro a hE
                    obtain ⟨x181, hx182, hq163⟩ := bindS hq163
                    refine QL.v hE (runs_if hE rfl rfl rfl hg180) (Gives.rm hE rfl rfl hx182) rfl ?_; clear hE a; intro a hE
                    refine QL.v hE (runs_if hE rfl rfl rfl hg180) (Gives.p hE rfl) rfl ?_; clear hE a; intro a hE
                    refine QL.v hE (runs_if hE rfl rfl rfl hg180) (Gives.p hE rfl) rfl ?_; clear hE a; intro a hE
                    refine QL.v hE (runs_if hE rfl rfl rfl hg180) (Gives.p hE rfl) rfl ?_; clear hE a; intro a hE
                    obtain ⟨x183, hx184, hq163⟩ := bindS hq163
                    obtain ⟨hi185, hlt186, hy187⟩ := gx_some hx184
                    obtain ⟨cs188, hl189, hR190, hat191⟩ := h1.at hy187
                    subst hR190
                    refine QL.v hE (runs_if hE rfl rfl rfl hg180) (Gives.idx hE (q157).toNat rfl rfl sl41 hi185 hlt186 (h1.aok hlt186)) rfl ?_; clear hE a; intro a hE
                    refine QL.v hE (runs_if hE rfl rfl rfl hg180) (Gives.load1 hE rfl (fun w h => hat191 w _ h) ty3) rfl ?_; clear hE a; intro a hE
                    refine QL.v hE (runs_if hE rfl rfl rfl hg180) (Gives.p hE rfl) rfl ?_; clear hE a; intro a hE
                    refine QL.v hE (runs_if hE rfl rfl rfl hg180) (Gives.p hE rfl) rfl ?_; clear hE a; intro a hE
                    obtain ⟨x192, hx193, hq163⟩ := bindS hq163
                    refine QL.v hE (runs_if hE rfl rfl rfl hg180) (Gives.rm hE rfl rfl hx193) rfl ?_; clear hE a; intro a hE
                    refine QL.v hE (runs_if hE rfl rfl rfl hg180) (Gives.p hE rfl) rfl ?_; clear hE a; intro a hE
                    refine QL.v hE (runs_if hE rfl rfl rfl hg179) (Gives.pickF hE rfl hg180 rfl) rfl ?_; clear hE a; intro a hE
                    refine QL.v hE (runs_plain rfl) (Gives.pickT hE rfl hg179 rfl) rfl ?_; clear hE a; intro a hE
                    refine QL.nil ?_; clear hS w; intro w hS
                    subst hK168
                    exact ⟨decide (x181 > x192), Option.some.inj hq163, hE.pick _ ⟨rfl, rfl, rfl, rfl, rfl, rfl, rfl, rfl, rfl, rfl, rfl, rfl, trivial⟩, hS⟩
                · replace hq163 := iteF hg179 hq163
                  refine QL.no hE (runs_not hE rfl rfl rfl (by rw [hg179]; decide)) rfl ?_; clear hE a; intro a hE
                  refine QL.no hE (runs_not hE rfl rfl rfl (by rw [hg179]; decide)) rfl ?_; clear hE a; intro a hE
                  refine QL.no hE (runs_not hE rfl rfl rfl (by rw [hg179]; decide)) rfl ?_; clear hE a; intro a hE
                  refine QL.no hE (runs_undef hE rfl rfl rfl) rfl ?_; clear hE a; intro a hE
                  refine QL.no hE (runs_undef hE rfl rfl rfl) rfl ?_; clear hE a; intro a hE
                  refine QL.no hE (runs_undef hE rfl rfl rfl) rfl ?_; clear hE a; intro a hE
                  refine QL.no hE (runs_undef hE rfl rfl rfl) rfl ?_; clear hE a; intro a hE
                  refine QL.no hE (runs_undef hE rfl rfl rfl) rfl ?_; clear hE a; intro a hE
                  refine QL.no hE (runs_undef hE rfl rfl rfl) rfl ?_; clear hE a; intro a hE
                  refine QL.no hE (runs_undef hE rfl rfl rfl) rfl ?_; clear hE a; intro a hE
                  refine QL.no hE (runs_undef hE rfl rfl rfl) rfl ?_; clear hE a; intro a hE
                  refine QL.no hE (runs_undef hE rfl rfl rfl) rfl ?_; clear hE a; intro a hE
                  refine QL.no hE (runs_undef hE rfl rfl rfl) rfl ?_; clear hE a; intro a hE
                  refine QL.no hE (runs_undef hE rfl rfl rfl) rfl ?_; clear hE a; intro a hE
                  refine QL.no hE (runs_undef hE rfl rfl rfl) rfl ?_; clear hE a; intro a hE
                  refine QL.no hE (runs_undef hE rfl rfl rfl) rfl ?_; clear hE a; intro a hE
                  refine QL.no hE (runs_undef hE rfl rfl rfl) rfl ?_; clear hE a; intro a hE
                  refine QL.no hE (runs_not hE rfl rfl rfl (by rw [hg179]; decide)) rfl ?_; clear hE a; intro a hE
                  refine QL.v hE (runs_plain rfl) (Gives.pickF hE rfl hg179 rfl) rfl ?_; clear hE a; intro a hE
                  refine QL.nil ?_; clear hS w; intro w hS
                  subst hK168
                  exact ⟨false, Option.some.inj hq163, hE.pick _ ⟨rfl, rfl, rfl, rfl, rfl, rfl, rfl, rfl, rfl, rfl, rfl, rfl, trivial⟩, hS⟩
              · clear hE hS a w; rintro a w ⟨q167, rfl, hE, hS⟩
                obtain ⟨q195, hq194, hq146⟩ := bndS hq146
                refine W.cut (fun a w => ∃ (q198 : Int), q198 = q195 ∧ Rep a 103 [(0, .int .i64 x0), (1, .slice a1 x1.length c1), (5, .int .i64 q62), (6, .int .i64 q131), (9, .slice (some ⟨b70, 0, none⟩) x68.length x68.length), (12, .slice (some ⟨b121, 0, none⟩) x119.length x119.length), (13, .int .i64 q198), (59, .slice a1 x1.length c1), (60, .int .i64 ((x1).length : Int)), (61, .int .i64 ((k148 : Nat) : Int))] ∧ St w s (vecC 4 1 (some ⟨b121, 0, none⟩) x119.length x119.length cs136 :: vecC 3 1 (some ⟨b70, 0, none⟩) x68.length x68.length cs142 :: R)) ?_ ?_
                · refine W.gen fun K199 hK199 => ?_
                  refine W.cond hE rfl (fun hc200 => ?_) (fun hc200 => ?_)
                  · replace hq194 := iteT hc200 hq194
                    refine W.region ?_
                    refine WL.vS hS hE (runs_plain rfl) (Gives.p hE rfl) rfl ?_; clear hE a; intro a hE
                    refine WL.vS hS hE (runs_plain rfl) (Gives.p hE rfl) rfl ?_; clear hE a; intro a hE
                    refine WL.nil ?_
                    subst hK199
                    exact ⟨((k148 : Nat) : Int), hq194, hE.pick _ ⟨rfl, rfl, rfl, rfl, rfl, rfl, rfl, rfl, rfl, rfl, trivial⟩, hS⟩
                  · replace hq194 := iteF hc200 hq194
                    refine W.skip ?_
                    subst hK199
                    exact ⟨q157, hq194, hE.pick _ ⟨rfl, rfl, rfl, rfl, rfl, rfl, rfl, rfl, rfl, rfl, trivial⟩, hS⟩
                · clear hE hS a w; rintro a w ⟨q198, rfl, hE, hS⟩
                  refine W.region ?_
                  refine WL.vS hS hE (runs_plain rfl) (Gives.inc hE rfl (by have := h1.small; omega)) rfl ?_; clear hE a; intro a hE
                  refine WL.vS hS hE (runs_plain rfl) (Gives.p hE rfl) rfl ?_; clear hE a; intro a hE
                  refine WL.nil ?_
                  subst hK158
                  exact ⟨rest150.length, Nat.lt_succ_self _, rest150, k148 + 1, q198, rfl, hd151, hq146, hE.pick _ ⟨rfl, rfl, rfl, rfl, rfl, rfl, rfl, rfl, rfl, rfl, trivial⟩, hS⟩
          · clear hE hS a w; rintro a w ⟨q157, rfl, hE, hS⟩
            refine W.seq ?_
            refine W.region ?_
            refine WL.vS hS hE (runs_plain rfl) (Gives.p hE rfl) rfl ?_; clear hE a; intro a hE
            refine WL.vS hS hE (runs_plain rfl) (Gives.p hE rfl) rfl ?_; clear hE a; intro a hE
            obtain ⟨_, hx202, hq125⟩ := bindS hq125
            obtain ⟨h203, h204⟩ := ix_some hx202
            refine WL.vS hS hE (runs_plain rfl) (Gives.idx hE ((q157).toNat) rfl rfl sl78 h203 (by have := hn137; omega) (hS.vecAok 0 rfl (by have := hn137; omega : (q157).toNat < x119.length))) rfl ?_; clear hE a; intro a hE
            obtain ⟨x206, hx207, hq125⟩ := bindS hq125
            refine WL.setD hE hS 0 rfl (runs_plain rfl) rfl rfl (vs := [.bool true]) rfl ty4 rfl rfl rfl h135 hn137 (sx_some hx207).1 hx207 rfl rfl ?_; clear hE hS a w; intro cs208 a w h209 hn210 hE hS
            refine WL.nil ?_
            refine W.region ?_
            refine WL.vS hS hE (runs_plain rfl) (Gives.p hE rfl) rfl ?_; clear hE a; intro a hE
            refine WL.vS hS hE (runs_plain rfl) (Gives.p hE rfl) rfl ?_; clear hE a; intro a hE
            obtain ⟨x211, hx212, hq125⟩ := bindS hq125
            obtain ⟨hi213, hlt214, hy215⟩ := gx_some hx212
            obtain ⟨vs216, hl217, hR218, hd219, hget220⟩ := h141.at hy215
            subst hR218
            refine WL.vS hS hE (runs_plain rfl) (Gives.idx hE ((q157).toNat) rfl rfl sl41 hi213 (by have := hn143; omega) (hS.vecAok 1 rfl (by have := hn143; omega : (q157).toNat < x68.length))) rfl ?_; clear hE a; intro a hE
            refine WL.vS hS hE (runs_plain rfl) (Gives.load1 hE rfl (fun w h => St.vecSees h 1 rfl ((q157).toNat * 1) _ hget220) ty3) rfl ?_; clear hE a; intro a hE
            refine WL.vS hS hE (runs_plain rfl) (Gives.p hE rfl) rfl ?_; clear hE a; intro a hE
            obtain ⟨_, hx222, hq125⟩ := bindS hq125
            obtain ⟨h223, h224⟩ := ix_some hx222
            refine WL.vS hS hE (runs_plain rfl) (Gives.idx hE ((q157).toNat) rfl rfl sl41 h223 (by have := hn143; omega) (hS.vecAok 1 rfl (by have := hn143; omega : (q157).toNat < x68.length))) rfl ?_; clear hE a; intro a hE
            obtain ⟨x226, hx227, hq125⟩ := bindS hq125
            refine WL.setD hE hS 1 rfl (runs_plain rfl) rfl rfl (vs := [.int .i64 (w64 (x211 + 1))]) rfl ty3 rfl rfl rfl h141 hn143 (sx_some hx227).1 hx227 rfl rfl ?_; clear hE hS a w; intro cs228 a w h229 hn230 hE hS
            refine WL.nil ?_
            refine W.region ?_
            refine WL.vS hS hE (runs_plain rfl) (Gives.p hE rfl) rfl ?_; clear hE a; intro a hE
            refine WL.vS hS hE (runs_plain rfl) (Gives.p hE rfl) rfl ?_; clear hE a; intro a hE
            refine WL.vS hS hE (runs_plain rfl) (Gives.p hE rfl) rfl ?_; clear hE a; intro a hE
            refine WL.nil ?_
            subst hK144
            exact ⟨n127, Nat.lt_succ_self _, n127, (w64 (q131 + 1)), x206, x226, cs208, cs228, rfl, hq125, h209, hn210, h229, hn230, hE.pick _ ⟨rfl, rfl, rfl, rfl, rfl, rfl, trivial⟩, hS⟩
        · replace hq125 := iteF hc145 hq125
          subst hK144
          refine W.exit rfl ?_
          exact ⟨q131, q132, q138, cs136, cs142, Option.some.inj hq125, h135, hn137, h141, hn143, hE.pick _ ⟨rfl, trivial⟩, hS⟩
      · clear hE hS a w; rintro a w ⟨q131, q132, q138, cs136, cs142, rfl, h135, hn137, h141, hn143, hE, hS⟩
        dsimp only at hr
        refine W.seq ?_
        refine W.region ?_
        refine WL.vS hS hE (runs_plain rfl) (Gives.p hE rfl) rfl ?_; clear hE a; intro a hE
        refine WL.vS hS hE (runs_plain rfl) (Gives.p hE rfl) rfl ?_; clear hE a; intro a hE
        refine WL.nil ?_
        refine W.ret ?_
        refine finG (fn := Try.f22) (rs := [.tmp 4]) (vs := [_]) hE rfl ⟨rfl, trivial⟩ ?_
        obtain rfl := Option.some.inj hr
        replace hS := hS.tail
        exact ⟨(some ⟨b70, 0, none⟩), x68.length, x68.length, cs142, rfl, h141, hn143, hS⟩
set_option maxHeartbeats 8000000 in
theorem Fishlaw2FareShares_ok {fu : Nat}  {w : World} {s : Sg} {R : List HP} {x0 : Int} {x1 : List Int} {a1 : Option Addr} {c1 : Nat} (hS : St w s (R)) (h1 : Sl 1 (RI .i64) s a1 c1 x1) {r : Bool} (hr : Fishlaw2FareShares fu x0 x1 = some r) :
    Calls Try.prog 5 [.int .i64 x0, .slice a1 x1.length c1].toArray w (fun e w => e = .returned (.bool r) ∧ St w s (R)) := by
  refine enter Try.func5 rfl rfl rfl fun a hE => ?_
  rw [Fishlaw2FareShares] at hr
  refine W.seq ?_
  refine W.region ?_
  refine WL.vS hS hE (runs_plain rfl) (Gives.p hE rfl) rfl ?_; clear hE a; intro a hE
  refine WL.nil ?_
  refine W.seq ?_
  refine W.region ?_
  refine WL.vS hS hE (runs_plain rfl) (Gives.p hE rfl) rfl ?_; clear hE a; intro a hE
  refine WL.vS hS hE (runs_plain rfl) (Gives.p hE rfl) rfl ?_; clear hE a; intro a hE
  obtain ⟨q51, hq52, hr⟩ := bindS hr
  have hc_ := FareShares_ok hS h1 hq52
  refine WL.fnq hE (hc_) (runs_plain rfl) bd19 rfl rfl rfl ?_
  clear hE hS hc_; rintro e w ⟨a53, c54, n55, cs56, s59, rfl, hle60, h57, rfl, hS⟩; refine ⟨_, rfl, ?_⟩; clear a; intro a hE
  replace h1 := Sl.mono RI.mono hle60 h1
  refine WL.vS hS hE (runs_plain rfl) (Gives.p hE rfl) rfl ?_; clear hE a; intro a hE
  refine WL.vS hS hE (runs_plain rfl) (Gives.p hE rfl) rfl ?_; clear hE a; intro a hE
  refine WL.vS hS hE (runs_plain rfl) (Gives.p hE rfl) rfl ?_; clear hE a; intro a hE
  refine WL.vS hS hE (runs_plain rfl) (Gives.p hE rfl) rfl ?_; clear hE a; intro a hE
  refine WL.vS hS hE (runs_plain rfl) (Gives.p hE rfl) rfl ?_; clear hE a; intro a hE
  refine WL.nil ?_
  refine W.seq ?_
  refine W.seq ?_
  refine W.region ?_
  refine WL.vS hS hE (runs_plain rfl) (Gives.p hE rfl) rfl ?_; clear hE a; intro a hE
  refine WL.vS hS hE (runs_plain rfl) (Gives.p hE rfl) rfl ?_; clear hE a; intro a hE
  refine WL.fnq hE (Fishref2SharesFault_ok hS h1 rfl) (runs_plain rfl) bd20 rfl rfl rfl ?_
  clear hE hS; rintro e w ⟨rfl, hS⟩; refine ⟨_, rfl, ?_⟩; clear a; intro a hE
  refine WL.vS hS hE (runs_plain rfl) (Gives.p hE rfl) rfl ?_; clear hE a; intro a hE
  refine WL.nil ?_
  refine W.seq ?_
  refine W.region ?_
  refine WL.vS hS hE (runs_plain rfl) (Gives.p hE rfl) rfl ?_; clear hE a; intro a hE
  refine WL.vS hS hE (runs_plain rfl) (Gives.p hE rfl) rfl ?_; clear hE a; intro a hE
  refine WL.nil ?_
  refine W.cond hE rfl (fun hc61 => ?_) (fun hc61 => ?_)
  · replace hr := iteT hc61 hr
    refine W.seq ?_
    obtain ⟨q63, hq62, hr⟩ := bindS hr
    refine W.cut (fun a w => ∃ (q66 : Bool), q66 = q63 ∧ Rep a 42 [(4, .bool q66)] ∧ St w s59 (R)) ?_ ?_
    · refine W.gen fun K67 hK67 => ?_
      refine W.region ?_
      obtain ⟨q68, hq69, hq62⟩ := bindS hq62
      have hc_ := Fishlaw2fares_ok hS  hq69
      refine WL.fnq hE (hc_) (runs_plain rfl) bd12 rfl rfl rfl ?_
      clear hE hS hc_; rintro e w ⟨rfl, hS⟩; refine ⟨_, rfl, ?_⟩; clear a; intro a hE
      refine WL.vS hS hE (runs_plain rfl) (Gives.p hE rfl) rfl ?_; clear hE a; intro a hE
      rcases Bool.eq_false_or_eq_true q68 with hg70 | hg70
      · replace hq62 := iteT hg70 hq62
        refine WL.vS hS hE (runs_if hE rfl rfl rfl hg70) (Gives.p hE rfl) rfl ?_; clear hE a; intro a hE
        refine WL.vS hS hE (runs_if hE rfl rfl rfl hg70) (Gives.p hE rfl) rfl ?_; clear hE a; intro a hE
        refine WL.vS hS hE (runs_if hE rfl rfl rfl hg70) (Gives.p hE rfl) rfl ?_; clear hE a; intro a hE
        refine WL.vS hS hE (runs_plain rfl) (Gives.pickT hE rfl hg70 rfl) rfl ?_; clear hE a; intro a hE
        refine WL.vS hS hE (runs_plain rfl) (Gives.p hE rfl) rfl ?_; clear hE a; intro a hE
        rcases Bool.eq_false_or_eq_true (q51.2 == (Fishref2SharesFault x0 x1)) with hg71 | hg71
        · replace hq62 := iteT hg71 hq62
          refine WL.vS hS hE (runs_if hE rfl rfl rfl hg71) (Gives.p hE rfl) rfl ?_; clear hE a; intro a hE
          refine WL.vS hS hE (runs_if hE rfl rfl rfl hg71) (Gives.len hE rfl sl41) rfl ?_; clear hE a; intro a hE
          refine WL.vS hS hE (runs_if hE rfl rfl rfl hg71) (Gives.p hE rfl) rfl ?_; clear hE a; intro a hE
          refine WL.vS hS hE (runs_plain rfl) (Gives.pickT hE rfl hg71 rfl) rfl ?_; clear hE a; intro a hE
          refine WL.vS hS hE (runs_plain rfl) (Gives.p hE rfl) rfl ?_; clear hE a; intro a hE
          refine WL.nil ?_
          replace hS := hS.tail
          subst hK67
          exact ⟨(((q51.1.length : Nat) : Int) == 0), Option.some.inj hq62, hE.pick _ ⟨rfl, trivial⟩, hS⟩
        · replace hq62 := iteF hg71 hq62
          refine WL.no hE (runs_not hE rfl rfl rfl (by rw [hg71]; decide)) rfl ?_; clear hE a; intro a hE
          refine WL.no hE (runs_not hE rfl rfl rfl (by rw [hg71]; decide)) rfl ?_; clear hE a; intro a hE
          refine WL.no hE (runs_not hE rfl rfl rfl (by rw [hg71]; decide)) rfl ?_; clear hE a; intro a hE
          refine WL.vS hS hE (runs_plain rfl) (Gives.pickF hE rfl hg71 rfl) rfl ?_; clear hE a; intro a hE
          refine WL.vS hS hE (runs_plain rfl) (Gives.p hE rfl) rfl ?_; clear hE a; intro a hE
          refine WL.nil ?_
          replace hS := hS.tail
          subst hK67
          exact ⟨false, Option.some.inj hq62, hE.pick _ ⟨rfl, trivial⟩, hS⟩
      · replace hq62 := iteF hg70 hq62
        refine WL.no hE (runs_not hE rfl rfl rfl (by rw [hg70]; decide)) rfl ?_; clear hE a; intro a hE
        refine WL.no hE (runs_not hE rfl rfl rfl (by rw [hg70]; decide)) rfl ?_; clear hE a; intro a hE
        refine WL.no hE (runs_not hE rfl rfl rfl (by rw [hg70]; decide)) rfl ?_; clear hE a; intro a hE
        refine WL.vS hS hE (runs_plain rfl) (Gives.pickF hE rfl hg70 rfl) rfl ?_; clear hE a; intro a hE
        refine WL.vS hS hE (runs_plain rfl) (Gives.p hE rfl) rfl ?_; clear hE a; intro a hE
        refine WL.no hE (runs_not hE rfl rfl rfl (by decide)) rfl ?_; clear hE a; intro a hE
        refine WL.no hE (runs_not hE rfl rfl rfl (by decide)) rfl ?_; clear hE a; intro a hE
        refine WL.no hE (runs_not hE rfl rfl rfl (by decide)) rfl ?_; clear hE a; intro a hE
        refine WL.vS hS hE (runs_plain rfl) (Gives.pickF hE rfl rfl rfl) rfl ?_; clear hE a; intro a hE
        refine WL.vS hS hE (runs_plain rfl) (Gives.p hE rfl) rfl ?_; clear hE a; intro a hE
        refine WL.nil ?_
        replace hS := hS.tail
        subst hK67
        exact ⟨false, Option.some.inj hq62, hE.pick _ ⟨rfl, trivial⟩, hS⟩
    · clear hE hS a w; rintro a w ⟨q66, rfl, hE, hS⟩
      refine W.ret ?_
      refine finG (fn := Try.f5) (rs := [.tmp 4]) (vs := [_]) hE rfl ⟨rfl, trivial⟩ ?_
      obtain rfl := Option.some.inj hr
      exact ⟨rfl, (hS.down hle60)⟩
  · replace hr := iteF hc61 hr
    refine W.skip ?_
    refine W.seq ?_
    obtain ⟨q73, hq72, hr⟩ := bindS hr
    refine W.cut (fun a w => ∃ (q76 : Bool), q76 = q73 ∧ Rep a 42 [(4, .bool q76)] ∧ St w s59 (R)) ?_ ?_
    · refine W.gen fun K77 hK77 => ?_
      refine W.region ?_
      obtain ⟨q78, hq79, hq72⟩ := bindS hq72
      have hc_ := Fishlaw2fares_ok hS  hq79
      refine WL.fnq hE (hc_) (runs_plain rfl) bd12 rfl rfl rfl ?_
      clear hE hS hc_; rintro e w ⟨rfl, hS⟩; refine ⟨_, rfl, ?_⟩; clear a; intro a hE
      refine WL.vS hS hE (runs_plain rfl) (Gives.p hE rfl) rfl ?_; clear hE a; intro a hE
      rcases Bool.eq_false_or_eq_true q78 with hg80 | hg80
      · replace hq72 := iteT hg80 hq72
        refine WL.vS hS hE (runs_if hE rfl rfl rfl hg80) (Gives.p hE rfl) rfl ?_; clear hE a; intro a hE
        refine WL.vS hS hE (runs_if hE rfl rfl rfl hg80) (Gives.p hE rfl) rfl ?_; clear hE a; intro a hE
        refine WL.vS hS hE (runs_plain rfl) (Gives.pickT hE rfl hg80 rfl) rfl ?_; clear hE a; intro a hE
        refine WL.vS hS hE (runs_plain rfl) (Gives.p hE rfl) rfl ?_; clear hE a; intro a hE
        rcases Bool.eq_false_or_eq_true (q51.2 == 0) with hg81 | hg81
        · replace hq72 := iteT hg81 hq72
          refine WL.vS hS hE (runs_if hE rfl rfl rfl hg81) (Gives.p hE rfl) rfl ?_; clear hE a; intro a hE
          refine WL.vS hS hE (runs_if hE rfl rfl rfl hg81) (Gives.p hE rfl) rfl ?_; clear hE a; intro a hE
          refine WL.vS hS hE (runs_if hE rfl rfl rfl hg81) (Gives.p hE rfl) rfl ?_; clear hE a; intro a hE
          obtain ⟨q82, hq83, hq72⟩ := bindS hq72
          have hc_ := Fishref2SharesOf_ok hS h1 hq83
          refine WL.fnq hE (hc_) (runs_if hE rfl rfl rfl hg81) bd22 rfl rfl rfl ?_
          clear hE hS hc_; rintro e w ⟨a84, c85, n86, cs87, rfl, h88, rfl, hS⟩; refine ⟨_, rfl, ?_⟩; clear a; intro a hE
          obtain ⟨q90, hq91, hq72⟩ := bindS hq72
          have hF := hS.lendV RI.mono 1 rfl h57 rfl; clear hS; obtain ⟨t92, hle93, hS, hs94, bk95⟩ := hF
          have hF := hS.lendV RI.mono 0 rfl (Ev.mono RI.mono hle93 h88) rfl; clear hS; obtain ⟨t96, hle97, hS, hs98, bk99⟩ := hF
          have hc_ := SlicesEqualLint_ok hS (Sl.mono RI.mono hle97 hs94) hs98 hq91
          refine WL.fnq hE (hc_) (runs_if hE rfl rfl rfl hg81) bd21 rfl rfl rfl ?_
          clear hE hS hc_; rintro e w ⟨rfl, hS⟩; refine ⟨_, rfl, ?_⟩; clear a; intro a hE
          replace hS := bk99 _ _ hS
          replace hS := bk95 _ _ hS
          refine WL.vS hS hE (runs_plain rfl) (Gives.pickT hE rfl hg81 rfl) rfl ?_; clear hE a; intro a hE
          refine WL.vS hS hE (runs_plain rfl) (Gives.p hE rfl) rfl ?_; clear hE a; intro a hE
          refine WL.nil ?_
          replace hS := hS.tail
          replace hS := hS.tail
          subst hK77
          exact ⟨q90, Option.some.inj hq72, hE.pick _ ⟨rfl, trivial⟩, hS⟩
        · replace hq72 := iteF hg81 hq72
          refine WL.no hE (runs_not hE rfl rfl rfl (by rw [hg81]; decide)) rfl ?_; clear hE a; intro a hE
          refine WL.no hE (runs_not hE rfl rfl rfl (by rw [hg81]; decide)) rfl ?_; clear hE a; intro a hE
          refine WL.no hE (runs_not hE rfl rfl rfl (by rw [hg81]; decide)) rfl ?_; clear hE a; intro a hE
          refine WL.no hE (runs_not hE rfl rfl rfl (by rw [hg81]; decide)) rfl ?_; clear hE a; intro a hE
          refine WL.no hE (runs_not hE rfl rfl rfl (by rw [hg81]; decide)) rfl ?_; clear hE a; intro a hE
          refine WL.vS hS hE (runs_plain rfl) (Gives.pickF hE rfl hg81 rfl) rfl ?_; clear hE a; intro a hE
          refine WL.vS hS hE (runs_plain rfl) (Gives.p hE rfl) rfl ?_; clear hE a; intro a hE
          refine WL.nil ?_
          replace hS := hS.tail
          subst hK77
          exact ⟨false, Option.some.inj hq72, hE.pick _ ⟨rfl, trivial⟩, hS⟩
      · replace hq72 := iteF hg80 hq72
        refine WL.no hE (runs_not hE rfl rfl rfl (by rw [hg80]; decide)) rfl ?_; clear hE a; intro a hE
        refine WL.no hE (runs_not hE rfl rfl rfl (by rw [hg80]; decide)) rfl ?_; clear hE a; intro a hE
        refine WL.vS hS hE (runs_plain rfl) (Gives.pickF hE rfl hg80 rfl) rfl ?_; clear hE a; intro a hE
        refine WL.vS hS hE (runs_plain rfl) (Gives.p hE rfl) rfl ?_; clear hE a; intro a hE
        refine WL.no hE (runs_not hE rfl rfl rfl (by decide)) rfl ?_; clear hE a; intro a hE
        refine WL.no hE (runs_not hE rfl rfl rfl (by decide)) rfl ?_; clear hE a; intro a hE
        refine WL.no hE (runs_not hE rfl rfl rfl (by decide)) rfl ?_; clear hE a; intro a hE
        refine WL.no hE (runs_not hE rfl rfl rfl (by decide)) rfl ?_; clear hE a; intro a hE
        refine WL.no hE (runs_not hE rfl rfl rfl (by decide)) rfl ?_; clear hE a; intro a hE
        refine WL.vS hS hE (runs_plain rfl) (Gives.pickF hE rfl rfl rfl) rfl ?_; clear hE a; intro a hE
        refine WL.vS hS hE (runs_plain rfl) (Gives.p hE rfl) rfl ?_; clear hE a; intro a hE
        refine WL.nil ?_
        replace hS := hS.tail
        subst hK77
        exact ⟨false, Option.some.inj hq72, hE.pick _ ⟨rfl, trivial⟩, hS⟩
    · clear hE hS a w; rintro a w ⟨q76, rfl, hE, hS⟩
      refine W.ret ?_
      refine finG (fn := Try.f5) (rs := [.tmp 4]) (vs := [_]) hE rfl ⟨rfl, trivial⟩ ?_
      obtain rfl := Option.some.inj hr
      exact ⟨rfl, (hS.down hle60)⟩
end Go.Proofs.Ytdioaeeaifahnaa
