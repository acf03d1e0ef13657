/- FarePacks: the mirror of the law is true of all spans. -/
import Derived.Test.YtdioaeeaifahnaaFarePacksM
import Derived.Test.YtdioaeeaifahnaaFpPlain
import Derived.KernelRfl
namespace Go.Fp

/-! the stable sort of the library (blocks of 20 by insertion, then symMerge), for lists of at most 100000; the caps of CMP are l -/
section stable
theorem gx_mid {α : Type} {A T : List α} {x : α} {i : Int} (h : i = (A.length : Int)) : gx (A ++ x :: T) i = some x := by
  subst h; simp [gx]
theorem ix_mid {α : Type} {A T : List α} {x : α} {i : Int} (h : i = (A.length : Int)) : ix (A ++ x :: T) i = some () := by
  subst h; unfold ix; rw [if_pos]; simp; omega
theorem sx_mid {α : Type} {A T : List α} {x v : α} {i : Int} (h : i = (A.length : Int)) : sx (A ++ x :: T) i v = some (A ++ v :: T) := by
  subst h; unfold sx; rw [if_pos]
  · simp
  · simp; omega

/-- strictly ahead: by D, then by number -/
def Lt (D : Int → Int) (x y : Int) : Prop := D x < D y ∨ (D x = D y ∧ x < y)
theorem Lt.trans {D : Int → Int} {x y z : Int} (h : Lt D x y) (k : Lt D y z) : Lt D x z := by unfold Lt at *; omega
theorem Lt.irr {D : Int → Int} {x : Int} (h : Lt D x x) : False := by unfold Lt at h; omega
theorem Lt.le {D : Int → Int} {x y : Int} (h : Lt D x y) : D x ≤ D y := by unfold Lt at h; omega

theorem lt_ext {D : Int → Int} : ∀ {l1 l2 : List Int}, l1.Pairwise (Lt D) → l2.Pairwise (Lt D) → (∀ x, x ∈ l1 ↔ x ∈ l2) → l1 = l2
  | [], [], _, _, _ => rfl
  | [], b :: _, _, _, h => absurd ((h b).2 (by simp)) (by simp)
  | a :: _, [], _, _, h => absurd ((h a).1 (by simp)) (by simp)
  | a :: t1, b :: t2, h1, h2, h => by
    rw [List.pairwise_cons] at h1 h2
    have hab : a = b := by
      have ha := (h a).1 (by simp)
      have hb := (h b).2 (by simp)
      rcases List.mem_cons.1 ha with e | e
      · exact e
      · rcases List.mem_cons.1 hb with e2 | e2
        · exact e2.symm
        · exact ((h2.1 a e).trans (h1.1 b e2)).irr.elim
    subst hab
    have ht : ∀ x, x ∈ t1 ↔ x ∈ t2 := by
      intro x
      constructor
      · intro hx
        rcases List.mem_cons.1 ((h x).1 (by simp [hx])) with e | e
        · subst e; exact (h1.1 x hx).irr.elim
        · exact e
      · intro hx
        rcases List.mem_cons.1 ((h x).2 (by simp [hx])) with e | e
        · subst e; exact (h2.1 x hx).irr.elim
        · exact e
    rw [lt_ext h1.2 h2.2 ht]

variable {l : List FareSpan} {D : Int → Int} {V : Int → Prop}

theorem ins2 (hC : ∀ x y, V x → V y → ∃ c, FarePack_1_v1 x y l = some c ∧ (c < 0 ↔ D x < D y)) : ∀ (n : Nat) (S A T : List Int) (x : Int), S.length < n → A.length + S.length < 1000000 → (∀ y ∈ S, V y) → V x → (∀ y ∈ S, y < x) → S.Pairwise (Lt D) →
    ∃ j R, SlicesinsertionSortCmpFuncint_v1.loop2 (A.length : Int) l n ((A.length + S.length : Nat) : Int) (A ++ (S ++ x :: T)) = some (j, A ++ (R ++ T)) ∧ R.Perm (S ++ [x]) ∧ R.Pairwise (Lt D)
  | 0, S, _, _, _, hn, _, _, _, _, _ => absurd hn (by omega)
  | n + 1, S, A, T, x, hn, hb, hV, hx, hlt, hs => by
    rcases List.eq_nil_or_concat S with rfl | ⟨S', y, rfl⟩
    · refine ⟨_, [x], by simp [SlicesinsertionSortCmpFuncint_v1.loop2]; exact rfl, by simp, by simp⟩
    · simp only [List.concat_eq_append] at *
      simp only [List.length_append, List.length_cons, List.length_nil] at hn hb
      obtain ⟨c, hc1, hc2⟩ := hC x y hx (hV y (by simp))
      have hj : w64 (((A.length + (S' ++ [y]).length : Nat) : Int) - 1) = ((A.length + S'.length : Nat) : Int) := by
        rw [w64_id (by simp; omega)]; simp; omega
      have hg : decide (((A.length + (S' ++ [y]).length : Nat) : Int) > (A.length : Int)) = true := by simp; omega
      have e1 : gx (A ++ ((S' ++ [y]) ++ x :: T)) ((A.length + (S' ++ [y]).length : Nat) : Int) = some x := by
        rw [← List.append_assoc A]; exact gx_mid (by simp)
      have e2 : gx (A ++ ((S' ++ [y]) ++ x :: T)) ((A.length + S'.length : Nat) : Int) = some y := by
        rw [show A ++ ((S' ++ [y]) ++ x :: T) = (A ++ S') ++ y :: (x :: T) by simp]; exact gx_mid (by simp)
      rw [SlicesinsertionSortCmpFuncint_v1.loop2]
      simp only [hg, if_true, hj, e1, e2, Option.bind_some, hc1]
      by_cases hlt2 : D x < D y
      · have hd : decide (c < 0) = true := by simpa using hc2.2 hlt2
        have e3 : ix (A ++ ((S' ++ [y]) ++ x :: T)) ((A.length + (S' ++ [y]).length : Nat) : Int) = some () := by
          rw [← List.append_assoc A]; exact ix_mid (by simp)
        have e4 : sx (A ++ ((S' ++ [y]) ++ x :: T)) ((A.length + (S' ++ [y]).length : Nat) : Int) y = some ((A ++ S') ++ y :: (y :: T)) := by
          rw [← List.append_assoc A, sx_mid (by simp)]; simp
        have e5 : ix ((A ++ S') ++ y :: (y :: T)) ((A.length + S'.length : Nat) : Int) = some () := ix_mid (by simp)
        have e6 : sx ((A ++ S') ++ y :: (y :: T)) ((A.length + S'.length : Nat) : Int) x = some (A ++ (S' ++ x :: (y :: T))) := by
          rw [sx_mid (by simp)]; simp
        simp only [hd, if_true, e3, e4, e5, e6, Option.bind_some]
        have hs2 := List.pairwise_append.1 hs
        obtain ⟨j, R, r1, r2, r3⟩ := ins2 hC n S' A (y :: T) x (by omega) (by omega) (fun z hz => hV z (by simp [hz])) hx (fun z hz => hlt z (by simp [hz])) hs2.1
        refine ⟨j, R ++ [y], by rw [r1]; simp, ?_, ?_⟩
        · exact (r2.append_right [y]).trans (by simpa using (List.Perm.swap y x []).append_left S')
        · refine List.pairwise_append.2 ⟨r3, by simp, ?_⟩
          intro z hz w hw
          simp at hw; subst hw
          rcases List.mem_append.1 (r2.subset hz) with h | h
          · exact hs2.2.2 z h w (by simp)
          · simp at h; subst h; exact .inl hlt2
      · have hd : decide (c < 0) = false := by simpa using fun h => hlt2 (hc2.1 h)
        simp only [hd, Bool.false_eq_true, if_false]
        refine ⟨_, (S' ++ [y]) ++ [x], by simp; exact rfl, List.Perm.refl _, ?_⟩
        refine List.pairwise_append.2 ⟨hs, by simp, ?_⟩
        intro z hz w hw
        simp at hw; subst hw
        have hyx : Lt D y w := by
          have := hlt y (by simp)
          unfold Lt; omega
        rcases List.mem_append.1 hz with h | h
        · exact ((List.pairwise_append.1 hs).2.2 z h y (by simp)).trans hyx
        · simp at h; subst h; exact hyx

theorem ins1 (hC : ∀ x y, V x → V y → ∃ c, FarePack_1_v1 x y l = some c ∧ (c < 0 ↔ D x < D y)) (fu : Nat) : ∀ (U : List Int) (n : Nat) (S A T : List Int), U.length < n → S.length + U.length < fu → A.length + S.length + U.length < 1000000 → (∀ y ∈ S, V y) → (∀ y ∈ U, V y) → (∀ y ∈ S, ∀ u ∈ U, y < u) → U.Pairwise (· < ·) → S.Pairwise (Lt D) →
    ∃ j R, SlicesinsertionSortCmpFuncint_v1.loop1 (A.length : Int) ((A.length + S.length + U.length : Nat) : Int) l fu n ((A.length + S.length : Nat) : Int) (A ++ (S ++ (U ++ T))) = some (j, A ++ (R ++ T)) ∧ R.Perm (S ++ U) ∧ R.Pairwise (Lt D)
  | [], n, S, A, T, hn, _, _, _, _, _, _, hs => by
    obtain ⟨n, rfl⟩ : ∃ m, n = m + 1 := ⟨n - 1, by simp at hn; omega⟩
    exact ⟨_, S, by simp [SlicesinsertionSortCmpFuncint_v1.loop1]; exact rfl, by simp, hs⟩
  | u :: U, n, S, A, T, hn, hf, hb, hV, hU, hlt, hu, hs => by
    obtain ⟨n, rfl⟩ : ∃ m, n = m + 1 := ⟨n - 1, by simp at hn; omega⟩
    simp only [List.length_cons] at hn hf hb
    obtain ⟨j, R, r1, r2, r3⟩ := ins2 hC fu S A (U ++ T) u (by omega) (by omega) hV (hU u (by simp)) (fun y hy => hlt y hy u (by simp)) hs
    have hl := r2.length_eq
    simp only [List.length_append, List.length_cons, List.length_nil] at hl
    rw [List.pairwise_cons] at hu
    have hmem : ∀ y ∈ R, y ∈ S ∨ y = u := by intro y hy; simpa using r2.subset hy
    obtain ⟨j', R', q1, q2, q3⟩ := ins1 hC fu U n R A T (by omega) (by omega) (by omega) (fun y hy => (hmem y hy).elim (hV y) (fun e => e ▸ hU u (by simp))) (fun y hy => hU y (by simp [hy]))
      (fun y hy v hv => (hmem y hy).elim (fun h => hlt y h v (by simp [hv])) (fun e => e ▸ hu.1 v hv)) hu.2 r3
    refine ⟨j', R', ?_, q2.trans (by simpa using r2.append_right U), q3⟩
    rw [SlicesinsertionSortCmpFuncint_v1.loop1]
    have h1 : decide (((A.length + S.length : Nat) : Int) < ((A.length + S.length + (u :: U).length : Nat) : Int)) = true := by simp; omega
    have h2 : w64 (((A.length + S.length : Nat) : Int) + 1) = ((A.length + R.length : Nat) : Int) := by
      rw [w64_id (by omega)]; omega
    have h3 : ((A.length + S.length + (u :: U).length : Nat) : Int) = ((A.length + R.length + U.length : Nat) : Int) := by simp; omega
    simp only [h1, if_true]
    simp only [List.cons_append, r1, Option.bind_some, h2, h3]
    exact q1

theorem ins_ok (hC : ∀ x y, V x → V y → ∃ c, FarePack_1_v1 x y l = some c ∧ (c < 0 ↔ D x < D y)) {fu : Nat} {A X T : List Int} (hf : X.length + 1 < fu) (hb : A.length + X.length < 1000000) (hV : ∀ y ∈ X, V y) (hu : X.Pairwise (· < ·)) :
    ∃ R, SlicesinsertionSortCmpFuncint_v1 fu (A ++ (X ++ T)) (A.length : Int) ((A.length + X.length : Nat) : Int) l = some (A ++ (R ++ T)) ∧ R.Perm X ∧ R.Pairwise (Lt D) := by
  unfold SlicesinsertionSortCmpFuncint_v1
  have h2 : w64 ((A.length : Int) + 1) = ((A.length + 1 : Nat) : Int) := by rw [w64_id (by omega)]; omega
  rw [h2]
  cases X with
  | nil =>
    obtain ⟨f, rfl⟩ : ∃ m, fu = m + 1 := ⟨fu - 1, by omega⟩
    refine ⟨[], ?_, by simp, by simp⟩
    rw [SlicesinsertionSortCmpFuncint_v1.loop1]
    have h1 : decide (((A.length + 1 : Nat) : Int) < ((A.length + ([] : List Int).length : Nat) : Int)) = false := by simp; omega
    simp only [h1, Bool.false_eq_true, if_false, Option.bind_some]
  | cons x X =>
    simp only [List.length_cons] at hf hb
    rw [List.pairwise_cons] at hu
    obtain ⟨j, R, r1, r2, r3⟩ := ins1 hC fu X fu [x] A T (by omega) (by simp; omega) (by simp; omega) (by simpa using hV x (by simp)) (fun y hy => hV y (by simp [hy])) (by simpa using hu.1) hu.2 (by simp)
    have h3 : ((A.length + (x :: X).length : Nat) : Int) = ((A.length + [x].length + X.length : Nat) : Int) := by simp; omega
    refine ⟨R, ?_, r2, r3⟩
    rw [h3]
    simp only [List.length_cons, List.length_nil, Nat.zero_add, List.cons_append, List.nil_append] at r1 ⊢
    rw [r1]; rfl

theorem swap1 : ∀ (X2 : List Int) (n : Nat) (Y2 Y1 X1 A M T : List Int), X2.length = Y2.length → X1.length = Y1.length → X2.length < n → A.length + Y1.length + X2.length + M.length + X1.length + Y2.length < 1000000 →
    ∃ j, SlicesswapRangeCmpFuncint_v1.loop1 (A.length : Int) ((A.length + Y1.length + X2.length + M.length : Nat) : Int) ((Y1.length + X2.length : Nat) : Int) n (Y1.length : Int) (A ++ (Y1 ++ (X2 ++ (M ++ (X1 ++ (Y2 ++ T)))))) = some (j, A ++ ((Y1 ++ Y2) ++ (M ++ ((X1 ++ X2) ++ T))))
  | [], n, Y2, Y1, X1, A, M, T, h1, _, hn, _ => by
    obtain ⟨n, rfl⟩ : ∃ m, n = m + 1 := ⟨n - 1, by omega⟩
    obtain rfl : Y2 = [] := by simpa using h1.symm
    exact ⟨_, by simp [SlicesswapRangeCmpFuncint_v1.loop1]; exact rfl⟩
  | x :: X2, n, Y2, Y1, X1, A, M, T, h1, h2, hn, hb => by
    obtain ⟨n, rfl⟩ : ∃ m, n = m + 1 := ⟨n - 1, by omega⟩
    cases Y2 with
    | nil => simp at h1
    | cons y Y2 =>
      simp only [List.length_cons] at h1 hn hb
      obtain ⟨j, hj⟩ := swap1 X2 n Y2 (Y1 ++ [y]) (X1 ++ [x]) A M T (by omega) (by simp; omega) (by omega) (by simp; omega)
      refine ⟨j, ?_⟩
      rw [SlicesswapRangeCmpFuncint_v1.loop1]
      have g1 : decide ((Y1.length : Int) < ((Y1.length + (x :: X2).length : Nat) : Int)) = true := by simp; omega
      have g2 : w64 (((A.length + Y1.length + (x :: X2).length + M.length : Nat) : Int) + (Y1.length : Int)) = ((A ++ (Y1 ++ (x :: X2 ++ (M ++ X1)))).length : Int) := by
        rw [w64_id (by simp; omega)]; simp; omega
      have g3 : w64 ((A.length : Int) + (Y1.length : Int)) = ((A ++ Y1).length : Int) := by
        rw [w64_id (by omega)]; simp
      have g4 : w64 ((Y1.length : Int) + 1) = ((Y1 ++ [y]).length : Int) := by rw [w64_id (by omega)]; simp
      have d1 : A ++ (Y1 ++ (x :: X2 ++ (M ++ (X1 ++ (y :: Y2 ++ T))))) = (A ++ (Y1 ++ (x :: X2 ++ (M ++ X1)))) ++ y :: (Y2 ++ T) := by simp
      have d2 : A ++ (Y1 ++ (x :: X2 ++ (M ++ (X1 ++ (y :: Y2 ++ T))))) = (A ++ Y1) ++ x :: (X2 ++ (M ++ (X1 ++ (y :: Y2 ++ T)))) := by simp
      have e1 : gx (A ++ (Y1 ++ (x :: X2 ++ (M ++ (X1 ++ (y :: Y2 ++ T)))))) ((A ++ (Y1 ++ (x :: X2 ++ (M ++ X1)))).length : Int) = some y := by rw [d1]; exact gx_mid rfl
      have e2 : gx (A ++ (Y1 ++ (x :: X2 ++ (M ++ (X1 ++ (y :: Y2 ++ T)))))) ((A ++ Y1).length : Int) = some x := by rw [d2]; exact gx_mid rfl
      have e3 : ix (A ++ (Y1 ++ (x :: X2 ++ (M ++ (X1 ++ (y :: Y2 ++ T)))))) ((A ++ Y1).length : Int) = some () := by rw [d2]; exact ix_mid rfl
      have e4 : sx (A ++ (Y1 ++ (x :: X2 ++ (M ++ (X1 ++ (y :: Y2 ++ T)))))) ((A ++ Y1).length : Int) y = some ((A ++ (Y1 ++ (y :: X2 ++ (M ++ X1)))) ++ y :: (Y2 ++ T)) := by rw [d2, sx_mid rfl]; simp
      have g5 : (A ++ (Y1 ++ (x :: X2 ++ (M ++ X1)))).length = (A ++ (Y1 ++ (y :: X2 ++ (M ++ X1)))).length := by simp
      have e5 : ix ((A ++ (Y1 ++ (y :: X2 ++ (M ++ X1)))) ++ y :: (Y2 ++ T)) ((A ++ (Y1 ++ (x :: X2 ++ (M ++ X1)))).length : Int) = some () := ix_mid (by rw [g5])
      have e6 : sx ((A ++ (Y1 ++ (y :: X2 ++ (M ++ X1)))) ++ y :: (Y2 ++ T)) ((A ++ (Y1 ++ (x :: X2 ++ (M ++ X1)))).length : Int) x = some (A ++ ((Y1 ++ [y]) ++ (X2 ++ (M ++ ((X1 ++ [x]) ++ (Y2 ++ T)))))) := by rw [sx_mid (by rw [g5])]; simp
      simp only [g1, if_true, g2, g3, g4, e1, e2, e3, e4, e5, e6, Option.bind_some]
      have k1 : ((A.length + (Y1 ++ [y]).length + X2.length + M.length : Nat) : Int) = ((A.length + Y1.length + (x :: X2).length + M.length : Nat) : Int) := by simp; omega
      have k2 : (((Y1 ++ [y]).length + X2.length : Nat) : Int) = ((Y1.length + (x :: X2).length : Nat) : Int) := by simp; omega
      rw [k1, k2] at hj
      rw [hj]; simp

theorem swap_ok {fu : Nat} {A X M Y T : List Int} {a b n : Int} (h : X.length = Y.length) (hf : X.length < fu) (hb : A.length + X.length + M.length + Y.length < 1000000) (ha : a = (A.length : Int)) (hb2 : b = ((A.length + X.length + M.length : Nat) : Int)) (hn : n = (X.length : Int)) :
    SlicesswapRangeCmpFuncint_v1 fu (A ++ (X ++ (M ++ (Y ++ T)))) a b n l = some (A ++ (Y ++ (M ++ (X ++ T)))) := by
  obtain ⟨j, hj⟩ := swap1 X fu Y [] [] A M T h rfl hf (by simpa using hb)
  unfold SlicesswapRangeCmpFuncint_v1
  simp only [List.length_nil, Nat.zero_add, List.nil_append, Nat.add_zero] at hj
  subst ha hb2 hn
  have : (0 : Int) = ((0 : Nat) : Int) := rfl
  rw [this, hj]; rfl

theorem rot1 (fu : Nat) : ∀ (n : Nat) (X Y A T : List Int), X.length + Y.length < n → X ≠ [] → Y ≠ [] → X.length + Y.length < fu → A.length + X.length + Y.length < 1000000 →
    ∃ (X' Y' A' T' : List Int), SlicesrotateCmpFuncint_v1.loop1 ((A.length + X.length : Nat) : Int) l fu n (X.length : Int) (Y.length : Int) (A ++ (X ++ (Y ++ T))) = some ((X'.length : Int), (X'.length : Int), A' ++ (X' ++ (Y' ++ T')))
      ∧ Y'.length = X'.length ∧ A'.length + X'.length = A.length + X.length ∧ A' ++ (Y' ++ (X' ++ T')) = A ++ (Y ++ (X ++ T)) ∧ X'.length ≤ X.length
  | 0, _, _, _, _, h, _, _, _, _ => absurd h (by omega)
  | n + 1, X, Y, A, T, hn, hX, hY, hf, hb => by
    have lx : 0 < X.length := List.length_pos_iff.2 hX
    have ly : 0 < Y.length := List.length_pos_iff.2 hY
    rw [SlicesrotateCmpFuncint_v1.loop1]
    by_cases h1 : X.length = Y.length
    · refine ⟨X, Y, A, T, ?_, h1.symm, rfl, rfl, Nat.le_refl _⟩
      simp [h1]
    · have hne : ((X.length : Int) != (Y.length : Int)) = true := by simp; omega
      simp only [hne, if_true]
      by_cases h2 : Y.length < X.length
      · have hd : decide ((X.length : Int) > (Y.length : Int)) = true := by simp; omega
        obtain ⟨X1, X2, rfl, hl⟩ : ∃ X1 X2, X = X1 ++ X2 ∧ X1.length = Y.length := ⟨X.take Y.length, X.drop Y.length, by simp, by simp; omega⟩
        simp only [List.length_append] at *
        have e1 := swap_ok (l := l) (fu := fu) (A := A) (X := X1) (M := X2) (Y := Y) (T := T) (a := w64 (((A.length + (X1.length + X2.length) : Nat) : Int) - ((X1.length + X2.length : Nat) : Int))) (b := ((A.length + (X1.length + X2.length) : Nat) : Int)) (n := (Y.length : Int)) hl (by omega) (by omega)
          (by rw [w64_id (by omega)]; omega) (by omega) (by omega)
        obtain ⟨X', Y', A', T', r1, r2, r3, r4, r5⟩ := rot1 fu n X2 X1 (A ++ Y) T (by omega) (by intro h; subst h; simp at h2; omega) (by intro h; subst h; simp at hl; omega) (by omega) (by simp; omega)
        refine ⟨X', Y', A', T', ?_, r2, by simp at r3; omega, by rw [r4]; simp, by omega⟩
        simp only [hd, if_true, List.append_assoc] at *
        rw [e1]
        have e2 : w64 (((X1.length + X2.length : Nat) : Int) - (Y.length : Int)) = (X2.length : Int) := by rw [w64_id (by omega)]; omega
        have e3 : ((A ++ Y).length + X2.length : Nat) = A.length + (X1.length + X2.length) := by simp; omega
        simp only [Option.bind_some, e2]
        rw [e3, show (X1.length : Int) = (Y.length : Int) by rw [hl]] at r1
        exact r1
      · have hd : decide ((X.length : Int) > (Y.length : Int)) = false := by simp; omega
        obtain ⟨Y1, Y2, rfl, hl⟩ : ∃ Y1 Y2, Y = Y1 ++ Y2 ∧ Y2.length = X.length := ⟨Y.take (Y.length - X.length), Y.drop (Y.length - X.length), by simp, by simp; omega⟩
        simp only [List.length_append] at *
        have e1 := swap_ok (l := l) (fu := fu) (A := A) (X := X) (M := Y1) (Y := Y2) (T := T) (a := w64 (((A.length + X.length : Nat) : Int) - (X.length : Int))) (b := w64 (w64 (((A.length + X.length : Nat) : Int) + ((Y1.length + Y2.length : Nat) : Int)) - (X.length : Int))) (n := (X.length : Int)) hl.symm (by omega) (by omega)
          (by rw [w64_id (by omega)]; omega) (by rw [w64_id (x := ((A.length + X.length : Nat) : Int) + _) (by omega), w64_id (by omega)]; omega) rfl
        obtain ⟨X', Y', A', T', r1, r2, r3, r4, r5⟩ := rot1 fu n Y2 Y1 A (X ++ T) (by omega) (by intro h; subst h; simp at hl; omega) (by intro h; subst h; simp at h1 h2; omega) (by omega) (by omega)
        refine ⟨X', Y', A', T', ?_, r2, by omega, by rw [r4]; simp, by omega⟩
        simp only [hd, Bool.false_eq_true, if_false, List.append_assoc] at *
        rw [e1]
        have e2 : w64 (((Y1.length + Y2.length : Nat) : Int) - (X.length : Int)) = (Y1.length : Int) := by rw [w64_id (by omega)]; omega
        simp only [Option.bind_some, e2]
        rw [hl] at r1
        exact r1

theorem rot_ok {fu : Nat} {A X Y T : List Int} {a m b : Int} (hX : X ≠ []) (hY : Y ≠ []) (hf : X.length + Y.length < fu) (hb : A.length + X.length + Y.length < 500000) (ha : a = (A.length : Int)) (hm : m = ((A.length + X.length : Nat) : Int)) (hb2 : b = ((A.length + X.length + Y.length : Nat) : Int)) :
    SlicesrotateCmpFuncint_v1 fu (A ++ (X ++ (Y ++ T))) a m b l = some (A ++ (Y ++ (X ++ T))) := by
  subst ha hm hb2
  unfold SlicesrotateCmpFuncint_v1
  obtain ⟨X', Y', A', T', r1, r2, r3, r4, r5⟩ := rot1 (l := l) fu fu X Y A T hf hX hY hf (by omega)
  have e1 : w64 (((A.length + X.length : Nat) : Int) - (A.length : Int)) = (X.length : Int) := by rw [w64_id (by omega)]; omega
  have e2 : w64 (((A.length + X.length + Y.length : Nat) : Int) - ((A.length + X.length : Nat) : Int)) = (Y.length : Int) := by rw [w64_id (by omega)]; omega
  rw [e1, e2, r1]
  simp only [Option.bind_some]
  have hl : A'.length + X'.length + Y'.length + T'.length = A.length + X.length + Y.length + T.length := by
    have := congrArg List.length r4; simp at this; omega
  have e3 := swap_ok (l := l) (fu := fu) (A := A') (X := X') (M := []) (Y := Y') (T := T') (a := w64 (((A.length + X.length : Nat) : Int) - (X'.length : Int))) (b := ((A.length + X.length : Nat) : Int)) (n := (X'.length : Int)) r2.symm (by omega) (by simp; omega)
    (by rw [w64_id (by omega)]; omega) (by simp; omega) rfl
  simp only [List.nil_append] at e3
  rw [e3, Option.bind_some, r4]

/-- a search by halves -/
def bs (test : Int → Option Bool) : Nat → Int → Int → Option (Int × Int)
  | 0, _, _ => none
  | n + 1, i, j => if decide (i < j) then (test (w64 (Int.fdiv (IntKind.wrap .u64 (w64 (i + j))) (2 ^ (min (Int.toNat 1) (IntKind.bits .u64)))))).bind fun c =>
      if c then bs test n (w64 (w64 (Int.fdiv (IntKind.wrap .u64 (w64 (i + j))) (2 ^ (min (Int.toNat 1) (IntKind.bits .u64)))) + 1)) j else bs test n i (w64 (Int.fdiv (IntKind.wrap .u64 (w64 (i + j))) (2 ^ (min (Int.toNat 1) (IntKind.bits .u64))))) else some (i, j)

theorem half_eq {a b : Nat} (h : a + b < 2000000) : w64 (Int.fdiv (IntKind.wrap .u64 (w64 ((a : Int) + (b : Int)))) (2 ^ (min (Int.toNat 1) (IntKind.bits .u64)))) = (((a + b) / 2 : Nat) : Int) := by
  rw [w64_id (x := (a : Int) + b) (by omega)]
  have e1 : IntKind.wrap .u64 ((a : Int) + b) = ((a + b : Nat) : Int) := by
    unfold IntKind.wrap; simp [IntKind.bits]; omega
  have e2 : (2 ^ (min (Int.toNat 1) (IntKind.bits .u64)) : Int) = 2 := by decide
  rw [e1, e2, Int.fdiv_eq_ediv_of_nonneg _ (by decide)]
  rw [w64_id (by omega)]; omega

theorem bs_ok (p : Nat → Bool) (test : Int → Option Bool) : ∀ (n lo hi : Nat), hi - lo < n → lo ≤ hi → hi < 1000000 → (∀ k : Nat, lo ≤ k → k < hi → test (k : Int) = some (p k)) → (∀ k k', lo ≤ k → k ≤ k' → k' < hi → p k' = true → p k = true) →
    ∃ r : Nat, lo ≤ r ∧ r ≤ hi ∧ bs test n lo hi = some ((r : Int), (r : Int)) ∧ (∀ k, lo ≤ k → k < r → p k = true) ∧ (∀ k, r ≤ k → k < hi → p k = false)
  | 0, _, _, h, _, _, _, _ => absurd h (by omega)
  | n + 1, lo, hi, h, hle, hb, ht, hm => by
    rw [bs]
    by_cases hlt : lo < hi
    · have hd : decide ((lo : Int) < (hi : Int)) = true := by simp; omega
      have hh := half_eq (a := lo) (b := hi) (by omega)
      have t1 := ht ((lo + hi) / 2) (by omega) (by omega)
      simp only [hd, if_true, hh, t1, Option.bind_some]
      cases hp : p ((lo + hi) / 2) with
      | true =>
        have e : w64 ((((lo + hi) / 2 : Nat) : Int) + 1) = (((lo + hi) / 2 + 1 : Nat) : Int) := by rw [w64_id (by omega)]; omega
        simp only [if_true, e]
        obtain ⟨r, r1, r2, r3, r4, r5⟩ := bs_ok p test n ((lo + hi) / 2 + 1) hi (by omega) (by omega) hb (fun k h1 h2 => ht k (by omega) h2) (fun k k' h1 h2 h3 => hm k k' (by omega) h2 h3)
        refine ⟨r, by omega, r2, r3, ?_, r5⟩
        intro k k1 k2
        rcases Nat.lt_or_ge k ((lo + hi) / 2 + 1) with h1 | h1
        · exact hm k ((lo + hi) / 2) k1 (by omega) (by omega) hp
        · exact r4 k h1 k2
      | false =>
        simp only [Bool.false_eq_true, if_false]
        obtain ⟨r, r1, r2, r3, r4, r5⟩ := bs_ok p test n lo ((lo + hi) / 2) (by omega) (by omega) (by omega) (fun k h1 h2 => ht k h1 (by omega)) (fun k k' h1 h2 h3 => hm k k' h1 h2 (by omega))
        refine ⟨r, r1, by omega, r3, r4, ?_⟩
        intro k k1 k2
        rcases Nat.lt_or_ge k ((lo + hi) / 2) with h1 | h1
        · exact r5 k k1 h1
        · cases hk : p k with
          | false => rfl
          | true => have := hm ((lo + hi) / 2) k (by omega) h1 k2 hk; rw [hp] at this; cases this
    · have hd : decide ((lo : Int) < (hi : Int)) = false := by simp; omega
      obtain rfl : lo = hi := by omega
      refine ⟨lo, Nat.le_refl _, Nat.le_refl _, by simp, ?_, ?_⟩
      · intro k h1 h2; omega
      · intro k h1 h2; omega

theorem obind_congr {α β : Type} {o : Option α} {f g : α → Option β} (h : ∀ x, f x = g x) : o.bind f = o.bind g := by cases o <;> simp [h]

theorem sym1_bs (x0 : List Int) (x1 : Int) : ∀ (n : Nat) (i j : Int), SlicessymMergeCmpFuncint_v1.loop1 x0 x1 l n i j = bs (fun h => (gx x0 h).bind fun u => (gx x0 x1).bind fun v => (FarePack_1_v1 u v l).bind fun c => some (decide (c < 0))) n i j
  | 0, _, _ => rfl
  | n + 1, i, j => by
    rw [SlicessymMergeCmpFuncint_v1.loop1, bs]
    split
    · simp only [Option.bind_assoc, Option.bind_some]
      refine obind_congr fun u => obind_congr fun v => obind_congr fun c => ?_
      simp only [bnd_eq, sym1_bs x0 x1 n]
      cases decide (c < 0) <;> rfl
    · rfl
theorem sym3_bs (x0 : List Int) (x2 : Int) : ∀ (n : Nat) (i j : Int), SlicessymMergeCmpFuncint_v1.loop3 x0 x2 l n i j = bs (fun h => (gx x0 x2).bind fun u => (gx x0 h).bind fun v => (FarePack_1_v1 u v l).bind fun c => some (!(decide (c < 0)))) n i j
  | 0, _, _ => rfl
  | n + 1, i, j => by
    rw [SlicessymMergeCmpFuncint_v1.loop3, bs]
    split
    · simp only [Option.bind_assoc, Option.bind_some]
      refine obind_congr fun u => obind_congr fun v => obind_congr fun c => ?_
      simp only [bnd_eq, sym3_bs x0 x2 n]
      cases decide (c < 0) <;> rfl
    · rfl
theorem sym5_bs (x0 : List Int) (x1 x2 x3 : Int) : ∀ (n : Nat) (i j : Int), SlicessymMergeCmpFuncint_v1.loop5 x0 x1 x2 x3 l n i j = bs (fun h => (gx x0 (w64 ((w64 ((w64 ((w64 (Int.fdiv (IntKind.wrap .u64 (w64 (x1 + x3))) (2 ^ (min (Int.toNat 1) (IntKind.bits .u64))))) + x2)) - 1)) - h))).bind fun u => (gx x0 h).bind fun v => (FarePack_1_v1 u v l).bind fun c => some (!(decide (c < 0)))) n i j
  | 0, _, _ => rfl
  | n + 1, i, j => by
    rw [SlicessymMergeCmpFuncint_v1.loop5, bs]
    split
    · simp only [Option.bind_assoc, Option.bind_some]
      refine obind_congr fun u => obind_congr fun v => obind_congr fun c => ?_
      simp only [bnd_eq, sym5_bs x0 x1 x2 x3 n]
      cases decide (c < 0) <;> rfl
    · rfl

theorem bub1 : ∀ (Y1 : List Int) (n : Nat) (A T : List Int) (x : Int), Y1.length < n → A.length + Y1.length < 1000000 →
    ∃ j, SlicessymMergeCmpFuncint_v1.loop2 ((A.length + Y1.length + 1 : Nat) : Int) n (A.length : Int) (A ++ (x :: (Y1 ++ T))) = some (j, A ++ (Y1 ++ x :: T))
  | [], n, A, T, x, hn, hb => by
    obtain ⟨n, rfl⟩ : ∃ m, n = m + 1 := ⟨n - 1, by simp at hn; omega⟩
    have h1 : w64 (((A.length + ([] : List Int).length + 1 : Nat) : Int) - 1) = (A.length : Int) := by rw [w64_id (by simp; omega)]; simp
    rw [SlicessymMergeCmpFuncint_v1.loop2, h1]
    exact ⟨_, by simp; exact rfl⟩
  | y :: Y1, n, A, T, x, hn, hb => by
    simp only [List.length_cons] at hn hb
    obtain ⟨n, rfl⟩ : ∃ m, n = m + 1 := ⟨n - 1, by omega⟩
    obtain ⟨j, hj⟩ := bub1 Y1 n (A ++ [y]) T x (by omega) (by simp; omega)
    refine ⟨j, ?_⟩
    have h1 : w64 (((A.length + (y :: Y1).length + 1 : Nat) : Int) - 1) = ((A.length + Y1.length + 1 : Nat) : Int) := by rw [w64_id (by simp; omega)]; simp; omega
    have h2 : decide ((A.length : Int) < ((A.length + Y1.length + 1 : Nat) : Int)) = true := by simp; omega
    have h3 : w64 ((A.length : Int) + 1) = ((A ++ [y]).length : Int) := by rw [w64_id (by omega)]; simp
    have h3' : ((A ++ [y]).length : Int) = ((A ++ [x]).length : Int) := by simp
    have d1 : A ++ (x :: (y :: Y1 ++ T)) = (A ++ [x]) ++ y :: (Y1 ++ T) := by simp
    have e1 : gx (A ++ (x :: (y :: Y1 ++ T))) ((A ++ [y]).length : Int) = some y := by rw [d1]; exact gx_mid h3'
    have e2 : gx (A ++ (x :: (y :: Y1 ++ T))) (A.length : Int) = some x := gx_mid rfl
    have e3 : ix (A ++ (x :: (y :: Y1 ++ T))) (A.length : Int) = some () := ix_mid rfl
    have e4 : sx (A ++ (x :: (y :: Y1 ++ T))) (A.length : Int) y = some ((A ++ [y]) ++ y :: (Y1 ++ T)) := by rw [sx_mid rfl]; simp
    have e5 : ix ((A ++ [y]) ++ y :: (Y1 ++ T)) ((A ++ [y]).length : Int) = some () := ix_mid rfl
    have e6 : sx ((A ++ [y]) ++ y :: (Y1 ++ T)) ((A ++ [y]).length : Int) x = some ((A ++ [y]) ++ x :: (Y1 ++ T)) := sx_mid rfl
    rw [SlicessymMergeCmpFuncint_v1.loop2]
    simp only [h1, h2, if_true, h3, e1, e2, e3, e4, e5, e6, Option.bind_some]
    have k : (((A ++ [y]).length + Y1.length + 1 : Nat) : Int) = ((A.length + (y :: Y1).length + 1 : Nat) : Int) := by simp; omega
    rw [k] at hj
    rw [hj]; simp

theorem bub2 : ∀ (n : Nat) (X2 : List Int) (A T : List Int) (y : Int), X2.length < n → A.length + X2.length < 1000000 →
    ∃ j, SlicessymMergeCmpFuncint_v1.loop4 (A.length : Int) n ((A.length + X2.length : Nat) : Int) (A ++ (X2 ++ y :: T)) = some (j, A ++ (y :: (X2 ++ T)))
  | 0, _, _, _, _, h, _ => absurd h (by omega)
  | n + 1, X2, A, T, y, hn, hb => by
    rw [SlicessymMergeCmpFuncint_v1.loop4]
    rcases List.eq_nil_or_concat X2 with rfl | ⟨S, x, rfl⟩
    · exact ⟨_, by simp; exact rfl⟩
    · simp only [List.concat_eq_append] at *
      simp only [List.length_append, List.length_cons, List.length_nil] at hn hb
      obtain ⟨j, hj⟩ := bub2 n S A (x :: T) y (by omega) (by omega)
      refine ⟨j, ?_⟩
      have h1 : decide (((A.length + (S ++ [x]).length : Nat) : Int) > (A.length : Int)) = true := by simp; omega
      have h2 : w64 (((A.length + (S ++ [x]).length : Nat) : Int) - 1) = ((A.length + S.length : Nat) : Int) := by rw [w64_id (by simp; omega)]; simp; omega
      have d1 : A ++ ((S ++ [x]) ++ y :: T) = (A ++ S) ++ x :: (y :: T) := by simp
      have d2 : A ++ ((S ++ [x]) ++ y :: T) = (A ++ (S ++ [x])) ++ y :: T := by simp
      have e1 : gx (A ++ ((S ++ [x]) ++ y :: T)) ((A.length + S.length : Nat) : Int) = some x := by rw [d1]; exact gx_mid (by simp)
      have e2 : gx (A ++ ((S ++ [x]) ++ y :: T)) ((A.length + (S ++ [x]).length : Nat) : Int) = some y := by rw [d2]; exact gx_mid (by simp)
      have e3 : ix (A ++ ((S ++ [x]) ++ y :: T)) ((A.length + (S ++ [x]).length : Nat) : Int) = some () := by rw [d2]; exact ix_mid (by simp)
      have e4 : sx (A ++ ((S ++ [x]) ++ y :: T)) ((A.length + (S ++ [x]).length : Nat) : Int) x = some ((A ++ S) ++ x :: (x :: T)) := by rw [d2, sx_mid (by simp)]; simp
      have e5 : ix ((A ++ S) ++ x :: (x :: T)) ((A.length + S.length : Nat) : Int) = some () := ix_mid (by simp)
      have e6 : sx ((A ++ S) ++ x :: (x :: T)) ((A.length + S.length : Nat) : Int) y = some (A ++ (S ++ y :: (x :: T))) := by rw [sx_mid (by simp)]; simp
      simp only [h1, if_true, h2, e1, e2, e3, e4, e5, e6, Option.bind_some]
      rw [hj]; simp

theorem gx_dv {d : List Int} {k : Nat} (h : k < d.length) : gx d (k : Int) = some (d.getD k 0) := by
  rw [gx_nat, List.getD_eq_getElem?_getD, List.getElem?_eq_getElem h]; rfl
theorem dv_X {A X Z : List Int} {k : Nat} (h1 : A.length ≤ k) (h2 : k < A.length + X.length) : (A ++ (X ++ Z)).getD k 0 = X.getD (k - A.length) 0 := by
  simp only [List.getD_eq_getElem?_getD]
  rw [List.getElem?_append_right h1, List.getElem?_append_left (by omega)]
theorem dv_Y {A X Y T : List Int} {k : Nat} (h1 : A.length + X.length ≤ k) (h2 : k < A.length + X.length + Y.length) : (A ++ (X ++ (Y ++ T))).getD k 0 = Y.getD (k - (A.length + X.length)) 0 := by
  rw [show A ++ (X ++ (Y ++ T)) = (A ++ X) ++ (Y ++ T) by simp, dv_X (by simp; omega) (by simp; omega)]; simp
theorem getD_mem {X : List Int} {k : Nat} (h : k < X.length) : X.getD k 0 ∈ X := by
  rw [List.getD_eq_getElem?_getD, List.getElem?_eq_getElem h]; exact List.getElem_mem h
theorem pw_getD {R : Int → Int → Prop} {X : List Int} (h : X.Pairwise R) {i j : Nat} (h1 : i < j) (h2 : j < X.length) : R (X.getD i 0) (X.getD j 0) := by
  rw [List.getD_eq_getElem?_getD, List.getD_eq_getElem?_getD, List.getElem?_eq_getElem h2, List.getElem?_eq_getElem (Nat.lt_trans h1 h2)]
  exact List.pairwise_iff_getElem.1 h i j (Nat.lt_trans h1 h2) h2 h1
theorem pw_le {X : List Int} (h : X.Pairwise (Lt D)) {i j : Nat} (h1 : i ≤ j) (h2 : j < X.length) : D (X.getD i 0) ≤ D (X.getD j 0) := by
  rcases Nat.lt_or_eq_of_le h1 with h3 | rfl
  · exact (pw_getD h h3 h2).le
  · exact Int.le_refl _
theorem take_getD {X : List Int} {n : Nat} {x : Int} (h : x ∈ X.take n) : ∃ i, i < n ∧ i < X.length ∧ x = X.getD i 0 := by
  obtain ⟨i, hi, e⟩ := List.mem_iff_getElem.1 h
  simp only [List.length_take] at hi
  refine ⟨i, by omega, by omega, ?_⟩
  rw [List.getD_eq_getElem?_getD, List.getElem?_eq_getElem (by omega), ← e]; simp
theorem drop_getD {X : List Int} {n : Nat} {x : Int} (h : x ∈ X.drop n) : ∃ i, n ≤ i ∧ i < X.length ∧ x = X.getD i 0 := by
  obtain ⟨i, hi, e⟩ := List.mem_iff_getElem.1 h
  simp only [List.length_drop] at hi
  refine ⟨n + i, by omega, by omega, ?_⟩
  rw [List.getD_eq_getElem?_getD, List.getElem?_eq_getElem (by omega), ← e]; simp

theorem sym_ok (hC : ∀ x y, V x → V y → ∃ c, FarePack_1_v1 x y l = some c ∧ (c < 0 ↔ D x < D y)) : ∀ (fu : Nat) (A X Y T : List Int) (a m b : Int), a = (A.length : Int) → m = ((A.length + X.length : Nat) : Int) → b = ((A.length + X.length + Y.length : Nat) : Int) → X ≠ [] → Y ≠ [] → X.length + Y.length + 2 < fu →
    A.length + X.length + Y.length < 500000 → (∀ x ∈ X, V x) → (∀ y ∈ Y, V y) → (∀ x ∈ X, ∀ y ∈ Y, x < y) → X.Pairwise (Lt D) → Y.Pairwise (Lt D) →
    ∃ R, SlicessymMergeCmpFuncint_v1 fu (A ++ (X ++ (Y ++ T))) a m b l = some (A ++ (R ++ T)) ∧ R.Perm (X ++ Y) ∧ R.Pairwise (Lt D)
  | 0, _, _, _, _, _, _, _, _, _, _, _, _, h, _, _, _, _, _, _ => absurd h (by omega)
  | fu + 1, A, X, Y, T, a, m, b, ha, hm, hb, hX, hY, hf, hz, vX, vY, hlt, sX, sY => by
    have lx : 0 < X.length := List.length_pos_iff.2 hX
    have ly : 0 < Y.length := List.length_pos_iff.2 hY
    have hdl : (A ++ (X ++ (Y ++ T))).length = A.length + X.length + Y.length + T.length := by simp; omega
    rw [SlicessymMergeCmpFuncint_v1]
    by_cases c1 : X.length = 1
    · obtain ⟨x, rfl⟩ := List.length_eq_one_iff.1 c1
      have hd : (w64 (m - a) == 1) = true := by rw [w64_id (by omega)]; simp; omega
      rw [if_pos hd, sym1_bs]
      obtain ⟨r, r1, r2, r3, r4, r5⟩ := bs_ok (fun k => decide (D ((A ++ ([x] ++ (Y ++ T))).getD k 0) < D x)) (fun h => (gx (A ++ ([x] ++ (Y ++ T))) h).bind fun u => (gx (A ++ ([x] ++ (Y ++ T))) a).bind fun v => (FarePack_1_v1 u v l).bind fun c => some (decide (c < 0))) fu (A.length + [x].length) (A.length + [x].length + Y.length) (by omega) (by omega) (by omega)
        (by
          intro k k1 k2
          rw [gx_dv (by omega), ha, show A ++ ([x] ++ (Y ++ T)) = A ++ x :: (Y ++ T) by rfl, gx_mid rfl]
          obtain ⟨c, e1, e2⟩ := hC ((A ++ x :: (Y ++ T)).getD k 0) x (by rw [show A ++ x :: (Y ++ T) = A ++ ([x] ++ (Y ++ T)) by rfl, dv_Y k1 k2]; exact vY _ (getD_mem (by omega))) (vX x (by simp))
          simp only [Option.bind_some, e1]
          congr 1; exact decide_eq_decide.2 e2)
        (by
          intro k k' k1 k2 k3 h
          simp only [decide_eq_true_eq] at h ⊢
          rw [dv_Y (by omega) k3] at h
          rw [dv_Y k1 (by omega)]
          exact Int.lt_of_le_of_lt (pw_le sY (by omega) (by omega)) h)
      subst ha hm hb
      rw [r3]
      simp only [Option.bind_some]
      obtain ⟨j, hj⟩ := bub1 (Y.take (r - (A.length + 1))) fu A (Y.drop (r - (A.length + 1)) ++ T) x (by simp; omega) (by simp; omega)
      simp only [List.length_cons, List.length_nil, Nat.zero_add] at r1 r2 r4 r5 c1
      have hr : ((A.length + (Y.take (r - (A.length + 1))).length + 1 : Nat) : Int) = (r : Int) := by simp; omega
      rw [hr] at hj
      have hdd : A ++ ([x] ++ (Y ++ T)) = A ++ (x :: (Y.take (r - (A.length + 1)) ++ (Y.drop (r - (A.length + 1)) ++ T))) := by
        rw [← List.append_assoc (Y.take _), List.take_append_drop]; rfl
      rw [hdd, hj]
      simp only [Option.bind_some]
      refine ⟨Y.take (r - (A.length + 1)) ++ x :: Y.drop (r - (A.length + 1)), by simp, ?_, ?_⟩
      · have := (List.perm_middle (a := x) (l₁ := Y.take (r - (A.length + 1))) (l₂ := Y.drop (r - (A.length + 1))))
        rw [List.take_append_drop] at this; exact this
      · have hs := sY
        rw [← List.take_append_drop (r - (A.length + 1)) Y, List.pairwise_append] at hs
        refine List.pairwise_append.2 ⟨hs.1, List.pairwise_cons.2 ⟨?_, hs.2.1⟩, ?_⟩
        · intro y hy
          obtain ⟨i, i1, i2, rfl⟩ := drop_getD hy
          have h5 := r5 (A.length + 1 + i) (by omega) (by omega)
          rw [show A ++ ([x] ++ (Y ++ T)) = A ++ ([x] ++ (Y ++ T)) from rfl, dv_Y (by simp) (by simp; omega)] at h5
          simp only [List.length_cons, List.length_nil, Nat.zero_add, Nat.add_sub_cancel_left, decide_eq_false_iff_not] at h5
          have := hlt x (by simp) _ (getD_mem i2)
          unfold Lt; omega
        · intro y hy z hz'
          rcases List.mem_cons.1 hz' with rfl | h
          · obtain ⟨i, i1, i2, rfl⟩ := take_getD hy
            have h4 := r4 (A.length + 1 + i) (by omega) (by omega)
            rw [dv_Y (by simp) (by simp; omega)] at h4
            simp only [List.length_cons, List.length_nil, Nat.zero_add, Nat.add_sub_cancel_left, decide_eq_true_eq] at h4
            exact .inl h4
          · exact hs.2.2 y hy z h
    have hd1 : ¬ (w64 (m - a) == 1) = true := by rw [w64_id (by omega)]; simp; omega
    rw [if_neg hd1]
    by_cases c2 : Y.length = 1
    · obtain ⟨y, rfl⟩ := List.length_eq_one_iff.1 c2
      have hd : (w64 (b - m) == 1) = true := by rw [w64_id (by omega)]; simp; omega
      rw [if_pos hd, sym3_bs]
      obtain ⟨r, r1, r2, r3, r4, r5⟩ := bs_ok (fun k => !(decide (D y < D ((A ++ (X ++ ([y] ++ T))).getD k 0)))) (fun h => (gx (A ++ (X ++ ([y] ++ T))) m).bind fun u => (gx (A ++ (X ++ ([y] ++ T))) h).bind fun v => (FarePack_1_v1 u v l).bind fun c => some (!(decide (c < 0)))) fu A.length (A.length + X.length) (by omega) (by omega) (by omega)
        (by
          intro k k1 k2
          have hgm : gx (A ++ (X ++ ([y] ++ T))) m = some y := by
            rw [show A ++ (X ++ ([y] ++ T)) = (A ++ X) ++ y :: T by simp]; exact gx_mid (by rw [hm]; simp)
          rw [hgm, gx_dv (by omega)]
          obtain ⟨c, e1, e2⟩ := hC y ((A ++ (X ++ ([y] ++ T))).getD k 0) (vY y (by simp)) (by rw [dv_X k1 k2]; exact vX _ (getD_mem (by omega)))
          simp only [Option.bind_some, e1]
          congr 2; exact decide_eq_decide.2 e2)
        (by
          intro k k' k1 k2 k3 h
          simp only [Bool.not_eq_true', decide_eq_false_iff_not] at h ⊢
          rw [dv_X (by omega) k3] at h
          rw [dv_X k1 (by omega)]
          have := pw_le sX (i := k - A.length) (j := k' - A.length) (by omega) (by omega)
          omega)
      subst ha hm hb
      rw [r3]
      simp only [Option.bind_some]
      have hr : ((A ++ X.take (r - A.length)).length : Int) = (r : Int) := by simp; omega
      obtain ⟨j, hj⟩ := bub2 fu (X.drop (r - A.length)) (A ++ X.take (r - A.length)) T y (by simp; omega) (by simp; omega)
      have hr2 : (((A ++ X.take (r - A.length)).length + (X.drop (r - A.length)).length : Nat) : Int) = ((A.length + X.length : Nat) : Int) := by simp; omega
      rw [hr2, hr] at hj
      have hdd : A ++ (X ++ ([y] ++ T)) = (A ++ X.take (r - A.length)) ++ (X.drop (r - A.length) ++ y :: T) := by
        rw [List.append_assoc A, ← List.append_assoc (X.take _), List.take_append_drop]; rfl
      rw [hdd, hj]
      simp only [Option.bind_some]
      refine ⟨X.take (r - A.length) ++ y :: X.drop (r - A.length), by simp, ?_, ?_⟩
      · refine (List.perm_middle (a := y) (l₁ := X.take (r - A.length)) (l₂ := X.drop (r - A.length))).trans ?_
        rw [List.take_append_drop]
        exact (List.perm_append_comm (l₁ := [y]) (l₂ := X))
      · have hs := sX
        rw [← List.take_append_drop (r - A.length) X, List.pairwise_append] at hs
        refine List.pairwise_append.2 ⟨hs.1, List.pairwise_cons.2 ⟨?_, hs.2.1⟩, ?_⟩
        · intro x hx
          obtain ⟨i, i1, i2, rfl⟩ := drop_getD hx
          have h5 := r5 (A.length + i) (by omega) (by omega)
          rw [dv_X (by omega) (by omega)] at h5
          simp only [Nat.add_sub_cancel_left, Bool.not_eq_false', decide_eq_true_eq] at h5
          exact .inl h5
        · intro x hx z hz'
          rcases List.mem_cons.1 hz' with rfl | h
          · obtain ⟨i, i1, i2, rfl⟩ := take_getD hx
            have h4 := r4 (A.length + i) (by omega) (by omega)
            rw [dv_X (by omega) (by omega)] at h4
            simp only [Nat.add_sub_cancel_left, Bool.not_eq_true', decide_eq_false_iff_not] at h4
            have := hlt _ (getD_mem i2) z (by simp)
            unfold Lt; omega
          · exact hs.2.2 x hx z h
    have hd2 : ¬ (w64 (b - m) == 1) = true := by rw [w64_id (by omega)]; simp; omega
    rw [if_neg hd2]
    subst ha hm hb
    -- the middle
    have hmid := half_eq (a := A.length) (b := A.length + X.length + Y.length) (by omega)
    generalize hM : (A.length + (A.length + X.length + Y.length)) / 2 = mid at hmid
    simp only [sym5_bs, hmid, bnd_eq]
    obtain ⟨s0, r0, hpair, hcase⟩ : ∃ s0 r0 : Nat, (if decide (((A.length + X.length : Nat) : Int) > (mid : Int)) = true then (w64 (w64 ((mid : Int) + ((A.length + X.length : Nat) : Int)) - ((A.length + X.length + Y.length : Nat) : Int)), (mid : Int)) else ((A.length : Int), ((A.length + X.length : Nat) : Int))) = ((s0 : Int), (r0 : Int))
        ∧ ((mid < A.length + X.length ∧ s0 + (A.length + X.length + Y.length) = mid + (A.length + X.length) ∧ r0 = mid) ∨ (A.length + X.length ≤ mid ∧ s0 = A.length ∧ r0 = A.length + X.length)) := by
      by_cases h : mid < A.length + X.length
      · refine ⟨mid + (A.length + X.length) - (A.length + X.length + Y.length), mid, ?_, .inl ⟨h, by omega, rfl⟩⟩
        rw [if_pos (by simp; omega), w64_id (x := (mid : Int) + _) (by omega), w64_id (by omega)]
        congr 1; omega
      · refine ⟨A.length, A.length + X.length, ?_, .inr ⟨by omega, rfl, rfl⟩⟩
        rw [if_neg (by simp; omega)]
    have hq1 : w64 (w64 ((mid : Int) + ((A.length + X.length : Nat) : Int)) - 1) = ((mid + (A.length + X.length) - 1 : Nat) : Int) := by
      rw [w64_id (x := (mid : Int) + _) (by omega), w64_id (by omega)]; omega
    simp only [hpair, hq1]
    obtain ⟨r, r1, r2, r3, r4, r5⟩ := bs_ok (fun k => !(decide (D ((A ++ (X ++ (Y ++ T))).getD (mid + (A.length + X.length) - 1 - k) 0) < D ((A ++ (X ++ (Y ++ T))).getD k 0)))) (fun h => (gx (A ++ (X ++ (Y ++ T))) (w64 (((mid + (A.length + X.length) - 1 : Nat) : Int) - h))).bind fun u => (gx (A ++ (X ++ (Y ++ T))) h).bind fun v => (FarePack_1_v1 u v l).bind fun c => some (!(decide (c < 0)))) fu s0 r0 (by omega) (by omega) (by omega)
      (by
        intro k k1 k2
        have e0 : w64 (((mid + (A.length + X.length) - 1 : Nat) : Int) - (k : Int)) = ((mid + (A.length + X.length) - 1 - k : Nat) : Int) := by rw [w64_id (by omega)]; omega
        simp only [e0]
        rw [gx_dv (by omega), gx_dv (by omega)]
        obtain ⟨c, e1, e2⟩ := hC ((A ++ (X ++ (Y ++ T))).getD (mid + (A.length + X.length) - 1 - k) 0) ((A ++ (X ++ (Y ++ T))).getD k 0)
          (by rw [dv_Y (by omega) (by omega)]; exact vY _ (getD_mem (by omega))) (by rw [dv_X (by omega) (by omega)]; exact vX _ (getD_mem (by omega)))
        simp only [Option.bind_some, e1]
        congr 2; exact decide_eq_decide.2 e2)
      (by
        intro k k' k1 k2 k3 h
        simp only [Bool.not_eq_true', decide_eq_false_iff_not] at h ⊢
        rw [dv_Y (by omega) (by omega), dv_X (by omega) (by omega)] at h
        rw [dv_Y (by omega) (by omega), dv_X (by omega) (by omega)]
        have h1 := pw_le sX (i := k - A.length) (j := k' - A.length) (by omega) (by omega)
        have h2 := pw_le sY (i := mid + (A.length + X.length) - 1 - k' - (A.length + X.length)) (j := mid + (A.length + X.length) - 1 - k - (A.length + X.length)) (by omega) (by omega)
        omega)
    rw [r3]
    simp only [Option.bind_some]
    have he : w64 (w64 ((mid : Int) + ((A.length + X.length : Nat) : Int)) - (r : Int)) = ((mid + (A.length + X.length) - r : Nat) : Int) := by
      rw [w64_id (x := (mid : Int) + _) (by omega), w64_id (by omega)]; omega
    simp only [he]
    -- the four parts
    obtain ⟨X1, X2, eX, lX1⟩ : ∃ X1 X2, X = X1 ++ X2 ∧ A.length + X1.length = r := ⟨X.take (r - A.length), X.drop (r - A.length), (List.take_append_drop _ _).symm, by simp; omega⟩
    obtain ⟨Y1, Y2, eY, lY1⟩ : ∃ Y1 Y2, Y = Y1 ++ Y2 ∧ A.length + X.length + Y1.length = mid + (A.length + X.length) - r := ⟨Y.take (mid - r), Y.drop (mid - r), (List.take_append_drop _ _).symm, by simp; omega⟩
    have lXe : X.length = X1.length + X2.length := by rw [eX]; simp
    have lYe : Y.length = Y1.length + Y2.length := by rw [eY]; simp
    have sX' := sX; have sY' := sY
    rw [eX, List.pairwise_append] at sX'
    rw [eY, List.pairwise_append] at sY'
    have gX : ∀ i, i < X.length → (A ++ (X ++ (Y ++ T))).getD (A.length + i) 0 = X.getD i 0 := fun i hi => by rw [dv_X (by omega) (by omega)]; congr 1; omega
    have gY : ∀ i, i < Y.length → (A ++ (X ++ (Y ++ T))).getD (A.length + X.length + i) 0 = Y.getD i 0 := fun i hi => by rw [dv_Y (by omega) (by omega)]; congr 1; omega
    have q1 : ∀ x ∈ X1, ∀ y ∈ Y2, Lt D x y := by
      intro x hx y hy
      have hxX : x ∈ X := by rw [eX]; simp [hx]
      have hyY : y ∈ Y := by rw [eY]; simp [hy]
      have eX1 : X1 = X.take X1.length := by rw [eX]; simp
      have eY2 : Y2 = Y.drop Y1.length := by rw [eY]; simp
      rw [eX1] at hx; rw [eY2] at hy
      obtain ⟨i, i1, i2, rfl⟩ := take_getD hx
      obtain ⟨j, j1, j2, rfl⟩ := drop_getD hy
      have h4 := r4 (r - 1) (by omega) (by omega)
      simp only [Bool.not_eq_true', decide_eq_false_iff_not] at h4
      rw [show mid + (A.length + X.length) - 1 - (r - 1) = A.length + X.length + Y1.length by omega, gY _ (by omega), show r - 1 = A.length + (X1.length - 1) by omega, gX _ (by omega)] at h4
      have h1 := pw_le sX (i := i) (j := X1.length - 1) (by omega) (by omega)
      have h2 := pw_le sY (i := Y1.length) (j := j) (by omega) (by omega)
      have h3 := hlt _ hxX _ hyY
      unfold Lt; omega
    have q2 : ∀ y ∈ Y1, ∀ x ∈ X2, Lt D y x := by
      intro y hy x hx
      have eX2 : X2 = X.drop X1.length := by rw [eX]; simp
      have eY1 : Y1 = Y.take Y1.length := by rw [eY]; simp
      rw [eX2] at hx; rw [eY1] at hy
      obtain ⟨i, i1, i2, rfl⟩ := drop_getD hx
      obtain ⟨j, j1, j2, rfl⟩ := take_getD hy
      have h5 := r5 r (by omega) (by omega)
      simp only [Bool.not_eq_false', decide_eq_true_eq] at h5
      rw [show mid + (A.length + X.length) - 1 - r = A.length + X.length + (Y1.length - 1) by omega, gY _ (by omega), show r = A.length + X1.length by omega, gX _ (by omega)] at h5
      have h1 := pw_le sX (i := X1.length) (j := i) (by omega) (by omega)
      have h2 := pw_le sY (i := j) (j := Y1.length - 1) (by omega) (by omega)
      unfold Lt; omega
    -- the lower half
    obtain ⟨R1, s1, p1, w1⟩ : ∃ R1, (∀ k : List Int → Option (List Int), (if (if decide ((A.length : Int) < (r : Int)) = true then decide ((r : Int) < (mid : Int)) else false) = true then (SlicessymMergeCmpFuncint_v1 fu (A ++ (X1 ++ (Y1 ++ (X2 ++ (Y2 ++ T))))) (A.length : Int) (r : Int) (mid : Int) l).bind k else k (A ++ (X1 ++ (Y1 ++ (X2 ++ (Y2 ++ T)))))) = k (A ++ (R1 ++ (X2 ++ (Y2 ++ T))))) ∧ R1.Perm (X1 ++ Y1) ∧ R1.Pairwise (Lt D) := by
      by_cases hc : A.length < r ∧ r < mid
      · obtain ⟨R1, e1, e2, e3⟩ := sym_ok hC fu A X1 Y1 (X2 ++ (Y2 ++ T)) (A.length : Int) (r : Int) (mid : Int) rfl (by omega) (by omega) (by intro h; subst h; simp at lX1; omega) (by intro h; subst h; simp at lY1; omega) (by omega) (by omega)
          (fun x hx => vX x (by rw [eX]; simp [hx])) (fun y hy => vY y (by rw [eY]; simp [hy])) (fun x hx y hy => hlt x (by rw [eX]; simp [hx]) y (by rw [eY]; simp [hy])) sX'.1 sY'.1
        refine ⟨R1, fun k => ?_, e2, e3⟩
        rw [if_pos (by simp; omega), e1]; rfl
      · refine ⟨X1 ++ Y1, fun k => ?_, List.Perm.refl _, ?_⟩
        · rw [if_neg (by simp; omega)]; simp
        · rcases Nat.lt_or_ge A.length r with h | h
          · have : Y1 = [] := List.length_eq_zero_iff.1 (by omega)
            subst this; simpa using sX'.1
          · have : X1 = [] := List.length_eq_zero_iff.1 (by omega)
            subst this; simpa using sY'.1
    have lR1 : A.length + R1.length = mid := by have := p1.length_eq; simp at this; omega
    -- the upper half
    obtain ⟨R2, s2, p2, w2⟩ : ∃ R2, (if (if decide ((mid : Int) < ((mid + (A.length + X.length) - r : Nat) : Int)) = true then decide (((mid + (A.length + X.length) - r : Nat) : Int) < ((A.length + X.length + Y.length : Nat) : Int)) else false) = true then (SlicessymMergeCmpFuncint_v1 fu (A ++ (R1 ++ (X2 ++ (Y2 ++ T)))) (mid : Int) ((mid + (A.length + X.length) - r : Nat) : Int) ((A.length + X.length + Y.length : Nat) : Int) l).bind (fun q => some q) else some (A ++ (R1 ++ (X2 ++ (Y2 ++ T))))) = some (A ++ ((R1 ++ R2) ++ T)) ∧ R2.Perm (X2 ++ Y2) ∧ R2.Pairwise (Lt D) := by
      by_cases hc : mid < mid + (A.length + X.length) - r ∧ mid + (A.length + X.length) - r < A.length + X.length + Y.length
      · obtain ⟨R2, e1, e2, e3⟩ := sym_ok hC fu (A ++ R1) X2 Y2 T (mid : Int) ((mid + (A.length + X.length) - r : Nat) : Int) ((A.length + X.length + Y.length : Nat) : Int) (by simp; omega) (by simp; omega) (by simp; omega) (by intro h; subst h; simp at lXe; omega) (by intro h; subst h; simp at lYe; omega) (by omega) (by simp; omega)
          (fun x hx => vX x (by rw [eX]; simp [hx])) (fun y hy => vY y (by rw [eY]; simp [hy])) (fun x hx y hy => hlt x (by rw [eX]; simp [hx]) y (by rw [eY]; simp [hy])) sX'.2.1 sY'.2.1
        refine ⟨R2, ?_, e2, e3⟩
        rw [if_pos (by simp; omega), show A ++ (R1 ++ (X2 ++ (Y2 ++ T))) = (A ++ R1) ++ (X2 ++ (Y2 ++ T)) by simp, e1]; simp
      · refine ⟨X2 ++ Y2, ?_, List.Perm.refl _, ?_⟩
        · rw [if_neg (by simp; omega)]; simp
        · rcases Nat.lt_or_ge mid (mid + (A.length + X.length) - r) with h | h
          · have : Y2 = [] := List.length_eq_zero_iff.1 (by omega)
            subst this; simpa using sX'.2.1
          · have : X2 = [] := List.length_eq_zero_iff.1 (by omega)
            subst this; simpa using sY'.2.1
    refine ⟨R1 ++ R2, ?_, ?_, ?_⟩
    · have hs := s1 (fun q => if (if decide ((mid : Int) < ((mid + (A.length + X.length) - r : Nat) : Int)) = true then decide (((mid + (A.length + X.length) - r : Nat) : Int) < ((A.length + X.length + Y.length : Nat) : Int)) else false) = true then (SlicessymMergeCmpFuncint_v1 fu q (mid : Int) ((mid + (A.length + X.length) - r : Nat) : Int) ((A.length + X.length + Y.length : Nat) : Int) l).bind (fun q => some q) else some q)
      have hs2 := hs.trans s2
      by_cases hc : r < A.length + X.length ∧ A.length + X.length < mid + (A.length + X.length) - r
      · rw [if_pos (by simp; omega)]
        have hro := rot_ok (l := l) (fu := fu) (A := A ++ X1) (X := X2) (Y := Y1) (T := Y2 ++ T) (a := (r : Int)) (m := ((A.length + X.length : Nat) : Int)) (b := ((mid + (A.length + X.length) - r : Nat) : Int)) (by intro h; subst h; simp at lXe; omega) (by intro h; subst h; simp at lY1; omega) (by omega) (by simp; omega) (by simp; omega) (by simp; omega) (by simp; omega)
        have hdd : A ++ (X ++ (Y ++ T)) = (A ++ X1) ++ (X2 ++ (Y1 ++ (Y2 ++ T))) := by rw [eX, eY]; simp
        rw [hdd, hro, Option.bind_some, show (A ++ X1) ++ (Y1 ++ (X2 ++ (Y2 ++ T))) = A ++ (X1 ++ (Y1 ++ (X2 ++ (Y2 ++ T)))) by simp]
        exact hs2
      · rw [if_neg (by simp; omega)]
        have hdd : A ++ (X ++ (Y ++ T)) = A ++ (X1 ++ (Y1 ++ (X2 ++ (Y2 ++ T)))) := by
          rw [eX, eY]
          rcases Nat.lt_or_ge r (A.length + X.length) with h | h
          · have : Y1 = [] := List.length_eq_zero_iff.1 (by omega)
            subst this; simp
          · have : X2 = [] := List.length_eq_zero_iff.1 (by omega)
            subst this; simp
        rw [hdd]
        exact hs2
    · refine (p1.append p2).trans ?_
      rw [eX, eY]
      have : (Y1 ++ (X2 ++ Y2)).Perm (X2 ++ (Y1 ++ Y2)) := by
        rw [← List.append_assoc, ← List.append_assoc]; exact List.perm_append_comm.append_right _
      simpa using this.append_left X1
    · refine List.pairwise_append.2 ⟨w1, w2, ?_⟩
      intro x hx y hy
      rcases List.mem_append.1 (p1.subset hx) with h1 | h1 <;> rcases List.mem_append.1 (p2.subset hy) with h2 | h2
      · exact sX'.2.2 x h1 y h2
      · exact q1 x h1 y h2
      · exact q2 x h1 y h2
      · exact sY'.2.2 x h1 y h2

/-- blocks of k, each in order, the last perhaps shorter; what stands in an earlier block came earlier -/
inductive Bl (D : Int → Int) (k : Nat) : List Int → Prop where
  | last (L : List Int) : L.length ≤ k → L.Pairwise (Lt D) → Bl D k L
  | cons (B L : List Int) : B.length = k → B.Pairwise (Lt D) → (∀ x ∈ B, ∀ y ∈ L, x < y) → Bl D k L → Bl D k (B ++ L)

theorem blocks (hC : ∀ x y, V x → V y → ∃ c, FarePack_1_v1 x y l = some c ∧ (c < 0 ↔ D x < D y)) {fu : Nat} (hf : 30 ≤ fu) : ∀ (m : Nat) (A L : List Int), L.length < m → A.length + L.length ≤ 100000 → (∀ y ∈ L, V y) → L.Pairwise (· < ·) →
    ∃ a b q L', SlicesstableCmpFuncint_v1.loop1 ((A.length + L.length : Nat) : Int) l fu m (A.length : Int) ((A.length + 20 : Nat) : Int) (A ++ L) = some (a, b, q) ∧ SlicesinsertionSortCmpFuncint_v1 fu q a ((A.length + L.length : Nat) : Int) l = some (A ++ L') ∧ L'.Perm L ∧ Bl D 20 L'
  | 0, _, _, h, _, _, _ => absurd h (by omega)
  | m + 1, A, L, h, hb, hV, hu => by
    rw [SlicesstableCmpFuncint_v1.loop1]
    by_cases c : L.length < 20
    · have d : decide (((A.length + 20 : Nat) : Int) ≤ ((A.length + L.length : Nat) : Int)) = false := by simp; omega
      obtain ⟨R, r1, r2, r3⟩ := ins_ok hC (fu := fu) (A := A) (X := L) (T := []) (by omega) (by omega) hV hu
      simp only [List.append_nil] at r1
      exact ⟨_, _, _, R, by rw [d]; rfl, r1, r2, .last R (by rw [r2.length_eq]; omega) r3⟩
    · obtain ⟨B, L1, rfl, lB⟩ : ∃ B L1, L = B ++ L1 ∧ B.length = 20 := ⟨L.take 20, L.drop 20, (List.take_append_drop _ _).symm, by simp; omega⟩
      simp only [List.length_append] at h hb c
      rw [List.pairwise_append] at hu
      have d : decide (((A.length + 20 : Nat) : Int) ≤ ((A.length + (B ++ L1).length : Nat) : Int)) = true := by simp; omega
      obtain ⟨R, r1, r2, r3⟩ := ins_ok hC (fu := fu) (A := A) (X := B) (T := L1) (by omega) (by omega) (fun y hy => hV y (by simp [hy])) hu.1
      have lR : R.length = 20 := by rw [r2.length_eq, lB]
      obtain ⟨a, b, q, L', e1, e2, e3, e4⟩ := blocks hC hf m (A ++ R) L1 (by omega) (by simp; omega) (fun y hy => hV y (by simp [hy])) hu.2.1
      have x1 : ((A.length + 20 : Nat) : Int) = ((A.length + B.length : Nat) : Int) := by rw [lB]
      have x2 : w64 (((A.length + B.length : Nat) : Int) + 20) = (((A ++ R).length + 20 : Nat) : Int) := by rw [w64_id (by omega)]; simp; omega
      have x3 : ((A.length + B.length : Nat) : Int) = ((A ++ R).length : Int) := by simp; omega
      have x4 : ((A.length + (B ++ L1).length : Nat) : Int) = (((A ++ R).length + L1.length : Nat) : Int) := by simp; omega
      refine ⟨a, b, q, R ++ L', ?_, ?_, r2.append e3, .cons R L' lR r3 (fun x hx y hy => hu.2.2 x (r2.subset hx) y (e3.subset hy)) e4⟩
      · rw [d, x1, r1]
        simp only [if_true, Option.bind_some]
        rw [x2, x3, x4, ← List.append_assoc]; exact e1
      · rw [x4, e2, List.append_assoc]

theorem merges (hC : ∀ x y, V x → V y → ∃ c, FarePack_1_v1 x y l = some c ∧ (c < 0 ↔ D x < D y)) {fu : Nat} {k : Nat} (hk : 1 ≤ k) (hk2 : k ≤ 100000) : ∀ (m : Nat) (A L : List Int), L.length < m → L.length + 3 ≤ fu → A.length + L.length ≤ 100000 → (∀ y ∈ L, V y) → Bl D k L →
    ∃ a b q L', SlicesstableCmpFuncint_v1.loop3 ((A.length + L.length : Nat) : Int) l fu (k : Int) m (A.length : Int) ((A.length + 2 * k : Nat) : Int) (A ++ L) = some (a, b, q) ∧ (if decide (w64 (a + (k : Int)) < ((A.length + L.length : Nat) : Int)) then SlicessymMergeCmpFuncint_v1 fu q a (w64 (a + (k : Int))) ((A.length + L.length : Nat) : Int) l else some q) = some (A ++ L') ∧ L'.Perm L ∧ Bl D (2 * k) L'
  | 0, _, _, h, _, _, _, _ => absurd h (by omega)
  | m + 1, A, L, h, hf, hb, hV, hB => by
    have wk : ∀ n : Nat, n ≤ 300000 → w64 ((n : Int) + (k : Int)) = ((n + k : Nat) : Int) := fun n hn => by rw [w64_id (by omega)]; omega
    have w2 : w64 (2 * (k : Int)) = ((2 * k : Nat) : Int) := by rw [w64_id (by omega)]; omega
    rw [SlicesstableCmpFuncint_v1.loop3]
    cases hB with
    | last L hl hs =>
      have d : decide (((A.length + 2 * k : Nat) : Int) ≤ ((A.length + L.length : Nat) : Int)) = false := by simp; omega
      have d2 : decide (((A.length + k : Nat) : Int) < ((A.length + L.length : Nat) : Int)) = false := by simp; omega
      refine ⟨_, _, _, L, by rw [d]; rfl, ?_, .refl _, .last L (by omega) hs⟩
      rw [wk _ (by omega), d2]; rfl
    | cons B L1 lB sB hx hB =>
      simp only [List.length_append] at h hf hb
      cases hB with
      | last _ hl hs =>
        by_cases c0 : L1 = []
        · subst c0
          have d : decide (((A.length + 2 * k : Nat) : Int) ≤ ((A.length + (B ++ []).length : Nat) : Int)) = false := by simp; omega
          have d2 : decide (((A.length + k : Nat) : Int) < ((A.length + (B ++ []).length : Nat) : Int)) = false := by simp; omega
          refine ⟨_, _, _, B, by rw [d]; rfl, ?_, by simp, .last B (by omega) sB⟩
          rw [wk _ (by omega), d2, List.append_nil]; rfl
        · have lp : 0 < L1.length := List.length_pos_iff.2 c0
          obtain ⟨R, r1, r2, r3⟩ := sym_ok hC fu A B L1 [] (A.length : Int) ((A.length + k : Nat) : Int) ((A.length + (B ++ L1).length : Nat) : Int) rfl (by rw [lB]) (by simp; omega) (by intro e; subst e; simp at lB; omega) c0 (by omega) (by omega) (fun y hy => hV y (by simp [hy])) (fun y hy => hV y (by simp [hy])) hx sB hs
          simp only [List.append_nil] at r1
          have lR : R.length = k + L1.length := by rw [r2.length_eq]; simp [lB]
          by_cases c : L1.length = k
          · have d : decide (((A.length + 2 * k : Nat) : Int) ≤ ((A.length + (B ++ L1).length : Nat) : Int)) = true := by simp; omega
            have x1 : ((A.length + (B ++ L1).length : Nat) : Int) = ((A.length + 2 * k : Nat) : Int) := by simp; omega
            obtain ⟨m, rfl⟩ : ∃ m', m = m' + 1 := ⟨m - 1, by omega⟩
            have x2 : w64 (((A.length + 2 * k : Nat) : Int) + w64 (2 * (k : Int))) = ((A.length + 4 * k : Nat) : Int) := by rw [w2, w64_id (by omega)]; omega
            have d2 : decide (((A.length + 4 * k : Nat) : Int) ≤ ((A.length + 2 * k : Nat) : Int)) = false := by simp; omega
            have d3 : decide (((A.length + 2 * k + k : Nat) : Int) < ((A.length + 2 * k : Nat) : Int)) = false := by simp; omega
            refine ⟨((A.length + 2 * k : Nat) : Int), ((A.length + 4 * k : Nat) : Int), A ++ R, R, ?_, ?_, r2, .last R (by omega) r3⟩
            · rw [d, wk _ (by omega)]
              rw [x1] at r1 ⊢
              simp only [if_true, r1, Option.bind_some, SlicesstableCmpFuncint_v1.loop3, x2, d2, Bool.false_eq_true, if_false]
            · rw [wk _ (by omega), x1, d3]; rfl
          · have d : decide (((A.length + 2 * k : Nat) : Int) ≤ ((A.length + (B ++ L1).length : Nat) : Int)) = false := by simp; omega
            have d2 : decide (((A.length + k : Nat) : Int) < ((A.length + (B ++ L1).length : Nat) : Int)) = true := by simp; omega
            refine ⟨_, _, _, R, by rw [d]; rfl, ?_, r2, .last R (by omega) r3⟩
            rw [wk _ (by omega), d2]; exact r1
      | cons B2 L2 lB2 sB2 hx2 hB2 =>
        simp only [List.length_append] at h hf hb
        obtain ⟨R, r1, r2, r3⟩ := sym_ok hC fu A B B2 L2 (A.length : Int) ((A.length + k : Nat) : Int) ((A.length + 2 * k : Nat) : Int) rfl (by rw [lB]) (by omega) (by intro e; subst e; simp at lB; omega) (by intro e; subst e; simp at lB2; omega) (by omega) (by omega) (fun y hy => hV y (by simp [hy])) (fun y hy => hV y (by simp [hy])) (fun x hx' y hy => hx x hx' y (by simp [hy])) sB sB2
        have lR : R.length = 2 * k := by rw [r2.length_eq]; simp [lB, lB2]; omega
        obtain ⟨a, b, q, L', e1, e2, e3, e4⟩ := merges (fu := fu) hC hk hk2 m (A ++ R) L2 (by omega) (by omega) (by simp; omega) (fun y hy => hV y (by simp [hy])) hB2
        have d : decide (((A.length + 2 * k : Nat) : Int) ≤ ((A.length + (B ++ (B2 ++ L2)).length : Nat) : Int)) = true := by simp; omega
        have x1 : ((A.length + (B ++ (B2 ++ L2)).length : Nat) : Int) = (((A ++ R).length + L2.length : Nat) : Int) := by simp; omega
        have x2 : w64 (((A.length + 2 * k : Nat) : Int) + w64 (2 * (k : Int))) = (((A ++ R).length + 2 * k : Nat) : Int) := by rw [w2, w64_id (by omega)]; simp; omega
        have x3 : ((A.length + 2 * k : Nat) : Int) = ((A ++ R).length : Int) := by simp; omega
        refine ⟨a, b, q, R ++ L', ?_, ?_, ?_, .cons R L' lR r3 ?_ e4⟩
        · rw [d, wk _ (by omega)]
          simp only [if_true] at r1 ⊢
          rw [r1, Option.bind_some, x2, x3, x1, ← List.append_assoc]; exact e1
        · rw [x1, e2, List.append_assoc]
        · rw [← List.append_assoc]; exact r2.append e3
        · intro x hx' y hy
          rcases List.mem_append.1 (r2.subset hx') with h1 | h1
          · exact hx x h1 y (by simp [e3.subset hy])
          · exact hx2 x h1 y (e3.subset hy)

theorem Bl.sorted {k : Nat} : ∀ {L : List Int}, Bl D k L → L.length ≤ k → L.Pairwise (Lt D)
  | _, .last _ _ h, _ => h
  | _, .cons B L lB sB _ _, h => by
    simp only [List.length_append] at h
    obtain rfl : L = [] := List.length_eq_zero_iff.1 (by omega)
    simpa using sB

theorem doubles (hC : ∀ x y, V x → V y → ∃ c, FarePack_1_v1 x y l = some c ∧ (c < 0 ↔ D x < D y)) {fu : Nat} : ∀ (m : Nat) (k : Nat) (L : List Int), 1 ≤ k → k ≤ 200000 → L.length < k + m → L.length + 3 ≤ fu → 0 < m → L.length ≤ 100000 → (∀ y ∈ L, V y) → Bl D k L →
    ∃ b R, SlicesstableCmpFuncint_v1.loop2 (L.length : Int) l fu m (k : Int) L = some (b, R) ∧ R.Perm L ∧ R.Pairwise (Lt D)
  | 0, _, _, _, _, _, _, h, _, _, _ => absurd h (by omega)
  | m + 1, k, L, hk, hk2, h, hf, _, hb, hV, hB => by
    rw [SlicesstableCmpFuncint_v1.loop2]
    by_cases c : k < L.length
    · have d : decide ((k : Int) < (L.length : Int)) = true := by simp; omega
      obtain ⟨a, b, q, L', e1, e2, e3, e4⟩ := merges hC hk (by omega) fu [] L (by omega) hf (by simp; omega) hV hB
      have lL := e3.length_eq
      obtain ⟨b', R, f1, f2, f3⟩ := doubles (fu := fu) hC m (2 * k) L' (by omega) (by omega) (by omega) (by omega) (by omega) (by omega) (fun y hy => hV y (e3.subset hy)) e4
      have w1 : w64 (2 * (k : Int)) = ((2 * k : Nat) : Int) := by rw [w64_id (by omega)]; omega
      have w2 : w64 ((k : Int) * 2) = ((2 * k : Nat) : Int) := by rw [w64_id (by omega)]; omega
      simp only [List.nil_append, List.length_nil, Nat.zero_add] at e1 e2
      have z : (0 : Int) = ((0 : Nat) : Int) := rfl
      refine ⟨b', R, ?_, f2.trans e3, f3⟩
      rw [d, w1, w2]
      rw [z, e1]
      simp only [if_true, Option.bind_some]
      rw [← lL] at e2 ⊢
      split at e2
      · rename_i g; rw [if_pos g, e2]; exact f1
      · rename_i g; rw [if_neg g]; cases e2; exact f1
    · have d : decide ((k : Int) < (L.length : Int)) = false := by simp; omega
      exact ⟨_, L, by rw [d]; rfl, .refl _, hB.sorted (by omega)⟩

theorem stable_ok (hC : ∀ x y, V x → V y → ∃ c, FarePack_1_v1 x y l = some c ∧ (c < 0 ↔ D x < D y)) {fu : Nat} {X : List Int} (hf : X.length + 60 ≤ fu) (hn : X.length ≤ 100000) (hV : ∀ y ∈ X, V y) (hu : X.Pairwise (· < ·)) :
    ∃ R, SlicesSortStableFuncLint_v1 fu X l = some R ∧ R.Perm X ∧ R.Pairwise (Lt D) := by
  unfold SlicesSortStableFuncLint_v1 SlicesstableCmpFuncint_v1
  obtain ⟨a, b, q, L', e1, e2, e3, e4⟩ := blocks hC (fu := fu) (by omega) fu [] X (by omega) (by simp; omega) hV hu
  have lL := e3.length_eq
  obtain ⟨b', R, f1, f2, f3⟩ := doubles hC (fu := fu) fu 20 L' (by omega) (by omega) (by omega) (by omega) (by omega) (by omega) (fun y hy => hV y (e3.subset hy)) e4
  simp only [List.nil_append, List.length_nil, Nat.zero_add] at e1 e2
  rw [lL] at f1
  have z : (0 : Int) = ((0 : Nat) : Int) := rfl
  have z2 : (20 : Int) = ((20 : Nat) : Int) := rfl
  refine ⟨R, ?_, f2.trans e3, f3⟩
  rw [z, z2, e1]
  simp only [Option.bind_some]
  rw [e2, Option.bind_some, f1]; rfl
end stable
theorem within_iff (x a b : Int) : Farewithin x a b = decide (a ≤ x ∧ x ≤ b) := by
  unfold Farewithin bnd
  by_cases h : a ≤ x <;> simp [h]
def rng (n : Nat) : List Int := (List.range n).map fun (i : Nat) => (i : Int)
theorem rng_len (n : Nat) : (rng n).length = n := by simp [rng]
theorem rng_mem (n : Nat) (x : Int) : x ∈ rng n ↔ 0 ≤ x ∧ x < n := by
  simp only [rng, List.mem_map, List.mem_range]
  constructor
  · rintro ⟨i, h, rfl⟩; omega
  · intro h; exact ⟨x.toNat, by omega, by omega⟩
theorem rng_lt (n : Nat) : (rng n).Pairwise (· < ·) := by
  unfold rng
  rw [List.pairwise_map]
  exact List.pairwise_lt_range.imp (by intro a b h; omega)
/-- span number x -/
def sp (l : List FareSpan) (x : Int) : FareSpan := l.getD x.toNat default
def fr (l : List FareSpan) (x : Int) : Int := (sp l x).From
theorem gx_sp {l : List FareSpan} {x : Int} (h : 0 ≤ x ∧ x < l.length) : gx l x = some (sp l x) := by
  unfold gx sp
  rw [if_pos h.1, List.getD_eq_getElem?_getD, List.getElem?_eq_getElem (by omega)]; rfl
theorem cmp_fr (l : List FareSpan) (x y : Int) (hx : 0 ≤ x ∧ x < l.length) (hy : 0 ≤ y ∧ y < l.length) : ∃ c, FarePack_1_v1 x y l = some c ∧ (c < 0 ↔ fr l x < fr l y) := by
  unfold FarePack_1_v1
  rw [gx_sp hx, gx_sp hy]
  refine ⟨_, rfl, ?_⟩
  unfold CmpCompareint CmpisNaNint fr
  simp only [bne_self_eq_false, Bool.false_eq_true, if_false]
  generalize (sp l x).From = a
  generalize (sp l y).From = b
  by_cases h1 : a < b
  · simp [h1]
  · by_cases h2 : a > b <;> simp [h1, h2]

/-! the spans looked at, and the numbers laid out -/
theorem pack1 (z : Int) : ∀ (r : List FareSpan) (k : Nat),
    (FarePack.loop1 z r k (rng k ++ List.replicate r.length 0) = some (.ret ([], 2)) ∧ Fishref2PackOf.loop1 z r = .ret ([], 2)) ∨
    (FarePack.loop1 z r k (rng k ++ List.replicate r.length 0) = some (.next (rng (k + r.length))) ∧ Fishref2PackOf.loop1 z r = .next () ∧ ∀ s ∈ r, 0 ≤ s.From ∧ s.From < s.To ∧ s.To < z)
  | [], k => .inr ⟨by simp [FarePack.loop1], rfl, by simp⟩
  | x :: r, k => by
    have h1 : ix (rng k ++ 0 :: List.replicate r.length 0) ((k : Nat) : Int) = some () := ix_mid (by rw [rng_len])
    have h2 : sx (rng k ++ 0 :: List.replicate r.length 0) ((k : Nat) : Int) ((k : Nat) : Int) = some (rng k ++ (k : Int) :: List.replicate r.length 0) := sx_mid (by rw [rng_len])
    have h3 : rng k ++ (k : Int) :: List.replicate r.length 0 = rng (k + 1) ++ List.replicate r.length 0 := by
      simp [rng, List.range_succ]
    rw [List.length_cons, List.replicate_succ, FarePack.loop1, Fishref2PackOf.loop1]
    have e1 : Farespan x.From x.To z = decide (0 ≤ x.From ∧ x.From < x.To ∧ x.To < z) := by
      unfold Farespan bnd
      by_cases a : 0 ≤ x.From <;> by_cases b : x.From < x.To <;> simp [a, b]
    have e2 : (if decide (x.From < 0) = true then true else if decide (x.From ≥ x.To) = true then true else decide (x.To ≥ z)) = !(decide (0 ≤ x.From ∧ x.From < x.To ∧ x.To < z)) := by
      by_cases a : x.From < 0 <;> by_cases b : x.From ≥ x.To <;> by_cases c : x.To ≥ z <;> simp [a, b, c] <;> omega
    simp only [e1, e2, bnd_eq]
    by_cases c : 0 ≤ x.From ∧ x.From < x.To ∧ x.To < z
    · simp only [decide_eq_true c, Bool.not_true, Bool.false_eq_true, if_false, h1, h2, h3, Option.bind_some]
      rw [show k + (r.length + 1) = k + 1 + r.length by omega]
      rcases pack1 z r (k + 1) with ⟨a, b⟩ | ⟨a, b, d⟩
      · exact .inl ⟨a, b⟩
      · refine .inr ⟨a, b, fun s hs => ?_⟩
        rcases List.mem_cons.1 hs with rfl | hs
        · exact c
        · exact d s hs
    · simp only [decide_eq_false c, Bool.not_false, if_true]
      exact .inl ⟨trivial, trivial⟩

/-! the reference goes through the spans in the same order -/
def rfold (l : List FareSpan) (m : Int) (fu : Nat) : List Int → List Int → Option (Out ((List Int) × Int) (List Int))
  | [], q => some (.next q)
  | i :: r, q => (Fishref2PackOf.loop5 l q (sp l i) fu 0 0).bind fun p => if decide (p.1 ≥ m) then some (.ret ([], 14)) else (ix q i).bind fun _ => (sx q i p.1).bind fun x => rfold l m fu r x
theorem rfold_append (l : List FareSpan) (m : Int) (fu : Nat) : ∀ (a b q : List Int), rfold l m fu (a ++ b) q = (rfold l m fu a q).bind fun o => match o with | .ret e => some (.ret e) | .next q => rfold l m fu b q
  | [], b, q => rfl
  | i :: a, b, q => by
    simp only [List.cons_append, rfold]
    cases Fishref2PackOf.loop5 l q (sp l i) fu 0 0 with
    | none => rfl
    | some p =>
      simp only [Option.bind_some]
      split
      · rfl
      · cases ix q i with
        | none => rfl
        | some _ =>
          simp only [Option.bind_some]
          cases sx q i p.1 with
          | none => rfl
          | some x => simp only [Option.bind_some]; exact rfold_append l m fu a b x
/-- the numbers from k on, of those that leave at t -/
def idx (l : List FareSpan) (t : Int) (k n : Nat) : List Int := ((List.range' k n).map fun (i : Nat) => (i : Int)).filter fun x => fr l x == t
theorem idx_mem {l : List FareSpan} {t : Int} {k n : Nat} {x : Int} : x ∈ idx l t k n ↔ ((k : Int) ≤ x ∧ x < k + n) ∧ fr l x = t := by
  simp only [idx, List.mem_filter, List.mem_map, List.mem_range'_1, beq_iff_eq]
  constructor
  · rintro ⟨⟨i, h, rfl⟩, e⟩; exact ⟨by omega, e⟩
  · rintro ⟨h, e⟩; exact ⟨⟨x.toNat, by omega, by omega⟩, e⟩
theorem idx_pw (l : List FareSpan) (t : Int) (k n : Nat) : (idx l t k n).Pairwise (Lt (fr l)) := by
  have h : (idx l t k n).Pairwise (· < ·) := by
    unfold idx
    refine List.Pairwise.filter _ ?_
    rw [List.pairwise_map]
    exact (List.pairwise_lt_range' (s := k) (n := n)).imp (by intro a b h; omega)
  refine h.imp_of_mem fun {a b} ha hb hab => .inr ⟨?_, hab⟩
  rw [(idx_mem.1 ha).2, (idx_mem.1 hb).2]
theorem fold4 (l : List FareSpan) (m : Int) (fu : Nat) (t : Int) : ∀ (r A : List FareSpan) (q : List Int), l = A ++ r → Fishref2PackOf.loop4 l m fu t r A.length q = rfold l m fu (idx l t A.length r.length) q
  | [], A, q, _ => rfl
  | s :: r, A, q, h => by
    have hs : sp l (A.length : Int) = s := by subst h; simp [sp]
    have ih := fold4 l m fu t r (A ++ [s]) 
    have hl : l = A ++ [s] ++ r := by simpa using h
    rw [show (A ++ [s]).length = A.length + 1 by simp] at ih
    rw [Fishref2PackOf.loop4, List.length_cons]
    have hi : idx l t A.length (r.length + 1) = if fr l (A.length : Int) == t then (A.length : Int) :: idx l t (A.length + 1) r.length else idx l t (A.length + 1) r.length := by
      unfold idx
      rw [List.range'_succ, List.map_cons, List.filter_cons]
    have hf : fr l (A.length : Int) = s.From := by unfold fr; rw [hs]
    rw [hi, hf]
    by_cases c : s.From = t
    · have c1 : (s.From != t) = false := by simp [c]
      have c2 : (s.From == t) = true := by simp [c]
      rw [c1, c2]
      simp only [Bool.false_eq_true, if_false, if_true, rfold, hs]
      refine congrArg _ (funext fun p => ?_)
      obtain ⟨a, b⟩ := p
      dsimp only
      split
      · rfl
      · refine congrArg _ (funext fun _ => congrArg _ (funext fun x => ih x hl))
    · have c1 : (s.From != t) = true := by simpa using c
      have c2 : (s.From == t) = false := by simpa using c
      rw [c1, c2]
      simp only [Bool.false_eq_true, if_false, if_true]
      exact ih q hl
def allx (l : List FareSpan) : Nat → Nat → List Int
  | 0, _ => []
  | d + 1, k => idx l (k : Int) 0 l.length ++ allx l d (k + 1)
theorem allx_mem (l : List FareSpan) : ∀ (d k : Nat) (x : Int), x ∈ allx l d k ↔ (0 ≤ x ∧ x < l.length) ∧ (k : Int) ≤ fr l x ∧ fr l x < k + d
  | 0, k, x => by simp [allx]
  | d + 1, k, x => by
    simp only [allx, List.mem_append, allx_mem l d (k + 1), idx_mem]
    omega
theorem allx_pw (l : List FareSpan) : ∀ (d k : Nat), (allx l d k).Pairwise (Lt (fr l))
  | 0, _ => .nil
  | d + 1, k => by
    rw [allx, List.pairwise_append]
    refine ⟨idx_pw _ _ _ _, allx_pw l d (k + 1), fun x hx y hy => .inl ?_⟩
    have h1 := (idx_mem.1 hx).2
    have h2 := ((allx_mem l d (k + 1) y).1 hy).2.1
    omega
theorem fold3 (l : List FareSpan) (m : Int) (fu : Nat) : ∀ (n d k : Nat) (q : List Int), d < n → k + d ≤ 100 → Fishref2PackOf.loop3 l m ((k + d : Nat) : Int) fu n (k : Int) q = (rfold l m fu (allx l d k) q).map fun o => match o with | .ret e => .ret e | .next q => .next (((k + d : Nat) : Int), q)
  | 0, _, _, _, h, _ => absurd h (by omega)
  | n + 1, 0, k, q, _, _ => by
    rw [Fishref2PackOf.loop3]
    simp [allx, rfold]
  | n + 1, d + 1, k, q, h, h2 => by
    rw [Fishref2PackOf.loop3]
    have c : decide ((k : Int) < ((k + (d + 1) : Nat) : Int)) = true := by simp; omega
    have w : w64 ((k : Int) + 1) = ((k + 1 : Nat) : Int) := by rw [w64_id (by omega)]; omega
    have f4 := fold4 l m fu (k : Int) l [] q rfl
    simp only [List.length_nil] at f4
    simp only [c, if_true, w, f4, allx, rfold_append]
    rw [show k + (d + 1) = k + 1 + d by omega]
    cases rfold l m fu (idx l (k : Int) 0 l.length) q with
    | none => rfl
    | some o =>
      cases o with
      | ret e => rfl
      | next q => simp only [Option.bind_some]; exact fold3 l m fu n d (k + 1) q (by omega) (by omega)
theorem rep_ok {n : Nat} (h : n ≤ 200) : SlicesRepeatLint 20060 [(-1)] (n : Int) = some (List.replicate n (-1)) := by
  have : ∀ k : Fin 201, SlicesRepeatLint 20060 [(-1)] ((k.val : Nat) : Int) = some (List.replicate k.val (-1)) := by decide +kernel
  exact this ⟨n, by omega⟩
/-! the first seat that is free -/
theorem seat_ok (l : List FareSpan) {i : Int} (hi : 0 ≤ i ∧ i < l.length) : ∀ (F : List Int) (k : Nat),
    (SlicesIndexFuncLint_v1.loop1 l i F k = some (.next ()) ∧ ∀ s < F.length, fr l i < F.getD s 0) ∨
    (∃ s, SlicesIndexFuncLint_v1.loop1 l i F k = some (.ret ((k + s : Nat) : Int)) ∧ s < F.length ∧ F.getD s 0 ≤ fr l i ∧ ∀ j < s, fr l i < F.getD j 0)
  | [], k => .inl ⟨rfl, by simp⟩
  | x :: F, k => by
    rw [SlicesIndexFuncLint_v1.loop1]
    simp only [FarePack_2_v1, gx_sp hi, Option.bind_some]
    by_cases c : x ≤ fr l i
    · have d : decide (x ≤ (sp l i).From) = true := decide_eq_true c
      rw [d]
      exact .inr ⟨0, rfl, by simp, by simpa using c, by simp⟩
    · have d : decide (x ≤ (sp l i).From) = false := decide_eq_false c
      rw [d]
      simp only [Bool.false_eq_true, if_false]
      have z0 : fr l i < (x :: F).getD 0 0 := by simp; omega
      rcases seat_ok l hi F (k + 1) with ⟨a, b⟩ | ⟨s, a, b, e, f⟩
      · refine .inl ⟨a, fun s hs => ?_⟩
        cases s with
        | zero => exact z0
        | succ s => simpa using b s (by simpa using hs)
      · refine .inr ⟨s + 1, by rw [a]; congr 3; omega, by simpa using b, by simpa using e, fun j hj => ?_⟩
        cases j with
        | zero => exact z0
        | succ j => simpa using f j (by omega)
/-- seat s is taken at i -/
def cf (l : List FareSpan) (q : List Int) (i : Int) (s : Nat) : Prop := ∃ k : Nat, k < l.length ∧ q.getD k 0 = (s : Int) ∧ fr l k < (sp l i).To ∧ fr l i < (sp l k).To
def tk (l : List FareSpan) (q : List Int) (i : Int) (s k : Nat) : Prop := q.getD k 0 = (s : Int) ∧ fr l k < (sp l i).To ∧ fr l i < (sp l k).To
theorem gx_d {q : List Int} {k : Nat} (h : k < q.length) : gx q ((k : Nat) : Int) = some (q.getD k 0) := by
  rw [gx_at h, List.getD_eq_getElem?_getD, List.getElem?_eq_getElem h]; rfl
theorem l5_step (l : List FareSpan) (q : List Int) (i : Int) (hq : q.length = l.length) {s k : Nat} (hk : k < l.length) (hl : l.length ≤ 200) (n : Nat) :
    Fishref2PackOf.loop5 l q (sp l i) (n + 1) (s : Int) (k : Int) = (open Classical in if tk l q i s k then Fishref2PackOf.loop5 l q (sp l i) n (w64 ((s : Int) + 1)) 0 else Fishref2PackOf.loop5 l q (sp l i) n (s : Int) ((k + 1 : Nat) : Int)) := by
  rw [Fishref2PackOf.loop5]
  have c : decide ((k : Int) < ((l.length : Nat) : Int)) = true := by simp; omega
  have g : gx l (k : Int) = some (sp l k) := gx_sp ⟨by omega, by omega⟩
  have w1 : w64 ((-1 : Int) + 1) = 0 := by decide
  have w2 : w64 ((k : Int) + 1) = ((k + 1 : Nat) : Int) := by rw [w64_id (by omega)]; omega
  simp only [c, if_true, gx_d (q := q) (k := k) (by omega), g, Option.bind_some, bnd_eq]
  by_cases h1 : q.getD k 0 = (s : Int)
  · by_cases h2 : (sp l k).From < (sp l i).To
    · by_cases h3 : (sp l i).From < (sp l k).To
      · rw [if_pos (show tk l q i s k from ⟨h1, h2, h3⟩)]
        have h1' : (q.getD k 0 == (s : Int)) = true := by rw [h1]; exact beq_self_eq_true _
        simp only [h1', if_true, decide_eq_true h2, decide_eq_true h3, Option.bind_some, w1]
      · rw [if_neg (show ¬ tk l q i s k from fun h => h3 h.2.2)]
        have h1' : (q.getD k 0 == (s : Int)) = true := by rw [h1]; exact beq_self_eq_true _
        simp only [h1', if_true, decide_eq_true h2, decide_eq_false h3, Option.bind_some, Bool.false_eq_true, if_false, w2]
    · rw [if_neg (show ¬ tk l q i s k from fun h => h2 h.2.1)]
      have h1' : (q.getD k 0 == (s : Int)) = true := by rw [h1]; exact beq_self_eq_true _
      simp only [h1', if_true, decide_eq_false h2, Option.bind_some, Bool.false_eq_true, if_false, w2]
  · rw [if_neg (show ¬ tk l q i s k from fun h => h1 h.1)]
    have : (q.getD k 0 == (s : Int)) = false := by simpa using h1
    simp only [this, Option.bind_some, Bool.false_eq_true, if_false, w2]
theorem l5_hit (l : List FareSpan) (q : List Int) (i : Int) (hq : q.length = l.length) (hl : l.length ≤ 200) {s : Nat} (hs : s ≤ 1000) : ∀ (d k n : Nat), k + d = l.length → (∃ k', k ≤ k' ∧ k' < l.length ∧ tk l q i s k') →
    ∃ e, e ≤ d ∧ Fishref2PackOf.loop5 l q (sp l i) (n + d) (s : Int) (k : Int) = Fishref2PackOf.loop5 l q (sp l i) (n + e) ((s + 1 : Nat) : Int) 0
  | 0, k, n, h, ⟨k', a, b, _⟩ => absurd h (by omega)
  | d + 1, k, n, h, ⟨k', a, b, c⟩ => by
    rw [← Nat.add_assoc, l5_step l q i hq (by omega) hl]
    have w1 : w64 ((s : Int) + 1) = ((s + 1 : Nat) : Int) := by rw [w64_id (by omega)]; omega
    by_cases t : tk l q i s k
    · rw [if_pos t, w1]; exact ⟨d, by omega, rfl⟩
    · rw [if_neg t]
      have hne : k ≠ k' := fun e => t (e ▸ c)
      obtain ⟨e, e1, e2⟩ := l5_hit l q i hq hl hs d (k + 1) n (by omega) ⟨k', by omega, b, c⟩
      exact ⟨e, by omega, e2⟩
theorem l5_miss (l : List FareSpan) (q : List Int) (i : Int) (hq : q.length = l.length) (hl : l.length ≤ 200) {s : Nat} (hs : ¬ cf l q i s) : ∀ (d k n : Nat), k + d = l.length → d < n →
    Fishref2PackOf.loop5 l q (sp l i) n (s : Int) (k : Int) = some ((s : Int), (l.length : Int))
  | _, _, 0, _, h => absurd h (by omega)
  | 0, k, n + 1, h, _ => by
    rw [Fishref2PackOf.loop5]
    have c : decide ((k : Int) < ((l.length : Nat) : Int)) = false := by simp; omega
    rw [c]; simp; omega
  | d + 1, k, n + 1, h, h2 => by
    rw [l5_step l q i hq (by omega) hl, if_neg (fun t : tk l q i s k => hs ⟨k, by omega, t⟩)]
    exact l5_miss l q i hq hl hs d (k + 1) n (by omega) (by omega)
theorem l5_ok (l : List FareSpan) (q : List Int) (i : Int) (hq : q.length = l.length) (hl : l.length ≤ 200) : ∀ (d s n : Nat), s + d ≤ 1000 → (∀ j, s ≤ j → j < s + d → cf l q i j) → ¬ cf l q i (s + d) → (d + 1) * (l.length + 1) ≤ n →
    Fishref2PackOf.loop5 l q (sp l i) n (s : Int) 0 = some (((s + d : Nat) : Int), (l.length : Int))
  | 0, s, n, _, _, h, hn => l5_miss l q i hq hl h l.length 0 n (by omega) (by omega)
  | d + 1, s, n, hs, h1, h, hn => by
    obtain ⟨k', b, c⟩ := h1 s (by omega) (by omega)
    have hn2 : (d + 1) * (l.length + 1) + l.length ≤ n := by rw [Nat.add_mul (d + 1) 1] at hn; omega
    obtain ⟨m, rfl⟩ : ∃ m, n = m + l.length := ⟨n - l.length, by omega⟩
    obtain ⟨e, _, e2⟩ := l5_hit l q i hq hl (s := s) (by omega) l.length 0 m (by omega) ⟨k', by omega, b, c⟩
    rw [show ((0 : Nat) : Int) = 0 from rfl] at e2
    rw [e2, l5_ok l q i hq hl d (s + 1) (m + e) (by omega) (fun j a b => h1 j (by omega) (by omega)) (by rwa [show s + 1 + d = s + (d + 1) by omega]) (by omega), show s + 1 + d = s + (d + 1) by omega]
theorem getD_set (q : List Int) (i k : Nat) (v : Int) (h : i < q.length) : (q.set i v).getD k 0 = if k = i then v else q.getD k 0 := by
  simp only [List.getD_eq_getElem?_getD, List.getElem?_set]
  by_cases c : k = i
  · subst c; simp [h]
  · rw [if_neg c, if_neg (fun e => c e.symm)]

structure Inv (l : List FareSpan) (m : Nat) (R o q f : List Int) : Prop where
  lo : o.length = l.length
  lq : q.length = l.length
  lf : f.length = m
  eq : ∀ k < l.length, q.getD k 0 = -1 ∨ (q.getD k 0 = o.getD k 0 ∧ 0 ≤ q.getD k 0 ∧ q.getD k 0 < m)
  left : ∀ k < l.length, q.getD k 0 = -1 ↔ ((k : Nat) : Int) ∈ R
  past : ∀ k < l.length, q.getD k 0 ≠ -1 → ∀ i ∈ R, fr l k ≤ fr l i
  till : ∀ k < l.length, q.getD k 0 ≠ -1 → (sp l k).To ≤ f.getD (q.getD k 0).toNat 0
  free : ∀ s < m, f.getD s 0 = 0 ∨ ∃ k < l.length, q.getD k 0 = (s : Int) ∧ (sp l k).To = f.getD s 0

theorem Inv.taken {l : List FareSpan} {m : Nat} {R o q f : List Int} {i : Int} (h : Inv l m (i :: R) o q f) (hv : 0 ≤ (sp l i).From ∧ (sp l i).From < (sp l i).To) {s : Nat} (hs : s < m) : cf l q i s ↔ fr l i < f.getD s 0 := by
  constructor
  · rintro ⟨k, k1, k2, k3, k4⟩
    have := h.till k k1 (by omega)
    rw [k2] at this
    simp at this ⊢
    omega
  · intro c
    rcases h.free s hs with e | ⟨k, k1, k2, k3⟩
    · unfold fr at c; omega
    · have := h.past k k1 (by omega) i (by simp)
      exact ⟨k, k1, k2, by unfold fr at *; omega, by omega⟩
theorem Inv.fresh {l : List FareSpan} {m : Nat} {R o q f : List Int} {i : Int} (h : Inv l m R o q f) : ¬ cf l q i m := by
  rintro ⟨k, k1, k2, _⟩
  rcases h.eq k k1 with e | ⟨_, e⟩ <;> omega
theorem Inv.put {l : List FareSpan} {m : Nat} {R o q f : List Int} {i : Nat} (h : Inv l m ((i : Int) :: R) o q f) (hi : i < l.length) (hv : 0 ≤ (sp l i).From ∧ (sp l i).From < (sp l i).To) (hp : ((i : Int) :: R).Pairwise (Lt (fr l)))
    {s : Nat} (hs : s < m) (hf : f.getD s 0 ≤ fr l i) : Inv l m R (o.set i (s : Int)) (q.set i (s : Int)) (f.set s (sp l i).To) := by
  have qi : q.getD i 0 = -1 := (h.left i hi).2 (by simp)
  have hq : i < q.length := by rw [h.lq]; exact hi
  have ho : i < o.length := by rw [h.lo]; exact hi
  have hfl : s < f.length := by rw [h.lf]; exact hs
  have hp1 := (List.pairwise_cons.1 hp).1
  constructor
  · rw [List.length_set, h.lo]
  · rw [List.length_set, h.lq]
  · rw [List.length_set, h.lf]
  · intro k hk
    rw [getD_set _ _ _ _ hq, getD_set _ _ _ _ ho]
    by_cases c : k = i
    · rw [if_pos c, if_pos c]; right; omega
    · rw [if_neg c, if_neg c]; exact h.eq k hk
  · intro k hk
    rw [getD_set _ _ _ _ hq]
    by_cases c : k = i
    · rw [if_pos c]; subst c
      constructor
      · intro e; omega
      · intro e; exact absurd (hp1 _ e) (fun x => x.irr)
    · rw [if_neg c, h.left k hk, List.mem_cons]
      constructor
      · rintro (e | e)
        · omega
        · exact e
      · exact .inr
  · intro k hk
    rw [getD_set _ _ _ _ hq]
    by_cases c : k = i
    · rw [if_pos c]; subst c
      intro _ j hj
      exact (hp1 j hj).le
    · rw [if_neg c]; intro e j hj; exact h.past k hk e j (by simp [hj])
  · intro k hk
    rw [getD_set _ _ _ _ hq]
    by_cases c : k = i
    · rw [if_pos c]; subst c
      intro _
      rw [getD_set _ _ _ _ hfl]; simp
    · rw [if_neg c]; intro e
      have h2 := h.till k hk e
      rw [getD_set _ _ _ _ hfl]
      split
      · rename_i g; rw [g] at h2; unfold fr at hf; omega
      · exact h2
  · intro t ht
    rw [getD_set _ _ _ _ hfl]
    by_cases c : t = s
    · rw [if_pos c]; subst c
      exact .inr ⟨i, hi, by rw [getD_set _ _ _ _ hq, if_pos rfl], rfl⟩
    · rw [if_neg c]
      rcases h.free t ht with e | ⟨k, k1, k2, k3⟩
      · exact .inl e
      · refine .inr ⟨k, k1, ?_, k3⟩
        rw [getD_set _ _ _ _ hq, if_neg (by intro e; subst e; omega)]; exact k2

theorem sim (l : List FareSpan) (hl : l.length ≤ 200) (hv : ∀ s ∈ l, 0 ≤ s.From ∧ s.From < s.To) {m : Nat} (hm : m ≤ 80) : ∀ (R A o q f : List Int), R.Pairwise (Lt (fr l)) → (∀ x ∈ R, 0 ≤ x ∧ x < l.length) → Inv l m R o q f →
    (FarePack.loop2 l (A ++ R) R.length A.length f o = some (.ret ([], 14)) ∧ rfold l (m : Int) 20060 R q = some (.ret ([], 14))) ∨
    (∃ f' o', FarePack.loop2 l (A ++ R) R.length A.length f o = some (.next (f', o')) ∧ rfold l (m : Int) 20060 R q = some (.next o'))
  | [], A, o, q, f, _, _, h => by
    refine .inr ⟨f, o, rfl, ?_⟩
    rw [rfold]
    have : q = o := by
      refine List.ext_getElem (by rw [h.lq, h.lo]) fun k k1 k2 => ?_
      have hk : k < l.length := by rw [← h.lq]; exact k1
      rcases h.eq k hk with e | ⟨e, _⟩
      · exact absurd ((h.left k hk).1 e) (by simp)
      · simpa [List.getD_eq_getElem?_getD, List.getElem?_eq_getElem k1, List.getElem?_eq_getElem k2] using e
    rw [this]
  | i :: R, A, o, q, f, hp, hx, h => by
    have hi := hx i (by simp)
    obtain ⟨n, rfl⟩ : ∃ n : Nat, i = n := ⟨i.toNat, by omega⟩
    have hn : n < l.length := by omega
    have hs := hv (sp l n) (by unfold sp; rw [List.getD_eq_getElem?_getD, Int.toNat_natCast, List.getElem?_eq_getElem hn]; exact List.getElem_mem _)
    have g1 : gx (A ++ (n : Int) :: R) ((A.length : Nat) : Int) = some (n : Int) := gx_mid rfl
    rw [List.length_cons, FarePack.loop2, rfold]
    simp only [g1, Option.bind_some, SlicesIndexFuncLint_v1]
    have hfu : ∀ d, d ≤ 80 → (d + 1) * (l.length + 1) ≤ 20060 := fun d hd => Nat.le_trans (Nat.mul_le_mul (show d + 1 ≤ 81 by omega) (show l.length + 1 ≤ 201 by omega)) (by decide)
    rcases seat_ok l hi f 0 with ⟨a, b⟩ | ⟨s, a, b, e, c⟩
    · rw [h.lf] at b
      have r := l5_ok l q n h.lq hl m 0 20060 (by omega) (fun j _ hj => (h.taken hs (by omega)).2 (b j (by omega))) (by rw [Nat.zero_add]; exact h.fresh) (hfu m hm)
      rw [Nat.zero_add] at r
      rw [show ((0 : Nat) : Int) = 0 from rfl] at r
      refine .inl ⟨by rw [a]; rfl, ?_⟩
      rw [r]; simp
    · rw [h.lf] at b
      have r := l5_ok l q n h.lq hl s 0 20060 (by omega) (fun j _ hj => (h.taken hs (by omega)).2 (c j (by omega))) (by rw [Nat.zero_add, h.taken hs b]; omega) (hfu s (by omega))
      rw [Nat.zero_add] at r a
      rw [show ((0 : Nat) : Int) = 0 from rfl] at r
      have d1 : decide ((s : Int) < 0) = false := by simp
      have d2 : decide ((s : Int) ≥ (m : Int)) = false := by simp; omega
      have i1 : ix f (s : Int) = some () := ix_in (by omega) (by rw [h.lf]; omega)
      have i2 : sx f (s : Int) (sp l n).To = some (f.set s (sp l n).To) := by rw [sx_in (by omega) (by rw [h.lf]; omega)]; simp
      have i3 : ix o (n : Int) = some () := ix_in (by omega) (by rw [h.lo]; omega)
      have i4 : sx o (n : Int) (s : Int) = some (o.set n (s : Int)) := by rw [sx_in (by omega) (by rw [h.lo]; omega)]; simp
      have i5 : ix q (n : Int) = some () := ix_in (by omega) (by rw [h.lq]; omega)
      have i6 : sx q (n : Int) (s : Int) = some (q.set n (s : Int)) := by rw [sx_in (by omega) (by rw [h.lq]; omega)]; simp
      have ih := sim l hl hv hm R (A ++ [(n : Int)]) (o.set n (s : Int)) (q.set n (s : Int)) (f.set s (sp l n).To) (List.pairwise_cons.1 hp).2 (fun x hxx => hx x (by simp [hxx])) (h.put hn hs hp b e)
      rw [show A ++ [(n : Int)] ++ R = A ++ (n : Int) :: R by simp, show (A ++ [(n : Int)]).length = A.length + 1 by simp] at ih
      simp only [a, r, Option.bind_some, d1, d2, Bool.false_eq_true, if_false, gx_sp hi, i1, i2, i3, i4, i5, i6]
      exact ih
theorem pack_ref (l : List FareSpan) (m z : Int) : ∃ e x, FarePack 20060 l m z = some (x, e) ∧ Fishref2PackOf 20060 l m z = some (x, e) := by
  unfold FarePack Fishref2PackOf
  by_cases hl : l.length ≤ 200
  · have d : decide (((l.length : Nat) : Int) > 200) = false := by simp; omega
    simp only [d, Bool.false_eq_true, if_false, show Fishref2within = Farewithin from rfl, within_iff, bnd_eq]
    by_cases hm : 1 ≤ m ∧ m ≤ 80
    · by_cases hz : 2 ≤ z ∧ z ≤ 12
      · simp only [decide_eq_true hm, decide_eq_true hz, Bool.not_true, Bool.false_eq_true, if_false]
        have m1 : mks ((l.length : Nat) : Int) (0 : Int) = some (List.replicate l.length 0) := mks_in (by omega) 0
        obtain ⟨M, rfl⟩ : ∃ M : Nat, m = M := ⟨m.toNat, by omega⟩
        obtain ⟨Z, rfl⟩ : ∃ Z : Nat, z = Z := ⟨z.toNat, by omega⟩
        have m2 : mks ((M : Nat) : Int) (0 : Int) = some (List.replicate M 0) := mks_in (by omega) 0
        have p := pack1 (Z : Int) l 0
        rw [show rng 0 = [] from rfl, List.nil_append, Nat.zero_add] at p
        simp only [m1, m2, Option.bind_some, List.length_replicate]
        rcases p with ⟨p1, p2⟩ | ⟨p1, p2, p3⟩
        · rw [p1, p2]; exact ⟨_, _, rfl, rfl⟩
        · rw [p1, p2]
          obtain ⟨R, r1, r2, r3⟩ := stable_ok (l := l) (V := fun x => 0 ≤ x ∧ x < l.length) (D := fr l) (fun x y hx hy => cmp_fr l x y hx hy) (fu := 20060) (X := rng l.length) (by rw [rng_len]; omega) (by rw [rng_len]; omega) (fun y hy => (rng_mem _ _).1 hy) (rng_lt _)
          have hR : ∀ x, x ∈ R ↔ 0 ≤ x ∧ x < l.length := fun x => by rw [r2.mem_iff, rng_mem]
          have lR : R.length = l.length := by rw [r2.length_eq, rng_len]
          have hspan : ∀ x : Int, 0 ≤ x ∧ x < l.length → sp l x ∈ l := fun x hx => by
            unfold sp; rw [List.getD_eq_getElem?_getD, List.getElem?_eq_getElem (by omega)]; exact List.getElem_mem _
          have hall : R = allx l Z 0 := lt_ext r3 (allx_pw l Z 0) fun x => by
            rw [hR, allx_mem]
            refine ⟨fun h => ⟨h, ?_⟩, fun h => h.1⟩
            have := p3 _ (hspan x h)
            unfold fr; omega
          have f3 := fold3 l (M : Int) 20060 20060 Z 0 (List.replicate l.length (-1)) (by omega) (by omega)
          rw [Nat.zero_add, ← hall] at f3
          have inv : Inv l M R (List.replicate l.length 0) (List.replicate l.length (-1)) (List.replicate M 0) := by
            have g : ∀ k < l.length, (List.replicate l.length (-1 : Int)).getD k 0 = -1 := fun k hk => by simp [List.getD_eq_getElem?_getD, hk]
            refine ⟨by simp, by simp, by simp, fun k hk => .inl (g k hk), fun k hk => ⟨fun _ => (hR _).2 (by omega), fun _ => g k hk⟩, fun k hk h => absurd (g k hk) h, fun k hk h => absurd (g k hk) h, fun s hs => .inl (by simp [List.getD_eq_getElem?_getD, hs])⟩
          have s := sim l hl (fun s hs => ⟨(p3 s hs).1, (p3 s hs).2.1⟩) (show M ≤ 80 by omega) R [] _ _ _ r3 (fun x hx => (hR x).1 hx) inv
          rw [lR, List.nil_append, List.length_nil] at s
          rw [show ((0 : Nat) : Int) = 0 from rfl] at f3
          simp only [r1, rep_ok hl, f3, Option.bind_some]
          rcases s with ⟨s1, s2⟩ | ⟨f', o', s1, s2⟩
          · rw [s1, s2]; exact ⟨_, _, rfl, rfl⟩
          · rw [s1, s2]; exact ⟨_, _, rfl, rfl⟩
      · simp only [decide_eq_true hm, decide_eq_false hz, Bool.not_true, Bool.not_false, Bool.false_eq_true, if_false, if_true]
        exact ⟨_, _, rfl, rfl⟩
    · simp only [decide_eq_false hm, Bool.not_false, if_true]
      exact ⟨_, _, rfl, rfl⟩
  · have d : decide (((l.length : Nat) : Int) > 200) = true := by simp; omega
    simp only [d, if_true]
    exact ⟨_, _, rfl, rfl⟩
theorem fares_true (n : Nat) : Fishlaw2fares (n + 60) = some true := by kernel_rfl
theorem equal_refl (l : List Int) : SlicesEqualLint l l = some true := by
  have key : ∀ (r : List Int) (k : Nat), l.drop k = r → SlicesEqualLint.loop1 l r k = some (.next ()) := by
    intro r
    induction r with
    | nil => intro k _; rfl
    | cons v r ih =>
      intro k hd
      obtain ⟨d1, d2, d3⟩ := drop_cons hd
      simp only [SlicesEqualLint.loop1, gx_nat, d2, Option.bind_some, bne_self_eq_false, Bool.false_eq_true, if_false]
      exact ih (k + 1) d3
  unfold SlicesEqualLint
  simp [key l 0 rfl]
theorem FarePacks_law (l : List FareSpan) (m : Int) (z : Int) (_ : l.length ≤ 9223372036854775807) (_ : -9223372036854775808 ≤ m ∧ m ≤ 9223372036854775807) (_ : -9223372036854775808 ≤ z ∧ z ≤ 9223372036854775807) : ∃ fu, Fishlaw2FarePacks fu l m z = some true := by
  refine ⟨20060, ?_⟩
  unfold Fishlaw2FarePacks
  obtain ⟨e, x, h1, h2⟩ := pack_ref l m z
  rw [h1, h2]
  have hf : Fishlaw2fares 20060 = some true := fares_true 20000
  simp only [Option.bind_some, hf, if_true, equal_refl, beq_self_eq_true]

end Go.Fp
