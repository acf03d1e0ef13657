/- FareCars: the mirror of the law is true of all cars and scripts (within the reach of a process's addresses). -/
import Derived.Test.YteeeklfggbfenaaFareCarsM
import Derived.Test.YteeeklfggbfenaaFpPlain
import Derived.Test.YteeeklfggbfenaaFpReach
import Derived.Test.YteeeklfggbfenaaFpWideX
import Derived.KernelRfl
namespace Go.Fp

/-! the stable sort of the library (blocks of 20 by insertion, then symMerge), for lists of at most 100000; the caps of CMP are y1 y2 y3 -/
section stable
theorem gx_mid {α : Type} {A T : List α} {x : α} {i : Int} (h : i = (A.length : Int)) : gx (A ++ x :: T) i = some x := by
  subst h; simp [gx]
theorem ix_mid {α : Type} {A T : List α} {x : α} {i : Int} (h : i = (A.length : Int)) : ix (A ++ x :: T) i = some () := by
  subst h; unfold ix; rw [if_pos]; simp; omega
theorem sx_mid {α : Type} {A T : List α} {x v : α} {i : Int} (h : i = (A.length : Int)) : sx (A ++ x :: T) i v = some (A ++ v :: T) := by
  subst h; unfold sx; rw [if_pos]
  · simp
  · simp; omega

/-- strictly ahead: by D, then by number -/
def Lt (D : Int → Int) (x y : Int) : Prop := D x < D y ∨ (D x = D y ∧ x < y)
theorem Lt.trans {D : Int → Int} {x y z : Int} (h : Lt D x y) (k : Lt D y z) : Lt D x z := by unfold Lt at *; omega
theorem Lt.irr {D : Int → Int} {x : Int} (h : Lt D x x) : False := by unfold Lt at h; omega
theorem Lt.le {D : Int → Int} {x y : Int} (h : Lt D x y) : D x ≤ D y := by unfold Lt at h; omega

theorem lt_ext {D : Int → Int} : ∀ {l1 l2 : List Int}, l1.Pairwise (Lt D) → l2.Pairwise (Lt D) → (∀ x, x ∈ l1 ↔ x ∈ l2) → l1 = l2
  | [], [], _, _, _ => rfl
  | [], b :: _, _, _, h => absurd ((h b).2 (by simp)) (by simp)
  | a :: _, [], _, _, h => absurd ((h a).1 (by simp)) (by simp)
  | a :: t1, b :: t2, h1, h2, h => by
    rw [List.pairwise_cons] at h1 h2
    have hab : a = b := by
      have ha := (h a).1 (by simp)
      have hb := (h b).2 (by simp)
      rcases List.mem_cons.1 ha with e | e
      · exact e
      · rcases List.mem_cons.1 hb with e2 | e2
        · exact e2.symm
        · exact ((h2.1 a e).trans (h1.1 b e2)).irr.elim
    subst hab
    have ht : ∀ x, x ∈ t1 ↔ x ∈ t2 := by
      intro x
      constructor
      · intro hx
        rcases List.mem_cons.1 ((h x).1 (by simp [hx])) with e | e
        · subst e; exact (h1.1 x hx).irr.elim
        · exact e
      · intro hx
        rcases List.mem_cons.1 ((h x).2 (by simp [hx])) with e | e
        · subst e; exact (h2.1 x hx).irr.elim
        · exact e
    rw [lt_ext h1.2 h2.2 ht]

variable {y1 y2 : Int} {y3 : FareCar} {D : Int → Int} {V : Int → Prop}

theorem ins2 (hC : ∀ x y, V x → V y → ∃ c, FareCarchoose_1_v1 x y y1 y2 y3 = some c ∧ (c < 0 ↔ D x < D y)) : ∀ (n : Nat) (S A T : List Int) (x : Int), S.length < n → A.length + S.length < 1000000 → (∀ y ∈ S, V y) → V x → (∀ y ∈ S, y < x) → S.Pairwise (Lt D) →
    ∃ j R, SlicesinsertionSortCmpFuncint_v1.loop2 (A.length : Int) y1 y2 y3 n ((A.length + S.length : Nat) : Int) (A ++ (S ++ x :: T)) = some (j, A ++ (R ++ T)) ∧ R.Perm (S ++ [x]) ∧ R.Pairwise (Lt D)
  | 0, S, _, _, _, hn, _, _, _, _, _ => absurd hn (by omega)
  | n + 1, S, A, T, x, hn, hb, hV, hx, hlt, hs => by
    rcases List.eq_nil_or_concat S with rfl | ⟨S', y, rfl⟩
    · refine ⟨_, [x], by simp [SlicesinsertionSortCmpFuncint_v1.loop2]; exact rfl, by simp, by simp⟩
    · simp only [List.concat_eq_append] at *
      simp only [List.length_append, List.length_cons, List.length_nil] at hn hb
      obtain ⟨c, hc1, hc2⟩ := hC x y hx (hV y (by simp))
      have hj : w64 (((A.length + (S' ++ [y]).length : Nat) : Int) - 1) = ((A.length + S'.length : Nat) : Int) := by
        rw [w64_id (by simp; omega)]; simp; omega
      have hg : decide (((A.length + (S' ++ [y]).length : Nat) : Int) > (A.length : Int)) = true := by simp; omega
      have e1 : gx (A ++ ((S' ++ [y]) ++ x :: T)) ((A.length + (S' ++ [y]).length : Nat) : Int) = some x := by
        rw [← List.append_assoc A]; exact gx_mid (by simp)
      have e2 : gx (A ++ ((S' ++ [y]) ++ x :: T)) ((A.length + S'.length : Nat) : Int) = some y := by
        rw [show A ++ ((S' ++ [y]) ++ x :: T) = (A ++ S') ++ y :: (x :: T) by simp]; exact gx_mid (by simp)
      rw [SlicesinsertionSortCmpFuncint_v1.loop2]
      simp only [hg, if_true, hj, e1, e2, Option.bind_some, hc1]
      by_cases hlt2 : D x < D y
      · have hd : decide (c < 0) = true := by simpa using hc2.2 hlt2
        have e3 : ix (A ++ ((S' ++ [y]) ++ x :: T)) ((A.length + (S' ++ [y]).length : Nat) : Int) = some () := by
          rw [← List.append_assoc A]; exact ix_mid (by simp)
        have e4 : sx (A ++ ((S' ++ [y]) ++ x :: T)) ((A.length + (S' ++ [y]).length : Nat) : Int) y = some ((A ++ S') ++ y :: (y :: T)) := by
          rw [← List.append_assoc A, sx_mid (by simp)]; simp
        have e5 : ix ((A ++ S') ++ y :: (y :: T)) ((A.length + S'.length : Nat) : Int) = some () := ix_mid (by simp)
        have e6 : sx ((A ++ S') ++ y :: (y :: T)) ((A.length + S'.length : Nat) : Int) x = some (A ++ (S' ++ x :: (y :: T))) := by
          rw [sx_mid (by simp)]; simp
        simp only [hd, if_true, e3, e4, e5, e6, Option.bind_some]
        have hs2 := List.pairwise_append.1 hs
        obtain ⟨j, R, r1, r2, r3⟩ := ins2 hC n S' A (y :: T) x (by omega) (by omega) (fun z hz => hV z (by simp [hz])) hx (fun z hz => hlt z (by simp [hz])) hs2.1
        refine ⟨j, R ++ [y], by rw [r1]; simp, ?_, ?_⟩
        · exact (r2.append_right [y]).trans (by simpa using (List.Perm.swap y x []).append_left S')
        · refine List.pairwise_append.2 ⟨r3, by simp, ?_⟩
          intro z hz w hw
          simp at hw; subst hw
          rcases List.mem_append.1 (r2.subset hz) with h | h
          · exact hs2.2.2 z h w (by simp)
          · simp at h; subst h; exact .inl hlt2
      · have hd : decide (c < 0) = false := by simpa using fun h => hlt2 (hc2.1 h)
        simp only [hd, Bool.false_eq_true, if_false]
        refine ⟨_, (S' ++ [y]) ++ [x], by simp; exact rfl, List.Perm.refl _, ?_⟩
        refine List.pairwise_append.2 ⟨hs, by simp, ?_⟩
        intro z hz w hw
        simp at hw; subst hw
        have hyx : Lt D y w := by
          have := hlt y (by simp)
          unfold Lt; omega
        rcases List.mem_append.1 hz with h | h
        · exact ((List.pairwise_append.1 hs).2.2 z h y (by simp)).trans hyx
        · simp at h; subst h; exact hyx

theorem ins1 (hC : ∀ x y, V x → V y → ∃ c, FareCarchoose_1_v1 x y y1 y2 y3 = some c ∧ (c < 0 ↔ D x < D y)) (fu : Nat) : ∀ (U : List Int) (n : Nat) (S A T : List Int), U.length < n → S.length + U.length < fu → A.length + S.length + U.length < 1000000 → (∀ y ∈ S, V y) → (∀ y ∈ U, V y) → (∀ y ∈ S, ∀ u ∈ U, y < u) → U.Pairwise (· < ·) → S.Pairwise (Lt D) →
    ∃ j R, SlicesinsertionSortCmpFuncint_v1.loop1 (A.length : Int) ((A.length + S.length + U.length : Nat) : Int) y1 y2 y3 fu n ((A.length + S.length : Nat) : Int) (A ++ (S ++ (U ++ T))) = some (j, A ++ (R ++ T)) ∧ R.Perm (S ++ U) ∧ R.Pairwise (Lt D)
  | [], n, S, A, T, hn, _, _, _, _, _, _, hs => by
    obtain ⟨n, rfl⟩ : ∃ m, n = m + 1 := ⟨n - 1, by simp at hn; omega⟩
    exact ⟨_, S, by simp [SlicesinsertionSortCmpFuncint_v1.loop1]; exact rfl, by simp, hs⟩
  | u :: U, n, S, A, T, hn, hf, hb, hV, hU, hlt, hu, hs => by
    obtain ⟨n, rfl⟩ : ∃ m, n = m + 1 := ⟨n - 1, by simp at hn; omega⟩
    simp only [List.length_cons] at hn hf hb
    obtain ⟨j, R, r1, r2, r3⟩ := ins2 hC fu S A (U ++ T) u (by omega) (by omega) hV (hU u (by simp)) (fun y hy => hlt y hy u (by simp)) hs
    have hl := r2.length_eq
    simp only [List.length_append, List.length_cons, List.length_nil] at hl
    rw [List.pairwise_cons] at hu
    have hmem : ∀ y ∈ R, y ∈ S ∨ y = u := by intro y hy; simpa using r2.subset hy
    obtain ⟨j', R', q1, q2, q3⟩ := ins1 hC fu U n R A T (by omega) (by omega) (by omega) (fun y hy => (hmem y hy).elim (hV y) (fun e => e ▸ hU u (by simp))) (fun y hy => hU y (by simp [hy]))
      (fun y hy v hv => (hmem y hy).elim (fun h => hlt y h v (by simp [hv])) (fun e => e ▸ hu.1 v hv)) hu.2 r3
    refine ⟨j', R', ?_, q2.trans (by simpa using r2.append_right U), q3⟩
    rw [SlicesinsertionSortCmpFuncint_v1.loop1]
    have h1 : decide (((A.length + S.length : Nat) : Int) < ((A.length + S.length + (u :: U).length : Nat) : Int)) = true := by simp; omega
    have h2 : w64 (((A.length + S.length : Nat) : Int) + 1) = ((A.length + R.length : Nat) : Int) := by
      rw [w64_id (by omega)]; omega
    have h3 : ((A.length + S.length + (u :: U).length : Nat) : Int) = ((A.length + R.length + U.length : Nat) : Int) := by simp; omega
    simp only [h1, if_true]
    simp only [List.cons_append, r1, Option.bind_some, h2, h3]
    exact q1

theorem ins_ok (hC : ∀ x y, V x → V y → ∃ c, FareCarchoose_1_v1 x y y1 y2 y3 = some c ∧ (c < 0 ↔ D x < D y)) {fu : Nat} {A X T : List Int} (hf : X.length + 1 < fu) (hb : A.length + X.length < 1000000) (hV : ∀ y ∈ X, V y) (hu : X.Pairwise (· < ·)) :
    ∃ R, SlicesinsertionSortCmpFuncint_v1 fu (A ++ (X ++ T)) (A.length : Int) ((A.length + X.length : Nat) : Int) y1 y2 y3 = some (A ++ (R ++ T)) ∧ R.Perm X ∧ R.Pairwise (Lt D) := by
  unfold SlicesinsertionSortCmpFuncint_v1
  have h2 : w64 ((A.length : Int) + 1) = ((A.length + 1 : Nat) : Int) := by rw [w64_id (by omega)]; omega
  rw [h2]
  cases X with
  | nil =>
    obtain ⟨f, rfl⟩ : ∃ m, fu = m + 1 := ⟨fu - 1, by omega⟩
    refine ⟨[], ?_, by simp, by simp⟩
    rw [SlicesinsertionSortCmpFuncint_v1.loop1]
    have h1 : decide (((A.length + 1 : Nat) : Int) < ((A.length + ([] : List Int).length : Nat) : Int)) = false := by simp; omega
    simp only [h1, Bool.false_eq_true, if_false, Option.bind_some]
  | cons x X =>
    simp only [List.length_cons] at hf hb
    rw [List.pairwise_cons] at hu
    obtain ⟨j, R, r1, r2, r3⟩ := ins1 hC fu X fu [x] A T (by omega) (by simp; omega) (by simp; omega) (by simpa using hV x (by simp)) (fun y hy => hV y (by simp [hy])) (by simpa using hu.1) hu.2 (by simp)
    have h3 : ((A.length + (x :: X).length : Nat) : Int) = ((A.length + [x].length + X.length : Nat) : Int) := by simp; omega
    refine ⟨R, ?_, r2, r3⟩
    rw [h3]
    simp only [List.length_cons, List.length_nil, Nat.zero_add, List.cons_append, List.nil_append] at r1 ⊢
    rw [r1]; rfl

theorem swap1 : ∀ (X2 : List Int) (n : Nat) (Y2 Y1 X1 A M T : List Int), X2.length = Y2.length → X1.length = Y1.length → X2.length < n → A.length + Y1.length + X2.length + M.length + X1.length + Y2.length < 1000000 →
    ∃ j, SlicesswapRangeCmpFuncint_v1.loop1 (A.length : Int) ((A.length + Y1.length + X2.length + M.length : Nat) : Int) ((Y1.length + X2.length : Nat) : Int) n (Y1.length : Int) (A ++ (Y1 ++ (X2 ++ (M ++ (X1 ++ (Y2 ++ T)))))) = some (j, A ++ ((Y1 ++ Y2) ++ (M ++ ((X1 ++ X2) ++ T))))
  | [], n, Y2, Y1, X1, A, M, T, h1, _, hn, _ => by
    obtain ⟨n, rfl⟩ : ∃ m, n = m + 1 := ⟨n - 1, by omega⟩
    obtain rfl : Y2 = [] := by simpa using h1.symm
    exact ⟨_, by simp [SlicesswapRangeCmpFuncint_v1.loop1]; exact rfl⟩
  | x :: X2, n, Y2, Y1, X1, A, M, T, h1, h2, hn, hb => by
    obtain ⟨n, rfl⟩ : ∃ m, n = m + 1 := ⟨n - 1, by omega⟩
    cases Y2 with
    | nil => simp at h1
    | cons y Y2 =>
      simp only [List.length_cons] at h1 hn hb
      obtain ⟨j, hj⟩ := swap1 X2 n Y2 (Y1 ++ [y]) (X1 ++ [x]) A M T (by omega) (by simp; omega) (by omega) (by simp; omega)
      refine ⟨j, ?_⟩
      rw [SlicesswapRangeCmpFuncint_v1.loop1]
      have g1 : decide ((Y1.length : Int) < ((Y1.length + (x :: X2).length : Nat) : Int)) = true := by simp; omega
      have g2 : w64 (((A.length + Y1.length + (x :: X2).length + M.length : Nat) : Int) + (Y1.length : Int)) = ((A ++ (Y1 ++ (x :: X2 ++ (M ++ X1)))).length : Int) := by
        rw [w64_id (by simp; omega)]; simp; omega
      have g3 : w64 ((A.length : Int) + (Y1.length : Int)) = ((A ++ Y1).length : Int) := by
        rw [w64_id (by omega)]; simp
      have g4 : w64 ((Y1.length : Int) + 1) = ((Y1 ++ [y]).length : Int) := by rw [w64_id (by omega)]; simp
      have d1 : A ++ (Y1 ++ (x :: X2 ++ (M ++ (X1 ++ (y :: Y2 ++ T))))) = (A ++ (Y1 ++ (x :: X2 ++ (M ++ X1)))) ++ y :: (Y2 ++ T) := by simp
      have d2 : A ++ (Y1 ++ (x :: X2 ++ (M ++ (X1 ++ (y :: Y2 ++ T))))) = (A ++ Y1) ++ x :: (X2 ++ (M ++ (X1 ++ (y :: Y2 ++ T)))) := by simp
      have e1 : gx (A ++ (Y1 ++ (x :: X2 ++ (M ++ (X1 ++ (y :: Y2 ++ T)))))) ((A ++ (Y1 ++ (x :: X2 ++ (M ++ X1)))).length : Int) = some y := by rw [d1]; exact gx_mid rfl
      have e2 : gx (A ++ (Y1 ++ (x :: X2 ++ (M ++ (X1 ++ (y :: Y2 ++ T)))))) ((A ++ Y1).length : Int) = some x := by rw [d2]; exact gx_mid rfl
      have e3 : ix (A ++ (Y1 ++ (x :: X2 ++ (M ++ (X1 ++ (y :: Y2 ++ T)))))) ((A ++ Y1).length : Int) = some () := by rw [d2]; exact ix_mid rfl
      have e4 : sx (A ++ (Y1 ++ (x :: X2 ++ (M ++ (X1 ++ (y :: Y2 ++ T)))))) ((A ++ Y1).length : Int) y = some ((A ++ (Y1 ++ (y :: X2 ++ (M ++ X1)))) ++ y :: (Y2 ++ T)) := by rw [d2, sx_mid rfl]; simp
      have g5 : (A ++ (Y1 ++ (x :: X2 ++ (M ++ X1)))).length = (A ++ (Y1 ++ (y :: X2 ++ (M ++ X1)))).length := by simp
      have e5 : ix ((A ++ (Y1 ++ (y :: X2 ++ (M ++ X1)))) ++ y :: (Y2 ++ T)) ((A ++ (Y1 ++ (x :: X2 ++ (M ++ X1)))).length : Int) = some () := ix_mid (by rw [g5])
      have e6 : sx ((A ++ (Y1 ++ (y :: X2 ++ (M ++ X1)))) ++ y :: (Y2 ++ T)) ((A ++ (Y1 ++ (x :: X2 ++ (M ++ X1)))).length : Int) x = some (A ++ ((Y1 ++ [y]) ++ (X2 ++ (M ++ ((X1 ++ [x]) ++ (Y2 ++ T)))))) := by rw [sx_mid (by rw [g5])]; simp
      simp only [g1, if_true, g2, g3, g4, e1, e2, e3, e4, e5, e6, Option.bind_some]
      have k1 : ((A.length + (Y1 ++ [y]).length + X2.length + M.length : Nat) : Int) = ((A.length + Y1.length + (x :: X2).length + M.length : Nat) : Int) := by simp; omega
      have k2 : (((Y1 ++ [y]).length + X2.length : Nat) : Int) = ((Y1.length + (x :: X2).length : Nat) : Int) := by simp; omega
      rw [k1, k2] at hj
      rw [hj]; simp

theorem swap_ok {fu : Nat} {A X M Y T : List Int} {a b n : Int} (h : X.length = Y.length) (hf : X.length < fu) (hb : A.length + X.length + M.length + Y.length < 1000000) (ha : a = (A.length : Int)) (hb2 : b = ((A.length + X.length + M.length : Nat) : Int)) (hn : n = (X.length : Int)) :
    SlicesswapRangeCmpFuncint_v1 fu (A ++ (X ++ (M ++ (Y ++ T)))) a b n y1 y2 y3 = some (A ++ (Y ++ (M ++ (X ++ T)))) := by
  obtain ⟨j, hj⟩ := swap1 X fu Y [] [] A M T h rfl hf (by simpa using hb)
  unfold SlicesswapRangeCmpFuncint_v1
  simp only [List.length_nil, Nat.zero_add, List.nil_append, Nat.add_zero] at hj
  subst ha hb2 hn
  have : (0 : Int) = ((0 : Nat) : Int) := rfl
  rw [this, hj]; rfl

theorem rot1 (fu : Nat) : ∀ (n : Nat) (X Y A T : List Int), X.length + Y.length < n → X ≠ [] → Y ≠ [] → X.length + Y.length < fu → A.length + X.length + Y.length < 1000000 →
    ∃ (X' Y' A' T' : List Int), SlicesrotateCmpFuncint_v1.loop1 ((A.length + X.length : Nat) : Int) y1 y2 y3 fu n (X.length : Int) (Y.length : Int) (A ++ (X ++ (Y ++ T))) = some ((X'.length : Int), (X'.length : Int), A' ++ (X' ++ (Y' ++ T')))
      ∧ Y'.length = X'.length ∧ A'.length + X'.length = A.length + X.length ∧ A' ++ (Y' ++ (X' ++ T')) = A ++ (Y ++ (X ++ T)) ∧ X'.length ≤ X.length
  | 0, _, _, _, _, h, _, _, _, _ => absurd h (by omega)
  | n + 1, X, Y, A, T, hn, hX, hY, hf, hb => by
    have lx : 0 < X.length := List.length_pos_iff.2 hX
    have ly : 0 < Y.length := List.length_pos_iff.2 hY
    rw [SlicesrotateCmpFuncint_v1.loop1]
    by_cases h1 : X.length = Y.length
    · refine ⟨X, Y, A, T, ?_, h1.symm, rfl, rfl, Nat.le_refl _⟩
      simp [h1]
    · have hne : ((X.length : Int) != (Y.length : Int)) = true := by simp; omega
      simp only [hne, if_true]
      by_cases h2 : Y.length < X.length
      · have hd : decide ((X.length : Int) > (Y.length : Int)) = true := by simp; omega
        obtain ⟨X1, X2, rfl, hl⟩ : ∃ X1 X2, X = X1 ++ X2 ∧ X1.length = Y.length := ⟨X.take Y.length, X.drop Y.length, by simp, by simp; omega⟩
        simp only [List.length_append] at *
        have e1 := swap_ok (y1 := y1) (y2 := y2) (y3 := y3) (fu := fu) (A := A) (X := X1) (M := X2) (Y := Y) (T := T) (a := w64 (((A.length + (X1.length + X2.length) : Nat) : Int) - ((X1.length + X2.length : Nat) : Int))) (b := ((A.length + (X1.length + X2.length) : Nat) : Int)) (n := (Y.length : Int)) hl (by omega) (by omega)
          (by rw [w64_id (by omega)]; omega) (by omega) (by omega)
        obtain ⟨X', Y', A', T', r1, r2, r3, r4, r5⟩ := rot1 fu n X2 X1 (A ++ Y) T (by omega) (by intro h; subst h; simp at h2; omega) (by intro h; subst h; simp at hl; omega) (by omega) (by simp; omega)
        refine ⟨X', Y', A', T', ?_, r2, by simp at r3; omega, by rw [r4]; simp, by omega⟩
        simp only [hd, if_true, List.append_assoc] at *
        rw [e1]
        have e2 : w64 (((X1.length + X2.length : Nat) : Int) - (Y.length : Int)) = (X2.length : Int) := by rw [w64_id (by omega)]; omega
        have e3 : ((A ++ Y).length + X2.length : Nat) = A.length + (X1.length + X2.length) := by simp; omega
        simp only [Option.bind_some, e2]
        rw [e3, show (X1.length : Int) = (Y.length : Int) by rw [hl]] at r1
        exact r1
      · have hd : decide ((X.length : Int) > (Y.length : Int)) = false := by simp; omega
        obtain ⟨Y1, Y2, rfl, hl⟩ : ∃ Y1 Y2, Y = Y1 ++ Y2 ∧ Y2.length = X.length := ⟨Y.take (Y.length - X.length), Y.drop (Y.length - X.length), by simp, by simp; omega⟩
        simp only [List.length_append] at *
        have e1 := swap_ok (y1 := y1) (y2 := y2) (y3 := y3) (fu := fu) (A := A) (X := X) (M := Y1) (Y := Y2) (T := T) (a := w64 (((A.length + X.length : Nat) : Int) - (X.length : Int))) (b := w64 (w64 (((A.length + X.length : Nat) : Int) + ((Y1.length + Y2.length : Nat) : Int)) - (X.length : Int))) (n := (X.length : Int)) hl.symm (by omega) (by omega)
          (by rw [w64_id (by omega)]; omega) (by rw [w64_id (x := ((A.length + X.length : Nat) : Int) + _) (by omega), w64_id (by omega)]; omega) rfl
        obtain ⟨X', Y', A', T', r1, r2, r3, r4, r5⟩ := rot1 fu n Y2 Y1 A (X ++ T) (by omega) (by intro h; subst h; simp at hl; omega) (by intro h; subst h; simp at h1 h2; omega) (by omega) (by omega)
        refine ⟨X', Y', A', T', ?_, r2, by omega, by rw [r4]; simp, by omega⟩
        simp only [hd, Bool.false_eq_true, if_false, List.append_assoc] at *
        rw [e1]
        have e2 : w64 (((Y1.length + Y2.length : Nat) : Int) - (X.length : Int)) = (Y1.length : Int) := by rw [w64_id (by omega)]; omega
        simp only [Option.bind_some, e2]
        rw [hl] at r1
        exact r1

theorem rot_ok {fu : Nat} {A X Y T : List Int} {a m b : Int} (hX : X ≠ []) (hY : Y ≠ []) (hf : X.length + Y.length < fu) (hb : A.length + X.length + Y.length < 500000) (ha : a = (A.length : Int)) (hm : m = ((A.length + X.length : Nat) : Int)) (hb2 : b = ((A.length + X.length + Y.length : Nat) : Int)) :
    SlicesrotateCmpFuncint_v1 fu (A ++ (X ++ (Y ++ T))) a m b y1 y2 y3 = some (A ++ (Y ++ (X ++ T))) := by
  subst ha hm hb2
  unfold SlicesrotateCmpFuncint_v1
  obtain ⟨X', Y', A', T', r1, r2, r3, r4, r5⟩ := rot1 (y1 := y1) (y2 := y2) (y3 := y3) fu fu X Y A T hf hX hY hf (by omega)
  have e1 : w64 (((A.length + X.length : Nat) : Int) - (A.length : Int)) = (X.length : Int) := by rw [w64_id (by omega)]; omega
  have e2 : w64 (((A.length + X.length + Y.length : Nat) : Int) - ((A.length + X.length : Nat) : Int)) = (Y.length : Int) := by rw [w64_id (by omega)]; omega
  rw [e1, e2, r1]
  simp only [Option.bind_some]
  have hl : A'.length + X'.length + Y'.length + T'.length = A.length + X.length + Y.length + T.length := by
    have := congrArg List.length r4; simp at this; omega
  have e3 := swap_ok (y1 := y1) (y2 := y2) (y3 := y3) (fu := fu) (A := A') (X := X') (M := []) (Y := Y') (T := T') (a := w64 (((A.length + X.length : Nat) : Int) - (X'.length : Int))) (b := ((A.length + X.length : Nat) : Int)) (n := (X'.length : Int)) r2.symm (by omega) (by simp; omega)
    (by rw [w64_id (by omega)]; omega) (by simp; omega) rfl
  simp only [List.nil_append] at e3
  rw [e3, Option.bind_some, r4]

/-- a search by halves -/
def bs (test : Int → Option Bool) : Nat → Int → Int → Option (Int × Int)
  | 0, _, _ => none
  | n + 1, i, j => if decide (i < j) then (test (w64 (Int.fdiv (IntKind.wrap .u64 (w64 (i + j))) (2 ^ (min (Int.toNat 1) (IntKind.bits .u64)))))).bind fun c =>
      if c then bs test n (w64 (w64 (Int.fdiv (IntKind.wrap .u64 (w64 (i + j))) (2 ^ (min (Int.toNat 1) (IntKind.bits .u64)))) + 1)) j else bs test n i (w64 (Int.fdiv (IntKind.wrap .u64 (w64 (i + j))) (2 ^ (min (Int.toNat 1) (IntKind.bits .u64))))) else some (i, j)

theorem half_eq {a b : Nat} (h : a + b < 2000000) : w64 (Int.fdiv (IntKind.wrap .u64 (w64 ((a : Int) + (b : Int)))) (2 ^ (min (Int.toNat 1) (IntKind.bits .u64)))) = (((a + b) / 2 : Nat) : Int) := by
  rw [w64_id (x := (a : Int) + b) (by omega)]
  have e1 : IntKind.wrap .u64 ((a : Int) + b) = ((a + b : Nat) : Int) := by
    unfold IntKind.wrap; simp [IntKind.bits]; omega
  have e2 : (2 ^ (min (Int.toNat 1) (IntKind.bits .u64)) : Int) = 2 := by decide
  rw [e1, e2, Int.fdiv_eq_ediv_of_nonneg _ (by decide)]
  rw [w64_id (by omega)]; omega

theorem bs_ok (p : Nat → Bool) (test : Int → Option Bool) : ∀ (n lo hi : Nat), hi - lo < n → lo ≤ hi → hi < 1000000 → (∀ k : Nat, lo ≤ k → k < hi → test (k : Int) = some (p k)) → (∀ k k', lo ≤ k → k ≤ k' → k' < hi → p k' = true → p k = true) →
    ∃ r : Nat, lo ≤ r ∧ r ≤ hi ∧ bs test n lo hi = some ((r : Int), (r : Int)) ∧ (∀ k, lo ≤ k → k < r → p k = true) ∧ (∀ k, r ≤ k → k < hi → p k = false)
  | 0, _, _, h, _, _, _, _ => absurd h (by omega)
  | n + 1, lo, hi, h, hle, hb, ht, hm => by
    rw [bs]
    by_cases hlt : lo < hi
    · have hd : decide ((lo : Int) < (hi : Int)) = true := by simp; omega
      have hh := half_eq (a := lo) (b := hi) (by omega)
      have t1 := ht ((lo + hi) / 2) (by omega) (by omega)
      simp only [hd, if_true, hh, t1, Option.bind_some]
      cases hp : p ((lo + hi) / 2) with
      | true =>
        have e : w64 ((((lo + hi) / 2 : Nat) : Int) + 1) = (((lo + hi) / 2 + 1 : Nat) : Int) := by rw [w64_id (by omega)]; omega
        simp only [if_true, e]
        obtain ⟨r, r1, r2, r3, r4, r5⟩ := bs_ok p test n ((lo + hi) / 2 + 1) hi (by omega) (by omega) hb (fun k h1 h2 => ht k (by omega) h2) (fun k k' h1 h2 h3 => hm k k' (by omega) h2 h3)
        refine ⟨r, by omega, r2, r3, ?_, r5⟩
        intro k k1 k2
        rcases Nat.lt_or_ge k ((lo + hi) / 2 + 1) with h1 | h1
        · exact hm k ((lo + hi) / 2) k1 (by omega) (by omega) hp
        · exact r4 k h1 k2
      | false =>
        simp only [Bool.false_eq_true, if_false]
        obtain ⟨r, r1, r2, r3, r4, r5⟩ := bs_ok p test n lo ((lo + hi) / 2) (by omega) (by omega) (by omega) (fun k h1 h2 => ht k h1 (by omega)) (fun k k' h1 h2 h3 => hm k k' h1 h2 (by omega))
        refine ⟨r, r1, by omega, r3, r4, ?_⟩
        intro k k1 k2
        rcases Nat.lt_or_ge k ((lo + hi) / 2) with h1 | h1
        · exact r5 k k1 h1
        · cases hk : p k with
          | false => rfl
          | true => have := hm ((lo + hi) / 2) k (by omega) h1 k2 hk; rw [hp] at this; cases this
    · have hd : decide ((lo : Int) < (hi : Int)) = false := by simp; omega
      obtain rfl : lo = hi := by omega
      refine ⟨lo, Nat.le_refl _, Nat.le_refl _, by simp, ?_, ?_⟩
      · intro k h1 h2; omega
      · intro k h1 h2; omega

theorem obind_congr {α β : Type} {o : Option α} {f g : α → Option β} (h : ∀ x, f x = g x) : o.bind f = o.bind g := by cases o <;> simp [h]

theorem sym1_bs (x0 : List Int) (x1 : Int) : ∀ (n : Nat) (i j : Int), SlicessymMergeCmpFuncint_v1.loop1 x0 x1 y1 y2 y3 n i j = bs (fun h => (gx x0 h).bind fun u => (gx x0 x1).bind fun v => (FareCarchoose_1_v1 u v y1 y2 y3).bind fun c => some (decide (c < 0))) n i j
  | 0, _, _ => rfl
  | n + 1, i, j => by
    rw [SlicessymMergeCmpFuncint_v1.loop1, bs]
    split
    · simp only [Option.bind_assoc, Option.bind_some]
      refine obind_congr fun u => obind_congr fun v => obind_congr fun c => ?_
      simp only [bnd_eq, sym1_bs x0 x1 n]
      cases decide (c < 0) <;> rfl
    · rfl
theorem sym3_bs (x0 : List Int) (x2 : Int) : ∀ (n : Nat) (i j : Int), SlicessymMergeCmpFuncint_v1.loop3 x0 x2 y1 y2 y3 n i j = bs (fun h => (gx x0 x2).bind fun u => (gx x0 h).bind fun v => (FareCarchoose_1_v1 u v y1 y2 y3).bind fun c => some (!(decide (c < 0)))) n i j
  | 0, _, _ => rfl
  | n + 1, i, j => by
    rw [SlicessymMergeCmpFuncint_v1.loop3, bs]
    split
    · simp only [Option.bind_assoc, Option.bind_some]
      refine obind_congr fun u => obind_congr fun v => obind_congr fun c => ?_
      simp only [bnd_eq, sym3_bs x0 x2 n]
      cases decide (c < 0) <;> rfl
    · rfl
theorem sym5_bs (x0 : List Int) (x1 x2 x3 : Int) : ∀ (n : Nat) (i j : Int), SlicessymMergeCmpFuncint_v1.loop5 x0 x1 x2 x3 y1 y2 y3 n i j = bs (fun h => (gx x0 (w64 ((w64 ((w64 ((w64 (Int.fdiv (IntKind.wrap .u64 (w64 (x1 + x3))) (2 ^ (min (Int.toNat 1) (IntKind.bits .u64))))) + x2)) - 1)) - h))).bind fun u => (gx x0 h).bind fun v => (FareCarchoose_1_v1 u v y1 y2 y3).bind fun c => some (!(decide (c < 0)))) n i j
  | 0, _, _ => rfl
  | n + 1, i, j => by
    rw [SlicessymMergeCmpFuncint_v1.loop5, bs]
    split
    · simp only [Option.bind_assoc, Option.bind_some]
      refine obind_congr fun u => obind_congr fun v => obind_congr fun c => ?_
      simp only [bnd_eq, sym5_bs x0 x1 x2 x3 n]
      cases decide (c < 0) <;> rfl
    · rfl

theorem bub1 : ∀ (Y1 : List Int) (n : Nat) (A T : List Int) (x : Int), Y1.length < n → A.length + Y1.length < 1000000 →
    ∃ j, SlicessymMergeCmpFuncint_v1.loop2 ((A.length + Y1.length + 1 : Nat) : Int) n (A.length : Int) (A ++ (x :: (Y1 ++ T))) = some (j, A ++ (Y1 ++ x :: T))
  | [], n, A, T, x, hn, hb => by
    obtain ⟨n, rfl⟩ : ∃ m, n = m + 1 := ⟨n - 1, by simp at hn; omega⟩
    have h1 : w64 (((A.length + ([] : List Int).length + 1 : Nat) : Int) - 1) = (A.length : Int) := by rw [w64_id (by simp; omega)]; simp
    rw [SlicessymMergeCmpFuncint_v1.loop2, h1]
    exact ⟨_, by simp; exact rfl⟩
  | y :: Y1, n, A, T, x, hn, hb => by
    simp only [List.length_cons] at hn hb
    obtain ⟨n, rfl⟩ : ∃ m, n = m + 1 := ⟨n - 1, by omega⟩
    obtain ⟨j, hj⟩ := bub1 Y1 n (A ++ [y]) T x (by omega) (by simp; omega)
    refine ⟨j, ?_⟩
    have h1 : w64 (((A.length + (y :: Y1).length + 1 : Nat) : Int) - 1) = ((A.length + Y1.length + 1 : Nat) : Int) := by rw [w64_id (by simp; omega)]; simp; omega
    have h2 : decide ((A.length : Int) < ((A.length + Y1.length + 1 : Nat) : Int)) = true := by simp; omega
    have h3 : w64 ((A.length : Int) + 1) = ((A ++ [y]).length : Int) := by rw [w64_id (by omega)]; simp
    have h3' : ((A ++ [y]).length : Int) = ((A ++ [x]).length : Int) := by simp
    have d1 : A ++ (x :: (y :: Y1 ++ T)) = (A ++ [x]) ++ y :: (Y1 ++ T) := by simp
    have e1 : gx (A ++ (x :: (y :: Y1 ++ T))) ((A ++ [y]).length : Int) = some y := by rw [d1]; exact gx_mid h3'
    have e2 : gx (A ++ (x :: (y :: Y1 ++ T))) (A.length : Int) = some x := gx_mid rfl
    have e3 : ix (A ++ (x :: (y :: Y1 ++ T))) (A.length : Int) = some () := ix_mid rfl
    have e4 : sx (A ++ (x :: (y :: Y1 ++ T))) (A.length : Int) y = some ((A ++ [y]) ++ y :: (Y1 ++ T)) := by rw [sx_mid rfl]; simp
    have e5 : ix ((A ++ [y]) ++ y :: (Y1 ++ T)) ((A ++ [y]).length : Int) = some () := ix_mid rfl
    have e6 : sx ((A ++ [y]) ++ y :: (Y1 ++ T)) ((A ++ [y]).length : Int) x = some ((A ++ [y]) ++ x :: (Y1 ++ T)) := sx_mid rfl
    rw [SlicessymMergeCmpFuncint_v1.loop2]
    simp only [h1, h2, if_true, h3, e1, e2, e3, e4, e5, e6, Option.bind_some]
    have k : (((A ++ [y]).length + Y1.length + 1 : Nat) : Int) = ((A.length + (y :: Y1).length + 1 : Nat) : Int) := by simp; omega
    rw [k] at hj
    rw [hj]; simp

theorem bub2 : ∀ (n : Nat) (X2 : List Int) (A T : List Int) (y : Int), X2.length < n → A.length + X2.length < 1000000 →
    ∃ j, SlicessymMergeCmpFuncint_v1.loop4 (A.length : Int) n ((A.length + X2.length : Nat) : Int) (A ++ (X2 ++ y :: T)) = some (j, A ++ (y :: (X2 ++ T)))
  | 0, _, _, _, _, h, _ => absurd h (by omega)
  | n + 1, X2, A, T, y, hn, hb => by
    rw [SlicessymMergeCmpFuncint_v1.loop4]
    rcases List.eq_nil_or_concat X2 with rfl | ⟨S, x, rfl⟩
    · exact ⟨_, by simp; exact rfl⟩
    · simp only [List.concat_eq_append] at *
      simp only [List.length_append, List.length_cons, List.length_nil] at hn hb
      obtain ⟨j, hj⟩ := bub2 n S A (x :: T) y (by omega) (by omega)
      refine ⟨j, ?_⟩
      have h1 : decide (((A.length + (S ++ [x]).length : Nat) : Int) > (A.length : Int)) = true := by simp; omega
      have h2 : w64 (((A.length + (S ++ [x]).length : Nat) : Int) - 1) = ((A.length + S.length : Nat) : Int) := by rw [w64_id (by simp; omega)]; simp; omega
      have d1 : A ++ ((S ++ [x]) ++ y :: T) = (A ++ S) ++ x :: (y :: T) := by simp
      have d2 : A ++ ((S ++ [x]) ++ y :: T) = (A ++ (S ++ [x])) ++ y :: T := by simp
      have e1 : gx (A ++ ((S ++ [x]) ++ y :: T)) ((A.length + S.length : Nat) : Int) = some x := by rw [d1]; exact gx_mid (by simp)
      have e2 : gx (A ++ ((S ++ [x]) ++ y :: T)) ((A.length + (S ++ [x]).length : Nat) : Int) = some y := by rw [d2]; exact gx_mid (by simp)
      have e3 : ix (A ++ ((S ++ [x]) ++ y :: T)) ((A.length + (S ++ [x]).length : Nat) : Int) = some () := by rw [d2]; exact ix_mid (by simp)
      have e4 : sx (A ++ ((S ++ [x]) ++ y :: T)) ((A.length + (S ++ [x]).length : Nat) : Int) x = some ((A ++ S) ++ x :: (x :: T)) := by rw [d2, sx_mid (by simp)]; simp
      have e5 : ix ((A ++ S) ++ x :: (x :: T)) ((A.length + S.length : Nat) : Int) = some () := ix_mid (by simp)
      have e6 : sx ((A ++ S) ++ x :: (x :: T)) ((A.length + S.length : Nat) : Int) y = some (A ++ (S ++ y :: (x :: T))) := by rw [sx_mid (by simp)]; simp
      simp only [h1, if_true, h2, e1, e2, e3, e4, e5, e6, Option.bind_some]
      rw [hj]; simp

theorem gx_dv {d : List Int} {k : Nat} (h : k < d.length) : gx d (k : Int) = some (d.getD k 0) := by
  rw [gx_nat, List.getD_eq_getElem?_getD, List.getElem?_eq_getElem h]; rfl
theorem dv_X {A X Z : List Int} {k : Nat} (h1 : A.length ≤ k) (h2 : k < A.length + X.length) : (A ++ (X ++ Z)).getD k 0 = X.getD (k - A.length) 0 := by
  simp only [List.getD_eq_getElem?_getD]
  rw [List.getElem?_append_right h1, List.getElem?_append_left (by omega)]
theorem dv_Y {A X Y T : List Int} {k : Nat} (h1 : A.length + X.length ≤ k) (h2 : k < A.length + X.length + Y.length) : (A ++ (X ++ (Y ++ T))).getD k 0 = Y.getD (k - (A.length + X.length)) 0 := by
  rw [show A ++ (X ++ (Y ++ T)) = (A ++ X) ++ (Y ++ T) by simp, dv_X (by simp; omega) (by simp; omega)]; simp
theorem getD_mem {X : List Int} {k : Nat} (h : k < X.length) : X.getD k 0 ∈ X := by
  rw [List.getD_eq_getElem?_getD, List.getElem?_eq_getElem h]; exact List.getElem_mem h
theorem pw_getD {R : Int → Int → Prop} {X : List Int} (h : X.Pairwise R) {i j : Nat} (h1 : i < j) (h2 : j < X.length) : R (X.getD i 0) (X.getD j 0) := by
  rw [List.getD_eq_getElem?_getD, List.getD_eq_getElem?_getD, List.getElem?_eq_getElem h2, List.getElem?_eq_getElem (Nat.lt_trans h1 h2)]
  exact List.pairwise_iff_getElem.1 h i j (Nat.lt_trans h1 h2) h2 h1
theorem pw_le {X : List Int} (h : X.Pairwise (Lt D)) {i j : Nat} (h1 : i ≤ j) (h2 : j < X.length) : D (X.getD i 0) ≤ D (X.getD j 0) := by
  rcases Nat.lt_or_eq_of_le h1 with h3 | rfl
  · exact (pw_getD h h3 h2).le
  · exact Int.le_refl _
theorem take_getD {X : List Int} {n : Nat} {x : Int} (h : x ∈ X.take n) : ∃ i, i < n ∧ i < X.length ∧ x = X.getD i 0 := by
  obtain ⟨i, hi, e⟩ := List.mem_iff_getElem.1 h
  simp only [List.length_take] at hi
  refine ⟨i, by omega, by omega, ?_⟩
  rw [List.getD_eq_getElem?_getD, List.getElem?_eq_getElem (by omega), ← e]; simp
theorem drop_getD {X : List Int} {n : Nat} {x : Int} (h : x ∈ X.drop n) : ∃ i, n ≤ i ∧ i < X.length ∧ x = X.getD i 0 := by
  obtain ⟨i, hi, e⟩ := List.mem_iff_getElem.1 h
  simp only [List.length_drop] at hi
  refine ⟨n + i, by omega, by omega, ?_⟩
  rw [List.getD_eq_getElem?_getD, List.getElem?_eq_getElem (by omega), ← e]; simp

theorem sym_ok (hC : ∀ x y, V x → V y → ∃ c, FareCarchoose_1_v1 x y y1 y2 y3 = some c ∧ (c < 0 ↔ D x < D y)) : ∀ (fu : Nat) (A X Y T : List Int) (a m b : Int), a = (A.length : Int) → m = ((A.length + X.length : Nat) : Int) → b = ((A.length + X.length + Y.length : Nat) : Int) → X ≠ [] → Y ≠ [] → X.length + Y.length + 2 < fu →
    A.length + X.length + Y.length < 500000 → (∀ x ∈ X, V x) → (∀ y ∈ Y, V y) → (∀ x ∈ X, ∀ y ∈ Y, x < y) → X.Pairwise (Lt D) → Y.Pairwise (Lt D) →
    ∃ R, SlicessymMergeCmpFuncint_v1 fu (A ++ (X ++ (Y ++ T))) a m b y1 y2 y3 = some (A ++ (R ++ T)) ∧ R.Perm (X ++ Y) ∧ R.Pairwise (Lt D)
  | 0, _, _, _, _, _, _, _, _, _, _, _, _, h, _, _, _, _, _, _ => absurd h (by omega)
  | fu + 1, A, X, Y, T, a, m, b, ha, hm, hb, hX, hY, hf, hz, vX, vY, hlt, sX, sY => by
    have lx : 0 < X.length := List.length_pos_iff.2 hX
    have ly : 0 < Y.length := List.length_pos_iff.2 hY
    have hdl : (A ++ (X ++ (Y ++ T))).length = A.length + X.length + Y.length + T.length := by simp; omega
    rw [SlicessymMergeCmpFuncint_v1]
    by_cases c1 : X.length = 1
    · obtain ⟨x, rfl⟩ := List.length_eq_one_iff.1 c1
      have hd : (w64 (m - a) == 1) = true := by rw [w64_id (by omega)]; simp; omega
      rw [if_pos hd, sym1_bs]
      obtain ⟨r, r1, r2, r3, r4, r5⟩ := bs_ok (fun k => decide (D ((A ++ ([x] ++ (Y ++ T))).getD k 0) < D x)) (fun h => (gx (A ++ ([x] ++ (Y ++ T))) h).bind fun u => (gx (A ++ ([x] ++ (Y ++ T))) a).bind fun v => (FareCarchoose_1_v1 u v y1 y2 y3).bind fun c => some (decide (c < 0))) fu (A.length + [x].length) (A.length + [x].length + Y.length) (by omega) (by omega) (by omega)
        (by
          intro k k1 k2
          rw [gx_dv (by omega), ha, show A ++ ([x] ++ (Y ++ T)) = A ++ x :: (Y ++ T) by rfl, gx_mid rfl]
          obtain ⟨c, e1, e2⟩ := hC ((A ++ x :: (Y ++ T)).getD k 0) x (by rw [show A ++ x :: (Y ++ T) = A ++ ([x] ++ (Y ++ T)) by rfl, dv_Y k1 k2]; exact vY _ (getD_mem (by omega))) (vX x (by simp))
          simp only [Option.bind_some, e1]
          congr 1; exact decide_eq_decide.2 e2)
        (by
          intro k k' k1 k2 k3 h
          simp only [decide_eq_true_eq] at h ⊢
          rw [dv_Y (by omega) k3] at h
          rw [dv_Y k1 (by omega)]
          exact Int.lt_of_le_of_lt (pw_le sY (by omega) (by omega)) h)
      subst ha hm hb
      rw [r3]
      simp only [Option.bind_some]
      obtain ⟨j, hj⟩ := bub1 (Y.take (r - (A.length + 1))) fu A (Y.drop (r - (A.length + 1)) ++ T) x (by simp; omega) (by simp; omega)
      simp only [List.length_cons, List.length_nil, Nat.zero_add] at r1 r2 r4 r5 c1
      have hr : ((A.length + (Y.take (r - (A.length + 1))).length + 1 : Nat) : Int) = (r : Int) := by simp; omega
      rw [hr] at hj
      have hdd : A ++ ([x] ++ (Y ++ T)) = A ++ (x :: (Y.take (r - (A.length + 1)) ++ (Y.drop (r - (A.length + 1)) ++ T))) := by
        rw [← List.append_assoc (Y.take _), List.take_append_drop]; rfl
      rw [hdd, hj]
      simp only [Option.bind_some]
      refine ⟨Y.take (r - (A.length + 1)) ++ x :: Y.drop (r - (A.length + 1)), by simp, ?_, ?_⟩
      · have := (List.perm_middle (a := x) (l₁ := Y.take (r - (A.length + 1))) (l₂ := Y.drop (r - (A.length + 1))))
        rw [List.take_append_drop] at this; exact this
      · have hs := sY
        rw [← List.take_append_drop (r - (A.length + 1)) Y, List.pairwise_append] at hs
        refine List.pairwise_append.2 ⟨hs.1, List.pairwise_cons.2 ⟨?_, hs.2.1⟩, ?_⟩
        · intro y hy
          obtain ⟨i, i1, i2, rfl⟩ := drop_getD hy
          have h5 := r5 (A.length + 1 + i) (by omega) (by omega)
          rw [show A ++ ([x] ++ (Y ++ T)) = A ++ ([x] ++ (Y ++ T)) from rfl, dv_Y (by simp) (by simp; omega)] at h5
          simp only [List.length_cons, List.length_nil, Nat.zero_add, Nat.add_sub_cancel_left, decide_eq_false_iff_not] at h5
          have := hlt x (by simp) _ (getD_mem i2)
          unfold Lt; omega
        · intro y hy z hz'
          rcases List.mem_cons.1 hz' with rfl | h
          · obtain ⟨i, i1, i2, rfl⟩ := take_getD hy
            have h4 := r4 (A.length + 1 + i) (by omega) (by omega)
            rw [dv_Y (by simp) (by simp; omega)] at h4
            simp only [List.length_cons, List.length_nil, Nat.zero_add, Nat.add_sub_cancel_left, decide_eq_true_eq] at h4
            exact .inl h4
          · exact hs.2.2 y hy z h
    have hd1 : ¬ (w64 (m - a) == 1) = true := by rw [w64_id (by omega)]; simp; omega
    rw [if_neg hd1]
    by_cases c2 : Y.length = 1
    · obtain ⟨y, rfl⟩ := List.length_eq_one_iff.1 c2
      have hd : (w64 (b - m) == 1) = true := by rw [w64_id (by omega)]; simp; omega
      rw [if_pos hd, sym3_bs]
      obtain ⟨r, r1, r2, r3, r4, r5⟩ := bs_ok (fun k => !(decide (D y < D ((A ++ (X ++ ([y] ++ T))).getD k 0)))) (fun h => (gx (A ++ (X ++ ([y] ++ T))) m).bind fun u => (gx (A ++ (X ++ ([y] ++ T))) h).bind fun v => (FareCarchoose_1_v1 u v y1 y2 y3).bind fun c => some (!(decide (c < 0)))) fu A.length (A.length + X.length) (by omega) (by omega) (by omega)
        (by
          intro k k1 k2
          have hgm : gx (A ++ (X ++ ([y] ++ T))) m = some y := by
            rw [show A ++ (X ++ ([y] ++ T)) = (A ++ X) ++ y :: T by simp]; exact gx_mid (by rw [hm]; simp)
          rw [hgm, gx_dv (by omega)]
          obtain ⟨c, e1, e2⟩ := hC y ((A ++ (X ++ ([y] ++ T))).getD k 0) (vY y (by simp)) (by rw [dv_X k1 k2]; exact vX _ (getD_mem (by omega)))
          simp only [Option.bind_some, e1]
          congr 2; exact decide_eq_decide.2 e2)
        (by
          intro k k' k1 k2 k3 h
          simp only [Bool.not_eq_true', decide_eq_false_iff_not] at h ⊢
          rw [dv_X (by omega) k3] at h
          rw [dv_X k1 (by omega)]
          have := pw_le sX (i := k - A.length) (j := k' - A.length) (by omega) (by omega)
          omega)
      subst ha hm hb
      rw [r3]
      simp only [Option.bind_some]
      have hr : ((A ++ X.take (r - A.length)).length : Int) = (r : Int) := by simp; omega
      obtain ⟨j, hj⟩ := bub2 fu (X.drop (r - A.length)) (A ++ X.take (r - A.length)) T y (by simp; omega) (by simp; omega)
      have hr2 : (((A ++ X.take (r - A.length)).length + (X.drop (r - A.length)).length : Nat) : Int) = ((A.length + X.length : Nat) : Int) := by simp; omega
      rw [hr2, hr] at hj
      have hdd : A ++ (X ++ ([y] ++ T)) = (A ++ X.take (r - A.length)) ++ (X.drop (r - A.length) ++ y :: T) := by
        rw [List.append_assoc A, ← List.append_assoc (X.take _), List.take_append_drop]; rfl
      rw [hdd, hj]
      simp only [Option.bind_some]
      refine ⟨X.take (r - A.length) ++ y :: X.drop (r - A.length), by simp, ?_, ?_⟩
      · refine (List.perm_middle (a := y) (l₁ := X.take (r - A.length)) (l₂ := X.drop (r - A.length))).trans ?_
        rw [List.take_append_drop]
        exact (List.perm_append_comm (l₁ := [y]) (l₂ := X))
      · have hs := sX
        rw [← List.take_append_drop (r - A.length) X, List.pairwise_append] at hs
        refine List.pairwise_append.2 ⟨hs.1, List.pairwise_cons.2 ⟨?_, hs.2.1⟩, ?_⟩
        · intro x hx
          obtain ⟨i, i1, i2, rfl⟩ := drop_getD hx
          have h5 := r5 (A.length + i) (by omega) (by omega)
          rw [dv_X (by omega) (by omega)] at h5
          simp only [Nat.add_sub_cancel_left, Bool.not_eq_false', decide_eq_true_eq] at h5
          exact .inl h5
        · intro x hx z hz'
          rcases List.mem_cons.1 hz' with rfl | h
          · obtain ⟨i, i1, i2, rfl⟩ := take_getD hx
            have h4 := r4 (A.length + i) (by omega) (by omega)
            rw [dv_X (by omega) (by omega)] at h4
            simp only [Nat.add_sub_cancel_left, Bool.not_eq_true', decide_eq_false_iff_not] at h4
            have := hlt _ (getD_mem i2) z (by simp)
            unfold Lt; omega
          · exact hs.2.2 x hx z h
    have hd2 : ¬ (w64 (b - m) == 1) = true := by rw [w64_id (by omega)]; simp; omega
    rw [if_neg hd2]
    subst ha hm hb
    -- the middle
    have hmid := half_eq (a := A.length) (b := A.length + X.length + Y.length) (by omega)
    generalize hM : (A.length + (A.length + X.length + Y.length)) / 2 = mid at hmid
    simp only [sym5_bs, hmid, bnd_eq]
    obtain ⟨s0, r0, hpair, hcase⟩ : ∃ s0 r0 : Nat, (if decide (((A.length + X.length : Nat) : Int) > (mid : Int)) = true then (w64 (w64 ((mid : Int) + ((A.length + X.length : Nat) : Int)) - ((A.length + X.length + Y.length : Nat) : Int)), (mid : Int)) else ((A.length : Int), ((A.length + X.length : Nat) : Int))) = ((s0 : Int), (r0 : Int))
        ∧ ((mid < A.length + X.length ∧ s0 + (A.length + X.length + Y.length) = mid + (A.length + X.length) ∧ r0 = mid) ∨ (A.length + X.length ≤ mid ∧ s0 = A.length ∧ r0 = A.length + X.length)) := by
      by_cases h : mid < A.length + X.length
      · refine ⟨mid + (A.length + X.length) - (A.length + X.length + Y.length), mid, ?_, .inl ⟨h, by omega, rfl⟩⟩
        rw [if_pos (by simp; omega), w64_id (x := (mid : Int) + _) (by omega), w64_id (by omega)]
        congr 1; omega
      · refine ⟨A.length, A.length + X.length, ?_, .inr ⟨by omega, rfl, rfl⟩⟩
        rw [if_neg (by simp; omega)]
    have hq1 : w64 (w64 ((mid : Int) + ((A.length + X.length : Nat) : Int)) - 1) = ((mid + (A.length + X.length) - 1 : Nat) : Int) := by
      rw [w64_id (x := (mid : Int) + _) (by omega), w64_id (by omega)]; omega
    simp only [hpair, hq1]
    obtain ⟨r, r1, r2, r3, r4, r5⟩ := bs_ok (fun k => !(decide (D ((A ++ (X ++ (Y ++ T))).getD (mid + (A.length + X.length) - 1 - k) 0) < D ((A ++ (X ++ (Y ++ T))).getD k 0)))) (fun h => (gx (A ++ (X ++ (Y ++ T))) (w64 (((mid + (A.length + X.length) - 1 : Nat) : Int) - h))).bind fun u => (gx (A ++ (X ++ (Y ++ T))) h).bind fun v => (FareCarchoose_1_v1 u v y1 y2 y3).bind fun c => some (!(decide (c < 0)))) fu s0 r0 (by omega) (by omega) (by omega)
      (by
        intro k k1 k2
        have e0 : w64 (((mid + (A.length + X.length) - 1 : Nat) : Int) - (k : Int)) = ((mid + (A.length + X.length) - 1 - k : Nat) : Int) := by rw [w64_id (by omega)]; omega
        simp only [e0]
        rw [gx_dv (by omega), gx_dv (by omega)]
        obtain ⟨c, e1, e2⟩ := hC ((A ++ (X ++ (Y ++ T))).getD (mid + (A.length + X.length) - 1 - k) 0) ((A ++ (X ++ (Y ++ T))).getD k 0)
          (by rw [dv_Y (by omega) (by omega)]; exact vY _ (getD_mem (by omega))) (by rw [dv_X (by omega) (by omega)]; exact vX _ (getD_mem (by omega)))
        simp only [Option.bind_some, e1]
        congr 2; exact decide_eq_decide.2 e2)
      (by
        intro k k' k1 k2 k3 h
        simp only [Bool.not_eq_true', decide_eq_false_iff_not] at h ⊢
        rw [dv_Y (by omega) (by omega), dv_X (by omega) (by omega)] at h
        rw [dv_Y (by omega) (by omega), dv_X (by omega) (by omega)]
        have h1 := pw_le sX (i := k - A.length) (j := k' - A.length) (by omega) (by omega)
        have h2 := pw_le sY (i := mid + (A.length + X.length) - 1 - k' - (A.length + X.length)) (j := mid + (A.length + X.length) - 1 - k - (A.length + X.length)) (by omega) (by omega)
        omega)
    rw [r3]
    simp only [Option.bind_some]
    have he : w64 (w64 ((mid : Int) + ((A.length + X.length : Nat) : Int)) - (r : Int)) = ((mid + (A.length + X.length) - r : Nat) : Int) := by
      rw [w64_id (x := (mid : Int) + _) (by omega), w64_id (by omega)]; omega
    simp only [he]
    -- the four parts
    obtain ⟨X1, X2, eX, lX1⟩ : ∃ X1 X2, X = X1 ++ X2 ∧ A.length + X1.length = r := ⟨X.take (r - A.length), X.drop (r - A.length), (List.take_append_drop _ _).symm, by simp; omega⟩
    obtain ⟨Y1, Y2, eY, lY1⟩ : ∃ Y1 Y2, Y = Y1 ++ Y2 ∧ A.length + X.length + Y1.length = mid + (A.length + X.length) - r := ⟨Y.take (mid - r), Y.drop (mid - r), (List.take_append_drop _ _).symm, by simp; omega⟩
    have lXe : X.length = X1.length + X2.length := by rw [eX]; simp
    have lYe : Y.length = Y1.length + Y2.length := by rw [eY]; simp
    have sX' := sX; have sY' := sY
    rw [eX, List.pairwise_append] at sX'
    rw [eY, List.pairwise_append] at sY'
    have gX : ∀ i, i < X.length → (A ++ (X ++ (Y ++ T))).getD (A.length + i) 0 = X.getD i 0 := fun i hi => by rw [dv_X (by omega) (by omega)]; congr 1; omega
    have gY : ∀ i, i < Y.length → (A ++ (X ++ (Y ++ T))).getD (A.length + X.length + i) 0 = Y.getD i 0 := fun i hi => by rw [dv_Y (by omega) (by omega)]; congr 1; omega
    have q1 : ∀ x ∈ X1, ∀ y ∈ Y2, Lt D x y := by
      intro x hx y hy
      have hxX : x ∈ X := by rw [eX]; simp [hx]
      have hyY : y ∈ Y := by rw [eY]; simp [hy]
      have eX1 : X1 = X.take X1.length := by rw [eX]; simp
      have eY2 : Y2 = Y.drop Y1.length := by rw [eY]; simp
      rw [eX1] at hx; rw [eY2] at hy
      obtain ⟨i, i1, i2, rfl⟩ := take_getD hx
      obtain ⟨j, j1, j2, rfl⟩ := drop_getD hy
      have h4 := r4 (r - 1) (by omega) (by omega)
      simp only [Bool.not_eq_true', decide_eq_false_iff_not] at h4
      rw [show mid + (A.length + X.length) - 1 - (r - 1) = A.length + X.length + Y1.length by omega, gY _ (by omega), show r - 1 = A.length + (X1.length - 1) by omega, gX _ (by omega)] at h4
      have h1 := pw_le sX (i := i) (j := X1.length - 1) (by omega) (by omega)
      have h2 := pw_le sY (i := Y1.length) (j := j) (by omega) (by omega)
      have h3 := hlt _ hxX _ hyY
      unfold Lt; omega
    have q2 : ∀ y ∈ Y1, ∀ x ∈ X2, Lt D y x := by
      intro y hy x hx
      have eX2 : X2 = X.drop X1.length := by rw [eX]; simp
      have eY1 : Y1 = Y.take Y1.length := by rw [eY]; simp
      rw [eX2] at hx; rw [eY1] at hy
      obtain ⟨i, i1, i2, rfl⟩ := drop_getD hx
      obtain ⟨j, j1, j2, rfl⟩ := take_getD hy
      have h5 := r5 r (by omega) (by omega)
      simp only [Bool.not_eq_false', decide_eq_true_eq] at h5
      rw [show mid + (A.length + X.length) - 1 - r = A.length + X.length + (Y1.length - 1) by omega, gY _ (by omega), show r = A.length + X1.length by omega, gX _ (by omega)] at h5
      have h1 := pw_le sX (i := X1.length) (j := i) (by omega) (by omega)
      have h2 := pw_le sY (i := j) (j := Y1.length - 1) (by omega) (by omega)
      unfold Lt; omega
    -- the lower half
    obtain ⟨R1, s1, p1, w1⟩ : ∃ R1, (∀ k : List Int → Option (List Int), (if (if decide ((A.length : Int) < (r : Int)) = true then decide ((r : Int) < (mid : Int)) else false) = true then (SlicessymMergeCmpFuncint_v1 fu (A ++ (X1 ++ (Y1 ++ (X2 ++ (Y2 ++ T))))) (A.length : Int) (r : Int) (mid : Int) y1 y2 y3).bind k else k (A ++ (X1 ++ (Y1 ++ (X2 ++ (Y2 ++ T)))))) = k (A ++ (R1 ++ (X2 ++ (Y2 ++ T))))) ∧ R1.Perm (X1 ++ Y1) ∧ R1.Pairwise (Lt D) := by
      by_cases hc : A.length < r ∧ r < mid
      · obtain ⟨R1, e1, e2, e3⟩ := sym_ok hC fu A X1 Y1 (X2 ++ (Y2 ++ T)) (A.length : Int) (r : Int) (mid : Int) rfl (by omega) (by omega) (by intro h; subst h; simp at lX1; omega) (by intro h; subst h; simp at lY1; omega) (by omega) (by omega)
          (fun x hx => vX x (by rw [eX]; simp [hx])) (fun y hy => vY y (by rw [eY]; simp [hy])) (fun x hx y hy => hlt x (by rw [eX]; simp [hx]) y (by rw [eY]; simp [hy])) sX'.1 sY'.1
        refine ⟨R1, fun k => ?_, e2, e3⟩
        rw [if_pos (by simp; omega), e1]; rfl
      · refine ⟨X1 ++ Y1, fun k => ?_, List.Perm.refl _, ?_⟩
        · rw [if_neg (by simp; omega)]; simp
        · rcases Nat.lt_or_ge A.length r with h | h
          · have : Y1 = [] := List.length_eq_zero_iff.1 (by omega)
            subst this; simpa using sX'.1
          · have : X1 = [] := List.length_eq_zero_iff.1 (by omega)
            subst this; simpa using sY'.1
    have lR1 : A.length + R1.length = mid := by have := p1.length_eq; simp at this; omega
    -- the upper half
    obtain ⟨R2, s2, p2, w2⟩ : ∃ R2, (if (if decide ((mid : Int) < ((mid + (A.length + X.length) - r : Nat) : Int)) = true then decide (((mid + (A.length + X.length) - r : Nat) : Int) < ((A.length + X.length + Y.length : Nat) : Int)) else false) = true then (SlicessymMergeCmpFuncint_v1 fu (A ++ (R1 ++ (X2 ++ (Y2 ++ T)))) (mid : Int) ((mid + (A.length + X.length) - r : Nat) : Int) ((A.length + X.length + Y.length : Nat) : Int) y1 y2 y3).bind (fun q => some q) else some (A ++ (R1 ++ (X2 ++ (Y2 ++ T))))) = some (A ++ ((R1 ++ R2) ++ T)) ∧ R2.Perm (X2 ++ Y2) ∧ R2.Pairwise (Lt D) := by
      by_cases hc : mid < mid + (A.length + X.length) - r ∧ mid + (A.length + X.length) - r < A.length + X.length + Y.length
      · obtain ⟨R2, e1, e2, e3⟩ := sym_ok hC fu (A ++ R1) X2 Y2 T (mid : Int) ((mid + (A.length + X.length) - r : Nat) : Int) ((A.length + X.length + Y.length : Nat) : Int) (by simp; omega) (by simp; omega) (by simp; omega) (by intro h; subst h; simp at lXe; omega) (by intro h; subst h; simp at lYe; omega) (by omega) (by simp; omega)
          (fun x hx => vX x (by rw [eX]; simp [hx])) (fun y hy => vY y (by rw [eY]; simp [hy])) (fun x hx y hy => hlt x (by rw [eX]; simp [hx]) y (by rw [eY]; simp [hy])) sX'.2.1 sY'.2.1
        refine ⟨R2, ?_, e2, e3⟩
        rw [if_pos (by simp; omega), show A ++ (R1 ++ (X2 ++ (Y2 ++ T))) = (A ++ R1) ++ (X2 ++ (Y2 ++ T)) by simp, e1]; simp
      · refine ⟨X2 ++ Y2, ?_, List.Perm.refl _, ?_⟩
        · rw [if_neg (by simp; omega)]; simp
        · rcases Nat.lt_or_ge mid (mid + (A.length + X.length) - r) with h | h
          · have : Y2 = [] := List.length_eq_zero_iff.1 (by omega)
            subst this; simpa using sX'.2.1
          · have : X2 = [] := List.length_eq_zero_iff.1 (by omega)
            subst this; simpa using sY'.2.1
    refine ⟨R1 ++ R2, ?_, ?_, ?_⟩
    · have hs := s1 (fun q => if (if decide ((mid : Int) < ((mid + (A.length + X.length) - r : Nat) : Int)) = true then decide (((mid + (A.length + X.length) - r : Nat) : Int) < ((A.length + X.length + Y.length : Nat) : Int)) else false) = true then (SlicessymMergeCmpFuncint_v1 fu q (mid : Int) ((mid + (A.length + X.length) - r : Nat) : Int) ((A.length + X.length + Y.length : Nat) : Int) y1 y2 y3).bind (fun q => some q) else some q)
      have hs2 := hs.trans s2
      by_cases hc : r < A.length + X.length ∧ A.length + X.length < mid + (A.length + X.length) - r
      · rw [if_pos (by simp; omega)]
        have hro := rot_ok (y1 := y1) (y2 := y2) (y3 := y3) (fu := fu) (A := A ++ X1) (X := X2) (Y := Y1) (T := Y2 ++ T) (a := (r : Int)) (m := ((A.length + X.length : Nat) : Int)) (b := ((mid + (A.length + X.length) - r : Nat) : Int)) (by intro h; subst h; simp at lXe; omega) (by intro h; subst h; simp at lY1; omega) (by omega) (by simp; omega) (by simp; omega) (by simp; omega) (by simp; omega)
        have hdd : A ++ (X ++ (Y ++ T)) = (A ++ X1) ++ (X2 ++ (Y1 ++ (Y2 ++ T))) := by rw [eX, eY]; simp
        rw [hdd, hro, Option.bind_some, show (A ++ X1) ++ (Y1 ++ (X2 ++ (Y2 ++ T))) = A ++ (X1 ++ (Y1 ++ (X2 ++ (Y2 ++ T)))) by simp]
        exact hs2
      · rw [if_neg (by simp; omega)]
        have hdd : A ++ (X ++ (Y ++ T)) = A ++ (X1 ++ (Y1 ++ (X2 ++ (Y2 ++ T)))) := by
          rw [eX, eY]
          rcases Nat.lt_or_ge r (A.length + X.length) with h | h
          · have : Y1 = [] := List.length_eq_zero_iff.1 (by omega)
            subst this; simp
          · have : X2 = [] := List.length_eq_zero_iff.1 (by omega)
            subst this; simp
        rw [hdd]
        exact hs2
    · refine (p1.append p2).trans ?_
      rw [eX, eY]
      have : (Y1 ++ (X2 ++ Y2)).Perm (X2 ++ (Y1 ++ Y2)) := by
        rw [← List.append_assoc, ← List.append_assoc]; exact List.perm_append_comm.append_right _
      simpa using this.append_left X1
    · refine List.pairwise_append.2 ⟨w1, w2, ?_⟩
      intro x hx y hy
      rcases List.mem_append.1 (p1.subset hx) with h1 | h1 <;> rcases List.mem_append.1 (p2.subset hy) with h2 | h2
      · exact sX'.2.2 x h1 y h2
      · exact q1 x h1 y h2
      · exact q2 x h1 y h2
      · exact sY'.2.2 x h1 y h2

/-- blocks of k, each in order, the last perhaps shorter; what stands in an earlier block came earlier -/
inductive Bl (D : Int → Int) (k : Nat) : List Int → Prop where
  | last (L : List Int) : L.length ≤ k → L.Pairwise (Lt D) → Bl D k L
  | cons (B L : List Int) : B.length = k → B.Pairwise (Lt D) → (∀ x ∈ B, ∀ y ∈ L, x < y) → Bl D k L → Bl D k (B ++ L)

theorem blocks (hC : ∀ x y, V x → V y → ∃ c, FareCarchoose_1_v1 x y y1 y2 y3 = some c ∧ (c < 0 ↔ D x < D y)) {fu : Nat} (hf : 30 ≤ fu) : ∀ (m : Nat) (A L : List Int), L.length < m → A.length + L.length ≤ 100000 → (∀ y ∈ L, V y) → L.Pairwise (· < ·) →
    ∃ a b q L', SlicesstableCmpFuncint_v1.loop1 ((A.length + L.length : Nat) : Int) y1 y2 y3 fu m (A.length : Int) ((A.length + 20 : Nat) : Int) (A ++ L) = some (a, b, q) ∧ SlicesinsertionSortCmpFuncint_v1 fu q a ((A.length + L.length : Nat) : Int) y1 y2 y3 = some (A ++ L') ∧ L'.Perm L ∧ Bl D 20 L'
  | 0, _, _, h, _, _, _ => absurd h (by omega)
  | m + 1, A, L, h, hb, hV, hu => by
    rw [SlicesstableCmpFuncint_v1.loop1]
    by_cases c : L.length < 20
    · have d : decide (((A.length + 20 : Nat) : Int) ≤ ((A.length + L.length : Nat) : Int)) = false := by simp; omega
      obtain ⟨R, r1, r2, r3⟩ := ins_ok hC (fu := fu) (A := A) (X := L) (T := []) (by omega) (by omega) hV hu
      simp only [List.append_nil] at r1
      exact ⟨_, _, _, R, by rw [d]; rfl, r1, r2, .last R (by rw [r2.length_eq]; omega) r3⟩
    · obtain ⟨B, L1, rfl, lB⟩ : ∃ B L1, L = B ++ L1 ∧ B.length = 20 := ⟨L.take 20, L.drop 20, (List.take_append_drop _ _).symm, by simp; omega⟩
      simp only [List.length_append] at h hb c
      rw [List.pairwise_append] at hu
      have d : decide (((A.length + 20 : Nat) : Int) ≤ ((A.length + (B ++ L1).length : Nat) : Int)) = true := by simp; omega
      obtain ⟨R, r1, r2, r3⟩ := ins_ok hC (fu := fu) (A := A) (X := B) (T := L1) (by omega) (by omega) (fun y hy => hV y (by simp [hy])) hu.1
      have lR : R.length = 20 := by rw [r2.length_eq, lB]
      obtain ⟨a, b, q, L', e1, e2, e3, e4⟩ := blocks hC hf m (A ++ R) L1 (by omega) (by simp; omega) (fun y hy => hV y (by simp [hy])) hu.2.1
      have x1 : ((A.length + 20 : Nat) : Int) = ((A.length + B.length : Nat) : Int) := by rw [lB]
      have x2 : w64 (((A.length + B.length : Nat) : Int) + 20) = (((A ++ R).length + 20 : Nat) : Int) := by rw [w64_id (by omega)]; simp; omega
      have x3 : ((A.length + B.length : Nat) : Int) = ((A ++ R).length : Int) := by simp; omega
      have x4 : ((A.length + (B ++ L1).length : Nat) : Int) = (((A ++ R).length + L1.length : Nat) : Int) := by simp; omega
      refine ⟨a, b, q, R ++ L', ?_, ?_, r2.append e3, .cons R L' lR r3 (fun x hx y hy => hu.2.2 x (r2.subset hx) y (e3.subset hy)) e4⟩
      · rw [d, x1, r1]
        simp only [if_true, Option.bind_some]
        rw [x2, x3, x4, ← List.append_assoc]; exact e1
      · rw [x4, e2, List.append_assoc]

theorem merges (hC : ∀ x y, V x → V y → ∃ c, FareCarchoose_1_v1 x y y1 y2 y3 = some c ∧ (c < 0 ↔ D x < D y)) {fu : Nat} {k : Nat} (hk : 1 ≤ k) (hk2 : k ≤ 100000) : ∀ (m : Nat) (A L : List Int), L.length < m → L.length + 3 ≤ fu → A.length + L.length ≤ 100000 → (∀ y ∈ L, V y) → Bl D k L →
    ∃ a b q L', SlicesstableCmpFuncint_v1.loop3 ((A.length + L.length : Nat) : Int) y1 y2 y3 fu (k : Int) m (A.length : Int) ((A.length + 2 * k : Nat) : Int) (A ++ L) = some (a, b, q) ∧ (if decide (w64 (a + (k : Int)) < ((A.length + L.length : Nat) : Int)) then SlicessymMergeCmpFuncint_v1 fu q a (w64 (a + (k : Int))) ((A.length + L.length : Nat) : Int) y1 y2 y3 else some q) = some (A ++ L') ∧ L'.Perm L ∧ Bl D (2 * k) L'
  | 0, _, _, h, _, _, _, _ => absurd h (by omega)
  | m + 1, A, L, h, hf, hb, hV, hB => by
    have wk : ∀ n : Nat, n ≤ 300000 → w64 ((n : Int) + (k : Int)) = ((n + k : Nat) : Int) := fun n hn => by rw [w64_id (by omega)]; omega
    have w2 : w64 (2 * (k : Int)) = ((2 * k : Nat) : Int) := by rw [w64_id (by omega)]; omega
    rw [SlicesstableCmpFuncint_v1.loop3]
    cases hB with
    | last L hl hs =>
      have d : decide (((A.length + 2 * k : Nat) : Int) ≤ ((A.length + L.length : Nat) : Int)) = false := by simp; omega
      have d2 : decide (((A.length + k : Nat) : Int) < ((A.length + L.length : Nat) : Int)) = false := by simp; omega
      refine ⟨_, _, _, L, by rw [d]; rfl, ?_, .refl _, .last L (by omega) hs⟩
      rw [wk _ (by omega), d2]; rfl
    | cons B L1 lB sB hx hB =>
      simp only [List.length_append] at h hf hb
      cases hB with
      | last _ hl hs =>
        by_cases c0 : L1 = []
        · subst c0
          have d : decide (((A.length + 2 * k : Nat) : Int) ≤ ((A.length + (B ++ []).length : Nat) : Int)) = false := by simp; omega
          have d2 : decide (((A.length + k : Nat) : Int) < ((A.length + (B ++ []).length : Nat) : Int)) = false := by simp; omega
          refine ⟨_, _, _, B, by rw [d]; rfl, ?_, by simp, .last B (by omega) sB⟩
          rw [wk _ (by omega), d2, List.append_nil]; rfl
        · have lp : 0 < L1.length := List.length_pos_iff.2 c0
          obtain ⟨R, r1, r2, r3⟩ := sym_ok hC fu A B L1 [] (A.length : Int) ((A.length + k : Nat) : Int) ((A.length + (B ++ L1).length : Nat) : Int) rfl (by rw [lB]) (by simp; omega) (by intro e; subst e; simp at lB; omega) c0 (by omega) (by omega) (fun y hy => hV y (by simp [hy])) (fun y hy => hV y (by simp [hy])) hx sB hs
          simp only [List.append_nil] at r1
          have lR : R.length = k + L1.length := by rw [r2.length_eq]; simp [lB]
          by_cases c : L1.length = k
          · have d : decide (((A.length + 2 * k : Nat) : Int) ≤ ((A.length + (B ++ L1).length : Nat) : Int)) = true := by simp; omega
            have x1 : ((A.length + (B ++ L1).length : Nat) : Int) = ((A.length + 2 * k : Nat) : Int) := by simp; omega
            obtain ⟨m, rfl⟩ : ∃ m', m = m' + 1 := ⟨m - 1, by omega⟩
            have x2 : w64 (((A.length + 2 * k : Nat) : Int) + w64 (2 * (k : Int))) = ((A.length + 4 * k : Nat) : Int) := by rw [w2, w64_id (by omega)]; omega
            have d2 : decide (((A.length + 4 * k : Nat) : Int) ≤ ((A.length + 2 * k : Nat) : Int)) = false := by simp; omega
            have d3 : decide (((A.length + 2 * k + k : Nat) : Int) < ((A.length + 2 * k : Nat) : Int)) = false := by simp; omega
            refine ⟨((A.length + 2 * k : Nat) : Int), ((A.length + 4 * k : Nat) : Int), A ++ R, R, ?_, ?_, r2, .last R (by omega) r3⟩
            · rw [d, wk _ (by omega)]
              rw [x1] at r1 ⊢
              simp only [if_true, r1, Option.bind_some, SlicesstableCmpFuncint_v1.loop3, x2, d2, Bool.false_eq_true, if_false]
            · rw [wk _ (by omega), x1, d3]; rfl
          · have d : decide (((A.length + 2 * k : Nat) : Int) ≤ ((A.length + (B ++ L1).length : Nat) : Int)) = false := by simp; omega
            have d2 : decide (((A.length + k : Nat) : Int) < ((A.length + (B ++ L1).length : Nat) : Int)) = true := by simp; omega
            refine ⟨_, _, _, R, by rw [d]; rfl, ?_, r2, .last R (by omega) r3⟩
            rw [wk _ (by omega), d2]; exact r1
      | cons B2 L2 lB2 sB2 hx2 hB2 =>
        simp only [List.length_append] at h hf hb
        obtain ⟨R, r1, r2, r3⟩ := sym_ok hC fu A B B2 L2 (A.length : Int) ((A.length + k : Nat) : Int) ((A.length + 2 * k : Nat) : Int) rfl (by rw [lB]) (by omega) (by intro e; subst e; simp at lB; omega) (by intro e; subst e; simp at lB2; omega) (by omega) (by omega) (fun y hy => hV y (by simp [hy])) (fun y hy => hV y (by simp [hy])) (fun x hx' y hy => hx x hx' y (by simp [hy])) sB sB2
        have lR : R.length = 2 * k := by rw [r2.length_eq]; simp [lB, lB2]; omega
        obtain ⟨a, b, q, L', e1, e2, e3, e4⟩ := merges (fu := fu) hC hk hk2 m (A ++ R) L2 (by omega) (by omega) (by simp; omega) (fun y hy => hV y (by simp [hy])) hB2
        have d : decide (((A.length + 2 * k : Nat) : Int) ≤ ((A.length + (B ++ (B2 ++ L2)).length : Nat) : Int)) = true := by simp; omega
        have x1 : ((A.length + (B ++ (B2 ++ L2)).length : Nat) : Int) = (((A ++ R).length + L2.length : Nat) : Int) := by simp; omega
        have x2 : w64 (((A.length + 2 * k : Nat) : Int) + w64 (2 * (k : Int))) = (((A ++ R).length + 2 * k : Nat) : Int) := by rw [w2, w64_id (by omega)]; simp; omega
        have x3 : ((A.length + 2 * k : Nat) : Int) = ((A ++ R).length : Int) := by simp; omega
        refine ⟨a, b, q, R ++ L', ?_, ?_, ?_, .cons R L' lR r3 ?_ e4⟩
        · rw [d, wk _ (by omega)]
          simp only [if_true] at r1 ⊢
          rw [r1, Option.bind_some, x2, x3, x1, ← List.append_assoc]; exact e1
        · rw [x1, e2, List.append_assoc]
        · rw [← List.append_assoc]; exact r2.append e3
        · intro x hx' y hy
          rcases List.mem_append.1 (r2.subset hx') with h1 | h1
          · exact hx x h1 y (by simp [e3.subset hy])
          · exact hx2 x h1 y (e3.subset hy)

theorem Bl.sorted {k : Nat} : ∀ {L : List Int}, Bl D k L → L.length ≤ k → L.Pairwise (Lt D)
  | _, .last _ _ h, _ => h
  | _, .cons B L lB sB _ _, h => by
    simp only [List.length_append] at h
    obtain rfl : L = [] := List.length_eq_zero_iff.1 (by omega)
    simpa using sB

theorem doubles (hC : ∀ x y, V x → V y → ∃ c, FareCarchoose_1_v1 x y y1 y2 y3 = some c ∧ (c < 0 ↔ D x < D y)) {fu : Nat} : ∀ (m : Nat) (k : Nat) (L : List Int), 1 ≤ k → k ≤ 200000 → L.length < k + m → L.length + 3 ≤ fu → 0 < m → L.length ≤ 100000 → (∀ y ∈ L, V y) → Bl D k L →
    ∃ b R, SlicesstableCmpFuncint_v1.loop2 (L.length : Int) y1 y2 y3 fu m (k : Int) L = some (b, R) ∧ R.Perm L ∧ R.Pairwise (Lt D)
  | 0, _, _, _, _, _, _, h, _, _, _ => absurd h (by omega)
  | m + 1, k, L, hk, hk2, h, hf, _, hb, hV, hB => by
    rw [SlicesstableCmpFuncint_v1.loop2]
    by_cases c : k < L.length
    · have d : decide ((k : Int) < (L.length : Int)) = true := by simp; omega
      obtain ⟨a, b, q, L', e1, e2, e3, e4⟩ := merges hC hk (by omega) fu [] L (by omega) hf (by simp; omega) hV hB
      have lL := e3.length_eq
      obtain ⟨b', R, f1, f2, f3⟩ := doubles (fu := fu) hC m (2 * k) L' (by omega) (by omega) (by omega) (by omega) (by omega) (by omega) (fun y hy => hV y (e3.subset hy)) e4
      have w1 : w64 (2 * (k : Int)) = ((2 * k : Nat) : Int) := by rw [w64_id (by omega)]; omega
      have w2 : w64 ((k : Int) * 2) = ((2 * k : Nat) : Int) := by rw [w64_id (by omega)]; omega
      simp only [List.nil_append, List.length_nil, Nat.zero_add] at e1 e2
      have z : (0 : Int) = ((0 : Nat) : Int) := rfl
      refine ⟨b', R, ?_, f2.trans e3, f3⟩
      rw [d, w1, w2]
      rw [z, e1]
      simp only [if_true, Option.bind_some]
      rw [← lL] at e2 ⊢
      split at e2
      · rename_i g; rw [if_pos g, e2]; exact f1
      · rename_i g; rw [if_neg g]; cases e2; exact f1
    · have d : decide ((k : Int) < (L.length : Int)) = false := by simp; omega
      exact ⟨_, L, by rw [d]; rfl, .refl _, hB.sorted (by omega)⟩

theorem stable_ok (hC : ∀ x y, V x → V y → ∃ c, FareCarchoose_1_v1 x y y1 y2 y3 = some c ∧ (c < 0 ↔ D x < D y)) {fu : Nat} {X : List Int} (hf : X.length + 60 ≤ fu) (hn : X.length ≤ 100000) (hV : ∀ y ∈ X, V y) (hu : X.Pairwise (· < ·)) :
    ∃ R, SlicesSortStableFuncLint_v1 fu X y1 y2 y3 = some R ∧ R.Perm X ∧ R.Pairwise (Lt D) := by
  unfold SlicesSortStableFuncLint_v1 SlicesstableCmpFuncint_v1
  obtain ⟨a, b, q, L', e1, e2, e3, e4⟩ := blocks hC (fu := fu) (by omega) fu [] X (by omega) (by simp; omega) hV hu
  have lL := e3.length_eq
  obtain ⟨b', R, f1, f2, f3⟩ := doubles hC (fu := fu) fu 20 L' (by omega) (by omega) (by omega) (by omega) (by omega) (by omega) (fun y hy => hV y (e3.subset hy)) e4
  simp only [List.nil_append, List.length_nil, Nat.zero_add] at e1 e2
  rw [lL] at f1
  have z : (0 : Int) = ((0 : Nat) : Int) := rfl
  have z2 : (20 : Int) = ((20 : Nat) : Int) := rfl
  refine ⟨R, ?_, f2.trans e3, f3⟩
  rw [z, z2, e1]
  simp only [Option.bind_some]
  rw [e2, Option.bind_some, f1]; rfl
end stable
/-! bookings that count -/
def acts : List FareBooking → List Bool → List FareBooking
  | b :: B, c :: C => if c then acts B C else b :: acts B C
  | _, _ => []
theorem acts_sub : ∀ {B : List FareBooking} {C : List Bool} {b : FareBooking}, b ∈ acts B C → b ∈ B
  | [], _, _, h => by simp [acts] at h
  | _ :: _, [], _, h => by simp [acts] at h
  | x :: B, c :: C, b, h => by
    rw [acts] at h
    by_cases k : c = true
    · rw [if_pos k] at h; exact List.mem_cons_of_mem _ (acts_sub h)
    · rw [if_neg k] at h
      rcases List.mem_cons.1 h with rfl | h
      · exact List.mem_cons_self
      · exact List.mem_cons_of_mem _ (acts_sub h)
theorem acts_len : ∀ (B : List FareBooking) (C : List Bool), (acts B C).length ≤ B.length
  | [], _ => by simp [acts]
  | _ :: _, [] => by simp [acts]
  | x :: B, c :: C => by
    rw [acts]
    have := acts_len B C
    split <;> simp <;> omega
theorem idx_containsq (l : List Int) (x : Int) : SlicesContainsLint l x = l.contains x := by
  have key : ∀ (l : List Int) (k : Nat), (∃ j : Nat, SlicesIndexLint.loop1 x l k = .ret ((j : Nat) : Int) ∧ l.contains x = true) ∨ (SlicesIndexLint.loop1 x l k = .next () ∧ l.contains x = false) := by
    intro l
    induction l with
    | nil => intro k; exact .inr ⟨rfl, rfl⟩
    | cons y l ih =>
      intro k
      rw [SlicesIndexLint.loop1]
      by_cases h : x = y
      · have hb : (x == y) = true := by simpa using h
        rw [if_pos hb]
        exact .inl ⟨k, rfl, by simp [h]⟩
      · have hb : ¬ ((x == y) = true) := by simpa using h
        rw [if_neg hb, List.contains_cons, beq_eq_false_iff_ne.2 h, Bool.false_or]
        exact ih (k + 1)
  unfold SlicesContainsLint SlicesIndexLint
  rw [bnd_eq]
  rcases key l 0 with ⟨j, h1, h2⟩ | ⟨h1, h2⟩
  · rw [h1, h2]; simp
  · rw [h1, h2]; simp
def hasS (s : Int) (b : FareBooking) : Bool := b.Seats.contains s
def ovl (f t : Int) (b : FareBooking) : Bool := decide (b.From < t) && decide (f < b.To)
/-- what is so of the bookings of a car -/
structure CarI (S : Int) (B : List FareBooking) (C : List Bool) : Prop where
  len : B.length = C.length
  many : B.length ≤ 4398046511104
  ok : ∀ b ∈ B, 0 ≤ b.From ∧ b.From < b.To ∧ b.To < S ∧ b.Seats.length ≤ 1000
section
variable {r a S : Int} {B : List FareBooking} {C : List Bool} (h : CarI S B C)
include h
theorem drop_both {k : Nat} (hk : k < B.length) : ∃ (hc : k < C.length), B.drop k = B[k] :: B.drop (k + 1) ∧ C.drop k = C[k] :: C.drop (k + 1) := by
  have hc : k < C.length := by rw [← h.len]; exact hk
  exact ⟨hc, List.drop_eq_getElem_cons hk, List.drop_eq_getElem_cons hc⟩
theorem of_loop (s : Int) : ∀ (n k : Nat) (q : List FareBooking), k + n = B.length → q.length ≤ k →
    FareCarof_v1.loop1 s ⟨r, a, S, B, C⟩ n k q = some (q ++ (acts (B.drop k) (C.drop k)).filter (hasS s))
  | 0, k, q, hk, _ => by rw [List.drop_eq_nil_of_le (by omega)]; simp [acts, FareCarof_v1.loop1]
  | n + 1, k, q, hk, hq => by
    have hkB : k < B.length := by omega
    obtain ⟨hkC, d1, d2⟩ := drop_both h hkB
    have hm := h.many
    rw [FareCarof_v1.loop1]
    simp only
    rw [gx_at hkB, Option.bind_some, gx_at hkC, Option.bind_some, idx_containsq, d1, d2, acts]
    cases hc : C[k] with
    | true =>
      simp only [Bool.not_true, Bool.false_eq_true, if_false, Option.bind_some, if_true]
      exact of_loop s n (k + 1) q (by omega) (by omega)
    | false =>
      simp only [Bool.not_false, if_true, Option.bind_some, Bool.false_eq_true, if_false]
      cases hs : B[k].Seats.contains s with
      | true =>
        simp only [if_true]
        rw [apx_in (by simp only [List.length_cons, List.length_nil]; omega), Option.bind_some, Option.bind_some, of_loop s n (k + 1) _ (by omega) (by simp; omega), List.filter_cons_of_pos (by unfold hasS; exact hs)]
        simp
      | false =>
        simp only [Bool.false_eq_true, if_false, Option.bind_some]
        rw [of_loop s n (k + 1) q (by omega) (by omega), List.filter_cons_of_neg (by unfold hasS; simp only [hs]; decide)]
theorem of_eq (s : Int) : FareCarof_v1 s ⟨r, a, S, B, C⟩ = some ((acts B C).filter (hasS s)) := by
  unfold FareCarof_v1
  simp only
  rw [of_loop h s B.length 0 [] (by omega) (by simp)]
  simp
theorem has_loop (s f t : Int) : ∀ (n k : Nat), k + n = B.length →
    Fishref2Carhas_v1.loop1 s f t ⟨r, a, S, B, C⟩ n k = some (if (acts (B.drop k) (C.drop k)).any (fun b => hasS s b && ovl f t b) then .ret true else .next ())
  | 0, k, hk => by rw [List.drop_eq_nil_of_le (by omega)]; simp [acts, Fishref2Carhas_v1.loop1]
  | n + 1, k, hk => by
    have hkB : k < B.length := by omega
    obtain ⟨hkC, d1, d2⟩ := drop_both h hkB
    have ih := has_loop s f t n (k + 1) (by omega)
    rw [Fishref2Carhas_v1.loop1]
    simp only
    rw [gx_at hkB, Option.bind_some, gx_at hkC, Option.bind_some, idx_containsq, d1, d2, acts]
    cases hc : C[k] with
    | true =>
      simp only [Bool.not_true, Bool.false_eq_true, if_false, Option.bind_some, if_true]
      exact ih
    | false =>
      simp only [Bool.not_false, if_true, Bool.false_eq_true, if_false]
      rw [List.any_cons]
      have e : (hasS s B[k] && ovl f t B[k]) = (if B[k].Seats.contains s then (if decide (B[k].From < t) then decide (f < B[k].To) else false) else false) := by
        unfold hasS ovl
        cases B[k].Seats.contains s <;> cases decide (B[k].From < t) <;> rfl
      rw [e]
      cases hs : B[k].Seats.contains s with
      | true =>
        simp only [if_true]
        cases h1 : decide (B[k].From < t) with
        | true =>
          simp only [if_true, Option.bind_some]
          cases h2 : decide (f < B[k].To) with
          | true => simp
          | false =>
            simp only [Bool.false_eq_true, if_false, Bool.false_or]
            exact ih
        | false =>
          simp only [Bool.false_eq_true, if_false, Option.bind_some, Bool.false_or]
          exact ih
      | false =>
        simp only [Bool.false_eq_true, if_false, Option.bind_some, Bool.false_or]
        exact ih
def ovs (B : List FareBooking) (C : List Bool) (s f t : Int) : Bool := ((acts B C).filter (hasS s)).any (ovl f t)
omit h in
theorem any_filterq {α : Type} (p q : α → Bool) : ∀ l : List α, (l.filter p).any q = l.any (fun b => p b && q b)
  | [] => rfl
  | x :: l => by
    rw [List.any_cons, ← any_filterq p q l]
    cases hx : p x with
    | true => rw [List.filter_cons_of_pos hx, List.any_cons]; simp
    | false => rw [List.filter_cons_of_neg (by simp [hx])]; simp
theorem has_eq (s f t : Int) : Fishref2Carhas_v1 s f t ⟨r, a, S, B, C⟩ = some (ovs B C s f t) := by
  unfold Fishref2Carhas_v1 ovs
  simp only
  rw [has_loop h s f t B.length 0 (by omega), Option.bind_some, List.drop_zero, List.drop_zero, any_filterq]
  cases (acts B C).any (fun b => hasS s b && ovl f t b) <;> simp
omit h in
theorem cf_eq (f t : Int) (l : List FareBooking) : SlicesContainsFuncLfareBooking_v1 l t f = l.any (ovl f t) := by
  have e : ∀ b : FareBooking, FareCarfree_1_v1 b t f = ovl f t b := by
    intro b
    unfold FareCarfree_1_v1 ovl
    rw [bnd_eq]
    have : decide (b.To > f) = decide (f < b.To) := rfl
    rw [this]
    cases decide (b.From < t) <;> rfl
  have key : ∀ (l : List FareBooking) (k : Nat), (∃ j : Nat, SlicesIndexFuncLfareBooking_v1.loop1 t f l k = .ret ((j : Nat) : Int) ∧ l.any (ovl f t) = true) ∨ (SlicesIndexFuncLfareBooking_v1.loop1 t f l k = .next () ∧ l.any (ovl f t) = false) := by
    intro l
    induction l with
    | nil => intro k; exact .inr ⟨rfl, rfl⟩
    | cons y l ih =>
      intro k
      rw [SlicesIndexFuncLfareBooking_v1.loop1, e, List.any_cons]
      cases ovl f t y with
      | true => exact .inl ⟨k, rfl, rfl⟩
      | false => exact ih (k + 1)
  unfold SlicesContainsFuncLfareBooking_v1 SlicesIndexFuncLfareBooking_v1
  rw [bnd_eq]
  rcases key l 0 with ⟨j, h1, h2⟩ | ⟨h1, h2⟩
  · rw [h1, h2]; simp
  · rw [h1, h2]; simp
/-- the seats from i on -/
def sts (i n : Nat) : List Int := (List.range' i n).map fun (k : Nat) => (k : Int)
omit h in
theorem sts_cons (i n : Nat) : sts i (n + 1) = ((i : Nat) : Int) :: sts (i + 1) n := by unfold sts; rw [List.range'_succ]; rfl
omit h in
theorem sts_mem {i n : Nat} {x : Int} : x ∈ sts i n ↔ (i : Int) ≤ x ∧ x < i + n := by
  unfold sts
  simp only [List.mem_map, List.mem_range'_1]
  constructor
  · rintro ⟨k, h, rfl⟩; omega
  · intro h; exact ⟨x.toNat, by omega, by omega⟩
omit h in
theorem sts_lt (i n : Nat) : (sts i n).Pairwise (· < ·) := by
  unfold sts
  rw [List.pairwise_map]
  exact (List.pairwise_lt_range').imp (by intro a b h; omega)
omit h in
theorem sts_len (i n : Nat) : (sts i n).length = n := by unfold sts; simp
def frs (B : List FareBooking) (C : List Bool) (i n : Nat) (f t : Int) : List Int := (sts i n).filter (fun s => !ovs B C s f t)
theorem pfree_loop {N : Nat} (hN : r * a = (N : Int)) (hN2 : N ≤ 80) (f t : Int) : ∀ (m i n : Nat) (q : List Int), i + m = N → m < n → q.length ≤ i →
    FareCarfree_v1.loop2 f t ⟨r, a, S, B, C⟩ n q ((i : Nat) : Int) = some (q ++ frs B C i m f t, ((N : Nat) : Int))
  | m, i, 0, q, _, h, _ => absurd h (Nat.not_lt_zero _)
  | 0, i, n + 1, q, hi, hn, hq => by
    have e : i = N := by omega
    subst e
    rw [FareCarfree_v1.loop2]
    simp only
    rw [hN, w64_id (by omega), if_neg (by simp)]
    simp [frs, sts]
  | m + 1, i, n + 1, q, hi, hn, hq => by
    have hw : w64 (((i : Nat) : Int) + 1) = ((i + 1 : Nat) : Int) := by rw [w64_id (by omega)]; omega
    rw [FareCarfree_v1.loop2]
    simp only
    rw [hN, w64_id (x := ((N : Nat) : Int)) (by omega), if_pos (by simp; omega), of_eq h, Option.bind_some, cf_eq, hw]
    unfold frs
    rw [sts_cons]
    have eo : ((acts B C).filter (hasS ((i : Nat) : Int))).any (ovl f t) = ovs B C ((i : Nat) : Int) f t := rfl
    rw [eo]
    cases ho : ovs B C ((i : Nat) : Int) f t with
    | true =>
      rw [List.filter_cons_of_neg (by simp [ho])]
      simp only [Bool.not_true, Bool.false_eq_true, if_false, Option.bind_some]
      exact pfree_loop hN hN2 f t m (i + 1) n q (by omega) (by omega) (by omega)
    | false =>
      rw [List.filter_cons_of_pos (by simp [ho])]
      simp only [Bool.not_false, if_true]
      rw [apd_lt (by simp; omega), Option.bind_some, Option.bind_some, pfree_loop hN hN2 f t m (i + 1) n _ (by omega) (by omega) (by simp; omega)]
      unfold frs
      simp
theorem rfree_loop {N : Nat} (hN : r * a = (N : Int)) (hN2 : N ≤ 80) (f t : Int) : ∀ (m i n : Nat) (q : List Int), i + m = N → m < n → q.length ≤ i →
    Fishref2CarFree_v1.loop2 f t ⟨r, a, S, B, C⟩ n q ((i : Nat) : Int) = some (q ++ frs B C i m f t, ((N : Nat) : Int))
  | m, i, 0, q, _, h, _ => absurd h (Nat.not_lt_zero _)
  | 0, i, n + 1, q, hi, hn, hq => by
    have e : i = N := by omega
    subst e
    rw [Fishref2CarFree_v1.loop2]
    simp only
    rw [hN, w64_id (by omega), if_neg (by simp)]
    simp [frs, sts]
  | m + 1, i, n + 1, q, hi, hn, hq => by
    have hw : w64 (((i : Nat) : Int) + 1) = ((i + 1 : Nat) : Int) := by rw [w64_id (by omega)]; omega
    rw [Fishref2CarFree_v1.loop2]
    simp only
    rw [hN, w64_id (x := ((N : Nat) : Int)) (by omega), if_pos (by simp; omega), has_eq h, Option.bind_some, hw]
    unfold frs
    rw [sts_cons]
    cases ho : ovs B C ((i : Nat) : Int) f t with
    | true =>
      rw [List.filter_cons_of_neg (by simp [ho])]
      simp only [Bool.not_true, Bool.false_eq_true, if_false, Option.bind_some]
      exact rfree_loop hN hN2 f t m (i + 1) n q (by omega) (by omega) (by omega)
    | false =>
      rw [List.filter_cons_of_pos (by simp [ho])]
      simp only [Bool.not_false, if_true]
      rw [apd_lt (by simp; omega), Option.bind_some, Option.bind_some, rfree_loop hN hN2 f t m (i + 1) n _ (by omega) (by omega) (by simp; omega)]
      unfold frs
      simp
end
/-! the gap around a free seat -/
structure GA (L : List FareBooking) (f A : Int) : Prop where
  lo : 0 ≤ A
  hi : A ≤ f
  up : ∀ b ∈ L, b.To ≤ f → b.To ≤ A
  at_ : A = 0 ∨ ∃ b ∈ L, b.To ≤ f ∧ b.To = A
structure GB (L : List FareBooking) (t S Z : Int) : Prop where
  lo : t ≤ Z
  hi : Z ≤ S - 1
  dn : ∀ b ∈ L, t ≤ b.From → Z ≤ b.From
  at_ : Z = S - 1 ∨ ∃ b ∈ L, t ≤ b.From ∧ b.From = Z
theorem GA.uniq {L : List FareBooking} {f A A' : Int} (h : GA L f A) (k : GA L f A') : A = A' := by
  have h1 : A ≤ A' := by
    rcases h.at_ with e | ⟨b, hb, b1, b2⟩
    · rw [e]; exact k.lo
    · rw [← b2]; exact k.up b hb b1
  have h2 : A' ≤ A := by
    rcases k.at_ with e | ⟨b, hb, b1, b2⟩
    · rw [e]; exact h.lo
    · rw [← b2]; exact h.up b hb b1
  omega
theorem GB.uniq {L : List FareBooking} {t S Z Z' : Int} (h : GB L t S Z) (k : GB L t S Z') : Z = Z' := by
  have h1 : Z ≤ Z' := by
    rcases k.at_ with e | ⟨b, hb, b1, b2⟩
    · rw [e]; exact h.hi
    · rw [← b2]; exact h.dn b hb b1
  have h2 : Z' ≤ Z := by
    rcases h.at_ with e | ⟨b, hb, b1, b2⟩
    · rw [e]; exact k.hi
    · rw [← b2]; exact k.dn b hb b1
  omega
theorem pgap_loop {L : List FareBooking} {f t S : Int} : ∀ (n k : Nat) (A Z : Int), k + n = L.length → GA (L.take k) f A → GB (L.take k) t S Z →
    ∃ A' Z', FareCargap_v1.loop1 f t L n k A Z = some (A', Z') ∧ GA L f A' ∧ GB L t S Z'
  | 0, k, A, Z, hk, h1, h2 => by
    rw [List.take_of_length_le (by omega)] at h1 h2
    exact ⟨A, Z, rfl, h1, h2⟩
  | n + 1, k, A, Z, hk, h1, h2 => by
    have hkl : k < L.length := by omega
    rw [FareCargap_v1.loop1, gx_at hkl, Option.bind_some, bnd_eq, bnd_eq]
    have ht : L.take (k + 1) = L.take k ++ [L[k]] := (List.take_append_getElem hkl).symm
    refine pgap_loop n (k + 1) _ _ (by omega) ?_ ?_
    · rw [ht]
      by_cases c : L[k].To ≤ f
      · rw [if_pos (by simpa using c)]
        unfold mx
        by_cases c2 : L[k].To > A
        · rw [if_pos c2]
          refine ⟨by have := h1.lo; omega, c, fun b hb hf => ?_, .inr ⟨L[k], List.mem_append_right _ List.mem_cons_self, c, rfl⟩⟩
          rcases List.mem_append.1 hb with q | q
          · have := h1.up b q hf; omega
          · simp at q; subst q; omega
        · rw [if_neg c2]
          refine ⟨h1.lo, h1.hi, fun b hb hf => ?_, ?_⟩
          · rcases List.mem_append.1 hb with q | q
            · exact h1.up b q hf
            · simp at q; subst q; omega
          · rcases h1.at_ with e | ⟨b, hb, q⟩
            · exact .inl e
            · exact .inr ⟨b, List.mem_append_left _ hb, q⟩
      · rw [if_neg (by simpa using c)]
        refine ⟨h1.lo, h1.hi, fun b hb hf => ?_, ?_⟩
        · rcases List.mem_append.1 hb with q | q
          · exact h1.up b q hf
          · simp at q; subst q; omega
        · rcases h1.at_ with e | ⟨b, hb, q⟩
          · exact .inl e
          · exact .inr ⟨b, List.mem_append_left _ hb, q⟩
    · rw [ht]
      by_cases c : L[k].From ≥ t
      · rw [if_pos (by simpa using c)]
        unfold mn
        by_cases c2 : L[k].From < Z
        · rw [if_pos c2]
          refine ⟨c, by have := h2.hi; omega, fun b hb hf => ?_, .inr ⟨L[k], List.mem_append_right _ List.mem_cons_self, c, rfl⟩⟩
          rcases List.mem_append.1 hb with q | q
          · have := h2.dn b q hf; omega
          · simp at q; subst q; omega
        · rw [if_neg c2]
          refine ⟨h2.lo, h2.hi, fun b hb hf => ?_, ?_⟩
          · rcases List.mem_append.1 hb with q | q
            · exact h2.dn b q hf
            · simp at q; subst q; omega
          · rcases h2.at_ with e | ⟨b, hb, q⟩
            · exact .inl e
            · exact .inr ⟨b, List.mem_append_left _ hb, q⟩
      · rw [if_neg (by simpa using c)]
        refine ⟨h2.lo, h2.hi, fun b hb hf => ?_, ?_⟩
        · rcases List.mem_append.1 hb with q | q
          · exact h2.dn b q hf
          · simp at q; subst q; omega
        · rcases h2.at_ with e | ⟨b, hb, q⟩
          · exact .inl e
          · exact .inr ⟨b, List.mem_append_left _ hb, q⟩
section
variable {r a S : Int} {B : List FareBooking} {C : List Bool} (h : CarI S B C) {f t : Int} (h0 : 0 ≤ f) (hft : f < t) (htS : t < S) (hS : S ≤ 12)
include h h0 hft htS hS
theorem pgap_eq (s : Int) : ∃ A Z, FareCargap_v1 s f t ⟨r, a, S, B, C⟩ = some (Z - A) ∧ GA ((acts B C).filter (hasS s)) f A ∧ GB ((acts B C).filter (hasS s)) t S Z := by
  obtain ⟨A, Z, e, h1, h2⟩ := pgap_loop (L := (acts B C).filter (hasS s)) (f := f) (t := t) (S := S) ((acts B C).filter (hasS s)).length 0 0 (S - 1) (by omega)
    ⟨by omega, h0, by simp, .inl rfl⟩ ⟨by omega, by omega, by simp, .inl rfl⟩
  refine ⟨A, Z, ?_, h1, h2⟩
  have := h1.lo; have := h1.hi; have := h2.lo; have := h2.hi
  unfold FareCargap_v1
  rw [of_eq h, Option.bind_some]
  simp only
  rw [w64_id (x := S - 1) (by omega), e, Option.bind_some]
  simp only
  rw [w64_id (by omega)]
variable {s : Int} (hov : ovs B C s f t = false)
include hov
omit h0 hft htS hS in
theorem novl {b : FareBooking} (hb : b ∈ (acts B C).filter (hasS s)) : b.From < b.To ∧ 0 ≤ b.From ∧ b.To < S ∧ (b.To ≤ f ∨ t ≤ b.From) := by
  have h1 := h.ok b (acts_sub (List.mem_filter.1 hb).1)
  have h2 : ovl f t b = false := by
    unfold ovs at hov
    have := List.any_eq_false.1 hov b hb
    simpa using this
  unfold ovl at h2
  simp only [Bool.and_eq_false_iff, decide_eq_false_iff_not] at h2
  omega
omit h0 in
theorem rgap1 : ∀ (n : Nat) (q : Int), q.toNat < n → 0 ≤ q → q ≤ f → (∀ b ∈ (acts B C).filter (hasS s), b.To ≤ f → b.To ≤ q) →
    ∃ A, Fishref2Cargap_v1.loop1 s t ⟨r, a, S, B, C⟩ n q = some A ∧ GA ((acts B C).filter (hasS s)) f A
  | 0, _, hn, _, _, _ => absurd hn (Nat.not_lt_zero _)
  | n + 1, q, hn, q0, qf, hq => by
    rw [Fishref2Cargap_v1.loop1]
    by_cases c : q > 0
    · rw [if_pos (by simpa using c), w64_id (by omega), has_eq h, Option.bind_some, Option.bind_some]
      cases ho : ovs B C s (q - 1) t with
      | true =>
        refine ⟨q, rfl, q0, qf, hq, .inr ?_⟩
        unfold ovs at ho
        obtain ⟨b, hb, h2⟩ := List.any_eq_true.1 ho
        have hn := novl h hov hb
        unfold ovl at h2
        simp only [Bool.and_eq_true, decide_eq_true_eq] at h2
        have h3 : b.To ≤ f := by omega
        have := hq b hb h3
        exact ⟨b, hb, h3, by omega⟩
      | false =>
        simp only [Bool.not_false, if_true]
        refine rgap1 n (q - 1) (by omega) (by omega) (by omega) fun b hb h3 => ?_
        unfold ovs at ho
        have h2 := List.any_eq_false.1 ho b hb
        have hn := novl h hov hb
        unfold ovl at h2
        simp only [Bool.and_eq_true, decide_eq_true_eq, not_and] at h2
        have := h2 (by omega)
        omega
    · rw [if_neg (by simpa using c), Option.bind_some]
      exact ⟨q, rfl, q0, qf, hq, .inl (by omega)⟩
omit h0 htS in
theorem rgap2 {A : Int} (hA : GA ((acts B C).filter (hasS s)) f A) : ∀ (n : Nat) (q : Int), (S - q).toNat < n → t ≤ q → q ≤ S - 1 → (∀ b ∈ (acts B C).filter (hasS s), t ≤ b.From → q ≤ b.From) →
    ∃ Z, Fishref2Cargap_v1.loop2 s ⟨r, a, S, B, C⟩ A n q = some Z ∧ GB ((acts B C).filter (hasS s)) t S Z
  | 0, _, hn, _, _, _ => absurd hn (Nat.not_lt_zero _)
  | n + 1, q, hn, qt, qS, hq => by
    have a0 := hA.lo
    have a1 := hA.hi
    rw [Fishref2Cargap_v1.loop2]
    simp only
    rw [w64_id (x := S - 1) (by omega)]
    by_cases c : q < S - 1
    · rw [if_pos (by simpa using c), w64_id (x := q + 1) (by omega), has_eq h, Option.bind_some, Option.bind_some]
      cases ho : ovs B C s A (q + 1) with
      | true =>
        refine ⟨q, rfl, qt, qS, hq, .inr ?_⟩
        unfold ovs at ho
        obtain ⟨b, hb, h2⟩ := List.any_eq_true.1 ho
        have hn := novl h hov hb
        unfold ovl at h2
        simp only [Bool.and_eq_true, decide_eq_true_eq] at h2
        have h3 : t ≤ b.From := by
          rcases hn.2.2.2 with h4 | h4
          · have := hA.up b hb h4; omega
          · exact h4
        have := hq b hb h3
        exact ⟨b, hb, h3, by omega⟩
      | false =>
        simp only [Bool.not_false, if_true]
        refine rgap2 hA n (q + 1) (by omega) (by omega) (by omega) fun b hb h3 => ?_
        unfold ovs at ho
        have h2 := List.any_eq_false.1 ho b hb
        have hn := novl h hov hb
        unfold ovl at h2
        simp only [Bool.and_eq_true, decide_eq_true_eq, not_and] at h2
        by_cases c3 : b.From < q + 1
        · have := h2 c3; omega
        · omega
    · rw [if_neg (by simpa using c), Option.bind_some]
      exact ⟨q, rfl, qt, qS, hq, .inl (by omega)⟩
/-- both find the same gap -/
theorem gap_eq (fu : Nat) (hf : 100 ≤ fu) : ∃ g, FareCargap_v1 s f t ⟨r, a, S, B, C⟩ = some g ∧ Fishref2Cargap_v1 fu s f t ⟨r, a, S, B, C⟩ = some g ∧ 1 ≤ g ∧ g ≤ S - 1 := by
  obtain ⟨A, Z, e, h1, h2⟩ := pgap_eq (r := r) (a := a) h h0 hft htS hS s
  obtain ⟨A', e1, h3⟩ := rgap1 (r := r) (a := a) h hft htS hS hov fu f (by omega) h0 (Int.le_refl _) (fun b _ h => h)
  obtain ⟨Z', e2, h4⟩ := rgap2 (r := r) (a := a) h hft hS hov h3 fu t (by omega) (Int.le_refl _) (by omega) (fun b _ h => h)
  obtain rfl := h1.uniq h3
  obtain rfl := h2.uniq h4
  have := h1.lo; have := h1.hi; have := h2.lo; have := h2.hi
  refine ⟨Z - A, e, ?_, by omega, by omega⟩
  unfold Fishref2Cargap_v1
  rw [e1, Option.bind_some, e2, Option.bind_some, w64_id (by omega)]
end
/-! seats in one row -/
def rowq (a : Int) (F : List Int) (k : Nat) : List Int := F.filter (fun s => decide (s.tdiv a = (k : Int)))
theorem dv_seat {s a : Int} (h0 : 0 ≤ s) (h1 : s ≤ 1000) (ha : 1 ≤ a) : dv s a = some (s.tdiv a) := by
  unfold dv
  rw [if_neg (by omega)]
  congr 1
  have h2 : 0 ≤ s.tdiv a := Int.tdiv_nonneg h0 (by omega)
  have h3 : s.tdiv a ≤ s := by
    rw [Int.tdiv_eq_ediv_of_nonneg h0]
    exact Int.ediv_le_self _ h0
  exact w64_id (by omega)
theorem seat_row {s a : Int} {R N : Nat} (hN : (R : Int) * a = N) (h0 : 0 ≤ s) (h1 : s < N) (ha : 1 ≤ a) : ∃ k : Nat, k < R ∧ s.tdiv a = (k : Int) := by
  have h2 : 0 ≤ s.tdiv a := Int.tdiv_nonneg h0 (by omega)
  have h3 : s.tdiv a < R := by
    rw [Int.tdiv_eq_ediv_of_nonneg h0]
    refine Int.ediv_lt_of_lt_mul (by omega) ?_
    rw [hN]; exact h1
  exact ⟨(s.tdiv a).toNat, by omega, by omega⟩
theorem rows_loop {R N : Nat} {a : Int} (hN : (R : Int) * a = N) (hN2 : N ≤ 80) (ha : 1 ≤ a) {y0 : FareCar} (hy : y0.across = a) : ∀ (F P : List Int), (∀ s ∈ F, 0 ≤ s ∧ s < N) → P.length + F.length ≤ 1000 →
    FareCarchoose_v1.loop1 y0 F ((List.range R).map (rowq a P)) = some ((List.range R).map (rowq a (P ++ F)))
  | [], P, _, _ => by rw [List.append_nil]; rfl
  | x :: F, P, hF, hl => by
    simp only [List.length_cons] at hl
    have hx := hF x (by simp)
    obtain ⟨k, hk, e⟩ := seat_row hN hx.1 hx.2 ha
    have hkl : k < ((List.range R).map (rowq a P)).length := by simpa using hk
    have hlen : (rowq a P k).length ≤ P.length := List.length_filter_le _ _
    rw [FareCarchoose_v1.loop1, hy, dv_seat hx.1 (by omega) ha, Option.bind_some, e, gx_at hkl, Option.bind_some]
    have hg : ((List.range R).map (rowq a P))[k] = rowq a P k := by simp
    rw [hg, apd_lt (by simp; omega), Option.bind_some, ix_in (by omega) (by omega), Option.bind_some, sx_in (by omega) (by omega), Option.bind_some, Int.toNat_natCast]
    have hs : ((List.range R).map (rowq a P)).set k (rowq a P k ++ [x]) = (List.range R).map (rowq a (P ++ [x])) := by
      apply List.ext_getElem (by simp)
      intro j h1 h2
      rw [List.getElem_set]
      simp only [List.getElem_map, List.getElem_range]
      by_cases c : k = j
      · subst c
        rw [if_pos rfl]
        unfold rowq
        rw [List.filter_append, List.filter_cons_of_pos (by simpa using e), List.filter_nil]
      · rw [if_neg c]
        unfold rowq
        rw [List.filter_append, List.filter_cons_of_neg (by simp [e]; omega), List.filter_nil, List.append_nil]
    rw [hs, rows_loop hN hN2 ha hy F (P ++ [x]) (fun s h => hF s (by simp [h])) (by simp; omega)]
    simp
/-- the row of fewest free seats that are enough, among the first ones -/
def bestq (row : Nat → List Int) (many : Int) : Nat → Option Nat
  | 0 => none
  | k + 1 => match bestq row many k with
    | none => if ((row k).length : Int) ≥ many then some k else none
    | some b => if ((row k).length : Int) ≥ many ∧ (row k).length < (row b).length then some k else some b
theorem bestq_lt {row : Nat → List Int} {many : Int} : ∀ {n b : Nat}, bestq row many n = some b → b < n ∧ ((row b).length : Int) ≥ many
  | 0, _, h => by cases h
  | k + 1, b, h => by
    rw [bestq] at h
    cases e : bestq row many k with
    | none =>
      rw [e] at h
      simp only at h
      split at h
      · rename_i c; obtain rfl := Option.some.inj h; exact ⟨by omega, c⟩
      · cases h
    | some b' =>
      rw [e] at h
      simp only at h
      have := bestq_lt e
      split at h
      · rename_i c; obtain rfl := Option.some.inj h; exact ⟨by omega, c.1⟩
      · obtain rfl := Option.some.inj h; exact ⟨by omega, this.2⟩
def bestI : Option Nat → Int
  | none => -1
  | some b => (b : Int)
theorem bestI_none : bestI none = -1 := rfl
theorem bestI_some (b : Nat) : bestI (some b) = (b : Int) := rfl
theorem pbest_loop {row : Nat → List Int} {many : Int} {R : Nat} : ∀ (n k : Nat), k + n = R →
    FareCarchoose_v1.loop2 many ((List.range R).map row) n k (bestI (bestq row many k)) = some (bestI (bestq row many R))
  | 0, k, hk => by obtain rfl : k = R := by omega
                   rfl
  | n + 1, k, hk => by
    have hkl : k < ((List.range R).map row).length := by simp; omega
    have hg : ((List.range R).map row)[k] = row k := by simp
    have ih := pbest_loop (row := row) (many := many) (R := R) n (k + 1) (by omega)
    rw [FareCarchoose_v1.loop2, gx_at hkl, Option.bind_some, hg]
    rw [bestq] at ih
    cases e : bestq row many k with
    | none =>
      rw [e] at ih
      simp only at ih
      rw [bestI_none]
      by_cases c : ((row k).length : Int) ≥ many
      · rw [if_pos c, bestI_some] at ih
        rw [if_pos (by simpa using c), if_pos (by decide), Option.bind_some, bnd_eq, if_pos rfl]
        exact ih
      · rw [if_neg c, bestI_none] at ih
        rw [if_neg (by simpa using c), Option.bind_some, bnd_eq, if_neg (by decide)]
        exact ih
    | some b =>
      rw [e] at ih
      have hb := (bestq_lt e).1
      have hbl : b < ((List.range R).map row).length := by simp; omega
      have hgb : ((List.range R).map row)[b] = row b := by simp
      simp only at ih
      rw [bestI_some]
      by_cases c : ((row k).length : Int) ≥ many
      · rw [if_pos (by simpa using c), if_neg (by simp), gx_at hbl, Option.bind_some, hgb, Option.bind_some, bnd_eq]
        by_cases c2 : (row k).length < (row b).length
        · rw [if_pos ⟨c, c2⟩, bestI_some] at ih
          rw [if_pos (by simp; omega)]
          exact ih
        · rw [if_neg (fun q => c2 q.2), bestI_some] at ih
          rw [if_neg (by simp; omega)]
          exact ih
      · rw [if_neg (fun q => c q.1), bestI_some] at ih
        rw [if_neg (by simpa using c), Option.bind_some, bnd_eq, if_neg (by decide)]
        exact ih
theorem rrow_loop {F : List Int} {e : Int} {a : Int} {N k : Nat} (ha : 1 ≤ a) (hN2 : N ≤ 80) (hF : ∀ s ∈ F, 0 ≤ s ∧ s < N) (hl : F.length ≤ 1000) {y0 : Fishref2Car} (hy : y0.Across = a) : ∀ (n i : Nat), i + n = F.length →
    Fishref2CarBook_v1.loop3 y0 (F, e) ((k : Nat) : Int) n i (rowq a (F.take i) k) = some (rowq a F k)
  | 0, i, hi => by rw [List.take_of_length_le (by omega)]; rfl
  | n + 1, i, hi => by
    have hil : i < F.length := by omega
    have hx := hF F[i] (List.getElem_mem hil)
    have hlen : (rowq a (F.take i) k).length ≤ F.length := Nat.le_trans (List.length_filter_le _ _) (by rw [List.length_take]; exact Nat.min_le_right _ _)
    have ih := rrow_loop (e := e) (k := k) ha hN2 hF hl hy n (i + 1) (by omega)
    have ht : rowq a (F.take (i + 1)) k = rowq a (F.take i) k ++ (if F[i].tdiv a = (k : Int) then [F[i]] else []) := by
      unfold rowq
      rw [← List.take_append_getElem hil, List.filter_append]
      by_cases c : F[i].tdiv a = (k : Int)
      · rw [if_pos c, List.filter_cons_of_pos (by simpa using c), List.filter_nil]
      · rw [if_neg c, List.filter_cons_of_neg (by simpa using c), List.filter_nil]
    rw [ht] at ih
    rw [Fishref2CarBook_v1.loop3]
    simp only
    rw [gx_at hil, Option.bind_some, hy, dv_seat hx.1 (by omega) ha, Option.bind_some]
    by_cases c : F[i].tdiv a = (k : Int)
    · rw [if_pos c] at ih
      rw [if_pos (by simpa using c), apd_lt (by simp; omega), Option.bind_some, Option.bind_some]
      exact ih
    · rw [if_neg c, List.append_nil] at ih
      rw [if_neg (by simpa using c), Option.bind_some]
      exact ih
def bestS (row : Nat → List Int) (many : Int) : Option Nat → List Int
  | none => []
  | some b => (row b).take many.toNat
def bestL (row : Nat → List Int) : Option Nat → Int
  | none => 0
  | some b => ((row b).length : Int)
theorem bestL_none (row : Nat → List Int) : bestL row none = 0 := rfl
theorem bestL_some (row : Nat → List Int) (b : Nat) : bestL row (some b) = ((row b).length : Int) := rfl
theorem bestS_none (row : Nat → List Int) (many : Int) : bestS row many none = [] := rfl
theorem bestS_some (row : Nat → List Int) (many : Int) (b : Nat) : bestS row many (some b) = (row b).take many.toNat := rfl
theorem rbest_loop {F : List Int} {e many : Int} {a : Int} {N R : Nat} (hm : 1 ≤ many) (ha : 1 ≤ a) (hR : R ≤ 20) (hN2 : N ≤ 80) (hF : ∀ s ∈ F, 0 ≤ s ∧ s < N) (hl : F.length ≤ 1000) {y0 : Fishref2Car} (hy : y0.Across = a) (hyR : y0.Rows = (R : Int)) : ∀ (m k n : Nat), k + m = R → m < n →
    Fishref2CarBook_v1.loop2 many y0 (F, e) n (bestS (rowq a F) many (bestq (rowq a F) many k)) (bestL (rowq a F) (bestq (rowq a F) many k)) ((k : Nat) : Int) = some (bestS (rowq a F) many (bestq (rowq a F) many R), bestL (rowq a F) (bestq (rowq a F) many R), ((R : Nat) : Int))
  | m, k, 0, _, h => absurd h (Nat.not_lt_zero _)
  | 0, k, n + 1, hk, _ => by
    obtain rfl : k = R := by omega
    rw [Fishref2CarBook_v1.loop2, hyR, if_neg (by simp)]
  | m + 1, k, n + 1, hk, hn => by
    have ih := rbest_loop (e := e) hm ha hR hN2 hF hl hy hyR m (k + 1) n (by omega) (by omega)
    have hw : w64 (((k : Nat) : Int) + 1) = ((k + 1 : Nat) : Int) := by rw [w64_id (by omega)]; omega
    have hr := rrow_loop (e := e) (k := k) ha hN2 hF hl hy F.length 0 (by omega)
    have h0 : rowq a (F.take 0) k = [] := by simp [rowq]
    rw [h0] at hr
    have hlk : (rowq a F k).length ≤ F.length := List.length_filter_le _ _
    rw [Fishref2CarBook_v1.loop2, hyR, if_pos (by simp; omega)]
    simp only
    rw [hr, Option.bind_some, bnd_eq, hw]
    rw [bestq] at ih
    cases eb : bestq (rowq a F) many k with
    | none =>
      rw [eb] at ih
      simp only at ih
      rw [bestL_none, bestS_none]
      by_cases c : ((rowq a F k).length : Int) ≥ many
      · rw [if_pos c, bestL_some, bestS_some] at ih
        have hB : ((if decide ((((rowq a F k).length : Nat) : Int) ≥ many) then (if ((0 : Int) == 0) then true else decide ((((rowq a F k).length : Nat) : Int) < 0)) else false) : Bool) = true := by
          rw [decide_eq_true c]; rfl
        rw [hB, if_pos rfl, cutl_in (by omega) (by omega) (by omega), Option.bind_some, Option.bind_some]
        exact ih
      · rw [if_neg c, bestL_none, bestS_none] at ih
        have hB : ((if decide ((((rowq a F k).length : Nat) : Int) ≥ many) then (if ((0 : Int) == 0) then true else decide ((((rowq a F k).length : Nat) : Int) < 0)) else false) : Bool) = false := by
          rw [decide_eq_false c]; rfl
        rw [hB, if_neg (by decide), Option.bind_some]
        exact ih
    | some b =>
      rw [eb] at ih
      have hb := (bestq_lt eb).2
      rw [bestL_some, bestS_some]
      have hb0 : ((((rowq a F b).length : Nat) : Int) == 0) = false := by
        rw [beq_eq_false_iff_ne]; intro q; rw [q] at hb; omega
      simp only at ih
      by_cases c : ((rowq a F k).length : Int) ≥ many
      · by_cases c2 : (rowq a F k).length < (rowq a F b).length
        · rw [if_pos ⟨c, c2⟩, bestL_some, bestS_some] at ih
          have hB : ((if decide ((((rowq a F k).length : Nat) : Int) ≥ many) then (if ((((rowq a F b).length : Nat) : Int) == 0) then true else decide ((((rowq a F k).length : Nat) : Int) < (((rowq a F b).length : Nat) : Int))) else false) : Bool) = true := by
            rw [decide_eq_true c, hb0, decide_eq_true (by omega)]; rfl
          rw [hB, if_pos rfl, cutl_in (by omega) (by omega) (by omega), Option.bind_some, Option.bind_some]
          exact ih
        · rw [if_neg (fun q => c2 q.2), bestL_some, bestS_some] at ih
          have hB : ((if decide ((((rowq a F k).length : Nat) : Int) ≥ many) then (if ((((rowq a F b).length : Nat) : Int) == 0) then true else decide ((((rowq a F k).length : Nat) : Int) < (((rowq a F b).length : Nat) : Int))) else false) : Bool) = false := by
            rw [decide_eq_true c, hb0, decide_eq_false (by omega)]; rfl
          rw [hB, if_neg (by decide), Option.bind_some]
          exact ih
      · rw [if_neg (fun q => c q.1), bestL_some, bestS_some] at ih
        have hB : ((if decide ((((rowq a F k).length : Nat) : Int) ≥ many) then (if ((((rowq a F b).length : Nat) : Int) == 0) then true else decide ((((rowq a F k).length : Nat) : Int) < (((rowq a F b).length : Nat) : Int))) else false) : Bool) = false := by
          rw [decide_eq_false c]; rfl
        rw [hB, if_neg (by decide), Option.bind_some]
        exact ih
/-! seats by their gaps -/
section
variable {r a S : Int} {B : List FareBooking} {C : List Bool} (h : CarI S B C) {f t : Int} (h0 : 0 ≤ f) (hft : f < t) (htS : t < S) (hS : S ≤ 12)
/-- the gap of a seat -/
def gapD (r a S : Int) (B : List FareBooking) (C : List Bool) (f t : Int) (s : Int) : Int := (FareCargap_v1 s f t ⟨r, a, S, B, C⟩).getD 0
include h h0 hft htS hS
theorem gapD_eq {s : Int} (hov : ovs B C s f t = false) : FareCargap_v1 s f t ⟨r, a, S, B, C⟩ = some (gapD r a S B C f t s) ∧ (∀ fu, 100 ≤ fu → Fishref2Cargap_v1 fu s f t ⟨r, a, S, B, C⟩ = some (gapD r a S B C f t s)) ∧ 1 ≤ gapD r a S B C f t s ∧ gapD r a S B C f t s ≤ S - 1 := by
  obtain ⟨g, e1, e2, g1, g2⟩ := gap_eq (r := r) (a := a) h h0 hft htS hS hov 100 (Nat.le_refl _)
  have hg : gapD r a S B C f t s = g := by unfold gapD; rw [e1]; rfl
  rw [hg]
  refine ⟨e1, fun fu hf => ?_, g1, g2⟩
  obtain ⟨g', e1', e2', _⟩ := gap_eq (r := r) (a := a) h h0 hft htS hS hov fu hf
  rw [e1] at e1'
  rw [e2', ← Option.some.inj e1']
theorem cmp_gap (x y : Int) (hx : ovs B C x f t = false) (hy : ovs B C y f t = false) : ∃ c, FareCarchoose_1_v1 x y f t ⟨r, a, S, B, C⟩ = some c ∧ (c < 0 ↔ gapD r a S B C f t x < gapD r a S B C f t y) := by
  unfold FareCarchoose_1_v1
  rw [(gapD_eq (r := r) (a := a) h h0 hft htS hS hx).1, (gapD_eq (r := r) (a := a) h h0 hft htS hS hy).1, Option.bind_some, Option.bind_some]
  refine ⟨_, rfl, ?_⟩
  unfold CmpCompareint CmpisNaNint
  simp
  by_cases c : gapD r a S B C f t x < gapD r a S B C f t y
  · simp [c]
  · by_cases c2 : gapD r a S B C f t y < gapD r a S B C f t x <;> simp [c, c2]
variable {F : List Int} (hF : ∀ s ∈ F, ovs B C s f t = false) (hFl : F.length ≤ 80)
include hF hFl
omit h h0 hft htS hS hF hFl in
theorem take_app_le {α : Type} {n : Nat} {X Y : List α} (hx : n ≤ X.length) : (X ++ Y).take n = X.take n := by
  rw [List.take_append_of_le_length hx]
omit hFl in
theorem gap_loop5 {many : Nat} (hm : many ≤ 8) (fu : Nat) (hf : 100 ≤ fu) (e g : Int) : ∀ (n k : Nat) (acc : List Int), k + n = F.length → acc.length ≤ many →
    Fishref2CarBook_v1.loop5 f t ((many : Nat) : Int) ⟨r, a, S, B, C⟩ fu (F, e) g n k acc = some ((acc ++ (F.drop k).filter (fun s => decide (gapD r a S B C f t s = g))).take many)
  | 0, k, acc, hk, ha => by
    rw [List.drop_eq_nil_of_le (by omega), List.filter_nil, List.append_nil, List.take_of_length_le ha]; rfl
  | n + 1, k, acc, hk, ha => by
    have hkl : k < F.length := by omega
    have ih := fun acc ha => gap_loop5 (many := many) hm fu hf e g n (k + 1) acc (by omega) ha
    rw [Fishref2CarBook_v1.loop5]
    simp only
    rw [gx_at hkl, Option.bind_some, List.drop_eq_getElem_cons hkl]
    by_cases c : acc.length < many
    · rw [if_pos (by simp; omega), (gapD_eq (r := r) (a := a) h h0 hft htS hS (hF _ (List.getElem_mem hkl))).2.1 fu hf, Option.bind_some, Option.bind_some]
      by_cases c2 : gapD r a S B C f t F[k] = g
      · rw [if_pos (by simpa using c2), apd_lt (by simp; omega), Option.bind_some, Option.bind_some, ih _ (by simp; omega), List.filter_cons_of_pos (by simpa using c2)]
        simp
      · rw [if_neg (by simpa using c2), Option.bind_some, ih _ ha, List.filter_cons_of_neg (by simpa using c2)]
    · rw [if_neg (by simp; omega), Option.bind_some, if_neg (by simp), Option.bind_some, ih _ ha, take_app_le (by omega), take_app_le (by omega)]
/-- those of the first gaps, gap by gap -/
def gcat (D : Int → Int) (F : List Int) (m : Nat) : List Int := (List.range m).flatMap fun i => F.filter (fun s => decide (D s = ((i + 1 : Nat) : Int)))
omit h h0 hft htS hS hF hFl in
theorem gcat_succ (D : Int → Int) (m : Nat) : gcat D F (m + 1) = gcat D F m ++ F.filter (fun s => decide (D s = ((m + 1 : Nat) : Int))) := by
  unfold gcat
  rw [List.range_succ, List.flatMap_append]; simp
omit h h0 hft htS hS hF hFl in
theorem gcat_mem {D : Int → Int} {m : Nat} {x : Int} : x ∈ gcat D F m ↔ x ∈ F ∧ 1 ≤ D x ∧ D x ≤ m := by
  unfold gcat
  simp only [List.mem_flatMap, List.mem_range, List.mem_filter, decide_eq_true_eq]
  constructor
  · rintro ⟨i, h1, h2, h3⟩; exact ⟨h2, by omega, by omega⟩
  · rintro ⟨h1, h2, h3⟩; exact ⟨(D x - 1).toNat, by omega, h1, by omega⟩
omit h h0 hft htS hS hF hFl in
theorem gcat_pw {D : Int → Int} (hu : F.Pairwise (· < ·)) : ∀ m, (gcat D F m).Pairwise (Lt D)
  | 0 => by simp [gcat]
  | m + 1 => by
    rw [gcat_succ, List.pairwise_append]
    refine ⟨gcat_pw hu m, ?_, fun x hx y hy => ?_⟩
    · refine (hu.filter _).imp_of_mem ?_
      intro x y hx hy hxy
      have h1 := (List.mem_filter.1 hx).2
      have h2 := (List.mem_filter.1 hy).2
      simp only [decide_eq_true_eq] at h1 h2
      exact .inr ⟨by omega, hxy⟩
    · have h1 := (gcat_mem.1 hx).2
      have h2 := (List.mem_filter.1 hy).2
      simp only [decide_eq_true_eq] at h2
      exact .inl (by omega)
omit h h0 hft htS hS hF hFl in
theorem gcat_more {D : Int → Int} {m k : Nat} {n : Nat} (hmk : m ≤ k) (hn : n ≤ (gcat D F m).length) : (gcat D F k).take n = (gcat D F m).take n := by
  obtain ⟨d, rfl⟩ : ∃ d, k = m + d := ⟨k - m, by omega⟩
  induction d with
  | zero => rfl
  | succ d ih =>
    have hl : (gcat D F m).length ≤ (gcat D F (m + d)).length := by
      clear ih hmk hn
      induction d with
      | zero => exact Nat.le_refl _
      | succ d ih => rw [← Nat.add_assoc, gcat_succ, List.length_append]; omega
    rw [← Nat.add_assoc, gcat_succ, take_app_le (by omega)]
    exact ih (by omega)
omit hFl in
theorem gap_loop4 {many : Nat} (hm : many ≤ 8) (fu : Nat) (hf : 100 ≤ fu) (e : Int) {s0 : Nat} (hs0 : S = (s0 : Int)) : ∀ (n m : Nat), m + 1 ≤ s0 → s0 - (m + 1) < n →
    ∃ e', Fishref2CarBook_v1.loop4 f t ((many : Nat) : Int) ⟨r, a, S, B, C⟩ fu (F, e) n ((gcat (gapD r a S B C f t) F m).take many) ((m + 1 : Nat) : Int) = some ((gcat (gapD r a S B C f t) F (s0 - 1)).take many, e')
  | 0, _, _, hn => absurd hn (Nat.not_lt_zero _)
  | n + 1, m, hm1, hn => by
    rw [Fishref2CarBook_v1.loop4, bnd_eq]
    simp only
    by_cases c : ((gcat (gapD r a S B C f t) F m).take many).length < many
    · by_cases c2 : m + 1 < s0
      · have hB : ((if decide (((((gcat (gapD r a S B C f t) F m).take many).length : Nat) : Int) < ((many : Nat) : Int)) then decide (((m + 1 : Nat) : Int) < S) else false) : Bool) = true := by
          rw [decide_eq_true (by omega), decide_eq_true (by omega)]; rfl
        have hw : w64 (((m + 1 : Nat) : Int) + 1) = ((m + 1 + 1 : Nat) : Int) := by rw [w64_id (by omega)]; omega
        have ht : (gcat (gapD r a S B C f t) F m).take many = gcat (gapD r a S B C f t) F m := by
          refine List.take_of_length_le ?_
          rw [List.length_take] at c; omega
        rw [hB, if_pos rfl, gap_loop5 (r := r) (a := a) h h0 hft htS hS hF hm fu hf e _ F.length 0 _ (by omega) (by omega), Option.bind_some, hw, List.drop_zero, ht, ← gcat_succ]
        exact gap_loop4 hm fu hf e hs0 n (m + 1) (by omega) (by omega)
      · have hB : ((if decide (((((gcat (gapD r a S B C f t) F m).take many).length : Nat) : Int) < ((many : Nat) : Int)) then decide (((m + 1 : Nat) : Int) < S) else false) : Bool) = false := by
          rw [decide_eq_false (p := ((m + 1 : Nat) : Int) < S) (by omega)]; split <;> rfl
        have e2 : m = s0 - 1 := by omega
        rw [hB, if_neg (by decide), ← e2]
        exact ⟨_, rfl⟩
    · have hB : ((if decide (((((gcat (gapD r a S B C f t) F m).take many).length : Nat) : Int) < ((many : Nat) : Int)) then decide (((m + 1 : Nat) : Int) < S) else false) : Bool) = false := by
        rw [decide_eq_false (by omega)]; rfl
      rw [hB, if_neg (by decide), gcat_more (m := m) (k := s0 - 1) (by omega) (by rw [List.length_take] at c; omega)]
      exact ⟨_, rfl⟩
omit h h0 hft htS hS hF hFl in
theorem clone_eq {l : List Int} (hl : l.length ≤ 100000) : SlicesCloneLint l = some l := by unfold SlicesCloneLint; rw [apd_lt (by simp; omega)]; rfl
omit h h0 hft htS hS hF hFl in
theorem sortedq_eq {l : List Int} (hl : l.length ≤ 100000) : SlicesSortedint_v1 l = some (isort l) := by
  unfold SlicesSortedint_v1 SlicesCollectint_v1 srt
  rw [apd_lt (by simp; omega), Option.bind_some, Option.bind_some, List.nil_append, if_pos (by omega)]; rfl
omit h h0 hft htS hS hF hFl in
theorem isort_asc {l : List Int} (hl : l.Pairwise (· < ·)) : isort l = l := by
  unfold isort
  refine List.mergeSort_of_pairwise (hl.imp ?_)
  intro a b h; simp; omega
/-- both choose the same seats -/
theorem choose_eq {R N many : Nat} (hrR : r = (R : Int)) (hR : R ≤ 20) (ha : 1 ≤ a) (hN : (R : Int) * a = N) (hN2 : N ≤ 80) (hFN : ∀ s ∈ F, 0 ≤ s ∧ s < N) (hu : F.Pairwise (· < ·)) (hm1 : 1 ≤ many) (hm : many ≤ 8) (hmF : many ≤ F.length) (fu : Nat) (hf : 200 ≤ fu) :
    ∃ Z q e1 e2 q' e3, FareCarchoose_v1 fu F f t ((many : Nat) : Int) ⟨r, a, S, B, C⟩ = some Z ∧ Fishref2CarBook_v1.loop2 ((many : Nat) : Int) ⟨r, a, S, B, C⟩ (F, 0) fu [] 0 0 = some (q, e1, e2) ∧
      Fishref2CarBook_v1.loop4 f t ((many : Nat) : Int) ⟨r, a, S, B, C⟩ fu (F, 0) fu q 1 = some (q', e3) ∧ SlicesSortedint_v1 q' = some Z ∧ Z.length ≤ 8 := by
  have hrows := rows_loop hN hN2 ha (y0 := ⟨r, a, S, B, C⟩) rfl F [] hFN (by simp; omega)
  have hrep : (List.range R).map (rowq a []) = List.replicate R [] := by
    apply List.ext_getElem (by simp)
    intro j h1 h2
    simp [rowq]
  rw [hrep, List.nil_append] at hrows
  have hbest := pbest_loop (row := rowq a F) (many := ((many : Nat) : Int)) (R := R) R 0 (by omega)
  have hrb := rbest_loop (e := 0) (many := ((many : Nat) : Int)) (by omega) ha hR hN2 hFN (by omega) (y0 := ⟨r, a, S, B, C⟩) rfl hrR R 0 fu (by omega) (by omega)
  have hb0 : bestq (rowq a F) ((many : Nat) : Int) 0 = none := rfl
  rw [hb0] at hbest hrb
  rw [bestI_none] at hbest
  rw [bestL_none, bestS_none] at hrb
  unfold FareCarchoose_v1
  simp only
  rw [hrR, mks_in (by omega), Option.bind_some, ← hrR, hrows, Option.bind_some, List.length_replicate, hbest, Option.bind_some]
  cases eb : bestq (rowq a F) ((many : Nat) : Int) R with
  | some b =>
    rw [eb] at hrb
    rw [bestL_some, bestS_some] at hrb
    obtain ⟨hb1, hb2⟩ := bestq_lt eb
    have hbl : b < ((List.range R).map (rowq a F)).length := by simpa using hb1
    have hgb : ((List.range R).map (rowq a F))[b] = rowq a F b := by simp
    rw [bestI_some, if_pos (by simp), gx_at hbl, Option.bind_some, hgb, cutl_in (by omega) (by omega) (by omega), Option.bind_some]
    have ht : List.drop (Int.toNat 0) ((rowq a F b).take (Int.toNat ((many : Nat) : Int))) = (rowq a F b).take many := rfl
    have hlt : ((rowq a F b).take many).length = many := by rw [List.length_take]; omega
    rw [ht, clone_eq (by omega), Option.bind_some]
    refine ⟨_, _, _, _, (rowq a F b).take many, 1, rfl, hrb, ?_, ?_, by omega⟩
    · obtain ⟨n, rfl⟩ : ∃ n, fu = n + 1 := ⟨fu - 1, by omega⟩
      rw [Fishref2CarBook_v1.loop4, bnd_eq, Int.toNat_natCast, hlt, if_neg (by simp)]
    · have hpw : ((rowq a F b).take many).Pairwise (· < ·) := (hu.filter _).sublist (List.take_sublist _ _)
      rw [sortedq_eq (by omega), isort_asc hpw]
  | none =>
    rw [eb] at hrb
    rw [bestL_none, bestS_none] at hrb
    obtain ⟨R', s1, s2, s3⟩ := stable_ok (V := fun s => ovs B C s f t = false) (D := gapD r a S B C f t) (fun x y hx hy => cmp_gap (r := r) (a := a) h h0 hft htS hS x y hx hy) (fu := fu) (X := F) (by omega) (by omega) hF hu
    have hRl := s2.length_eq
    have hgc : R' = gcat (gapD r a S B C f t) F (S.toNat - 1) := by
      refine lt_ext s3 (gcat_pw hu _) fun x => ?_
      rw [s2.mem_iff, gcat_mem]
      constructor
      · intro hx
        have := (gapD_eq (r := r) (a := a) h h0 hft htS hS (hF x hx)).2.2
        exact ⟨hx, this.1, by omega⟩
      · exact fun hx => hx.1
    obtain ⟨e3, g4⟩ := gap_loop4 (r := r) (a := a) h h0 hft htS hS hF hm fu (by omega) 0 (s0 := S.toNat) (by omega) fu 0 (by omega) (by omega)
    have hg0 : (gcat (gapD r a S B C f t) F 0).take many = [] := by simp [gcat]
    rw [hg0, ← hgc] at g4
    have hlt : (R'.take many).length = many := by rw [List.length_take]; omega
    rw [bestI_none, if_neg (by decide), clone_eq (by omega), Option.bind_some, s1, Option.bind_some, cutl_in (by omega) (by omega) (by omega), Option.bind_some]
    have ht : List.drop (Int.toNat 0) (R'.take (Int.toNat ((many : Nat) : Int))) = R'.take many := rfl
    have hsr : srt (R'.take many) = some (isort (R'.take many)) := by unfold srt; rw [if_pos (by omega)]
    rw [ht, hsr, Option.bind_some]
    exact ⟨_, _, _, _, _, _, rfl, hrb, g4, sortedq_eq (by omega), by rw [isort_length]; omega⟩
end
/-! the whole script -/
theorem withinq_eq (x a b : Int) : Fishref2within x a b = Farewithin x a b := rfl
theorem withinq_iff (x a b : Int) : Farewithin x a b = true ↔ a ≤ x ∧ x ≤ b := by
  unfold Farewithin
  rw [bnd_eq]
  by_cases h : x ≥ a
  · simp [h]
  · simp [h]
theorem span_iff (f t S : Int) : Farespan f t S = true ↔ 0 ≤ f ∧ f < t ∧ t < S := by
  unfold Farespan
  rw [bnd_eq]
  by_cases h : f ≥ 0
  · by_cases k : f < t
    · simp [h, k]
    · simp [h, k]
  · simp [h]
theorem span_ref (f t S : Int) : ((if decide (f < 0) then true else (if decide (f ≥ t) then true else decide (t ≥ S))) : Bool) = !Farespan f t S := by
  cases e : Farespan f t S with
  | true =>
    have := (span_iff f t S).1 e
    rw [decide_eq_false (by omega), decide_eq_false (by omega), decide_eq_false (by omega)]; rfl
  | false =>
    have h : ¬ (0 ≤ f ∧ f < t ∧ t < S) := fun q => by rw [(span_iff f t S).2 q] at e; cases e
    by_cases c : f < 0
    · rw [decide_eq_true c]; rfl
    · by_cases c2 : f ≥ t
      · rw [decide_eq_false c, decide_eq_true c2]; rfl
      · rw [decide_eq_false c, decide_eq_false c2, decide_eq_true (by omega)]; rfl
theorem equalq_self (l : List Int) : SlicesEqualLint l l = some true := by
  have key : ∀ (r : List Int) (k : Nat), l.drop k = r → SlicesEqualLint.loop1 l r k = some (.next ()) := by
    intro r
    induction r with
    | nil => intro k _; rfl
    | cons x r ih =>
      intro k hd
      have hkl : k < l.length := by
        rcases Nat.lt_or_ge k l.length with h | h
        · exact h
        · rw [List.drop_eq_nil_of_le h] at hd; cases hd
      rw [List.drop_eq_getElem_cons hkl] at hd
      obtain ⟨h1, h2⟩ := List.cons.inj hd
      rw [SlicesEqualLint.loop1, gx_at hkl, Option.bind_some, h1]
      rw [if_neg (by simp)]
      exact ih (k + 1) h2
  unfold SlicesEqualLint
  rw [if_neg (by simp), key l 0 rfl]; rfl
theorem same_self (b : FareBooking) : Fishref2SameBooking b b = some true := by
  unfold Fishref2SameBooking
  simp [equalq_self]
theorem sameall_self (l : List FareBooking) : SlicesEqualFuncLfareBooking_v1 l l = some true := by
  have key : ∀ (r : List FareBooking) (k : Nat), l.drop k = r → SlicesEqualFuncLfareBooking_v1.loop1 l r k = some (.next ()) := by
    intro r
    induction r with
    | nil => intro k _; rfl
    | cons x r ih =>
      intro k hd
      have hkl : k < l.length := by
        rcases Nat.lt_or_ge k l.length with h | h
        · exact h
        · rw [List.drop_eq_nil_of_le h] at hd; cases hd
      rw [List.drop_eq_getElem_cons hkl] at hd
      obtain ⟨h1, h2⟩ := List.cons.inj hd
      rw [SlicesEqualFuncLfareBooking_v1.loop1, gx_at hkl, Option.bind_some, h1, same_self, Option.bind_some]
      rw [if_neg (by simp)]
      exact ih (k + 1) h2
  unfold SlicesEqualFuncLfareBooking_v1
  rw [if_neg (by simp), key l 0 rfl]; rfl
section
variable {r a S : Int} {B : List FareBooking} {C : List Bool} (h : CarI S B C)
include h
theorem pbook_loop : ∀ (n k : Nat) (q : List FareBooking), k + n = B.length → q.length ≤ k →
    FareCarBookings_v1.loop1 ⟨r, a, S, B, C⟩ n k q = some (q ++ acts (B.drop k) (C.drop k))
  | 0, k, q, hk, _ => by rw [List.drop_eq_nil_of_le (by omega)]; simp [acts, FareCarBookings_v1.loop1]
  | n + 1, k, q, hk, hq => by
    have hkB : k < B.length := by omega
    obtain ⟨hkC, d1, d2⟩ := drop_both h hkB
    have hm := h.many
    have hs := (h.ok _ (List.getElem_mem hkB)).2.2.2
    rw [FareCarBookings_v1.loop1]
    simp only
    rw [gx_at hkB, Option.bind_some, gx_at hkC, Option.bind_some, d1, d2, acts]
    cases hc : C[k] with
    | true =>
      simp only [Bool.not_true, Bool.false_eq_true, if_false, Option.bind_some, if_true]
      exact pbook_loop n (k + 1) q (by omega) (by omega)
    | false =>
      simp only [Bool.not_false, if_true, Bool.false_eq_true, if_false]
      rw [clone_eq (by omega), Option.bind_some, apx_in (by simp only [List.length_cons, List.length_nil]; omega), Option.bind_some, Option.bind_some]
      simp only
      rw [pbook_loop n (k + 1) _ (by omega) (by simp; omega)]
      simp
theorem rbook_loop : ∀ (n k : Nat) (q : List FareBooking), k + n = B.length → q.length ≤ k →
    Fishref2CarBookings_v1.loop1 ⟨r, a, S, B, C⟩ n k q = some (q ++ acts (B.drop k) (C.drop k))
  | 0, k, q, hk, _ => by rw [List.drop_eq_nil_of_le (by omega)]; simp [acts, Fishref2CarBookings_v1.loop1]
  | n + 1, k, q, hk, hq => by
    have hkB : k < B.length := by omega
    obtain ⟨hkC, d1, d2⟩ := drop_both h hkB
    have hm := h.many
    rw [Fishref2CarBookings_v1.loop1]
    simp only
    rw [gx_at hkB, Option.bind_some, gx_at hkC, Option.bind_some, d1, d2, acts]
    cases hc : C[k] with
    | true =>
      simp only [Bool.not_true, Bool.false_eq_true, if_false, Option.bind_some, if_true]
      exact rbook_loop n (k + 1) q (by omega) (by omega)
    | false =>
      simp only [Bool.not_false, if_true, Bool.false_eq_true, if_false]
      rw [apx_in (by simp only [List.length_cons, List.length_nil]; omega), Option.bind_some, Option.bind_some, rbook_loop n (k + 1) _ (by omega) (by simp; omega)]
      simp
theorem books_eq : FareCarBookings_v1 ⟨r, a, S, B, C⟩ = some (acts B C) ∧ Fishref2CarBookings_v1 ⟨r, a, S, B, C⟩ = some (acts B C) := by
  constructor
  · unfold FareCarBookings_v1
    simp only
    rw [pbook_loop h B.length 0 [] (by omega) (by simp)]; simp
  · unfold Fishref2CarBookings_v1
    simp only
    rw [rbook_loop h B.length 0 [] (by omega) (by simp)]; simp
theorem cancel_eq (x : Int) : ∃ e C', FareCarCancel_v1 x ⟨r, a, S, B, C⟩ = some (e, C') ∧ Fishref2CarCancel_v1 x ⟨r, a, S, B, C⟩ = some (e, C') ∧ CarI S B C' := by
  have hm := h.many
  have hl := h.len
  unfold FareCarCancel_v1 Fishref2CarCancel_v1
  simp only
  rw [w64_id (x := ((B.length : Nat) : Int) - 1) (by omega)]
  by_cases c : 0 ≤ x ∧ x < B.length
  · have hw : Farewithin x 0 (((B.length : Nat) : Int) - 1) = true := (withinq_iff _ _ _).2 (by omega)
    have hx : x.toNat < C.length := by omega
    have hg : gx C x = some C[x.toNat] := gx_toNat c.1 hx
    rw [hw, decide_eq_false (p := x < 0) (by omega), decide_eq_false (p := x ≥ ((B.length : Nat) : Int)) (by omega), hg]
    simp only [Bool.not_true, Bool.false_eq_true, if_false, Option.bind_some]
    cases C[x.toNat] with
    | true => simp only [if_true]; exact ⟨9, C, rfl, rfl, h⟩
    | false =>
      simp only [Bool.false_eq_true, if_false]
      rw [ix_in (by omega) (by omega), Option.bind_some, sx_in (by omega) (by omega), Option.bind_some]
      exact ⟨0, _, rfl, rfl, ⟨by rw [List.length_set]; exact hl, hm, h.ok⟩⟩
  · have hw : Farewithin x 0 (((B.length : Nat) : Int) - 1) = false := by
      cases e : Farewithin x 0 (((B.length : Nat) : Int) - 1) with
      | false => rfl
      | true => have := (withinq_iff _ _ _).1 e; omega
    rw [hw]
    simp only [Bool.not_false, if_true, Option.bind_some]
    by_cases c2 : x < 0
    · rw [decide_eq_true c2]
      simp only [if_true, Option.bind_some]
      exact ⟨9, C, rfl, rfl, h⟩
    · rw [decide_eq_false c2, decide_eq_true (p := x ≥ ((B.length : Nat) : Int)) (by omega)]
      simp only [Bool.false_eq_true, if_false, if_true, Option.bind_some]
      exact ⟨9, C, rfl, rfl, h⟩
variable {R N : Nat} (hrR : r = (R : Int)) (hR : R ≤ 20) (ha : 1 ≤ a) (hN : (R : Int) * a = N) (hN2 : N ≤ 80) (hS : S ≤ 12)
include hrR hN hN2
theorem free_eq (fu : Nat) (hf : 100 ≤ fu) (f t : Int) : ∃ F e, FareCarFree_v1 fu f t ⟨r, a, S, B, C⟩ = some (F, e) ∧ Fishref2CarFree_v1 fu f t ⟨r, a, S, B, C⟩ = some (F, e) ∧
    (Farespan f t S = true → e = 0 ∧ F = frs B C 0 N f t ∧ FareCarfree_v1 fu f t ⟨r, a, S, B, C⟩ = some F) ∧ (Farespan f t S = false → e = 2) := by
  have hra : r * a = (N : Int) := by rw [hrR]; exact hN
  have e1 := pfree_loop (r := r) h hra hN2 f t N 0 fu [] (by omega) (by omega) (by simp)
  have e2 := rfree_loop (r := r) h hra hN2 f t N 0 fu [] (by omega) (by omega) (by simp)
  have e1' : FareCarfree_v1.loop2 f t ⟨r, a, S, B, C⟩ fu [] 0 = some ([] ++ frs B C 0 N f t, ((N : Nat) : Int)) := e1
  have e2' : Fishref2CarFree_v1.loop2 f t ⟨r, a, S, B, C⟩ fu [] 0 = some ([] ++ frs B C 0 N f t, ((N : Nat) : Int)) := e2
  unfold FareCarFree_v1 Fishref2CarFree_v1
  rw [bnd_eq]
  simp only
  rw [span_ref]
  cases hs : Farespan f t S with
  | true =>
    have e3 : FareCarfree_v1 fu f t ⟨r, a, S, B, C⟩ = some (frs B C 0 N f t) := by
      unfold FareCarfree_v1; rw [e1', Option.bind_some]; simp
    simp only [Bool.not_true, Bool.false_eq_true, if_false]
    rw [e3, e2', Option.bind_some, Option.bind_some]
    exact ⟨_, 0, rfl, by simp, fun _ => ⟨rfl, rfl, rfl⟩, fun q => by cases q⟩
  | false =>
    simp only [Bool.not_false, if_true]
    exact ⟨[], 2, rfl, rfl, fun q => (by cases q), fun _ => rfl⟩
include hR ha hS
theorem book_eq (fu : Nat) (hf : 200 ≤ fu) (f t many : Int) (hB : B.length < 4398046511104) : ∃ b e B' C', FareCarBook_v1 fu f t many ⟨r, a, S, B, C⟩ = some (b, e, B', C') ∧ Fishref2CarBook_v1 fu f t many ⟨r, a, S, B, C⟩ = some (b, e, B', C') ∧ CarI S B' C' ∧ B'.length ≤ B.length + 1 := by
  have hl := h.len
  obtain ⟨F, e, f1, f2, f3, f4⟩ := free_eq h hrR hN hN2 fu (by omega) f t
  unfold FareCarBook_v1 Fishref2CarBook_v1
  rw [f2, Option.bind_some, bnd_eq, bnd_eq, withinq_eq]
  simp only
  cases hs : Farespan f t S with
  | false =>
    obtain rfl := f4 hs
    have e1 : (((2 : Int) != 0)) = true := rfl
    rw [e1]
    simp only [Bool.not_false, if_true]
    exact ⟨_, _, _, _, rfl, rfl, h, by omega⟩
  | true =>
    obtain ⟨rfl, hFe, f5⟩ := f3 hs
    have hsp := (span_iff f t S).1 hs
    have e1 : (((0 : Int) != 0)) = false := rfl
    rw [e1]
    simp only [Bool.not_true, Bool.false_eq_true, if_false]
    cases hw : Farewithin many 1 8 with
    | false =>
      simp only [Bool.not_false, if_true]
      exact ⟨_, _, _, _, rfl, rfl, h, by omega⟩
    | true =>
      have hm := (withinq_iff _ _ _).1 hw
      simp only [Bool.not_true, Bool.false_eq_true, if_false]
      rw [f5, Option.bind_some]
      have hFl : F.length ≤ 80 := by
        rw [hFe]
        refine Nat.le_trans (List.length_filter_le _ _) ?_
        rw [sts_len]; exact hN2
      by_cases c : ((F.length : Nat) : Int) < many
      · rw [if_pos (by simpa using c), if_pos (by simpa using c)]
        exact ⟨_, _, _, _, rfl, rfl, h, by omega⟩
      · rw [if_neg (by simpa using c), if_neg (by simpa using c)]
        obtain ⟨Z, q, e1, e2, q', e3, g1, g2, g3, g4, g5⟩ := choose_eq (r := r) (a := a) h hsp.1 hsp.2.1 hsp.2.2 hS (F := F) (fun s hs => by
            rw [hFe] at hs
            have := (List.mem_filter.1 hs).2
            simpa using this) hFl hrR hR ha hN hN2 (fun s hs => by
            rw [hFe] at hs
            have := sts_mem.1 (List.mem_filter.1 hs).1
            omega) (by rw [hFe]; exact (sts_lt _ _).filter _) (many := many.toNat) (by omega) (by omega) (by omega) fu hf
        have hmm : ((many.toNat : Nat) : Int) = many := by omega
        rw [hmm] at g1 g2 g3
        rw [g1, g2, Option.bind_some, Option.bind_some]
        simp only
        rw [g3, Option.bind_some, apx_in (by simp only [List.length_cons, List.length_nil]; omega), Option.bind_some, apx_in (by simp only [List.length_cons, List.length_nil]; omega), Option.bind_some, clone_eq (by omega), Option.bind_some]
        simp only
        rw [g4, Option.bind_some, apx_in (by simp only [List.length_cons, List.length_nil]; omega), Option.bind_some, Option.bind_some]
        refine ⟨_, _, _, _, rfl, rfl, ⟨by simp; omega, by simp; omega, fun b hb => ?_⟩, by simp⟩
        rcases List.mem_append.1 hb with hb | hb
        · exact h.ok b hb
        · simp at hb; subst hb; exact ⟨hsp.1, hsp.2.1, hsp.2.2, by simp only; omega⟩
end
theorem script_ok {r a S : Int} {R N : Nat} (hrR : r = (R : Int)) (hR : R ≤ 20) (ha : 1 ≤ a) (hN : (R : Int) * a = N) (hN2 : N ≤ 80) (hS : S ≤ 12) (fu : Nat) (hf : 200 ≤ fu) (d : Int × Int × Int × List FareBooking × List Bool) (hd : d.1 = r ∧ d.2.1 = a ∧ d.2.2.1 = S) : ∀ (n : Nat) (q : List Int) (B : List FareBooking) (C : List Bool), q.length < n → 4 * B.length + q.length < 17592186044416 → CarI S B C →
    ∃ z, Fishlaw2FareCars.loop2 r a S fu d n q B C B C = some (.next z)
  | 0, _, _, _, hn, _, _ => absurd hn (Nat.not_lt_zero _)
  | n + 1, q, B, C, hn, hb, h => by
    obtain ⟨d1, d2, d3⟩ := hd
    rw [Fishlaw2FareCars.loop2]
    by_cases c : ((q.length : Nat) : Int) ≥ 4
    · have g0 : ∀ (k : Nat), k < 4 → ∃ x, gx q ((k : Nat) : Int) = some x := fun k hk => ⟨_, gx_at (by omega)⟩
      obtain ⟨x0, y0⟩ := g0 0 (by omega)
      obtain ⟨x1, y1⟩ := g0 1 (by omega)
      obtain ⟨x2, y2⟩ := g0 2 (by omega)
      obtain ⟨x3, y3⟩ := g0 3 (by omega)
      have y0' : gx q 0 = some x0 := y0
      have y1' : gx q 1 = some x1 := y1
      have y2' : gx q 2 = some x2 := y2
      have y3' : gx q 3 = some x3 := y3
      rw [if_pos (by simpa using c), y0', Option.bind_some, y1', Option.bind_some, y2', Option.bind_some, y3', Option.bind_some, cutl_in (by omega) c (by omega), Option.bind_some, d1, d2, d3]
      have hql : (List.drop (Int.toNat 4) (List.take (Int.toNat ((q.length : Nat) : Int)) q)).length = q.length - 4 := by simp
      have tail : ∀ (B' : List FareBooking) (C' : List Bool), CarI S B' C' → B'.length ≤ B.length + 1 → ∃ z, ((FareCarBookings_v1 (FareCar.mk r a S B' C')).bind fun q458 => ((Fishref2CarBookings_v1 (Fishref2Car.mk r a S B' C')).bind fun q468 => ((SlicesEqualFuncLfareBooking_v1 q458 q468).bind fun q476 => (if !q476 then some (.ret false) else Fishlaw2FareCars.loop2 r a S fu d n (List.drop (Int.toNat 4) (List.take (Int.toNat ((q.length : Nat) : Int)) q)) B' C' B' C')))) = some (Out.next z) := by
        intro B' C' h' hl'
        rw [(books_eq (r := r) (a := a) h').1, Option.bind_some, (books_eq (r := r) (a := a) h').2, Option.bind_some, sameall_self, Option.bind_some]
        simp only [Bool.not_true, Bool.false_eq_true, if_false]
        exact script_ok hrR hR ha hN hN2 hS fu hf d ⟨d1, d2, d3⟩ n _ B' C' (by omega) (by omega) h'
      by_cases k0 : x0 = 0
      · rw [if_pos (by simpa using k0)]
        obtain ⟨e, C', e1, e2, h'⟩ := cancel_eq (r := r) (a := a) h x1
        rw [e1, Option.bind_some, e2, Option.bind_some]
        simp only [bne_self_eq_false, Bool.false_eq_true, if_false, Option.bind_some]
        exact tail B C' h' (by omega)
      · rw [if_neg (by simpa using k0)]
        by_cases k1 : x0 = 1
        · rw [if_pos (by simpa using k1)]
          obtain ⟨F, e, e1, e2, _⟩ := free_eq (r := r) (a := a) h hrR hN hN2 fu (by omega) x1 x2
          rw [e1, Option.bind_some, e2, Option.bind_some]
          simp only [bne_self_eq_false, Bool.false_eq_true, if_false]
          rw [equalq_self]
          simp only [Option.bind_some, Bool.not_true, Bool.false_eq_true, if_false]
          exact tail B C h (by omega)
        · rw [if_neg (by simpa using k1)]
          obtain ⟨b, e, B', C', e1, e2, h', hl'⟩ := book_eq (r := r) (a := a) h hrR hR ha hN hN2 hS fu hf x1 x2 x3 (by omega)
          rw [e1, Option.bind_some, e2, Option.bind_some]
          simp only [bne_self_eq_false, Bool.false_eq_true, if_false]
          rw [same_self]
          simp only [Option.bind_some, Bool.not_true, Bool.false_eq_true, if_false]
          exact tail B' C' h' hl'
    · rw [if_neg (by simpa using c)]
      exact ⟨_, rfl⟩
theorem seatsq_true (n : Nat) : Fishlaw2seats (n + 200) = some true := by kernel_rfl
theorem FareCars_law (x0 x1 x2 : Int) (x3 : List Int) (_ : -9223372036854775808 ≤ x0 ∧ x0 ≤ 9223372036854775807) (_ : -9223372036854775808 ≤ x1 ∧ x1 ≤ 9223372036854775807) (_ : -9223372036854775808 ≤ x2 ∧ x2 ≤ 9223372036854775807) (h3 : x3.length * 8 ≤ reachBytes ∧ ∀ y ∈ x3, True) : ∃ fu, Fishlaw2FareCars fu x0 x1 x2 x3 = some true := by
  have hr : reachBytes = 140737488351232 := rfl
  have hl := h3.1
  refine ⟨x3.length + 1 + 200, ?_⟩
  unfold Fishlaw2FareCars FareNewCar Fishref2CarFault
  rw [show Fishref2within = Farewithin from rfl]
  simp only [bnd_eq]
  rw [seatsq_true]
  simp only [Option.bind_some, Bool.not_true, Bool.false_eq_true, if_false]
  cases hB : ((if !(Farewithin x0 1 20) then true else (if !(Farewithin x1 1 4) then true else !(Farewithin x2 2 12))) : Bool) with
  | true => rfl
  | false =>
    have h0 : Farewithin x0 1 20 = true := by
      cases e : Farewithin x0 1 20 with
      | true => rfl
      | false => rw [e] at hB; cases hB
    have h1 : Farewithin x1 1 4 = true := by
      cases e : Farewithin x1 1 4 with
      | true => rfl
      | false => rw [e, h0] at hB; cases hB
    have h2 : Farewithin x2 2 12 = true := by
      cases e : Farewithin x2 2 12 with
      | true => rfl
      | false => rw [e, h0, h1] at hB; cases hB
    have w0 := (withinq_iff _ _ _).1 h0
    have w1 := (withinq_iff _ _ _).1 h1
    have w2 := (withinq_iff _ _ _).1 h2
    obtain ⟨R, rfl⟩ : ∃ R : Nat, x0 = (R : Int) := ⟨x0.toNat, by omega⟩
    obtain ⟨a, rfl⟩ : ∃ a : Nat, x1 = (a : Int) := ⟨x1.toNat, by omega⟩
    obtain ⟨z, hz⟩ := script_ok (r := (R : Int)) (a := (a : Int)) (S := x2) (R := R) (N := R * a) rfl (by omega) (by omega) (by simp) (by
      have : R * a ≤ 20 * 4 := Nat.mul_le_mul (by omega) (by omega)
      omega) w2.2 (x3.length + 1 + 200) (by omega) ((R : Int), (a : Int), x2, [], []) ⟨rfl, rfl, rfl⟩ (x3.length + 1 + 200) x3 [] [] (by omega) (by simp; omega) ⟨rfl, by simp, fun b hb => by cases hb⟩
    simp only [bne_self_eq_false, Bool.false_eq_true, if_false]
    rw [hz, Option.bind_some]

end Go.Fp
