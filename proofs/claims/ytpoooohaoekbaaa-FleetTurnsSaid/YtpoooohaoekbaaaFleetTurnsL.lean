/- FleetTurns: the mirror of the law is true of all tasks and turning times. -/
import Derived.Test.YtpoooohaoekbaaaFleetTurnsM
import Derived.Test.YtpoooohaoekbaaaFpPlain
import Derived.KernelRfl
namespace Go.Fp

theorem within_ref : Fishref2within = Fleetwithin := rfl
theorem tasks_loop : ∀ l, Fishref2TasksFault.loop1 l = FleetCheckTasks.loop1 l
  | [] => rfl
  | x :: r => by simp only [Fishref2TasksFault.loop1, FleetCheckTasks.loop1, tasks_loop r]; rfl
theorem tasks_ref (l : List FleetTask) : Fishref2TasksFault l = FleetCheckTasks l := by
  unfold Fishref2TasksFault FleetCheckTasks; rw [tasks_loop]
theorem turn_ref (l : List FleetTask) (t : Int) : Fishref2TurnFault l t = FleetcheckTurn l t := by
  unfold Fishref2TurnFault FleetcheckTurn; rw [tasks_ref]; rfl
/-! the stable sort of the library (blocks of 20 by insertion, then symMerge), for lists of at most 40 -/
section stable
theorem gx_at {α : Type} {A T : List α} {x : α} {i : Int} (h : i = (A.length : Int)) : gx (A ++ x :: T) i = some x := by
  subst h; simp [gx]
theorem ix_at {α : Type} {A T : List α} {x : α} {i : Int} (h : i = (A.length : Int)) : ix (A ++ x :: T) i = some () := by
  subst h; unfold ix; rw [if_pos]; simp; omega
theorem sx_at {α : Type} {A T : List α} {x v : α} {i : Int} (h : i = (A.length : Int)) : sx (A ++ x :: T) i v = some (A ++ v :: T) := by
  subst h; unfold sx; rw [if_pos]
  · simp
  · simp; omega

/-- strictly ahead: by D, then by number -/
def Lt (D : Int → Int) (x y : Int) : Prop := D x < D y ∨ (D x = D y ∧ x < y)
theorem Lt.trans {D : Int → Int} {x y z : Int} (h : Lt D x y) (k : Lt D y z) : Lt D x z := by unfold Lt at *; omega
theorem Lt.irr {D : Int → Int} {x : Int} (h : Lt D x x) : False := by unfold Lt at h; omega
theorem Lt.le {D : Int → Int} {x y : Int} (h : Lt D x y) : D x ≤ D y := by unfold Lt at h; omega

theorem lt_ext {D : Int → Int} : ∀ {l1 l2 : List Int}, l1.Pairwise (Lt D) → l2.Pairwise (Lt D) → (∀ x, x ∈ l1 ↔ x ∈ l2) → l1 = l2
  | [], [], _, _, _ => rfl
  | [], b :: _, _, _, h => absurd ((h b).2 (by simp)) (by simp)
  | a :: _, [], _, _, h => absurd ((h a).1 (by simp)) (by simp)
  | a :: t1, b :: t2, h1, h2, h => by
    rw [List.pairwise_cons] at h1 h2
    have hab : a = b := by
      have ha := (h a).1 (by simp)
      have hb := (h b).2 (by simp)
      rcases List.mem_cons.1 ha with e | e
      · exact e
      · rcases List.mem_cons.1 hb with e2 | e2
        · exact e2.symm
        · exact ((h2.1 a e).trans (h1.1 b e2)).irr.elim
    subst hab
    have ht : ∀ x, x ∈ t1 ↔ x ∈ t2 := by
      intro x
      constructor
      · intro hx
        rcases List.mem_cons.1 ((h x).1 (by simp [hx])) with e | e
        · subst e; exact (h1.1 x hx).irr.elim
        · exact e
      · intro hx
        rcases List.mem_cons.1 ((h x).2 (by simp [hx])) with e | e
        · subst e; exact (h2.1 x hx).irr.elim
        · exact e
    rw [lt_ext h1.2 h2.2 ht]

variable {l : List FleetTask} {D : Int → Int} {V : Int → Prop}

theorem ins2 (hC : ∀ x y, V x → V y → ∃ c, Fleetorder_1_v1 x y l = some c ∧ (c < 0 ↔ D x < D y)) : ∀ (n : Nat) (S A T : List Int) (x : Int), S.length < n → A.length + S.length < 1000000 → (∀ y ∈ S, V y) → V x → (∀ y ∈ S, y < x) → S.Pairwise (Lt D) →
    ∃ j R, SlicesinsertionSortCmpFuncint_v1.loop2 (A.length : Int) l n ((A.length + S.length : Nat) : Int) (A ++ (S ++ x :: T)) = some (j, A ++ (R ++ T)) ∧ R.Perm (S ++ [x]) ∧ R.Pairwise (Lt D)
  | 0, S, _, _, _, hn, _, _, _, _, _ => absurd hn (by omega)
  | n + 1, S, A, T, x, hn, hb, hV, hx, hlt, hs => by
    rcases List.eq_nil_or_concat S with rfl | ⟨S', y, rfl⟩
    · refine ⟨_, [x], by simp [SlicesinsertionSortCmpFuncint_v1.loop2]; exact rfl, by simp, by simp⟩
    · simp only [List.concat_eq_append] at *
      simp only [List.length_append, List.length_cons, List.length_nil] at hn hb
      obtain ⟨c, hc1, hc2⟩ := hC x y hx (hV y (by simp))
      have hj : w64 (((A.length + (S' ++ [y]).length : Nat) : Int) - 1) = ((A.length + S'.length : Nat) : Int) := by
        rw [w64_id (by simp; omega)]; simp; omega
      have hg : decide (((A.length + (S' ++ [y]).length : Nat) : Int) > (A.length : Int)) = true := by simp; omega
      have e1 : gx (A ++ ((S' ++ [y]) ++ x :: T)) ((A.length + (S' ++ [y]).length : Nat) : Int) = some x := by
        rw [← List.append_assoc A]; exact gx_at (by simp)
      have e2 : gx (A ++ ((S' ++ [y]) ++ x :: T)) ((A.length + S'.length : Nat) : Int) = some y := by
        rw [show A ++ ((S' ++ [y]) ++ x :: T) = (A ++ S') ++ y :: (x :: T) by simp]; exact gx_at (by simp)
      rw [SlicesinsertionSortCmpFuncint_v1.loop2]
      simp only [hg, if_true, hj, e1, e2, Option.bind_some, hc1]
      by_cases hlt2 : D x < D y
      · have hd : decide (c < 0) = true := by simpa using hc2.2 hlt2
        have e3 : ix (A ++ ((S' ++ [y]) ++ x :: T)) ((A.length + (S' ++ [y]).length : Nat) : Int) = some () := by
          rw [← List.append_assoc A]; exact ix_at (by simp)
        have e4 : sx (A ++ ((S' ++ [y]) ++ x :: T)) ((A.length + (S' ++ [y]).length : Nat) : Int) y = some ((A ++ S') ++ y :: (y :: T)) := by
          rw [← List.append_assoc A, sx_at (by simp)]; simp
        have e5 : ix ((A ++ S') ++ y :: (y :: T)) ((A.length + S'.length : Nat) : Int) = some () := ix_at (by simp)
        have e6 : sx ((A ++ S') ++ y :: (y :: T)) ((A.length + S'.length : Nat) : Int) x = some (A ++ (S' ++ x :: (y :: T))) := by
          rw [sx_at (by simp)]; simp
        simp only [hd, if_true, e3, e4, e5, e6, Option.bind_some]
        have hs2 := List.pairwise_append.1 hs
        obtain ⟨j, R, r1, r2, r3⟩ := ins2 hC n S' A (y :: T) x (by omega) (by omega) (fun z hz => hV z (by simp [hz])) hx (fun z hz => hlt z (by simp [hz])) hs2.1
        refine ⟨j, R ++ [y], by rw [r1]; simp, ?_, ?_⟩
        · exact (r2.append_right [y]).trans (by simpa using (List.Perm.swap y x []).append_left S')
        · refine List.pairwise_append.2 ⟨r3, by simp, ?_⟩
          intro z hz w hw
          simp at hw; subst hw
          rcases List.mem_append.1 (r2.subset hz) with h | h
          · exact hs2.2.2 z h w (by simp)
          · simp at h; subst h; exact .inl hlt2
      · have hd : decide (c < 0) = false := by simpa using fun h => hlt2 (hc2.1 h)
        simp only [hd, Bool.false_eq_true, if_false]
        refine ⟨_, (S' ++ [y]) ++ [x], by simp; exact rfl, List.Perm.refl _, ?_⟩
        refine List.pairwise_append.2 ⟨hs, by simp, ?_⟩
        intro z hz w hw
        simp at hw; subst hw
        have hyx : Lt D y w := by
          have := hlt y (by simp)
          unfold Lt; omega
        rcases List.mem_append.1 hz with h | h
        · exact ((List.pairwise_append.1 hs).2.2 z h y (by simp)).trans hyx
        · simp at h; subst h; exact hyx

theorem ins1 (hC : ∀ x y, V x → V y → ∃ c, Fleetorder_1_v1 x y l = some c ∧ (c < 0 ↔ D x < D y)) (fu : Nat) : ∀ (U : List Int) (n : Nat) (S A T : List Int), U.length < n → S.length + U.length < fu → A.length + S.length + U.length < 1000000 → (∀ y ∈ S, V y) → (∀ y ∈ U, V y) → (∀ y ∈ S, ∀ u ∈ U, y < u) → U.Pairwise (· < ·) → S.Pairwise (Lt D) →
    ∃ j R, SlicesinsertionSortCmpFuncint_v1.loop1 (A.length : Int) ((A.length + S.length + U.length : Nat) : Int) l fu n ((A.length + S.length : Nat) : Int) (A ++ (S ++ (U ++ T))) = some (j, A ++ (R ++ T)) ∧ R.Perm (S ++ U) ∧ R.Pairwise (Lt D)
  | [], n, S, A, T, hn, _, _, _, _, _, _, hs => by
    obtain ⟨n, rfl⟩ : ∃ m, n = m + 1 := ⟨n - 1, by simp at hn; omega⟩
    exact ⟨_, S, by simp [SlicesinsertionSortCmpFuncint_v1.loop1]; exact rfl, by simp, hs⟩
  | u :: U, n, S, A, T, hn, hf, hb, hV, hU, hlt, hu, hs => by
    obtain ⟨n, rfl⟩ : ∃ m, n = m + 1 := ⟨n - 1, by simp at hn; omega⟩
    simp only [List.length_cons] at hn hf hb
    obtain ⟨j, R, r1, r2, r3⟩ := ins2 hC fu S A (U ++ T) u (by omega) (by omega) hV (hU u (by simp)) (fun y hy => hlt y hy u (by simp)) hs
    have hl := r2.length_eq
    simp only [List.length_append, List.length_cons, List.length_nil] at hl
    rw [List.pairwise_cons] at hu
    have hmem : ∀ y ∈ R, y ∈ S ∨ y = u := by intro y hy; simpa using r2.subset hy
    obtain ⟨j', R', q1, q2, q3⟩ := ins1 hC fu U n R A T (by omega) (by omega) (by omega) (fun y hy => (hmem y hy).elim (hV y) (fun e => e ▸ hU u (by simp))) (fun y hy => hU y (by simp [hy]))
      (fun y hy v hv => (hmem y hy).elim (fun h => hlt y h v (by simp [hv])) (fun e => e ▸ hu.1 v hv)) hu.2 r3
    refine ⟨j', R', ?_, q2.trans (by simpa using r2.append_right U), q3⟩
    rw [SlicesinsertionSortCmpFuncint_v1.loop1]
    have h1 : decide (((A.length + S.length : Nat) : Int) < ((A.length + S.length + (u :: U).length : Nat) : Int)) = true := by simp; omega
    have h2 : w64 (((A.length + S.length : Nat) : Int) + 1) = ((A.length + R.length : Nat) : Int) := by
      rw [w64_id (by omega)]; omega
    have h3 : ((A.length + S.length + (u :: U).length : Nat) : Int) = ((A.length + R.length + U.length : Nat) : Int) := by simp; omega
    simp only [h1, if_true]
    simp only [List.cons_append, r1, Option.bind_some, h2, h3]
    exact q1

theorem ins_ok (hC : ∀ x y, V x → V y → ∃ c, Fleetorder_1_v1 x y l = some c ∧ (c < 0 ↔ D x < D y)) {fu : Nat} {A X T : List Int} (hf : X.length + 1 < fu) (hb : A.length + X.length < 1000000) (hV : ∀ y ∈ X, V y) (hu : X.Pairwise (· < ·)) :
    ∃ R, SlicesinsertionSortCmpFuncint_v1 fu (A ++ (X ++ T)) (A.length : Int) ((A.length + X.length : Nat) : Int) l = some (A ++ (R ++ T)) ∧ R.Perm X ∧ R.Pairwise (Lt D) := by
  unfold SlicesinsertionSortCmpFuncint_v1
  have h2 : w64 ((A.length : Int) + 1) = ((A.length + 1 : Nat) : Int) := by rw [w64_id (by omega)]; omega
  rw [h2]
  cases X with
  | nil =>
    obtain ⟨f, rfl⟩ : ∃ m, fu = m + 1 := ⟨fu - 1, by omega⟩
    refine ⟨[], ?_, by simp, by simp⟩
    rw [SlicesinsertionSortCmpFuncint_v1.loop1]
    have h1 : decide (((A.length + 1 : Nat) : Int) < ((A.length + ([] : List Int).length : Nat) : Int)) = false := by simp; omega
    simp only [h1, Bool.false_eq_true, if_false, Option.bind_some]
  | cons x X =>
    simp only [List.length_cons] at hf hb
    rw [List.pairwise_cons] at hu
    obtain ⟨j, R, r1, r2, r3⟩ := ins1 hC fu X fu [x] A T (by omega) (by simp; omega) (by simp; omega) (by simpa using hV x (by simp)) (fun y hy => hV y (by simp [hy])) (by simpa using hu.1) hu.2 (by simp)
    have h3 : ((A.length + (x :: X).length : Nat) : Int) = ((A.length + [x].length + X.length : Nat) : Int) := by simp; omega
    refine ⟨R, ?_, r2, r3⟩
    rw [h3]
    simp only [List.length_cons, List.length_nil, Nat.zero_add, List.cons_append, List.nil_append] at r1 ⊢
    rw [r1]; rfl

theorem swap1 : ∀ (X2 : List Int) (n : Nat) (Y2 Y1 X1 A M T : List Int), X2.length = Y2.length → X1.length = Y1.length → X2.length < n → A.length + Y1.length + X2.length + M.length + X1.length + Y2.length < 1000000 →
    ∃ j, SlicesswapRangeCmpFuncint_v1.loop1 (A.length : Int) ((A.length + Y1.length + X2.length + M.length : Nat) : Int) ((Y1.length + X2.length : Nat) : Int) n (Y1.length : Int) (A ++ (Y1 ++ (X2 ++ (M ++ (X1 ++ (Y2 ++ T)))))) = some (j, A ++ ((Y1 ++ Y2) ++ (M ++ ((X1 ++ X2) ++ T))))
  | [], n, Y2, Y1, X1, A, M, T, h1, _, hn, _ => by
    obtain ⟨n, rfl⟩ : ∃ m, n = m + 1 := ⟨n - 1, by omega⟩
    obtain rfl : Y2 = [] := by simpa using h1.symm
    exact ⟨_, by simp [SlicesswapRangeCmpFuncint_v1.loop1]; exact rfl⟩
  | x :: X2, n, Y2, Y1, X1, A, M, T, h1, h2, hn, hb => by
    obtain ⟨n, rfl⟩ : ∃ m, n = m + 1 := ⟨n - 1, by omega⟩
    cases Y2 with
    | nil => simp at h1
    | cons y Y2 =>
      simp only [List.length_cons] at h1 hn hb
      obtain ⟨j, hj⟩ := swap1 X2 n Y2 (Y1 ++ [y]) (X1 ++ [x]) A M T (by omega) (by simp; omega) (by omega) (by simp; omega)
      refine ⟨j, ?_⟩
      rw [SlicesswapRangeCmpFuncint_v1.loop1]
      have g1 : decide ((Y1.length : Int) < ((Y1.length + (x :: X2).length : Nat) : Int)) = true := by simp; omega
      have g2 : w64 (((A.length + Y1.length + (x :: X2).length + M.length : Nat) : Int) + (Y1.length : Int)) = ((A ++ (Y1 ++ (x :: X2 ++ (M ++ X1)))).length : Int) := by
        rw [w64_id (by simp; omega)]; simp; omega
      have g3 : w64 ((A.length : Int) + (Y1.length : Int)) = ((A ++ Y1).length : Int) := by
        rw [w64_id (by omega)]; simp
      have g4 : w64 ((Y1.length : Int) + 1) = ((Y1 ++ [y]).length : Int) := by rw [w64_id (by omega)]; simp
      have d1 : A ++ (Y1 ++ (x :: X2 ++ (M ++ (X1 ++ (y :: Y2 ++ T))))) = (A ++ (Y1 ++ (x :: X2 ++ (M ++ X1)))) ++ y :: (Y2 ++ T) := by simp
      have d2 : A ++ (Y1 ++ (x :: X2 ++ (M ++ (X1 ++ (y :: Y2 ++ T))))) = (A ++ Y1) ++ x :: (X2 ++ (M ++ (X1 ++ (y :: Y2 ++ T)))) := by simp
      have e1 : gx (A ++ (Y1 ++ (x :: X2 ++ (M ++ (X1 ++ (y :: Y2 ++ T)))))) ((A ++ (Y1 ++ (x :: X2 ++ (M ++ X1)))).length : Int) = some y := by rw [d1]; exact gx_at rfl
      have e2 : gx (A ++ (Y1 ++ (x :: X2 ++ (M ++ (X1 ++ (y :: Y2 ++ T)))))) ((A ++ Y1).length : Int) = some x := by rw [d2]; exact gx_at rfl
      have e3 : ix (A ++ (Y1 ++ (x :: X2 ++ (M ++ (X1 ++ (y :: Y2 ++ T)))))) ((A ++ Y1).length : Int) = some () := by rw [d2]; exact ix_at rfl
      have e4 : sx (A ++ (Y1 ++ (x :: X2 ++ (M ++ (X1 ++ (y :: Y2 ++ T)))))) ((A ++ Y1).length : Int) y = some ((A ++ (Y1 ++ (y :: X2 ++ (M ++ X1)))) ++ y :: (Y2 ++ T)) := by rw [d2, sx_at rfl]; simp
      have g5 : (A ++ (Y1 ++ (x :: X2 ++ (M ++ X1)))).length = (A ++ (Y1 ++ (y :: X2 ++ (M ++ X1)))).length := by simp
      have e5 : ix ((A ++ (Y1 ++ (y :: X2 ++ (M ++ X1)))) ++ y :: (Y2 ++ T)) ((A ++ (Y1 ++ (x :: X2 ++ (M ++ X1)))).length : Int) = some () := ix_at (by rw [g5])
      have e6 : sx ((A ++ (Y1 ++ (y :: X2 ++ (M ++ X1)))) ++ y :: (Y2 ++ T)) ((A ++ (Y1 ++ (x :: X2 ++ (M ++ X1)))).length : Int) x = some (A ++ ((Y1 ++ [y]) ++ (X2 ++ (M ++ ((X1 ++ [x]) ++ (Y2 ++ T)))))) := by rw [sx_at (by rw [g5])]; simp
      simp only [g1, if_true, g2, g3, g4, e1, e2, e3, e4, e5, e6, Option.bind_some]
      have k1 : ((A.length + (Y1 ++ [y]).length + X2.length + M.length : Nat) : Int) = ((A.length + Y1.length + (x :: X2).length + M.length : Nat) : Int) := by simp; omega
      have k2 : (((Y1 ++ [y]).length + X2.length : Nat) : Int) = ((Y1.length + (x :: X2).length : Nat) : Int) := by simp; omega
      rw [k1, k2] at hj
      rw [hj]; simp

theorem swap_ok {fu : Nat} {A X M Y T : List Int} {a b n : Int} (h : X.length = Y.length) (hf : X.length < fu) (hb : A.length + X.length + M.length + Y.length < 1000000) (ha : a = (A.length : Int)) (hb2 : b = ((A.length + X.length + M.length : Nat) : Int)) (hn : n = (X.length : Int)) :
    SlicesswapRangeCmpFuncint_v1 fu (A ++ (X ++ (M ++ (Y ++ T)))) a b n l = some (A ++ (Y ++ (M ++ (X ++ T)))) := by
  obtain ⟨j, hj⟩ := swap1 X fu Y [] [] A M T h rfl hf (by simpa using hb)
  unfold SlicesswapRangeCmpFuncint_v1
  simp only [List.length_nil, Nat.zero_add, List.nil_append, Nat.add_zero] at hj
  subst ha hb2 hn
  have : (0 : Int) = ((0 : Nat) : Int) := rfl
  rw [this, hj]; rfl

theorem rot1 (fu : Nat) : ∀ (n : Nat) (X Y A T : List Int), X.length + Y.length < n → X ≠ [] → Y ≠ [] → X.length + Y.length < fu → A.length + X.length + Y.length < 1000000 →
    ∃ (X' Y' A' T' : List Int), SlicesrotateCmpFuncint_v1.loop1 ((A.length + X.length : Nat) : Int) l fu n (X.length : Int) (Y.length : Int) (A ++ (X ++ (Y ++ T))) = some ((X'.length : Int), (X'.length : Int), A' ++ (X' ++ (Y' ++ T')))
      ∧ Y'.length = X'.length ∧ A'.length + X'.length = A.length + X.length ∧ A' ++ (Y' ++ (X' ++ T')) = A ++ (Y ++ (X ++ T)) ∧ X'.length ≤ X.length
  | 0, _, _, _, _, h, _, _, _, _ => absurd h (by omega)
  | n + 1, X, Y, A, T, hn, hX, hY, hf, hb => by
    have lx : 0 < X.length := List.length_pos_iff.2 hX
    have ly : 0 < Y.length := List.length_pos_iff.2 hY
    rw [SlicesrotateCmpFuncint_v1.loop1]
    by_cases h1 : X.length = Y.length
    · refine ⟨X, Y, A, T, ?_, h1.symm, rfl, rfl, Nat.le_refl _⟩
      simp [h1]
    · have hne : ((X.length : Int) != (Y.length : Int)) = true := by simp; omega
      simp only [hne, if_true]
      by_cases h2 : Y.length < X.length
      · have hd : decide ((X.length : Int) > (Y.length : Int)) = true := by simp; omega
        obtain ⟨X1, X2, rfl, hl⟩ : ∃ X1 X2, X = X1 ++ X2 ∧ X1.length = Y.length := ⟨X.take Y.length, X.drop Y.length, by simp, by simp; omega⟩
        simp only [List.length_append] at *
        have e1 := swap_ok (l := l) (fu := fu) (A := A) (X := X1) (M := X2) (Y := Y) (T := T) (a := w64 (((A.length + (X1.length + X2.length) : Nat) : Int) - ((X1.length + X2.length : Nat) : Int))) (b := ((A.length + (X1.length + X2.length) : Nat) : Int)) (n := (Y.length : Int)) hl (by omega) (by omega)
          (by rw [w64_id (by omega)]; omega) (by omega) (by omega)
        obtain ⟨X', Y', A', T', r1, r2, r3, r4, r5⟩ := rot1 fu n X2 X1 (A ++ Y) T (by omega) (by intro h; subst h; simp at h2; omega) (by intro h; subst h; simp at hl; omega) (by omega) (by simp; omega)
        refine ⟨X', Y', A', T', ?_, r2, by simp at r3; omega, by rw [r4]; simp, by omega⟩
        simp only [hd, if_true, List.append_assoc] at *
        rw [e1]
        have e2 : w64 (((X1.length + X2.length : Nat) : Int) - (Y.length : Int)) = (X2.length : Int) := by rw [w64_id (by omega)]; omega
        have e3 : ((A ++ Y).length + X2.length : Nat) = A.length + (X1.length + X2.length) := by simp; omega
        simp only [Option.bind_some, e2]
        rw [e3, show (X1.length : Int) = (Y.length : Int) by rw [hl]] at r1
        exact r1
      · have hd : decide ((X.length : Int) > (Y.length : Int)) = false := by simp; omega
        obtain ⟨Y1, Y2, rfl, hl⟩ : ∃ Y1 Y2, Y = Y1 ++ Y2 ∧ Y2.length = X.length := ⟨Y.take (Y.length - X.length), Y.drop (Y.length - X.length), by simp, by simp; omega⟩
        simp only [List.length_append] at *
        have e1 := swap_ok (l := l) (fu := fu) (A := A) (X := X) (M := Y1) (Y := Y2) (T := T) (a := w64 (((A.length + X.length : Nat) : Int) - (X.length : Int))) (b := w64 (w64 (((A.length + X.length : Nat) : Int) + ((Y1.length + Y2.length : Nat) : Int)) - (X.length : Int))) (n := (X.length : Int)) hl.symm (by omega) (by omega)
          (by rw [w64_id (by omega)]; omega) (by rw [w64_id (x := ((A.length + X.length : Nat) : Int) + _) (by omega), w64_id (by omega)]; omega) rfl
        obtain ⟨X', Y', A', T', r1, r2, r3, r4, r5⟩ := rot1 fu n Y2 Y1 A (X ++ T) (by omega) (by intro h; subst h; simp at hl; omega) (by intro h; subst h; simp at h1 h2; omega) (by omega) (by omega)
        refine ⟨X', Y', A', T', ?_, r2, by omega, by rw [r4]; simp, by omega⟩
        simp only [hd, Bool.false_eq_true, if_false, List.append_assoc] at *
        rw [e1]
        have e2 : w64 (((Y1.length + Y2.length : Nat) : Int) - (X.length : Int)) = (Y1.length : Int) := by rw [w64_id (by omega)]; omega
        simp only [Option.bind_some, e2]
        rw [hl] at r1
        exact r1

theorem rot_ok {fu : Nat} {A X Y T : List Int} {a m b : Int} (hX : X ≠ []) (hY : Y ≠ []) (hf : X.length + Y.length < fu) (hb : A.length + X.length + Y.length < 500000) (ha : a = (A.length : Int)) (hm : m = ((A.length + X.length : Nat) : Int)) (hb2 : b = ((A.length + X.length + Y.length : Nat) : Int)) :
    SlicesrotateCmpFuncint_v1 fu (A ++ (X ++ (Y ++ T))) a m b l = some (A ++ (Y ++ (X ++ T))) := by
  subst ha hm hb2
  unfold SlicesrotateCmpFuncint_v1
  obtain ⟨X', Y', A', T', r1, r2, r3, r4, r5⟩ := rot1 (l := l) fu fu X Y A T hf hX hY hf (by omega)
  have e1 : w64 (((A.length + X.length : Nat) : Int) - (A.length : Int)) = (X.length : Int) := by rw [w64_id (by omega)]; omega
  have e2 : w64 (((A.length + X.length + Y.length : Nat) : Int) - ((A.length + X.length : Nat) : Int)) = (Y.length : Int) := by rw [w64_id (by omega)]; omega
  rw [e1, e2, r1]
  simp only [Option.bind_some]
  have hl : A'.length + X'.length + Y'.length + T'.length = A.length + X.length + Y.length + T.length := by
    have := congrArg List.length r4; simp at this; omega
  have e3 := swap_ok (l := l) (fu := fu) (A := A') (X := X') (M := []) (Y := Y') (T := T') (a := w64 (((A.length + X.length : Nat) : Int) - (X'.length : Int))) (b := ((A.length + X.length : Nat) : Int)) (n := (X'.length : Int)) r2.symm (by omega) (by simp; omega)
    (by rw [w64_id (by omega)]; omega) (by simp; omega) rfl
  simp only [List.nil_append] at e3
  rw [e3, Option.bind_some, r4]

/-- a search by halves -/
def bs (test : Int → Option Bool) : Nat → Int → Int → Option (Int × Int)
  | 0, _, _ => none
  | n + 1, i, j => if decide (i < j) then (test (w64 (Int.fdiv (IntKind.wrap .u64 (w64 (i + j))) (2 ^ (min (Int.toNat 1) (IntKind.bits .u64)))))).bind fun c =>
      if c then bs test n (w64 (w64 (Int.fdiv (IntKind.wrap .u64 (w64 (i + j))) (2 ^ (min (Int.toNat 1) (IntKind.bits .u64)))) + 1)) j else bs test n i (w64 (Int.fdiv (IntKind.wrap .u64 (w64 (i + j))) (2 ^ (min (Int.toNat 1) (IntKind.bits .u64))))) else some (i, j)

theorem half_eq {a b : Nat} (h : a + b < 2000000) : w64 (Int.fdiv (IntKind.wrap .u64 (w64 ((a : Int) + (b : Int)))) (2 ^ (min (Int.toNat 1) (IntKind.bits .u64)))) = (((a + b) / 2 : Nat) : Int) := by
  rw [w64_id (x := (a : Int) + b) (by omega)]
  have e1 : IntKind.wrap .u64 ((a : Int) + b) = ((a + b : Nat) : Int) := by
    unfold IntKind.wrap; simp [IntKind.bits]; omega
  have e2 : (2 ^ (min (Int.toNat 1) (IntKind.bits .u64)) : Int) = 2 := by decide
  rw [e1, e2, Int.fdiv_eq_ediv_of_nonneg _ (by decide)]
  rw [w64_id (by omega)]; omega

theorem bs_ok (p : Nat → Bool) (test : Int → Option Bool) : ∀ (n lo hi : Nat), hi - lo < n → lo ≤ hi → hi < 1000000 → (∀ k : Nat, lo ≤ k → k < hi → test (k : Int) = some (p k)) → (∀ k k', lo ≤ k → k ≤ k' → k' < hi → p k' = true → p k = true) →
    ∃ r : Nat, lo ≤ r ∧ r ≤ hi ∧ bs test n lo hi = some ((r : Int), (r : Int)) ∧ (∀ k, lo ≤ k → k < r → p k = true) ∧ (∀ k, r ≤ k → k < hi → p k = false)
  | 0, _, _, h, _, _, _, _ => absurd h (by omega)
  | n + 1, lo, hi, h, hle, hb, ht, hm => by
    rw [bs]
    by_cases hlt : lo < hi
    · have hd : decide ((lo : Int) < (hi : Int)) = true := by simp; omega
      have hh := half_eq (a := lo) (b := hi) (by omega)
      have t1 := ht ((lo + hi) / 2) (by omega) (by omega)
      simp only [hd, if_true, hh, t1, Option.bind_some]
      cases hp : p ((lo + hi) / 2) with
      | true =>
        have e : w64 ((((lo + hi) / 2 : Nat) : Int) + 1) = (((lo + hi) / 2 + 1 : Nat) : Int) := by rw [w64_id (by omega)]; omega
        simp only [if_true, e]
        obtain ⟨r, r1, r2, r3, r4, r5⟩ := bs_ok p test n ((lo + hi) / 2 + 1) hi (by omega) (by omega) hb (fun k h1 h2 => ht k (by omega) h2) (fun k k' h1 h2 h3 => hm k k' (by omega) h2 h3)
        refine ⟨r, by omega, r2, r3, ?_, r5⟩
        intro k k1 k2
        rcases Nat.lt_or_ge k ((lo + hi) / 2 + 1) with h1 | h1
        · exact hm k ((lo + hi) / 2) k1 (by omega) (by omega) hp
        · exact r4 k h1 k2
      | false =>
        simp only [Bool.false_eq_true, if_false]
        obtain ⟨r, r1, r2, r3, r4, r5⟩ := bs_ok p test n lo ((lo + hi) / 2) (by omega) (by omega) (by omega) (fun k h1 h2 => ht k h1 (by omega)) (fun k k' h1 h2 h3 => hm k k' h1 h2 (by omega))
        refine ⟨r, r1, by omega, r3, r4, ?_⟩
        intro k k1 k2
        rcases Nat.lt_or_ge k ((lo + hi) / 2) with h1 | h1
        · exact r5 k k1 h1
        · cases hk : p k with
          | false => rfl
          | true => have := hm ((lo + hi) / 2) k (by omega) h1 k2 hk; rw [hp] at this; cases this
    · have hd : decide ((lo : Int) < (hi : Int)) = false := by simp; omega
      obtain rfl : lo = hi := by omega
      refine ⟨lo, Nat.le_refl _, Nat.le_refl _, by simp, ?_, ?_⟩
      · intro k h1 h2; omega
      · intro k h1 h2; omega

theorem obind_congr {α β : Type} {o : Option α} {f g : α → Option β} (h : ∀ x, f x = g x) : o.bind f = o.bind g := by cases o <;> simp [h]

theorem sym1_bs (x0 : List Int) (x1 : Int) : ∀ (n : Nat) (i j : Int), SlicessymMergeCmpFuncint_v1.loop1 x0 x1 l n i j = bs (fun h => (gx x0 h).bind fun u => (gx x0 x1).bind fun v => (Fleetorder_1_v1 u v l).bind fun c => some (decide (c < 0))) n i j
  | 0, _, _ => rfl
  | n + 1, i, j => by
    rw [SlicessymMergeCmpFuncint_v1.loop1, bs]
    split
    · simp only [Option.bind_assoc, Option.bind_some]
      refine obind_congr fun u => obind_congr fun v => obind_congr fun c => ?_
      simp only [bnd_eq, sym1_bs x0 x1 n]
      cases decide (c < 0) <;> rfl
    · rfl
theorem sym3_bs (x0 : List Int) (x2 : Int) : ∀ (n : Nat) (i j : Int), SlicessymMergeCmpFuncint_v1.loop3 x0 x2 l n i j = bs (fun h => (gx x0 x2).bind fun u => (gx x0 h).bind fun v => (Fleetorder_1_v1 u v l).bind fun c => some (!(decide (c < 0)))) n i j
  | 0, _, _ => rfl
  | n + 1, i, j => by
    rw [SlicessymMergeCmpFuncint_v1.loop3, bs]
    split
    · simp only [Option.bind_assoc, Option.bind_some]
      refine obind_congr fun u => obind_congr fun v => obind_congr fun c => ?_
      simp only [bnd_eq, sym3_bs x0 x2 n]
      cases decide (c < 0) <;> rfl
    · rfl
theorem sym5_bs (x0 : List Int) (x1 x2 x3 : Int) : ∀ (n : Nat) (i j : Int), SlicessymMergeCmpFuncint_v1.loop5 x0 x1 x2 x3 l n i j = bs (fun h => (gx x0 (w64 ((w64 ((w64 ((w64 (Int.fdiv (IntKind.wrap .u64 (w64 (x1 + x3))) (2 ^ (min (Int.toNat 1) (IntKind.bits .u64))))) + x2)) - 1)) - h))).bind fun u => (gx x0 h).bind fun v => (Fleetorder_1_v1 u v l).bind fun c => some (!(decide (c < 0)))) n i j
  | 0, _, _ => rfl
  | n + 1, i, j => by
    rw [SlicessymMergeCmpFuncint_v1.loop5, bs]
    split
    · simp only [Option.bind_assoc, Option.bind_some]
      refine obind_congr fun u => obind_congr fun v => obind_congr fun c => ?_
      simp only [bnd_eq, sym5_bs x0 x1 x2 x3 n]
      cases decide (c < 0) <;> rfl
    · rfl

theorem bub1 : ∀ (Y1 : List Int) (n : Nat) (A T : List Int) (x : Int), Y1.length < n → A.length + Y1.length < 1000000 →
    ∃ j, SlicessymMergeCmpFuncint_v1.loop2 ((A.length + Y1.length + 1 : Nat) : Int) n (A.length : Int) (A ++ (x :: (Y1 ++ T))) = some (j, A ++ (Y1 ++ x :: T))
  | [], n, A, T, x, hn, hb => by
    obtain ⟨n, rfl⟩ : ∃ m, n = m + 1 := ⟨n - 1, by simp at hn; omega⟩
    have h1 : w64 (((A.length + ([] : List Int).length + 1 : Nat) : Int) - 1) = (A.length : Int) := by rw [w64_id (by simp; omega)]; simp
    rw [SlicessymMergeCmpFuncint_v1.loop2, h1]
    exact ⟨_, by simp; exact rfl⟩
  | y :: Y1, n, A, T, x, hn, hb => by
    simp only [List.length_cons] at hn hb
    obtain ⟨n, rfl⟩ : ∃ m, n = m + 1 := ⟨n - 1, by omega⟩
    obtain ⟨j, hj⟩ := bub1 Y1 n (A ++ [y]) T x (by omega) (by simp; omega)
    refine ⟨j, ?_⟩
    have h1 : w64 (((A.length + (y :: Y1).length + 1 : Nat) : Int) - 1) = ((A.length + Y1.length + 1 : Nat) : Int) := by rw [w64_id (by simp; omega)]; simp; omega
    have h2 : decide ((A.length : Int) < ((A.length + Y1.length + 1 : Nat) : Int)) = true := by simp; omega
    have h3 : w64 ((A.length : Int) + 1) = ((A ++ [y]).length : Int) := by rw [w64_id (by omega)]; simp
    have h3' : ((A ++ [y]).length : Int) = ((A ++ [x]).length : Int) := by simp
    have d1 : A ++ (x :: (y :: Y1 ++ T)) = (A ++ [x]) ++ y :: (Y1 ++ T) := by simp
    have e1 : gx (A ++ (x :: (y :: Y1 ++ T))) ((A ++ [y]).length : Int) = some y := by rw [d1]; exact gx_at h3'
    have e2 : gx (A ++ (x :: (y :: Y1 ++ T))) (A.length : Int) = some x := gx_at rfl
    have e3 : ix (A ++ (x :: (y :: Y1 ++ T))) (A.length : Int) = some () := ix_at rfl
    have e4 : sx (A ++ (x :: (y :: Y1 ++ T))) (A.length : Int) y = some ((A ++ [y]) ++ y :: (Y1 ++ T)) := by rw [sx_at rfl]; simp
    have e5 : ix ((A ++ [y]) ++ y :: (Y1 ++ T)) ((A ++ [y]).length : Int) = some () := ix_at rfl
    have e6 : sx ((A ++ [y]) ++ y :: (Y1 ++ T)) ((A ++ [y]).length : Int) x = some ((A ++ [y]) ++ x :: (Y1 ++ T)) := sx_at rfl
    rw [SlicessymMergeCmpFuncint_v1.loop2]
    simp only [h1, h2, if_true, h3, e1, e2, e3, e4, e5, e6, Option.bind_some]
    have k : (((A ++ [y]).length + Y1.length + 1 : Nat) : Int) = ((A.length + (y :: Y1).length + 1 : Nat) : Int) := by simp; omega
    rw [k] at hj
    rw [hj]; simp

theorem bub2 : ∀ (n : Nat) (X2 : List Int) (A T : List Int) (y : Int), X2.length < n → A.length + X2.length < 1000000 →
    ∃ j, SlicessymMergeCmpFuncint_v1.loop4 (A.length : Int) n ((A.length + X2.length : Nat) : Int) (A ++ (X2 ++ y :: T)) = some (j, A ++ (y :: (X2 ++ T)))
  | 0, _, _, _, _, h, _ => absurd h (by omega)
  | n + 1, X2, A, T, y, hn, hb => by
    rw [SlicessymMergeCmpFuncint_v1.loop4]
    rcases List.eq_nil_or_concat X2 with rfl | ⟨S, x, rfl⟩
    · exact ⟨_, by simp; exact rfl⟩
    · simp only [List.concat_eq_append] at *
      simp only [List.length_append, List.length_cons, List.length_nil] at hn hb
      obtain ⟨j, hj⟩ := bub2 n S A (x :: T) y (by omega) (by omega)
      refine ⟨j, ?_⟩
      have h1 : decide (((A.length + (S ++ [x]).length : Nat) : Int) > (A.length : Int)) = true := by simp; omega
      have h2 : w64 (((A.length + (S ++ [x]).length : Nat) : Int) - 1) = ((A.length + S.length : Nat) : Int) := by rw [w64_id (by simp; omega)]; simp; omega
      have d1 : A ++ ((S ++ [x]) ++ y :: T) = (A ++ S) ++ x :: (y :: T) := by simp
      have d2 : A ++ ((S ++ [x]) ++ y :: T) = (A ++ (S ++ [x])) ++ y :: T := by simp
      have e1 : gx (A ++ ((S ++ [x]) ++ y :: T)) ((A.length + S.length : Nat) : Int) = some x := by rw [d1]; exact gx_at (by simp)
      have e2 : gx (A ++ ((S ++ [x]) ++ y :: T)) ((A.length + (S ++ [x]).length : Nat) : Int) = some y := by rw [d2]; exact gx_at (by simp)
      have e3 : ix (A ++ ((S ++ [x]) ++ y :: T)) ((A.length + (S ++ [x]).length : Nat) : Int) = some () := by rw [d2]; exact ix_at (by simp)
      have e4 : sx (A ++ ((S ++ [x]) ++ y :: T)) ((A.length + (S ++ [x]).length : Nat) : Int) x = some ((A ++ S) ++ x :: (x :: T)) := by rw [d2, sx_at (by simp)]; simp
      have e5 : ix ((A ++ S) ++ x :: (x :: T)) ((A.length + S.length : Nat) : Int) = some () := ix_at (by simp)
      have e6 : sx ((A ++ S) ++ x :: (x :: T)) ((A.length + S.length : Nat) : Int) y = some (A ++ (S ++ y :: (x :: T))) := by rw [sx_at (by simp)]; simp
      simp only [h1, if_true, h2, e1, e2, e3, e4, e5, e6, Option.bind_some]
      rw [hj]; simp

theorem gx_dv {d : List Int} {k : Nat} (h : k < d.length) : gx d (k : Int) = some (d.getD k 0) := by
  rw [gx_nat, List.getD_eq_getElem?_getD, List.getElem?_eq_getElem h]; rfl
theorem dv_X {A X Z : List Int} {k : Nat} (h1 : A.length ≤ k) (h2 : k < A.length + X.length) : (A ++ (X ++ Z)).getD k 0 = X.getD (k - A.length) 0 := by
  simp only [List.getD_eq_getElem?_getD]
  rw [List.getElem?_append_right h1, List.getElem?_append_left (by omega)]
theorem dv_Y {A X Y T : List Int} {k : Nat} (h1 : A.length + X.length ≤ k) (h2 : k < A.length + X.length + Y.length) : (A ++ (X ++ (Y ++ T))).getD k 0 = Y.getD (k - (A.length + X.length)) 0 := by
  rw [show A ++ (X ++ (Y ++ T)) = (A ++ X) ++ (Y ++ T) by simp, dv_X (by simp; omega) (by simp; omega)]; simp
theorem getD_mem {X : List Int} {k : Nat} (h : k < X.length) : X.getD k 0 ∈ X := by
  rw [List.getD_eq_getElem?_getD, List.getElem?_eq_getElem h]; exact List.getElem_mem h
theorem pw_getD {R : Int → Int → Prop} {X : List Int} (h : X.Pairwise R) {i j : Nat} (h1 : i < j) (h2 : j < X.length) : R (X.getD i 0) (X.getD j 0) := by
  rw [List.getD_eq_getElem?_getD, List.getD_eq_getElem?_getD, List.getElem?_eq_getElem h2, List.getElem?_eq_getElem (Nat.lt_trans h1 h2)]
  exact List.pairwise_iff_getElem.1 h i j (Nat.lt_trans h1 h2) h2 h1
theorem pw_le {X : List Int} (h : X.Pairwise (Lt D)) {i j : Nat} (h1 : i ≤ j) (h2 : j < X.length) : D (X.getD i 0) ≤ D (X.getD j 0) := by
  rcases Nat.lt_or_eq_of_le h1 with h3 | rfl
  · exact (pw_getD h h3 h2).le
  · exact Int.le_refl _
theorem take_getD {X : List Int} {n : Nat} {x : Int} (h : x ∈ X.take n) : ∃ i, i < n ∧ i < X.length ∧ x = X.getD i 0 := by
  obtain ⟨i, hi, e⟩ := List.mem_iff_getElem.1 h
  simp only [List.length_take] at hi
  refine ⟨i, by omega, by omega, ?_⟩
  rw [List.getD_eq_getElem?_getD, List.getElem?_eq_getElem (by omega), ← e]; simp
theorem drop_getD {X : List Int} {n : Nat} {x : Int} (h : x ∈ X.drop n) : ∃ i, n ≤ i ∧ i < X.length ∧ x = X.getD i 0 := by
  obtain ⟨i, hi, e⟩ := List.mem_iff_getElem.1 h
  simp only [List.length_drop] at hi
  refine ⟨n + i, by omega, by omega, ?_⟩
  rw [List.getD_eq_getElem?_getD, List.getElem?_eq_getElem (by omega), ← e]; simp

theorem sym_ok (hC : ∀ x y, V x → V y → ∃ c, Fleetorder_1_v1 x y l = some c ∧ (c < 0 ↔ D x < D y)) : ∀ (fu : Nat) (A X Y T : List Int) (a m b : Int), a = (A.length : Int) → m = ((A.length + X.length : Nat) : Int) → b = ((A.length + X.length + Y.length : Nat) : Int) → X ≠ [] → Y ≠ [] → X.length + Y.length + 2 < fu →
    A.length + X.length + Y.length < 500000 → (∀ x ∈ X, V x) → (∀ y ∈ Y, V y) → (∀ x ∈ X, ∀ y ∈ Y, x < y) → X.Pairwise (Lt D) → Y.Pairwise (Lt D) →
    ∃ R, SlicessymMergeCmpFuncint_v1 fu (A ++ (X ++ (Y ++ T))) a m b l = some (A ++ (R ++ T)) ∧ R.Perm (X ++ Y) ∧ R.Pairwise (Lt D)
  | 0, _, _, _, _, _, _, _, _, _, _, _, _, h, _, _, _, _, _, _ => absurd h (by omega)
  | fu + 1, A, X, Y, T, a, m, b, ha, hm, hb, hX, hY, hf, hz, vX, vY, hlt, sX, sY => by
    have lx : 0 < X.length := List.length_pos_iff.2 hX
    have ly : 0 < Y.length := List.length_pos_iff.2 hY
    have hdl : (A ++ (X ++ (Y ++ T))).length = A.length + X.length + Y.length + T.length := by simp; omega
    rw [SlicessymMergeCmpFuncint_v1]
    by_cases c1 : X.length = 1
    · obtain ⟨x, rfl⟩ := List.length_eq_one_iff.1 c1
      have hd : (w64 (m - a) == 1) = true := by rw [w64_id (by omega)]; simp; omega
      rw [if_pos hd, sym1_bs]
      obtain ⟨r, r1, r2, r3, r4, r5⟩ := bs_ok (fun k => decide (D ((A ++ ([x] ++ (Y ++ T))).getD k 0) < D x)) (fun h => (gx (A ++ ([x] ++ (Y ++ T))) h).bind fun u => (gx (A ++ ([x] ++ (Y ++ T))) a).bind fun v => (Fleetorder_1_v1 u v l).bind fun c => some (decide (c < 0))) fu (A.length + [x].length) (A.length + [x].length + Y.length) (by omega) (by omega) (by omega)
        (by
          intro k k1 k2
          rw [gx_dv (by omega), ha, show A ++ ([x] ++ (Y ++ T)) = A ++ x :: (Y ++ T) by rfl, gx_at rfl]
          obtain ⟨c, e1, e2⟩ := hC ((A ++ x :: (Y ++ T)).getD k 0) x (by rw [show A ++ x :: (Y ++ T) = A ++ ([x] ++ (Y ++ T)) by rfl, dv_Y k1 k2]; exact vY _ (getD_mem (by omega))) (vX x (by simp))
          simp only [Option.bind_some, e1]
          congr 1; exact decide_eq_decide.2 e2)
        (by
          intro k k' k1 k2 k3 h
          simp only [decide_eq_true_eq] at h ⊢
          rw [dv_Y (by omega) k3] at h
          rw [dv_Y k1 (by omega)]
          exact Int.lt_of_le_of_lt (pw_le sY (by omega) (by omega)) h)
      subst ha hm hb
      rw [r3]
      simp only [Option.bind_some]
      obtain ⟨j, hj⟩ := bub1 (Y.take (r - (A.length + 1))) fu A (Y.drop (r - (A.length + 1)) ++ T) x (by simp; omega) (by simp; omega)
      simp only [List.length_cons, List.length_nil, Nat.zero_add] at r1 r2 r4 r5 c1
      have hr : ((A.length + (Y.take (r - (A.length + 1))).length + 1 : Nat) : Int) = (r : Int) := by simp; omega
      rw [hr] at hj
      have hdd : A ++ ([x] ++ (Y ++ T)) = A ++ (x :: (Y.take (r - (A.length + 1)) ++ (Y.drop (r - (A.length + 1)) ++ T))) := by
        rw [← List.append_assoc (Y.take _), List.take_append_drop]; rfl
      rw [hdd, hj]
      simp only [Option.bind_some]
      refine ⟨Y.take (r - (A.length + 1)) ++ x :: Y.drop (r - (A.length + 1)), by simp, ?_, ?_⟩
      · have := (List.perm_middle (a := x) (l₁ := Y.take (r - (A.length + 1))) (l₂ := Y.drop (r - (A.length + 1))))
        rw [List.take_append_drop] at this; exact this
      · have hs := sY
        rw [← List.take_append_drop (r - (A.length + 1)) Y, List.pairwise_append] at hs
        refine List.pairwise_append.2 ⟨hs.1, List.pairwise_cons.2 ⟨?_, hs.2.1⟩, ?_⟩
        · intro y hy
          obtain ⟨i, i1, i2, rfl⟩ := drop_getD hy
          have h5 := r5 (A.length + 1 + i) (by omega) (by omega)
          rw [show A ++ ([x] ++ (Y ++ T)) = A ++ ([x] ++ (Y ++ T)) from rfl, dv_Y (by simp) (by simp; omega)] at h5
          simp only [List.length_cons, List.length_nil, Nat.zero_add, Nat.add_sub_cancel_left, decide_eq_false_iff_not] at h5
          have := hlt x (by simp) _ (getD_mem i2)
          unfold Lt; omega
        · intro y hy z hz'
          rcases List.mem_cons.1 hz' with rfl | h
          · obtain ⟨i, i1, i2, rfl⟩ := take_getD hy
            have h4 := r4 (A.length + 1 + i) (by omega) (by omega)
            rw [dv_Y (by simp) (by simp; omega)] at h4
            simp only [List.length_cons, List.length_nil, Nat.zero_add, Nat.add_sub_cancel_left, decide_eq_true_eq] at h4
            exact .inl h4
          · exact hs.2.2 y hy z h
    have hd1 : ¬ (w64 (m - a) == 1) = true := by rw [w64_id (by omega)]; simp; omega
    rw [if_neg hd1]
    by_cases c2 : Y.length = 1
    · obtain ⟨y, rfl⟩ := List.length_eq_one_iff.1 c2
      have hd : (w64 (b - m) == 1) = true := by rw [w64_id (by omega)]; simp; omega
      rw [if_pos hd, sym3_bs]
      obtain ⟨r, r1, r2, r3, r4, r5⟩ := bs_ok (fun k => !(decide (D y < D ((A ++ (X ++ ([y] ++ T))).getD k 0)))) (fun h => (gx (A ++ (X ++ ([y] ++ T))) m).bind fun u => (gx (A ++ (X ++ ([y] ++ T))) h).bind fun v => (Fleetorder_1_v1 u v l).bind fun c => some (!(decide (c < 0)))) fu A.length (A.length + X.length) (by omega) (by omega) (by omega)
        (by
          intro k k1 k2
          have hgm : gx (A ++ (X ++ ([y] ++ T))) m = some y := by
            rw [show A ++ (X ++ ([y] ++ T)) = (A ++ X) ++ y :: T by simp]; exact gx_at (by rw [hm]; simp)
          rw [hgm, gx_dv (by omega)]
          obtain ⟨c, e1, e2⟩ := hC y ((A ++ (X ++ ([y] ++ T))).getD k 0) (vY y (by simp)) (by rw [dv_X k1 k2]; exact vX _ (getD_mem (by omega)))
          simp only [Option.bind_some, e1]
          congr 2; exact decide_eq_decide.2 e2)
        (by
          intro k k' k1 k2 k3 h
          simp only [Bool.not_eq_true', decide_eq_false_iff_not] at h ⊢
          rw [dv_X (by omega) k3] at h
          rw [dv_X k1 (by omega)]
          have := pw_le sX (i := k - A.length) (j := k' - A.length) (by omega) (by omega)
          omega)
      subst ha hm hb
      rw [r3]
      simp only [Option.bind_some]
      have hr : ((A ++ X.take (r - A.length)).length : Int) = (r : Int) := by simp; omega
      obtain ⟨j, hj⟩ := bub2 fu (X.drop (r - A.length)) (A ++ X.take (r - A.length)) T y (by simp; omega) (by simp; omega)
      have hr2 : (((A ++ X.take (r - A.length)).length + (X.drop (r - A.length)).length : Nat) : Int) = ((A.length + X.length : Nat) : Int) := by simp; omega
      rw [hr2, hr] at hj
      have hdd : A ++ (X ++ ([y] ++ T)) = (A ++ X.take (r - A.length)) ++ (X.drop (r - A.length) ++ y :: T) := by
        rw [List.append_assoc A, ← List.append_assoc (X.take _), List.take_append_drop]; rfl
      rw [hdd, hj]
      simp only [Option.bind_some]
      refine ⟨X.take (r - A.length) ++ y :: X.drop (r - A.length), by simp, ?_, ?_⟩
      · refine (List.perm_middle (a := y) (l₁ := X.take (r - A.length)) (l₂ := X.drop (r - A.length))).trans ?_
        rw [List.take_append_drop]
        exact (List.perm_append_comm (l₁ := [y]) (l₂ := X))
      · have hs := sX
        rw [← List.take_append_drop (r - A.length) X, List.pairwise_append] at hs
        refine List.pairwise_append.2 ⟨hs.1, List.pairwise_cons.2 ⟨?_, hs.2.1⟩, ?_⟩
        · intro x hx
          obtain ⟨i, i1, i2, rfl⟩ := drop_getD hx
          have h5 := r5 (A.length + i) (by omega) (by omega)
          rw [dv_X (by omega) (by omega)] at h5
          simp only [Nat.add_sub_cancel_left, Bool.not_eq_false', decide_eq_true_eq] at h5
          exact .inl h5
        · intro x hx z hz'
          rcases List.mem_cons.1 hz' with rfl | h
          · obtain ⟨i, i1, i2, rfl⟩ := take_getD hx
            have h4 := r4 (A.length + i) (by omega) (by omega)
            rw [dv_X (by omega) (by omega)] at h4
            simp only [Nat.add_sub_cancel_left, Bool.not_eq_true', decide_eq_false_iff_not] at h4
            have := hlt _ (getD_mem i2) z (by simp)
            unfold Lt; omega
          · exact hs.2.2 x hx z h
    have hd2 : ¬ (w64 (b - m) == 1) = true := by rw [w64_id (by omega)]; simp; omega
    rw [if_neg hd2]
    subst ha hm hb
    -- the middle
    have hmid := half_eq (a := A.length) (b := A.length + X.length + Y.length) (by omega)
    generalize hM : (A.length + (A.length + X.length + Y.length)) / 2 = mid at hmid
    simp only [sym5_bs, hmid, bnd_eq]
    obtain ⟨s0, r0, hpair, hcase⟩ : ∃ s0 r0 : Nat, (if decide (((A.length + X.length : Nat) : Int) > (mid : Int)) = true then (w64 (w64 ((mid : Int) + ((A.length + X.length : Nat) : Int)) - ((A.length + X.length + Y.length : Nat) : Int)), (mid : Int)) else ((A.length : Int), ((A.length + X.length : Nat) : Int))) = ((s0 : Int), (r0 : Int))
        ∧ ((mid < A.length + X.length ∧ s0 + (A.length + X.length + Y.length) = mid + (A.length + X.length) ∧ r0 = mid) ∨ (A.length + X.length ≤ mid ∧ s0 = A.length ∧ r0 = A.length + X.length)) := by
      by_cases h : mid < A.length + X.length
      · refine ⟨mid + (A.length + X.length) - (A.length + X.length + Y.length), mid, ?_, .inl ⟨h, by omega, rfl⟩⟩
        rw [if_pos (by simp; omega), w64_id (x := (mid : Int) + _) (by omega), w64_id (by omega)]
        congr 1; omega
      · refine ⟨A.length, A.length + X.length, ?_, .inr ⟨by omega, rfl, rfl⟩⟩
        rw [if_neg (by simp; omega)]
    have hq1 : w64 (w64 ((mid : Int) + ((A.length + X.length : Nat) : Int)) - 1) = ((mid + (A.length + X.length) - 1 : Nat) : Int) := by
      rw [w64_id (x := (mid : Int) + _) (by omega), w64_id (by omega)]; omega
    simp only [hpair, hq1]
    obtain ⟨r, r1, r2, r3, r4, r5⟩ := bs_ok (fun k => !(decide (D ((A ++ (X ++ (Y ++ T))).getD (mid + (A.length + X.length) - 1 - k) 0) < D ((A ++ (X ++ (Y ++ T))).getD k 0)))) (fun h => (gx (A ++ (X ++ (Y ++ T))) (w64 (((mid + (A.length + X.length) - 1 : Nat) : Int) - h))).bind fun u => (gx (A ++ (X ++ (Y ++ T))) h).bind fun v => (Fleetorder_1_v1 u v l).bind fun c => some (!(decide (c < 0)))) fu s0 r0 (by omega) (by omega) (by omega)
      (by
        intro k k1 k2
        have e0 : w64 (((mid + (A.length + X.length) - 1 : Nat) : Int) - (k : Int)) = ((mid + (A.length + X.length) - 1 - k : Nat) : Int) := by rw [w64_id (by omega)]; omega
        simp only [e0]
        rw [gx_dv (by omega), gx_dv (by omega)]
        obtain ⟨c, e1, e2⟩ := hC ((A ++ (X ++ (Y ++ T))).getD (mid + (A.length + X.length) - 1 - k) 0) ((A ++ (X ++ (Y ++ T))).getD k 0)
          (by rw [dv_Y (by omega) (by omega)]; exact vY _ (getD_mem (by omega))) (by rw [dv_X (by omega) (by omega)]; exact vX _ (getD_mem (by omega)))
        simp only [Option.bind_some, e1]
        congr 2; exact decide_eq_decide.2 e2)
      (by
        intro k k' k1 k2 k3 h
        simp only [Bool.not_eq_true', decide_eq_false_iff_not] at h ⊢
        rw [dv_Y (by omega) (by omega), dv_X (by omega) (by omega)] at h
        rw [dv_Y (by omega) (by omega), dv_X (by omega) (by omega)]
        have h1 := pw_le sX (i := k - A.length) (j := k' - A.length) (by omega) (by omega)
        have h2 := pw_le sY (i := mid + (A.length + X.length) - 1 - k' - (A.length + X.length)) (j := mid + (A.length + X.length) - 1 - k - (A.length + X.length)) (by omega) (by omega)
        omega)
    rw [r3]
    simp only [Option.bind_some]
    have he : w64 (w64 ((mid : Int) + ((A.length + X.length : Nat) : Int)) - (r : Int)) = ((mid + (A.length + X.length) - r : Nat) : Int) := by
      rw [w64_id (x := (mid : Int) + _) (by omega), w64_id (by omega)]; omega
    simp only [he]
    -- the four parts
    obtain ⟨X1, X2, eX, lX1⟩ : ∃ X1 X2, X = X1 ++ X2 ∧ A.length + X1.length = r := ⟨X.take (r - A.length), X.drop (r - A.length), (List.take_append_drop _ _).symm, by simp; omega⟩
    obtain ⟨Y1, Y2, eY, lY1⟩ : ∃ Y1 Y2, Y = Y1 ++ Y2 ∧ A.length + X.length + Y1.length = mid + (A.length + X.length) - r := ⟨Y.take (mid - r), Y.drop (mid - r), (List.take_append_drop _ _).symm, by simp; omega⟩
    have lXe : X.length = X1.length + X2.length := by rw [eX]; simp
    have lYe : Y.length = Y1.length + Y2.length := by rw [eY]; simp
    have sX' := sX; have sY' := sY
    rw [eX, List.pairwise_append] at sX'
    rw [eY, List.pairwise_append] at sY'
    have gX : ∀ i, i < X.length → (A ++ (X ++ (Y ++ T))).getD (A.length + i) 0 = X.getD i 0 := fun i hi => by rw [dv_X (by omega) (by omega)]; congr 1; omega
    have gY : ∀ i, i < Y.length → (A ++ (X ++ (Y ++ T))).getD (A.length + X.length + i) 0 = Y.getD i 0 := fun i hi => by rw [dv_Y (by omega) (by omega)]; congr 1; omega
    have q1 : ∀ x ∈ X1, ∀ y ∈ Y2, Lt D x y := by
      intro x hx y hy
      have hxX : x ∈ X := by rw [eX]; simp [hx]
      have hyY : y ∈ Y := by rw [eY]; simp [hy]
      have eX1 : X1 = X.take X1.length := by rw [eX]; simp
      have eY2 : Y2 = Y.drop Y1.length := by rw [eY]; simp
      rw [eX1] at hx; rw [eY2] at hy
      obtain ⟨i, i1, i2, rfl⟩ := take_getD hx
      obtain ⟨j, j1, j2, rfl⟩ := drop_getD hy
      have h4 := r4 (r - 1) (by omega) (by omega)
      simp only [Bool.not_eq_true', decide_eq_false_iff_not] at h4
      rw [show mid + (A.length + X.length) - 1 - (r - 1) = A.length + X.length + Y1.length by omega, gY _ (by omega), show r - 1 = A.length + (X1.length - 1) by omega, gX _ (by omega)] at h4
      have h1 := pw_le sX (i := i) (j := X1.length - 1) (by omega) (by omega)
      have h2 := pw_le sY (i := Y1.length) (j := j) (by omega) (by omega)
      have h3 := hlt _ hxX _ hyY
      unfold Lt; omega
    have q2 : ∀ y ∈ Y1, ∀ x ∈ X2, Lt D y x := by
      intro y hy x hx
      have eX2 : X2 = X.drop X1.length := by rw [eX]; simp
      have eY1 : Y1 = Y.take Y1.length := by rw [eY]; simp
      rw [eX2] at hx; rw [eY1] at hy
      obtain ⟨i, i1, i2, rfl⟩ := drop_getD hx
      obtain ⟨j, j1, j2, rfl⟩ := take_getD hy
      have h5 := r5 r (by omega) (by omega)
      simp only [Bool.not_eq_false', decide_eq_true_eq] at h5
      rw [show mid + (A.length + X.length) - 1 - r = A.length + X.length + (Y1.length - 1) by omega, gY _ (by omega), show r = A.length + X1.length by omega, gX _ (by omega)] at h5
      have h1 := pw_le sX (i := X1.length) (j := i) (by omega) (by omega)
      have h2 := pw_le sY (i := j) (j := Y1.length - 1) (by omega) (by omega)
      unfold Lt; omega
    -- the lower half
    obtain ⟨R1, s1, p1, w1⟩ : ∃ R1, (∀ k : List Int → Option (List Int), (if (if decide ((A.length : Int) < (r : Int)) = true then decide ((r : Int) < (mid : Int)) else false) = true then (SlicessymMergeCmpFuncint_v1 fu (A ++ (X1 ++ (Y1 ++ (X2 ++ (Y2 ++ T))))) (A.length : Int) (r : Int) (mid : Int) l).bind k else k (A ++ (X1 ++ (Y1 ++ (X2 ++ (Y2 ++ T)))))) = k (A ++ (R1 ++ (X2 ++ (Y2 ++ T))))) ∧ R1.Perm (X1 ++ Y1) ∧ R1.Pairwise (Lt D) := by
      by_cases hc : A.length < r ∧ r < mid
      · obtain ⟨R1, e1, e2, e3⟩ := sym_ok hC fu A X1 Y1 (X2 ++ (Y2 ++ T)) (A.length : Int) (r : Int) (mid : Int) rfl (by omega) (by omega) (by intro h; subst h; simp at lX1; omega) (by intro h; subst h; simp at lY1; omega) (by omega) (by omega)
          (fun x hx => vX x (by rw [eX]; simp [hx])) (fun y hy => vY y (by rw [eY]; simp [hy])) (fun x hx y hy => hlt x (by rw [eX]; simp [hx]) y (by rw [eY]; simp [hy])) sX'.1 sY'.1
        refine ⟨R1, fun k => ?_, e2, e3⟩
        rw [if_pos (by simp; omega), e1]; rfl
      · refine ⟨X1 ++ Y1, fun k => ?_, List.Perm.refl _, ?_⟩
        · rw [if_neg (by simp; omega)]; simp
        · rcases Nat.lt_or_ge A.length r with h | h
          · have : Y1 = [] := List.length_eq_zero_iff.1 (by omega)
            subst this; simpa using sX'.1
          · have : X1 = [] := List.length_eq_zero_iff.1 (by omega)
            subst this; simpa using sY'.1
    have lR1 : A.length + R1.length = mid := by have := p1.length_eq; simp at this; omega
    -- the upper half
    obtain ⟨R2, s2, p2, w2⟩ : ∃ R2, (if (if decide ((mid : Int) < ((mid + (A.length + X.length) - r : Nat) : Int)) = true then decide (((mid + (A.length + X.length) - r : Nat) : Int) < ((A.length + X.length + Y.length : Nat) : Int)) else false) = true then (SlicessymMergeCmpFuncint_v1 fu (A ++ (R1 ++ (X2 ++ (Y2 ++ T)))) (mid : Int) ((mid + (A.length + X.length) - r : Nat) : Int) ((A.length + X.length + Y.length : Nat) : Int) l).bind (fun q => some q) else some (A ++ (R1 ++ (X2 ++ (Y2 ++ T))))) = some (A ++ ((R1 ++ R2) ++ T)) ∧ R2.Perm (X2 ++ Y2) ∧ R2.Pairwise (Lt D) := by
      by_cases hc : mid < mid + (A.length + X.length) - r ∧ mid + (A.length + X.length) - r < A.length + X.length + Y.length
      · obtain ⟨R2, e1, e2, e3⟩ := sym_ok hC fu (A ++ R1) X2 Y2 T (mid : Int) ((mid + (A.length + X.length) - r : Nat) : Int) ((A.length + X.length + Y.length : Nat) : Int) (by simp; omega) (by simp; omega) (by simp; omega) (by intro h; subst h; simp at lXe; omega) (by intro h; subst h; simp at lYe; omega) (by omega) (by simp; omega)
          (fun x hx => vX x (by rw [eX]; simp [hx])) (fun y hy => vY y (by rw [eY]; simp [hy])) (fun x hx y hy => hlt x (by rw [eX]; simp [hx]) y (by rw [eY]; simp [hy])) sX'.2.1 sY'.2.1
        refine ⟨R2, ?_, e2, e3⟩
        rw [if_pos (by simp; omega), show A ++ (R1 ++ (X2 ++ (Y2 ++ T))) = (A ++ R1) ++ (X2 ++ (Y2 ++ T)) by simp, e1]; simp
      · refine ⟨X2 ++ Y2, ?_, List.Perm.refl _, ?_⟩
        · rw [if_neg (by simp; omega)]; simp
        · rcases Nat.lt_or_ge mid (mid + (A.length + X.length) - r) with h | h
          · have : Y2 = [] := List.length_eq_zero_iff.1 (by omega)
            subst this; simpa using sX'.2.1
          · have : X2 = [] := List.length_eq_zero_iff.1 (by omega)
            subst this; simpa using sY'.2.1
    refine ⟨R1 ++ R2, ?_, ?_, ?_⟩
    · have hs := s1 (fun q => if (if decide ((mid : Int) < ((mid + (A.length + X.length) - r : Nat) : Int)) = true then decide (((mid + (A.length + X.length) - r : Nat) : Int) < ((A.length + X.length + Y.length : Nat) : Int)) else false) = true then (SlicessymMergeCmpFuncint_v1 fu q (mid : Int) ((mid + (A.length + X.length) - r : Nat) : Int) ((A.length + X.length + Y.length : Nat) : Int) l).bind (fun q => some q) else some q)
      have hs2 := hs.trans s2
      by_cases hc : r < A.length + X.length ∧ A.length + X.length < mid + (A.length + X.length) - r
      · rw [if_pos (by simp; omega)]
        have hro := rot_ok (l := l) (fu := fu) (A := A ++ X1) (X := X2) (Y := Y1) (T := Y2 ++ T) (a := (r : Int)) (m := ((A.length + X.length : Nat) : Int)) (b := ((mid + (A.length + X.length) - r : Nat) : Int)) (by intro h; subst h; simp at lXe; omega) (by intro h; subst h; simp at lY1; omega) (by omega) (by simp; omega) (by simp; omega) (by simp; omega) (by simp; omega)
        have hdd : A ++ (X ++ (Y ++ T)) = (A ++ X1) ++ (X2 ++ (Y1 ++ (Y2 ++ T))) := by rw [eX, eY]; simp
        rw [hdd, hro, Option.bind_some, show (A ++ X1) ++ (Y1 ++ (X2 ++ (Y2 ++ T))) = A ++ (X1 ++ (Y1 ++ (X2 ++ (Y2 ++ T)))) by simp]
        exact hs2
      · rw [if_neg (by simp; omega)]
        have hdd : A ++ (X ++ (Y ++ T)) = A ++ (X1 ++ (Y1 ++ (X2 ++ (Y2 ++ T)))) := by
          rw [eX, eY]
          rcases Nat.lt_or_ge r (A.length + X.length) with h | h
          · have : Y1 = [] := List.length_eq_zero_iff.1 (by omega)
            subst this; simp
          · have : X2 = [] := List.length_eq_zero_iff.1 (by omega)
            subst this; simp
        rw [hdd]
        exact hs2
    · refine (p1.append p2).trans ?_
      rw [eX, eY]
      have : (Y1 ++ (X2 ++ Y2)).Perm (X2 ++ (Y1 ++ Y2)) := by
        rw [← List.append_assoc, ← List.append_assoc]; exact List.perm_append_comm.append_right _
      simpa using this.append_left X1
    · refine List.pairwise_append.2 ⟨w1, w2, ?_⟩
      intro x hx y hy
      rcases List.mem_append.1 (p1.subset hx) with h1 | h1 <;> rcases List.mem_append.1 (p2.subset hy) with h2 | h2
      · exact sX'.2.2 x h1 y h2
      · exact q1 x h1 y h2
      · exact q2 x h1 y h2
      · exact sY'.2.2 x h1 y h2

/-- the whole, for at most 40 -/
theorem stable_ok (hC : ∀ x y, V x → V y → ∃ c, Fleetorder_1_v1 x y l = some c ∧ (c < 0 ↔ D x < D y)) {fu : Nat} (hf : 60 ≤ fu) {X : List Int} (hn : X.length ≤ 40) (hV : ∀ y ∈ X, V y) (hu : X.Pairwise (· < ·)) :
    ∃ R, SlicesSortStableFuncLint_v1 fu X l = some R ∧ R.Perm X ∧ R.Pairwise (Lt D) := by
  unfold SlicesSortStableFuncLint_v1 SlicesstableCmpFuncint_v1
  obtain ⟨f, rfl⟩ : ∃ m, fu = m + 5 := ⟨fu - 5, by omega⟩
  have w0 : w64 (20 + 20) = 40 := by decide
  have w1 : w64 (40 + 20) = 60 := by decide
  have w2 : w64 (2 * 20) = 40 := by decide
  have w3 : w64 (20 * 2) = 40 := by decide
  have w4 : w64 (40 + 40) = 80 := by decide
  have w5 : w64 (0 + 20) = 20 := by decide
  have w6 : w64 (40 + 20) = 60 := by decide
  rcases Nat.lt_or_ge X.length 20 with h | h
  · obtain ⟨R, e1, e2, e3⟩ := ins_ok hC (fu := f + 5) (A := []) (X := X) (T := []) (by omega) (by simp; omega) hV hu
    refine ⟨R, ?_, e2, e3⟩
    simp only [List.nil_append, List.append_nil, List.length_nil, Nat.zero_add] at e1
    have d1 : decide ((20 : Int) ≤ ((X.length : Nat) : Int)) = false := by simp; omega
    have d2 : decide ((20 : Int) < ((X.length : Nat) : Int)) = false := by simp; omega
    have z : (0 : Int) = ((0 : Nat) : Int) := rfl
    simp only [SlicesstableCmpFuncint_v1.loop1, d1, Bool.false_eq_true, if_false, Option.bind_some]
    rw [z, e1]
    simp only [Option.bind_some, SlicesstableCmpFuncint_v1.loop2, d2, Bool.false_eq_true, if_false]
  · obtain ⟨X1, X2, rfl, l1⟩ : ∃ X1 X2, X = X1 ++ X2 ∧ X1.length = 20 := ⟨X.take 20, X.drop 20, (List.take_append_drop _ _).symm, by simp; omega⟩
    simp only [List.length_append] at hn h
    rw [List.pairwise_append] at hu
    obtain ⟨R1, a1, a2, a3⟩ := ins_ok hC (fu := f + 5) (A := []) (X := X1) (T := X2) (by omega) (by simp; omega) (fun y hy => hV y (by simp [hy])) hu.1
    have lR1 : R1.length = 20 := by rw [a2.length_eq, l1]
    obtain ⟨R2, b1, b2, b3⟩ := ins_ok hC (fu := f + 5) (A := R1) (X := X2) (T := []) (by omega) (by omega) (fun y hy => hV y (by simp [hy])) hu.2.1
    have lR2 : R2.length = X2.length := b2.length_eq
    simp only [List.nil_append, List.append_nil, List.length_nil, Nat.zero_add, l1] at a1 b1
    have z : (0 : Int) = ((0 : Nat) : Int) := rfl
    have z2 : (20 : Int) = ((20 : Nat) : Int) := rfl
    have d1 : decide ((20 : Int) ≤ (((X1 ++ X2).length : Nat) : Int)) = true := by simp; omega
    have hsym : X2 ≠ [] → ∃ R, SlicessymMergeCmpFuncint_v1 (f + 5) (R1 ++ R2) 0 20 (((X1 ++ X2).length : Nat) : Int) l = some R ∧ R.Perm (X1 ++ X2) ∧ R.Pairwise (Lt D) := by
      intro hne
      obtain ⟨R, e1, e2, e3⟩ := sym_ok hC (f + 5) [] R1 R2 [] 0 20 (((X1 ++ X2).length : Nat) : Int) rfl (by simp [lR1]) (by simp; omega) (by intro h; subst h; simp at lR1) (by intro h; subst h; simp at lR2; exact hne (List.length_eq_zero_iff.1 lR2.symm)) (by omega) (by simp; omega)
        (fun x hx => hV x (by simp [a2.subset hx])) (fun y hy => hV y (by simp [b2.subset hy])) (fun x hx y hy => hu.2.2 x (a2.subset hx) y (b2.subset hy)) a3 b3
      refine ⟨R, by simpa using e1, e2.trans (a2.append b2), e3⟩
    rcases Nat.lt_or_ge 0 X2.length with h2 | h2
    · obtain ⟨R, e1, e2, e3⟩ := hsym (List.length_pos_iff.1 h2)
      refine ⟨R, ?_, e2, e3⟩
      have d2 : decide ((20 : Int) < (((X1 ++ X2).length : Nat) : Int)) = true := by simp; omega
      have d3 : decide ((40 : Int) < (((X1 ++ X2).length : Nat) : Int)) = false := by simp; omega
      rcases Nat.lt_or_ge X2.length 20 with h3 | h3
      · have d4 : decide ((40 : Int) ≤ (((X1 ++ X2).length : Nat) : Int)) = false := by simp; omega
        simp only [SlicesstableCmpFuncint_v1.loop1, d1, if_true]
        rw [z, z2, a1]
        simp only [Option.bind_some, ← z, ← z2, w0, d4, Bool.false_eq_true, if_false]
        rw [show (R1.length : Int) = 20 by rw [lR1]; rfl, show ((R1.length + X2.length : Nat) : Int) = (((X1 ++ X2).length : Nat) : Int) by simp [lR1, l1]] at b1
        rw [b1]
        simp only [Option.bind_some, SlicesstableCmpFuncint_v1.loop2, d2, if_true, SlicesstableCmpFuncint_v1.loop3, w2, d4, Bool.false_eq_true, if_false, w5, e1, w3, d3]
      · have d4 : decide ((40 : Int) ≤ (((X1 ++ X2).length : Nat) : Int)) = true := by simp; omega
        have d5 : decide ((60 : Int) ≤ (((X1 ++ X2).length : Nat) : Int)) = false := by simp; omega
        have d6 : decide ((80 : Int) ≤ (((X1 ++ X2).length : Nat) : Int)) = false := by simp; omega
        have d7 : decide ((60 : Int) < (((X1 ++ X2).length : Nat) : Int)) = false := by simp; omega
        have hl40 : (((X1 ++ X2).length : Nat) : Int) = 40 := by simp; omega
        simp only [SlicesstableCmpFuncint_v1.loop1, d1, if_true]
        rw [z, z2, a1]
        simp only [Option.bind_some, ← z, ← z2, w0, d4, if_true]
        rw [show (R1.length : Int) = 20 by rw [lR1]; rfl, show ((R1.length + X2.length : Nat) : Int) = 40 by omega] at b1
        rw [b1]
        simp only [Option.bind_some, w1, d5, Bool.false_eq_true, if_false]
        obtain ⟨R3, c1, c2, c3⟩ := ins_ok hC (fu := f + 5) (A := R1 ++ R2) (X := []) (T := []) (by simp) (by simp <;> omega) (by simp) (by simp)
        obtain rfl : R3 = [] := List.perm_nil.1 c2
        rw [show ((R1 ++ R2).length : Int) = 40 by simp; omega, show (((R1 ++ R2).length + ([] : List Int).length : Nat) : Int) = (((X1 ++ X2).length : Nat) : Int) by simp; omega] at c1
        simp only [List.append_nil] at c1
        rw [c1]
        rw [hl40] at e1
        simp only [Option.bind_some, SlicesstableCmpFuncint_v1.loop2, d2, if_true, SlicesstableCmpFuncint_v1.loop3, w2, d4, w5, e1, w4, d6, Bool.false_eq_true, if_false, w6, d7, w3, d3]
    · obtain rfl : X2 = [] := List.length_eq_zero_iff.1 (by omega)
      refine ⟨R1, ?_, by simpa using a2, a3⟩
      simp only [List.append_nil] at *
      have d2 : decide ((20 : Int) < ((X1.length : Nat) : Int)) = false := by simp; omega
      have d4 : decide ((40 : Int) ≤ ((X1.length : Nat) : Int)) = false := by simp; omega
      simp only [SlicesstableCmpFuncint_v1.loop1, d1, if_true]
      rw [z, z2, a1]
      simp only [Option.bind_some, ← z, ← z2, w0, d4, Bool.false_eq_true, if_false]
      obtain ⟨R3, c1, c2, c3⟩ := ins_ok hC (fu := f + 5) (A := R1) (X := []) (T := []) (by simp) (by simp <;> omega) (by simp) (by simp)
      obtain rfl : R3 = [] := List.perm_nil.1 c2
      rw [show (R1.length : Int) = 20 by rw [lR1]; rfl, show ((R1.length + ([] : List Int).length : Nat) : Int) = ((X1.length : Nat) : Int) by simp; omega] at c1
      simp only [List.append_nil] at c1
      rw [c1]
      simp only [Option.bind_some, SlicesstableCmpFuncint_v1.loop2, d2, Bool.false_eq_true, if_false]
end stable
/-! the tasks in the order of Dep -/
def rng (n : Nat) : List Int := (List.range n).map fun (i : Nat) => (i : Int)
theorem rng_len (n : Nat) : (rng n).length = n := by simp [rng]
theorem rng_mem (n : Nat) (x : Int) : x ∈ rng n ↔ 0 ≤ x ∧ x < n := by
  simp only [rng, List.mem_map, List.mem_range]
  constructor
  · rintro ⟨i, h, rfl⟩; omega
  · intro h; exact ⟨x.toNat, by omega, by omega⟩
theorem rng_lt (n : Nat) : (rng n).Pairwise (· < ·) := by
  unfold rng
  rw [List.pairwise_map]
  exact List.pairwise_lt_range.imp (by intro a b h; omega)
def depOf (l : List FleetTask) (x : Int) : Int := (l.getD x.toNat default).Dep
theorem gx_task {l : List FleetTask} {x : Int} (h : 0 ≤ x ∧ x < l.length) : gx l x = some (l.getD x.toNat default) := by
  unfold gx
  rw [if_pos h.1, List.getD_eq_getElem?_getD, List.getElem?_eq_getElem (by omega)]; rfl
theorem cmp_dep (l : List FleetTask) (x y : Int) (hx : 0 ≤ x ∧ x < l.length) (hy : 0 ≤ y ∧ y < l.length) : ∃ c, Fleetorder_1_v1 x y l = some c ∧ (c < 0 ↔ depOf l x < depOf l y) := by
  unfold Fleetorder_1_v1
  rw [gx_task hx, gx_task hy]
  refine ⟨_, rfl, ?_⟩
  unfold CmpCompareint CmpisNaNint depOf
  simp only [bne_self_eq_false, Bool.false_eq_true, if_false]
  generalize (l.getD x.toNat default).Dep = a
  generalize (l.getD y.toNat default).Dep = b
  by_cases h1 : a < b
  · simp [h1]
  · by_cases h2 : a > b <;> simp [h1, h2]
theorem order_loop : ∀ (n k : Nat), Fleetorder.loop1 n k (rng k ++ List.replicate n 0) = some (rng (k + n))
  | 0, k => by simp [Fleetorder.loop1]
  | n + 1, k => by
    have h1 : ix (rng k ++ 0 :: List.replicate n 0) ((k : Nat) : Int) = some () := ix_at (by rw [rng_len])
    have h2 : sx (rng k ++ 0 :: List.replicate n 0) ((k : Nat) : Int) ((k : Nat) : Int) = some (rng k ++ (k : Int) :: List.replicate n 0) := sx_at (by rw [rng_len])
    have h3 : rng k ++ (k : Int) :: List.replicate n 0 = rng (k + 1) ++ List.replicate n 0 := by
      simp [rng, List.range_succ]
    rw [List.replicate_succ, Fleetorder.loop1]
    simp only [h1, h2, h3, Option.bind_some]
    rw [order_loop n (k + 1)]; congr 2; omega
theorem order_ok {fu : Nat} (hf : 60 ≤ fu) (l : List FleetTask) (hl : l.length ≤ 40) : ∃ R, Fleetorder fu l = some R ∧ R.Pairwise (Lt (depOf l)) ∧ R.length = l.length ∧ ∀ x, x ∈ R ↔ 0 ≤ x ∧ x < l.length := by
  obtain ⟨R, r1, r2, r3⟩ := stable_ok (V := fun x => 0 ≤ x ∧ x < l.length) (D := depOf l) (fun x y hx hy => cmp_dep l x y hx hy) hf (X := rng l.length) (by rw [rng_len]; exact hl) (fun y hy => (rng_mem _ _).1 hy) (rng_lt _)
  refine ⟨R, ?_, r3, by rw [r2.length_eq, rng_len], fun x => by rw [r2.mem_iff, rng_mem]⟩
  have h1 : mks ((l.length : Nat) : Int) (0 : Int) = some (List.replicate l.length 0) := by
    unfold mks; rw [if_pos (by omega)]; simp
  have h2 := order_loop l.length 0
  simp only [rng, List.range_zero, List.map_nil, List.nil_append, Nat.zero_add] at h2
  unfold Fleetorder
  simp only [h1, Option.bind_some, List.length_replicate, h2]
  have h3 : ((List.range l.length).map fun (i : Nat) => (i : Int)) = rng l.length := rfl
  rw [h3, r1]; rfl
theorem three {c1 c2 c3 : Bool} {z : Out Int Unit} (h : (if c1 = true then Out.ret 2 else if c2 = true then Out.ret 13 else if c3 = true then Out.ret 2 else z) = Out.next ()) : c1 = false ∧ c2 = false ∧ c3 = false ∧ z = Out.next () := by
  cases c1 <;> cases c2 <;> cases c3 <;> simp_all
theorem three' {c1 c2 c3 : Bool} {z : Out Int Unit} {r : Int} (h : (if c1 = true then Out.ret 2 else if c2 = true then Out.ret 13 else if c3 = true then Out.ret 2 else z) = Out.ret r) (hz : z = Out.ret r → r ≠ 0) : r ≠ 0 := by
  cases c1 <;> cases c2 <;> cases c3 <;> simp at h <;> first | exact hz h | omega
theorem in_bool {x a b : Int} (h : (!(Fleetwithin x a b)) = false) : a ≤ x ∧ x ≤ b := by
  unfold Fleetwithin bnd at h
  by_cases h1 : x ≥ a <;> by_cases h2 : x ≤ b <;> simp [h1, h2] at h
  exact ⟨h1, h2⟩
theorem tasks_in : ∀ l : List FleetTask, FleetCheckTasks.loop1 l = .next () → ∀ t ∈ l, 0 ≤ t.Dep ∧ t.Dep ≤ 28800 ∧ 1 ≤ t.Units ∧ t.Units ≤ 4
  | [], _ => by simp
  | x :: r, h => by
    simp only [FleetCheckTasks.loop1, bnd_eq] at h
    obtain ⟨h1, h2, h3, h4⟩ := three h
    have hd : (!(Fleetwithin x.Dep 0 28800)) = false := by
      revert h1; cases !(Fleetwithin x.From 0 11) <;> cases !(Fleetwithin x.To 0 11) <;> cases !(Fleetwithin x.Dep 0 28800) <;> simp
    have hu : (!(Fleetwithin x.Units 1 4)) = false := by
      revert h3; cases !(Fleetwithin x.Km 0 10000) <;> cases !(Fleetwithin x.Units 1 4) <;> simp
    have d1 := in_bool hd
    have d2 := in_bool hu
    intro t ht
    rcases List.mem_cons.1 ht with rfl | ht
    · exact ⟨d1.1, d1.2, d2.1, d2.2⟩
    · exact tasks_in r h4 t ht
theorem tasks_ret : ∀ (l : List FleetTask) (r : Int), FleetCheckTasks.loop1 l = .ret r → r ≠ 0
  | [], r, h => by simp [FleetCheckTasks.loop1] at h
  | x :: t, r, h => by
    simp only [FleetCheckTasks.loop1, bnd_eq] at h
    exact three' h (tasks_ret t r)
theorem turn_in {l : List FleetTask} {t : Int} (h : FleetcheckTurn l t = 0) : l.length ≤ 40 ∧ ∀ x ∈ l, 0 ≤ x.Dep ∧ x.Dep ≤ 28800 ∧ 1 ≤ x.Units ∧ x.Units ≤ 4 := by
  unfold FleetcheckTurn at h
  have h1 : FleetCheckTasks l = 0 := by
    by_cases h1 : FleetCheckTasks l = 0
    · exact h1
    · simp [h1] at h
  unfold FleetCheckTasks at h1
  by_cases h2 : ((l.length : Nat) : Int) > 40
  · simp [h2] at h1
  · simp only [h2, decide_false, Bool.false_eq_true, if_false, bnd_eq] at h1
    refine ⟨by omega, tasks_in l ?_⟩
    revert h1
    cases h3 : FleetCheckTasks.loop1 l with
    | next u => intro _; rfl
    | ret r => intro h1; exact absurd h1 (tasks_ret l r h3)
theorem equal_refl (l : List Int) : SlicesEqualLint l l = some true := by
  have key : ∀ (r : List Int) (k : Nat), l.drop k = r → SlicesEqualLint.loop1 l r k = some (.next ()) := by
    intro r
    induction r with
    | nil => intro k _; rfl
    | cons v r ih =>
      intro k hd
      obtain ⟨d1, d2, d3⟩ := drop_cons hd
      simp only [SlicesEqualLint.loop1, gx_nat, d2, Option.bind_some, bne_self_eq_false, Bool.false_eq_true, if_false]
      exact ih (k + 1) d3
  unfold SlicesEqualLint
  simp [key l 0 rfl]
theorem equalf_refl (l : List (List Int)) : SlicesEqualFuncLLint_v1 l l = some true := by
  have key : ∀ (r : List (List Int)) (k : Nat), l.drop k = r → SlicesEqualFuncLLint_v1.loop1 l r k = some (.next ()) := by
    intro r
    induction r with
    | nil => intro k _; rfl
    | cons v r ih =>
      intro k hd
      obtain ⟨d1, d2, d3⟩ := drop_cons hd
      simp only [SlicesEqualFuncLLint_v1.loop1, gx_nat, d2, Option.bind_some, equal_refl, Bool.not_true, Bool.false_eq_true, if_false]
      exact ih (k + 1) d3
  unfold SlicesEqualFuncLLint_v1
  simp [key l 0 rfl]
theorem index_loop (x : Int) : ∀ (l : List Int) (k : Nat), (SlicesIndexLint.loop1 x l k = .next () ∧ x ∉ l) ∨ (∃ j : Nat, SlicesIndexLint.loop1 x l k = .ret (((k + j : Nat) : Nat) : Int) ∧ l[j]? = some x)
  | [], k => .inl ⟨rfl, by simp⟩
  | y :: r, k => by
    by_cases h : x = y
    · subst h; exact .inr ⟨0, by simp [SlicesIndexLint.loop1], rfl⟩
    · have hb : (x == y) = false := by simpa using h
      rcases index_loop x r (k + 1) with ⟨h1, h2⟩ | ⟨j, h1, h2⟩
      · exact .inl ⟨by simp [SlicesIndexLint.loop1, hb, h1], by simp [h, h2]⟩
      · refine .inr ⟨j + 1, ?_, by simpa using h2⟩
        simp only [SlicesIndexLint.loop1, hb, Bool.false_eq_true, if_false, h1]
        have e : k + 1 + j = k + (j + 1) := by omega
        rw [e]
theorem index_cases (l : List Int) (x : Int) : (SlicesIndexLint l x = -1 ∧ x ∉ l) ∨ (∃ j : Nat, SlicesIndexLint l x = (j : Int) ∧ l[j]? = some x) := by
  unfold SlicesIndexLint
  rcases index_loop x l 0 with ⟨h1, h2⟩ | ⟨j, h1, h2⟩
  · exact .inl ⟨by simp [h1, bnd_eq], h2⟩
  · exact .inr ⟨j, by simp [h1, bnd_eq], h2⟩
theorem contains_eq (l : List Int) (x : Int) : SlicesContainsLint l x = l.contains x := by
  unfold SlicesContainsLint
  rcases index_cases l x with ⟨h1, h2⟩ | ⟨j, h1, h2⟩
  · rw [h1]; simp [h2]
  · rw [h1]; have := List.mem_of_getElem? h2; simp [this]
/-! the reference's order of tasks is the same -/
theorem inOrder2 (l : List FleetTask) (d : Int) : ∀ (r : List FleetTask) (k : Nat) (o : List Int), l.drop k = r → o.length + r.length ≤ 1000 → ∃ P, Fishref2inOrder.loop2 d r k o = some (o ++ P) ∧ P.Pairwise (· < ·) ∧ ∀ x, x ∈ P ↔ (k : Int) ≤ x ∧ x < l.length ∧ depOf l x = d
  | [], k, o, hd, _ => ⟨[], by simp [Fishref2inOrder.loop2], by simp, by
      intro x; have := List.drop_eq_nil_iff.1 hd; simp; omega⟩
  | v :: r, k, o, hd, hl => by
    obtain ⟨d1, d2, d3⟩ := drop_cons hd
    simp only [List.length_cons] at hl
    have hv : depOf l (k : Int) = v.Dep := by simp [depOf, List.getD_eq_getElem?_getD, d2]
    simp only [Fishref2inOrder.loop2]
    by_cases h : v.Dep = d
    · have hb : (v.Dep == d) = true := by simpa using h
      have ha : apd o [((k : Nat) : Int)] = some (o ++ [((k : Nat) : Int)]) := by unfold apd; rw [if_pos (by simp; omega)]
      simp only [hb, if_true, ha, Option.bind_some]
      obtain ⟨P, p1, p2, p3⟩ := inOrder2 l d r (k + 1) (o ++ [((k : Nat) : Int)]) d3 (by simp; omega)
      refine ⟨(k : Int) :: P, by rw [p1]; simp, List.pairwise_cons.2 ⟨fun y hy => by have := ((p3 y).1 hy).1; omega, p2⟩, ?_⟩
      intro x
      rw [List.mem_cons, p3]
      constructor
      · rintro (rfl | h1)
        · exact ⟨by omega, by omega, by rw [hv, h]⟩
        · exact ⟨by omega, h1.2⟩
      · rintro ⟨h1, h2, h3⟩
        by_cases e : x = k
        · exact .inl e
        · exact .inr ⟨by omega, h2, h3⟩
    · have hb : (v.Dep == d) = false := by simpa using h
      simp only [hb, Bool.false_eq_true, if_false, Option.bind_some]
      obtain ⟨P, p1, p2, p3⟩ := inOrder2 l d r (k + 1) o d3 (by omega)
      refine ⟨P, p1, p2, ?_⟩
      intro x
      rw [p3]
      constructor
      · rintro ⟨h1, h2⟩; exact ⟨by omega, h2⟩
      · rintro ⟨h1, h2, h3⟩
        refine ⟨?_, h2, h3⟩
        by_cases e : x = k
        · subst e; exact absurd (hv.symm.trans h3) h
        · omega
theorem inOrder1 (l : List FleetTask) (hl : l.length ≤ 40) (hD : ∀ x ∈ l, 0 ≤ x.Dep ∧ x.Dep ≤ 28800) {R : List Int} (hs : R.Pairwise (Lt (depOf l))) (hn : R.length = l.length) (hR : ∀ x, x ∈ R ↔ 0 ≤ x ∧ x < l.length) :
    ∀ (n : Nat) (d : Int), 0 ≤ d → d ≤ 28801 → (28801 - d).toNat < n → ∃ d', Fishref2inOrder.loop1 l n (R.filter fun x => decide (depOf l x < d)) d = some (R, d')
  | 0, _, _, _, h => absurd h (by omega)
  | n + 1, d, h0, h1, h2 => by
    have hdep : ∀ x ∈ R, 0 ≤ depOf l x ∧ depOf l x ≤ 28800 := by
      intro x hx
      have := (hR x).1 hx
      unfold depOf
      rw [List.getD_eq_getElem?_getD, List.getElem?_eq_getElem (by omega)]
      exact hD _ (List.getElem_mem _)
    simp only [Fishref2inOrder.loop1, bnd_eq]
    by_cases h3 : ((R.filter fun x => decide (depOf l x < d)).length : Int) < (l.length : Int) ∧ d ≤ 28800
    · simp only [h3.1, h3.2, decide_true, if_true]
      obtain ⟨P, p1, p2, p3⟩ := inOrder2 l d l 0 (R.filter fun x => decide (depOf l x < d)) rfl (by omega)
      have e : (R.filter fun x => decide (depOf l x < d)) ++ P = R.filter fun x => decide (depOf l x < d + 1) := by
        refine lt_ext (D := depOf l) ?_ (hs.filter _) ?_
        · refine List.pairwise_append.2 ⟨hs.filter _, ?_, ?_⟩
          · refine p2.imp_of_mem ?_
            intro a b ha hb hab
            have h4 := (p3 a).1 ha
            have h5 := (p3 b).1 hb
            exact .inr ⟨by rw [h4.2.2, h5.2.2], hab⟩
          · intro a ha b hb
            have h4 := (List.mem_filter.1 ha).2
            have h5 := (p3 b).1 hb
            exact .inl (by have := of_decide_eq_true h4; omega)
        · intro x
          rw [List.mem_append, p3, List.mem_filter, List.mem_filter, hR, decide_eq_true_eq, decide_eq_true_eq]
          constructor
          · rintro (h | h)
            · exact ⟨h.1, by omega⟩
            · exact ⟨⟨by omega, h.2.1⟩, by omega⟩
          · rintro ⟨h, h'⟩
            by_cases e : depOf l x < d
            · exact .inl ⟨h, e⟩
            · exact .inr ⟨by omega, h.2, by omega⟩
      rw [p1, Option.bind_some, e, w64_id (by omega)]
      exact inOrder1 l hl hD hs hn hR n (d + 1) (by omega) (by omega) (by omega)
    · have hc : (if decide (((R.filter fun x => decide (depOf l x < d)).length : Int) < (l.length : Int)) = true then decide (d ≤ 28800) else false) = false := by
        by_cases h4 : ((R.filter fun x => decide (depOf l x < d)).length : Int) < (l.length : Int)
        · have h5 : ¬ d ≤ 28800 := fun h => h3 ⟨h4, h⟩
          simp [h5]
        · simp [h4]
      have hf : (R.filter fun x => decide (depOf l x < d)) = R := by
        by_cases h4 : d ≤ 28800
        · have h5 : ¬ ((R.filter fun x => decide (depOf l x < d)).length : Int) < (l.length : Int) := fun h => h3 ⟨h, h4⟩
          have h6 := List.length_filter_le (fun x => decide (depOf l x < d)) R
          exact List.filter_eq_self.2 (List.length_filter_eq_length_iff.1 (by omega))
        · refine List.filter_eq_self.2 fun x hx => ?_
          have := hdep x hx
          exact decide_eq_true (by omega)
      rw [if_neg (by rw [hc]; simp), hf]
      exact ⟨d, rfl⟩
theorem inOrder_eq {fu : Nat} (hf : 28802 ≤ fu) (l : List FleetTask) (hl : l.length ≤ 40) (hD : ∀ x ∈ l, 0 ≤ x.Dep ∧ x.Dep ≤ 28800) {R : List Int} (hs : R.Pairwise (Lt (depOf l))) (hn : R.length = l.length) (hR : ∀ x, x ∈ R ↔ 0 ≤ x ∧ x < l.length) : Fishref2inOrder fu l = some R := by
  obtain ⟨d', h⟩ := inOrder1 l hl hD hs hn hR fu 0 (by omega) (by omega) (by omega)
  have e : (R.filter fun x => decide (depOf l x < 0)) = [] := by
    refine List.filter_eq_nil_iff.2 fun x hx => ?_
    have h1 := (hR x).1 hx
    have : 0 ≤ depOf l x := by
      unfold depOf
      rw [List.getD_eq_getElem?_getD, List.getElem?_eq_getElem (by omega)]
      exact (hD _ (List.getElem_mem _)).1
    simp; omega
  rw [e] at h
  unfold Fishref2inOrder
  rw [h]; rfl
theorem sets_true (n : Nat) : Fishlaw2sets (n + 60) = some true := by kernel_rfl

theorem follows_not (a b : FleetTask) (t : Int) : Fleetfollows a b t = !(if (a.To != b.From) then true else decide ((w64 (a.Arr + t)) > b.Dep)) := by
  unfold Fleetfollows bnd
  by_cases h : b.From = a.To
  · have h1 : (b.From == a.To) = true := by simpa using h
    have h2 : (a.To != b.From) = false := by simp [h]
    simp only [h1, h2, if_true, Bool.false_eq_true, if_false]
    by_cases h3 : b.Dep ≥ w64 (a.Arr + t) <;> simp [h3] <;> omega
  · have h1 : (b.From == a.To) = false := by simpa using h
    have h2 : (a.To != b.From) = true := by simp; exact fun e => h e.symm
    simp [h1, h2]

theorem gx_last {row : List Int} (h : row ≠ []) (hl : row.length ≤ 1000) : gx row (w64 ((row.length : Int) - 1)) = some (row.getLast h) := by
  have := List.length_pos_iff.2 h
  rw [w64_id (by omega)]
  unfold gx
  rw [if_pos (by omega), List.getLast_eq_getElem]
  have e : ((row.length : Int) - 1).toNat = row.length - 1 := by omega
  rw [e]; exact List.getElem?_eq_getElem (by omega)

structure Good (l : List FleetTask) (x : Int) (S : List Int) (c : Nat) (rows : List (List Int)) : Prop where
  len : rows.length ≤ c
  all : ∀ row ∈ rows, row ≠ [] ∧ row.length ≤ c ∧ (∀ i ∈ row, i ∈ S) ∧ (∀ h : row ≠ [], x ∈ row → row.getLast h = x)

theorem loop4_eq (l : List FleetTask) (t x : Int) (S : List Int) (hS : ∀ i ∈ S, 0 ≤ i ∧ i < l.length) (hx : x ∈ S) (c : Nat) (hc : c ≤ 1000) (rows : List (List Int)) (hg : Good l x S c rows) :
    ∀ (n k : Nat) (q : Int), k + n = rows.length → (q = -1 ∨ (0 ≤ q ∧ q < rows.length)) →
    ∃ q', FleetTurns.loop4 l t x rows n k q = some q' ∧ Fishref2TurnsOf.loop4 l t x rows n k q = some q' ∧ (q' = -1 ∨ (0 ≤ q' ∧ q' < rows.length))
  | 0, k, q, _, hq => ⟨q, rfl, rfl, hq⟩
  | n + 1, k, q, hk, hq => by
    have hkl : k < rows.length := by omega
    have g1 : gx rows ((k : Nat) : Int) = some rows[k] := by rw [gx_nat, List.getElem?_eq_getElem hkl]
    obtain ⟨p1, p2, p3, p4⟩ := hg.all rows[k] (List.getElem_mem hkl)
    have g2 := gx_last p1 (by omega)
    have hl1 := p3 _ (List.getLast_mem p1)
    have g3 := gx_task (hS _ hl1)
    have g4 := gx_task (hS _ hx)
    have ih := fun q hq => loop4_eq l t x S hS hx c hc rows hg n (k + 1) q (by omega) hq
    simp only [FleetTurns.loop4, Fishref2TurnsOf.loop4, g1, g2, g3, g4, Option.bind_some, contains_eq]
    by_cases h1 : rows[k].getLast p1 = x
    · have h2 : rows[k].contains x = true := by rw [← h1]; simp [List.getLast_mem]
      have h3 : (rows[k].getLast p1 != x) = false := by simp [h1]
      simp only [h2, h3, if_true, Bool.false_eq_true, if_false, Option.bind_some, bnd_eq]
      exact ih q hq
    · have h2 : rows[k].contains x = false := by
        rw [Bool.eq_false_iff]; intro h; exact h1 (p4 p1 (by simpa using h))
      have h3 : (rows[k].getLast p1 != x) = true := by simpa using h1
      simp only [h2, h3, if_true, Bool.false_eq_true, if_false, follows_not]
      generalize hT : l.getD (rows[k].getLast p1).toNat default = T
      generalize hX : l.getD x.toNat default = X
      by_cases h4 : (T.To != X.From) = true
      · simp only [h4, if_true, Bool.not_true, Bool.false_eq_true, if_false, Option.bind_some, bnd_eq]; exact ih q hq
      · have h4' : (T.To != X.From) = false := by simpa using h4
        simp only [h4', Bool.false_eq_true, if_false]
        by_cases h5 : w64 (T.Arr + t) > X.Dep
        · simp only [h5, decide_true, Bool.not_true, Bool.false_eq_true, if_false, if_true, Option.bind_some, bnd_eq]; exact ih q hq
        · simp only [h5, decide_false, Bool.not_false, Bool.false_eq_true, if_false, if_true, Option.bind_some, bnd_eq]
          rcases hq with rfl | hq
          · have : ((-1 : Int) < 0) := by omega
            simp only [this, decide_true, if_true, Option.bind_some]
            exact ih _ (.inr (by omega))
          · have h6 : ¬ (q < 0) := by omega
            have hq2 : q.toNat < rows.length := by omega
            have g5 : gx rows q = some rows[q.toNat] := by unfold gx; rw [if_pos hq.1, List.getElem?_eq_getElem hq2]
            obtain ⟨r1, r2, r3, r4⟩ := hg.all rows[q.toNat] (List.getElem_mem hq2)
            have g6 := gx_last r1 (by omega)
            have g7 := gx_task (hS _ (r3 _ (List.getLast_mem r1)))
            simp only [h6, decide_false, Bool.false_eq_true, if_false, g5, g6, g7, Option.bind_some]
            split
            · exact ih _ (.inr (by omega))
            · exact ih _ (.inr hq)

theorem apd_in {α : Type} {a b : List α} (h : a.length + b.length ≤ 1000000) : apd a b = some (a ++ b) := by unfold apd; rw [if_pos (by omega)]

theorem loop3_eq (l : List FleetTask) (t x : Int) (S : List Int) (hS : ∀ i ∈ S, 0 ≤ i ∧ i < l.length) (hx : x ∈ S) (X : FleetTask) (hU : X.Units ≤ 4) :
    ∀ (n c : Nat) (rows : List (List Int)) (u : Int), 0 ≤ u → u ≤ 4 → (4 - u).toNat < n → c + (4 - u).toNat ≤ 1000 → Good l x S c rows →
    ∃ rows' u', FleetTurns.loop3 l t x X n rows u = some (rows', u') ∧ Fishref2TurnsOf.loop3 l t x X n rows u = some (rows', u') ∧ Good l x S (c + (4 - u).toNat) rows'
  | 0, _, _, _, _, _, h, _, _ => absurd h (by omega)
  | n + 1, c, rows, u, h0, h4, hn, hc, hg => by
    obtain ⟨q, q1, q2, q3⟩ := loop4_eq l t x S hS hx c (by omega) rows hg rows.length 0 (-1) (by omega) (.inl rfl)
    simp only [FleetTurns.loop3, Fishref2TurnsOf.loop3, q1, q2, Option.bind_some]
    by_cases h1 : u < X.Units
    · have hlt : u < 4 := by omega
      have hw : w64 (u + 1) = u + 1 := w64_id (by omega)
      simp only [h1, decide_true, if_true]
      have go : ∀ (rr : List (List Int)) (b : Int), 0 ≤ b → b < rr.length → rr.length ≤ c + 1 → (∀ row ∈ rr, row = [] ∨ (row ≠ [] ∧ row.length ≤ c ∧ (∀ i ∈ row, i ∈ S) ∧ (∀ h : row ≠ [], x ∈ row → row.getLast h = x))) →
          (∀ i : Nat, (i : Int) ≠ b → rr[i]? ≠ some []) →
          ∃ rows' u', ((gx rr b).bind fun x267 => ((apd x267 [x]).bind fun x279 => ((ix rr b).bind fun _ => ((sx rr b x279).bind fun x288 => FleetTurns.loop3 l t x X n x288 (w64 (u + 1)))))) = some (rows', u') ∧
            ((gx rr b).bind fun x267 => ((apd x267 [x]).bind fun x279 => ((ix rr b).bind fun _ => ((sx rr b x279).bind fun x288 => Fishref2TurnsOf.loop3 l t x X n x288 (w64 (u + 1)))))) = some (rows', u') ∧ Good l x S (c + (4 - u).toNat) rows' := by
        intro rr b hb0 hb1 hlen hrow hne
        have hbn : b.toNat < rr.length := by omega
        have g1 : gx rr b = some rr[b.toNat] := by unfold gx; rw [if_pos hb0, List.getElem?_eq_getElem hbn]
        have g2 : ix rr b = some () := by unfold ix; rw [if_pos ⟨hb0, hb1⟩]
        have hl : rr[b.toNat].length ≤ c := by
          rcases hrow _ (List.getElem_mem hbn) with h | h
          · rw [h]; simp
          · exact h.2.1
        have g3 : apd rr[b.toNat] [x] = some (rr[b.toNat] ++ [x]) := apd_in (by simp; omega)
        have g4 : ∀ v, sx rr b v = some (rr.set b.toNat v) := by intro v; unfold sx; rw [if_pos ⟨hb0, hb1⟩]
        simp only [g1, g2, g3, g4, Option.bind_some, hw]
        have hG : Good l x S (c + 1) (rr.set b.toNat (rr[b.toNat] ++ [x])) := by
          refine ⟨by simpa using hlen, ?_⟩
          intro row hr
          obtain ⟨i, hi, rfl⟩ := List.mem_iff_getElem.1 hr
          simp only [List.length_set] at hi
          by_cases hib : b.toNat = i
          · subst hib
            simp only [List.getElem_set_self]
            refine ⟨by simp, by simp; omega, ?_, by intro h _; simp⟩
            intro j hj
            rcases List.mem_append.1 hj with hj | hj
            · rcases hrow _ (List.getElem_mem hbn) with h | h
              · rw [h] at hj; simp at hj
              · exact h.2.2.1 j hj
            · simp at hj; subst hj; exact hx
          · simp only [List.getElem_set_ne hib]
            rcases hrow _ (List.getElem_mem hi) with h | h
            · exact absurd (by rw [List.getElem?_eq_getElem hi, h]) (hne i (by omega))
            · exact ⟨h.1, by omega, h.2.2⟩
        have e : c + 1 + (4 - (u + 1)).toNat = c + (4 - u).toNat := by omega
        have := loop3_eq l t x S hS hx X hU n (c + 1) _ (u + 1) (by omega) (by omega) (by omega) (by omega) hG
        rw [e] at this; exact this
      rcases q3 with rfl | q3
      · have hneg : ((-1 : Int) < 0) := by omega
        have ha : apd rows [([] : List Int)] = some (rows ++ [[]]) := apd_in (by have := hg.len; simp; omega)
        have hw2 : w64 (((rows ++ [([] : List Int)]).length : Int) - 1) = ((rows.length : Nat) : Int) := by
          have := hg.len
          rw [w64_id (by simp; omega)]; simp
        simp only [hneg, decide_true, if_true, ha, Option.bind_some, hw2]
        have := hg.len
        refine go (rows ++ [[]]) (rows.length : Int) (by omega) (by simp; omega) (by simp; omega) ?_ ?_
        · intro row hr
          rcases List.mem_append.1 hr with hr | hr
          · exact .inr (hg.all row hr)
          · simp at hr; exact .inl hr
        · intro i hi he
          by_cases h : i < rows.length
          · rw [List.getElem?_append_left h, List.getElem?_eq_getElem h] at he
            exact (hg.all _ (List.getElem_mem h)).1 (Option.some.inj he)
          · rw [List.getElem?_append_right (by omega)] at he
            have : i - rows.length = 0 ∨ 0 < i - rows.length := by omega
            rcases this with h | h
            · omega
            · obtain ⟨j, hj⟩ : ∃ j, i - rows.length = j + 1 := ⟨i - rows.length - 1, by omega⟩
              rw [hj] at he; simp at he
      · have hneg : ¬ (q < 0) := by omega
        simp only [hneg, decide_false, Bool.false_eq_true, if_false, Option.bind_some]
        have := hg.len
        refine go rows q q3.1 q3.2 (by omega) (fun row hr => .inr (hg.all row hr)) ?_
        intro i hi he
        have h : i < rows.length := (List.getElem?_eq_some_iff.1 he).1
        rw [List.getElem?_eq_getElem h] at he
        exact (hg.all _ (List.getElem_mem h)).1 (Option.some.inj he)
    · simp only [h1, decide_false, Bool.false_eq_true, if_false]
      exact ⟨rows, u, rfl, rfl, ⟨by have := hg.len; omega, fun row hr => by have := hg.all row hr; exact ⟨this.1, by omega, this.2.2⟩⟩⟩

theorem loop1_eq (l : List FleetTask) (t : Int) (fu : Nat) (hf : 5 ≤ fu) (hU : ∀ x ∈ l, x.Units ≤ 4) (R : List Int) (hR : ∀ x ∈ R, 0 ≤ x ∧ x < l.length) (hs : R.Pairwise (Lt (depOf l))) (hn : R.length ≤ 40) :
    ∀ (n k : Nat) (rows : List (List Int)), k + n = R.length → rows.length ≤ 4 * k → (∀ row ∈ rows, row ≠ [] ∧ row.length ≤ 4 * k ∧ ∀ i ∈ row, i ∈ R.take k) →
    ∃ rows', FleetTurns.loop1 l t fu R n k rows = some rows' ∧ Fishref2TurnsOf.loop1 l t fu R n k rows = some rows'
  | 0, k, rows, _, _, _ => ⟨rows, rfl, rfl⟩
  | n + 1, k, rows, hk, hlen, hall => by
    have hkl : k < R.length := by omega
    have g1 : gx R ((k : Nat) : Int) = some R[k] := by rw [gx_nat, List.getElem?_eq_getElem hkl]
    have hin := hR R[k] (List.getElem_mem hkl)
    have g2 := gx_task hin
    have htk : R.take (k + 1) = R.take k ++ [R[k]] := List.take_succ_eq_append_getElem hkl
    have hnot : R[k] ∉ R.take k := by
      intro h
      obtain ⟨i, hi, he⟩ := List.mem_iff_getElem.1 h
      simp only [List.length_take] at hi
      have := List.pairwise_iff_getElem.1 hs i k (by omega) hkl (by omega)
      simp only [List.getElem_take] at he
      rw [he] at this; exact this.irr
    have hg : Good l R[k] (R.take (k + 1)) (4 * k) rows := by
      refine ⟨hlen, fun row hr => ?_⟩
      obtain ⟨p1, p2, p3⟩ := hall row hr
      refine ⟨p1, p2, fun i hi => by rw [htk]; exact List.mem_append.2 (.inl (p3 i hi)), fun _ hx => absurd (p3 _ hx) hnot⟩
    have hu : (l.getD R[k].toNat default).Units ≤ 4 := by
      rw [List.getD_eq_getElem?_getD, List.getElem?_eq_getElem (by omega)]
      exact hU _ (List.getElem_mem _)
    obtain ⟨rows', u', e1, e2, e3⟩ := loop3_eq l t R[k] (R.take (k + 1)) (fun i hi => hR i (List.mem_of_mem_take hi)) (htk ▸ List.mem_append.2 (.inr (List.mem_singleton.2 rfl))) (l.getD R[k].toNat default) hu fu (4 * k) rows 0 (by omega) (by omega) (by omega) (by omega) hg
    simp only [FleetTurns.loop1, Fishref2TurnsOf.loop1, g1, g2, Option.bind_some, e1, e2]
    have e4 : 4 * k + ((4 : Int) - 0).toNat = 4 * (k + 1) := by omega
    rw [e4] at e3
    exact loop1_eq l t fu hf hU R hR hs hn n (k + 1) rows' (by omega) e3.len (fun row hr => by have := e3.all row hr; exact ⟨this.1, this.2.1, this.2.2.1⟩)

theorem FleetTurns_law (l : List FleetTask) (t : Int) (_ : l.length ≤ 9223372036854775807) (_ : -9223372036854775808 ≤ t ∧ t ≤ 9223372036854775807) : ∃ fu, Fishlaw2FleetTurns fu l t = some true := by
  refine ⟨40000 + 60, ?_⟩
  unfold Fishlaw2FleetTurns FleetTurns
  rw [sets_true, turn_ref]
  by_cases h1 : FleetcheckTurn l t = 0
  · have hin := turn_in h1
    obtain ⟨R, r1, r2, r3, r4⟩ := order_ok (fu := 40000 + 60) (by omega) l hin.1
    have i1 := inOrder_eq (fu := 40000 + 60) (by omega) l hin.1 (fun x hx => ⟨(hin.2 x hx).1, (hin.2 x hx).2.1⟩) r2 r3 r4
    obtain ⟨r, e1, e2⟩ := loop1_eq l t (40000 + 60) (by omega) (fun x hx => (hin.2 x hx).2.2.2) R (fun x hx => (r4 x).1 hx) r2 (by omega) R.length 0 [] (by omega) (by simp) (by simp)
    unfold Fishref2TurnsOf Fishlaw2lists
    simp only [h1, bne_self_eq_false, Bool.false_eq_true, if_false, r1, i1, e1, e2, Option.bind_some, if_true, beq_self_eq_true, equalf_refl]
  · have hb : (FleetcheckTurn l t != 0) = true := by simpa using h1
    simp [h1]

end Go.Fp
