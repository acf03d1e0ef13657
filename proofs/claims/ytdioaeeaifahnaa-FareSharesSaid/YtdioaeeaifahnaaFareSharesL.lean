/- FareShares: the mirror of the law is true of all prices and parts. -/
import Derived.Test.YtdioaeeaifahnaaFareSharesM
import Derived.Test.YtdioaeeaifahnaaFpPlain
import Derived.KernelRfl
namespace Go.Fp

/-! the stable sort of the library (blocks of 20 by insertion, then symMerge), for short lists -/
section stable
theorem gx_mid {α : Type} {A T : List α} {x : α} {i : Int} (h : i = (A.length : Int)) : gx (A ++ x :: T) i = some x := by
  subst h; simp [gx]
theorem ix_mid {α : Type} {A T : List α} {x : α} {i : Int} (h : i = (A.length : Int)) : ix (A ++ x :: T) i = some () := by
  subst h; unfold ix; rw [if_pos]; simp; omega
theorem sx_mid {α : Type} {A T : List α} {x v : α} {i : Int} (h : i = (A.length : Int)) : sx (A ++ x :: T) i v = some (A ++ v :: T) := by
  subst h; unfold sx; rw [if_pos]
  · simp
  · simp; omega

/-- strictly ahead: by D, then by number -/
def Lt (D : Int → Int) (x y : Int) : Prop := D x < D y ∨ (D x = D y ∧ x < y)
theorem Lt.trans {D : Int → Int} {x y z : Int} (h : Lt D x y) (k : Lt D y z) : Lt D x z := by unfold Lt at *; omega
theorem Lt.irr {D : Int → Int} {x : Int} (h : Lt D x x) : False := by unfold Lt at h; omega
theorem Lt.le {D : Int → Int} {x y : Int} (h : Lt D x y) : D x ≤ D y := by unfold Lt at h; omega

theorem lt_ext {D : Int → Int} : ∀ {l1 l2 : List Int}, l1.Pairwise (Lt D) → l2.Pairwise (Lt D) → (∀ x, x ∈ l1 ↔ x ∈ l2) → l1 = l2
  | [], [], _, _, _ => rfl
  | [], b :: _, _, _, h => absurd ((h b).2 (by simp)) (by simp)
  | a :: _, [], _, _, h => absurd ((h a).1 (by simp)) (by simp)
  | a :: t1, b :: t2, h1, h2, h => by
    rw [List.pairwise_cons] at h1 h2
    have hab : a = b := by
      have ha := (h a).1 (by simp)
      have hb := (h b).2 (by simp)
      rcases List.mem_cons.1 ha with e | e
      · exact e
      · rcases List.mem_cons.1 hb with e2 | e2
        · exact e2.symm
        · exact ((h2.1 a e).trans (h1.1 b e2)).irr.elim
    subst hab
    have ht : ∀ x, x ∈ t1 ↔ x ∈ t2 := by
      intro x
      constructor
      · intro hx
        rcases List.mem_cons.1 ((h x).1 (by simp [hx])) with e | e
        · subst e; exact (h1.1 x hx).irr.elim
        · exact e
      · intro hx
        rcases List.mem_cons.1 ((h x).2 (by simp [hx])) with e | e
        · subst e; exact (h2.1 x hx).irr.elim
        · exact e
    rw [lt_ext h1.2 h2.2 ht]

variable {p s : Int} {l : List Int} {D : Int → Int} {V : Int → Prop}

theorem ins2 (hC : ∀ x y, V x → V y → ∃ c, FareShares_1_v1 x y p l s = some c ∧ (c < 0 ↔ D x < D y)) : ∀ (n : Nat) (S A T : List Int) (x : Int), S.length < n → A.length + S.length < 1000000 → (∀ y ∈ S, V y) → V x → (∀ y ∈ S, y < x) → S.Pairwise (Lt D) →
    ∃ j R, SlicesinsertionSortCmpFuncint_v1.loop2 (A.length : Int) p l s n ((A.length + S.length : Nat) : Int) (A ++ (S ++ x :: T)) = some (j, A ++ (R ++ T)) ∧ R.Perm (S ++ [x]) ∧ R.Pairwise (Lt D)
  | 0, S, _, _, _, hn, _, _, _, _, _ => absurd hn (by omega)
  | n + 1, S, A, T, x, hn, hb, hV, hx, hlt, hs => by
    rcases List.eq_nil_or_concat S with rfl | ⟨S', y, rfl⟩
    · refine ⟨_, [x], by simp [SlicesinsertionSortCmpFuncint_v1.loop2]; exact rfl, by simp, by simp⟩
    · simp only [List.concat_eq_append] at *
      simp only [List.length_append, List.length_cons, List.length_nil] at hn hb
      obtain ⟨c, hc1, hc2⟩ := hC x y hx (hV y (by simp))
      have hj : w64 (((A.length + (S' ++ [y]).length : Nat) : Int) - 1) = ((A.length + S'.length : Nat) : Int) := by
        rw [w64_id (by simp; omega)]; simp; omega
      have hg : decide (((A.length + (S' ++ [y]).length : Nat) : Int) > (A.length : Int)) = true := by simp; omega
      have e1 : gx (A ++ ((S' ++ [y]) ++ x :: T)) ((A.length + (S' ++ [y]).length : Nat) : Int) = some x := by
        rw [← List.append_assoc A]; exact gx_mid (by simp)
      have e2 : gx (A ++ ((S' ++ [y]) ++ x :: T)) ((A.length + S'.length : Nat) : Int) = some y := by
        rw [show A ++ ((S' ++ [y]) ++ x :: T) = (A ++ S') ++ y :: (x :: T) by simp]; exact gx_mid (by simp)
      rw [SlicesinsertionSortCmpFuncint_v1.loop2]
      simp only [hg, if_true, hj, e1, e2, Option.bind_some, hc1]
      by_cases hlt2 : D x < D y
      · have hd : decide (c < 0) = true := by simpa using hc2.2 hlt2
        have e3 : ix (A ++ ((S' ++ [y]) ++ x :: T)) ((A.length + (S' ++ [y]).length : Nat) : Int) = some () := by
          rw [← List.append_assoc A]; exact ix_mid (by simp)
        have e4 : sx (A ++ ((S' ++ [y]) ++ x :: T)) ((A.length + (S' ++ [y]).length : Nat) : Int) y = some ((A ++ S') ++ y :: (y :: T)) := by
          rw [← List.append_assoc A, sx_mid (by simp)]; simp
        have e5 : ix ((A ++ S') ++ y :: (y :: T)) ((A.length + S'.length : Nat) : Int) = some () := ix_mid (by simp)
        have e6 : sx ((A ++ S') ++ y :: (y :: T)) ((A.length + S'.length : Nat) : Int) x = some (A ++ (S' ++ x :: (y :: T))) := by
          rw [sx_mid (by simp)]; simp
        simp only [hd, if_true, e3, e4, e5, e6, Option.bind_some]
        have hs2 := List.pairwise_append.1 hs
        obtain ⟨j, R, r1, r2, r3⟩ := ins2 hC n S' A (y :: T) x (by omega) (by omega) (fun z hz => hV z (by simp [hz])) hx (fun z hz => hlt z (by simp [hz])) hs2.1
        refine ⟨j, R ++ [y], by rw [r1]; simp, ?_, ?_⟩
        · exact (r2.append_right [y]).trans (by simpa using (List.Perm.swap y x []).append_left S')
        · refine List.pairwise_append.2 ⟨r3, by simp, ?_⟩
          intro z hz w hw
          simp at hw; subst hw
          rcases List.mem_append.1 (r2.subset hz) with h | h
          · exact hs2.2.2 z h w (by simp)
          · simp at h; subst h; exact .inl hlt2
      · have hd : decide (c < 0) = false := by simpa using fun h => hlt2 (hc2.1 h)
        simp only [hd, Bool.false_eq_true, if_false]
        refine ⟨_, (S' ++ [y]) ++ [x], by simp; exact rfl, List.Perm.refl _, ?_⟩
        refine List.pairwise_append.2 ⟨hs, by simp, ?_⟩
        intro z hz w hw
        simp at hw; subst hw
        have hyx : Lt D y w := by
          have := hlt y (by simp)
          unfold Lt; omega
        rcases List.mem_append.1 hz with h | h
        · exact ((List.pairwise_append.1 hs).2.2 z h y (by simp)).trans hyx
        · simp at h; subst h; exact hyx

theorem ins1 (hC : ∀ x y, V x → V y → ∃ c, FareShares_1_v1 x y p l s = some c ∧ (c < 0 ↔ D x < D y)) (fu : Nat) : ∀ (U : List Int) (n : Nat) (S A T : List Int), U.length < n → S.length + U.length < fu → A.length + S.length + U.length < 1000000 → (∀ y ∈ S, V y) → (∀ y ∈ U, V y) → (∀ y ∈ S, ∀ u ∈ U, y < u) → U.Pairwise (· < ·) → S.Pairwise (Lt D) →
    ∃ j R, SlicesinsertionSortCmpFuncint_v1.loop1 (A.length : Int) ((A.length + S.length + U.length : Nat) : Int) p l s fu n ((A.length + S.length : Nat) : Int) (A ++ (S ++ (U ++ T))) = some (j, A ++ (R ++ T)) ∧ R.Perm (S ++ U) ∧ R.Pairwise (Lt D)
  | [], n, S, A, T, hn, _, _, _, _, _, _, hs => by
    obtain ⟨n, rfl⟩ : ∃ m, n = m + 1 := ⟨n - 1, by simp at hn; omega⟩
    exact ⟨_, S, by simp [SlicesinsertionSortCmpFuncint_v1.loop1]; exact rfl, by simp, hs⟩
  | u :: U, n, S, A, T, hn, hf, hb, hV, hU, hlt, hu, hs => by
    obtain ⟨n, rfl⟩ : ∃ m, n = m + 1 := ⟨n - 1, by simp at hn; omega⟩
    simp only [List.length_cons] at hn hf hb
    obtain ⟨j, R, r1, r2, r3⟩ := ins2 hC fu S A (U ++ T) u (by omega) (by omega) hV (hU u (by simp)) (fun y hy => hlt y hy u (by simp)) hs
    have hl := r2.length_eq
    simp only [List.length_append, List.length_cons, List.length_nil] at hl
    rw [List.pairwise_cons] at hu
    have hmem : ∀ y ∈ R, y ∈ S ∨ y = u := by intro y hy; simpa using r2.subset hy
    obtain ⟨j', R', q1, q2, q3⟩ := ins1 hC fu U n R A T (by omega) (by omega) (by omega) (fun y hy => (hmem y hy).elim (hV y) (fun e => e ▸ hU u (by simp))) (fun y hy => hU y (by simp [hy]))
      (fun y hy v hv => (hmem y hy).elim (fun h => hlt y h v (by simp [hv])) (fun e => e ▸ hu.1 v hv)) hu.2 r3
    refine ⟨j', R', ?_, q2.trans (by simpa using r2.append_right U), q3⟩
    rw [SlicesinsertionSortCmpFuncint_v1.loop1]
    have h1 : decide (((A.length + S.length : Nat) : Int) < ((A.length + S.length + (u :: U).length : Nat) : Int)) = true := by simp; omega
    have h2 : w64 (((A.length + S.length : Nat) : Int) + 1) = ((A.length + R.length : Nat) : Int) := by
      rw [w64_id (by omega)]; omega
    have h3 : ((A.length + S.length + (u :: U).length : Nat) : Int) = ((A.length + R.length + U.length : Nat) : Int) := by simp; omega
    simp only [h1, if_true]
    simp only [List.cons_append, r1, Option.bind_some, h2, h3]
    exact q1

theorem ins_ok (hC : ∀ x y, V x → V y → ∃ c, FareShares_1_v1 x y p l s = some c ∧ (c < 0 ↔ D x < D y)) {fu : Nat} {A X T : List Int} (hf : X.length + 1 < fu) (hb : A.length + X.length < 1000000) (hV : ∀ y ∈ X, V y) (hu : X.Pairwise (· < ·)) :
    ∃ R, SlicesinsertionSortCmpFuncint_v1 fu (A ++ (X ++ T)) (A.length : Int) ((A.length + X.length : Nat) : Int) p l s = some (A ++ (R ++ T)) ∧ R.Perm X ∧ R.Pairwise (Lt D) := by
  unfold SlicesinsertionSortCmpFuncint_v1
  have h2 : w64 ((A.length : Int) + 1) = ((A.length + 1 : Nat) : Int) := by rw [w64_id (by omega)]; omega
  rw [h2]
  cases X with
  | nil =>
    obtain ⟨f, rfl⟩ : ∃ m, fu = m + 1 := ⟨fu - 1, by omega⟩
    refine ⟨[], ?_, by simp, by simp⟩
    rw [SlicesinsertionSortCmpFuncint_v1.loop1]
    have h1 : decide (((A.length + 1 : Nat) : Int) < ((A.length + ([] : List Int).length : Nat) : Int)) = false := by simp; omega
    simp only [h1, Bool.false_eq_true, if_false, Option.bind_some]
  | cons x X =>
    simp only [List.length_cons] at hf hb
    rw [List.pairwise_cons] at hu
    obtain ⟨j, R, r1, r2, r3⟩ := ins1 hC fu X fu [x] A T (by omega) (by simp; omega) (by simp; omega) (by simpa using hV x (by simp)) (fun y hy => hV y (by simp [hy])) (by simpa using hu.1) hu.2 (by simp)
    have h3 : ((A.length + (x :: X).length : Nat) : Int) = ((A.length + [x].length + X.length : Nat) : Int) := by simp; omega
    refine ⟨R, ?_, r2, r3⟩
    rw [h3]
    simp only [List.length_cons, List.length_nil, Nat.zero_add, List.cons_append, List.nil_append] at r1 ⊢
    rw [r1]; rfl

/-- the whole, for less than 20 -/
theorem stable_ok (hC : ∀ x y, V x → V y → ∃ c, FareShares_1_v1 x y p l s = some c ∧ (c < 0 ↔ D x < D y)) {fu : Nat} (hf : 60 ≤ fu) {X : List Int} (hn : X.length < 20) (hV : ∀ y ∈ X, V y) (hu : X.Pairwise (· < ·)) :
    ∃ R, SlicesSortStableFuncLint_v1 fu X p l s = some R ∧ R.Perm X ∧ R.Pairwise (Lt D) := by
  unfold SlicesSortStableFuncLint_v1 SlicesstableCmpFuncint_v1
  obtain ⟨f, rfl⟩ : ∃ m, fu = m + 5 := ⟨fu - 5, by omega⟩
  obtain ⟨R, e1, e2, e3⟩ := ins_ok hC (fu := f + 5) (A := []) (X := X) (T := []) (by omega) (by simp; omega) hV hu
  refine ⟨R, ?_, e2, e3⟩
  simp only [List.nil_append, List.append_nil, List.length_nil, Nat.zero_add] at e1
  have d1 : decide ((20 : Int) ≤ ((X.length : Nat) : Int)) = false := by simp; omega
  have d2 : decide ((20 : Int) < ((X.length : Nat) : Int)) = false := by simp; omega
  have z : (0 : Int) = ((0 : Nat) : Int) := rfl
  simp only [SlicesstableCmpFuncint_v1.loop1, d1, Bool.false_eq_true, if_false, Option.bind_some]
  rw [z, e1]
  simp only [Option.bind_some, SlicesstableCmpFuncint_v1.loop2, d2, Bool.false_eq_true, if_false]
end stable
theorem equal_refl (l : List Int) : SlicesEqualLint l l = some true := by
  have key : ∀ (r : List Int) (k : Nat), l.drop k = r → SlicesEqualLint.loop1 l r k = some (.next ()) := by
    intro r
    induction r with
    | nil => intro k _; rfl
    | cons v r ih =>
      intro k hd
      obtain ⟨d1, d2, d3⟩ := drop_cons hd
      simp only [SlicesEqualLint.loop1, gx_nat, d2, Option.bind_some, bne_self_eq_false, Bool.false_eq_true, if_false]
      exact ih (k + 1) d3
  unfold SlicesEqualLint
  simp [key l 0 rfl]
theorem fares_true (n : Nat) : Fishlaw2fares (n + 60) = some true := by kernel_rfl
theorem within_iff (x a b : Int) : Farewithin x a b = decide (a ≤ x ∧ x ≤ b) := by
  unfold Farewithin bnd
  by_cases h1 : a ≤ x <;> by_cases h2 : x ≤ b <;> simp [h1, h2]
def rng (n : Nat) : List Int := (List.range n).map fun (i : Nat) => (i : Int)
theorem rng_len (n : Nat) : (rng n).length = n := by simp [rng]
theorem rng_mem (n : Nat) (x : Int) : x ∈ rng n ↔ 0 ≤ x ∧ x < n := by
  simp only [rng, List.mem_map, List.mem_range]
  constructor
  · rintro ⟨i, h, rfl⟩; omega
  · intro h; exact ⟨x.toNat, by omega, by omega⟩
theorem rng_lt (n : Nat) : (rng n).Pairwise (· < ·) := by
  unfold rng
  rw [List.pairwise_map]
  exact List.pairwise_lt_range.imp (by intro a b h; omega)

/-! sums and shares -/
def OkL (l : List Int) : Prop := ∀ x ∈ l, 0 ≤ x ∧ x ≤ 10000
theorem sum_in : ∀ l : List Int, OkL l → 0 ≤ l.sum ∧ l.sum ≤ 10000 * l.length
  | [], _ => by simp
  | x :: l, h => by
    have h1 := h x (by simp)
    have h2 := sum_in l (fun y hy => h y (by simp [hy]))
    simp only [List.sum_cons, List.length_cons]; omega
theorem loop1_ok : ∀ (l : List Int) (q : Int), 0 ≤ q → q + 10000 * l.length ≤ 1000000 → (OkL l ∧ FareShares.loop1 l q = .next (q + l.sum) ∧ Fishref2SharesFault.loop1 l q = .next (q + l.sum) ∧ Fishref2SharesOf.loop1 l q = q + l.sum) ∨
    (FareShares.loop1 l q = .ret ([], 2) ∧ Fishref2SharesFault.loop1 l q = .ret 2)
  | [], q, _, _ => .inl ⟨by intro x hx; simp at hx, by simp [FareShares.loop1], by simp [Fishref2SharesFault.loop1], by simp [Fishref2SharesOf.loop1]⟩
  | x :: l, q, h0, h1 => by
    simp only [List.length_cons] at h1
    simp only [FareShares.loop1, Fishref2SharesFault.loop1, Fishref2SharesOf.loop1, show Fishref2within = Farewithin from rfl, within_iff]
    by_cases h : 0 ≤ x ∧ x ≤ 10000
    · rw [w64_id (by omega)]
      simp only [h, and_self, decide_true, Bool.not_true, Bool.false_eq_true, if_false, List.sum_cons]
      rcases loop1_ok l (q + x) (by omega) (by omega) with ⟨a1, a2, a3, a4⟩ | a
      · refine .inl ⟨fun y hy => ?_, by rw [a2]; congr 1; omega, by rw [a3]; congr 1; omega, by rw [a4]; omega⟩
        rcases List.mem_cons.1 hy with rfl | hy
        · exact h
        · exact a1 y hy
      · exact .inr a
    · exact .inr ⟨by simp [h], by simp [h]⟩
def qs (p s : Int) (l : List Int) : List Int := l.map fun x => p * x / s
theorem dv_ok {p s x : Int} (hp : 0 ≤ p ∧ p ≤ 100000) (hs : 0 < s) (hx : 0 ≤ x ∧ x ≤ 10000) : dv (w64 (p * x)) s = some (p * x / s) ∧ 0 ≤ p * x / s ∧ p * x / s ≤ 1000000000 ∧ 0 ≤ p * x ∧ p * x ≤ 1000000000 ∧ rm (w64 (p * x)) s = some (p * x % s) := by
  have h0 : 0 ≤ p * x := Int.mul_nonneg hp.1 hx.1
  have h1 : p * x ≤ 100000 * 10000 := Int.mul_le_mul hp.2 hx.2 hx.1 (by omega)
  have h2 : 0 ≤ p * x / s := Int.ediv_nonneg h0 (by omega)
  have h3 : p * x / s ≤ p * x := Int.ediv_le_self _ h0
  refine ⟨?_, h2, by omega, h0, by omega, ?_⟩
  · rw [w64_id (by omega)]
    unfold dv
    rw [if_neg (by omega), Int.tdiv_eq_ediv_of_nonneg h0]
    exact congrArg some (IntWalk.i64_in _ ⟨by omega, by omega⟩)
  · rw [w64_id (by omega)]
    unfold rm
    rw [if_neg (by omega), Int.tmod_eq_emod_of_nonneg h0]
theorem loop2_ok {p s : Int} (hp : 0 ≤ p ∧ p ≤ 100000) (hs : 0 < s) : ∀ (r : List Int) (k : Nat) (o : List Int) (left : Int), OkL r → o.length = k → k + r.length ≤ 6 → 1000000000 * (r.length : Int) ≤ left + 6000000000 → left ≤ 100000 →
    FareShares.loop2 p s r k o (rng k) left = some (o ++ qs p s r, rng (k + r.length), left - (qs p s r).sum)
  | [], k, o, left, _, _, _, _, _ => by simp [FareShares.loop2, qs]
  | x :: r, k, o, left, hr, ho, hk, hl, hl2 => by
    simp only [List.length_cons] at hk hl
    obtain ⟨d1, d2, d3, _⟩ := dv_ok hp hs (hr x (by simp))
    have a1 : apd o [p * x / s] = some (o ++ [p * x / s]) := apd_lt (by simp; omega)
    have a2 : gx (o ++ [p * x / s]) ((k : Nat) : Int) = some (p * x / s) := gx_mid (by rw [ho])
    have a3 : apd (rng k) [((k : Nat) : Int)] = some (rng (k + 1)) := by
      rw [apd_lt (by simp [rng_len]; omega)]; congr 1
      simp [rng, List.range_succ]
    simp only [FareShares.loop2, d1, a1, a2, a3, Option.bind_some]
    rw [w64_id (by omega), loop2_ok hp hs r (k + 1) _ _ (fun y hy => hr y (by simp [hy])) (by simp; omega) (by omega) (by omega) (by omega)]
    simp only [qs, List.map_cons, List.sum_cons, List.append_assoc, List.cons_append, List.nil_append]
    have e : k + 1 + r.length = k + (x :: r).length := by simp; omega
    rw [e]; congr 3; omega
theorem loop2r_ok {p s : Int} (hp : 0 ≤ p ∧ p ≤ 100000) (hs : 0 < s) : ∀ (r : List Int) (k : Nat) (o : List Int) (g : Int), OkL r → o.length = k → k + r.length ≤ 6 → 0 ≤ g → g + 1000000000 * r.length ≤ 6000000000 →
    Fishref2SharesOf.loop2 p s r k g (o ++ List.replicate r.length 0) = some (g + (qs p s r).sum, o ++ qs p s r)
  | [], k, o, g, _, _, _, _, _ => by simp [Fishref2SharesOf.loop2, qs]
  | x :: r, k, o, g, hr, ho, hk, hg, hg2 => by
    simp only [List.length_cons] at hk hg2
    obtain ⟨d1, d2, d3, _⟩ := dv_ok hp hs (hr x (by simp))
    have e1 : o ++ List.replicate (x :: r).length 0 = o ++ 0 :: List.replicate r.length 0 := by simp [List.replicate_succ]
    have a1 : ix (o ++ 0 :: List.replicate r.length (0 : Int)) ((k : Nat) : Int) = some () := ix_mid (by rw [ho])
    have a2 : sx (o ++ 0 :: List.replicate r.length (0 : Int)) ((k : Nat) : Int) (p * x / s) = some (o ++ (p * x / s) :: List.replicate r.length 0) := sx_mid (by rw [ho])
    have a3 : gx (o ++ (p * x / s) :: List.replicate r.length (0 : Int)) ((k : Nat) : Int) = some (p * x / s) := gx_mid (by rw [ho])
    rw [e1]
    simp only [Fishref2SharesOf.loop2, d1, a1, a2, a3, Option.bind_some]
    have ih := loop2r_ok hp hs r (k + 1) (o ++ [p * x / s]) (g + p * x / s) (fun y hy => hr y (by simp [hy])) (by simp; omega) (by omega) (by omega) (by omega)
    simp only [List.append_assoc, List.cons_append, List.nil_append] at ih
    rw [w64_id (by omega), ih]
    simp only [qs, List.map_cons, List.sum_cons]
    congr 2; omega
/-- what is left is less than the number of parts -/
theorem sum_split (p s : Int) : ∀ l : List Int, p * l.sum = s * (qs p s l).sum + (l.map fun x => p * x % s).sum
  | [] => by simp [qs]
  | x :: l => by
    have ih := sum_split p s l
    have h := Int.emod_add_mul_ediv (p * x) s
    simp only [qs, List.map_cons, List.sum_cons] at ih ⊢
    rw [Int.mul_add, Int.mul_add, ih]; omega
theorem rem_sum (p s : Int) (hs : 0 < s) : ∀ l : List Int, 0 ≤ (l.map fun x => p * x % s).sum ∧ (l ≠ [] → (l.map fun x => p * x % s).sum < s * l.length)
  | [] => by simp
  | x :: l => by
    have ih := rem_sum p s hs l
    have h1 := Int.emod_nonneg (p * x) (show s ≠ 0 by omega)
    have h2 := Int.emod_lt_of_pos (p * x) hs
    simp only [List.map_cons, List.sum_cons, List.length_cons]
    refine ⟨by omega, fun _ => ?_⟩
    have e : s * ((l.length + 1 : Nat) : Int) = s * (l.length : Int) + s := by
      rw [Int.natCast_add, Int.mul_add]; simp
    rw [e]
    cases l with
    | nil => simp; omega
    | cons y l => have := ih.2 (by simp); omega

/-! the order -/
def dOf (p s : Int) (l : List Int) (x : Int) : Int := - (p * l.getD x.toNat 0 % s)
theorem gx_part {l : List Int} {x : Int} (h : 0 ≤ x ∧ x < l.length) : gx l x = some (l.getD x.toNat 0) := by
  unfold gx
  rw [if_pos h.1, List.getD_eq_getElem?_getD, List.getElem?_eq_getElem (by omega)]; rfl
theorem part_in {l : List Int} (hl : OkL l) {x : Int} (h : 0 ≤ x ∧ x < l.length) : 0 ≤ l.getD x.toNat 0 ∧ l.getD x.toNat 0 ≤ 10000 := by
  rw [List.getD_eq_getElem?_getD, List.getElem?_eq_getElem (by omega)]
  exact hl _ (List.getElem_mem _)
theorem cmp_ok {p s : Int} {l : List Int} (hp : 0 ≤ p ∧ p ≤ 100000) (hs : 0 < s) (hl : OkL l) (x y : Int) (hx : 0 ≤ x ∧ x < l.length) (hy : 0 ≤ y ∧ y < l.length) : ∃ c, FareShares_1_v1 x y p l s = some c ∧ (c < 0 ↔ dOf p s l x < dOf p s l y) := by
  unfold FareShares_1_v1
  obtain ⟨_, _, _, _, _, r1⟩ := dv_ok hp hs (part_in hl hx)
  obtain ⟨_, _, _, _, _, r2⟩ := dv_ok hp hs (part_in hl hy)
  rw [gx_part hx, gx_part hy]
  simp only [Option.bind_some, r1, r2]
  refine ⟨_, rfl, ?_⟩
  unfold CmpCompareint CmpisNaNint dOf
  simp only [bne_self_eq_false, Bool.false_eq_true, if_false]
  generalize p * l.getD x.toNat 0 % s = a
  generalize p * l.getD y.toNat 0 % s = b
  by_cases h1 : b < a
  · simp [h1]
  · by_cases h2 : b > a <;> simp [h1, h2] <;> omega

/-! one more each -/
def incs (o : List Int) : List Int → List Int
  | [] => o
  | i :: r => incs (o.set i.toNat (o.getD i.toNat 0 + 1)) r
theorem incs_append (o a b : List Int) : incs o (a ++ b) = incs (incs o a) b := by
  induction a generalizing o with
  | nil => rfl
  | cons x a ih => exact ih _
theorem incs_len : ∀ (r o : List Int), (incs o r).length = o.length
  | [], _ => rfl
  | i :: r, o => by rw [incs, incs_len r]; simp
theorem incs_in : ∀ (r o : List Int) (B : Int), (∀ v ∈ o, 0 ≤ v ∧ v ≤ B) → ∀ v ∈ incs o r, 0 ≤ v ∧ v ≤ B + r.length
  | [], o, B, h => by simpa [incs] using h
  | i :: r, o, B, h => by
    rw [incs]
    have hB : ∀ v ∈ o.set i.toNat (o.getD i.toNat 0 + 1), 0 ≤ v ∧ v ≤ B + 1 := by
      intro v hv
      obtain ⟨j, hj, rfl⟩ := List.mem_iff_getElem.1 hv
      simp only [List.length_set] at hj
      by_cases e : i.toNat = j
      · subst e
        have := h _ (List.getElem_mem hj)
        simp [List.getD_eq_getElem?_getD, hj]; omega
      · rw [List.getElem_set_ne e]; have := h _ (List.getElem_mem hj); omega
    intro v hv
    have := incs_in r _ (B + 1) hB v hv
    simp only [List.length_cons]; omega
theorem loop3_ok : ∀ (r o : List Int) (B : Int), (∀ x ∈ r, 0 ≤ x ∧ x < o.length) → (∀ v ∈ o, 0 ≤ v ∧ v ≤ B) → B + r.length ≤ 6000000000 → FareShares.loop3 r o = some (incs o r)
  | [], o, _, _, _, _ => rfl
  | x :: r, o, B, h, hB, hb => by
    simp only [List.length_cons] at hb
    have hx := h x (by simp)
    have g1 : gx o x = some (o.getD x.toNat 0) := gx_part hx
    have hv : 0 ≤ o.getD x.toNat 0 ∧ o.getD x.toNat 0 ≤ B := by
      rw [List.getD_eq_getElem?_getD, List.getElem?_eq_getElem (by omega)]
      exact hB _ (List.getElem_mem _)
    have w : w64 (o.getD x.toNat 0 + 1) = o.getD x.toNat 0 + 1 := w64_id (by omega)
    simp only [FareShares.loop3, g1, ix_in hx.1 hx.2, sx_in hx.1 hx.2, w, Option.bind_some, incs]
    refine loop3_ok r _ (B + 1) (fun y hy => by have := h y (by simp [hy]); simpa using this) ?_ (by omega)
    intro v hv'
    have := incs_in [x] o B hB v (by simpa [incs] using hv')
    simpa using this
/-- the reference's next one is the next in the order -/
theorem loop4_ok {p s : Int} {l : List Int} (hp : 0 ≤ p ∧ p ≤ 100000) (hs : 0 < s) (hl : OkL l) (hn : l.length ≤ 6) (more : List Bool) (hm : more.length = l.length) : ∀ (r : List Int) (k : Nat) (q : Int), l.drop k = r →
    ((q = -1 ∧ ∀ i : Nat, i < k → more[i]? = some true) ∨ (0 ≤ q ∧ q < k ∧ more[q.toNat]? = some false ∧ ∀ i : Nat, i < k → more[i]? = some false → ¬ Lt (dOf p s l) (i : Int) q)) →
    ∃ q', Fishref2SharesOf.loop4 p l s more r k q = some q' ∧ ((q' = -1 ∧ ∀ i : Nat, i < l.length → more[i]? = some true) ∨ (0 ≤ q' ∧ q' < l.length ∧ more[q'.toNat]? = some false ∧ ∀ i : Nat, i < l.length → more[i]? = some false → ¬ Lt (dOf p s l) (i : Int) q'))
  | [], k, q, hd, h => by
    have hk := List.drop_eq_nil_iff.1 hd
    refine ⟨q, rfl, ?_⟩
    rcases h with ⟨h1, h2⟩ | ⟨h1, h2, h3, h4⟩
    · exact .inl ⟨h1, fun i hi => h2 i (by omega)⟩
    · have hq : q.toNat < l.length := by
        have := (List.getElem?_eq_some_iff.1 h3).1; omega
      exact .inr ⟨h1, by omega, h3, fun i hi => h4 i (by omega)⟩
  | x :: r, k, q, hd, h => by
    obtain ⟨d1, d2, d3⟩ := drop_cons hd
    have hkm : k < more.length := by omega
    have g1 : gx more ((k : Nat) : Int) = some more[k] := gx_at hkm
    have hxk : l.getD ((k : Nat) : Int).toNat 0 = x := by simp [List.getD_eq_getElem?_getD, d2]
    have hkin : 0 ≤ ((k : Nat) : Int) ∧ ((k : Nat) : Int) < l.length := by omega
    have hx := part_in hl hkin
    rw [hxk] at hx
    obtain ⟨_, _, _, _, _, r1⟩ := dv_ok hp hs hx
    have hdk : dOf p s l ((k : Nat) : Int) = - (p * x % s) := by unfold dOf; rw [hxk]
    rw [Fishref2SharesOf.loop4, g1]
    simp only [Option.bind_some, r1, bnd_eq]
    have hmk : more[k]? = some more[k] := List.getElem?_eq_getElem hkm
    cases hmv : more[k] with
    | true =>
      rw [hmv] at hmk
      simp only [Bool.not_true, Bool.false_eq_true, if_false, Option.bind_some]
      refine loop4_ok hp hs hl hn more hm r (k + 1) q d3 ?_
      rcases h with ⟨h1, h2⟩ | ⟨h1, h2, h3, h4⟩
      · refine .inl ⟨h1, fun i hi => ?_⟩
        by_cases e : i = k
        · subst e; exact hmk
        · exact h2 i (by omega)
      · refine .inr ⟨h1, by omega, h3, fun i hi hf => ?_⟩
        by_cases e : i = k
        · subst e; rw [hmk] at hf; cases hf
        · exact h4 i (by omega) hf
    | false =>
      rw [hmv] at hmk
      simp only [Bool.not_false, if_true]
      rcases h with ⟨h1, h2⟩ | ⟨h1, h2, h3, h4⟩
      · subst h1
        have hneg : ((-1 : Int) < 0) := by omega
        simp only [hneg, decide_true, if_true, Option.bind_some]
        refine loop4_ok hp hs hl hn more hm r (k + 1) k d3 (.inr ⟨by omega, by omega, by simpa using hmk, fun i hi hf => ?_⟩)
        by_cases e : i = k
        · subst e; exact fun hh => hh.irr
        · rw [h2 i (by omega)] at hf; cases hf
      · have hneg : ¬ (q < 0) := by omega
        have hqin : 0 ≤ q ∧ q < l.length := by omega
        obtain ⟨_, _, _, _, _, r2⟩ := dv_ok hp hs (part_in hl hqin)
        have hdq : dOf p s l q = - (p * l.getD q.toNat 0 % s) := rfl
        simp only [hneg, decide_false, Bool.false_eq_true, if_false, gx_part hqin, r2, Option.bind_some]
        by_cases hgt : p * x % s > p * l.getD q.toNat 0 % s
        · simp only [hgt, decide_true, if_true]
          refine loop4_ok hp hs hl hn more hm r (k + 1) k d3 (.inr ⟨by omega, by omega, by simpa using hmk, fun i hi hf => ?_⟩)
          by_cases e : i = k
          · subst e; exact fun hh => hh.irr
          · intro hh
            have hkq : Lt (dOf p s l) (k : Int) q := .inl (by omega)
            exact h4 i (by omega) hf (hh.trans hkq)
        · simp only [hgt, decide_false, Bool.false_eq_true, if_false]
          refine loop4_ok hp hs hl hn more hm r (k + 1) q d3 (.inr ⟨h1, by omega, h3, fun i hi hf => ?_⟩)
          by_cases e : i = k
          · subst e
            intro hh
            unfold Lt at hh
            omega
          · exact h4 i (by omega) hf
def ind (n : Nat) (A : List Int) : List Bool := (List.range n).map fun (i : Nat) => A.contains (i : Int)
theorem ind_get (n : Nat) (A : List Int) (i : Nat) (hi : i < n) : (ind n A)[i]? = some (A.contains (i : Int)) := by simp [ind, hi]
theorem ind_nil (n : Nat) : ∀ {A : List Int}, ind n (A.take 0) = List.replicate n false := by
  intro A
  unfold ind
  rw [List.take_zero]
  rw [List.eq_replicate_iff]
  refine ⟨by simp, fun b hb => ?_⟩
  obtain ⟨i, _, rfl⟩ := List.mem_map.1 hb
  rfl
theorem ind_set (n : Nat) (A : List Int) (x : Int) (hx : 0 ≤ x ∧ x < n) : (ind n A).set x.toNat true = ind n (A ++ [x]) := by
  apply List.ext_getElem?
  intro i
  by_cases hi : i < n
  · rw [ind_get n _ i hi]
    by_cases e : x.toNat = i
    · subst e
      have hl : x.toNat < (ind n A).length := by simp [ind]; omega
      have e2 : ((x.toNat : Nat) : Int) = x := by omega
      rw [List.getElem?_set_self hl, e2]; simp
    · rw [List.getElem?_set_ne e, ind_get n _ i hi]
      have e2 : ¬ ((i : Int) = x) := by omega
      simp [e2]
  · have h1 : (ind n A).length = n := by simp [ind]
    have h2 : (ind n (A ++ [x])).length = n := by simp [ind]
    rw [List.getElem?_eq_none (by simp; omega), List.getElem?_eq_none (by omega)]
theorem loop3r_ok {p s : Int} {l : List Int} (hp : 0 ≤ p ∧ p ≤ 100000) (hs : 0 < s) (hl : OkL l) (hn : l.length ≤ 6) (R : List Int) (hR : R.Pairwise (Lt (dOf p s l))) (hlen : R.length = l.length) (hmem : ∀ x, x ∈ R ↔ 0 ≤ x ∧ x < l.length) (left : Nat) (hleft : left ≤ l.length) :
    ∀ (m j fu : Nat) (o : List Int), j + m = left → m < fu → o.length = l.length → (∀ v ∈ o, 0 ≤ v ∧ v ≤ (2000000000 : Int) + (j : Int)) → ∃ a b, Fishref2SharesOf.loop3 p l s fu (p - m) (ind l.length (R.take j)) o = some (a, b, incs o ((R.take left).drop j))
  | 0, j, fu + 1, o, hj, _, _, _ => by
    have e : ((p - ((0 : Nat) : Int)) < p) = False := by simp
    refine ⟨p - ((0 : Nat) : Int), ind l.length (R.take j), ?_⟩
    rw [Fishref2SharesOf.loop3]
    simp only [e, decide_false, Bool.false_eq_true, if_false]
    have : (R.take left).drop j = [] := List.drop_eq_nil_iff.2 (by simp; omega)
    rw [this]; rfl
  | _, _, 0, _, _, h, _, _ => absurd h (by omega)
  | m + 1, j, fu + 1, o, hj, hf, ho, hov => by
    have hjR : j < R.length := by omega
    have hlt : (p - ((m + 1 : Nat) : Int)) < p := by omega
    have hil : (ind l.length (R.take j)).length = l.length := by simp [ind]
    obtain ⟨q, q1, q2⟩ := loop4_ok hp hs hl hn (ind l.length (R.take j)) hil l 0 (-1) rfl (.inl ⟨rfl, fun i hi => absurd hi (by omega)⟩)
    have hRj := (hmem R[j]).1 (List.getElem_mem hjR)
    have hnotin : R[j] ∉ R.take j := by
      intro h
      obtain ⟨i, hi, he⟩ := List.mem_iff_getElem.1 h
      simp only [List.length_take] at hi
      have := List.pairwise_iff_getElem.1 hR i j (by omega) hjR (by omega)
      simp only [List.getElem_take] at he
      rw [he] at this; exact this.irr
    have hfree : (ind l.length (R.take j))[R[j].toNat]? = some false := by
      rw [ind_get _ _ _ (by omega)]
      have e : ((R[j].toNat : Nat) : Int) = R[j] := by omega
      rw [e]; simpa using hnotin
    have hq : q = R[j] := by
      rcases q2 with ⟨_, h2⟩ | ⟨h1, h2, h3, h4⟩
      · have := h2 R[j].toNat (by omega)
        rw [this] at hfree; cases hfree
      · have h5 := h4 R[j].toNat (by omega) hfree
        have e : ((R[j].toNat : Nat) : Int) = R[j] := by omega
        rw [e] at h5
        obtain ⟨i, hi, he⟩ := List.mem_iff_getElem.1 ((hmem q).2 ⟨h1, h2⟩)
        have hij : ¬ i < j := by
          intro hlt
          have hmemq : q ∈ R.take j := by rw [← he]; exact List.mem_take_iff_getElem.2 ⟨i, by omega, rfl⟩
          rw [ind_get _ _ _ (by omega)] at h3
          have e2 : ((q.toNat : Nat) : Int) = q := by omega
          rw [e2] at h3
          simp [hmemq] at h3
        by_cases e3 : i = j
        · subst e3; exact he.symm
        · have := List.pairwise_iff_getElem.1 hR j i hjR hi (by omega)
          rw [he] at this; exact absurd this h5
    subst hq
    have hiq : (0 : Int) ≤ R[j] ∧ R[j] < ((ind l.length (R.take j)).length : Int) := by rw [hil]; exact hRj
    have hoq : (0 : Int) ≤ R[j] ∧ R[j] < (o.length : Int) := by rw [ho]; exact hRj
    have hv : 0 ≤ o.getD R[j].toNat 0 ∧ o.getD R[j].toNat 0 ≤ 2000000000 + j := by
      rw [List.getD_eq_getElem?_getD, List.getElem?_eq_getElem (by omega)]
      exact hov _ (List.getElem_mem _)
    have w1 : w64 (o.getD R[j].toNat 0 + 1) = o.getD R[j].toNat 0 + 1 := w64_id (by omega)
    have w2 : w64 (p - ((m + 1 : Nat) : Int) + 1) = p - (m : Int) := by rw [w64_id (by omega)]; omega
    rw [Fishref2SharesOf.loop3]
    simp only [hlt, decide_true, if_true, q1, Option.bind_some, ix_in hiq.1 hiq.2, sx_in hiq.1 hiq.2, gx_part hoq, ix_in hoq.1 hoq.2, sx_in hoq.1 hoq.2, w1, w2, ind_set _ _ _ hRj]
    have htk : R.take j ++ [R[j]] = R.take (j + 1) := (List.take_succ_eq_append_getElem hjR).symm
    rw [htk]
    obtain ⟨a, b, ih⟩ := loop3r_ok hp hs hl hn R hR hlen hmem left hleft m (j + 1) fu (o.set R[j].toNat (o.getD R[j].toNat 0 + 1)) (by omega) (by omega) (by simpa using ho) (by
      intro v hv'
      have := incs_in [R[j]] o (2000000000 + j) hov v (by simpa [incs] using hv')
      simp at this; omega)
    refine ⟨a, b, ?_⟩
    rw [ih]
    have hd : (R.take left).drop j = R[j] :: (R.take left).drop (j + 1) := by
      rw [List.drop_eq_getElem_cons (by simp; omega)]; simp
    rw [hd, incs]

theorem shares_ref (fu : Nat) (hf : 100 ≤ fu) (p : Int) (l : List Int) : ∃ e x, FareShares fu p l = some (x, e) ∧ e = Fishref2SharesFault p l ∧ (e ≠ 0 → x = []) ∧ (e = 0 → Fishref2SharesOf fu p l = some x) := by
  unfold FareShares Fishref2SharesFault
  simp only [show Fishref2within = Farewithin from rfl, within_iff]
  by_cases hp : 0 ≤ p ∧ p ≤ 100000
  · by_cases hn : 1 ≤ ((l.length : Nat) : Int) ∧ ((l.length : Nat) : Int) ≤ 6
    · simp only [hp, hn, and_self, decide_true, Bool.not_true, Bool.false_eq_true, if_false, bnd_eq]
      rcases loop1_ok l 0 (by omega) (by omega) with ⟨hl, a1, a2, a3⟩ | ⟨a1, a2⟩
      · rw [a1, a2]
        simp only [Int.zero_add]
        by_cases h0 : l.sum = 0
        · refine ⟨1, [], by simp [h0], by simp [h0], fun _ => rfl, fun h => by omega⟩
        · have hsum := sum_in l hl
          have hs : 0 < l.sum := by omega
          have e0 : (l.sum == 0) = false := by simpa using h0
          simp only [e0, Bool.false_eq_true, if_false]
          have b1 := loop2_ok hp hs l 0 [] p hl rfl (by omega) (by omega) (by omega)
          have hq := sum_split p l.sum l
          have hr := rem_sum p l.sum hs l
          have hne : l ≠ [] := by intro h; subst h; simp at hn
          have hr2 := hr.2 hne
          have hleft0 : 0 ≤ p - (qs p l.sum l).sum := by
            have : 0 ≤ l.sum * (p - (qs p l.sum l).sum) := by rw [Int.mul_sub, Int.mul_comm l.sum p]; omega
            by_cases h : 0 ≤ p - (qs p l.sum l).sum
            · exact h
            · have := Int.mul_neg_of_pos_of_neg hs (show p - (qs p l.sum l).sum < 0 by omega); omega
          have hleft1 : p - (qs p l.sum l).sum < l.length := by
            have : l.sum * (p - (qs p l.sum l).sum) < l.sum * l.length := by rw [Int.mul_sub, Int.mul_comm l.sum p]; omega
            exact Int.lt_of_mul_lt_mul_left this (by omega)
          obtain ⟨left, hleft⟩ : ∃ n : Nat, p - (qs p l.sum l).sum = (n : Int) := ⟨(p - (qs p l.sum l).sum).toNat, by omega⟩
          obtain ⟨R, r1, r2, r3⟩ := stable_ok (V := fun x => 0 ≤ x ∧ x < l.length) (D := dOf p l.sum l) (fun x y hx hy => cmp_ok hp hs hl x y hx hy) (fu := fu) (by omega) (X := rng l.length) (by rw [rng_len]; omega) (fun y hy => (rng_mem _ _).1 hy) (rng_lt _)
          have hlen : R.length = l.length := by rw [r2.length_eq, rng_len]
          have hmem : ∀ x, x ∈ R ↔ 0 ≤ x ∧ x < l.length := fun x => by rw [r2.mem_iff, rng_mem]
          have hcut : cutl R 0 (left : Int) = some (R.take left) := by rw [cutl_in (by omega) (by omega) (by omega)]; simp
          have hqlen : (qs p l.sum l).length = l.length := by simp [qs]
          have hqin : ∀ v ∈ qs p l.sum l, 0 ≤ v ∧ v ≤ 2000000000 := by
            intro v hv
            obtain ⟨x, hx, rfl⟩ := List.mem_map.1 hv
            obtain ⟨_, d2, d3, _⟩ := dv_ok hp hs (hl x hx)
            omega
          have c1 := loop3_ok (R.take left) (qs p l.sum l) 2000000000 (fun x hx => by rw [hqlen]; exact (hmem x).1 (List.mem_of_mem_take hx)) hqin (by simp; omega)
          have b1' : FareShares.loop2 p l.sum l 0 [] [] p = some (qs p l.sum l, rng l.length, (left : Int)) := by
            have := b1
            simp only [Nat.zero_add, List.nil_append, hleft] at this
            exact this
          refine ⟨0, incs (qs p l.sum l) (R.take left), ?_, by simp, fun h => absurd rfl h, fun _ => ?_⟩
          · rw [b1']
            simp only [Option.bind_some, r1, hcut, c1]
          · unfold Fishref2SharesOf
            have m1 : mks ((l.length : Nat) : Int) (0 : Int) = some (List.replicate l.length 0) := mks_in (by omega) 0
            have m2 : mks ((l.length : Nat) : Int) false = some (ind l.length (R.take 0)) := by
              rw [mks_in (by omega)]; exact congrArg some (ind_nil _).symm
            have b2 := loop2r_ok hp hs l 0 [] 0 hl rfl (by omega) (by omega) (by omega)
            simp only [List.nil_append, Int.zero_add] at b2
            have hg : (qs p l.sum l).sum = p - left := by omega
            obtain ⟨a, b, c2⟩ := loop3r_ok hp hs hl (by omega) R r3 hlen hmem left (by omega) left 0 fu (qs p l.sum l) (by omega) (by omega) hqlen (fun v hv => by have hz := hqin v hv; exact ⟨hz.1, by omega⟩)
            simp only [a3, Int.zero_add, bnd_eq, m1, m2, b2, hg, Option.bind_some, c2, List.drop_zero]
      · rw [a1, a2]
        exact ⟨2, [], rfl, rfl, fun _ => rfl, fun h => by omega⟩
    · refine ⟨4, [], by simp [hp, hn], by simp [hp, hn], fun _ => rfl, fun h => by omega⟩
  · refine ⟨2, [], by simp [hp], by simp [hp], fun _ => rfl, fun h => by omega⟩

theorem FareShares_law (p : Int) (l : List Int) (_ : -9223372036854775808 ≤ p ∧ p ≤ 9223372036854775807) (_ : l.length ≤ 9223372036854775807) : ∃ fu, Fishlaw2FareShares fu p l = some true := by
  refine ⟨100 + 60, ?_⟩
  unfold Fishlaw2FareShares
  rw [fares_true]
  obtain ⟨e, x, h1, h2, h3, h4⟩ := shares_ref (100 + 60) (by omega) p l
  rw [h1, ← h2]
  by_cases h : e = 0
  · subst h
    rw [h4 rfl]
    simp [equal_refl]
  · have := h3 h
    subst this
    simp [h]

end Go.Fp
