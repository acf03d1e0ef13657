/- FleetDuties: the mirror of the law is true of all tasks and limits. -/
import Derived.Test.YtfhkpdnohcidgaaFleetDutiesM
import Derived.Test.YtfhkpdnohcidgaaFpPlain
import Derived.KernelRfl
namespace Go.Fp

/-! comparisons, and lists compared -/
structure GC {α : Type} (c : α → α → Int) : Prop where
  refl : ∀ a, c a a = 0
  zero : ∀ a b, c a b = 0 → a = b
  anti : ∀ a b, c a b < 0 → 0 < c b a
  anti' : ∀ a b, 0 < c a b → c b a < 0
  trans : ∀ a b d, c a b < 0 → c b d < 0 → c a d < 0
def icmp (a b : Int) : Int := if a < b then -1 else if a > b then 1 else 0
theorem icmp_lt {a b : Int} : icmp a b < 0 ↔ a < b := by
  unfold icmp; split
  · simp [*]
  · split
    · simp; omega
    · simp; omega
theorem icmp_gc : GC icmp where
  refl a := by simp [icmp]
  zero a b h := by
    unfold icmp at h; split at h
    · omega
    · split at h
      · omega
      · omega
  anti a b h := by
    have := icmp_lt.1 h
    unfold icmp; rw [if_neg (by omega), if_pos (by omega)]; omega
  anti' a b h := by
    refine icmp_lt.2 ?_
    unfold icmp at h; split at h
    · omega
    · split at h
      · omega
      · omega
  trans a b d h k := icmp_lt.2 (by have := icmp_lt.1 h; have := icmp_lt.1 k; omega)
def lcmp {α : Type} (c : α → α → Int) : List α → List α → Int
  | [], [] => 0
  | [], _ :: _ => -1
  | _ :: _, [] => 1
  | a :: r, b :: s => if c a b ≠ 0 then c a b else lcmp c r s
section
variable {α : Type} {c : α → α → Int} (hc : GC c)
include hc
theorem lcmp_refl : ∀ a, lcmp c a a = 0
  | [] => rfl
  | x :: a => by simp only [lcmp, hc.refl, ne_eq, not_true, if_false]; exact lcmp_refl a
theorem lcmp_zero : ∀ a b, lcmp c a b = 0 → a = b
  | [], [], _ => rfl
  | [], _ :: _, h => by simp [lcmp] at h
  | _ :: _, [], h => by simp [lcmp] at h
  | x :: a, y :: b, h => by
    simp only [lcmp] at h
    by_cases e : c x y = 0
    · rw [if_neg (by simpa using e)] at h
      rw [hc.zero _ _ e, lcmp_zero a b h]
    · rw [if_pos e] at h; exact absurd h e
theorem GC.zero' {a b : α} (h : c a b = 0) : c b a = 0 := by rw [hc.zero _ _ h]; exact hc.refl _
theorem GC.ne' {a b : α} (h : c a b ≠ 0) : c b a ≠ 0 := fun k => h (hc.zero' k)
theorem lcmp_anti : ∀ a b, lcmp c a b < 0 → 0 < lcmp c b a
  | [], [], h => by simp [lcmp] at h
  | [], _ :: _, _ => by simp [lcmp]
  | _ :: _, [], h => by simp [lcmp] at h
  | x :: a, y :: b, h => by
    simp only [lcmp] at h ⊢
    by_cases e : c x y = 0
    · rw [if_neg (by simpa using e)] at h
      rw [if_neg (by simpa using hc.zero' e)]; exact lcmp_anti a b h
    · rw [if_pos e] at h; rw [if_pos (hc.ne' e)]; exact hc.anti _ _ h
theorem lcmp_anti' : ∀ a b, 0 < lcmp c a b → lcmp c b a < 0
  | [], [], h => by simp [lcmp] at h
  | [], _ :: _, h => by simp [lcmp] at h
  | _ :: _, [], _ => by simp [lcmp]
  | x :: a, y :: b, h => by
    simp only [lcmp] at h ⊢
    by_cases e : c x y = 0
    · rw [if_neg (by simpa using e)] at h
      rw [if_neg (by simpa using hc.zero' e)]; exact lcmp_anti' a b h
    · rw [if_pos e] at h; rw [if_pos (hc.ne' e)]; exact hc.anti' _ _ h
theorem lcmp_trans : ∀ a b d, lcmp c a b < 0 → lcmp c b d < 0 → lcmp c a d < 0
  | [], _, [], h, k => by
    rename_i b
    cases b with
    | nil => simp [lcmp] at h
    | cons _ _ => simp [lcmp] at k
  | [], _, _ :: _, _, _ => by simp [lcmp]
  | _ :: _, [], _, h, _ => by simp [lcmp] at h
  | _ :: _, _ :: _, [], _, k => by simp [lcmp] at k
  | x :: a, y :: b, z :: d, h, k => by
    simp only [lcmp] at h k ⊢
    by_cases e : c x y = 0
    · have e' := hc.zero _ _ e
      subst e'
      rw [if_neg (by simpa using e)] at h
      by_cases f : c x z = 0
      · rw [if_neg (by simpa using f)] at k ⊢; exact lcmp_trans a b d h k
      · rw [if_pos f] at k ⊢; exact k
    · rw [if_pos e] at h
      by_cases f : c y z = 0
      · have f' := hc.zero _ _ f
        subst f'
        rw [if_pos e]; exact h
      · rw [if_pos f] at k
        have g := hc.trans _ _ _ h k
        rw [if_pos (by omega)]; exact g
theorem lcmp_gc : GC (lcmp c) := ⟨lcmp_refl hc, lcmp_zero hc, lcmp_anti hc, lcmp_anti' hc, lcmp_trans hc⟩
theorem GC.le_trans {a b d : α} (h : c a b ≤ 0) (k : c b d ≤ 0) : c a d ≤ 0 := by
  by_cases e : c a b = 0
  · rw [hc.zero _ _ e]; exact k
  · by_cases f : c b d = 0
    · rw [← hc.zero _ _ f]; exact h
    · have := hc.trans a b d (by omega) (by omega); omega
theorem GC.le_anti {a b : α} (h : c a b ≤ 0) (k : c b a ≤ 0) : a = b := by
  by_cases e : c a b = 0
  · exact hc.zero _ _ e
  · have := hc.anti a b (by omega); omega
theorem GC.le_of_not {a b : α} (h : ¬ c a b < 0) : c b a ≤ 0 := by
  by_cases e : c a b = 0
  · have := hc.zero' e; omega
  · have := hc.anti' a b (by omega); omega
theorem GC.not_lt {a b : α} (h : c a b ≤ 0) : ¬ c b a < 0 := fun k => by have := hc.anti _ _ k; omega
/-- a common front is no matter -/
theorem lcmp_front (p : List α) : ∀ a b, lcmp c (p ++ a) (p ++ b) = lcmp c a b := by
  induction p with
  | nil => intro a b; rfl
  | cons x p ih => intro a b; simp only [List.cons_append, lcmp, hc.refl, ne_eq, not_true, if_false]; exact ih a b
end
def lcp : List Int → List Int → Int := lcmp icmp
def llc : List (List Int) → List (List Int) → Int := lcmp lcp
theorem lcp_gc : GC lcp := lcmp_gc icmp_gc
theorem llc_gc : GC llc := lcmp_gc lcp_gc
theorem cmp_icmp (a b : Int) : CmpCompareint a b = icmp a b := by
  unfold CmpCompareint CmpisNaNint icmp
  simp
theorem compare_v (a b : List Int) : SlicesCompareLint a b = some (lcp a b) := by
  unfold SlicesCompareLint
  have key : ∀ (r s : List Int) (k : Nat), b.drop k = s → k + s.length = b.length → k + r.length = a.length →
      ((SlicesCompareLint.loop1 b r k).bind fun q52 => match q52 with | .ret r => some r | .next () => (if decide (((a).length : Int) < ((b).length : Int)) then some (-1) else some 0)) = some (lcp r s) := by
    intro r
    induction r with
    | nil =>
      intro s k _ h1 h2
      simp only [SlicesCompareLint.loop1, Option.bind_some]
      cases s with
      | nil => simp only [List.length_nil] at h1 h2; rw [if_neg (by simp; omega)]; rfl
      | cons y s => simp only [List.length_nil, List.length_cons] at h1 h2; rw [if_pos (by simp; omega)]; rfl
    | cons x r ih =>
      intro s k h0 h1 h2
      rw [SlicesCompareLint.loop1]
      cases s with
      | nil => simp only [List.length_nil] at h1; rw [if_pos (by simp; omega)]; rfl
      | cons y s =>
        simp only [List.length_cons] at h1 h2
        have hk : k < b.length := by omega
        rw [List.drop_eq_getElem_cons hk] at h0
        injection h0 with e1 e2
        rw [if_neg (by simp; omega), gx_at hk, Option.bind_some, e1, cmp_icmp]
        unfold lcp
        simp only [lcmp]
        by_cases e : icmp x y = 0
        · simp only [e, bne_self_eq_false, Bool.false_eq_true, if_false, ne_eq, not_true]
          exact ih s (k + 1) e2 (by omega) (by omega)
        · have : (icmp x y != 0) = true := by simpa using e
          simp only [this, if_true, Option.bind_some]
          rw [if_pos e]
  exact key a b 0 rfl (by simp) (by simp)
theorem comparef_v (a b : List (List Int)) : SlicesCompareFuncLLint_v1 a b = some (llc a b) := by
  unfold SlicesCompareFuncLLint_v1
  have key : ∀ (r s : List (List Int)) (k : Nat), b.drop k = s → k + s.length = b.length → k + r.length = a.length →
      ((SlicesCompareFuncLLint_v1.loop1 b r k).bind fun q52 => match q52 with | .ret r => some r | .next () => (if decide (((a).length : Int) < ((b).length : Int)) then some (-1) else some 0)) = some (llc r s) := by
    intro r
    induction r with
    | nil =>
      intro s k _ h1 h2
      simp only [SlicesCompareFuncLLint_v1.loop1, Option.bind_some]
      cases s with
      | nil => simp only [List.length_nil] at h1 h2; rw [if_neg (by simp; omega)]; rfl
      | cons y s => simp only [List.length_nil, List.length_cons] at h1 h2; rw [if_pos (by simp; omega)]; rfl
    | cons x r ih =>
      intro s k h0 h1 h2
      rw [SlicesCompareFuncLLint_v1.loop1]
      cases s with
      | nil => simp only [List.length_nil] at h1; rw [if_pos (by simp; omega)]; rfl
      | cons y s =>
        simp only [List.length_cons] at h1 h2
        have hk : k < b.length := by omega
        rw [List.drop_eq_getElem_cons hk] at h0
        injection h0 with e1 e2
        rw [if_neg (by simp; omega), gx_at hk, Option.bind_some, compare_v x b[k], Option.bind_some, e1]
        unfold llc
        simp only [lcmp]
        by_cases e : lcp x y = 0
        · simp only [e, bne_self_eq_false, Bool.false_eq_true, if_false, ne_eq, not_true]
          exact ih s (k + 1) e2 (by omega) (by omega)
        · have : (lcp x y != 0) = true := by simpa using e
          simp only [this, if_true, Option.bind_some]
          rw [if_pos e]
  exact key a b 0 rfl (by simp) (by simp)
/-! slices.SortFunc of lists, up to twelve of them -/
def ple (x y : List Int) : Prop := lcp x y ≤ 0
theorem s_l2 : ∀ (j : Nat) (A : List (List Int)) (x : List Int) (B : List (List Int)) (m : Nat), A.length = j → j < m → A.length + B.length < 1000 →
    ∃ q D, SlicesinsertionSortCmpFuncLint_v1.loop2 0 m ((j : Nat) : Int) (A ++ x :: B) = some (q, D ++ B) ∧ D.Perm (A ++ [x]) ∧ (A.Pairwise ple → D.Pairwise ple)
  | 0, A, x, B, m, hA, hm, _ => by
    obtain ⟨m, rfl⟩ : ∃ z, m = z + 1 := ⟨m - 1, by omega⟩
    have : A = [] := List.eq_nil_of_length_eq_zero hA
    subst this
    rw [SlicesinsertionSortCmpFuncLint_v1.loop2]
    have h0 : ¬ (((0 : Nat) : Int) > 0) := by omega
    simp only [h0, decide_false, Bool.false_eq_true, if_false, Option.bind_some]
    exact ⟨_, [x], rfl, List.Perm.refl _, fun _ => by simp⟩
  | j + 1, A, x, B, m, hA, hm, hlen => by
    obtain ⟨m, rfl⟩ : ∃ z, m = z + 1 := ⟨m - 1, by omega⟩
    have hne : A ≠ [] := by intro h; rw [h] at hA; simp at hA
    obtain ⟨A', y, rfl⟩ : ∃ A' y, A = A' ++ [y] := ⟨A.dropLast, A.getLast hne, (List.dropLast_concat_getLast hne).symm⟩
    have hA' : A'.length = j := by simpa using hA
    subst hA'
    simp only [List.length_append, List.length_cons, List.length_nil] at hlen
    have e : A' ++ [y] ++ x :: B = A' ++ y :: x :: B := by simp
    rw [e, SlicesinsertionSortCmpFuncLint_v1.loop2]
    have h0 : (((A'.length + 1 : Nat) : Int) > 0) := by omega
    have hw : w64 (((A'.length + 1 : Nat) : Int) - 1) = ((A'.length : Nat) : Int) := by rw [w64_id (by omega)]; omega
    have g1 : gx (A' ++ y :: x :: B) ((A'.length + 1 : Nat) : Int) = some x := by
      rw [gx_nat, List.getElem?_append_right (by omega)]; simp
    have g2 : gx (A' ++ y :: x :: B) ((A'.length : Nat) : Int) = some y := by
      rw [gx_nat, List.getElem?_append_right (Nat.le_refl _)]; simp
    simp only [h0, decide_true, if_true, hw, g1, g2, compare_v, Option.bind_some]
    by_cases hlt : lcp x y < 0
    · simp only [hlt, decide_true, if_true]
      have i1 : ix (A' ++ y :: x :: B) ((A'.length + 1 : Nat) : Int) = some () := ix_in (by omega) (by simp; omega)
      have s1 : sx (A' ++ y :: x :: B) ((A'.length + 1 : Nat) : Int) y = some (A' ++ y :: y :: B) := by
        rw [sx_in (by omega) (by simp; omega), Int.toNat_natCast, List.set_append_right _ _ (by omega)]
        have : A'.length + 1 - A'.length = 1 := by omega
        rw [this]; rfl
      have i2 : ix (A' ++ y :: y :: B) ((A'.length : Nat) : Int) = some () := ix_in (by omega) (by simp; omega)
      have s2 : sx (A' ++ y :: y :: B) ((A'.length : Nat) : Int) x = some (A' ++ x :: y :: B) := by
        rw [sx_in (by omega) (by simp; omega), Int.toNat_natCast, List.set_append_right _ _ (Nat.le_refl _), Nat.sub_self]; rfl
      simp only [i1, s1, i2, s2, Option.bind_some]
      obtain ⟨q, D, d1, d2, d3⟩ := s_l2 A'.length A' x (y :: B) m rfl (by omega) (by simp; omega)
      refine ⟨q, D ++ [y], by rw [d1]; simp, ?_, fun hP => ?_⟩
      · refine (d2.append_right [y]).trans ?_
        rw [List.append_assoc, List.append_assoc]
        exact List.Perm.append_left _ (List.Perm.swap _ _ _)
      · rw [List.pairwise_append] at hP ⊢
        refine ⟨d3 hP.1, by simp, fun a ha b hb => ?_⟩
        obtain rfl : b = y := by simpa using hb
        have ha' := d2.mem_iff.1 ha
        rcases List.mem_append.1 ha' with h | h
        · exact hP.2.2 a h b (by simp)
        · obtain rfl : a = x := by simpa using h
          unfold ple; omega
    · simp only [hlt, decide_false, Bool.false_eq_true, if_false]
      refine ⟨((A'.length + 1 : Nat) : Int), A' ++ [y] ++ [x], by simp, List.Perm.refl _, fun hP => ?_⟩
      rw [List.pairwise_append]
      refine ⟨hP, by simp, fun a ha b hb => ?_⟩
      obtain rfl : b = x := by simpa using hb
      have hyb : ple y b := lcp_gc.le_of_not hlt
      rw [List.pairwise_append] at hP
      rcases List.mem_append.1 ha with h | h
      · exact lcp_gc.le_trans (hP.2.2 a h y (by simp)) hyb
      · obtain rfl : a = y := by simpa using h
        exact hyb
theorem s_l1 (fu : Nat) (hf : 2000 ≤ fu) : ∀ (rest S : List (List Int)) (m : Nat), S.Pairwise ple → rest.length < m → S.length + rest.length < 1000 →
    ∃ q D, SlicesinsertionSortCmpFuncLint_v1.loop1 0 (((S ++ rest).length : Nat) : Int) fu m ((S.length : Nat) : Int) (S ++ rest) = some (q, D) ∧ D.Perm (S ++ rest) ∧ D.Pairwise ple
  | [], S, m, hS, hm, _ => by
    obtain ⟨m, rfl⟩ : ∃ z, m = z + 1 := ⟨m - 1, by omega⟩
    rw [SlicesinsertionSortCmpFuncLint_v1.loop1]
    have h0 : ¬ (((S.length : Nat) : Int) < (((S ++ []).length : Nat) : Int)) := by simp
    simp only [h0, decide_false, Bool.false_eq_true, if_false]
    exact ⟨_, S ++ [], rfl, List.Perm.refl _, by simpa using hS⟩
  | x :: rest, S, m, hS, hm, hlen => by
    simp only [List.length_cons] at hm hlen
    obtain ⟨m, rfl⟩ : ∃ z, m = z + 1 := ⟨m - 1, by omega⟩
    rw [SlicesinsertionSortCmpFuncLint_v1.loop1]
    have h0 : (((S.length : Nat) : Int) < (((S ++ x :: rest).length : Nat) : Int)) := by simp; omega
    obtain ⟨q, D, d1, d2, d3⟩ := s_l2 S.length S x rest fu rfl (by omega) (by omega)
    simp only [h0, decide_true, if_true, d1, Option.bind_some]
    have hDl : D.length = S.length + 1 := by have := d2.length_eq; simpa using this
    have hw : w64 ((S.length : Int) + 1) = ((D.length : Nat) : Int) := by rw [w64_id (by omega)]; omega
    obtain ⟨q', E, e1, e2, e3⟩ := s_l1 fu hf rest D m (d3 hS) (by omega) (by omega)
    have hll : (S ++ x :: rest).length = (D ++ rest).length := by simp; omega
    rw [hw, hll]
    refine ⟨q', E, e1, e2.trans ?_, e3⟩
    have := d2.append_right rest
    simpa using this
theorem len_some : ∀ k : Fin 13, (MathBitsLen (IntKind.wrap .u64 (((k.val : Nat) : Int)))).isSome = true := by decide +kernel
theorem sort_ok (l : List (List Int)) (hl : l.length ≤ 12) (fu : Nat) (hf : 2000 ≤ fu) : ∃ D, SlicesSortFuncLLint_v1 fu l = some D ∧ D.Perm l ∧ D.Pairwise ple := by
  obtain ⟨fu, rfl⟩ : ∃ z, fu = z + 1 := ⟨fu - 1, by omega⟩
  unfold SlicesSortFuncLLint_v1
  obtain ⟨z, hz⟩ := Option.isSome_iff_exists.1 (len_some ⟨l.length, by omega⟩)
  simp only at hz
  rw [hz]
  simp only [Option.bind_some]
  unfold SlicespdqsortCmpFuncLint_v1
  rw [SlicespdqsortCmpFuncLint_v1.loop1]
  have hw : w64 ((l.length : Int) - 0) = l.length := by rw [w64_id (by omega)]; omega
  have h12 : ((l.length : Nat) : Int) ≤ 12 := by omega
  simp only [hw, h12, decide_true, if_true]
  have hins : ∃ D, SlicesinsertionSortCmpFuncLint_v1 (fu + 1) l 0 ((l.length : Nat) : Int) = some D ∧ D.Perm l ∧ D.Pairwise ple := by
    unfold SlicesinsertionSortCmpFuncLint_v1
    have hw1 : w64 ((0 : Int) + 1) = 1 := w64_id (by omega)
    rw [hw1]
    cases l with
    | nil =>
      rw [SlicesinsertionSortCmpFuncLint_v1.loop1]
      exact ⟨[], rfl, List.Perm.refl _, List.Pairwise.nil⟩
    | cons x r =>
      obtain ⟨q, D, d1, d2, d3⟩ := s_l1 (fu + 1) hf r [x] (fu + 1) (by simp) (by simp at hl; omega) (by simp at hl ⊢; omega)
      have d1' : SlicesinsertionSortCmpFuncLint_v1.loop1 0 (((x :: r).length : Nat) : Int) (fu + 1) (fu + 1) 1 (x :: r) = some (q, D) := d1
      rw [d1']
      exact ⟨D, rfl, d2, d3⟩
  obtain ⟨D, d1, d2, d3⟩ := hins
  rw [d1]
  exact ⟨D, rfl, d2, d3⟩
def bad4 (x : FleetLimits) (a g : Int) : Bool := decide (w64 (a - g) > x.After)

/-- one pass or two -/
theorem judge_pass (l : List FleetTask) (d : List Int) (x : FleetLimits) (hd : d.length ≤ 9223372036854775807) (hall : ∀ i ∈ d, 0 ≤ i ∧ i < l.length) :
    ∀ (r : List Int) (pre : List Int) (p : Int) (k : Nat) (w b g : Int), d = pre ++ p :: r → k = pre.length + 1 → b = 0 ∨ b = 4 →
      (Fishref2Code.loop1 l d x r k w = some (.ret 1) ∧ Fleetjudge.loop1 l d x r k w b g = some (.ret 1)) ∨
      ∃ w' b' g', Fishref2Code.loop1 l d x r k w = some (.next w') ∧ Fleetjudge.loop1 l d x r k w b g = some (.next (w', b', g')) ∧
        (b = 4 → b' = 4) ∧ (b' = 0 ∨ b' = 4) ∧ ∀ t, gx l ((p :: r).getLast (by simp)) = some t → b = 0 →
          Fishref2Code.loop2 l d x (p :: r) (k - 1) g = some (if (b' == 4 || bad4 x t.Arr g') then .ret 4 else .next g')
  | [], pre, p, k, w, b, g, hdd, hk, hb => by
    refine .inr ⟨w, b, g, rfl, rfl, id, hb, ?_⟩
    intro t ht hb0
    subst hb0
    have hlen : d.length = pre.length + 1 := by rw [hdd]; simp
    simp only [List.getLast_singleton] at ht
    have hk1 : k - 1 = pre.length := by omega
    have e1 : ((pre.length + 1 : Nat) : Int) < (d.length : Int) ↔ False := by rw [hlen]; simp
    have e2 : (((pre.length + 1 : Nat) : Int) == (d.length : Int)) = true := by rw [hlen]; simp
    rw [hk1]
    simp only [Fishref2Code.loop2, e1, e2, decide_false, Option.bind_some, if_true, ht, if_false, Bool.false_eq_true]
    simp only [bad4]
    by_cases h : w64 (t.Arr - g) > x.After <;> simp [h]
  | q :: r, pre, p, k, w, b, g, hdd, hk, hb => by
    have hlen : d.length = pre.length + 2 + r.length := by rw [hdd]; simp; omega
    have hq : 0 ≤ q ∧ q < l.length := hall q (by rw [hdd]; simp)
    have hp : 0 ≤ p ∧ p < l.length := hall p (by rw [hdd]; simp)
    obtain ⟨tq, gq, _⟩ := gx_in hq.1 hq.2
    obtain ⟨tp, gp, _⟩ := gx_in hp.1 hp.2
    have hdp : d[pre.length]? = some p := by rw [hdd]; simp
    have hdq : d[pre.length + 1]? = some q := by rw [hdd, List.getElem?_append_right (by omega)]; simp
    have hk0 : ((k : Nat) : Int) - 1 = ((pre.length : Nat) : Int) := by omega
    have hw : w64 (((k : Nat) : Int) - 1) = ((pre.length : Nat) : Int) := by rw [hk0]; exact w64_id (by omega)
    have hk2 : (((k : Nat) : Int) == 0) = false := by simp; omega
    have hk3 : ((k : Nat) : Int) > 0 := by omega
    have hk4 : k - 1 + 1 = k := by omega
    have hk5 : k = pre.length + 1 := hk
    have e1 : (((pre.length + 1 : Nat) : Nat) : Int) < (d.length : Int) := by rw [hlen]; omega
    have e2 : ((((pre.length + 1 : Nat) : Nat) : Int) == (d.length : Int)) = false := by rw [hlen]; simp; omega
    simp only [Fishref2Code.loop1, Fleetjudge.loop1, gq, Option.bind_some, hw, gx_nat, hdp, gp, hk2, hk3, decide_true, if_true, Bool.false_eq_true, if_false, bnd_eq]
    by_cases hc : (tp.To != tq.From) = true
    · left
      have hc' : (tq.From != tp.To) = true := by simp at hc ⊢; exact fun h => hc h.symm
      simp [hc, hc']
    · have hc1 : (tp.To != tq.From) = false := by simpa using hc
      have hc2 : (tq.From != tp.To) = false := by simp at hc ⊢; exact hc.symm
      simp only [hc1, hc2, if_false, Bool.false_eq_true, Option.bind_some]
      by_cases hd2 : tq.Dep < w64 (tp.Arr + x.Change)
      · left; simp [hd2]
      · simp only [hd2, decide_false, if_false, Bool.false_eq_true, Option.bind_some]
        have ih := judge_pass l d x hd hall r (pre ++ [p]) q (k + 1) (w64 (w + w64 (tq.Arr - tq.Dep)))
        by_cases hbr : w64 (tq.Dep - tp.Arr) ≥ x.Break
        · simp only [hbr, decide_true, if_true]
          have e3 : Fleetjudge_1_v1 tp.Arr g x b = if bad4 x tp.Arr g then 4 else b := by simp [Fleetjudge_1_v1, bad4, bnd_eq]
          rw [e3]
          rcases ih (if bad4 x tp.Arr g then 4 else b) tq.Dep (by rw [hdd]; simp) (by simp; omega) (by split <;> simp [hb]) with h | ⟨w', b', g', h1, h2, h3, h4, h5⟩
          · exact .inl h
          · refine .inr ⟨w', b', g', h1, h2, ?_, h4, ?_⟩
            · intro h; exact h3 (by simp [h])
            · intro t ht hb0
              subst hb0
              have hl' : gx l ((q :: r).getLast (by simp)) = some t := by rw [List.getLast_cons (by simp)] at ht; exact ht
              have hn : ((k - 1 + 1 : Nat) : Int) = ((pre.length + 1 : Nat) : Int) := by omega
              rw [Fishref2Code.loop2]
              simp only [hn, e1, gx_nat, hdq, gq, gp, hbr, decide_true, if_true, Option.bind_some]
              cases hbad : bad4 x tp.Arr g with
              | true =>
                have hbad' : w64 (tp.Arr - g) > x.After := by simpa [bad4] using hbad
                simp [hbad', h3 (by simp [hbad])]
              | false =>
                have hbad' : ¬ w64 (tp.Arr - g) > x.After := by simpa [bad4] using hbad
                simp only [hbad', decide_false, if_false, Bool.false_eq_true]
                have := h5 t hl' (by simp [hbad])
                rw [Nat.add_sub_cancel] at this
                rw [hk4, this]
        · simp only [hbr, decide_false, if_false, Bool.false_eq_true]
          rcases ih b g (by rw [hdd]; simp) (by simp; omega) hb with h | ⟨w', b', g', h1, h2, h3, h4, h5⟩
          · exact .inl h
          · refine .inr ⟨w', b', g', h1, h2, h3, h4, ?_⟩
            intro t ht hb0
            have hl' : gx l ((q :: r).getLast (by simp)) = some t := by rw [List.getLast_cons (by simp)] at ht; exact ht
            have hn : ((k - 1 + 1 : Nat) : Int) = ((pre.length + 1 : Nat) : Int) := by omega
            rw [Fishref2Code.loop2]
            simp only [hn, e1, e2, gx_nat, hdq, gq, gp, hbr, decide_true, decide_false, if_true, if_false, Bool.false_eq_true, Option.bind_some]
            have := h5 t hl' hb0
            rw [Nat.add_sub_cancel] at this
            rw [hk4, this]

theorem judge_eq (l : List FleetTask) (d : List Int) (x : FleetLimits) (hd : d.length ≤ 9223372036854775807) (h0 : d ≠ []) (hall : ∀ i ∈ d, 0 ≤ i ∧ i < l.length) :
    ∃ c, Fleetjudge l d x = some c ∧ Fishref2Code l d x = some c := by
  match d, h0 with
  | p :: r, _ =>
    have hp : 0 ≤ p ∧ p < l.length := hall p (by simp)
    obtain ⟨tp, gp, _⟩ := gx_in hp.1 hp.2
    have hz := hall ((p :: r).getLast (by simp)) (List.getLast_mem _)
    obtain ⟨tz, gz, _⟩ := gx_in hz.1 hz.2
    have hlast : gx (p :: r) (w64 (((p :: r).length : Int) - 1)) = some ((p :: r).getLast (by simp)) := by
      have e : (((p :: r).length : Int) - 1) = ((r.length : Nat) : Int) := by simp
      rw [e, w64_id (by simp at hd; omega), gx_nat]
      rw [List.getLast_eq_getElem]
      simp
    have hfirst : gx (p :: r) 0 = some p := by simp [gx]
    unfold Fleetjudge Fishref2Code
    simp only [hfirst, hlast, gp, gz, Option.bind_some, bnd_eq]
    rw [Fishref2Code.loop1, Fleetjudge.loop1]
    simp only [gp, Option.bind_some, Int.natCast_zero, beq_self_eq_true, if_true, gt_iff_lt, Int.lt_irrefl, decide_false, Bool.false_eq_true, if_false]
    rcases judge_pass l (p :: r) x hd hall r [] p 1 (w64 (0 + w64 (tp.Arr - tp.Dep))) 0 tp.Dep rfl rfl (.inl rfl) with ⟨h1, h2⟩ | ⟨w', b', g', h1, h2, h3, h4, h5⟩
    · exact ⟨1, by rw [h2]; rfl, by rw [h1]; rfl⟩
    · have h6 := h5 tz gz rfl
      simp only [Nat.sub_self] at h6
      simp only [h1, h2, Option.bind_some, Nat.zero_add]
      have e3 : Fleetjudge_1_v1 tz.Arr g' x b' = if bad4 x tz.Arr g' then 4 else b' := by simp [Fleetjudge_1_v1, bad4, bnd_eq]
      rw [e3]
      by_cases c2 : w64 (tz.Arr - tp.Dep) > x.Long
      · exact ⟨2, by simp [c2], by simp [c2]⟩
      by_cases c3 : w' > x.Work
      · exact ⟨3, by simp [c2, c3], by simp [c2, c3]⟩
      have c2' : ¬ x.Long < w64 (tz.Arr - tp.Dep) := c2
      have c3' : ¬ x.Work < w' := c3
      simp only [c2', c3', decide_false, Bool.false_eq_true, if_false, h6]
      cases hbad : bad4 x tz.Arr g' with
      | true => exact ⟨4, by simp, by simp⟩
      | false =>
        rcases h4 with rfl | rfl
        · cases h7 : (tz.To != tp.From) with
          | true => exact ⟨5, by simp, by simp⟩
          | false => exact ⟨0, by simp, by simp⟩
        · exact ⟨4, by simp, by simp⟩

/-! duties: what links tasks -/
def tk (l : List FleetTask) (i : Int) : FleetTask := l.getD i.toNat default
theorem gx_tk {l : List FleetTask} {i : Int} (h : 0 ≤ i ∧ i < l.length) : gx l i = some (tk l i) := by
  unfold gx tk
  rw [if_pos h.1, List.getD_eq_getElem?_getD, List.getElem?_eq_getElem (by omega)]; rfl
structure DEnv (l : List FleetTask) (x : FleetLimits) : Prop where
  n8 : l.length ≤ 8
  tin : ∀ t ∈ l, 0 ≤ t.Dep ∧ t.Dep < t.Arr ∧ t.Arr ≤ 28800
  ch : 0 ≤ x.Change ∧ x.Change ≤ 86400
theorem within_iff (n a b : Int) : Fleetwithin n a b = decide (a ≤ n ∧ n ≤ b) := by
  unfold Fleetwithin bnd
  by_cases h : a ≤ n <;> simp [h]
theorem three0 {c1 c2 c3 : Bool} {z : Out Int Unit} (h : (if c1 = true then Out.ret 2 else if c2 = true then Out.ret 13 else if c3 = true then Out.ret 2 else z) = Out.next ()) : c1 = false ∧ c2 = false ∧ c3 = false ∧ z = Out.next () := by
  cases c1 <;> cases c2 <;> cases c3 <;> simp_all
theorem three1 {c1 c2 c3 : Bool} {z : Out Int Unit} (hz : z ≠ Out.ret 0) : (if c1 = true then Out.ret 2 else if c2 = true then Out.ret 13 else if c3 = true then Out.ret 2 else z) ≠ Out.ret 0 := by
  cases c1 <;> cases c2 <;> cases c3 <;> simp_all
theorem tasks_env : ∀ l : List FleetTask, FleetCheckTasks.loop1 l = .next () → ∀ t ∈ l, 0 ≤ t.Dep ∧ t.Dep < t.Arr ∧ t.Arr ≤ 28800
  | [], _ => by simp
  | x :: r, h => by
    simp only [FleetCheckTasks.loop1, bnd_eq, within_iff] at h
    obtain ⟨h1, h2, _, h4⟩ := three0 h
    intro t ht
    rcases List.mem_cons.1 ht with rfl | ht
    · have h2' : ¬ t.Arr ≤ t.Dep := by simpa using h2
      by_cases e3 : 0 ≤ t.Dep ∧ t.Dep ≤ 28800
      · by_cases e4 : 0 ≤ t.Arr ∧ t.Arr ≤ 28800
        · omega
        · rw [decide_eq_false e4] at h1; simp at h1
      · rw [decide_eq_false e3] at h1; simp at h1
    · exact tasks_env r h4 t ht
theorem env_of {l : List FleetTask} {x : FleetLimits} (h : FleetcheckTasks l x = 0) (h8 : l.length ≤ 8) : DEnv l x := by
  unfold FleetcheckTasks at h
  by_cases h1 : FleetCheckTasks l = 0
  · rw [h1] at h
    simp only [bne_self_eq_false, Bool.false_eq_true, if_false] at h
    refine ⟨h8, ?_, ?_⟩
    · refine tasks_env l ?_
      unfold FleetCheckTasks at h1
      rw [if_neg (by simp; omega), bnd_eq] at h1
      cases e : FleetCheckTasks.loop1 l with
      | next u => rfl
      | ret r =>
        rw [e] at h1
        simp only at h1
        subst h1
        exfalso
        have key : ∀ l, FleetCheckTasks.loop1 l ≠ .ret 0 := by
          intro l
          induction l with
          | nil => simp [FleetCheckTasks.loop1]
          | cons a r ih =>
            rw [FleetCheckTasks.loop1, bnd_eq, bnd_eq]
            exact three1 ih
        exact key l e
    · unfold FleetCheckLimits at h
      rw [bnd_eq] at h
      simp only [FleetCheckLimits.loop1, within_iff] at h
      by_cases e : 0 ≤ x.Change ∧ x.Change ≤ 86400
      · exact e
      · rw [decide_eq_false e] at h; simp at h
  · have : (FleetCheckTasks l != 0) = true := by simpa using h1
    rw [if_pos this] at h; exact absurd h h1
def inb (l : List FleetTask) (d : List Int) : Prop := ∀ i ∈ d, 0 ≤ i ∧ i < l.length
def lkd (l : List FleetTask) (x : FleetLimits) (a b : Int) : Prop := (tk l b).From = (tk l a).To ∧ ¬ (tk l b).Dep < w64 ((tk l a).Arr + x.Change)
def chn (l : List FleetTask) (x : FleetLimits) : Int → List Int → Prop
  | _, [] => True
  | p, q :: r => lkd l x p q ∧ chn l x q r
def good (l : List FleetTask) (x : FleetLimits) (d : List Int) : Prop := Fleetjudge l d x = some 0
def dep (l : List FleetTask) (i : Int) : Int := (tk l i).Dep
theorem tk_mem {l : List FleetTask} {i : Int} (h : 0 ≤ i ∧ i < l.length) : tk l i ∈ l := by
  unfold tk
  rw [List.getD_eq_getElem?_getD, List.getElem?_eq_getElem (by omega)]
  exact List.getElem_mem _
section
variable {l : List FleetTask} {x : FleetLimits} (hE : DEnv l x)
include hE
theorem lkd_dep {a b : Int} (ha : 0 ≤ a ∧ a < l.length) (h : lkd l x a b) : dep l a < dep l b := by
  have h1 := hE.tin _ (tk_mem ha)
  have h2 := hE.ch
  have h3 := h.2
  rw [w64_id (by omega)] at h3
  unfold dep; omega
theorem chn_pw : ∀ (r : List Int) (p : Int), inb l (p :: r) → chn l x p r → (p :: r).Pairwise (fun a b => dep l a < dep l b)
  | [], p, _, _ => by simp
  | q :: r, p, hi, h => by
    have ih := chn_pw r q (fun i hm => hi i (List.mem_cons_of_mem _ hm)) h.2
    have h1 := lkd_dep hE (hi p (by simp)) h.1
    refine List.pairwise_cons.2 ⟨fun b hb => ?_, ih⟩
    rcases List.mem_cons.1 hb with rfl | hb
    · exact h1
    · exact Int.lt_trans h1 ((List.pairwise_cons.1 ih).1 b hb)
omit hE in
theorem chn_mid : ∀ (r1 : List Int) (p k : Int) (r2 : List Int), chn l x p (r1 ++ k :: r2) → lkd l x ((p :: r1).getLast (by simp)) k
  | [], p, k, r2, h => h.1
  | q :: r1, p, k, r2, h => by
    rw [List.getLast_cons (by simp)]
    exact chn_mid r1 q k r2 h.2
omit hE in
theorem code_chn (d : List Int) (hd : d.length ≤ 1000) (hi : inb l d) : ∀ (r pre : List Int) (p : Int) (k : Nat) (w w' : Int), d = pre ++ p :: r → k = pre.length + 1 →
    Fishref2Code.loop1 l d x r k w = some (.next w') → chn l x p r
  | [], _, _, _, _, _, _, _, _ => trivial
  | q :: r, pre, p, k, w, w', hdd, hk, h => by
    have hlen : d.length = pre.length + 2 + r.length := by rw [hdd]; simp; omega
    have gq := gx_tk (hi q (by rw [hdd]; simp))
    have gp := gx_tk (hi p (by rw [hdd]; simp))
    have hdp : d[pre.length]? = some p := by rw [hdd]; simp
    have hk0 : ((k : Nat) : Int) - 1 = ((pre.length : Nat) : Int) := by omega
    have hw : w64 (((k : Nat) : Int) - 1) = ((pre.length : Nat) : Int) := by rw [hk0]; exact w64_id (by omega)
    have hk3 : ((k : Nat) : Int) > 0 := by omega
    rw [Fishref2Code.loop1] at h
    simp only [gq, Option.bind_some, hw, gx_nat, hdp, gp, hk3, decide_true, if_true] at h
    by_cases c1 : (tk l q).From = (tk l p).To
    · by_cases c2 : (tk l q).Dep < w64 ((tk l p).Arr + x.Change)
      · have c1' : ((tk l p).To != (tk l q).From) = false := by simp [c1]
        simp [c1', c2] at h
      · have c1' : ((tk l p).To != (tk l q).From) = false := by simp [c1]
        simp only [c1', Bool.false_eq_true, if_false, c2, decide_false, Option.bind_some] at h
        exact ⟨⟨c1, c2⟩, code_chn d hd hi r (pre ++ [p]) q (k + 1) _ w' (by rw [hdd]; simp) (by simp; omega) h⟩
    · have c1' : ((tk l p).To != (tk l q).From) = true := by simp; exact fun e => c1 e.symm
      simp [c1'] at h
omit hE in
theorem good_chn {p : Int} {r : List Int} (hd : (p :: r).length ≤ 1000) (hi : inb l (p :: r)) (h : good l x (p :: r)) : chn l x p r := by
  obtain ⟨c, h1, h2⟩ := judge_eq l (p :: r) x (by omega) (by simp) hi
  have e : c = 0 := by have := h1.symm.trans h; exact Option.some.inj this
  subst e
  unfold Fishref2Code at h2
  have hl : w64 (((p :: r).length : Int) - 1) = (((p :: r).length - 1 : Nat) : Int) := by
    rw [w64_id (by simp at hd ⊢; omega)]; simp
  have hz := hi _ (List.getLast_mem (l := p :: r) (by simp))
  have g1 : gx (p :: r) 0 = some p := by simp [gx]
  have g2 : gx (p :: r) (((p :: r).length - 1 : Nat) : Int) = some ((p :: r).getLast (by simp)) := by
    rw [gx_nat, List.getLast_eq_getElem, List.getElem?_eq_getElem]
  have gp := gx_tk (hi p (by simp))
  simp only [g1, hl, g2, gp, gx_tk hz, Option.bind_some] at h2
  have e0 : Fishref2Code.loop1 l (p :: r) x (p :: r) 0 0 = Fishref2Code.loop1 l (p :: r) x r 1 (w64 (0 + w64 ((tk l p).Arr - (tk l p).Dep))) := by
    rw [Fishref2Code.loop1]
    simp only [gp, Option.bind_some, Int.natCast_zero, gt_iff_lt, Int.lt_irrefl, decide_false, Bool.false_eq_true, if_false]
  rw [e0] at h2
  rcases e1 : Fishref2Code.loop1 l (p :: r) x r 1 (w64 (0 + w64 ((tk l p).Arr - (tk l p).Dep))) with _ | z
  · rw [e1] at h2; simp at h2
  · cases z with
    | next w' => exact code_chn (p :: r) hd hi r [] p 1 _ w' rfl rfl e1
    | ret v =>
      rw [e1] at h2
      simp only [Option.bind_some, Option.some.injEq] at h2
      subst h2
      exfalso
      have key : ∀ (q : List Int) (k : Nat) (w : Int), Fishref2Code.loop1 l (p :: r) x q k w ≠ some (.ret 0) := by
        intro q
        induction q with
        | nil => intro k w; simp [Fishref2Code.loop1]
        | cons a q ih =>
          intro k w hh
          rw [Fishref2Code.loop1] at hh
          obtain ⟨_, _, hh⟩ := Option.bind_eq_some_iff.1 hh
          obtain ⟨_, _, hh⟩ := Option.bind_eq_some_iff.1 hh
          obtain ⟨o, ho, hh⟩ := Option.bind_eq_some_iff.1 hh
          cases o with
          | next u => exact ih _ _ hh
          | ret v =>
            simp only [Option.some.injEq, Out.ret.injEq] at hh
            subst hh
            split at ho
            · obtain ⟨_, _, ho⟩ := Option.bind_eq_some_iff.1 ho
              obtain ⟨_, _, ho⟩ := Option.bind_eq_some_iff.1 ho
              obtain ⟨b, _, ho⟩ := Option.bind_eq_some_iff.1 ho
              cases b <;> simp at ho
            · simp at ho
      exact key _ _ _ e1
theorem good_pw {d : List Int} (hd : d.length ≤ 1000) (hi : inb l d) (h : good l x d) : d.Pairwise (fun a b => dep l a < dep l b) := by
  cases d with
  | nil => simp
  | cons p r => exact chn_pw hE r p hi (good_chn hd hi h)
end
theorem nodup_len : ∀ (n : Nat) (l : List Nat), l.Nodup → (∀ a ∈ l, a < n) → l.length ≤ n
  | 0, l, _, h => by
    cases l with
    | nil => exact Nat.le_refl _
    | cons a l => exact absurd (h a (by simp)) (Nat.not_lt_zero _)
  | n + 1, l, hn, h => by
    have ih := nodup_len n (l.erase n) (hn.erase n) (fun a ha => by
      have h1 := (hn.mem_erase_iff).1 ha
      have := h a h1.2
      have := h1.1
      omega)
    rw [List.length_erase] at ih
    split at ih <;> omega
/-! the program's search -/
def hd (d : List Int) : Int := d.headD 0
def Fr (u : List Bool) (y : Int) : Prop := 0 ≤ y ∧ u[y.toNat]? = some false
def frees (u : List Bool) : Nat := u.countP (fun b => !b)
theorem fr_set {u : List Bool} {k : Int} (hk : Fr u k) (y : Int) : Fr (u.set k.toNat true) y ↔ Fr u y ∧ y ≠ k := by
  unfold Fr at *
  rw [List.getElem?_set]
  have hl : k.toNat < u.length := (List.getElem?_eq_some_iff.1 hk.2).1
  constructor
  · rintro ⟨h0, h1⟩
    by_cases e : k.toNat = y.toNat
    · rw [if_pos e, if_pos hl] at h1; simp at h1
    · rw [if_neg e] at h1
      exact ⟨⟨h0, h1⟩, fun e' => e (by rw [e'])⟩
  · rintro ⟨⟨h0, h1⟩, h2⟩
    have e : ¬ k.toNat = y.toNat := by have := hk.1; omega
    rw [if_neg e]; exact ⟨h0, h1⟩
theorem frees_set {u : List Bool} {k : Int} (hk : Fr u k) : frees (u.set k.toNat true) + 1 = frees u := by
  obtain ⟨hl, he⟩ := List.getElem?_eq_some_iff.1 hk.2
  have hp : 0 < frees u := List.countP_pos_iff.2 ⟨u[k.toNat], List.getElem_mem hl, by rw [he]; rfl⟩
  unfold frees at *
  rw [List.countP_set hl, he]
  simp; omega
theorem set_back {u : List Bool} {k : Int} (hk : Fr u k) : (u.set k.toNat true).set k.toNat false = u := by
  obtain ⟨hl, he⟩ := List.getElem?_eq_some_iff.1 hk.2
  rw [List.set_set, ← he, List.set_getElem_self]
theorem fr_in {u : List Bool} {k : Int} (hk : Fr u k) : 0 ≤ k ∧ k < u.length := by
  have := (List.getElem?_eq_some_iff.1 hk.2).1; have := hk.1; omega
section
variable (l : List FleetTask) (x : FleetLimits)
structure NS (u : List Bool) (m a : Int) (es : List (List Int)) : Prop where
  len : (es.length : Int) = m
  ok : ∀ d ∈ es, d ≠ [] ∧ good l x d
  nd : es.flatten.Nodup
  mem : ∀ y, y ∈ es.flatten ↔ Fr u y
  heads : es.Pairwise (fun d e => hd d < hd e)
  above : ∀ d ∈ es, a < hd d
structure DS1 (u : List Bool) (m : Int) (duty r : List Int) (rest : List (List Int)) : Prop where
  ok : good l x (duty ++ r)
  nd : (r ++ rest.flatten).Nodup
  mem : ∀ y, y ∈ r ++ rest.flatten ↔ Fr u y
  len : (rest.length : Int) + 1 = m
  oks : ∀ d ∈ rest, d ≠ [] ∧ good l x d
  heads : rest.Pairwise (fun d e => hd d < hd e)
  above : ∀ d ∈ rest, hd duty < hd d
def DS (u : List Bool) (m : Int) (duty : List Int) (es : List (List Int)) : Prop := ∃ r rest, es = (duty ++ r) :: rest ∧ DS1 l x u m duty r rest
/-- what a search comes to -/
def Res (S : List (List Int) → Prop) (u : List Bool) (D : List (List Int)) (q : Bool × List Bool × List (List Int)) : Prop :=
  (q = (false, u, D) ∧ ∀ es, ¬ S es) ∨ (q.1 = true ∧ ∃ es, S es ∧ q.2.2 = D ++ es ∧ ∀ es', S es' → llc es es' ≤ 0)
/-- what begins with k -/
def CN (u : List Bool) (m a k : Int) (es : List (List Int)) : Prop := a < k ∧ Fr u k ∧ DS l x (u.set k.toNat true) m [k] es
def CD (u : List Bool) (m : Int) (duty : List Int) (k : Int) (es : List (List Int)) : Prop := Fr u k ∧ (∀ z, duty.getLast? = some z → lkd l x z k) ∧ DS l x (u.set k.toNat true) m (duty ++ [k]) es
variable {l x}
theorem cn_form {u : List Bool} {m a k : Int} {es} (h : CN l x u m a k es) : ∃ r rest, es = (k :: r) :: rest := by
  obtain ⟨_, _, r, rest, e, _⟩ := h; exact ⟨r, rest, e⟩
theorem lead_lt {p : List Int} {k k' : Int} (h : k < k') (r r' : List Int) (s s' : List (List Int)) : llc ((p ++ k :: r) :: s) ((p ++ k' :: r') :: s') < 0 := by
  have h1 : lcp (p ++ k :: r) (p ++ k' :: r') = icmp k k' := by
    unfold lcp; rw [lcmp_front icmp_gc]
    simp only [lcmp]
    have := icmp_lt.2 h
    rw [if_pos (by omega)]
  have h2 := icmp_lt.2 h
  unfold llc
  simp only [lcmp]
  rw [h1, if_pos (by omega)]; exact h2
theorem stop_lt (p : List Int) (k : Int) (r : List Int) (s s' : List (List Int)) : llc (p :: s) ((p ++ k :: r) :: s') < 0 := by
  have h1 : lcp p (p ++ k :: r) = -1 := by
    have := lcmp_front icmp_gc p [] (k :: r)
    rw [List.append_nil] at this
    unfold lcp; rw [this]; rfl
  unfold llc
  simp only [lcmp]
  rw [h1]; simp
theorem ns_split {u : List Bool} {m a : Int} (hm : m ≠ 0) (es : List (List Int)) : NS l x u m a es ↔ ∃ k, CN l x u m a k es := by
  constructor
  · intro h
    cases es with
    | nil => exact absurd h.len.symm hm
    | cons d rest =>
      have hd0 := (h.ok d (by simp)).1
      cases d with
      | nil => exact absurd rfl hd0
      | cons k r =>
        have hk : Fr u k := (h.mem k).1 (by simp)
        have hnd := h.nd
        simp only [List.flatten_cons, List.cons_append, List.nodup_cons] at hnd
        refine ⟨k, h.above (k :: r) (by simp), hk, r, rest, rfl, ?_⟩
        refine ⟨(h.ok _ (by simp)).2, hnd.2, fun y => ?_, by have := h.len; simp at this; omega, fun d hd => h.ok d (by simp [hd]), (List.pairwise_cons.1 h.heads).2, fun d hd => ?_⟩
        · rw [fr_set hk, ← h.mem y]
          simp only [List.flatten_cons, List.cons_append, List.mem_cons]
          constructor
          · intro hy; exact ⟨.inr hy, fun e => hnd.1 (e ▸ hy)⟩
          · rintro ⟨h1 | h1, h2⟩
            · exact absurd h1 h2
            · exact h1
        · exact (List.pairwise_cons.1 h.heads).1 d hd
  · rintro ⟨k, ha, hk, r, rest, rfl, h⟩
    have hkn : k ∉ r ++ rest.flatten := fun hy => ((fr_set hk k).1 ((h.mem k).1 hy)).2 rfl
    refine ⟨by have := h.len; simp; omega, ?_, ?_, ?_, ?_, ?_⟩
    · intro d hd
      rcases List.mem_cons.1 hd with rfl | hd
      · exact ⟨by simp, h.ok⟩
      · exact h.oks d hd
    · simp only [List.flatten_cons, List.cons_append, List.nil_append, List.nodup_cons]
      exact ⟨hkn, h.nd⟩
    · intro y
      simp only [List.flatten_cons, List.cons_append, List.nil_append, List.mem_cons, h.mem y, fr_set hk]
      constructor
      · rintro (rfl | h1)
        · exact hk
        · exact h1.1
      · intro h1
        by_cases e : y = k
        · exact .inl e
        · exact .inr ⟨h1, e⟩
    · exact List.pairwise_cons.2 ⟨fun d hd => h.above d hd, h.heads⟩
    · intro d hd
      rcases List.mem_cons.1 hd with rfl | hd
      · exact ha
      · exact Int.lt_trans ha (h.above d hd)
theorem ds_split {u : List Bool} {m : Int} {duty : List Int} (h0 : duty ≠ []) (hi : inb l duty) (hlen : duty.length ≤ 100) (h8 : l.length ≤ 8) (hu : u.length = l.length) (es : List (List Int)) :
    DS l x u m duty es ↔ (good l x duty ∧ ∃ rest, es = duty :: rest ∧ NS l x u (m - 1) (hd duty) rest) ∨ ∃ k, CD l x u m duty k es := by
  constructor
  · rintro ⟨r, rest, rfl, h⟩
    cases r with
    | nil =>
      left
      refine ⟨by simpa using h.ok, rest, by simp, ?_⟩
      exact ⟨by have := h.len; omega, h.oks, by simpa using h.nd, fun y => by simpa using h.mem y, h.heads, h.above⟩
    | cons k r =>
      right
      have hk : Fr u k := (h.mem k).1 (by simp)
      have hnd := h.nd
      simp only [List.cons_append, List.nodup_cons] at hnd
      refine ⟨k, hk, ?_, r, rest, by simp, ?_⟩
      · intro z hz
        cases duty with
        | nil => exact absurd rfl h0
        | cons p q =>
          have hin : inb l ((p :: q) ++ k :: r) := by
            intro i hi'
            rcases List.mem_append.1 hi' with h1 | h1
            · exact hi i h1
            · have := fr_in ((h.mem i).1 (List.mem_append_left _ h1)); omega
          have hle : ((p :: q) ++ k :: r).length ≤ 1000 := by
            have hsub : (k :: r).length ≤ u.length := by
              have hn1 : (k :: r).Nodup := (List.nodup_append.1 h.nd).1
              have h1 : ∀ y ∈ (k :: r), 0 ≤ y ∧ y < u.length := fun y hy => fr_in ((h.mem y).1 (List.mem_append_left _ hy))
              have h2 : ((k :: r).map Int.toNat).Nodup := by
                refine List.pairwise_map.2 (hn1.imp_of_mem ?_)
                intro a b ha hb hab e
                have := h1 a ha; have := h1 b hb; omega
              have h3 : ((k :: r).map Int.toNat) ⊆ List.range u.length := by
                intro y hy
                obtain ⟨z, hz, rfl⟩ := List.mem_map.1 hy
                have := h1 z hz
                exact List.mem_range.2 (by omega)
              have h4 := nodup_len u.length _ h2 (fun y hy => List.mem_range.1 (h3 hy))
              simpa using h4
            rw [List.length_append]; omega
          have hch := good_chn hle hin h.ok
          have hz' : (p :: q).getLast (by simp) = z := by rw [List.getLast?_eq_some_getLast (by simp)] at hz; exact Option.some.inj hz
          rw [← hz']
          exact chn_mid q p k r hch
      · refine ⟨by simpa using h.ok, hnd.2, fun y => ?_, h.len, h.oks, h.heads, fun d hd' => ?_⟩
        · rw [fr_set hk, ← h.mem y]
          simp only [List.cons_append, List.mem_cons]
          constructor
          · intro hy; exact ⟨.inr hy, fun e => hnd.1 (e ▸ hy)⟩
          · rintro ⟨h1 | h1, h2⟩
            · exact absurd h1 h2
            · exact h1
        · have := h.above d hd'
          cases duty with
          | nil => exact absurd rfl h0
          | cons p q => exact this
  · rintro (⟨hg, rest, rfl, h⟩ | ⟨k, hk, _, r, rest, rfl, h⟩)
    · exact ⟨[], rest, by simp, ⟨by simpa using hg, by simpa using h.nd, fun y => by simpa using h.mem y, by have := h.len; omega, h.ok, h.heads, h.above⟩⟩
    · have hkn : k ∉ r ++ rest.flatten := fun hy => ((fr_set hk k).1 ((h.mem k).1 hy)).2 rfl
      refine ⟨k :: r, rest, by simp, ⟨by simpa using h.ok, ?_, ?_, h.len, h.oks, h.heads, ?_⟩⟩
      · simp only [List.cons_append, List.nodup_cons]; exact ⟨hkn, h.nd⟩
      · intro y
        simp only [List.cons_append, List.mem_cons, h.mem y, fr_set hk]
        constructor
        · rintro (rfl | h1)
          · exact hk
          · exact h1.1
        · intro h1
          by_cases e : y = k
          · exact .inl e
          · exact .inr ⟨h1, e⟩
      · intro d hd'
        have := h.above d hd'
        cases duty with
        | nil => exact absurd rfl h0
        | cons p q => exact this
end
/-! the program's search: its steps -/
theorem containsb (u : List Bool) : SlicesContainsLbool u false = decide (0 < frees u) := by
  have key : ∀ (r : List Bool) (k : Nat), (SlicesIndexLbool.loop1 false r k = .next () ∧ frees r = 0) ∨ (∃ j : Nat, SlicesIndexLbool.loop1 false r k = .ret (j : Int)) ∧ 0 < frees r := by
    intro r
    induction r with
    | nil => intro k; exact .inl ⟨rfl, rfl⟩
    | cons b r ih =>
      intro k
      rw [SlicesIndexLbool.loop1]
      cases b with
      | false => exact .inr ⟨⟨k, by simp⟩, by simp [frees]⟩
      | true =>
        rcases ih (k + 1) with ⟨h1, h2⟩ | ⟨⟨j, h1⟩, h2⟩
        · exact .inl ⟨by simpa using h1, by unfold frees at *; rw [List.countP_cons_of_neg (by simp)]; exact h2⟩
        · exact .inr ⟨⟨j, by simpa using h1⟩, by unfold frees at *; rw [List.countP_cons_of_neg (by simp)]; exact h2⟩
  unfold SlicesContainsLbool SlicesIndexLbool
  rw [bnd_eq]
  rcases key u 0 with ⟨h1, h2⟩ | ⟨⟨j, h1⟩, h2⟩
  · rw [h1]; simp [h2]
  · rw [h1]; simp [h2]
theorem frees_no {u : List Bool} (h : frees u = 0) (y : Int) : ¬ Fr u y := by
  rintro ⟨_, h1⟩
  have := List.countP_eq_zero.1 h false (List.mem_of_getElem? h1)
  simp at this
theorem frees_yes {u : List Bool} (h : 0 < frees u) : ∃ y, Fr u y := by
  obtain ⟨b, hb, hp⟩ := List.countP_pos_iff.1 h
  obtain ⟨j, hj⟩ := List.getElem?_of_mem hb
  refine ⟨(j : Int), by omega, ?_⟩
  rw [Int.toNat_natCast, hj]
  cases b <;> simp_all
section
variable {l : List FleetTask} {x : FleetLimits} (h8 : l.length ≤ 8)
theorem take_res (self : (Int → Int → (List Int) → FleetDivider → Option (Bool × (List Bool) × (List (List Int))))) (m a : Int) (duty : List Int) (k : Int) (u : List Bool) (D : List (List Int)) (hu : u.length = l.length) (hk : 0 ≤ k ∧ k < l.length) (hi : inb l duty) (hdl : duty.length ≤ 100)
    (ih : Fr u k → ∃ q, self m a (duty ++ [k]) ⟨l, x, u.set k.toNat true, D⟩ = some q ∧ Res (DS l x (u.set k.toNat true) m (duty ++ [k])) (u.set k.toNat true) D q) :
    ∃ q, FleetDividertake_v3 self m a duty k ⟨l, x, u, D⟩ = some q ∧ Res (CD l x u m duty k) u D q := by
  have hkl : k.toNat < u.length := by omega
  have g1 : gx u k = some u[k.toNat] := gx_toNat hk.1 hkl
  have gk := gx_tk hk
  unfold FleetDividertake_v3
  simp only [g1, Option.bind_some]
  cases hb : u[k.toNat] with
  | true =>
    simp only [if_true]
    refine ⟨_, rfl, .inl ⟨rfl, fun es h => ?_⟩⟩
    have := h.1.2
    rw [List.getElem?_eq_getElem hkl, hb] at this; simp at this
  | false =>
    have hfr : Fr u k := ⟨hk.1, by rw [List.getElem?_eq_getElem hkl, hb]⟩
    simp only [Bool.false_eq_true, if_false]
    -- behind the look at the last task
    have go : (∀ z, duty.getLast? = some z → lkd l x z k) → ∃ q, ((ix u k).bind fun _ => ((sx u k true).bind fun x145 => ((SlicesCloneLint duty).bind fun q150 => ((apd q150 [k]).bind fun x159 => ((nz x159).bind fun _ => ((self m a x159 (FleetDivider.mk l x x145 D)).bind fun q172 => (if q172.1 then some (true, q172.2.1, q172.2.2) else ((ix q172.2.1 k).bind fun _ => ((sx q172.2.1 k false).bind fun x190 => some (false, x190, q172.2.2)))))))))) = some q ∧ Res (CD l x u m duty k) u D q := by
      intro hlk
      have hc : SlicesCloneLint duty = some duty := by
        unfold SlicesCloneLint; rw [apd_lt (by simp; omega)]; rfl
      have hnz : nz (duty ++ [k]) = some () := by unfold nz; cases duty <;> rfl
      rw [ix_in hk.1 (by omega), Option.bind_some, sx_in hk.1 (by omega), Option.bind_some, hc, Option.bind_some, apd_lt (by simp; omega), Option.bind_some, hnz, Option.bind_some]
      obtain ⟨q, q1, q2⟩ := ih hfr
      rw [q1, Option.bind_some]
      rcases q2 with ⟨rfl, q2⟩ | ⟨q2, es, e1, e2, e3⟩
      · simp only [Bool.false_eq_true, if_false]
        rw [ix_in hk.1 (by simp; omega), Option.bind_some, sx_in hk.1 (by simp; omega), Option.bind_some, set_back hfr]
        exact ⟨_, rfl, .inl ⟨rfl, fun es h => q2 es h.2.2⟩⟩
      · simp only [q2, if_true]
        exact ⟨_, rfl, .inr ⟨rfl, es, ⟨hfr, hlk, e1⟩, e2, fun es' h => e3 es' h.2.2⟩⟩
    by_cases hd0 : duty = []
    · subst hd0
      simp only [List.length_nil, Int.natCast_zero, gt_iff_lt, Int.lt_irrefl, decide_false, Bool.false_eq_true, if_false, Option.bind_some]
      exact go (fun z hz => by simp at hz)
    · have hpos : ((duty.length : Int) > 0) := by have := List.length_pos_iff.2 hd0; omega
      have hw : w64 ((duty.length : Int) - 1) = ((duty.length - 1 : Nat) : Int) := by rw [w64_id (by omega)]; omega
      have g2 : gx duty ((duty.length - 1 : Nat) : Int) = some (duty.getLast hd0) := by
        rw [gx_nat, List.getLast_eq_getElem, List.getElem?_eq_getElem]
      have gz := gx_tk (hi _ (List.getLast_mem hd0))
      have hlast : duty.getLast? = some (duty.getLast hd0) := List.getLast?_eq_some_getLast hd0
      simp only [hpos, decide_true, if_true, hw, g2, gz, gk, Option.bind_some]
      by_cases c1 : (tk l k).From = (tk l (duty.getLast hd0)).To
      · have c1' : ((tk l k).From != (tk l (duty.getLast hd0)).To) = false := by simp [c1]
        simp only [c1', Bool.false_eq_true, if_false, Option.bind_some]
        by_cases c2 : (tk l k).Dep < w64 ((tk l (duty.getLast hd0)).Arr + x.Change)
        · simp only [c2, decide_true, if_true, Option.bind_some]
          refine ⟨_, rfl, .inl ⟨rfl, fun es h => ?_⟩⟩
          exact (h.2.1 _ hlast).2 c2
        · simp only [c2, decide_false, Bool.false_eq_true, if_false, Option.bind_some]
          refine go (fun z hz => ?_)
          obtain rfl : duty.getLast hd0 = z := Option.some.inj (hlast.symm.trans hz)
          exact ⟨c1, c2⟩
      · have c1' : ((tk l k).From != (tk l (duty.getLast hd0)).To) = true := by simpa using c1
        simp only [c1', if_true, Option.bind_some]
        refine ⟨_, rfl, .inl ⟨rfl, fun es h => ?_⟩⟩
        exact c1 (h.2.1 _ hlast).1
theorem cd_lt {u : List Bool} {m : Int} {duty : List Int} {k k' : Int} (h : k < k') {es es' : List (List Int)} (h1 : CD l x u m duty k es) (h2 : CD l x u m duty k' es') : llc es es' ≤ 0 := by
  obtain ⟨_, _, r, rest, rfl, _⟩ := h1
  obtain ⟨_, _, r', rest', rfl, _⟩ := h2
  have := lead_lt (p := duty) h r r' rest rest'
  simp only [List.append_assoc, List.singleton_append]
  omega
theorem loop2_res (self : (Int → Int → (List Int) → FleetDivider → Option (Bool × (List Bool) × (List (List Int))))) (m a : Int) (duty : List Int) (u : List Bool) (D : List (List Int)) (hu : u.length = l.length) (hi : inb l duty) (hdl : duty.length ≤ 100)
    (ih : ∀ k, Fr u k → ∃ q, self m a (duty ++ [k]) ⟨l, x, u.set k.toNat true, D⟩ = some q ∧ Res (DS l x (u.set k.toNat true) m (duty ++ [k])) (u.set k.toNat true) D q) (y : FleetDivider) (hy : y.tasks = l ∧ y.limits = x) :
    ∀ (rest : List FleetTask) (k : Nat), k + rest.length = l.length →
    ∃ o, FleetDividerdivide_v1.loop2 m a duty y self rest k u D = some o ∧
      ((o = .next (u, D) ∧ ∀ k' : Int, (k : Int) ≤ k' → ∀ es, ¬ CD l x u m duty k' es) ∨
       ∃ q, o = .ret q ∧ q.1 = true ∧ ∃ k' es, (k : Int) ≤ k' ∧ CD l x u m duty k' es ∧ q.2.2 = D ++ es ∧ ∀ k'' : Int, (k : Int) ≤ k'' → ∀ es', CD l x u m duty k'' es' → llc es es' ≤ 0)
  | [], k, hk => by
    simp only [List.length_nil] at hk
    refine ⟨_, rfl, .inl ⟨rfl, fun k' h es hc => ?_⟩⟩
    have := fr_in hc.1; omega
  | _ :: rest, k, hk => by
    simp only [List.length_cons] at hk
    rw [FleetDividerdivide_v1.loop2, hy.1, hy.2]
    obtain ⟨q, q1, q2⟩ := take_res self m a duty (k : Int) u D hu (by omega) hi hdl (ih _)
    rw [q1, Option.bind_some]
    rcases q2 with ⟨rfl, q2⟩ | ⟨q2, es, e1, e2, e3⟩
    · simp only [Bool.false_eq_true, if_false]
      obtain ⟨o, o1, o2⟩ := loop2_res self m a duty u D hu hi hdl ih y hy rest (k + 1) (by omega)
      refine ⟨o, o1, ?_⟩
      have out : ∀ k' : Int, (k : Int) ≤ k' → ∀ es, CD l x u m duty k' es → ((k + 1 : Nat) : Int) ≤ k' := by
        intro k' h es hc
        by_cases e : k' = k
        · subst e; exact absurd hc (q2 es)
        · omega
      rcases o2 with ⟨o2, o3⟩ | ⟨q, o2, o3, k', es, o4, o5, o6, o7⟩
      · exact .inl ⟨o2, fun k' h es hc => o3 k' (out k' h es hc) es hc⟩
      · exact .inr ⟨q, o2, o3, k', es, by omega, o5, o6, fun k'' h es' hc => o7 k'' (out k'' h es' hc) es' hc⟩
    · simp only [q2, if_true]
      refine ⟨_, rfl, .inr ⟨_, rfl, rfl, (k : Int), es, by omega, e1, e2, fun k'' h es' hc => ?_⟩⟩
      by_cases e : k'' = k
      · subst e; exact e3 es' hc
      · exact cd_lt (by omega) e1 hc
include h8
theorem loop1_res (self : (Int → Int → (List Int) → FleetDivider → Option (Bool × (List Bool) × (List (List Int))))) (m a : Int) (u : List Bool) (D : List (List Int)) (hu : u.length = l.length)
    (ih : ∀ k, Fr u k → ∃ q, self m a ([] ++ [k]) ⟨l, x, u.set k.toNat true, D⟩ = some q ∧ Res (DS l x (u.set k.toNat true) m ([] ++ [k])) (u.set k.toNat true) D q) (y : FleetDivider) (hy : y.tasks = l ∧ y.limits = x) :
    ∀ (N : Nat) (k : Nat), k ≤ l.length → l.length - k < N →
    ∃ o, FleetDividerdivide_v1.loop1 m a y self N ((k : Nat) : Int) u D = some o ∧
      ((∃ k0, o = .next (k0, u, D) ∧ ∀ k' : Int, (k : Int) ≤ k' → ∀ es, ¬ CD l x u m [] k' es) ∨
       ∃ q, o = .ret q ∧ q.1 = true ∧ ∃ k' es, (k : Int) ≤ k' ∧ CD l x u m [] k' es ∧ q.2.2 = D ++ es ∧ ∀ k'' : Int, (k : Int) ≤ k'' → ∀ es', CD l x u m [] k'' es' → llc es es' ≤ 0)
  | 0, k, _, h => absurd h (Nat.not_lt_zero _)
  | N + 1, k, hk, hN => by
    rw [FleetDividerdivide_v1.loop1, hy.1, hy.2]
    by_cases c : k < l.length
    · rw [if_pos (by simp; omega)]
      obtain ⟨q, q1, q2⟩ := take_res self m a [] (k : Int) u D hu (by omega) (fun i hi => by simp at hi) (by simp) (ih _)
      rw [q1, Option.bind_some]
      rcases q2 with ⟨rfl, q2⟩ | ⟨q2, es, e1, e2, e3⟩
      · simp only [Bool.false_eq_true, if_false]
        have hw : w64 (((k : Nat) : Int) + 1) = ((k + 1 : Nat) : Int) := by rw [w64_id (by omega)]; omega
        rw [hw]
        obtain ⟨o, o1, o2⟩ := loop1_res self m a u D hu ih y hy N (k + 1) (by omega) (by omega)
        refine ⟨o, o1, ?_⟩
        have out : ∀ k' : Int, (k : Int) ≤ k' → ∀ es, CD l x u m [] k' es → ((k + 1 : Nat) : Int) ≤ k' := by
          intro k' h es hc
          by_cases e : k' = k
          · subst e; exact absurd hc (q2 es)
          · omega
        rcases o2 with ⟨k0, o2, o3⟩ | ⟨q, o2, o3, k', es, o4, o5, o6, o7⟩
        · exact .inl ⟨k0, o2, fun k' h es hc => o3 k' (out k' h es hc) es hc⟩
        · exact .inr ⟨q, o2, o3, k', es, by omega, o5, o6, fun k'' h es' hc => o7 k'' (out k'' h es' hc) es' hc⟩
      · simp only [q2, if_true]
        refine ⟨_, rfl, .inr ⟨_, rfl, rfl, (k : Int), es, by omega, e1, e2, fun k'' h es' hc => ?_⟩⟩
        by_cases e : k'' = k
        · subst e; exact e3 es' hc
        · exact cd_lt (by omega) e1 hc
    · rw [if_neg (by simp; omega)]
      refine ⟨_, rfl, .inl ⟨_, rfl, fun k' h es hc => ?_⟩⟩
      have := fr_in hc.1; omega
omit h8 in
theorem judge_any {d : List Int} (h0 : d ≠ []) (hi : inb l d) (hd : d.length ≤ 1000) : ∃ c, Fleetjudge l d x = some c := by
  obtain ⟨c, h1, _⟩ := judge_eq l d x (by omega) h0 hi
  exact ⟨c, h1⟩
theorem divide_ok : ∀ fu : Nat,
    (∀ (u : List Bool) (m a : Int) (D : List (List Int)), u.length = l.length → 2 * frees u + 20 ≤ fu → 0 ≤ m → m ≤ 20 → -1 ≤ a → a < l.length → D.length + frees u ≤ 8 →
      ∃ q, FleetDividerdivide_v1 fu m a [] ⟨l, x, u, D⟩ = some q ∧ Res (NS l x u m a) u D q) ∧
    (∀ (u : List Bool) (m a : Int) (duty : List Int) (D : List (List Int)), u.length = l.length → 2 * frees u + 21 ≤ fu → 1 ≤ m → m ≤ 20 → duty ≠ [] → inb l duty → duty.length + frees u ≤ 8 → D.length + 1 + frees u ≤ 8 →
      ∃ q, FleetDividerdivide_v1 fu m a duty ⟨l, x, u, D⟩ = some q ∧ Res (DS l x u m duty) u D q)
  | 0 => ⟨fun _ _ _ _ _ h => absurd h (by omega), fun _ _ _ _ _ _ h => absurd h (by omega)⟩
  | fu + 1 => by
    obtain ⟨ih1, ih2⟩ := divide_ok fu
    constructor
    · intro u m a D hu hf hm0 hm ha0 ha hD
      rw [FleetDividerdivide_v1, containsb]
      simp only [List.isEmpty_nil, if_true]
      by_cases c0 : 0 < frees u
      · simp only [c0, decide_true, Bool.not_true, Bool.false_eq_true, if_false]
        by_cases cm : m = 0
        · subst cm
          simp only [beq_self_eq_true, if_true]
          refine ⟨_, rfl, .inl ⟨rfl, fun es h => ?_⟩⟩
          have h0 : es = [] := List.eq_nil_of_length_eq_zero (by have := h.len; omega)
          subst h0
          obtain ⟨y, hy⟩ := frees_yes c0
          have := (h.mem y).2 hy
          simp at this
        · have cm' : (m == 0) = false := by simpa using cm
          have hw : w64 (a + 1) = (((a + 1).toNat : Nat) : Int) := by rw [w64_id (by omega)]; omega
          simp only [cm', Bool.false_eq_true, if_false, hw]
          obtain ⟨o, o1, o2⟩ := loop1_res h8 (x := x) (FleetDividerdivide_v1 fu) m a u D hu (fun k hk => by
            have hs := frees_set hk
            exact ih2 (u.set k.toNat true) m a ([] ++ [k]) D (by simpa using hu) (by omega) (by omega) hm (by simp) (by
              intro i hi'
              obtain rfl : i = k := by simpa using hi'
              have := fr_in hk; omega) (by simp; omega) (by omega)) ⟨l, x, u, D⟩ ⟨rfl, rfl⟩ fu (a + 1).toNat (by omega) (by omega)
          rw [o1, Option.bind_some]
          have e1 : ∀ k es, CN l x u m a k es ↔ (((a + 1).toNat : Nat) : Int) ≤ k ∧ CD l x u m [] k es := by
            intro k es
            unfold CN CD
            constructor
            · rintro ⟨h1, h2, h3⟩; exact ⟨by omega, h2, fun z hz => by simp at hz, h3⟩
            · rintro ⟨h1, h2, _, h3⟩; exact ⟨by omega, h2, h3⟩
          rcases o2 with ⟨k0, rfl, o3⟩ | ⟨q, rfl, o3, k', es, o4, o5, o6, o7⟩
          · refine ⟨_, rfl, .inl ⟨rfl, fun es h => ?_⟩⟩
            obtain ⟨k, hk⟩ := (ns_split cm es).1 h
            have := (e1 k es).1 hk
            exact o3 k this.1 es this.2
          · refine ⟨_, rfl, .inr ⟨o3, es, (ns_split cm es).2 ⟨k', (e1 k' es).2 ⟨o4, o5⟩⟩, o6, fun es' h => ?_⟩⟩
            obtain ⟨k, hk⟩ := (ns_split cm es').1 h
            have := (e1 k es').1 hk
            exact o7 k this.1 es' this.2
      · simp only [c0, decide_false, Bool.not_false, if_true]
        have hz := frees_no (u := u) (by omega)
        have hes : ∀ es, NS l x u m a es → es = [] := by
          intro es h
          cases es with
          | nil => rfl
          | cons d r =>
            have hd0 := (h.ok d (by simp)).1
            cases d with
            | nil => exact absurd rfl hd0
            | cons k _ => exact absurd ((h.mem k).1 (by simp)) (hz k)
        by_cases cm : m = 0
        · subst cm
          refine ⟨_, rfl, .inr ⟨by simp, [], ?_, by simp, fun es' h => by rw [hes es' h]; exact Int.le_refl _⟩⟩
          exact ⟨rfl, by simp, by simp, fun y => by simp [hz y], by simp, by simp⟩
        · have cm' : (m == 0) = false := by simpa using cm
          refine ⟨_, rfl, .inl ⟨by rw [cm'], fun es h => ?_⟩⟩
          have := h.len
          rw [hes es h] at this
          exact cm this.symm
    · intro u m a duty D hu hf hm0 hm hd0 hi hdl hD
      obtain ⟨c, hc⟩ := judge_any (x := x) hd0 hi (by omega)
      have he : duty.isEmpty = false := by cases duty with | nil => exact absurd rfl hd0 | cons _ _ => rfl
      rw [FleetDividerdivide_v1]
      simp only [he, Bool.false_eq_true, if_false, hc, Option.bind_some]
      have split := ds_split (x := x) (u := u) (m := m) hd0 hi (by omega) h8 hu
      -- the loop behind
      have loop : ∃ o, FleetDividerdivide_v1.loop2 m a duty ⟨l, x, u, D⟩ (FleetDividerdivide_v1 fu) l 0 u D = some o ∧
          ((o = .next (u, D) ∧ ∀ k' : Int, ((0 : Nat) : Int) ≤ k' → ∀ es, ¬ CD l x u m duty k' es) ∨
          ∃ q, o = .ret q ∧ q.1 = true ∧ ∃ k' es, ((0 : Nat) : Int) ≤ k' ∧ CD l x u m duty k' es ∧ q.2.2 = D ++ es ∧ ∀ k'' : Int, ((0 : Nat) : Int) ≤ k'' → ∀ es', CD l x u m duty k'' es' → llc es es' ≤ 0) :=
        loop2_res (FleetDividerdivide_v1 fu) m a duty u D hu hi (by omega) (fun k hk => by
          have hs := frees_set hk
          exact ih2 (u.set k.toNat true) m a (duty ++ [k]) D (by simpa using hu) (by omega) hm0 hm (by simp) (by
            intro i hi'
            rcases List.mem_append.1 hi' with h1 | h1
            · exact hi i h1
            · obtain rfl : i = k := by simpa using h1
              have := fr_in hk; omega) (by simp; omega) (by omega)) ⟨l, x, u, D⟩ ⟨rfl, rfl⟩ l 0 (by simp)
      obtain ⟨o, o1, o2⟩ := loop
      have fin : (∀ es, ¬ (good l x duty ∧ ∃ rest, es = duty :: rest ∧ NS l x u (m - 1) (hd duty) rest)) → ∃ q, ((FleetDividerdivide_v1.loop2 m a duty ⟨l, x, u, D⟩ (FleetDividerdivide_v1 fu) l 0 u D).bind fun q180 => match q180 with | .ret r => some r | .next (q190, q196) => some (false, q190, q196)) = some q ∧ Res (DS l x u m duty) u D q := by
        intro hno
        rw [o1, Option.bind_some]
        rcases o2 with ⟨rfl, o3⟩ | ⟨q, rfl, o3, k', es, o4, o5, o6, o7⟩
        · refine ⟨_, rfl, .inl ⟨rfl, fun es h => ?_⟩⟩
          rcases (split es).1 h with h | ⟨k, h⟩
          · exact hno es h
          · exact o3 k (by have := (fr_in h.1).1; omega) es h
        · refine ⟨_, rfl, .inr ⟨o3, es, (split es).2 (.inr ⟨k', o5⟩), o6, fun es' h => ?_⟩⟩
          rcases (split es').1 h with h | ⟨k, h⟩
          · exact absurd h (hno es')
          · exact o7 k (by have := (fr_in h.1).1; omega) es' h
      by_cases c0 : c = 0
      · subst c0
        have hhd : gx duty 0 = some (hd duty) := by
          cases duty with
          | nil => exact absurd rfl hd0
          | cons p q => rfl
        have hhin := hi (hd duty) (by
          cases duty with
          | nil => exact absurd rfl hd0
          | cons p q => simp [hd])
        have hw : w64 (m - 1) = m - 1 := w64_id (by omega)
        obtain ⟨q, q1, q2⟩ := ih1 u (m - 1) (hd duty) (D ++ [duty]) hu (by omega) (by omega) (by omega) (by omega) hhin.2 (by simp; omega)
        simp only [beq_self_eq_true, if_true]
        rw [apd_lt (by simp; omega), Option.bind_some, hhd, Option.bind_some, hw, q1, Option.bind_some]
        rcases q2 with ⟨rfl, q2⟩ | ⟨q2, es, e1, e2, e3⟩
        · simp only [Bool.false_eq_true, if_false]
          have hcut : cutl (D ++ [duty]) 0 (w64 ((((D ++ [duty]).length : Nat) : Int) - 1)) = some D := by
            have hw2 : w64 ((((D ++ [duty]).length : Nat) : Int) - 1) = ((D.length : Nat) : Int) := by rw [w64_id (by simp; omega)]; simp
            rw [hw2, cutl_in (by omega) (by omega) (by simp; omega)]
            simp
          rw [hcut, Option.bind_some, Option.bind_some]
          exact fin (fun es h => by
            obtain ⟨_, rest, _, h2⟩ := h
            exact q2 rest h2)
        · simp only [q2, if_true, Option.bind_some]
          refine ⟨_, rfl, .inr ⟨rfl, duty :: es, (split _).2 (.inl ⟨hc, es, rfl, e1⟩), by rw [e2]; simp, fun es' h => ?_⟩⟩
          rcases (split es').1 h with ⟨_, rest, rfl, h2⟩ | ⟨k, h⟩
          · have := e3 rest h2
            unfold llc at this ⊢
            simp only [lcmp, lcp_gc.refl, ne_eq, not_true, if_false]
            exact this
          · obtain ⟨_, _, r, rest, rfl, _⟩ := h
            have := stop_lt duty k r es rest
            simp only [List.append_assoc, List.singleton_append]
            omega
      · have c0' : (c == 0) = false := by simpa using c0
        simp only [c0', Bool.false_eq_true, if_false, Option.bind_some]
        exact fin (fun es h => c0 (Option.some.inj (hc.symm.trans h.1)))
end
/-! the reference: all ways to part the tasks -/
theorem mem_len {L : List (List Int)} {d : List Int} (h : d ∈ L) : d.length ≤ L.flatten.length := by
  obtain ⟨A, B, rfl⟩ := List.append_of_mem h
  simp; omega
theorem rows_len : ∀ {L : List (List Int)}, (∀ d ∈ L, d ≠ []) → L.length ≤ L.flatten.length
  | [], _ => by simp
  | d :: L, h => by
    have ih := rows_len (L := L) (fun e he => h e (by simp [he]))
    have := List.length_pos_iff.2 (h d (by simp))
    rw [List.flatten_cons, List.length_cons, List.length_append]; omega
theorem hd_ple {d e : List Int} (hd0 : d ≠ []) (he0 : e ≠ []) (h : hd d < hd e) : ple d e := by
  cases d with
  | nil => exact absurd rfl hd0
  | cons a r =>
    cases e with
    | nil => exact absurd rfl he0
    | cons b s =>
      have h1 := icmp_lt.2 (show a < b from h)
      unfold ple lcp
      simp only [lcmp]
      rw [if_pos (by omega)]; omega
theorem ple_hd {d e : List Int} (hd0 : d ≠ []) (he0 : e ≠ []) (hn : hd d ≠ hd e) (h : ple d e) : hd d < hd e := by
  have h1 : ¬ hd e < hd d := by
    intro h2
    have h3 := hd_ple he0 hd0 h2
    have h4 := lcp_gc.le_anti h h3
    exact hn (by rw [h4])
  omega
theorem heads_of : ∀ {D : List (List Int)}, (∀ d ∈ D, d ≠ []) → D.flatten.Nodup → D.Pairwise ple → D.Pairwise (fun d e => hd d < hd e)
  | [], _, _, _ => by simp
  | d :: D, h, hn, hp => by
    rw [List.flatten_cons, List.nodup_append] at hn
    refine List.pairwise_cons.2 ⟨fun e he => ?_, heads_of (fun e he => h e (by simp [he])) hn.2.1 (List.pairwise_cons.1 hp).2⟩
    refine ple_hd (h d (by simp)) (h e (by simp [he])) ?_ ((List.pairwise_cons.1 hp).1 e he)
    have m1 : hd d ∈ d := by
      have := h d (by simp)
      cases d with
      | nil => exact absurd rfl this
      | cons a r => simp [hd]
    have m2 : hd e ∈ D.flatten := by
      have := h e (by simp [he])
      refine List.mem_flatten.2 ⟨e, he, ?_⟩
      cases e with
      | nil => exact absurd rfl this
      | cons a r => simp [hd]
    exact hn.2.2 _ m1 _ m2
def leq (b es : List (List Int)) : Prop := b.length < es.length ∨ (b.length = es.length ∧ llc b es ≤ 0)
theorem leq_refl (b : List (List Int)) : leq b b := .inr ⟨rfl, by rw [llc_gc.refl]; exact Int.le_refl _⟩
theorem leq_trans {a b c : List (List Int)} (h : leq a b) (k : leq b c) : leq a c := by
  rcases h with h | ⟨h, h'⟩
  · rcases k with k | ⟨k, _⟩
    · exact .inl (by omega)
    · exact .inl (by omega)
  · rcases k with k | ⟨k, k'⟩
    · exact .inl (by omega)
    · exact .inr ⟨by omega, llc_gc.le_trans h' k'⟩
theorem leq_anti {a b : List (List Int)} (h : leq a b) (k : leq b a) : a = b := by
  rcases h with h | ⟨h, h'⟩
  · rcases k with k | ⟨k, _⟩ <;> omega
  · rcases k with k | ⟨_, k'⟩
    · omega
    · exact llc_gc.le_anti h' k'
def Fr0 (l : List FleetTask) : List Bool := List.replicate l.length false
theorem fr0 (l : List FleetTask) (y : Int) : Fr (Fr0 l) y ↔ 0 ≤ y ∧ y < l.length := by
  unfold Fr Fr0
  rw [List.getElem?_replicate]
  constructor
  · rintro ⟨h1, h2⟩
    split at h2
    · omega
    · cases h2
  · rintro ⟨h1, h2⟩; exact ⟨h1, by rw [if_pos (by omega)]⟩
def Sol (l : List FleetTask) (x : FleetLimits) (es : List (List Int)) : Prop := NS l x (Fr0 l) es.length (-1) es
section
variable {l : List FleetTask} {x : FleetLimits} {R : List Int} (hE : DEnv l x) (hRs : R.Pairwise (fun a b => dep l a ≤ dep l b)) (hRn : R.Nodup) (hRm : ∀ y, y ∈ R ↔ 0 ≤ y ∧ y < l.length) (hRl : R.length = l.length)
/-- what a solution comes of -/
def Compat (R : List Int) (k : Nat) (now es : List (List Int)) : Prop :=
  ∃ rests extra, rests.length = now.length ∧ es.Perm (List.zipWith (· ++ ·) now rests ++ extra) ∧ (rests.flatten ++ extra.flatten).Perm (R.drop k) ∧ ∀ e ∈ extra, e ≠ []
theorem sol_inb {es : List (List Int)} (h : Sol l x es) {d : List Int} (hd : d ∈ es) : inb l d := fun i hi =>
  (fr0 l i).1 ((h.mem i).1 (List.mem_flatten.2 ⟨d, hd, hi⟩))
include hE hRs in
/-- the next task heads what is left of its row -/
theorem head_next {es : List (List Int)} (h : Sol l x es) {k : Nat} (hk : k < R.length) {p q : List Int} (hz : p ++ q ∈ es) (hq : ∀ y ∈ q, y ∈ R.drop k) (ht : R[k] ∈ q) : ∃ r', q = R[k] :: r' := by
  have hin := sol_inb h hz
  have hlen : (p ++ q).length ≤ 1000 := by
    have h1 := mem_len hz
    have h2 : (es.flatten.map Int.toNat).length ≤ l.length := by
      refine nodup_len l.length _ ?_ ?_
      · refine List.pairwise_map.2 (h.nd.imp_of_mem ?_)
        intro a b ha hb hab e
        have := (fr0 l a).1 ((h.mem a).1 ha); have := (fr0 l b).1 ((h.mem b).1 hb); omega
      · intro y hy
        obtain ⟨z, hz, rfl⟩ := List.mem_map.1 hy
        have := (fr0 l z).1 ((h.mem z).1 hz); omega
    rw [List.length_map] at h2
    have := hE.n8; omega
  have hpw := good_pw hE hlen hin (h.ok _ hz).2
  rw [List.pairwise_append] at hpw
  cases q with
  | nil => simp at ht
  | cons u r' =>
    by_cases e : u = R[k]
    · exact ⟨r', by rw [e]⟩
    · exfalso
      have h1 : R[k] ∈ r' := by
        rcases List.mem_cons.1 ht with h1 | h1
        · exact absurd h1.symm e
        · exact h1
      have h2 := (List.pairwise_cons.1 hpw.2.1).1 _ h1
      have h3 := hq u (by simp)
      rw [List.drop_eq_getElem_cons hk] at h3
      rcases List.mem_cons.1 h3 with h3 | h3
      · exact e h3
      · have h4 : (R.drop k).Pairwise (fun a b => dep l a ≤ dep l b) := hRs.drop
        rw [List.drop_eq_getElem_cons hk] at h4
        have := (List.pairwise_cons.1 h4).1 u h3
        omega
include hE hRs in
theorem compat_step {es : List (List Int)} (h : Sol l x es) {k : Nat} (hk : k < R.length) {now : List (List Int)} (hc : Compat R k now es) :
    (∃ i, ∃ hi : i < now.length, Compat R (k + 1) (now.set i (now[i] ++ [R[k]])) es) ∨ Compat R (k + 1) (now ++ [[R[k]]]) es := by
  obtain ⟨rests, extra, h1, h2, h3, h4⟩ := hc
  have hdrop : R.drop k = R[k] :: R.drop (k + 1) := List.drop_eq_getElem_cons hk
  have ht : R[k] ∈ rests.flatten ++ extra.flatten := h3.mem_iff.2 (by rw [hdrop]; exact List.mem_cons_self)
  have hall : ∀ y ∈ rests.flatten ++ extra.flatten, y ∈ R.drop k := fun y hy => h3.mem_iff.1 hy
  rcases List.mem_append.1 ht with ht | ht
  · left
    obtain ⟨row, hr, ht2⟩ := List.mem_flatten.1 ht
    obtain ⟨A, B, rfl⟩ := List.append_of_mem hr
    simp only [List.length_append, List.length_cons] at h1
    have hi : A.length < now.length := by omega
    have hnow : now = now.take A.length ++ now[A.length] :: now.drop (A.length + 1) := by
      rw [← List.drop_eq_getElem_cons hi, List.take_append_drop]
    have hA : (now.take A.length).length = A.length := by simp; omega
    have hzip : List.zipWith (· ++ ·) now (A ++ row :: B) = List.zipWith (· ++ ·) (now.take A.length) A ++ (now[A.length] ++ row) :: List.zipWith (· ++ ·) (now.drop (A.length + 1)) B := by
      conv => lhs; rw [hnow]
      rw [List.zipWith_append hA]; rfl
    have hz : now[A.length] ++ row ∈ es := h2.mem_iff.2 (by rw [hzip]; simp)
    obtain ⟨r', rfl⟩ := head_next hE hRs h hk hz (fun y hy => hall y (by simp [hy])) ht2
    refine ⟨A.length, hi, A ++ r' :: B, extra, by simp; omega, ?_, ?_, h4⟩
    · refine h2.trans ?_
      have hset : now.set A.length (now[A.length] ++ [R[k]]) = now.take A.length ++ (now[A.length] ++ [R[k]]) :: now.drop (A.length + 1) := by
        rw [List.set_eq_take_append_cons_drop, if_pos hi]
      rw [hzip, hset, List.zipWith_append hA]
      simp
    · rw [hdrop] at h3
      have h5 : ((A ++ (R[k] :: r') :: B).flatten ++ extra.flatten).Perm (R[k] :: ((A ++ r' :: B).flatten ++ extra.flatten)) := by
        simp only [List.flatten_append, List.flatten_cons, List.append_assoc, List.cons_append]
        exact List.perm_middle
      exact (h5.symm.trans h3).cons_inv
  · right
    obtain ⟨row, hr, ht2⟩ := List.mem_flatten.1 ht
    obtain ⟨A, B, rfl⟩ := List.append_of_mem hr
    have hz : [] ++ row ∈ es := h2.mem_iff.2 (by simp)
    obtain ⟨r', rfl⟩ := head_next hE hRs h hk hz (fun y hy => hall y (by simp [hy])) ht2
    refine ⟨rests ++ [r'], A ++ B, by simp [h1], ?_, ?_, fun e he => h4 e (by
      rcases List.mem_append.1 he with he | he
      · simp [he]
      · simp [he])⟩
    · refine h2.trans ?_
      rw [List.zipWith_append h1.symm]
      simp only [List.append_assoc]
      refine List.Perm.append_left _ ?_
      simp only [List.zipWith_cons_cons, List.zipWith_nil_left, List.cons_append, List.nil_append]
      exact List.perm_middle
    · rw [hdrop] at h3
      have h5 : (rests.flatten ++ (A ++ (R[k] :: r') :: B).flatten).Perm (R[k] :: ((rests ++ [r']).flatten ++ (A ++ B).flatten)) := by
        simp only [List.flatten_append, List.flatten_cons, List.flatten_nil, List.append_nil, List.append_assoc, List.cons_append]
        have e1 : rests.flatten ++ (A.flatten ++ R[k] :: (r' ++ B.flatten)) = (rests.flatten ++ A.flatten) ++ R[k] :: (r' ++ B.flatten) := by simp
        rw [e1]
        refine List.perm_middle.trans (List.Perm.cons _ ?_)
        rw [List.append_assoc]
        refine List.Perm.append_left _ ?_
        rw [← List.append_assoc, ← List.append_assoc]
        exact List.Perm.append_right _ List.perm_append_comm
      exact (h5.symm.trans h3).cons_inv
theorem compat_end {es now : List (List Int)} {k : Nat} (hk : R.length ≤ k) (hc : Compat R k now es) : es.Perm now := by
  obtain ⟨rests, extra, h1, h2, h3, h4⟩ := hc
  rw [List.drop_eq_nil_of_le hk] at h3
  have h5 := List.append_eq_nil_iff.1 h3.eq_nil
  have he : extra = [] := by
    cases extra with
    | nil => rfl
    | cons e E => exact absurd (List.flatten_eq_nil_iff.1 h5.2 e (by simp)) (h4 e (by simp))
  have hr := List.flatten_eq_nil_iff.1 h5.1
  have hz : ∀ (a b : List (List Int)), b.length = a.length → (∀ r ∈ b, r = []) → List.zipWith (· ++ ·) a b = a := by
    intro a
    induction a with
    | nil => intro b _ _; rfl
    | cons d a ih =>
      intro b hb hr
      cases b with
      | nil => cases hb
      | cons r b =>
        obtain rfl := hr r (by simp)
        rw [List.zipWith_cons_cons, ih b (by simpa using hb) (fun r hr' => hr r (by simp [hr']))]
        simp
  rw [he, List.append_nil, hz now rests h1 hr] at h2
  exact h2
end
section
variable {l : List FleetTask} {x : FleetLimits} {R : List Int} (hE : DEnv l x) (hRs : R.Pairwise (fun a b => dep l a ≤ dep l b)) (hRn : R.Nodup) (hRm : ∀ y, y ∈ R ↔ 0 ≤ y ∧ y < l.length) (hRl : R.length = l.length)
theorem leaf_loop {now b : List (List Int)} {f : Bool} (hn : now.length ≤ 8) (hi : ∀ d ∈ now, d ≠ [] ∧ inb l d ∧ d.length ≤ 100) : ∀ (n k : Nat), k + n = now.length →
    ∃ o, Fishref2DutiesOf_1_v1.loop2 now l x f b n k (now.take k) = some o ∧ ((o = .next now ∧ ∀ d ∈ now.drop k, good l x d) ∨ (o = .ret (now, f, b) ∧ ∃ d ∈ now, ¬ good l x d))
  | 0, k, hk => ⟨_, rfl, .inl ⟨by rw [List.take_of_length_le (by omega)], fun d hd => by rw [List.drop_eq_nil_of_le (by omega)] at hd; simp at hd⟩⟩
  | n + 1, k, hk => by
    have hkl : k < now.length := by omega
    obtain ⟨h0, h1, h2⟩ := hi now[k] (List.getElem_mem hkl)
    obtain ⟨c, c1, c2⟩ := judge_eq l now[k] x (by omega) h0 h1
    rw [Fishref2DutiesOf_1_v1.loop2, gx_at hkl, Option.bind_some, c2, Option.bind_some]
    by_cases hc : c = 0
    · subst hc
      simp only [bne_self_eq_false, Bool.false_eq_true, if_false]
      have hcl : SlicesCloneLint now[k] = some now[k] := by
        unfold SlicesCloneLint; rw [apd_lt (by simp; omega)]; rfl
      rw [hcl, Option.bind_some, apd_lt (by simp; omega), Option.bind_some, List.take_append_getElem hkl]
      obtain ⟨o, o1, o2⟩ := leaf_loop hn hi n (k + 1) (by omega)
      refine ⟨o, o1, ?_⟩
      rcases o2 with ⟨o2, o3⟩ | o2
      · refine .inl ⟨o2, fun d hd => ?_⟩
        rw [List.drop_eq_getElem_cons hkl] at hd
        rcases List.mem_cons.1 hd with rfl | hd
        · exact c1
        · exact o3 d hd
      · exact .inr o2
    · have hc' : (c != 0) = true := by simpa using hc
      simp only [hc', if_true]
      exact ⟨_, rfl, .inr ⟨rfl, now[k], List.getElem_mem hkl, fun hg => hc (Option.some.inj (c1.symm.trans hg))⟩⟩
theorem sol_ple {es : List (List Int)} (h : Sol l x es) : es.Pairwise ple := by
  refine h.heads.imp_of_mem ?_
  intro d e hd he hde
  exact hd_ple (h.ok d hd).1 (h.ok e he).1 hde
def J (l : List FleetTask) (x : FleetLimits) (f : Bool) (b : List (List Int)) : Prop := f = true → Sol l x b
def Post (l : List FleetTask) (x : FleetLimits) (f : Bool) (b : List (List Int)) (f' : Bool) (b' : List (List Int)) (C : List (List Int) → Prop) : Prop :=
  J l x f' b' ∧ (f = true → f' = true ∧ leq b' b) ∧ ∀ es, Sol l x es → C es → f' = true ∧ leq b' es
include hE hRn hRm hRl in
theorem leaf_ok {fu : Nat} (hf : 2000 ≤ fu) {now b : List (List Int)} {f : Bool} (hJ : J l x f b) (hne : ∀ d ∈ now, d ≠ []) (hp : now.flatten.Perm R) :
    ∃ f' b', ((Fishref2DutiesOf_1_v1.loop2 now l x f b now.length 0 []).bind fun q234 => match q234 with | .ret r => some r | .next q245 => ((SlicesSortFuncLLint_v1 fu q245).bind fun q295 => (((if !f then some true else (if decide (((q245.length : Nat) : Int) < ((b).length : Int)) then some true else (if (((q245.length : Nat) : Int) == ((b).length : Int)) then ((SlicesCompareFuncLLint_v1 q295 b).bind fun q309 => some (decide (q309 < 0))) else some false))) : Option Bool).bind fun q304 => (bnd ((if q304 then (true, q295) else (f, b)) : Bool × (List (List Int))) fun q316 => match q316 with | (q319, q320) => some (now, q319, q320))))) = some (now, f', b') ∧
      Post l x f b f' b' (fun es => es.Perm now) := by
  have hfl := hp.length_eq
  have h8 := hE.n8
  have hnl := rows_len hne
  have hinb : ∀ d ∈ now, d ≠ [] ∧ inb l d ∧ d.length ≤ 100 := fun d hd => ⟨hne d hd, fun i hi => (hRm i).1 (hp.mem_iff.1 (List.mem_flatten.2 ⟨d, hd, hi⟩)), by have := mem_len hd; omega⟩
  obtain ⟨o, o1, o2⟩ := leaf_loop (f := f) (b := b) (x := x) (by omega) hinb now.length 0 (by omega)
  rw [List.take_zero] at o1
  rw [o1, Option.bind_some]
  rcases o2 with ⟨rfl, o3⟩ | ⟨rfl, d, hd, hg⟩
  · rw [List.drop_zero] at o3
    obtain ⟨D, d1, d2, d3⟩ := sort_ok now (by omega) fu hf
    simp only
    rw [d1, Option.bind_some]
    have hDf : D.flatten.Perm R := d2.flatten.trans hp
    have hDne : ∀ d ∈ D, d ≠ [] := fun d hd => hne d (d2.mem_iff.1 hd)
    have hSol : Sol l x D := by
      refine ⟨rfl, fun d hd => ⟨hDne d hd, o3 d (d2.mem_iff.1 hd)⟩, hDf.nodup_iff.2 hRn, fun y => ?_, heads_of hDne (hDf.nodup_iff.2 hRn) d3, fun d hd => ?_⟩
      · rw [hDf.mem_iff, hRm, fr0]
      · have h0 := hDne d hd
        cases d with
        | nil => exact absurd rfl h0
        | cons a r =>
          have := (hRm a).1 (hDf.mem_iff.1 (List.mem_flatten.2 ⟨a :: r, hd, by simp⟩))
          show -1 < a
          omega
    have huniq : ∀ es, Sol l x es → es.Perm now → es = D := fun es h hpe =>
      List.Perm.eq_of_pairwise (le := ple) (fun a b _ _ h1 h2 => lcp_gc.le_anti h1 h2) (sol_ple h) d3 (hpe.trans d2.symm)
    have hDl := d2.length_eq
    cases hff : f with
    | false =>
      simp only [Bool.not_false, if_true, Option.bind_some, bnd_eq]
      exact ⟨true, D, rfl, fun _ => hSol, fun h => (by cases h), fun es h hpe => ⟨rfl, by rw [huniq es h hpe]; exact leq_refl _⟩⟩
    | true =>
      simp only [Bool.not_true, Bool.false_eq_true, if_false]
      by_cases c1 : ((now.length : Nat) : Int) < (b.length : Int)
      · simp only [c1, decide_true, if_true, Option.bind_some, bnd_eq]
        exact ⟨true, D, rfl, fun _ => hSol, fun _ => ⟨rfl, .inl (by omega)⟩, fun es h hpe => ⟨rfl, by rw [huniq es h hpe]; exact leq_refl _⟩⟩
      · simp only [c1, decide_false, Bool.false_eq_true, if_false]
        by_cases c2 : ((now.length : Nat) : Int) = (b.length : Int)
        · have c2' : (((now.length : Nat) : Int) == (b.length : Int)) = true := by simpa using c2
          simp only [c2', if_true, comparef_v, Option.bind_some]
          by_cases c3 : llc D b < 0
          · simp only [c3, decide_true, if_true, bnd_eq]
            exact ⟨true, D, rfl, fun _ => hSol, fun _ => ⟨rfl, .inr ⟨by omega, by omega⟩⟩, fun es h hpe => ⟨rfl, by rw [huniq es h hpe]; exact leq_refl _⟩⟩
          · simp only [c3, decide_false, Bool.false_eq_true, if_false, bnd_eq]
            subst hff
            exact ⟨true, b, rfl, hJ, fun _ => ⟨rfl, leq_refl _⟩, fun es h hpe => ⟨rfl, by rw [huniq es h hpe]; exact .inr ⟨by omega, llc_gc.le_of_not c3⟩⟩⟩
        · have c2' : (((now.length : Nat) : Int) == (b.length : Int)) = false := by simpa using c2
          simp only [c2', Bool.false_eq_true, if_false, Option.bind_some, bnd_eq]
          subst hff
          exact ⟨true, b, rfl, hJ, fun _ => ⟨rfl, leq_refl _⟩, fun es h hpe => ⟨rfl, by rw [huniq es h hpe]; exact .inl (by omega)⟩⟩
  · refine ⟨f, b, rfl, hJ, fun h => ⟨h, leq_refl _⟩, fun es h hpe => ?_⟩
    exact absurd (h.ok d (hpe.mem_iff.2 hd)).2 hg
include hE hRl in
theorem try_loop (self : (Int → (List Int) → (List (List Int)) → (List FleetTask) → FleetLimits → Bool → (List (List Int)) → Option ((List (List Int)) × Bool × (List (List Int))))) {k : Nat} (hk : k < R.length) {now : List (List Int)} (hp : now.flatten.Perm (R.take k)) (hne : ∀ d ∈ now, d ≠ [])
    (ih : ∀ (nw : List (List Int)) (f : Bool) (b : List (List Int)), nw.flatten.Perm (R.take (k + 1)) → (∀ d ∈ nw, d ≠ []) → J l x f b → ∃ f' b', self ((k + 1 : Nat) : Int) R nw l x f b = some (nw, f', b') ∧ Post l x f b f' b' (Compat R (k + 1) nw)) :
    ∀ (n i : Nat) (f : Bool) (b : List (List Int)), i + n = now.length → J l x f b →
    ∃ f' b', Fishref2DutiesOf_1_v1.loop1 ((k : Nat) : Int) R l x self n i now f b = some (now, f', b') ∧
      Post l x f b f' b' (fun es => ∃ j, ∃ hj : j < now.length, i ≤ j ∧ Compat R (k + 1) (now.set j (now[j] ++ [R[k]])) es)
  | 0, i, f, b, hi, hJ => ⟨f, b, rfl, hJ, fun h => ⟨h, leq_refl _⟩, fun es _ h => by obtain ⟨j, hj, hij, _⟩ := h; omega⟩
  | n + 1, i, f, b, hi, hJ => by
    have hil : i < now.length := by omega
    have h8 := hE.n8
    have hfl := hp.length_eq
    rw [List.length_take] at hfl
    have hdl : now[i].length ≤ 8 := by have := mem_len (List.getElem_mem hil); omega
    have hset : now.set i (now[i] ++ [R[k]]) = now.take i ++ (now[i] ++ [R[k]]) :: now.drop (i + 1) := by
      rw [List.set_eq_take_append_cons_drop, if_pos hil]
    have hnow : now = now.take i ++ now[i] :: now.drop (i + 1) := by
      rw [← List.drop_eq_getElem_cons hil, List.take_append_drop]
    have hp1 : (now.set i (now[i] ++ [R[k]])).flatten.Perm (R.take (k + 1)) := by
      rw [← List.take_append_getElem hk, hset]
      have e : now.flatten = (now.take i).flatten ++ (now[i] ++ (now.drop (i + 1)).flatten) := by
        conv => lhs; rw [hnow, List.flatten_append, List.flatten_cons]
      rw [e] at hp
      refine List.Perm.trans ?_ (hp.append_right [R[k]])
      simp only [List.flatten_append, List.flatten_cons, List.append_assoc]
      refine List.Perm.append_left _ (List.Perm.append_left _ ?_)
      exact List.perm_append_comm
    have hne1 : ∀ d ∈ now.set i (now[i] ++ [R[k]]), d ≠ [] := by
      intro d hd
      rcases List.mem_or_eq_of_mem_set hd with h | h
      · exact hne d h
      · rw [h]; simp
    obtain ⟨f1, b1, s1, s2, s3, s4⟩ := ih _ f b hp1 hne1 hJ
    obtain ⟨f2, b2, t1, t2, t3, t4⟩ := try_loop self hk hp hne ih n (i + 1) f1 b1 (by omega) s2
    have hw : w64 (((k : Nat) : Int) + 1) = ((k + 1 : Nat) : Int) := by rw [w64_id (by omega)]; omega
    have hw2 : w64 ((((now[i] ++ [R[k]]).length : Nat) : Int) - 1) = ((now[i].length : Nat) : Int) := by rw [w64_id (by simp; omega)]; simp
    have hcut : cutl (now[i] ++ [R[k]]) 0 ((now[i].length : Nat) : Int) = some now[i] := by
      rw [cutl_in (by omega) (by omega) (by simp; omega)]; simp
    have hgs : gx (now.set i (now[i] ++ [R[k]])) ((i : Nat) : Int) = some (now[i] ++ [R[k]]) := by
      rw [gx_at (by simpa using hil)]; simp
    rw [Fishref2DutiesOf_1_v1.loop1, gx_at hil, Option.bind_some, gx_at hk, Option.bind_some, apd_lt (by simp; omega), Option.bind_some, ix_in (by omega) (by omega), Option.bind_some,
      sx_in (by omega) (by omega), Option.bind_some, Int.toNat_natCast, hw, s1, Option.bind_some]
    simp only
    rw [hgs, Option.bind_some, Option.bind_some, hw2, hcut, Option.bind_some, ix_in (by omega) (by simp; omega), Option.bind_some, sx_in (by omega) (by simp; omega), Option.bind_some, Int.toNat_natCast, List.set_set, List.set_getElem_self]
    refine ⟨f2, b2, t1, t2, fun h => ?_, fun es h hc => ?_⟩
    · obtain ⟨h1, h2⟩ := s3 h
      obtain ⟨h3, h4⟩ := t3 h1
      exact ⟨h3, leq_trans h4 h2⟩
    · obtain ⟨j, hj, hij, hc⟩ := hc
      by_cases e : j = i
      · subst e
        obtain ⟨h1, h2⟩ := s4 es h hc
        obtain ⟨h3, h4⟩ := t3 h1
        exact ⟨h3, leq_trans h4 h2⟩
      · exact t4 es h ⟨j, hj, by omega, hc⟩
include hE hRs hRn hRm hRl in
theorem try_ok : ∀ (fu k : Nat) (now : List (List Int)) (f : Bool) (b : List (List Int)), k ≤ R.length → R.length - k + 2001 ≤ fu → now.flatten.Perm (R.take k) → (∀ d ∈ now, d ≠ []) → J l x f b →
    ∃ f' b', Fishref2DutiesOf_1_v1 fu ((k : Nat) : Int) R now l x f b = some (now, f', b') ∧ Post l x f b f' b' (Compat R k now)
  | 0, _, _, _, _, _, h, _, _, _ => absurd h (by omega)
  | fu + 1, k, now, f, b, hk, hf, hp, hne, hJ => by
    have h8 := hE.n8
    rw [Fishref2DutiesOf_1_v1]
    by_cases c : k < R.length
    · rw [if_pos (by simp; omega)]
      have ih : ∀ (nw : List (List Int)) (f : Bool) (b : List (List Int)), nw.flatten.Perm (R.take (k + 1)) → (∀ d ∈ nw, d ≠ []) → J l x f b → ∃ f' b', Fishref2DutiesOf_1_v1 fu ((k + 1 : Nat) : Int) R nw l x f b = some (nw, f', b') ∧ Post l x f b f' b' (Compat R (k + 1) nw) :=
        fun nw f b h1 h2 h3 => try_ok fu (k + 1) nw f b (by omega) (by omega) h1 h2 h3
      obtain ⟨f1, b1, s1, s2, s3, s4⟩ := try_loop hE hRl (Fishref2DutiesOf_1_v1 fu) c hp hne ih now.length 0 f b (by omega) hJ
      have hp1 : (now ++ [[R[k]]]).flatten.Perm (R.take (k + 1)) := by
        rw [← List.take_append_getElem c, List.flatten_append]
        exact hp.append_right _
      have hne1 : ∀ d ∈ now ++ [[R[k]]], d ≠ [] := by
        intro d hd
        rcases List.mem_append.1 hd with h | h
        · exact hne d h
        · have : d = [R[k]] := by simpa using h
          rw [this]; simp
      obtain ⟨f2, b2, t1, t2, t3, t4⟩ := ih (now ++ [[R[k]]]) f1 b1 hp1 hne1 s2
      have hfl := hp.length_eq
      rw [List.length_take] at hfl
      have hnl := rows_len hne
      have hw : w64 (((k : Nat) : Int) + 1) = ((k + 1 : Nat) : Int) := by rw [w64_id (by omega)]; omega
      have hw2 : w64 ((((now ++ [[R[k]]]).length : Nat) : Int) - 1) = ((now.length : Nat) : Int) := by rw [w64_id (by simp; omega)]; simp
      have hcut : cutl (now ++ [[R[k]]]) 0 ((now.length : Nat) : Int) = some now := by
        rw [cutl_in (by omega) (by omega) (by simp; omega)]; simp
      rw [s1, Option.bind_some]
      simp only
      rw [gx_at c, Option.bind_some, apd_lt (by simp; omega), Option.bind_some, hw, t1, Option.bind_some]
      simp only
      rw [hw2, hcut, Option.bind_some]
      refine ⟨f2, b2, rfl, t2, fun h => ?_, fun es h hc => ?_⟩
      · obtain ⟨h1, h2⟩ := s3 h
        obtain ⟨h3, h4⟩ := t3 h1
        exact ⟨h3, leq_trans h4 h2⟩
      · rcases compat_step hE hRs h c hc with ⟨i, hi, hc⟩ | hc
        · obtain ⟨h1, h2⟩ := s4 es h ⟨i, hi, by omega, hc⟩
          obtain ⟨h3, h4⟩ := t3 h1
          exact ⟨h3, leq_trans h4 h2⟩
        · exact t4 es h hc
    · rw [if_neg (by simp; omega)]
      rw [List.take_of_length_le (by omega)] at hp
      obtain ⟨f', b', h1, h2, h3, h4⟩ := leaf_ok hE hRn hRm hRl (fu := fu) (by omega) hJ hne hp
      exact ⟨f', b', h1, h2, h3, fun es h hc => h4 es h (compat_end (by omega) hc)⟩
end
theorem within_ref : Fishref2within = Fleetwithin := rfl
theorem tasks_loop : ∀ l, Fishref2TasksFault.loop1 l = FleetCheckTasks.loop1 l
  | [] => rfl
  | x :: r => by simp only [Fishref2TasksFault.loop1, FleetCheckTasks.loop1, tasks_loop r]; rfl
theorem tasks_ref (l : List FleetTask) : Fishref2TasksFault l = FleetCheckTasks l := by
  unfold Fishref2TasksFault FleetCheckTasks; rw [tasks_loop]
/-- strictly ahead: by D, then by number -/
def Lt (D : Int → Int) (x y : Int) : Prop := D x < D y ∨ (D x = D y ∧ x < y)
theorem Lt.trans {D : Int → Int} {x y z : Int} (h : Lt D x y) (k : Lt D y z) : Lt D x z := by unfold Lt at *; omega
theorem Lt.irr {D : Int → Int} {x : Int} (h : Lt D x x) : False := by unfold Lt at h; omega
theorem Lt.le {D : Int → Int} {x y : Int} (h : Lt D x y) : D x ≤ D y := by unfold Lt at h; omega

theorem lt_ext {D : Int → Int} : ∀ {l1 l2 : List Int}, l1.Pairwise (Lt D) → l2.Pairwise (Lt D) → (∀ x, x ∈ l1 ↔ x ∈ l2) → l1 = l2
  | [], [], _, _, _ => rfl
  | [], b :: _, _, _, h => absurd ((h b).2 (by simp)) (by simp)
  | a :: _, [], _, _, h => absurd ((h a).1 (by simp)) (by simp)
  | a :: t1, b :: t2, h1, h2, h => by
    rw [List.pairwise_cons] at h1 h2
    have hab : a = b := by
      have ha := (h a).1 (by simp)
      have hb := (h b).2 (by simp)
      rcases List.mem_cons.1 ha with e | e
      · exact e
      · rcases List.mem_cons.1 hb with e2 | e2
        · exact e2.symm
        · exact ((h2.1 a e).trans (h1.1 b e2)).irr.elim
    subst hab
    have ht : ∀ x, x ∈ t1 ↔ x ∈ t2 := by
      intro x
      constructor
      · intro hx
        rcases List.mem_cons.1 ((h x).1 (by simp [hx])) with e | e
        · subst e; exact (h1.1 x hx).irr.elim
        · exact e
      · intro hx
        rcases List.mem_cons.1 ((h x).2 (by simp [hx])) with e | e
        · subst e; exact (h2.1 x hx).irr.elim
        · exact e
    rw [lt_ext h1.2 h2.2 ht]

def rng (n : Nat) : List Int := (List.range n).map fun (i : Nat) => (i : Int)
theorem rng_len (n : Nat) : (rng n).length = n := by simp [rng]
theorem rng_mem (n : Nat) (x : Int) : x ∈ rng n ↔ 0 ≤ x ∧ x < n := by
  simp only [rng, List.mem_map, List.mem_range]
  constructor
  · rintro ⟨i, h, rfl⟩; omega
  · intro h; exact ⟨x.toNat, by omega, by omega⟩
theorem rng_lt (n : Nat) : (rng n).Pairwise (· < ·) := by
  unfold rng
  rw [List.pairwise_map]
  exact List.pairwise_lt_range.imp (by intro a b h; omega)
def depOf (l : List FleetTask) (x : Int) : Int := (l.getD x.toNat default).Dep
/-! the reference's order of tasks is the same -/
theorem inOrder2 (l : List FleetTask) (d : Int) : ∀ (r : List FleetTask) (k : Nat) (o : List Int), l.drop k = r → o.length + r.length ≤ 1000 → ∃ P, Fishref2inOrder.loop2 d r k o = some (o ++ P) ∧ P.Pairwise (· < ·) ∧ ∀ x, x ∈ P ↔ (k : Int) ≤ x ∧ x < l.length ∧ depOf l x = d
  | [], k, o, hd, _ => ⟨[], by simp [Fishref2inOrder.loop2], by simp, by
      intro x; have := List.drop_eq_nil_iff.1 hd; simp; omega⟩
  | v :: r, k, o, hd, hl => by
    obtain ⟨d1, d2, d3⟩ := drop_cons hd
    simp only [List.length_cons] at hl
    have hv : depOf l (k : Int) = v.Dep := by simp [depOf, List.getD_eq_getElem?_getD, d2]
    simp only [Fishref2inOrder.loop2]
    by_cases h : v.Dep = d
    · have hb : (v.Dep == d) = true := by simpa using h
      have ha : apd o [((k : Nat) : Int)] = some (o ++ [((k : Nat) : Int)]) := by unfold apd; rw [if_pos (by simp; omega)]
      simp only [hb, if_true, ha, Option.bind_some]
      obtain ⟨P, p1, p2, p3⟩ := inOrder2 l d r (k + 1) (o ++ [((k : Nat) : Int)]) d3 (by simp; omega)
      refine ⟨(k : Int) :: P, by rw [p1]; simp, List.pairwise_cons.2 ⟨fun y hy => by have := ((p3 y).1 hy).1; omega, p2⟩, ?_⟩
      intro x
      rw [List.mem_cons, p3]
      constructor
      · rintro (rfl | h1)
        · exact ⟨by omega, by omega, by rw [hv, h]⟩
        · exact ⟨by omega, h1.2⟩
      · rintro ⟨h1, h2, h3⟩
        by_cases e : x = k
        · exact .inl e
        · exact .inr ⟨by omega, h2, h3⟩
    · have hb : (v.Dep == d) = false := by simpa using h
      simp only [hb, Bool.false_eq_true, if_false, Option.bind_some]
      obtain ⟨P, p1, p2, p3⟩ := inOrder2 l d r (k + 1) o d3 (by omega)
      refine ⟨P, p1, p2, ?_⟩
      intro x
      rw [p3]
      constructor
      · rintro ⟨h1, h2⟩; exact ⟨by omega, h2⟩
      · rintro ⟨h1, h2, h3⟩
        refine ⟨?_, h2, h3⟩
        by_cases e : x = k
        · subst e; exact absurd (hv.symm.trans h3) h
        · omega
theorem inOrder1 (l : List FleetTask) (hl : l.length ≤ 40) (hD : ∀ x ∈ l, 0 ≤ x.Dep ∧ x.Dep ≤ 28800) {R : List Int} (hs : R.Pairwise (Lt (depOf l))) (hn : R.length = l.length) (hR : ∀ x, x ∈ R ↔ 0 ≤ x ∧ x < l.length) :
    ∀ (n : Nat) (d : Int), 0 ≤ d → d ≤ 28801 → (28801 - d).toNat < n → ∃ d', Fishref2inOrder.loop1 l n (R.filter fun x => decide (depOf l x < d)) d = some (R, d')
  | 0, _, _, _, h => absurd h (by omega)
  | n + 1, d, h0, h1, h2 => by
    have hdep : ∀ x ∈ R, 0 ≤ depOf l x ∧ depOf l x ≤ 28800 := by
      intro x hx
      have := (hR x).1 hx
      unfold depOf
      rw [List.getD_eq_getElem?_getD, List.getElem?_eq_getElem (by omega)]
      exact hD _ (List.getElem_mem _)
    simp only [Fishref2inOrder.loop1, bnd_eq]
    by_cases h3 : ((R.filter fun x => decide (depOf l x < d)).length : Int) < (l.length : Int) ∧ d ≤ 28800
    · simp only [h3.1, h3.2, decide_true, if_true]
      obtain ⟨P, p1, p2, p3⟩ := inOrder2 l d l 0 (R.filter fun x => decide (depOf l x < d)) rfl (by omega)
      have e : (R.filter fun x => decide (depOf l x < d)) ++ P = R.filter fun x => decide (depOf l x < d + 1) := by
        refine lt_ext (D := depOf l) ?_ (hs.filter _) ?_
        · refine List.pairwise_append.2 ⟨hs.filter _, ?_, ?_⟩
          · refine p2.imp_of_mem ?_
            intro a b ha hb hab
            have h4 := (p3 a).1 ha
            have h5 := (p3 b).1 hb
            exact .inr ⟨by rw [h4.2.2, h5.2.2], hab⟩
          · intro a ha b hb
            have h4 := (List.mem_filter.1 ha).2
            have h5 := (p3 b).1 hb
            exact .inl (by have := of_decide_eq_true h4; omega)
        · intro x
          rw [List.mem_append, p3, List.mem_filter, List.mem_filter, hR, decide_eq_true_eq, decide_eq_true_eq]
          constructor
          · rintro (h | h)
            · exact ⟨h.1, by omega⟩
            · exact ⟨⟨by omega, h.2.1⟩, by omega⟩
          · rintro ⟨h, h'⟩
            by_cases e : depOf l x < d
            · exact .inl ⟨h, e⟩
            · exact .inr ⟨by omega, h.2, by omega⟩
      rw [p1, Option.bind_some, e, w64_id (by omega)]
      exact inOrder1 l hl hD hs hn hR n (d + 1) (by omega) (by omega) (by omega)
    · have hc : (if decide (((R.filter fun x => decide (depOf l x < d)).length : Int) < (l.length : Int)) = true then decide (d ≤ 28800) else false) = false := by
        by_cases h4 : ((R.filter fun x => decide (depOf l x < d)).length : Int) < (l.length : Int)
        · have h5 : ¬ d ≤ 28800 := fun h => h3 ⟨h4, h⟩
          simp [h5]
        · simp [h4]
      have hf : (R.filter fun x => decide (depOf l x < d)) = R := by
        by_cases h4 : d ≤ 28800
        · have h5 : ¬ ((R.filter fun x => decide (depOf l x < d)).length : Int) < (l.length : Int) := fun h => h3 ⟨h, h4⟩
          have h6 := List.length_filter_le (fun x => decide (depOf l x < d)) R
          exact List.filter_eq_self.2 (List.length_filter_eq_length_iff.1 (by omega))
        · refine List.filter_eq_self.2 fun x hx => ?_
          have := hdep x hx
          exact decide_eq_true (by omega)
      rw [if_neg (by rw [hc]; simp), hf]
      exact ⟨d, rfl⟩
theorem inOrder_eq {fu : Nat} (hf : 28802 ≤ fu) (l : List FleetTask) (hl : l.length ≤ 40) (hD : ∀ x ∈ l, 0 ≤ x.Dep ∧ x.Dep ≤ 28800) {R : List Int} (hs : R.Pairwise (Lt (depOf l))) (hn : R.length = l.length) (hR : ∀ x, x ∈ R ↔ 0 ≤ x ∧ x < l.length) : Fishref2inOrder fu l = some R := by
  obtain ⟨d', h⟩ := inOrder1 l hl hD hs hn hR fu 0 (by omega) (by omega) (by omega)
  have e : (R.filter fun x => decide (depOf l x < 0)) = [] := by
    refine List.filter_eq_nil_iff.2 fun x hx => ?_
    have h1 := (hR x).1 hx
    have : 0 ≤ depOf l x := by
      unfold depOf
      rw [List.getD_eq_getElem?_getD, List.getElem?_eq_getElem (by omega)]
      exact (hD _ (List.getElem_mem _)).1
    simp; omega
  rw [e] at h
  unfold Fishref2inOrder
  rw [h]; rfl
theorem seq_self (l : List Int) : SlicesEqualLint l l = some true := by
  unfold SlicesEqualLint
  have key : ∀ (m : List Int) (k : Nat), l.drop k = m → SlicesEqualLint.loop1 l m k = some (.next ()) := by
    intro m
    induction m with
    | nil => intro k _; rfl
    | cons a m ih =>
      intro k h
      have hk : k < l.length := by
        rcases Nat.lt_or_ge k l.length with e | e
        · exact e
        · rw [List.drop_eq_nil_of_le e] at h; cases h
      rw [List.drop_eq_getElem_cons hk] at h
      injection h with h1 h2
      rw [SlicesEqualLint.loop1, gx_at hk, h1]
      simp only [Option.bind_some, bne_self_eq_false, Bool.false_eq_true, if_false]
      exact ih _ h2
  rw [key l 0 rfl]
  simp
theorem lists_self (g : List (List Int)) : Fishlaw2lists g g = some true := by
  unfold Fishlaw2lists SlicesEqualFuncLLint_v1
  have key : ∀ (m : List (List Int)) (k : Nat), g.drop k = m → SlicesEqualFuncLLint_v1.loop1 g m k = some (.next ()) := by
    intro m
    induction m with
    | nil => intro k _; rfl
    | cons a m ih =>
      intro k h
      have hk : k < g.length := by
        rcases Nat.lt_or_ge k g.length with e | e
        · exact e
        · rw [List.drop_eq_nil_of_le e] at h; cases h
      rw [List.drop_eq_getElem_cons hk] at h
      injection h with h1 h2
      rw [SlicesEqualFuncLLint_v1.loop1, gx_at hk, h1]
      simp only [Option.bind_some, seq_self, Bool.not_true, Bool.false_eq_true, if_false]
      exact ih _ h2
  rw [key g 0 rfl]
  simp
section
variable {l : List FleetTask} {x : FleetLimits} (hE : DEnv l x)
include hE
theorem duties_loop {fu : Nat} (hf : 100 ≤ fu) : ∀ (N m : Nat), m ≤ l.length + 1 → l.length + 1 - m < N →
    ∃ o, FleetDuties.loop2 l x fu N ((m : Nat) : Int) = some o ∧
      ((∃ z, o = .next z ∧ ∀ m' : Nat, m ≤ m' → ∀ es, ¬ NS l x (Fr0 l) m' (-1) es) ∨
       ∃ es, o = .ret (es, 0) ∧ ∃ m' : Nat, m ≤ m' ∧ NS l x (Fr0 l) m' (-1) es ∧ (∀ es', NS l x (Fr0 l) m' (-1) es' → llc es es' ≤ 0) ∧ ∀ m'' : Nat, m ≤ m'' → m'' < m' → ∀ es', ¬ NS l x (Fr0 l) m'' (-1) es')
  | 0, m, _, h => absurd h (Nat.not_lt_zero _)
  | N + 1, m, hm, hN => by
    have h8 := hE.n8
    have hw : w64 ((l.length : Int) + 1) = ((l.length + 1 : Nat) : Int) := by rw [w64_id (by omega)]; omega
    rw [FleetDuties.loop2, hw]
    by_cases c : m < l.length + 1
    · rw [if_pos (by simp; omega), mks_in (by omega), Option.bind_some]
      have hfr : frees (Fr0 l) = l.length := by unfold frees Fr0; simp [List.countP_replicate]
      have hlen : (Fr0 l).length = l.length := by simp [Fr0]
      by_cases h0 : l.length = 0
      · -- nothing to part: the least number is 0
        have hm0 : m = 0 := by omega
        subst hm0
        obtain rfl : l = [] := List.eq_nil_of_length_eq_zero h0
        obtain ⟨fu, rfl⟩ : ∃ z, fu = z + 1 := ⟨fu - 1, by omega⟩
        refine ⟨.ret ([], 0), rfl, .inr ⟨[], rfl, 0, Nat.le_refl _, ⟨rfl, by simp, by simp, fun y => ?_, by simp, by simp⟩, fun es' h => ?_, fun m'' _ h => absurd h (Nat.not_lt_zero _)⟩⟩
        · rw [fr0]; first | (simp; done) | (simp; omega)
        · have : es' = [] := List.eq_nil_of_length_eq_zero (by have := h.len; omega)
          rw [this]; exact Int.le_refl _
      obtain ⟨q, q1, q2⟩ := (divide_ok (x := x) h8 fu).1 (Fr0 l) (m : Int) (-1) [] hlen (by omega) (by omega) (by omega) (by omega) (by omega) (by simp; omega)
      have q1' : FleetDividerdivide_v1 fu ((m : Nat) : Int) (-1) [] ⟨l, x, List.replicate l.length false, []⟩ = some q := q1
      rw [q1', Option.bind_some]
      rcases q2 with ⟨rfl, q2⟩ | ⟨q2, es, e1, e2, e3⟩
      · simp only [Bool.false_eq_true, if_false]
        have hw2 : w64 (((m : Nat) : Int) + 1) = ((m + 1 : Nat) : Int) := by rw [w64_id (by omega)]; omega
        rw [hw2]
        obtain ⟨o, o1, o2⟩ := duties_loop hf N (m + 1) (by omega) (by omega)
        have out : ∀ m' : Nat, m ≤ m' → ∀ es, NS l x (Fr0 l) m' (-1) es → m + 1 ≤ m' := by
          intro m' h es hc
          by_cases e : m' = m
          · subst e; exact absurd hc (q2 es)
          · omega
        refine ⟨o, o1, ?_⟩
        rcases o2 with ⟨z, o2, o3⟩ | ⟨es, o2, m', o3, o4, o5, o6⟩
        · exact .inl ⟨z, o2, fun m' h es hc => o3 m' (out m' h es hc) es hc⟩
        · exact .inr ⟨es, o2, m', by omega, o4, o5, fun m'' h h' es' hc => o6 m'' (out m'' h es' hc) h' es' hc⟩
      · simp only [q2, if_true]
        rw [List.nil_append] at e2
        rw [e2]
        exact ⟨_, rfl, .inr ⟨es, rfl, m, Nat.le_refl _, e1, e3, fun m'' h h' => absurd h' (by omega)⟩⟩
    · rw [if_neg (by simp; omega)]
      refine ⟨_, rfl, .inl ⟨_, rfl, fun m' h es hc => ?_⟩⟩
      have h1 : es.length ≤ es.flatten.length := rows_len (fun d hd => (hc.ok d hd).1)
      have h2 : (es.flatten.map Int.toNat).length ≤ l.length := by
        refine nodup_len l.length _ ?_ ?_
        · refine List.pairwise_map.2 (hc.nd.imp_of_mem ?_)
          intro a b ha hb hab e
          have := (fr0 l a).1 ((hc.mem a).1 ha); have := (fr0 l b).1 ((hc.mem b).1 hb); omega
        · intro y hy
          obtain ⟨z, hz, rfl⟩ := List.mem_map.1 hy
          have := (fr0 l z).1 ((hc.mem z).1 hz); omega
      rw [List.length_map] at h2
      have := hc.len
      omega
theorem duties_v {fu : Nat} (hf : 100 ≤ fu) : ∃ o, FleetDuties.loop2 l x fu fu 0 = some o ∧ ((∃ z, o = .next z ∧ ∀ es, ¬ Sol l x es) ∨ ∃ es, o = .ret (es, 0) ∧ Sol l x es ∧ ∀ es', Sol l x es' → leq es es') := by
  have h8 := hE.n8
  obtain ⟨o, o1, o2⟩ := duties_loop hE hf fu 0 (by omega) (by omega)
  refine ⟨o, o1, ?_⟩
  rcases o2 with ⟨z, o2, o3⟩ | ⟨es, o2, m', _, o4, o5, o6⟩
  · exact .inl ⟨z, o2, fun es h => o3 es.length (Nat.zero_le _) es h⟩
  · have hl : es.length = m' := by have := o4.len; omega
    subst hl
    refine .inr ⟨es, o2, o4, fun es' h => ?_⟩
    by_cases c1 : es'.length < es.length
    · exact absurd h (o6 es'.length (Nat.zero_le _) c1 es')
    · by_cases c2 : es.length = es'.length
      · refine .inr ⟨c2, o5 es' ?_⟩
        have h' : NS l x (Fr0 l) es'.length (-1) es' := h
        rw [← c2] at h'; exact h'
      · exact .inl (by omega)
end
theorem limits_loop : ∀ l, Fishref2LimitsFault.loop1 l = FleetCheckLimits.loop1 l
  | [] => rfl
  | x :: r => by simp only [Fishref2LimitsFault.loop1, FleetCheckLimits.loop1, limits_loop r]; rfl
theorem limits_ref (x : FleetLimits) : Fishref2LimitsFault x = FleetCheckLimits x := by
  unfold Fishref2LimitsFault FleetCheckLimits; rw [limits_loop]; rfl
theorem crews_true : Fishlaw2crews = some true := by decide +kernel
theorem order_there (l : List FleetTask) : ∃ R : List Int, R.Pairwise (Lt (depOf l)) ∧ R.Perm (rng l.length) := by
  let le : Int → Int → Bool := fun a b => decide (depOf l a < depOf l b ∨ (depOf l a = depOf l b ∧ a ≤ b))
  have h1 := List.pairwise_mergeSort (le := le) (fun a b c h k => by
    have h := of_decide_eq_true h; have k := of_decide_eq_true k
    exact decide_eq_true (by omega)) (fun a b => by
    by_cases h : depOf l a < depOf l b ∨ (depOf l a = depOf l b ∧ a ≤ b)
    · simp only [le, decide_eq_true h, Bool.true_or]
    · have k : depOf l b < depOf l a ∨ (depOf l b = depOf l a ∧ b ≤ a) := by omega
      simp only [le, decide_eq_true k, Bool.or_true]) (rng l.length)
  have h2 := List.mergeSort_perm (rng l.length) le
  refine ⟨_, ?_, h2⟩
  have hn : ((rng l.length).mergeSort le).Nodup := h2.nodup_iff.2 ((rng_lt _).imp (by intro a b h e; omega))
  refine (h1.and hn).imp ?_
  rintro a b ⟨h, k⟩
  have h := of_decide_eq_true h
  unfold Lt
  rcases h with h | ⟨h, h'⟩
  · exact .inl h
  · refine .inr ⟨h, ?_⟩
    have : a ≠ b := k
    omega
theorem FleetDuties_law (l : List FleetTask) (x : FleetLimits) (_ : l.length ≤ 9223372036854775807) : ∃ fu, Fishlaw2FleetDuties fu l x = some true := by
  refine ⟨40000, ?_⟩
  have key : ∃ r, FleetDuties 40000 l x = some r ∧ Fishref2DutiesOf 40000 l x = some r := by
    unfold FleetDuties Fishref2DutiesOf
    by_cases hc : FleetcheckTasks l x = 0
    · have hr : Fishref2DutiesFault l x = if decide ((l.length : Int) > 8) = true then 4 else 0 := by
        unfold Fishref2DutiesFault
        rw [tasks_ref, limits_ref]
        unfold FleetcheckTasks at hc
        by_cases h1 : FleetCheckTasks l = 0
        · rw [h1] at hc ⊢
          simp only [bne_self_eq_false, Bool.false_eq_true, if_false] at hc ⊢
          rw [hc]
          simp only [bne_self_eq_false, Bool.false_eq_true, if_false]
        · have h1' : (FleetCheckTasks l != 0) = true := by simpa using h1
          rw [if_pos h1'] at hc; exact absurd hc h1
      simp only [hc, hr, bne_self_eq_false, Bool.false_eq_true, if_false]
      by_cases h8 : (l.length : Int) > 8
      · simp only [h8, decide_true, if_true]
        exact ⟨([], 4), rfl, rfl⟩
      · simp only [h8, decide_false, Bool.false_eq_true, if_false, bne_self_eq_false]
        have hE := env_of hc (by omega)
        obtain ⟨R, r1, r2⟩ := order_there l
        have rl : R.length = l.length := by rw [r2.length_eq, rng_len]
        have rm : ∀ y, y ∈ R ↔ 0 ≤ y ∧ y < l.length := fun y => by rw [r2.mem_iff, rng_mem]
        have hio := inOrder_eq (fu := 40000) (by omega) l (by omega) (fun t ht => by have := hE.tin t ht; omega) r1 rl rm
        obtain ⟨o, o1, o2⟩ := duties_v hE (fu := 40000) (by omega)
        obtain ⟨f', b', t1, t2, t3, t4⟩ := try_ok (x := x) hE (r1.imp (fun h => by unfold Lt depOf at h; unfold dep tk; omega)) (r2.nodup_iff.2 ((rng_lt _).imp (by intro a b h e; omega))) rm rl 40000 0 [] false [] (by omega) (by omega) (by simp) (by simp) (fun h => by cases h)
        have t1' : Fishref2DutiesOf_1_v1 40000 0 R [] l x false [] = some ([], f', b') := t1
        rw [o1, hio, Option.bind_some, Option.bind_some, t1', Option.bind_some]
        have hcomp : ∀ es, Sol l x es → Compat R 0 [] es := by
          intro es h
          refine ⟨[], es, rfl, by simp, ?_, fun e he => (h.ok e he).1⟩
          simp only [List.flatten_nil, List.nil_append, List.drop_zero]
          refine (List.perm_ext_iff_of_nodup h.nd (r2.nodup_iff.2 ((rng_lt _).imp (by intro a b h e; omega)))).2 fun y => ?_
          rw [h.mem, fr0, rm]
        rcases o2 with ⟨z, rfl, o3⟩ | ⟨es, rfl, o3, o4⟩
        · have hf' : f' = false := by
            cases f' with
            | false => rfl
            | true => exact absurd (t2 rfl) (o3 b')
          subst hf'
          exact ⟨([], 9), rfl, rfl⟩
        · obtain ⟨h1, h2⟩ := t4 es o3 (hcomp es o3)
          subst h1
          have e : b' = es := leq_anti h2 (o4 b' (t2 rfl))
          subst e
          exact ⟨(b', 0), rfl, rfl⟩
    · have hc' : (FleetcheckTasks l x != 0) = true := by simpa using hc
      have hr : Fishref2DutiesFault l x = FleetcheckTasks l x := by
        unfold Fishref2DutiesFault FleetcheckTasks at *
        rw [tasks_ref, limits_ref]
        by_cases h1 : (FleetCheckTasks l != 0) = true
        · rw [if_pos h1, if_pos h1]
        · rw [if_neg h1] at hc ⊢
          rw [if_neg h1]
          have h2 : (FleetCheckLimits x != 0) = true := by simpa using hc
          rw [if_pos h2]
      rw [hr, if_pos hc', if_pos hc']
      exact ⟨_, rfl, rfl⟩
  obtain ⟨r, h1, h2⟩ := key
  unfold Fishlaw2FleetDuties
  rw [h1, Option.bind_some, h2, Option.bind_some, crews_true, Option.bind_some]
  simp only [beq_self_eq_true, if_true]
  rw [lists_self, Option.bind_some, Option.bind_some]

end Go.Fp
