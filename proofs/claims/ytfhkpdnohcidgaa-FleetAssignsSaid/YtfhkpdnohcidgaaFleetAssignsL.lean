/- FleetAssigns: the mirror of the law is true of all tasks, sets and shops. -/
import Derived.Test.YtfhkpdnohcidgaaFleetAssignsM
import Derived.Test.YtfhkpdnohcidgaaFpPlain
import Derived.KernelRfl
namespace Go.Fp
def nd (i : Int) : Nat := i.toNat
theorem index_loop (x : Int) : ∀ (l : List Int) (k : Nat), (SlicesIndexLint.loop1 x l k = .next () ∧ x ∉ l) ∨ (∃ j : Nat, SlicesIndexLint.loop1 x l k = .ret (((k + j : Nat) : Nat) : Int) ∧ l[j]? = some x)
  | [], k => .inl ⟨rfl, by simp⟩
  | y :: r, k => by
    by_cases h : x = y
    · subst h; exact .inr ⟨0, by simp [SlicesIndexLint.loop1], rfl⟩
    · have hb : (x == y) = false := by simpa using h
      rcases index_loop x r (k + 1) with ⟨h1, h2⟩ | ⟨j, h1, h2⟩
      · exact .inl ⟨by simp [SlicesIndexLint.loop1, hb, h1], by simp [h, h2]⟩
      · refine .inr ⟨j + 1, ?_, by simpa using h2⟩
        simp only [SlicesIndexLint.loop1, hb, Bool.false_eq_true, if_false, h1]
        have e : k + 1 + j = k + (j + 1) := by omega
        rw [e]
theorem index_cases (l : List Int) (x : Int) : (SlicesIndexLint l x = -1 ∧ x ∉ l) ∨ (∃ j : Nat, SlicesIndexLint l x = (j : Int) ∧ l[j]? = some x) := by
  unfold SlicesIndexLint
  rcases index_loop x l 0 with ⟨h1, h2⟩ | ⟨j, h1, h2⟩
  · exact .inl ⟨by simp [h1, bnd_eq], h2⟩
  · exact .inr ⟨j, by simp [h1, bnd_eq], h2⟩
theorem contains_eq (l : List Int) (x : Int) : SlicesContainsLint l x = l.contains x := by
  unfold SlicesContainsLint
  rcases index_cases l x with ⟨h1, h2⟩ | ⟨j, h1, h2⟩
  · rw [h1]; simp [h2]
  · rw [h1]; have := List.mem_of_getElem? h2; simp [this]
/-! inspections: the fewest, as late as can be -/
structure Insp where
  D : List Int
  M : Nat → Bool
  lim : Int
  K : Int
structure IOk (z : Insp) : Prop where
  d0 : ∀ a ∈ z.D, 0 ≤ a
  k0 : 0 ≤ z.K
  k1 : z.K ≤ z.lim
def Insp.d (z : Insp) (k : Nat) : Int := (z.D[k]?).getD 0
def Insp.pre (z : Insp) : Nat → Int
  | 0 => 0
  | k + 1 => z.pre k + z.d k
/-- how far a set has run ahead of position k -/
def Insp.km (z : Insp) (a : List Int) : Nat → Int
  | 0 => z.K
  | k + 1 => (if a.contains ((k : Nat) : Int) then 0 else z.km a k) + z.d k
def Insp.KU (z : Insp) (a : List Int) (k : Nat) : Prop := ∀ j, j < k → z.km a (j + 1) ≤ z.lim
/-- lists of positions that may be -/
structure Insp.Val (z : Insp) (a : List Int) : Prop where
  srt : a.Pairwise (· < ·)
  may : ∀ i ∈ a, ∃ p : Nat, i = (p : Int) ∧ z.M p = true ∧ p ≤ z.D.length
section
variable {z : Insp}
theorem IOk.d (h : IOk z) (k : Nat) : 0 ≤ z.d k := by
  unfold Insp.d
  rcases Nat.lt_or_ge k z.D.length with c | c
  · rw [List.getElem?_eq_getElem c]; exact h.d0 _ (List.getElem_mem c)
  · rw [List.getElem?_eq_none c]; exact Int.le_refl _
theorem IOk.pre (h : IOk z) {a b : Nat} (hab : a ≤ b) : z.pre a ≤ z.pre b := by
  induction hab with
  | refl => exact Int.le_refl _
  | step _ ih => have := h.d (by assumption); simp only [Insp.pre]; omega
theorem IOk.km (h : IOk z) (a : List Int) : ∀ k, 0 ≤ z.km a k
  | 0 => h.k0
  | k + 1 => by
    have := h.km a k
    have := h.d k
    simp only [Insp.km]
    split <;> omega
theorem km_low (h : IOk z) {a : List Int} {p : Nat} : ∀ k, p ≤ k → (∀ i ∈ a, i ≤ (k : Int) → i ≤ (p : Int)) → z.pre (k + 1) - z.pre p ≤ z.km a (k + 1) := by
  intro k hk
  induction hk with
  | refl =>
    intro _
    have := h.km a p
    simp only [Insp.km, Insp.pre]
    split <;> omega
  | step hk ih =>
    rename_i k
    intro hm
    have hk' : p ≤ k := hk
    have h1 := ih (fun i hi h => hm i hi (by omega))
    have hn : a.contains ((k + 1 : Nat) : Int) = false := by
      rw [← Bool.not_eq_true, List.contains_iff_mem]
      intro hc
      have := hm _ hc (Int.le_refl _)
      omega
    have e : z.km a (k + 1 + 1) = z.km a (k + 1) + z.d (k + 1) := by simp only [Insp.km, hn, Bool.false_eq_true, if_false]
    have e2 : z.pre (k + 1 + 1) = z.pre (k + 1) + z.d (k + 1) := rfl
    show z.pre (k + 1 + 1) - z.pre p ≤ z.km a (k + 1 + 1)
    omega
theorem km_none {a : List Int} : ∀ (k : Nat), (∀ i ∈ a, ¬ (0 ≤ i ∧ i < (k : Int))) → z.km a k = z.K + z.pre k
  | 0, _ => by simp [Insp.km, Insp.pre]
  | k + 1, hm => by
    have h1 := km_none k (fun i hi h => hm i hi (by omega))
    have hn : a.contains ((k : Nat) : Int) = false := by
      rw [← Bool.not_eq_true, List.contains_iff_mem]
      intro hc
      exact hm _ hc (by omega)
    simp only [Insp.km, Insp.pre, hn, Bool.false_eq_true, if_false, h1]; omega
theorem km_same {a b : List Int} : ∀ (k : Nat), (∀ i : Nat, i < k → (((i : Nat) : Int) ∈ a ↔ ((i : Nat) : Int) ∈ b)) → z.km a k = z.km b k
  | 0, _ => rfl
  | k + 1, hm => by
    have h1 := km_same k (fun i hi => hm i (by omega))
    have h2 := hm k (by omega)
    have : a.contains ((k : Nat) : Int) = b.contains ((k : Nat) : Int) := by
      rw [Bool.eq_iff_iff, List.contains_iff_mem, List.contains_iff_mem]; exact h2
    simp only [Insp.km, this, h1]
/-- one more inspection -/
theorem km_app {a : List Int} {p : Nat} (ha : ∀ i ∈ a, i < (p : Int)) : (∀ j, j ≤ p → z.km (a ++ [((p : Nat) : Int)]) j = z.km a j) ∧ ∀ j, p < j → z.km (a ++ [((p : Nat) : Int)]) j = z.pre j - z.pre p := by
  refine ⟨fun j hj => km_same j fun i hi => ?_, fun j hj => ?_⟩
  · rw [List.mem_append, List.mem_singleton]
    constructor
    · rintro (h | h)
      · exact h
      · omega
    · exact .inl
  · induction hj with
    | refl =>
      have : (a ++ [((p : Nat) : Int)]).contains ((p : Nat) : Int) = true := by rw [List.contains_iff_mem]; simp
      simp only [Insp.km, Insp.pre, this, if_true]; omega
    | step hj ih =>
      rename_i j
      have hj' : p < j := hj
      have hn : (a ++ [((p : Nat) : Int)]).contains ((j : Nat) : Int) = false := by
        rw [← Bool.not_eq_true, List.contains_iff_mem, List.mem_append, List.mem_singleton]
        rintro (h | h)
        · have := ha _ h; omega
        · omega
      simp only [Insp.km, Insp.pre, hn, Bool.false_eq_true, if_false, ih]; omega
/-- ahead of all others that are kept so far -/
def Ahead (z : Insp) (a : List Int) (k : Nat) : Prop := ∀ b, z.Val b → z.KU b k → ∀ i, ∀ hi : i < a.length, ∃ hj : i < b.length, b[i] ≤ a[i]
/-- how far a set has run, by its last inspection -/
def LastKm (z : Insp) (a : List Int) (k : Nat) (fr : Int) : Prop := (a = [] ∧ fr = -1 ∧ z.km a k = z.K + z.pre k) ∨ ∃ (p : Nat), fr = (p : Int) ∧ p ≤ k ∧ a.getLast? = some (p : Int) ∧ z.km a k = z.pre k - z.pre p
theorem srt_le {b : List Int} (hs : b.Pairwise (· < ·)) {i j : Nat} (hi : i < b.length) (hj : j < b.length) (h : i ≤ j) : b[i] ≤ b[j] := by
  rcases Nat.eq_or_lt_of_le h with e | e
  · subst e; exact Int.le_refl _
  · exact Int.le_of_lt (List.pairwise_iff_getElem.1 hs i j hi hj e)
theorem getLast_at {a : List Int} {p : Int} (h : a.getLast? = some p) : ∃ hl : a.length - 1 < a.length, a[a.length - 1] = p := by
  rw [List.getLast?_eq_getElem?] at h
  exact List.getElem?_eq_some_iff.1 h
/-- who has not run too far has one inspection more -/
theorem ahead_more (h : IOk z) {a : List Int} {k : Nat} {b : List Int} (hL : (a = [] ∧ z.lim < z.K + z.pre (k + 1)) ∨ ∃ p : Nat, p ≤ k ∧ a.getLast? = some (p : Int) ∧ z.lim < z.pre (k + 1) - z.pre p) (hb : z.Val b) (hle : z.km b (k + 1) ≤ z.lim) (hA' : ∀ i, ∀ hi : i < a.length, ∃ hj : i < b.length, b[i] ≤ a[i]) : ∃ hj : a.length < b.length, b[a.length] ≤ (k : Int) := by
  refine Classical.byContradiction fun q => ?_
  have small : ∀ x ∈ b, x ≤ (k : Int) → ∃ i, ∃ hi : i < b.length, b[i] = x ∧ i < a.length := by
    intro x hx hxk
    obtain ⟨i, hi, e⟩ := List.getElem_of_mem hx
    refine ⟨i, hi, e, ?_⟩
    rcases Nat.lt_or_ge i a.length with c | c
    · exact c
    · have hlt : a.length < b.length := by omega
      have := srt_le hb.srt hlt hi c
      exact absurd ⟨hlt, by omega⟩ q
  rcases hL with ⟨ha, hkm⟩ | ⟨p, hp, hlast, hkm⟩
  · subst ha
    have := km_none (z := z) (a := b) (k + 1) (fun i hi hc => by
      obtain ⟨j, _, _, hj⟩ := small i hi (by omega)
      exact absurd hj (Nat.not_lt_zero _))
    rw [this] at hle
    omega
  · obtain ⟨hl, hlast⟩ := getLast_at hlast
    have := km_low h (a := b) (p := p) k hp (fun i hi hik => by
      obtain ⟨j, hj, e, hja⟩ := small i hi hik
      obtain ⟨hj2, h2⟩ := hA' (a.length - 1) hl
      have h3 := srt_le hb.srt hj hj2 (by omega)
      omega)
    omega
/-- what is found: the fewest, as late as can be; or there is nothing -/
def Best (z : Insp) : Option (List Int) → Prop
  | some a => z.Val a ∧ z.KU a z.D.length ∧ Ahead z a z.D.length
  | none => ∀ b, z.Val b → ¬ z.KU b z.D.length
theorem best_one {r s : Option (List Int)} (hr : Best z r) (hs : Best z s) : r = s := by
  cases r with
  | none =>
    cases s with
    | none => rfl
    | some b => exact absurd hs.2.1 (hr b hs.1)
  | some a =>
    cases s with
    | none => exact absurd hr.2.1 (hs a hr.1)
    | some b =>
      have h1 := hr.2.2 b hs.1 hs.2.1
      have h2 := hs.2.2 a hr.1 hr.2.1
      have hl : a.length = b.length := by
        rcases Nat.lt_trichotomy a.length b.length with c | c | c
        · obtain ⟨q, _⟩ := h2 a.length c; omega
        · exact c
        · obtain ⟨q, _⟩ := h1 b.length c; omega
      congr 1
      refine List.ext_getElem hl fun i i1 i2 => ?_
      obtain ⟨_, q1⟩ := h1 i i1
      obtain ⟨_, q2⟩ := h2 i i2
      omega
theorem ahead_app {a : List Int} {k p : Nat} (hA : Ahead z a k) (hm : ∀ b, z.Val b → z.KU b (k + 1) → ∃ hj : a.length < b.length, b[a.length] ≤ (p : Int)) : Ahead z (a ++ [((p : Nat) : Int)]) (k + 1) := by
  intro b hb hk i hi
  rcases Nat.lt_or_ge i a.length with c | c
  · obtain ⟨hj, h⟩ := hA b hb (fun j hj => hk j (by omega)) i c
    exact ⟨hj, by rw [List.getElem_append_left c]; exact h⟩
  · have : i = a.length := by simp at hi; omega
    subst this
    obtain ⟨hj, h⟩ := hm b hb hk
    exact ⟨hj, by rw [List.getElem_append_right (Nat.le_refl _)]; simpa using h⟩
/-- the program, on its way -/
structure Go1 (z : Insp) (k : Nat) (out : List Int) (km last fr since : Int) : Prop where
  srt : out.Pairwise (· < ·)
  may : ∀ i ∈ out, ∃ p : Nat, i = (p : Int) ∧ z.M p = true ∧ p ≤ z.D.length ∧ p < k
  kme : km = z.km out k
  ku : z.KU out k
  lk : LastKm z out k fr
  ls : (last = -1 ∧ ∀ j, j < k → z.M j = false) ∨ ∃ p : Nat, last = (p : Int) ∧ p < k ∧ z.M p = true ∧ (∀ j, j < k → z.M j = true → j ≤ p) ∧ since = z.pre k - z.pre p
  s0 : 0 ≤ since ∧ since ≤ km
  ah : Ahead z out k
theorem last_le {out : List Int} (hs : out.Pairwise (· < ·)) {p : Int} (h : out.getLast? = some p) : ∀ i ∈ out, i ≤ p := by
  obtain ⟨hl, e⟩ := getLast_at h
  intro i hi
  obtain ⟨j, hj, e2⟩ := List.getElem_of_mem hi
  rw [← e, ← e2]
  exact srt_le hs hj hl (by omega)
/-- after the look at position k -/
def seen (z : Insp) (k : Nat) (last : Int) : Int := if z.M k then (k : Int) else last
def since1 (z : Insp) (k : Nat) (since : Int) : Int := if z.M k then 0 else since
theorem go_seen (_ : IOk z) {k : Nat} {out : List Int} {km last fr since : Int} (g : Go1 z k out km last fr since) :
    (seen z k last = -1 ∧ fr = -1 ∧ ∀ j, j ≤ k → z.M j = false) ∨ ∃ p : Nat, seen z k last = (p : Int) ∧ p ≤ k ∧ z.M p = true ∧ (∀ j, j ≤ k → z.M j = true → j ≤ p) ∧ since1 z k since = z.pre k - z.pre p ∧ fr ≤ (p : Int) ∧ (∀ i ∈ out, i ≤ fr) := by
  have hfr : ∀ i ∈ out, i ≤ fr := by
    rcases g.lk with ⟨ha, _, _⟩ | ⟨p, e, _, hl, _⟩
    · subst ha; intro i hi; cases hi
    · rw [e]; exact last_le g.srt hl
  have hfm : fr = -1 ∨ ∃ p : Nat, fr = (p : Int) ∧ z.M p = true ∧ p < k := by
    rcases g.lk with ⟨_, e, _⟩ | ⟨p, e, _, hl, _⟩
    · exact .inl e
    · obtain ⟨q, e2, m, _, q2⟩ := g.may _ (List.mem_of_getLast? hl)
      exact .inr ⟨p, e, by rw [show p = q by omega]; exact m, by omega⟩
  unfold seen since1
  cases hM : z.M k with
  | true =>
    right
    refine ⟨k, by simp, Nat.le_refl _, hM, fun j hj _ => hj, by simp, ?_, hfr⟩
    rcases hfm with e | ⟨p, e, _, q⟩ <;> omega
  | false =>
    simp only [Bool.false_eq_true, if_false]
    rcases g.ls with ⟨e, hn⟩ | ⟨p, e, hp, m, hmax, hs⟩
    · left
      refine ⟨e, ?_, fun j hj => ?_⟩
      · rcases hfm with q | ⟨p, _, m, q⟩
        · exact q
        · rw [hn p q] at m; cases m
      · rcases Nat.eq_or_lt_of_le hj with c | c
        · rw [c]; exact hM
        · exact hn j c
    · right
      refine ⟨p, e, by omega, m, fun j hj mj => ?_, hs, ?_, hfr⟩
      · rcases Nat.eq_or_lt_of_le hj with c | c
        · rw [c, hM] at mj; cases mj
        · exact hmax j c mj
      · rcases hfm with q | ⟨q, e2, mq, q2⟩
        · omega
        · have := hmax q q2 mq; omega
theorem val_le {b : List Int} (hb : z.Val b) {k p : Nat} (hmax : ∀ j, j ≤ k → z.M j = true → j ≤ p) : ∀ i ∈ b, i ≤ (k : Int) → i ≤ (p : Int) := by
  intro i hi hik
  obtain ⟨q, e, m, _⟩ := hb.may i hi
  have := hmax q (by omega) m
  omega
/-- a task that fits -/
theorem go_on (h : IOk z) {k : Nat} {out : List Int} {km last fr since : Int} (g : Go1 z k out km last fr since) (_ : k < z.D.length) (hfit : km + z.d k ≤ z.lim) : Go1 z (k + 1) out (km + z.d k) (seen z k last) fr (since1 z k since + z.d k) := by
  have hnk : out.contains ((k : Nat) : Int) = false := by
    rw [← Bool.not_eq_true, List.contains_iff_mem]
    intro hc
    obtain ⟨p, e, _, _, q⟩ := g.may _ hc
    omega
  have hkm : z.km out (k + 1) = z.km out k + z.d k := by simp only [Insp.km, hnk, Bool.false_eq_true, if_false]
  have hd := h.d k
  have h0 := g.s0
  refine ⟨g.srt, fun i hi => ?_, by rw [hkm, g.kme], fun j hj => ?_, ?_, ?_, ?_, fun b hb hkb => g.ah b hb fun j hj => hkb j (by omega)⟩
  · obtain ⟨p, e, m, q1, q2⟩ := g.may i hi
    exact ⟨p, e, m, q1, by omega⟩
  · rcases Nat.eq_or_lt_of_le (Nat.le_of_lt_succ hj) with c | c
    · rw [c, hkm, ← g.kme]; exact hfit
    · exact g.ku j c
  · rcases g.lk with ⟨ha, e, q⟩ | ⟨p, e, q1, q2, q3⟩
    · exact .inl ⟨ha, e, by rw [hkm, q]; simp only [Insp.pre]; omega⟩
    · exact .inr ⟨p, e, by omega, q2, by rw [hkm, q3]; simp only [Insp.pre]; omega⟩
  · rcases go_seen h g with ⟨e, _, hn⟩ | ⟨p, e, hp, m, hmax, hs, _, _⟩
    · exact .inl ⟨e, fun j hj => hn j (by omega)⟩
    · exact .inr ⟨p, e, by omega, m, fun j hj => hmax j (by omega), by simp only [Insp.pre]; omega⟩
  · unfold since1; split <;> omega
/-- an inspection is put in -/
theorem go_put (h : IOk z) {k : Nat} {out : List Int} {km last fr since : Int} (g : Go1 z k out km last fr since) (_ : k < z.D.length) (hfit : z.lim < km + z.d k) (h1 : fr < seen z k last) (h2 : since1 z k since + z.d k ≤ z.lim) :
    Go1 z (k + 1) (out ++ [seen z k last]) (since1 z k since + z.d k) (seen z k last) (seen z k last) (since1 z k since + z.d k) := by
  rcases go_seen h g with ⟨e, e2, _⟩ | ⟨p, e, hp, m, hmax, hs, hfr, hout⟩
  · omega
  · rw [e] at h1 ⊢
    have hlt : ∀ i ∈ out, i < (p : Int) := fun i hi => by have := hout i hi; omega
    obtain ⟨a1, a2⟩ := km_app (z := z) hlt
    have hkm : z.km (out ++ [((p : Nat) : Int)]) (k + 1) = since1 z k since + z.d k := by rw [a2 _ (by omega), hs]; simp only [Insp.pre]; omega
    have hd := h.d k
    have hpp := h.pre hp
    refine ⟨?_, fun i hi => ?_, hkm.symm, fun j hj => ?_, .inr ⟨p, rfl, by omega, by simp, by rw [a2 _ (by omega)]⟩, .inr ⟨p, rfl, by omega, m, fun j hj => hmax j (by omega), by rw [hs]; simp only [Insp.pre]; omega⟩, ⟨by omega, Int.le_refl _⟩, ?_⟩
    · rw [List.pairwise_append]
      refine ⟨g.srt, by simp, fun i hi j hj => ?_⟩
      rw [List.mem_singleton] at hj; subst hj
      exact hlt i hi
    · rcases List.mem_append.1 hi with hi | hi
      · obtain ⟨q, e, m, q1, q2⟩ := g.may i hi
        exact ⟨q, e, m, q1, by omega⟩
      · rw [List.mem_singleton] at hi
        exact ⟨p, hi, m, by omega, by omega⟩
    · rcases Nat.lt_or_ge j p with c | c
      · rw [a1 _ (by omega)]; exact g.ku j (by omega)
      · rw [a2 _ (by omega)]
        have := h.pre (z := z) (a := j + 1) (b := k + 1) (by omega)
        rw [a2 _ (by omega)] at hkm
        omega
    · refine ahead_app g.ah fun b hb hkb => ?_
      obtain ⟨hj, q⟩ := ahead_more h (a := out) (k := k) (by
        have hke := g.kme
        rcases g.lk with ⟨ha, _, q⟩ | ⟨p, _, q1, q2, q3⟩
        · exact .inl ⟨ha, by simp only [Insp.pre]; omega⟩
        · exact .inr ⟨p, q1, q2, by simp only [Insp.pre]; omega⟩) hb (hkb k (Nat.lt_succ_self k)) (g.ah b hb fun j hj => hkb j (by omega))
      exact ⟨hj, val_le hb hmax _ (List.getElem_mem hj) q⟩
/-- nothing helps -/
theorem go_none (h : IOk z) {k : Nat} {out : List Int} {km last fr since : Int} (g : Go1 z k out km last fr since) (hk : k < z.D.length) (hfit : z.lim < km + z.d k) (h1 : seen z k last ≤ fr ∨ z.lim < since1 z k since + z.d k) : Best z none := by
  intro b hb hkb
  have hle := hkb k hk
  rcases go_seen h g with ⟨e, e2, hn⟩ | ⟨p, e, hp, m, hmax, hs, hfr, hout⟩
  · have := km_none (z := z) (a := b) (k + 1) (fun i hi hc => by
      obtain ⟨q, e, m, _⟩ := hb.may i hi
      rw [hn q (by omega)] at m; cases m)
    rcases g.lk with ⟨_, _, q⟩ | ⟨p, q, _⟩
    · rw [this] at hle
      have := g.kme
      simp only [Insp.pre] at hle
      omega
    · omega
  · have hl := km_low h (a := b) (p := p) k hp (val_le hb hmax)
    simp only [Insp.pre] at hl
    rcases h1 with h1 | h1
    · rcases g.lk with ⟨_, q, _⟩ | ⟨r, q, _, _, q3⟩
      · omega
      · have : r = p := by omega
        subst this
        have := g.kme
        omega
    · omega
end
/-! the positions in order -/
def mays (z : Insp) : Nat → Nat → List Int
  | _, 0 => []
  | k, m + 1 => (if z.M k then [((k : Nat) : Int)] else []) ++ mays z (k + 1) m
section
variable {z : Insp}
theorem mays_mem : ∀ (m k : Nat) (i : Int), i ∈ mays z k m ↔ ∃ p : Nat, i = (p : Int) ∧ k ≤ p ∧ p < k + m ∧ z.M p = true
  | 0, k, i => by simp [mays]; intro p _ _ _; omega
  | m + 1, k, i => by
    rw [mays, List.mem_append, mays_mem m (k + 1)]
    constructor
    · rintro (h | ⟨p, e, h1, h2, h3⟩)
      · split at h
        · rw [List.mem_singleton] at h
          exact ⟨k, h, Nat.le_refl _, by omega, by assumption⟩
        · cases h
      · exact ⟨p, e, by omega, by omega, h3⟩
    · rintro ⟨p, e, h1, h2, h3⟩
      rcases Nat.eq_or_lt_of_le h1 with c | c
      · left; subst c; rw [if_pos h3, e]; simp
      · exact .inr ⟨p, e, by omega, by omega, h3⟩
theorem mays_srt : ∀ (m k : Nat), (mays z k m).Pairwise (· < ·)
  | 0, k => by simp [mays]
  | m + 1, k => by
    rw [mays, List.pairwise_append]
    refine ⟨by split <;> simp, mays_srt m (k + 1), fun i hi j hj => ?_⟩
    obtain ⟨p, e, h1, _⟩ := (mays_mem m (k + 1) j).1 hj
    split at hi
    · rw [List.mem_singleton] at hi; omega
    · cases hi
theorem mays_len : ∀ (m k : Nat), (mays z k m).length ≤ m
  | 0, _ => Nat.le_refl _
  | m + 1, k => by
    have := mays_len m (k + 1)
    rw [mays, List.length_append]
    split <;> simp <;> omega
def Insp.mayl (z : Insp) : List Int := mays z 0 (z.D.length + 1)
theorem mayl_mem {i : Int} : i ∈ z.mayl ↔ ∃ p : Nat, i = (p : Int) ∧ z.M p = true ∧ p ≤ z.D.length := by
  unfold Insp.mayl
  rw [mays_mem]
  constructor
  · rintro ⟨p, e, _, h2, h3⟩; exact ⟨p, e, h3, by omega⟩
  · rintro ⟨p, e, h2, h3⟩; exact ⟨p, e, Nat.zero_le _, by omega, h2⟩
theorem val_iff {a : List Int} : z.Val a ↔ a.Pairwise (· < ·) ∧ ∀ i ∈ a, i ∈ z.mayl := by
  constructor
  · intro h; exact ⟨h.srt, fun i hi => mayl_mem.2 (h.may i hi)⟩
  · rintro ⟨h1, h2⟩; exact ⟨h1, fun i hi => mayl_mem.1 (h2 i hi)⟩
theorem sub_of_srt : ∀ (ms a : List Int), ms.Pairwise (· < ·) → a.Pairwise (· < ·) → (∀ i ∈ a, i ∈ ms) → a.Sublist ms
  | ms, [], _, _, _ => List.nil_sublist _
  | [], i :: a, _, _, h => by have := h i (by simp); cases this
  | m :: ms, i :: a, h1, h2, h => by
    have h1' := List.pairwise_cons.1 h1
    have h2' := List.pairwise_cons.1 h2
    rcases List.mem_cons.1 (h i (by simp)) with e | e
    · subst e
      refine (sub_of_srt ms a h1'.2 h2'.2 fun j hj => ?_).cons_cons i
      rcases List.mem_cons.1 (h j (by simp [hj])) with e | e
      · have := h2'.1 j hj; omega
      · exact e
    · refine (sub_of_srt ms (i :: a) h1'.2 h2 fun j hj => ?_).cons m
      rcases List.mem_cons.1 (h j hj) with e2 | e2
      · have hi := h1'.1 i e
        rcases List.mem_cons.1 hj with e3 | e3
        · omega
        · have := h2'.1 j e3; omega
      · exact e2
/-! the code -/
def tk (l : List FleetTask) (i : Int) : FleetTask := (l[nd i]?).getD ⟨0, 0, 0, 0, 0, 0⟩
theorem gx_tk {l : List FleetTask} {i : Int} (h0 : 0 ≤ i) (h1 : i < l.length) : gx l i = some (tk l i) := by
  have h : i.toNat < l.length := by omega
  rw [gx_toNat h0 h]; simp [tk, nd, h]
structure TOk (t : FleetTask) : Prop where
  d0 : 0 ≤ t.Dep
  d1 : t.Dep ≤ 28800
  a0 : 0 ≤ t.Arr
  a1 : t.Arr ≤ 28800
  k0 : 0 ≤ t.Km
  k1 : t.Km ≤ 10000
  up : t.Dep < t.Arr
/-- a turn of a set, and a shop -/
structure Turn (l : List FleetTask) (t : List Int) (x : FleetSet) (s : FleetShop) : Prop where
  l0 : ∀ a ∈ l, TOk a
  t0 : ∀ i ∈ t, 0 ≤ i ∧ i < l.length
  n : t.length ≤ 30000
  l1 : 0 ≤ s.Limit
  l2 : s.Limit ≤ 10000
  g0 : 0 ≤ s.Long
  g1 : s.Long ≤ 28800
  k0 : 0 ≤ x.Km
  k1 : x.Km ≤ s.Limit
def mayB (l : List FleetTask) (t : List Int) (x : FleetSet) (s : FleetShop) (k : Nat) : Bool := (Fleetmay l t x s (k : Int)).getD false
def insp (l : List FleetTask) (t : List Int) (x : FleetSet) (s : FleetShop) : Insp := ⟨t.map fun i => (tk l i).Km, mayB l t x s, s.Limit, x.Km⟩
end
section
variable {l : List FleetTask} {t : List Int} {x : FleetSet} {s : FleetShop}
theorem Turn.tk (h : Turn l t x s) {k : Nat} (hk : k < t.length) : gx t (k : Int) = some t[k] ∧ gx l t[k] = some (Fp.tk l t[k]) ∧ TOk (Fp.tk l t[k]) := by
  obtain ⟨h0, h1⟩ := h.t0 t[k] (List.getElem_mem hk)
  refine ⟨gx_at hk, gx_tk h0 h1, ?_⟩
  have : nd t[k] < l.length := by unfold nd; omega
  unfold Fp.tk
  rw [List.getElem?_eq_getElem this]
  exact h.l0 _ (List.getElem_mem this)
theorem Turn.d (_ : Turn l t x s) {k : Nat} (hk : k < t.length) : (insp l t x s).d k = (Fp.tk l t[k]).Km := by
  unfold Insp.d insp
  simp [hk]
theorem Turn.ok (h : Turn l t x s) : IOk (insp l t x s) := by
  refine ⟨fun a ha => ?_, h.k0, h.k1⟩
  simp only [insp, List.mem_map] at ha
  obtain ⟨i, hi, rfl⟩ := ha
  obtain ⟨k, hk, rfl⟩ := List.getElem_of_mem hi
  exact (h.tk hk).2.2.k0
theorem Turn.may (h : Turn l t x s) {k : Nat} (hk : k ≤ t.length) : Fleetmay l t x s (k : Int) = some ((insp l t x s).M k) := by
  have key : Tot (Fleetmay l t x s (k : Int)) := by
    have hn := h.n
    unfold Fleetmay
    by_cases c : k = 0
    · subst c
      rw [if_neg (by simp)]
      simp only [Option.bind_some]
      refine .bind ?_ fun _ _ => .some _
      refine .ite (fun _ => .ite (fun _ => .some _) fun q => ?_) fun _ => .some _
      have hlt : 0 < t.length := by
        rcases Nat.eq_zero_or_pos t.length with e | e
        · rw [e] at q; simp at q
        · exact e
      obtain ⟨e1, e2, _⟩ := h.tk hlt
      exact .bind1 e1 (.bind1 e2 (.some _))
    · rw [if_pos (by simp; omega), w64_id (by omega), show ((k : Nat) : Int) - 1 = ((k - 1 : Nat) : Int) by omega]
      obtain ⟨e1, e2, _⟩ := h.tk (k := k - 1) (by omega)
      rw [e1]
      simp only [Option.bind_some]
      rw [e2]
      simp only [Option.bind_some]
      refine .bind ?_ fun _ _ => .some _
      refine .ite (fun _ => .ite (fun _ => .some _) fun q => ?_) fun _ => .some _
      have hlt : k < t.length := by
        rcases Nat.eq_or_lt_of_le hk with e | e
        · rw [e] at q; simp at q
        · exact e
      obtain ⟨e1, e2, _⟩ := h.tk hlt
      exact .bind1 e1 (.bind1 e2 (.some _))
  obtain ⟨b, e⟩ := key
  rw [e]
  unfold insp mayB
  simp [e]
theorem Go1.kle {z : Insp} (h : IOk z) {k : Nat} {out : List Int} {km last fr since : Int} (g : Go1 z k out km last fr since) : km ≤ z.lim := by
  have := g.kme
  cases k with
  | zero => simp only [Insp.km] at this; have := h.k1; omega
  | succ k => have := g.ku k (Nat.lt_succ_self k); omega
/-- the program's search -/
theorem prog_loop (h : Turn l t x s) : ∀ (m k : Nat) (out : List Int) (km last fr since : Int) (fu : Nat), k + m = t.length → m + 1 < fu → out.length ≤ k → Go1 (insp l t x s) k out km last fr since →
    (Fleetpositions.loop2 l t x s fu out km last fr since (k : Int) = some (.ret ([], false)) ∧ Best (insp l t x s) none) ∨ ∃ a b c d e f, Fleetpositions.loop2 l t x s fu out km last fr since (k : Int) = some (.next (a, b, c, d, e, f)) ∧ Best (insp l t x s) (some a) := by
  intro m
  induction m with
  | zero =>
    intro k out km last fr since fu hk hf hol g
    have hn := h.n
    obtain ⟨fu, rfl⟩ : ∃ f, fu = f + 1 := ⟨fu - 1, by omega⟩
    right
    have hkn : k = t.length := by omega
    have hDl : (insp l t x s).D.length = t.length := by simp [insp]
    rw [Fleetpositions.loop2, w64_id (by omega), decide_eq_true (by omega)]
    simp only [if_true]
    rw [h.may (by omega)]
    simp only [Option.bind_some, bnd]
    have heq : (((k : Nat) : Int) == ((t.length : Nat) : Int)) = true := by simp [hkn]
    have hb : Best (insp l t x s) (some out) := by
      refine ⟨⟨g.srt, fun i hi => ?_⟩, by rw [hDl, ← hkn]; exact g.ku, by rw [hDl, ← hkn]; exact g.ah⟩
      obtain ⟨p, e, q1, q2, _⟩ := g.may i hi
      exact ⟨p, e, q1, q2⟩
    cases (insp l t x s).M k with
    | true =>
      simp only [if_true, heq]
      exact ⟨_, _, _, _, _, _, rfl, hb⟩
    | false =>
      simp only [Bool.false_eq_true, if_false, heq, if_true]
      exact ⟨_, _, _, _, _, _, rfl, hb⟩
  | succ m ih =>
    intro k out km last fr since fu hk hf hol g
    have hn := h.n
    have l1 := h.l1; have l2 := h.l2
    obtain ⟨fu, rfl⟩ : ∃ f, fu = f + 1 := ⟨fu - 1, by omega⟩
    have hkn : k < t.length := by omega
    have hDl : (insp l t x s).D.length = t.length := by simp [insp]
    obtain ⟨e1, e2, tok⟩ := h.tk hkn
    have k0 := tok.k0; have k1 := tok.k1
    have hd := h.d hkn
    have hkl := g.kle h.ok
    have hkl' : km ≤ s.Limit := hkl
    have hs0 := g.s0
    have hk0 : 0 ≤ km := by rw [g.kme]; exact h.ok.km _ _
    rw [Fleetpositions.loop2, w64_id (x := ((t.length : Nat) : Int) + 1) (by omega), decide_eq_true (by omega)]
    simp only [if_true]
    rw [h.may (by omega)]
    simp only [Option.bind_some, bnd]
    have hpair : (if (insp l t x s).M k = true then (((k : Nat) : Int), (0 : Int)) else (last, since)) = (seen (insp l t x s) k last, since1 (insp l t x s) k since) := by
      unfold seen since1; split <;> rfl
    rw [hpair]
    have heq : (((k : Nat) : Int) == ((t.length : Nat) : Int)) = false := beq_eq_false_iff_ne.2 (by omega)
    simp only [heq, Bool.false_eq_true, if_false]
    rw [e1]
    simp only [Option.bind_some]
    rw [e2]
    simp only [Option.bind_some]
    have hs1 : 0 ≤ since1 (insp l t x s) k since ∧ since1 (insp l t x s) k since ≤ km := by unfold since1; split <;> omega
    rw [← hd] at k0 k1 ⊢
    generalize hS : since1 (insp l t x s) k since = S1 at hs1 ⊢
    rw [w64_id (x := km + (insp l t x s).d k) (by omega), w64_id (x := S1 + (insp l t x s).d k) (by omega), w64_id (x := ((k : Nat) : Int) + 1) (by omega), show ((k : Nat) : Int) + 1 = ((k + 1 : Nat) : Int) by omega]
    by_cases c : km + (insp l t x s).d k ≤ s.Limit
    · rw [decide_eq_true c]
      simp only [if_true]
      have := go_on h.ok g (by omega) c
      rw [hS] at this
      exact ih (k + 1) out _ _ _ _ fu (by omega) (by omega) (by omega) this
    · rw [decide_eq_false c]
      simp only [Bool.false_eq_true, if_false]
      by_cases c2 : seen (insp l t x s) k last ≤ fr ∨ s.Limit < S1 + (insp l t x s).d k
      · have e : (if decide (seen (insp l t x s) k last ≤ fr) = true then true else decide (S1 + (insp l t x s).d k > s.Limit)) = true := by
          by_cases q : seen (insp l t x s) k last ≤ fr
          · rw [decide_eq_true q]; rfl
          · rw [decide_eq_false q, decide_eq_true (c2.resolve_left q)]; rfl
        rw [e]
        simp only [if_true]
        exact .inl ⟨trivial, go_none h.ok g (by omega) (by show s.Limit < _; omega) (by rw [hS]; exact c2)⟩
      · have e : (if decide (seen (insp l t x s) k last ≤ fr) = true then true else decide (S1 + (insp l t x s).d k > s.Limit)) = false := by
          rw [decide_eq_false (fun q => c2 (.inl q)), decide_eq_false (fun q => c2 (.inr q))]; rfl
        rw [e]
        simp only [Bool.false_eq_true, if_false]
        rw [apd_lt (by simp; omega)]
        simp only [Option.bind_some]
        have := go_put h.ok g (by omega) (by show s.Limit < _; omega) (by omega) (by rw [hS]; show _ ≤ s.Limit; omega)
        rw [hS] at this
        exact ih (k + 1) _ _ _ _ _ fu (by omega) (by omega) (by simp; omega) this
theorem prog_run (h : Turn l t x s) {fu : Nat} (hf : t.length + 2 ≤ fu) : ∃ r, Best (insp l t x s) r ∧ Fleetpositions fu l t x s = some (match r with | some a => (a, true) | none => ([], false)) := by
  have g : Go1 (insp l t x s) 0 [] x.Km (-1) (-1) 0 := by
    refine ⟨by simp, by simp, rfl, fun j hj => absurd hj (Nat.not_lt_zero _), .inl ⟨rfl, rfl, by simp [Insp.km, Insp.pre]⟩, .inl ⟨rfl, fun j hj => absurd hj (Nat.not_lt_zero _)⟩, ⟨Int.le_refl _, h.k0⟩, fun b _ _ i hi => absurd hi (Nat.not_lt_zero _)⟩
  unfold Fleetpositions
  rcases prog_loop h t.length 0 [] x.Km (-1) (-1) 0 fu (by omega) (by omega) (Nat.le_refl _) g with ⟨e, hb⟩ | ⟨a, b, c, d, e', f, e, hb⟩
  · have e2 : Fleetpositions.loop2 l t x s fu [] x.Km (-1) (-1) 0 0 = some (.ret ([], false)) := e
    rw [e2]; exact ⟨none, hb, rfl⟩
  · have e2 : Fleetpositions.loop2 l t x s fu [] x.Km (-1) (-1) 0 0 = some (.next (a, b, c, d, e', f)) := e
    rw [e2]; exact ⟨some a, hb, rfl⟩
/-- what the reference says of a list of positions -/
theorem kept_loop (h : Turn l t x s) (a : List Int) {j : Nat} (hj : j ≤ t.length) : ∀ (m k : Nat) (fu : Nat), k + m = j → m + 1 < fu → (insp l t x s).KU a k →
    (Fishref2kept.loop2 l (t.take j) s a fu ((insp l t x s).km a k) (k : Int) = some (.ret false) ∧ ¬ (insp l t x s).KU a j) ∨ ∃ z, Fishref2kept.loop2 l (t.take j) s a fu ((insp l t x s).km a k) (k : Int) = some (.next z) ∧ (insp l t x s).KU a j := by
  intro m
  induction m with
  | zero =>
    intro k fu hk hf hu
    have hn := h.n
    obtain ⟨fu, rfl⟩ : ∃ f, fu = f + 2 := ⟨fu - 2, by omega⟩
    have hl : (t.take j).length = j := by simp; omega
    rw [Fishref2kept.loop2, hl, w64_id (by omega), decide_eq_true (by omega), decide_eq_false (by omega)]
    simp only [if_true, Bool.false_eq_true, if_false, bnd, Option.bind_some]
    rw [Fishref2kept.loop2, hl, w64_id (by omega), w64_id (by omega), decide_eq_false (by omega)]
    simp only [Bool.false_eq_true, if_false]
    right
    exact ⟨_, rfl, by rw [show j = k by omega]; exact hu⟩
  | succ m ih =>
    intro k fu hk hf hu
    have hn := h.n
    have l1 := h.l1; have l2 := h.l2
    obtain ⟨fu, rfl⟩ : ∃ f, fu = f + 1 := ⟨fu - 1, by omega⟩
    have hl : (t.take j).length = j := by simp; omega
    have hkn : k < t.length := by omega
    obtain ⟨e1, e2, tok⟩ := h.tk hkn
    have k0 := tok.k0; have k1 := tok.k1
    have hd := h.d hkn
    have e3 : gx (t.take j) ((k : Nat) : Int) = some t[k] := by rw [gx_at (by omega)]; simp
    have hkm : (insp l t x s).km a k ≤ s.Limit := by
      cases k with
      | zero => exact h.k1
      | succ k => exact hu k (Nat.lt_succ_self k)
    have hkm0 := h.ok.km a k
    rw [Fishref2kept.loop2, hl, w64_id (x := ((j : Nat) : Int) + 1) (by omega), decide_eq_true (by omega), decide_eq_true (by omega)]
    simp only [if_true, bnd]
    rw [e3]
    simp only [Option.bind_some]
    rw [e2, contains_eq]
    simp only [Option.bind_some]
    rw [← hd] at k0 k1 ⊢
    have hc : (if a.contains ((k : Nat) : Int) = true then 0 else (insp l t x s).km a k) + (insp l t x s).d k = (insp l t x s).km a (k + 1) := rfl
    have hb0 := h.ok.km a (k + 1)
    have hb1 : (insp l t x s).km a (k + 1) ≤ 20000 := by rw [← hc]; split <;> omega
    rw [hc, w64_id (by omega), w64_id (by omega), show ((k : Nat) : Int) + 1 = ((k + 1 : Nat) : Int) by omega]
    by_cases c : (insp l t x s).km a (k + 1) > s.Limit
    · rw [decide_eq_true c]
      simp only [if_true, Option.bind_some]
      left
      refine ⟨trivial, fun q => ?_⟩
      have : (insp l t x s).km a (k + 1) ≤ s.Limit := q k (by omega)
      omega
    · rw [decide_eq_false c]
      simp only [Bool.false_eq_true, if_false, Option.bind_some]
      refine ih (k + 1) fu (by omega) (by omega) fun i hi => ?_
      rcases Nat.eq_or_lt_of_le (Nat.le_of_lt_succ hi) with e | e
      · rw [e]; show _ ≤ s.Limit; omega
      · exact hu i e
theorem kept_run (h : Turn l t x s) (a : List Int) {j : Nat} (hj : j ≤ t.length) {fu : Nat} (hf : t.length + 2 ≤ fu) : ∃ b, Fishref2kept fu l (t.take j) x s a = some b ∧ (b = true ↔ (insp l t x s).KU a j) := by
  unfold Fishref2kept
  rcases kept_loop h a hj j 0 fu (by omega) (by omega) (fun i hi => absurd hi (Nat.not_lt_zero _)) with ⟨e, q⟩ | ⟨z, e, q⟩
  · have e2 : Fishref2kept.loop2 l (t.take j) s a fu x.Km 0 = some (.ret false) := e
    rw [e2]; exact ⟨false, rfl, by simp [q]⟩
  · have e2 : Fishref2kept.loop2 l (t.take j) s a fu x.Km 0 = some (.next z) := e
    rw [e2]; exact ⟨true, rfl, by simp [q]⟩
theorem kept_all (h : Turn l t x s) (a : List Int) {fu : Nat} (hf : t.length + 2 ≤ fu) : ∃ b, Fishref2kept fu l t x s a = some b ∧ (b = true ↔ (insp l t x s).KU a (insp l t x s).D.length) := by
  have := kept_run h a (Nat.le_refl _) hf
  rw [List.take_length] at this
  simpa [insp] using this
end
/-! the reference: the latest, one by one -/
section
variable {z : Insp}
def lastf (a : List Int) : Int := (a.getLast?).getD (-1)
theorem lastf_app (a : List Int) (p : Int) : lastf (a ++ [p]) = p := by simp [lastf]
theorem lastf_le {a : List Int} (hs : a.Pairwise (· < ·)) : ∀ i ∈ a, i ≤ lastf a := by
  intro i hi
  unfold lastf
  cases h : a.getLast? with
  | none => rw [List.getLast?_eq_none_iff] at h; subst h; cases hi
  | some p => exact last_le hs h i hi
def Cand (z : Insp) (a : List Int) (i : Int) : Prop := lastf a < i ∧ z.KU a (nd i)
theorem first_fail (a : List Int) : ∀ n : Nat, ¬ z.KU a n → ∃ f, f < n ∧ z.KU a f ∧ z.lim < z.km a (f + 1)
  | 0, h => absurd (fun j hj => absurd hj (Nat.not_lt_zero _)) h
  | n + 1, h => by
    by_cases c : z.KU a n
    · refine ⟨n, Nat.lt_succ_self n, c, ?_⟩
      rcases Int.lt_or_le z.lim (z.km a (n + 1)) with q | q
      · exact q
      · exact absurd (fun j hj => by
          rcases Nat.eq_or_lt_of_le (Nat.le_of_lt_succ hj) with e | e
          · rw [e]; exact q
          · exact c j e) h
    · obtain ⟨f, h1, h2, h3⟩ := first_fail a n c
      exact ⟨f, by omega, h2, h3⟩
structure Lt (z : Insp) (a : List Int) : Prop where
  srt : a.Pairwise (· < ·)
  may : ∀ i ∈ a, i ∈ z.mayl
  kl : ∀ p : Nat, a.getLast? = some (p : Int) → z.KU a p
  ah : ∀ b, z.Val b → z.KU b z.D.length → ∀ i, ∀ hi : i < a.length, ∃ hj : i < b.length, b[i] ≤ a[i]
theorem Lt.fail (_ : IOk z) {a : List Int} (g : Lt z a) {f : Nat} (hf : z.lim < z.km a (f + 1)) : (a = [] ∧ z.lim < z.K + z.pre (f + 1)) ∨ ∃ p : Nat, p ≤ f ∧ a.getLast? = some (p : Int) ∧ z.lim < z.pre (f + 1) - z.pre p := by
  cases e : a.getLast? with
  | none =>
    rw [List.getLast?_eq_none_iff] at e
    subst e
    left
    rw [km_none (z := z) (f + 1) (fun i hi => by cases hi)] at hf
    exact ⟨rfl, hf⟩
  | some q =>
    obtain ⟨p, rfl, m, hp⟩ := mayl_mem.1 (g.may q (List.mem_of_getLast? e))
    right
    have hk := g.kl p e
    have hpf : p ≤ f := by
      rcases Nat.lt_or_ge f p with c | c
      · have := hk f c; omega
      · exact c
    obtain ⟨a0, rfl⟩ := List.getLast?_eq_some_iff.1 e
    have hlt : ∀ i ∈ a0, i < (p : Int) := by
      intro i hi
      exact (List.pairwise_append.1 g.srt).2.2 i hi _ (by simp)
    rw [(km_app (z := z) hlt).2 (f + 1) (by omega)] at hf
    exact ⟨p, hpf, rfl, hf⟩
theorem cand_iff {a : List Int} {f : Nat} (hu : z.KU a f) (hf : z.lim < z.km a (f + 1)) {i : Int} (h0 : 0 ≤ i) : Cand z a i ↔ lastf a < i ∧ i ≤ (f : Int) := by
  unfold Cand
  constructor
  · rintro ⟨h1, h2⟩
    refine ⟨h1, ?_⟩
    rcases Nat.lt_or_ge f (nd i) with c | c
    · have := h2 f c; omega
    · unfold nd at c; omega
  · rintro ⟨h1, h2⟩
    exact ⟨h1, fun j hj => hu j (by unfold nd at hj; omega)⟩
theorem lt_none (h : IOk z) {a : List Int} (g : Lt z a) (hn : ¬ z.KU a z.D.length) (hc : ∀ i ∈ z.mayl, ¬ Cand z a i) : Best z none := by
  intro b hb hkb
  obtain ⟨f, f1, f2, f3⟩ := first_fail a _ hn
  have hF := g.fail h f3
  obtain ⟨hj, hle⟩ := ahead_more h hF hb (hkb f f1) (g.ah b hb hkb)
  have hbm := (val_iff.1 hb).2
  have hall : ∀ y ∈ b, y ≤ (f : Int) → y ≤ lastf a := by
    intro y hy hyf
    have hym := hbm y hy
    obtain ⟨p, e, _, _⟩ := mayl_mem.1 hym
    rcases Int.lt_or_le (lastf a) y with c | c
    · exact absurd ((cand_iff f2 f3 (by omega)).2 ⟨c, hyf⟩) (hc y hym)
    · exact c
  rcases hF with ⟨ha, _⟩ | ⟨p, hp, hl, hlt⟩
  · have h1 := hall _ (List.getElem_mem hj) hle
    obtain ⟨q, e, _, _⟩ := mayl_mem.1 (hbm _ (List.getElem_mem hj))
    have : lastf a = -1 := by rw [ha]; rfl
    omega
  · have hlp : lastf a = (p : Int) := by unfold lastf; rw [hl]; rfl
    have := km_low h (a := b) (p := p) f hp (fun y hy hyf => by rw [← hlp]; exact hall y hy hyf)
    have := hkb f f1
    omega
theorem lt_next (h : IOk z) {a : List Int} (g : Lt z a) (hn : ¬ z.KU a z.D.length) {r : Int} (hr : r ∈ z.mayl) (hc : Cand z a r) (hm : ∀ i ∈ z.mayl, Cand z a i → i ≤ r) : Lt z (a ++ [r]) := by
  obtain ⟨f, f1, f2, f3⟩ := first_fail a _ hn
  obtain ⟨p, rfl, mp, hp⟩ := mayl_mem.1 hr
  have hci := (cand_iff f2 f3 (i := (p : Int)) (by omega)).1 hc
  have hlt : ∀ i ∈ a, i < (p : Int) := fun i hi => by have := lastf_le g.srt i hi; omega
  refine ⟨?_, ?_, ?_, ?_⟩
  · rw [List.pairwise_append]
    refine ⟨g.srt, by simp, fun i hi j hj => ?_⟩
    rw [List.mem_singleton] at hj; subst hj
    exact hlt i hi
  · intro i hi
    rcases List.mem_append.1 hi with hi | hi
    · exact g.may i hi
    · rw [List.mem_singleton] at hi; rw [hi]; exact hr
  · intro q hq
    have : (p : Int) = (q : Int) := by simpa using hq
    have hpq : p = q := by omega
    subst hpq
    intro j hj
    rw [(km_app (z := z) hlt).1 (j + 1) (by omega)]
    exact f2 j (by omega)
  · intro b hb hkb i hi
    rcases Nat.lt_or_ge i a.length with c | c
    · obtain ⟨hj, q⟩ := g.ah b hb hkb i c
      exact ⟨hj, by rw [List.getElem_append_left c]; exact q⟩
    · have : i = a.length := by simp at hi; omega
      subst this
      obtain ⟨hj, q⟩ := ahead_more h (g.fail h f3) hb (hkb f f1) (g.ah b hb hkb)
      refine ⟨hj, ?_⟩
      rw [List.getElem_append_right (Nat.le_refl _)]
      simp only [Nat.sub_self, List.getElem_cons_zero]
      have hbm := (val_iff.1 hb).2 _ (List.getElem_mem hj)
      obtain ⟨y, e, _, _⟩ := mayl_mem.1 hbm
      rcases Int.lt_or_le (lastf a) b[a.length] with c2 | c2
      · exact hm _ hbm ((cand_iff f2 f3 (by omega)).2 ⟨c2, q⟩)
      · omega
theorem filter_lt {P Q : Int → Bool} (h : ∀ i, P i = true → Q i = true) : ∀ (ms : List Int) (r : Int), r ∈ ms → Q r = true → P r = false → (ms.filter P).length < (ms.filter Q).length
  | [], r, hr, _, _ => by cases hr
  | m :: ms, r, hr, hq, hp => by
    have hle : (ms.filter P).length ≤ (ms.filter Q).length := by
      clear hr
      induction ms with
      | nil => exact Nat.le_refl _
      | cons a ms ih =>
        rw [List.filter_cons, List.filter_cons]
        cases ea : P a with
        | true => rw [if_pos rfl, if_pos (h a ea)]; simpa using ih
        | false =>
          rw [if_neg (by simp)]
          split
          · simp only [List.length_cons]; omega
          · exact ih
    rw [List.filter_cons, List.filter_cons]
    rcases List.mem_cons.1 hr with rfl | hr
    · rw [hp, hq, if_neg (by simp), if_pos rfl]
      simp only [List.length_cons]; omega
    · have ih := filter_lt h ms r hr hq hp
      cases ea : P m with
      | true => rw [if_pos rfl, if_pos (h m ea)]; simpa using ih
      | false =>
        rw [if_neg (by simp)]
        split
        · simp only [List.length_cons]; omega
        · exact ih
end
section
variable {l : List FleetTask} {t : List Int} {x : FleetSet} {s : FleetShop}
theorem latest_loop3 (h : Turn l t x s) (a : List Int) (ha : a.length ≤ 40000) {fu : Nat} (hf : t.length + 2 ≤ fu) : ∀ (ms : List Int) (q : Int), ms.Pairwise (· < ·) → (∀ i ∈ ms, i ∈ (insp l t x s).mayl) →
    ∃ r, Fishref2latest.loop3 l t x s fu a ms q = some r ∧ ((r = q ∧ ∀ i ∈ ms, ¬ Cand (insp l t x s) a i) ∨ (r ∈ ms ∧ Cand (insp l t x s) a r ∧ ∀ i ∈ ms, Cand (insp l t x s) a i → i ≤ r))
  | [], q, _, _ => ⟨q, rfl, .inl ⟨rfl, fun i hi => by cases hi⟩⟩
  | m :: ms, q, hs, hm => by
    have hn := h.n
    have hs' := List.pairwise_cons.1 hs
    obtain ⟨p, e, mp, hp⟩ := mayl_mem.1 (hm m (by simp))
    have hpn : p ≤ t.length := by simpa [insp] using hp
    have hcond : (if decide (((a.length : Nat) : Int) > 0) = true then ((gx a (w64 (((a.length : Nat) : Int) - 1))).bind fun x112 => some (decide (m ≤ x112))) else some false) = some (decide (m ≤ lastf a)) := by
      cases ea : a.getLast? with
      | none =>
        rw [List.getLast?_eq_none_iff] at ea
        subst ea
        have : ¬ m ≤ lastf [] := by show ¬ m ≤ -1; omega
        rw [decide_eq_false this]; rfl
      | some y =>
        obtain ⟨hl, e2⟩ := getLast_at ea
        have hpos : 0 < a.length := by omega
        rw [decide_eq_true (by omega)]
        simp only [if_true]
        rw [gx_prev hpos (Nat.le_refl _) (by omega)]
        simp only [Option.bind_some]
        rw [e2]
        unfold lastf
        rw [ea]; rfl
    have ih := fun q => latest_loop3 h a ha hf ms q hs'.2 (fun i hi => hm i (by simp [hi]))
    have lift : ∀ (q r : Int), ¬ Cand (insp l t x s) a m → ((r = q ∧ ∀ i ∈ ms, ¬ Cand (insp l t x s) a i) ∨ (r ∈ ms ∧ Cand (insp l t x s) a r ∧ ∀ i ∈ ms, Cand (insp l t x s) a i → i ≤ r)) →
        ((r = q ∧ ∀ i ∈ m :: ms, ¬ Cand (insp l t x s) a i) ∨ (r ∈ m :: ms ∧ Cand (insp l t x s) a r ∧ ∀ i ∈ m :: ms, Cand (insp l t x s) a i → i ≤ r)) := by
      intro q r hnc hr
      rcases hr with ⟨h1, h2⟩ | ⟨h1, h2, h3⟩
      · refine .inl ⟨h1, fun i hi => ?_⟩
        rcases List.mem_cons.1 hi with rfl | hi
        · exact hnc
        · exact h2 i hi
      · refine .inr ⟨by simp [h1], h2, fun i hi hc => ?_⟩
        rcases List.mem_cons.1 hi with rfl | hi
        · exact absurd hc hnc
        · exact h3 i hi hc
    rw [Fishref2latest.loop3, hcond]
    simp only [Option.bind_some]
    by_cases c1 : m ≤ lastf a
    · rw [decide_eq_true c1]
      simp only [if_true]
      obtain ⟨r, r1, r2⟩ := ih q
      exact ⟨r, r1, lift q r (fun hc => by have := hc.1; omega) r2⟩
    · rw [decide_eq_false c1]
      simp only [Bool.false_eq_true, if_false]
      rw [cutl_in (by omega) (by omega) (by omega)]
      simp only [Option.bind_some]
      have ecut : List.drop ((0 : Int)).toNat (List.take m.toNat t) = t.take p := by rw [e]; simp
      rw [ecut]
      obtain ⟨b, k1, k2⟩ := kept_run h a hpn hf
      rw [k1]
      simp only [Option.bind_some, bnd]
      have hnd : nd m = p := by rw [e]; simp [nd]
      cases b with
      | true =>
        have hc : Cand (insp l t x s) a m := ⟨by omega, by rw [hnd]; exact k2.1 rfl⟩
        simp only [if_true]
        obtain ⟨r, r1, r2⟩ := ih m
        refine ⟨r, r1, .inr ?_⟩
        rcases r2 with ⟨h1, h2⟩ | ⟨h1, h2, h3⟩
        · refine ⟨by rw [h1]; simp, by rw [h1]; exact hc, fun i hi hci => ?_⟩
          rcases List.mem_cons.1 hi with rfl | hi
          · omega
          · exact absurd hci (h2 i hi)
        · refine ⟨by simp [h1], h2, fun i hi hci => ?_⟩
          rcases List.mem_cons.1 hi with rfl | hi
          · exact Int.le_of_lt (hs'.1 r h1)
          · exact h3 i hi hci
      | false =>
        simp only [Bool.false_eq_true, if_false]
        obtain ⟨r, r1, r2⟩ := ih q
        refine ⟨r, r1, lift q r (fun hc => ?_) r2⟩
        have := k2.2 (by rw [← hnd]; exact hc.2)
        cases this
def wid (z : Insp) (a : List Int) : Nat := (z.mayl.filter fun i => decide (lastf a < i)).length
theorem latest_loop2 (h : Turn l t x s) {fu : Nat} (hf : t.length + 2 ≤ fu) : ∀ (w : Nat) (a : List Int) (c fm : Nat), wid (insp l t x s) a ≤ w → c + w ≤ (insp l t x s).mayl.length → w + 1 ≤ fm → a.length ≤ c → Lt (insp l t x s) a →
    ∃ r, Best (insp l t x s) r ∧ Fishref2latest.loop2 l t x s (insp l t x s).mayl fu fm a (c : Int) = some (.ret (match r with | some a => (a, true) | none => ([], false))) := by
  intro w
  induction w with
  | zero =>
    intro a c fm hw hc hfm hac g
    have hn := h.n
    have hml := mays_len (z := insp l t x s) ((insp l t x s).D.length + 1) 0
    have hDl : (insp l t x s).D.length = t.length := by simp [insp]
    have hml' : (insp l t x s).mayl.length ≤ t.length + 1 := by unfold Insp.mayl; omega
    obtain ⟨fm, rfl⟩ : ∃ f, fm = f + 1 := ⟨fm - 1, by omega⟩
    obtain ⟨b, k1, k2⟩ := kept_all h a hf
    rw [Fishref2latest.loop2, w64_id (by omega), decide_eq_true (by omega)]
    simp only [if_true]
    rw [k1]
    simp only [Option.bind_some]
    cases b with
    | true =>
      simp only [if_true]
      exact ⟨some a, ⟨val_iff.2 ⟨g.srt, g.may⟩, k2.1 rfl, g.ah⟩, rfl⟩
    | false =>
      simp only [Bool.false_eq_true, if_false]
      have hnk : ¬ (insp l t x s).KU a (insp l t x s).D.length := fun q => by have := k2.2 q; cases this
      obtain ⟨r, r1, r2⟩ := latest_loop3 h a (by omega) hf (insp l t x s).mayl (-1) (mays_srt _ _) (fun i hi => hi)
      rw [r1]
      simp only [Option.bind_some]
      rcases r2 with ⟨e, hno⟩ | ⟨e1, e2, e3⟩
      · rw [e, decide_eq_true (by omega)]
        simp only [if_true]
        exact ⟨none, lt_none h.ok g hnk hno, rfl⟩
      · have hmem : r ∈ (insp l t x s).mayl.filter fun i => decide (lastf a < i) := List.mem_filter.2 ⟨e1, decide_eq_true e2.1⟩
        have := List.length_pos_of_mem hmem
        unfold wid at hw
        omega
  | succ w ih =>
    intro a c fm hw hc hfm hac g
    have hn := h.n
    have hml := mays_len (z := insp l t x s) ((insp l t x s).D.length + 1) 0
    have hDl : (insp l t x s).D.length = t.length := by simp [insp]
    have hml' : (insp l t x s).mayl.length ≤ t.length + 1 := by unfold Insp.mayl; omega
    obtain ⟨fm, rfl⟩ : ∃ f, fm = f + 1 := ⟨fm - 1, by omega⟩
    obtain ⟨b, k1, k2⟩ := kept_all h a hf
    rw [Fishref2latest.loop2, w64_id (x := (((insp l t x s).mayl.length : Nat) : Int) + 1) (by omega), decide_eq_true (by omega)]
    simp only [if_true]
    rw [k1]
    simp only [Option.bind_some]
    cases b with
    | true =>
      simp only [if_true]
      exact ⟨some a, ⟨val_iff.2 ⟨g.srt, g.may⟩, k2.1 rfl, g.ah⟩, rfl⟩
    | false =>
      simp only [Bool.false_eq_true, if_false]
      have hnk : ¬ (insp l t x s).KU a (insp l t x s).D.length := fun q => by have := k2.2 q; cases this
      obtain ⟨r, r1, r2⟩ := latest_loop3 h a (by omega) hf (insp l t x s).mayl (-1) (mays_srt _ _) (fun i hi => hi)
      rw [r1]
      simp only [Option.bind_some]
      rcases r2 with ⟨e, hno⟩ | ⟨e1, e2, e3⟩
      · rw [e, decide_eq_true (by omega)]
        simp only [if_true]
        exact ⟨none, lt_none h.ok g hnk hno, rfl⟩
      · obtain ⟨p, ep, _, _⟩ := mayl_mem.1 e1
        rw [decide_eq_false (by omega)]
        simp only [Bool.false_eq_true, if_false]
        rw [apd_lt (by simp; omega)]
        simp only [Option.bind_some]
        rw [w64_id (x := ((c : Nat) : Int) + 1) (by omega), show ((c : Nat) : Int) + 1 = ((c + 1 : Nat) : Int) by omega]
        have hlt := filter_lt (P := fun i => decide (lastf (a ++ [r]) < i)) (Q := fun i => decide (lastf a < i)) (fun i hi => by
          rw [lastf_app] at hi
          have h1 := of_decide_eq_true hi
          have h2 := e2.1
          exact decide_eq_true (by omega)) (insp l t x s).mayl r e1 (decide_eq_true e2.1) (by rw [lastf_app]; exact decide_eq_false (by omega))
        refine ih (a ++ [r]) (c + 1) fm ?_ (by omega) (by omega) (by simp; omega) (lt_next h.ok g hnk e1 e2 e3)
        unfold wid at hw ⊢
        omega
theorem latest_run (h : Turn l t x s) {fu : Nat} (hf : t.length + 3 ≤ fu) : ∃ r, Best (insp l t x s) r ∧ Fishref2latest fu l t x s (insp l t x s).mayl = some (match r with | some a => (a, true) | none => ([], false)) := by
  have hml := mays_len (z := insp l t x s) ((insp l t x s).D.length + 1) 0
  have hDl : (insp l t x s).D.length = t.length := by simp [insp]
  have hml' : (insp l t x s).mayl.length ≤ t.length + 1 := by unfold Insp.mayl; omega
  obtain ⟨r, h1, h2⟩ := latest_loop2 h (fu := fu) (by omega) (insp l t x s).mayl.length [] 0 fu (List.length_filter_le ..) (by omega) (by omega) (Nat.le_refl _) ⟨by simp, by simp, by simp, fun b _ _ i hi => absurd hi (Nat.not_lt_zero _)⟩
  unfold Fishref2latest
  have h2' : Fishref2latest.loop2 l t x s (insp l t x s).mayl fu fu [] 0 = _ := h2
  rw [h2']
  exact ⟨r, h1, rfl⟩
end
/-! single bits -/
theorem bit_and1 {x : Int} (h0 : 0 ≤ x) (h1 : x < 9223372036854775808) : IntKind.wrap .i64 ((BitVec.ofInt (IntKind.bits .i64) x &&& BitVec.ofInt (IntKind.bits .i64) 1).toNat : Int) = x % 2 := by
  have e : (BitVec.ofInt (IntKind.bits .i64) x &&& BitVec.ofInt (IntKind.bits .i64) 1).toNat = x.toNat % 2 := by
    show (BitVec.ofInt 64 x &&& BitVec.ofInt 64 1).toNat = x.toNat % 2
    rw [BitVec.toNat_and]
    have h2 : (BitVec.ofInt 64 1).toNat = 1 := by decide
    have h3 : (BitVec.ofInt 64 x).toNat = x.toNat := by
      rw [BitVec.toNat_ofInt]
      have : x % ((2 ^ 64 : Nat) : Int) = x := Int.emod_eq_of_lt h0 (by omega)
      rw [this]
    rw [h2, h3, Nat.and_one_is_mod]
  rw [e]
  have : ((x.toNat % 2 : Nat) : Int) = x % 2 := by omega
  rw [this]
  exact IntWalk.i64_in _ ⟨by omega, by omega⟩
theorem shr_nat {x : Int} (h0 : 0 ≤ x) {k : Nat} (hk : k ≤ 64) : Int.fdiv x (2 ^ (min (Int.toNat ((k : Nat) : Int)) (IntKind.bits .i64))) = x / 2 ^ k := by
  have e : min (Int.toNat ((k : Nat) : Int)) (IntKind.bits .i64) = k := by show min (Int.toNat ((k : Nat) : Int)) 64 = k; omega
  rw [e, Int.fdiv_eq_ediv_of_nonneg x (Int.le_of_lt (Int.pow_pos (by omega)))]
theorem shr_lt {x : Int} (h0 : 0 ≤ x) (h1 : x < 9223372036854775808) (k : Nat) : 0 ≤ x / 2 ^ k ∧ x / 2 ^ k < 9223372036854775808 := by
  have hp : (0 : Int) < 2 ^ k := Int.pow_pos (by omega)
  exact ⟨Int.ediv_nonneg h0 (Int.le_of_lt hp), Int.lt_of_le_of_lt (Int.ediv_le_self _ h0) h1⟩
/-! lists compared -/
theorem compare_tot (b : List Int) (hb : b.length ≤ 9223372036854775807) : ∀ (a : List Int) (k : Nat), Tot (SlicesCompareLint.loop1 b a k)
  | [], _ => .some _
  | x :: a, k => by
    rw [SlicesCompareLint.loop1]
    refine .ite (fun _ => .some _) fun h => ?_
    have h := of_decide_eq_false h
    exact .bind1 (gx_at (by omega)) (.ite (fun _ => .some _) fun _ => compare_tot b hb a (k + 1))
theorem compare_ok (a b : List Int) (hb : b.length ≤ 9223372036854775807) : Tot (SlicesCompareLint a b) := by
  unfold SlicesCompareLint
  refine .bind (compare_tot b hb a 0) fun z _ => ?_
  cases z
  · exact .some _
  · exact .ite (fun _ => .some _) fun _ => .some _
/-! the reference: all lists, the shorter ones first -/
def selb : Nat → List Int → List Int
  | _, [] => []
  | b, m :: ms => (if b % 2 = 1 then [m] else []) ++ selb (b / 2) ms
theorem sel_sub : ∀ (ms : List Int) (b : Nat), (selb b ms).Sublist ms
  | [], _ => List.Sublist.refl _
  | m :: ms, b => by
    rw [selb]
    split
    · exact (sel_sub ms _).cons_cons m
    · exact (sel_sub ms _).cons m
theorem sel_all : ∀ (ms a : List Int), a.Sublist ms → ∃ b, b < 2 ^ ms.length ∧ selb b ms = a
  | [], a, h => ⟨0, by simp, by rw [List.sublist_nil.1 h]; rfl⟩
  | m :: ms, a, h => by
    rw [List.length_cons, Nat.pow_succ]
    rcases List.sublist_cons_iff.1 h with h | ⟨r, e, h3⟩
    · obtain ⟨b, h1, h2⟩ := sel_all ms a h
      refine ⟨2 * b, by omega, ?_⟩
      rw [selb, if_neg (by omega), show 2 * b / 2 = b by omega, h2]; rfl
    · subst e
      obtain ⟨b, h1, h2⟩ := sel_all ms r h3
      refine ⟨2 * b + 1, by omega, ?_⟩
      rw [selb, if_pos (by omega), show (2 * b + 1) / 2 = b by omega, h2]; rfl
theorem sel_loop (ms : List Int) (b : Nat) (hb : b < 4294967296) (hm : ms.length ≤ 60) : ∀ (m k : Nat) (acc : List Int), k + m = ms.length → acc.length ≤ k → Fishref2positions.loop7 ms ((b : Nat) : Int) m k acc = some (acc ++ selb (b / 2 ^ k) (ms.drop k))
  | 0, k, acc, h, _ => by rw [List.drop_eq_nil_of_le (by omega)]; simp [Fishref2positions.loop7, selb]
  | m + 1, k, acc, h, hacc => by
    have hk : k < ms.length := by omega
    obtain ⟨s1, s2⟩ := shr_lt (x := ((b : Nat) : Int)) (by omega) (by omega) k
    rw [Fishref2positions.loop7, gx_at hk]
    simp only [Option.bind_some]
    rw [shr_nat (by omega) (by omega), bit_and1 s1 s2]
    have e : ((b : Nat) : Int) / 2 ^ k % 2 = ((b / 2 ^ k % 2 : Nat) : Int) := by
      rw [Int.natCast_emod, Int.natCast_ediv, Int.natCast_pow]; rfl
    rw [e, List.drop_eq_getElem_cons hk, selb, Nat.div_div_eq_div_mul, ← Nat.pow_succ]
    by_cases c : b / 2 ^ k % 2 = 1
    · rw [c, if_pos (by simp), if_pos rfl, apd_lt (by simp; omega)]
      simp only [Option.bind_some]
      rw [sel_loop ms b hb hm m (k + 1) _ (by omega) (by simp; omega)]
      simp
    · rw [if_neg (by simp; omega), if_neg c]
      simp only [Option.bind_some]
      rw [sel_loop ms b hb hm m (k + 1) _ (by omega) (by omega)]
      simp
theorem cmp_eq (a b : Int) : CmpCompareint a b = if a < b then -1 else if b < a then 1 else 0 := by
  unfold CmpCompareint CmpisNaNint
  simp only [bne_self_eq_false, Bool.false_eq_true, if_false, decide_eq_true_eq, gt_iff_lt]
/-- one list is not above the other one, place by place -/
def Pw (a b : List Int) : Prop := a.length = b.length ∧ ∀ i, ∀ hi : i < a.length, ∃ hj : i < b.length, a[i] ≤ b[i]
theorem cmp_loop (a b : List Int) (hl : a.length = b.length) (hb : b.length ≤ 100000) (hp : ∀ i, ∀ hi : i < a.length, a[i] ≤ b[i]'(by omega)) : ∀ (m k : Nat), k + m = a.length → (∃ v, SlicesCompareLint.loop1 b (a.drop k) k = some (.ret v) ∧ v = -1 ∧ a.drop k ≠ b.drop k) ∨ (SlicesCompareLint.loop1 b (a.drop k) k = some (.next ()) ∧ a.drop k = b.drop k)
  | 0, k, h => by
    rw [List.drop_eq_nil_of_le (by omega), List.drop_eq_nil_of_le (by omega)]
    exact .inr ⟨rfl, rfl⟩
  | m + 1, k, h => by
    have hk : k < a.length := by omega
    have hkb : k < b.length := by omega
    have hle := hp k hk
    rw [List.drop_eq_getElem_cons hk, List.drop_eq_getElem_cons hkb, SlicesCompareLint.loop1, decide_eq_false (by omega)]
    simp only [Bool.false_eq_true, if_false]
    rw [gx_at hkb]
    simp only [Option.bind_some]
    rw [cmp_eq]
    rcases Int.lt_or_eq_of_le hle with c | c
    · rw [if_pos c]
      left
      exact ⟨-1, rfl, rfl, fun q => by injection q with q1 _; omega⟩
    · rw [c, if_neg (Int.lt_irrefl _), if_neg (Int.lt_irrefl _)]
      simp only [bne_self_eq_false, Bool.false_eq_true, if_false]
      rcases cmp_loop a b hl hb hp m (k + 1) (by omega) with ⟨v, h1, h2, h3⟩ | ⟨h1, h2⟩
      · exact .inl ⟨v, h1, h2, fun q => by injection q with _ q2; exact h3 q2⟩
      · exact .inr ⟨h1, by rw [h2]⟩
theorem cmp_loop2 (a b : List Int) (hl : a.length = b.length) (hb : b.length ≤ 100000) (hp : ∀ i, ∀ hi : i < a.length, b[i]'(by omega) ≤ a[i]) : ∀ (m k : Nat), k + m = a.length → (∃ v, SlicesCompareLint.loop1 b (a.drop k) k = some (.ret v) ∧ v = 1) ∨ (SlicesCompareLint.loop1 b (a.drop k) k = some (.next ()) ∧ a.drop k = b.drop k)
  | 0, k, h => by
    rw [List.drop_eq_nil_of_le (by omega), List.drop_eq_nil_of_le (by omega)]
    exact .inr ⟨rfl, rfl⟩
  | m + 1, k, h => by
    have hk : k < a.length := by omega
    have hkb : k < b.length := by omega
    have hle := hp k hk
    rw [List.drop_eq_getElem_cons hk, List.drop_eq_getElem_cons hkb, SlicesCompareLint.loop1, decide_eq_false (by omega)]
    simp only [Bool.false_eq_true, if_false]
    rw [gx_at hkb]
    simp only [Option.bind_some]
    rw [cmp_eq]
    rcases Int.lt_or_eq_of_le hle with c | c
    · rw [if_neg (show ¬ a[k] < b[k] by omega), if_pos c]
      left
      exact ⟨1, rfl, rfl⟩
    · rw [c, if_neg (Int.lt_irrefl _), if_neg (Int.lt_irrefl _)]
      simp only [bne_self_eq_false, Bool.false_eq_true, if_false]
      rcases cmp_loop2 a b hl hb hp m (k + 1) (by omega) with ⟨v, h1, h2⟩ | ⟨h1, h2⟩
      · exact .inl ⟨v, h1, h2⟩
      · exact .inr ⟨h1, by rw [h2]⟩
theorem cmp_low {a b : List Int} (h : Pw a b) (hb : b.length ≤ 100000) : ∃ v, SlicesCompareLint a b = some v ∧ ¬ v > 0 := by
  unfold SlicesCompareLint
  have hl := h.1
  rcases cmp_loop a b h.1 hb (fun i hi => (h.2 i hi).2) a.length 0 (by omega) with ⟨v, h1, h2, _⟩ | ⟨h1, _⟩
  · rw [List.drop_zero] at h1
    rw [h1]; exact ⟨v, rfl, by omega⟩
  · rw [List.drop_zero] at h1
    rw [h1]
    simp only [Option.bind_some]
    rw [decide_eq_false (by omega)]
    exact ⟨0, rfl, by omega⟩
theorem cmp_high {a b : List Int} (h : Pw b a) (hne : a ≠ b) (hb : b.length ≤ 100000) : ∃ v, SlicesCompareLint a b = some v ∧ v > 0 := by
  unfold SlicesCompareLint
  rcases cmp_loop2 a b h.1.symm hb (fun i hi => (h.2 i (by have := h.1; omega)).2) a.length 0 (by omega) with ⟨v, h1, h2⟩ | ⟨h1, h2⟩
  · rw [List.drop_zero] at h1
    rw [h1]; exact ⟨v, rfl, by omega⟩
  · rw [List.drop_zero, List.drop_zero] at h2
    exact absurd h2 hne
section
variable {l : List FleetTask} {t : List Int} {x : FleetSet} {s : FleetShop}
/-- a list that counts, for a size -/
def Hit (z : Insp) (n : Nat) (a : List Int) : Prop := z.Val a ∧ z.KU a z.D.length ∧ a.length = n
theorem sel_val {z : Insp} (b : Nat) : z.Val (selb b z.mayl) := by
  have hs := sel_sub z.mayl b
  exact val_iff.2 ⟨(mays_srt _ _).sublist hs, fun i hi => hs.subset hi⟩
theorem pow_small {m : Nat} (h : m ≤ 12) : 2 ^ m ≤ 4096 ∧ IntKind.wrap .i64 (1 * (2 ^ (min (Int.toNat ((m : Nat) : Int)) (IntKind.bits .i64)))) = ((2 ^ m : Nat) : Int) := by
  have h1 : 2 ^ m ≤ 2 ^ 12 := Nat.pow_le_pow_right (by omega) h
  have e : min (Int.toNat ((m : Nat) : Int)) (IntKind.bits .i64) = m := by show min (Int.toNat ((m : Nat) : Int)) 64 = m; omega
  rw [e, Int.one_mul]
  have e2 : ((2 : Int) ^ m) = ((2 ^ m : Nat) : Int) := by rw [Int.natCast_pow]; rfl
  rw [e2]
  have h2 : 2 ^ m ≤ 4096 := h1
  generalize 2 ^ m = N at h2 ⊢
  exact ⟨h2, w64_id (by omega)⟩
theorem enum_loop6 (h : Turn l t x s) (hm : (insp l t x s).mayl.length ≤ 12) {fu : Nat} (hf : t.length + 2 ≤ fu) {n : Nat} {g : List Int} (hg : ∀ a, Hit (insp l t x s) n a → Hit (insp l t x s) n g ∧ Pw a g) : ∀ (m c fm : Nat) (best : List Int) (found : Bool), c + m = 2 ^ (insp l t x s).mayl.length → m < fm →
    (found = true → Hit (insp l t x s) n best) → ((∃ c', c' < c ∧ selb c' (insp l t x s).mayl = g ∧ Hit (insp l t x s) n g) → found = true ∧ best = g) →
    ∃ best' found' q, Fishref2positions.loop6 l t x s fu (insp l t x s).mayl (n : Int) fm best found (c : Int) = some (best', found', q) ∧ (found' = true → Hit (insp l t x s) n best') ∧ ((∃ c', c' < 2 ^ (insp l t x s).mayl.length ∧ selb c' (insp l t x s).mayl = g ∧ Hit (insp l t x s) n g) → found' = true ∧ best' = g) := by
  obtain ⟨p1, p2⟩ := pow_small hm
  intro m
  induction m with
  | zero =>
    intro c fm best found hc hfm hb hi
    obtain ⟨fm, rfl⟩ : ∃ f, fm = f + 1 := ⟨fm - 1, by omega⟩
    rw [Fishref2positions.loop6, p2, decide_eq_false (by omega)]
    simp only [Bool.false_eq_true, if_false]
    refine ⟨_, _, _, rfl, hb, fun ⟨c', h1, h2⟩ => hi ⟨c', by omega, h2⟩⟩
  | succ m ih =>
    intro c fm best found hc hfm hb hi
    obtain ⟨fm, rfl⟩ : ∃ f, fm = f + 1 := ⟨fm - 1, by omega⟩
    rw [Fishref2positions.loop6, p2, decide_eq_true (by omega)]
    simp only [if_true]
    have hsel := sel_loop (insp l t x s).mayl c (by omega) (by omega) (insp l t x s).mayl.length 0 [] (by omega) (Nat.le_refl _)
    rw [hsel]
    simp only [Option.bind_some, List.nil_append, Nat.pow_zero, Nat.div_one, List.drop_zero]
    have hv := sel_val (z := insp l t x s) c
    have hlen : (selb c (insp l t x s).mayl).length ≤ 12 := Nat.le_trans (sel_sub _ c).length_le hm
    obtain ⟨b, k1, k2⟩ := kept_all h (selb c (insp l t x s).mayl) hf
    rw [w64_id (x := ((c : Nat) : Int) + 1) (by omega), show ((c : Nat) : Int) + 1 = ((c + 1 : Nat) : Int) by omega]
    have skip : (¬ Hit (insp l t x s) n (selb c (insp l t x s).mayl) ∨ (found = true ∧ (best = g ∨ selb c (insp l t x s).mayl ≠ g))) → ∃ best' found' q, Fishref2positions.loop6 l t x s fu (insp l t x s).mayl (n : Int) fm best found ((c + 1 : Nat) : Int) = some (best', found', q) ∧ (found' = true → Hit (insp l t x s) n best') ∧ ((∃ c', c' < 2 ^ (insp l t x s).mayl.length ∧ selb c' (insp l t x s).mayl = g ∧ Hit (insp l t x s) n g) → found' = true ∧ best' = g) := by
      intro hsk
      refine ih (c + 1) fm best found (by omega) (by omega) hb fun ⟨c', h1, h2, h3⟩ => ?_
      rcases Nat.eq_or_lt_of_le (Nat.le_of_lt_succ h1) with e | e
      · subst e
        rcases hsk with hsk | ⟨q1, q2⟩
        · rw [h2] at hsk; exact absurd h3 hsk
        · exact ⟨q1, q2.resolve_right (fun q => q h2)⟩
      · exact hi ⟨c', e, h2, h3⟩
    by_cases c1 : (selb c (insp l t x s).mayl).length = n
    · have e1 : ((((selb c (insp l t x s).mayl).length : Nat) : Int) == (n : Int)) = true := by simp [c1]
      rw [if_pos e1, k1]
      simp only [Option.bind_some]
      cases b with
      | false =>
        simp only [Bool.false_eq_true, if_false, Option.bind_some, bnd]
        exact skip (.inl fun q => by have := k2.2 q.2.1; cases this)
      | true =>
        have hhit : Hit (insp l t x s) n (selb c (insp l t x s).mayl) := ⟨hv, k2.1 rfl, c1⟩
        obtain ⟨hgh, hpw⟩ := hg _ hhit
        simp only [if_true]
        have take : ∃ best' found' q, Fishref2positions.loop6 l t x s fu (insp l t x s).mayl (n : Int) fm (selb c (insp l t x s).mayl) true ((c + 1 : Nat) : Int) = some (best', found', q) ∧ (found' = true → Hit (insp l t x s) n best') ∧ ((∃ c', c' < 2 ^ (insp l t x s).mayl.length ∧ selb c' (insp l t x s).mayl = g ∧ Hit (insp l t x s) n g) → found' = true ∧ best' = g) ∨ best = g ∧ found = true ∧ selb c (insp l t x s).mayl ≠ g := by
          by_cases e : best = g ∧ found = true ∧ selb c (insp l t x s).mayl ≠ g
          · exact ⟨[], false, 0, .inr e⟩
          · by_cases eg : selb c (insp l t x s).mayl = g
            · obtain ⟨b', f', q, r1, r2, r3⟩ := ih (c + 1) fm (selb c (insp l t x s).mayl) true (by omega) (by omega) (fun _ => hhit) (fun _ => ⟨rfl, eg⟩)
              exact ⟨b', f', q, .inl ⟨r1, r2, r3⟩⟩
            · obtain ⟨b', f', q, r1, r2, r3⟩ := ih (c + 1) fm (selb c (insp l t x s).mayl) true (by omega) (by omega) (fun _ => hhit) (fun ⟨c', h1, h2, h3⟩ => by
                rcases Nat.eq_or_lt_of_le (Nat.le_of_lt_succ h1) with e3 | e3
                · subst e3; exact absurd h2 eg
                · obtain ⟨q1, q2⟩ := hi ⟨c', e3, h2, h3⟩
                  exact absurd ⟨q2, q1, eg⟩ e)
              exact ⟨b', f', q, .inl ⟨r1, r2, r3⟩⟩
        cases hfo : found with
        | false =>
          simp only [Bool.not_false, if_true, Option.bind_some, bnd]
          obtain ⟨b', f', q, r | ⟨_, r, _⟩⟩ := take
          · exact ⟨b', f', q, r⟩
          · rw [hfo] at r; cases r
        | true =>
          have hbh := hb hfo
          have hgb := (hg _ hbh).2
          simp only [Bool.not_true, Bool.false_eq_true, if_false]
          by_cases eb : best = g
          · rw [eb]
            obtain ⟨v, v1, v2⟩ := cmp_low hpw (by have := hgh.2.2; omega)
            rw [v1]
            simp only [Option.bind_some, bnd]
            rw [decide_eq_false v2]
            simp only [Bool.false_eq_true, if_false]
            have := skip (.inr ⟨hfo, .inl eb⟩)
            rw [eb, hfo] at this
            exact this
          · by_cases es : selb c (insp l t x s).mayl = g
            · have hne : selb c (insp l t x s).mayl ≠ best := fun q => eb (by rw [← q]; exact es)
              obtain ⟨v, v1, v2⟩ := cmp_high (a := selb c (insp l t x s).mayl) (b := best) (by rw [es]; exact hgb) hne (by have := hbh.2.2; omega)
              rw [v1]
              simp only [Option.bind_some, bnd]
              rw [decide_eq_true v2]
              simp only [if_true]
              obtain ⟨b', f', q, r | ⟨r, _, _⟩⟩ := take
              · exact ⟨b', f', q, r⟩
              · exact absurd r eb
            · obtain ⟨v, v1⟩ := compare_ok (selb c (insp l t x s).mayl) best (by have := hbh.2.2; omega)
              rw [v1]
              simp only [Option.bind_some, bnd]
              by_cases cv : v > 0
              · rw [decide_eq_true cv]
                simp only [if_true]
                obtain ⟨b', f', q, r | ⟨r, _, _⟩⟩ := take
                · exact ⟨b', f', q, r⟩
                · exact absurd r eb
              · rw [decide_eq_false cv]
                simp only [Bool.false_eq_true, if_false]
                have := skip (.inr ⟨hfo, .inr es⟩)
                rw [hfo] at this
                exact this
    · have e1 : ((((selb c (insp l t x s).mayl).length : Nat) : Int) == (n : Int)) = false := beq_eq_false_iff_ne.2 (by omega)
      rw [e1]
      simp only [Bool.false_eq_true, if_false, Option.bind_some, bnd]
      exact skip (.inl fun q => c1 q.2.2)
theorem enum_loop4 (h : Turn l t x s) (hm : (insp l t x s).mayl.length ≤ 12) {fu : Nat} (hf : t.length + 5000 ≤ fu) {r : Option (List Int)} (hr : Best (insp l t x s) r) : ∀ (m n fm : Nat), n + m = (insp l t x s).mayl.length + 1 → m < fm → (∀ g, r = some g → n ≤ g.length) →
    (Fishref2positions.loop4 l t x s fu (insp l t x s).mayl fm (n : Int) = some (.next (((insp l t x s).mayl.length + 1 : Nat) : Int)) ∧ r = none) ∨ ∃ g, Fishref2positions.loop4 l t x s fu (insp l t x s).mayl fm (n : Int) = some (.ret (g, true)) ∧ r = some g := by
  obtain ⟨p1, p2⟩ := pow_small hm
  have glen : ∀ g, r = some g → g.length ≤ (insp l t x s).mayl.length := by
    intro g hg
    rw [hg] at hr
    have hv := val_iff.1 hr.1
    exact (sub_of_srt _ _ (mays_srt _ _) hv.1 hv.2).length_le
  intro m
  induction m with
  | zero =>
    intro n fm hn hfm hle
    obtain ⟨fm, rfl⟩ : ∃ f, fm = f + 1 := ⟨fm - 1, by omega⟩
    rw [Fishref2positions.loop4, w64_id (by omega), decide_eq_false (by omega)]
    simp only [Bool.false_eq_true, if_false]
    left
    refine ⟨by rw [show n = (insp l t x s).mayl.length + 1 by omega], ?_⟩
    cases r with
    | none => rfl
    | some g => have := glen g rfl; have := hle g rfl; omega
  | succ m ih =>
    intro n fm hn hfm hle
    obtain ⟨fm, rfl⟩ : ∃ f, fm = f + 1 := ⟨fm - 1, by omega⟩
    rw [Fishref2positions.loop4, w64_id (x := (((insp l t x s).mayl.length : Nat) : Int) + 1) (by omega), decide_eq_true (by omega)]
    simp only [if_true]
    have nohit : (∀ a, ¬ Hit (insp l t x s) n a) → ∃ q, ∃ b, Fishref2positions.loop6 l t x s fu (insp l t x s).mayl (n : Int) fu [] false 0 = some (b, false, q) := by
      intro hno
      obtain ⟨b', f', q, r1, r2, _⟩ := enum_loop6 h hm (fu := fu) (by omega) (n := n) (g := []) (fun a ha => absurd ha (hno a)) (2 ^ (insp l t x s).mayl.length) 0 fu [] false (by omega) (by omega) (fun q => by cases q) (fun ⟨c', h1, _⟩ => absurd h1 (Nat.not_lt_zero _))
      have r1' : Fishref2positions.loop6 l t x s fu (insp l t x s).mayl (n : Int) fu [] false 0 = some (b', f', q) := r1
      cases f' with
      | false => exact ⟨q, b', r1'⟩
      | true => exact absurd (r2 rfl) (hno _)
    have next : (∀ g, r = some g → n + 1 ≤ g.length) → (∀ a, ¬ Hit (insp l t x s) n a) → ((((Fishref2positions.loop6 l t x s fu (insp l t x s).mayl (n : Int) fu [] false 0).bind fun q151 => match q151 with | (q156, q160, _) => (if q160 then some (.ret (q156, true)) else Fishref2positions.loop4 l t x s fu (insp l t x s).mayl fm (w64 ((n : Int) + 1)))) : Option (Out ((List Int) × Bool) Int)) = some (.next (((insp l t x s).mayl.length + 1 : Nat) : Int)) ∧ r = none) ∨
        ∃ g, (((Fishref2positions.loop6 l t x s fu (insp l t x s).mayl (n : Int) fu [] false 0).bind fun q151 => match q151 with | (q156, q160, _) => (if q160 then some (.ret (q156, true)) else Fishref2positions.loop4 l t x s fu (insp l t x s).mayl fm (w64 ((n : Int) + 1)))) : Option (Out ((List Int) × Bool) Int)) = some (.ret (g, true)) ∧ r = some g := by
      intro h1 hno
      obtain ⟨q, b, e⟩ := nohit hno
      rw [e]
      simp only [Option.bind_some, Bool.false_eq_true, if_false]
      rw [w64_id (x := ((n : Nat) : Int) + 1) (by omega), show ((n : Nat) : Int) + 1 = ((n + 1 : Nat) : Int) by omega]
      exact ih (n + 1) fm (by omega) (by omega) h1
    cases hr' : r with
    | none =>
      rw [hr'] at hr next
      refine next (fun g hg => by cases hg) fun a ha => hr a ha.1 ha.2.1
    | some g =>
      rw [hr'] at hr next
      have hle' := hle g hr'
      rcases Nat.eq_or_lt_of_le hle' with e | e
      · right
        have hgh : Hit (insp l t x s) n g := ⟨hr.1, hr.2.1, e.symm⟩
        have hv := val_iff.1 hr.1
        obtain ⟨c, c1, c2⟩ := sel_all _ g (sub_of_srt _ _ (mays_srt _ _) hv.1 hv.2)
        obtain ⟨b', f', q, r1, _, r3⟩ := enum_loop6 h hm (fu := fu) (by omega) (n := n) (g := g) (fun a ha => ⟨hgh, by
            refine ⟨by rw [ha.2.2, e], fun i hi => ?_⟩
            have hl : a.length = g.length := by rw [ha.2.2, e]
            obtain ⟨hj, q⟩ := hr.2.2 a ha.1 ha.2.1 i (by omega)
            exact ⟨by omega, q⟩⟩) (2 ^ (insp l t x s).mayl.length) 0 fu [] false (by omega) (by omega) (fun q => by cases q) (fun ⟨c', h1, _⟩ => absurd h1 (Nat.not_lt_zero _))
        have r1' : Fishref2positions.loop6 l t x s fu (insp l t x s).mayl (n : Int) fu [] false 0 = some (b', f', q) := r1
        obtain ⟨q1, q2⟩ := r3 ⟨c, c1, c2, hgh⟩
        rw [r1', q1, q2]
        exact ⟨g, rfl, rfl⟩
      · refine next (fun g' hg' => by injection hg' with hg'; subst hg'; exact e) fun a ha => ?_
        have := ha.2.2
        have h0 : 0 < g.length := by omega
        rcases Nat.eq_zero_or_pos n with c | c
        · obtain ⟨hj, _⟩ := hr.2.2 a ha.1 ha.2.1 0 h0
          omega
        · obtain ⟨hj, _⟩ := hr.2.2 a ha.1 ha.2.1 n e
          omega
theorem mays_loop (h : Turn l t x s) : ∀ (m k : Nat) (acc : List Int) (fu : Nat), k + m = t.length + 1 → m < fu → acc.length ≤ k → ∃ q, Fishref2positions.loop2 l t x s fu acc (k : Int) = some (acc ++ mays (insp l t x s) k m, q) := by
  intro m
  induction m with
  | zero =>
    intro k acc fu hk hf _
    have hn := h.n
    obtain ⟨fu, rfl⟩ : ∃ f, fu = f + 1 := ⟨fu - 1, by omega⟩
    rw [Fishref2positions.loop2, w64_id (by omega), decide_eq_false (by omega)]
    simp [mays]
  | succ m ih =>
    intro k acc fu hk hf ha
    have hn := h.n
    obtain ⟨fu, rfl⟩ : ∃ f, fu = f + 1 := ⟨fu - 1, by omega⟩
    rw [Fishref2positions.loop2, w64_id (x := ((t.length : Nat) : Int) + 1) (by omega), decide_eq_true (by omega)]
    simp only [if_true]
    rw [show Fishref2canInspect = Fleetmay from rfl, h.may (by omega)]
    simp only [Option.bind_some]
    rw [w64_id (x := ((k : Nat) : Int) + 1) (by omega), show ((k : Nat) : Int) + 1 = ((k + 1 : Nat) : Int) by omega, mays]
    cases (insp l t x s).M k with
    | true =>
      simp only [if_true]
      rw [apd_lt (by simp; omega)]
      simp only [Option.bind_some]
      obtain ⟨q, e⟩ := ih (k + 1) (acc ++ [((k : Nat) : Int)]) fu (by omega) (by omega) (by simp; omega)
      rw [e]
      exact ⟨q, by simp⟩
    | false =>
      simp only [Bool.false_eq_true, if_false, Option.bind_some]
      obtain ⟨q, e⟩ := ih (k + 1) acc fu (by omega) (by omega) (by omega)
      rw [e]
      exact ⟨q, by simp⟩
/-- both find the same positions -/
theorem positions_same (h : Turn l t x s) {fu : Nat} (hf : t.length + 5000 ≤ fu) : ∃ r, Fleetpositions fu l t x s = some r ∧ Fishref2positions fu l t x s = some r ∧ r.1.length ≤ 40000 := by
  obtain ⟨r, hr, e⟩ := prog_run h (fu := fu) (by omega)
  have hn := h.n
  have hDl : (insp l t x s).D.length = t.length := by simp [insp]
  have hml := mays_len (z := insp l t x s) (t.length + 1) 0
  have hrl : ∀ g, r = some g → g.length ≤ 40000 := by
    intro g hg
    rw [hg] at hr
    have hv := val_iff.1 hr.1
    have := (sub_of_srt _ _ (mays_srt _ _) hv.1 hv.2).length_le
    rw [hDl] at this
    omega
  refine ⟨_, e, ?_, ?_⟩
  rotate_left
  · cases r with
    | none => simp
    | some g => exact hrl g rfl
  unfold Fishref2positions
  obtain ⟨q, e2⟩ := mays_loop h (t.length + 1) 0 [] fu (by omega) (by omega) (Nat.le_refl _)
  have hmy : ([] : List Int) ++ mays (insp l t x s) 0 (t.length + 1) = (insp l t x s).mayl := by unfold Insp.mayl; rw [hDl]; rfl
  rw [hmy] at e2
  have e2' : Fishref2positions.loop2 l t x s fu [] 0 = some ((insp l t x s).mayl, q) := e2
  rw [e2']
  simp only [Option.bind_some]
  by_cases c : (((insp l t x s).mayl.length : Nat) : Int) > 12
  · rw [decide_eq_true c]
    simp only [if_true]
    obtain ⟨r', hr', e3⟩ := latest_run h (fu := fu) (by omega)
    rw [best_one hr hr', e3]
    rfl
  · rw [decide_eq_false c]
    simp only [Bool.false_eq_true, if_false]
    rcases enum_loop4 h (by omega) hf hr ((insp l t x s).mayl.length + 1) 0 fu (by omega) (by omega) (fun _ _ => Nat.zero_le _) with ⟨e3, e4⟩ | ⟨g, e3, e4⟩
    · have e3' : Fishref2positions.loop4 l t x s fu (insp l t x s).mayl fu 0 = _ := e3
      rw [e3', e4]; rfl
    · have e3' : Fishref2positions.loop4 l t x s fu (insp l t x s).mayl fu 0 = _ := e3
      rw [e3', e4]; rfl
end
theorem within_ref : Fishref2within = Fleetwithin := rfl
theorem tasks_loop : ∀ l, Fishref2TasksFault.loop1 l = FleetCheckTasks.loop1 l
  | [] => rfl
  | x :: r => by simp only [Fishref2TasksFault.loop1, FleetCheckTasks.loop1, tasks_loop r]; rfl
theorem tasks_ref (l : List FleetTask) : Fishref2TasksFault l = FleetCheckTasks l := by
  unfold Fishref2TasksFault FleetCheckTasks; rw [tasks_loop]
/-! the checks ahead, and all turns -/
theorem fwithin (x a b : Int) : Fleetwithin x a b = decide (a ≤ x ∧ x ≤ b) := by
  unfold Fleetwithin bnd
  by_cases h : a ≤ x <;> simp [h]
theorem tasks_ok : ∀ l : List FleetTask, FleetCheckTasks.loop1 l = .next () → ∀ t ∈ l, TOk t
  | [], _, t, h => by cases h
  | a :: l, he, t, ht => by
    rw [FleetCheckTasks.loop1] at he
    simp only [bnd, fwithin] at he
    by_cases c1 : (0 ≤ a.From ∧ a.From ≤ 11) ∧ (0 ≤ a.To ∧ a.To ≤ 11) ∧ (0 ≤ a.Dep ∧ a.Dep ≤ 28800) ∧ (0 ≤ a.Arr ∧ a.Arr ≤ 28800)
    · obtain ⟨q1, q2, q3, q4⟩ := c1
      rw [decide_eq_true q1, decide_eq_true q2, decide_eq_true q3, decide_eq_true q4] at he
      simp only [Bool.not_true, Bool.false_eq_true, if_false] at he
      by_cases c2 : a.Arr ≤ a.Dep
      · rw [decide_eq_true c2] at he; cases he
      · rw [decide_eq_false c2] at he
        simp only [Bool.false_eq_true, if_false] at he
        by_cases c3 : (0 ≤ a.Km ∧ a.Km ≤ 10000) ∧ (1 ≤ a.Units ∧ a.Units ≤ 4)
        · obtain ⟨q5, q6⟩ := c3
          rw [decide_eq_true q5, decide_eq_true q6] at he
          simp only [Bool.not_true, Bool.false_eq_true, if_false] at he
          rcases List.mem_cons.1 ht with rfl | ht
          · exact ⟨q3.1, q3.2, q4.1, q4.2, q5.1, q5.2, by omega⟩
          · exact tasks_ok l he t ht
        · have : (if (!decide (0 ≤ a.Km ∧ a.Km ≤ 10000)) = true then true else !decide (1 ≤ a.Units ∧ a.Units ≤ 4)) = true := by
            by_cases q5 : 0 ≤ a.Km ∧ a.Km ≤ 10000
            · rw [decide_eq_true q5, decide_eq_false (fun q6 => c3 ⟨q5, q6⟩)]; rfl
            · rw [decide_eq_false q5]; rfl
          rw [this] at he; cases he
    · have : (if (!decide (0 ≤ a.From ∧ a.From ≤ 11)) = true then true else if (!decide (0 ≤ a.To ∧ a.To ≤ 11)) = true then true else if (!decide (0 ≤ a.Dep ∧ a.Dep ≤ 28800)) = true then true else !decide (0 ≤ a.Arr ∧ a.Arr ≤ 28800)) = true := by
        by_cases q1 : 0 ≤ a.From ∧ a.From ≤ 11
        · by_cases q2 : 0 ≤ a.To ∧ a.To ≤ 11
          · by_cases q3 : 0 ≤ a.Dep ∧ a.Dep ≤ 28800
            · rw [decide_eq_true q1, decide_eq_true q2, decide_eq_true q3, decide_eq_false (fun q4 => c1 ⟨q1, q2, q3, q4⟩)]; rfl
            · rw [decide_eq_true q1, decide_eq_true q2, decide_eq_false q3]; rfl
          · rw [decide_eq_true q1, decide_eq_false q2]; rfl
        · rw [decide_eq_false q1]; rfl
      rw [this] at he; cases he
theorem task_len (l : List FleetTask) (h : FleetCheckTasks l = 0) : l.length ≤ 40 := by
  unfold FleetCheckTasks at h
  by_cases h1 : ((l.length : Int) > 40)
  · simp [h1] at h
  · omega
theorem tasks_all {l : List FleetTask} (h : FleetCheckTasks l = 0) : l.length ≤ 40 ∧ ∀ t ∈ l, TOk t := by
  have hlen := task_len l h
  refine ⟨hlen, ?_⟩
  unfold FleetCheckTasks at h
  rw [decide_eq_false (by omega)] at h
  simp only [Bool.false_eq_true, if_false, bnd] at h
  cases e : FleetCheckTasks.loop1 l with
  | ret r =>
    rw [e] at h
    have hr : ∀ (l : List FleetTask) (r : Int), FleetCheckTasks.loop1 l = .ret r → r ≠ 0 := by
      intro l
      induction l with
      | nil => intro r h; cases h
      | cons a l ih =>
        intro r h
        rw [FleetCheckTasks.loop1] at h
        simp only [bnd] at h
        repeat' (split at h)
        all_goals first
          | exact ih r h
          | (cases h; omega)
    exact absurd h (hr l r e)
  | next u => exact tasks_ok l e
theorem sets_loop (s : FleetShop) : ∀ l, Fishref2SetsFault.loop1 s l = FleetcheckSets.loop1 s l
  | [] => rfl
  | x :: r => by simp only [Fishref2SetsFault.loop1, FleetcheckSets.loop1, sets_loop s r]; rfl
theorem sets_ref (l : List FleetSet) (s : FleetShop) (n : Int) : Fishref2SetsFault l s n = FleetcheckSets l s n := by
  unfold Fishref2SetsFault FleetcheckSets; rw [sets_loop]; rfl
theorem sets_all {l : List FleetSet} {s : FleetShop} {n : Int} (hn : n ≤ 1000) (h : FleetcheckSets l s n = 0) : l.length ≤ 1000 ∧ (∀ x ∈ l, 0 ≤ x.Km ∧ x.Km ≤ s.Limit) ∧ (0 ≤ s.Long ∧ s.Long ≤ 28800) ∧ (0 ≤ s.Limit ∧ s.Limit ≤ 10000) := by
  unfold FleetcheckSets at h
  by_cases c : (l.length : Int) > n
  · rw [decide_eq_true c] at h; simp at h
  · rw [decide_eq_false c] at h
    simp only [Bool.false_eq_true, if_false, bnd, fwithin] at h
    refine ⟨by omega, ?_⟩
    have key : ∀ l : List FleetSet, (∃ r, FleetcheckSets.loop1 s l = .ret r ∧ r ≠ 0) ∨ (FleetcheckSets.loop1 s l = .next () ∧ ∀ x ∈ l, 0 ≤ x.Km ∧ x.Km ≤ s.Limit) := by
      intro l
      induction l with
      | nil => exact .inr ⟨rfl, fun x hx => by cases hx⟩
      | cons a l ih =>
        rw [FleetcheckSets.loop1]
        simp only [bnd, fwithin]
        by_cases q1 : 0 ≤ a.Home ∧ a.Home ≤ 11
        · by_cases q2 : 0 ≤ a.Km ∧ a.Km ≤ s.Limit
          · rw [decide_eq_true q1, decide_eq_true q2]
            simp only [Bool.not_true, Bool.false_eq_true, if_false]
            rcases ih with ih | ⟨i1, i2⟩
            · exact .inl ih
            · refine .inr ⟨i1, fun x hx => ?_⟩
              rcases List.mem_cons.1 hx with rfl | hx
              · exact q2
              · exact i2 x hx
          · rw [decide_eq_true q1, decide_eq_false q2]
            exact .inl ⟨2, rfl, by omega⟩
        · rw [decide_eq_false q1]
          exact .inl ⟨2, rfl, by omega⟩
    rcases key l with ⟨r, e, hr⟩ | ⟨e, hs⟩
    · rw [e] at h; exact absurd h hr
    · rw [e] at h
      refine ⟨hs, ?_⟩
      dsimp only at h
      by_cases q1 : 0 ≤ s.Place ∧ s.Place ≤ 11
      · by_cases q2 : 0 ≤ s.Long ∧ s.Long ≤ 28800
        · by_cases q3 : 0 ≤ s.Limit ∧ s.Limit ≤ 10000
          · exact ⟨q2, q3⟩
          · rw [decide_eq_true q1, decide_eq_true q2, decide_eq_false q3] at h; simp at h
        · rw [decide_eq_true q1, decide_eq_false q2] at h; simp at h
      · rw [decide_eq_false q1] at h; simp at h
section
variable {l : List FleetTask} {sets : List FleetSet}
/-- the first k tasks of a turn are in order -/
def Ord (l : List FleetTask) (t : List Int) (k : Nat) : Prop := ∀ j, ∀ hj : j < t.length, j < k → (0 ≤ t[j] ∧ t[j] < l.length) ∧ (j : Int) ≤ (tk l t[j]).Dep
theorem tk_ok (hT : ∀ t ∈ l, TOk t) {i : Int} (h0 : 0 ≤ i) (h1 : i < l.length) : TOk (tk l i) := by
  have : nd i < l.length := by unfold nd; omega
  unfold tk
  rw [List.getElem?_eq_getElem this]
  exact hT _ (List.getElem_mem this)
end
theorem seq_self (l : List Int) : SlicesEqualLint l l = some true := by
  unfold SlicesEqualLint
  have key : ∀ (m : List Int) (k : Nat), l.drop k = m → SlicesEqualLint.loop1 l m k = some (.next ()) := by
    intro m
    induction m with
    | nil => intro k _; rfl
    | cons a m ih =>
      intro k h
      have hk : k < l.length := by
        rcases Nat.lt_or_ge k l.length with e | e
        · exact e
        · rw [List.drop_eq_nil_of_le e] at h; cases h
      rw [List.drop_eq_getElem_cons hk] at h
      injection h with h1 h2
      rw [SlicesEqualLint.loop1, gx_at hk, h1]
      simp only [Option.bind_some, bne_self_eq_false, Bool.false_eq_true, if_false]
      exact ih _ h2
  rw [key l 0 rfl]
  simp
theorem lists_self (g : List (List Int)) : Fishlaw2lists g g = some true := by
  unfold Fishlaw2lists SlicesEqualFuncLLint_v1
  have key : ∀ (m : List (List Int)) (k : Nat), g.drop k = m → SlicesEqualFuncLLint_v1.loop1 g m k = some (.next ()) := by
    intro m
    induction m with
    | nil => intro k _; rfl
    | cons a m ih =>
      intro k h
      have hk : k < g.length := by
        rcases Nat.lt_or_ge k g.length with e | e
        · exact e
        · rw [List.drop_eq_nil_of_le e] at h; cases h
      rw [List.drop_eq_getElem_cons hk] at h
      injection h with h1 h2
      rw [SlicesEqualFuncLLint_v1.loop1, gx_at hk, h1]
      simp only [Option.bind_some, seq_self, Bool.not_true, Bool.false_eq_true, if_false]
      exact ih _ h2
  rw [key g 0 rfl]
  simp
theorem turn_ref (l : List FleetTask) (t : Int) : Fishref2TurnFault l t = FleetcheckTurn l t := by
  unfold Fishref2TurnFault FleetcheckTurn; rw [tasks_ref]; rfl
namespace Srt
/-! the stable sort of the library (blocks of 20 by insertion, then symMerge), for lists of at most 40 -/
section stable
theorem gx_mid {α : Type} {A T : List α} {x : α} {i : Int} (h : i = (A.length : Int)) : gx (A ++ x :: T) i = some x := by
  subst h; simp [gx]
theorem ix_mid {α : Type} {A T : List α} {x : α} {i : Int} (h : i = (A.length : Int)) : ix (A ++ x :: T) i = some () := by
  subst h; unfold ix; rw [if_pos]; simp; omega
theorem sx_mid {α : Type} {A T : List α} {x v : α} {i : Int} (h : i = (A.length : Int)) : sx (A ++ x :: T) i v = some (A ++ v :: T) := by
  subst h; unfold sx; rw [if_pos]
  · simp
  · simp; omega

/-- strictly ahead: by D, then by number -/
def Lt (D : Int → Int) (x y : Int) : Prop := D x < D y ∨ (D x = D y ∧ x < y)
theorem Lt.trans {D : Int → Int} {x y z : Int} (h : Lt D x y) (k : Lt D y z) : Lt D x z := by unfold Lt at *; omega
theorem Lt.irr {D : Int → Int} {x : Int} (h : Lt D x x) : False := by unfold Lt at h; omega
theorem Lt.le {D : Int → Int} {x y : Int} (h : Lt D x y) : D x ≤ D y := by unfold Lt at h; omega

theorem lt_ext {D : Int → Int} : ∀ {l1 l2 : List Int}, l1.Pairwise (Lt D) → l2.Pairwise (Lt D) → (∀ x, x ∈ l1 ↔ x ∈ l2) → l1 = l2
  | [], [], _, _, _ => rfl
  | [], b :: _, _, _, h => absurd ((h b).2 (by simp)) (by simp)
  | a :: _, [], _, _, h => absurd ((h a).1 (by simp)) (by simp)
  | a :: t1, b :: t2, h1, h2, h => by
    rw [List.pairwise_cons] at h1 h2
    have hab : a = b := by
      have ha := (h a).1 (by simp)
      have hb := (h b).2 (by simp)
      rcases List.mem_cons.1 ha with e | e
      · exact e
      · rcases List.mem_cons.1 hb with e2 | e2
        · exact e2.symm
        · exact ((h2.1 a e).trans (h1.1 b e2)).irr.elim
    subst hab
    have ht : ∀ x, x ∈ t1 ↔ x ∈ t2 := by
      intro x
      constructor
      · intro hx
        rcases List.mem_cons.1 ((h x).1 (by simp [hx])) with e | e
        · subst e; exact (h1.1 x hx).irr.elim
        · exact e
      · intro hx
        rcases List.mem_cons.1 ((h x).2 (by simp [hx])) with e | e
        · subst e; exact (h2.1 x hx).irr.elim
        · exact e
    rw [lt_ext h1.2 h2.2 ht]

variable {l : List FleetTask} {D : Int → Int} {V : Int → Prop}

theorem ins2 (hC : ∀ x y, V x → V y → ∃ c, Fleetorder_1_v1 x y l = some c ∧ (c < 0 ↔ D x < D y)) : ∀ (n : Nat) (S A T : List Int) (x : Int), S.length < n → A.length + S.length < 1000000 → (∀ y ∈ S, V y) → V x → (∀ y ∈ S, y < x) → S.Pairwise (Lt D) →
    ∃ j R, SlicesinsertionSortCmpFuncint_v1.loop2 (A.length : Int) l n ((A.length + S.length : Nat) : Int) (A ++ (S ++ x :: T)) = some (j, A ++ (R ++ T)) ∧ R.Perm (S ++ [x]) ∧ R.Pairwise (Lt D)
  | 0, S, _, _, _, hn, _, _, _, _, _ => absurd hn (by omega)
  | n + 1, S, A, T, x, hn, hb, hV, hx, hlt, hs => by
    rcases List.eq_nil_or_concat S with rfl | ⟨S', y, rfl⟩
    · refine ⟨_, [x], by simp [SlicesinsertionSortCmpFuncint_v1.loop2]; exact rfl, by simp, by simp⟩
    · simp only [List.concat_eq_append] at *
      simp only [List.length_append, List.length_cons, List.length_nil] at hn hb
      obtain ⟨c, hc1, hc2⟩ := hC x y hx (hV y (by simp))
      have hj : w64 (((A.length + (S' ++ [y]).length : Nat) : Int) - 1) = ((A.length + S'.length : Nat) : Int) := by
        rw [w64_id (by simp; omega)]; simp; omega
      have hg : decide (((A.length + (S' ++ [y]).length : Nat) : Int) > (A.length : Int)) = true := by simp; omega
      have e1 : gx (A ++ ((S' ++ [y]) ++ x :: T)) ((A.length + (S' ++ [y]).length : Nat) : Int) = some x := by
        rw [← List.append_assoc A]; exact gx_mid (by simp)
      have e2 : gx (A ++ ((S' ++ [y]) ++ x :: T)) ((A.length + S'.length : Nat) : Int) = some y := by
        rw [show A ++ ((S' ++ [y]) ++ x :: T) = (A ++ S') ++ y :: (x :: T) by simp]; exact gx_mid (by simp)
      rw [SlicesinsertionSortCmpFuncint_v1.loop2]
      simp only [hg, if_true, hj, e1, e2, Option.bind_some, hc1]
      by_cases hlt2 : D x < D y
      · have hd : decide (c < 0) = true := by simpa using hc2.2 hlt2
        have e3 : ix (A ++ ((S' ++ [y]) ++ x :: T)) ((A.length + (S' ++ [y]).length : Nat) : Int) = some () := by
          rw [← List.append_assoc A]; exact ix_mid (by simp)
        have e4 : sx (A ++ ((S' ++ [y]) ++ x :: T)) ((A.length + (S' ++ [y]).length : Nat) : Int) y = some ((A ++ S') ++ y :: (y :: T)) := by
          rw [← List.append_assoc A, sx_mid (by simp)]; simp
        have e5 : ix ((A ++ S') ++ y :: (y :: T)) ((A.length + S'.length : Nat) : Int) = some () := ix_mid (by simp)
        have e6 : sx ((A ++ S') ++ y :: (y :: T)) ((A.length + S'.length : Nat) : Int) x = some (A ++ (S' ++ x :: (y :: T))) := by
          rw [sx_mid (by simp)]; simp
        simp only [hd, if_true, e3, e4, e5, e6, Option.bind_some]
        have hs2 := List.pairwise_append.1 hs
        obtain ⟨j, R, r1, r2, r3⟩ := ins2 hC n S' A (y :: T) x (by omega) (by omega) (fun z hz => hV z (by simp [hz])) hx (fun z hz => hlt z (by simp [hz])) hs2.1
        refine ⟨j, R ++ [y], by rw [r1]; simp, ?_, ?_⟩
        · exact (r2.append_right [y]).trans (by simpa using (List.Perm.swap y x []).append_left S')
        · refine List.pairwise_append.2 ⟨r3, by simp, ?_⟩
          intro z hz w hw
          simp at hw; subst hw
          rcases List.mem_append.1 (r2.subset hz) with h | h
          · exact hs2.2.2 z h w (by simp)
          · simp at h; subst h; exact .inl hlt2
      · have hd : decide (c < 0) = false := by simpa using fun h => hlt2 (hc2.1 h)
        simp only [hd, Bool.false_eq_true, if_false]
        refine ⟨_, (S' ++ [y]) ++ [x], by simp; exact rfl, List.Perm.refl _, ?_⟩
        refine List.pairwise_append.2 ⟨hs, by simp, ?_⟩
        intro z hz w hw
        simp at hw; subst hw
        have hyx : Lt D y w := by
          have := hlt y (by simp)
          unfold Lt; omega
        rcases List.mem_append.1 hz with h | h
        · exact ((List.pairwise_append.1 hs).2.2 z h y (by simp)).trans hyx
        · simp at h; subst h; exact hyx

theorem ins1 (hC : ∀ x y, V x → V y → ∃ c, Fleetorder_1_v1 x y l = some c ∧ (c < 0 ↔ D x < D y)) (fu : Nat) : ∀ (U : List Int) (n : Nat) (S A T : List Int), U.length < n → S.length + U.length < fu → A.length + S.length + U.length < 1000000 → (∀ y ∈ S, V y) → (∀ y ∈ U, V y) → (∀ y ∈ S, ∀ u ∈ U, y < u) → U.Pairwise (· < ·) → S.Pairwise (Lt D) →
    ∃ j R, SlicesinsertionSortCmpFuncint_v1.loop1 (A.length : Int) ((A.length + S.length + U.length : Nat) : Int) l fu n ((A.length + S.length : Nat) : Int) (A ++ (S ++ (U ++ T))) = some (j, A ++ (R ++ T)) ∧ R.Perm (S ++ U) ∧ R.Pairwise (Lt D)
  | [], n, S, A, T, hn, _, _, _, _, _, _, hs => by
    obtain ⟨n, rfl⟩ : ∃ m, n = m + 1 := ⟨n - 1, by simp at hn; omega⟩
    exact ⟨_, S, by simp [SlicesinsertionSortCmpFuncint_v1.loop1]; exact rfl, by simp, hs⟩
  | u :: U, n, S, A, T, hn, hf, hb, hV, hU, hlt, hu, hs => by
    obtain ⟨n, rfl⟩ : ∃ m, n = m + 1 := ⟨n - 1, by simp at hn; omega⟩
    simp only [List.length_cons] at hn hf hb
    obtain ⟨j, R, r1, r2, r3⟩ := ins2 hC fu S A (U ++ T) u (by omega) (by omega) hV (hU u (by simp)) (fun y hy => hlt y hy u (by simp)) hs
    have hl := r2.length_eq
    simp only [List.length_append, List.length_cons, List.length_nil] at hl
    rw [List.pairwise_cons] at hu
    have hmem : ∀ y ∈ R, y ∈ S ∨ y = u := by intro y hy; simpa using r2.subset hy
    obtain ⟨j', R', q1, q2, q3⟩ := ins1 hC fu U n R A T (by omega) (by omega) (by omega) (fun y hy => (hmem y hy).elim (hV y) (fun e => e ▸ hU u (by simp))) (fun y hy => hU y (by simp [hy]))
      (fun y hy v hv => (hmem y hy).elim (fun h => hlt y h v (by simp [hv])) (fun e => e ▸ hu.1 v hv)) hu.2 r3
    refine ⟨j', R', ?_, q2.trans (by simpa using r2.append_right U), q3⟩
    rw [SlicesinsertionSortCmpFuncint_v1.loop1]
    have h1 : decide (((A.length + S.length : Nat) : Int) < ((A.length + S.length + (u :: U).length : Nat) : Int)) = true := by simp; omega
    have h2 : w64 (((A.length + S.length : Nat) : Int) + 1) = ((A.length + R.length : Nat) : Int) := by
      rw [w64_id (by omega)]; omega
    have h3 : ((A.length + S.length + (u :: U).length : Nat) : Int) = ((A.length + R.length + U.length : Nat) : Int) := by simp; omega
    simp only [h1, if_true]
    simp only [List.cons_append, r1, Option.bind_some, h2, h3]
    exact q1

theorem ins_ok (hC : ∀ x y, V x → V y → ∃ c, Fleetorder_1_v1 x y l = some c ∧ (c < 0 ↔ D x < D y)) {fu : Nat} {A X T : List Int} (hf : X.length + 1 < fu) (hb : A.length + X.length < 1000000) (hV : ∀ y ∈ X, V y) (hu : X.Pairwise (· < ·)) :
    ∃ R, SlicesinsertionSortCmpFuncint_v1 fu (A ++ (X ++ T)) (A.length : Int) ((A.length + X.length : Nat) : Int) l = some (A ++ (R ++ T)) ∧ R.Perm X ∧ R.Pairwise (Lt D) := by
  unfold SlicesinsertionSortCmpFuncint_v1
  have h2 : w64 ((A.length : Int) + 1) = ((A.length + 1 : Nat) : Int) := by rw [w64_id (by omega)]; omega
  rw [h2]
  cases X with
  | nil =>
    obtain ⟨f, rfl⟩ : ∃ m, fu = m + 1 := ⟨fu - 1, by omega⟩
    refine ⟨[], ?_, by simp, by simp⟩
    rw [SlicesinsertionSortCmpFuncint_v1.loop1]
    have h1 : decide (((A.length + 1 : Nat) : Int) < ((A.length + ([] : List Int).length : Nat) : Int)) = false := by simp; omega
    simp only [h1, Bool.false_eq_true, if_false, Option.bind_some]
  | cons x X =>
    simp only [List.length_cons] at hf hb
    rw [List.pairwise_cons] at hu
    obtain ⟨j, R, r1, r2, r3⟩ := ins1 hC fu X fu [x] A T (by omega) (by simp; omega) (by simp; omega) (by simpa using hV x (by simp)) (fun y hy => hV y (by simp [hy])) (by simpa using hu.1) hu.2 (by simp)
    have h3 : ((A.length + (x :: X).length : Nat) : Int) = ((A.length + [x].length + X.length : Nat) : Int) := by simp; omega
    refine ⟨R, ?_, r2, r3⟩
    rw [h3]
    simp only [List.length_cons, List.length_nil, Nat.zero_add, List.cons_append, List.nil_append] at r1 ⊢
    rw [r1]; rfl

theorem swap1 : ∀ (X2 : List Int) (n : Nat) (Y2 Y1 X1 A M T : List Int), X2.length = Y2.length → X1.length = Y1.length → X2.length < n → A.length + Y1.length + X2.length + M.length + X1.length + Y2.length < 1000000 →
    ∃ j, SlicesswapRangeCmpFuncint_v1.loop1 (A.length : Int) ((A.length + Y1.length + X2.length + M.length : Nat) : Int) ((Y1.length + X2.length : Nat) : Int) n (Y1.length : Int) (A ++ (Y1 ++ (X2 ++ (M ++ (X1 ++ (Y2 ++ T)))))) = some (j, A ++ ((Y1 ++ Y2) ++ (M ++ ((X1 ++ X2) ++ T))))
  | [], n, Y2, Y1, X1, A, M, T, h1, _, hn, _ => by
    obtain ⟨n, rfl⟩ : ∃ m, n = m + 1 := ⟨n - 1, by omega⟩
    obtain rfl : Y2 = [] := by simpa using h1.symm
    exact ⟨_, by simp [SlicesswapRangeCmpFuncint_v1.loop1]; exact rfl⟩
  | x :: X2, n, Y2, Y1, X1, A, M, T, h1, h2, hn, hb => by
    obtain ⟨n, rfl⟩ : ∃ m, n = m + 1 := ⟨n - 1, by omega⟩
    cases Y2 with
    | nil => simp at h1
    | cons y Y2 =>
      simp only [List.length_cons] at h1 hn hb
      obtain ⟨j, hj⟩ := swap1 X2 n Y2 (Y1 ++ [y]) (X1 ++ [x]) A M T (by omega) (by simp; omega) (by omega) (by simp; omega)
      refine ⟨j, ?_⟩
      rw [SlicesswapRangeCmpFuncint_v1.loop1]
      have g1 : decide ((Y1.length : Int) < ((Y1.length + (x :: X2).length : Nat) : Int)) = true := by simp; omega
      have g2 : w64 (((A.length + Y1.length + (x :: X2).length + M.length : Nat) : Int) + (Y1.length : Int)) = ((A ++ (Y1 ++ (x :: X2 ++ (M ++ X1)))).length : Int) := by
        rw [w64_id (by simp; omega)]; simp; omega
      have g3 : w64 ((A.length : Int) + (Y1.length : Int)) = ((A ++ Y1).length : Int) := by
        rw [w64_id (by omega)]; simp
      have g4 : w64 ((Y1.length : Int) + 1) = ((Y1 ++ [y]).length : Int) := by rw [w64_id (by omega)]; simp
      have d1 : A ++ (Y1 ++ (x :: X2 ++ (M ++ (X1 ++ (y :: Y2 ++ T))))) = (A ++ (Y1 ++ (x :: X2 ++ (M ++ X1)))) ++ y :: (Y2 ++ T) := by simp
      have d2 : A ++ (Y1 ++ (x :: X2 ++ (M ++ (X1 ++ (y :: Y2 ++ T))))) = (A ++ Y1) ++ x :: (X2 ++ (M ++ (X1 ++ (y :: Y2 ++ T)))) := by simp
      have e1 : gx (A ++ (Y1 ++ (x :: X2 ++ (M ++ (X1 ++ (y :: Y2 ++ T)))))) ((A ++ (Y1 ++ (x :: X2 ++ (M ++ X1)))).length : Int) = some y := by rw [d1]; exact gx_mid rfl
      have e2 : gx (A ++ (Y1 ++ (x :: X2 ++ (M ++ (X1 ++ (y :: Y2 ++ T)))))) ((A ++ Y1).length : Int) = some x := by rw [d2]; exact gx_mid rfl
      have e3 : ix (A ++ (Y1 ++ (x :: X2 ++ (M ++ (X1 ++ (y :: Y2 ++ T)))))) ((A ++ Y1).length : Int) = some () := by rw [d2]; exact ix_mid rfl
      have e4 : sx (A ++ (Y1 ++ (x :: X2 ++ (M ++ (X1 ++ (y :: Y2 ++ T)))))) ((A ++ Y1).length : Int) y = some ((A ++ (Y1 ++ (y :: X2 ++ (M ++ X1)))) ++ y :: (Y2 ++ T)) := by rw [d2, sx_mid rfl]; simp
      have g5 : (A ++ (Y1 ++ (x :: X2 ++ (M ++ X1)))).length = (A ++ (Y1 ++ (y :: X2 ++ (M ++ X1)))).length := by simp
      have e5 : ix ((A ++ (Y1 ++ (y :: X2 ++ (M ++ X1)))) ++ y :: (Y2 ++ T)) ((A ++ (Y1 ++ (x :: X2 ++ (M ++ X1)))).length : Int) = some () := ix_mid (by rw [g5])
      have e6 : sx ((A ++ (Y1 ++ (y :: X2 ++ (M ++ X1)))) ++ y :: (Y2 ++ T)) ((A ++ (Y1 ++ (x :: X2 ++ (M ++ X1)))).length : Int) x = some (A ++ ((Y1 ++ [y]) ++ (X2 ++ (M ++ ((X1 ++ [x]) ++ (Y2 ++ T)))))) := by rw [sx_mid (by rw [g5])]; simp
      simp only [g1, if_true, g2, g3, g4, e1, e2, e3, e4, e5, e6, Option.bind_some]
      have k1 : ((A.length + (Y1 ++ [y]).length + X2.length + M.length : Nat) : Int) = ((A.length + Y1.length + (x :: X2).length + M.length : Nat) : Int) := by simp; omega
      have k2 : (((Y1 ++ [y]).length + X2.length : Nat) : Int) = ((Y1.length + (x :: X2).length : Nat) : Int) := by simp; omega
      rw [k1, k2] at hj
      rw [hj]; simp

theorem swap_ok {fu : Nat} {A X M Y T : List Int} {a b n : Int} (h : X.length = Y.length) (hf : X.length < fu) (hb : A.length + X.length + M.length + Y.length < 1000000) (ha : a = (A.length : Int)) (hb2 : b = ((A.length + X.length + M.length : Nat) : Int)) (hn : n = (X.length : Int)) :
    SlicesswapRangeCmpFuncint_v1 fu (A ++ (X ++ (M ++ (Y ++ T)))) a b n l = some (A ++ (Y ++ (M ++ (X ++ T)))) := by
  obtain ⟨j, hj⟩ := swap1 X fu Y [] [] A M T h rfl hf (by simpa using hb)
  unfold SlicesswapRangeCmpFuncint_v1
  simp only [List.length_nil, Nat.zero_add, List.nil_append, Nat.add_zero] at hj
  subst ha hb2 hn
  have : (0 : Int) = ((0 : Nat) : Int) := rfl
  rw [this, hj]; rfl

theorem rot1 (fu : Nat) : ∀ (n : Nat) (X Y A T : List Int), X.length + Y.length < n → X ≠ [] → Y ≠ [] → X.length + Y.length < fu → A.length + X.length + Y.length < 1000000 →
    ∃ (X' Y' A' T' : List Int), SlicesrotateCmpFuncint_v1.loop1 ((A.length + X.length : Nat) : Int) l fu n (X.length : Int) (Y.length : Int) (A ++ (X ++ (Y ++ T))) = some ((X'.length : Int), (X'.length : Int), A' ++ (X' ++ (Y' ++ T')))
      ∧ Y'.length = X'.length ∧ A'.length + X'.length = A.length + X.length ∧ A' ++ (Y' ++ (X' ++ T')) = A ++ (Y ++ (X ++ T)) ∧ X'.length ≤ X.length
  | 0, _, _, _, _, h, _, _, _, _ => absurd h (by omega)
  | n + 1, X, Y, A, T, hn, hX, hY, hf, hb => by
    have lx : 0 < X.length := List.length_pos_iff.2 hX
    have ly : 0 < Y.length := List.length_pos_iff.2 hY
    rw [SlicesrotateCmpFuncint_v1.loop1]
    by_cases h1 : X.length = Y.length
    · refine ⟨X, Y, A, T, ?_, h1.symm, rfl, rfl, Nat.le_refl _⟩
      simp [h1]
    · have hne : ((X.length : Int) != (Y.length : Int)) = true := by simp; omega
      simp only [hne, if_true]
      by_cases h2 : Y.length < X.length
      · have hd : decide ((X.length : Int) > (Y.length : Int)) = true := by simp; omega
        obtain ⟨X1, X2, rfl, hl⟩ : ∃ X1 X2, X = X1 ++ X2 ∧ X1.length = Y.length := ⟨X.take Y.length, X.drop Y.length, by simp, by simp; omega⟩
        simp only [List.length_append] at *
        have e1 := swap_ok (l := l) (fu := fu) (A := A) (X := X1) (M := X2) (Y := Y) (T := T) (a := w64 (((A.length + (X1.length + X2.length) : Nat) : Int) - ((X1.length + X2.length : Nat) : Int))) (b := ((A.length + (X1.length + X2.length) : Nat) : Int)) (n := (Y.length : Int)) hl (by omega) (by omega)
          (by rw [w64_id (by omega)]; omega) (by omega) (by omega)
        obtain ⟨X', Y', A', T', r1, r2, r3, r4, r5⟩ := rot1 fu n X2 X1 (A ++ Y) T (by omega) (by intro h; subst h; simp at h2; omega) (by intro h; subst h; simp at hl; omega) (by omega) (by simp; omega)
        refine ⟨X', Y', A', T', ?_, r2, by simp at r3; omega, by rw [r4]; simp, by omega⟩
        simp only [hd, if_true, List.append_assoc] at *
        rw [e1]
        have e2 : w64 (((X1.length + X2.length : Nat) : Int) - (Y.length : Int)) = (X2.length : Int) := by rw [w64_id (by omega)]; omega
        have e3 : ((A ++ Y).length + X2.length : Nat) = A.length + (X1.length + X2.length) := by simp; omega
        simp only [Option.bind_some, e2]
        rw [e3, show (X1.length : Int) = (Y.length : Int) by rw [hl]] at r1
        exact r1
      · have hd : decide ((X.length : Int) > (Y.length : Int)) = false := by simp; omega
        obtain ⟨Y1, Y2, rfl, hl⟩ : ∃ Y1 Y2, Y = Y1 ++ Y2 ∧ Y2.length = X.length := ⟨Y.take (Y.length - X.length), Y.drop (Y.length - X.length), by simp, by simp; omega⟩
        simp only [List.length_append] at *
        have e1 := swap_ok (l := l) (fu := fu) (A := A) (X := X) (M := Y1) (Y := Y2) (T := T) (a := w64 (((A.length + X.length : Nat) : Int) - (X.length : Int))) (b := w64 (w64 (((A.length + X.length : Nat) : Int) + ((Y1.length + Y2.length : Nat) : Int)) - (X.length : Int))) (n := (X.length : Int)) hl.symm (by omega) (by omega)
          (by rw [w64_id (by omega)]; omega) (by rw [w64_id (x := ((A.length + X.length : Nat) : Int) + _) (by omega), w64_id (by omega)]; omega) rfl
        obtain ⟨X', Y', A', T', r1, r2, r3, r4, r5⟩ := rot1 fu n Y2 Y1 A (X ++ T) (by omega) (by intro h; subst h; simp at hl; omega) (by intro h; subst h; simp at h1 h2; omega) (by omega) (by omega)
        refine ⟨X', Y', A', T', ?_, r2, by omega, by rw [r4]; simp, by omega⟩
        simp only [hd, Bool.false_eq_true, if_false, List.append_assoc] at *
        rw [e1]
        have e2 : w64 (((Y1.length + Y2.length : Nat) : Int) - (X.length : Int)) = (Y1.length : Int) := by rw [w64_id (by omega)]; omega
        simp only [Option.bind_some, e2]
        rw [hl] at r1
        exact r1

theorem rot_ok {fu : Nat} {A X Y T : List Int} {a m b : Int} (hX : X ≠ []) (hY : Y ≠ []) (hf : X.length + Y.length < fu) (hb : A.length + X.length + Y.length < 500000) (ha : a = (A.length : Int)) (hm : m = ((A.length + X.length : Nat) : Int)) (hb2 : b = ((A.length + X.length + Y.length : Nat) : Int)) :
    SlicesrotateCmpFuncint_v1 fu (A ++ (X ++ (Y ++ T))) a m b l = some (A ++ (Y ++ (X ++ T))) := by
  subst ha hm hb2
  unfold SlicesrotateCmpFuncint_v1
  obtain ⟨X', Y', A', T', r1, r2, r3, r4, r5⟩ := rot1 (l := l) fu fu X Y A T hf hX hY hf (by omega)
  have e1 : w64 (((A.length + X.length : Nat) : Int) - (A.length : Int)) = (X.length : Int) := by rw [w64_id (by omega)]; omega
  have e2 : w64 (((A.length + X.length + Y.length : Nat) : Int) - ((A.length + X.length : Nat) : Int)) = (Y.length : Int) := by rw [w64_id (by omega)]; omega
  rw [e1, e2, r1]
  simp only [Option.bind_some]
  have hl : A'.length + X'.length + Y'.length + T'.length = A.length + X.length + Y.length + T.length := by
    have := congrArg List.length r4; simp at this; omega
  have e3 := swap_ok (l := l) (fu := fu) (A := A') (X := X') (M := []) (Y := Y') (T := T') (a := w64 (((A.length + X.length : Nat) : Int) - (X'.length : Int))) (b := ((A.length + X.length : Nat) : Int)) (n := (X'.length : Int)) r2.symm (by omega) (by simp; omega)
    (by rw [w64_id (by omega)]; omega) (by simp; omega) rfl
  simp only [List.nil_append] at e3
  rw [e3, Option.bind_some, r4]

/-- a search by halves -/
def bs (test : Int → Option Bool) : Nat → Int → Int → Option (Int × Int)
  | 0, _, _ => none
  | n + 1, i, j => if decide (i < j) then (test (w64 (Int.fdiv (IntKind.wrap .u64 (w64 (i + j))) (2 ^ (min (Int.toNat 1) (IntKind.bits .u64)))))).bind fun c =>
      if c then bs test n (w64 (w64 (Int.fdiv (IntKind.wrap .u64 (w64 (i + j))) (2 ^ (min (Int.toNat 1) (IntKind.bits .u64)))) + 1)) j else bs test n i (w64 (Int.fdiv (IntKind.wrap .u64 (w64 (i + j))) (2 ^ (min (Int.toNat 1) (IntKind.bits .u64))))) else some (i, j)

theorem half_eq {a b : Nat} (h : a + b < 2000000) : w64 (Int.fdiv (IntKind.wrap .u64 (w64 ((a : Int) + (b : Int)))) (2 ^ (min (Int.toNat 1) (IntKind.bits .u64)))) = (((a + b) / 2 : Nat) : Int) := by
  rw [w64_id (x := (a : Int) + b) (by omega)]
  have e1 : IntKind.wrap .u64 ((a : Int) + b) = ((a + b : Nat) : Int) := by
    unfold IntKind.wrap; simp [IntKind.bits]; omega
  have e2 : (2 ^ (min (Int.toNat 1) (IntKind.bits .u64)) : Int) = 2 := by decide
  rw [e1, e2, Int.fdiv_eq_ediv_of_nonneg _ (by decide)]
  rw [w64_id (by omega)]; omega

theorem bs_ok (p : Nat → Bool) (test : Int → Option Bool) : ∀ (n lo hi : Nat), hi - lo < n → lo ≤ hi → hi < 1000000 → (∀ k : Nat, lo ≤ k → k < hi → test (k : Int) = some (p k)) → (∀ k k', lo ≤ k → k ≤ k' → k' < hi → p k' = true → p k = true) →
    ∃ r : Nat, lo ≤ r ∧ r ≤ hi ∧ bs test n lo hi = some ((r : Int), (r : Int)) ∧ (∀ k, lo ≤ k → k < r → p k = true) ∧ (∀ k, r ≤ k → k < hi → p k = false)
  | 0, _, _, h, _, _, _, _ => absurd h (by omega)
  | n + 1, lo, hi, h, hle, hb, ht, hm => by
    rw [bs]
    by_cases hlt : lo < hi
    · have hd : decide ((lo : Int) < (hi : Int)) = true := by simp; omega
      have hh := half_eq (a := lo) (b := hi) (by omega)
      have t1 := ht ((lo + hi) / 2) (by omega) (by omega)
      simp only [hd, if_true, hh, t1, Option.bind_some]
      cases hp : p ((lo + hi) / 2) with
      | true =>
        have e : w64 ((((lo + hi) / 2 : Nat) : Int) + 1) = (((lo + hi) / 2 + 1 : Nat) : Int) := by rw [w64_id (by omega)]; omega
        simp only [if_true, e]
        obtain ⟨r, r1, r2, r3, r4, r5⟩ := bs_ok p test n ((lo + hi) / 2 + 1) hi (by omega) (by omega) hb (fun k h1 h2 => ht k (by omega) h2) (fun k k' h1 h2 h3 => hm k k' (by omega) h2 h3)
        refine ⟨r, by omega, r2, r3, ?_, r5⟩
        intro k k1 k2
        rcases Nat.lt_or_ge k ((lo + hi) / 2 + 1) with h1 | h1
        · exact hm k ((lo + hi) / 2) k1 (by omega) (by omega) hp
        · exact r4 k h1 k2
      | false =>
        simp only [Bool.false_eq_true, if_false]
        obtain ⟨r, r1, r2, r3, r4, r5⟩ := bs_ok p test n lo ((lo + hi) / 2) (by omega) (by omega) (by omega) (fun k h1 h2 => ht k h1 (by omega)) (fun k k' h1 h2 h3 => hm k k' h1 h2 (by omega))
        refine ⟨r, r1, by omega, r3, r4, ?_⟩
        intro k k1 k2
        rcases Nat.lt_or_ge k ((lo + hi) / 2) with h1 | h1
        · exact r5 k k1 h1
        · cases hk : p k with
          | false => rfl
          | true => have := hm ((lo + hi) / 2) k (by omega) h1 k2 hk; rw [hp] at this; cases this
    · have hd : decide ((lo : Int) < (hi : Int)) = false := by simp; omega
      obtain rfl : lo = hi := by omega
      refine ⟨lo, Nat.le_refl _, Nat.le_refl _, by simp, ?_, ?_⟩
      · intro k h1 h2; omega
      · intro k h1 h2; omega

theorem obind_congr {α β : Type} {o : Option α} {f g : α → Option β} (h : ∀ x, f x = g x) : o.bind f = o.bind g := by cases o <;> simp [h]

theorem sym1_bs (x0 : List Int) (x1 : Int) : ∀ (n : Nat) (i j : Int), SlicessymMergeCmpFuncint_v1.loop1 x0 x1 l n i j = bs (fun h => (gx x0 h).bind fun u => (gx x0 x1).bind fun v => (Fleetorder_1_v1 u v l).bind fun c => some (decide (c < 0))) n i j
  | 0, _, _ => rfl
  | n + 1, i, j => by
    rw [SlicessymMergeCmpFuncint_v1.loop1, bs]
    split
    · simp only [Option.bind_assoc, Option.bind_some]
      refine obind_congr fun u => obind_congr fun v => obind_congr fun c => ?_
      simp only [bnd_eq, sym1_bs x0 x1 n]
      cases decide (c < 0) <;> rfl
    · rfl
theorem sym3_bs (x0 : List Int) (x2 : Int) : ∀ (n : Nat) (i j : Int), SlicessymMergeCmpFuncint_v1.loop3 x0 x2 l n i j = bs (fun h => (gx x0 x2).bind fun u => (gx x0 h).bind fun v => (Fleetorder_1_v1 u v l).bind fun c => some (!(decide (c < 0)))) n i j
  | 0, _, _ => rfl
  | n + 1, i, j => by
    rw [SlicessymMergeCmpFuncint_v1.loop3, bs]
    split
    · simp only [Option.bind_assoc, Option.bind_some]
      refine obind_congr fun u => obind_congr fun v => obind_congr fun c => ?_
      simp only [bnd_eq, sym3_bs x0 x2 n]
      cases decide (c < 0) <;> rfl
    · rfl
theorem sym5_bs (x0 : List Int) (x1 x2 x3 : Int) : ∀ (n : Nat) (i j : Int), SlicessymMergeCmpFuncint_v1.loop5 x0 x1 x2 x3 l n i j = bs (fun h => (gx x0 (w64 ((w64 ((w64 ((w64 (Int.fdiv (IntKind.wrap .u64 (w64 (x1 + x3))) (2 ^ (min (Int.toNat 1) (IntKind.bits .u64))))) + x2)) - 1)) - h))).bind fun u => (gx x0 h).bind fun v => (Fleetorder_1_v1 u v l).bind fun c => some (!(decide (c < 0)))) n i j
  | 0, _, _ => rfl
  | n + 1, i, j => by
    rw [SlicessymMergeCmpFuncint_v1.loop5, bs]
    split
    · simp only [Option.bind_assoc, Option.bind_some]
      refine obind_congr fun u => obind_congr fun v => obind_congr fun c => ?_
      simp only [bnd_eq, sym5_bs x0 x1 x2 x3 n]
      cases decide (c < 0) <;> rfl
    · rfl

theorem bub1 : ∀ (Y1 : List Int) (n : Nat) (A T : List Int) (x : Int), Y1.length < n → A.length + Y1.length < 1000000 →
    ∃ j, SlicessymMergeCmpFuncint_v1.loop2 ((A.length + Y1.length + 1 : Nat) : Int) n (A.length : Int) (A ++ (x :: (Y1 ++ T))) = some (j, A ++ (Y1 ++ x :: T))
  | [], n, A, T, x, hn, hb => by
    obtain ⟨n, rfl⟩ : ∃ m, n = m + 1 := ⟨n - 1, by simp at hn; omega⟩
    have h1 : w64 (((A.length + ([] : List Int).length + 1 : Nat) : Int) - 1) = (A.length : Int) := by rw [w64_id (by simp; omega)]; simp
    rw [SlicessymMergeCmpFuncint_v1.loop2, h1]
    exact ⟨_, by simp; exact rfl⟩
  | y :: Y1, n, A, T, x, hn, hb => by
    simp only [List.length_cons] at hn hb
    obtain ⟨n, rfl⟩ : ∃ m, n = m + 1 := ⟨n - 1, by omega⟩
    obtain ⟨j, hj⟩ := bub1 Y1 n (A ++ [y]) T x (by omega) (by simp; omega)
    refine ⟨j, ?_⟩
    have h1 : w64 (((A.length + (y :: Y1).length + 1 : Nat) : Int) - 1) = ((A.length + Y1.length + 1 : Nat) : Int) := by rw [w64_id (by simp; omega)]; simp; omega
    have h2 : decide ((A.length : Int) < ((A.length + Y1.length + 1 : Nat) : Int)) = true := by simp; omega
    have h3 : w64 ((A.length : Int) + 1) = ((A ++ [y]).length : Int) := by rw [w64_id (by omega)]; simp
    have h3' : ((A ++ [y]).length : Int) = ((A ++ [x]).length : Int) := by simp
    have d1 : A ++ (x :: (y :: Y1 ++ T)) = (A ++ [x]) ++ y :: (Y1 ++ T) := by simp
    have e1 : gx (A ++ (x :: (y :: Y1 ++ T))) ((A ++ [y]).length : Int) = some y := by rw [d1]; exact gx_mid h3'
    have e2 : gx (A ++ (x :: (y :: Y1 ++ T))) (A.length : Int) = some x := gx_mid rfl
    have e3 : ix (A ++ (x :: (y :: Y1 ++ T))) (A.length : Int) = some () := ix_mid rfl
    have e4 : sx (A ++ (x :: (y :: Y1 ++ T))) (A.length : Int) y = some ((A ++ [y]) ++ y :: (Y1 ++ T)) := by rw [sx_mid rfl]; simp
    have e5 : ix ((A ++ [y]) ++ y :: (Y1 ++ T)) ((A ++ [y]).length : Int) = some () := ix_mid rfl
    have e6 : sx ((A ++ [y]) ++ y :: (Y1 ++ T)) ((A ++ [y]).length : Int) x = some ((A ++ [y]) ++ x :: (Y1 ++ T)) := sx_mid rfl
    rw [SlicessymMergeCmpFuncint_v1.loop2]
    simp only [h1, h2, if_true, h3, e1, e2, e3, e4, e5, e6, Option.bind_some]
    have k : (((A ++ [y]).length + Y1.length + 1 : Nat) : Int) = ((A.length + (y :: Y1).length + 1 : Nat) : Int) := by simp; omega
    rw [k] at hj
    rw [hj]; simp

theorem bub2 : ∀ (n : Nat) (X2 : List Int) (A T : List Int) (y : Int), X2.length < n → A.length + X2.length < 1000000 →
    ∃ j, SlicessymMergeCmpFuncint_v1.loop4 (A.length : Int) n ((A.length + X2.length : Nat) : Int) (A ++ (X2 ++ y :: T)) = some (j, A ++ (y :: (X2 ++ T)))
  | 0, _, _, _, _, h, _ => absurd h (by omega)
  | n + 1, X2, A, T, y, hn, hb => by
    rw [SlicessymMergeCmpFuncint_v1.loop4]
    rcases List.eq_nil_or_concat X2 with rfl | ⟨S, x, rfl⟩
    · exact ⟨_, by simp; exact rfl⟩
    · simp only [List.concat_eq_append] at *
      simp only [List.length_append, List.length_cons, List.length_nil] at hn hb
      obtain ⟨j, hj⟩ := bub2 n S A (x :: T) y (by omega) (by omega)
      refine ⟨j, ?_⟩
      have h1 : decide (((A.length + (S ++ [x]).length : Nat) : Int) > (A.length : Int)) = true := by simp; omega
      have h2 : w64 (((A.length + (S ++ [x]).length : Nat) : Int) - 1) = ((A.length + S.length : Nat) : Int) := by rw [w64_id (by simp; omega)]; simp; omega
      have d1 : A ++ ((S ++ [x]) ++ y :: T) = (A ++ S) ++ x :: (y :: T) := by simp
      have d2 : A ++ ((S ++ [x]) ++ y :: T) = (A ++ (S ++ [x])) ++ y :: T := by simp
      have e1 : gx (A ++ ((S ++ [x]) ++ y :: T)) ((A.length + S.length : Nat) : Int) = some x := by rw [d1]; exact gx_mid (by simp)
      have e2 : gx (A ++ ((S ++ [x]) ++ y :: T)) ((A.length + (S ++ [x]).length : Nat) : Int) = some y := by rw [d2]; exact gx_mid (by simp)
      have e3 : ix (A ++ ((S ++ [x]) ++ y :: T)) ((A.length + (S ++ [x]).length : Nat) : Int) = some () := by rw [d2]; exact ix_mid (by simp)
      have e4 : sx (A ++ ((S ++ [x]) ++ y :: T)) ((A.length + (S ++ [x]).length : Nat) : Int) x = some ((A ++ S) ++ x :: (x :: T)) := by rw [d2, sx_mid (by simp)]; simp
      have e5 : ix ((A ++ S) ++ x :: (x :: T)) ((A.length + S.length : Nat) : Int) = some () := ix_mid (by simp)
      have e6 : sx ((A ++ S) ++ x :: (x :: T)) ((A.length + S.length : Nat) : Int) y = some (A ++ (S ++ y :: (x :: T))) := by rw [sx_mid (by simp)]; simp
      simp only [h1, if_true, h2, e1, e2, e3, e4, e5, e6, Option.bind_some]
      rw [hj]; simp

theorem gx_dv {d : List Int} {k : Nat} (h : k < d.length) : gx d (k : Int) = some (d.getD k 0) := by
  rw [gx_nat, List.getD_eq_getElem?_getD, List.getElem?_eq_getElem h]; rfl
theorem dv_X {A X Z : List Int} {k : Nat} (h1 : A.length ≤ k) (h2 : k < A.length + X.length) : (A ++ (X ++ Z)).getD k 0 = X.getD (k - A.length) 0 := by
  simp only [List.getD_eq_getElem?_getD]
  rw [List.getElem?_append_right h1, List.getElem?_append_left (by omega)]
theorem dv_Y {A X Y T : List Int} {k : Nat} (h1 : A.length + X.length ≤ k) (h2 : k < A.length + X.length + Y.length) : (A ++ (X ++ (Y ++ T))).getD k 0 = Y.getD (k - (A.length + X.length)) 0 := by
  rw [show A ++ (X ++ (Y ++ T)) = (A ++ X) ++ (Y ++ T) by simp, dv_X (by simp; omega) (by simp; omega)]; simp
theorem getD_mem {X : List Int} {k : Nat} (h : k < X.length) : X.getD k 0 ∈ X := by
  rw [List.getD_eq_getElem?_getD, List.getElem?_eq_getElem h]; exact List.getElem_mem h
theorem pw_getD {R : Int → Int → Prop} {X : List Int} (h : X.Pairwise R) {i j : Nat} (h1 : i < j) (h2 : j < X.length) : R (X.getD i 0) (X.getD j 0) := by
  rw [List.getD_eq_getElem?_getD, List.getD_eq_getElem?_getD, List.getElem?_eq_getElem h2, List.getElem?_eq_getElem (Nat.lt_trans h1 h2)]
  exact List.pairwise_iff_getElem.1 h i j (Nat.lt_trans h1 h2) h2 h1
theorem pw_le {X : List Int} (h : X.Pairwise (Lt D)) {i j : Nat} (h1 : i ≤ j) (h2 : j < X.length) : D (X.getD i 0) ≤ D (X.getD j 0) := by
  rcases Nat.lt_or_eq_of_le h1 with h3 | rfl
  · exact (pw_getD h h3 h2).le
  · exact Int.le_refl _
theorem take_getD {X : List Int} {n : Nat} {x : Int} (h : x ∈ X.take n) : ∃ i, i < n ∧ i < X.length ∧ x = X.getD i 0 := by
  obtain ⟨i, hi, e⟩ := List.mem_iff_getElem.1 h
  simp only [List.length_take] at hi
  refine ⟨i, by omega, by omega, ?_⟩
  rw [List.getD_eq_getElem?_getD, List.getElem?_eq_getElem (by omega), ← e]; simp
theorem drop_getD {X : List Int} {n : Nat} {x : Int} (h : x ∈ X.drop n) : ∃ i, n ≤ i ∧ i < X.length ∧ x = X.getD i 0 := by
  obtain ⟨i, hi, e⟩ := List.mem_iff_getElem.1 h
  simp only [List.length_drop] at hi
  refine ⟨n + i, by omega, by omega, ?_⟩
  rw [List.getD_eq_getElem?_getD, List.getElem?_eq_getElem (by omega), ← e]; simp

theorem sym_ok (hC : ∀ x y, V x → V y → ∃ c, Fleetorder_1_v1 x y l = some c ∧ (c < 0 ↔ D x < D y)) : ∀ (fu : Nat) (A X Y T : List Int) (a m b : Int), a = (A.length : Int) → m = ((A.length + X.length : Nat) : Int) → b = ((A.length + X.length + Y.length : Nat) : Int) → X ≠ [] → Y ≠ [] → X.length + Y.length + 2 < fu →
    A.length + X.length + Y.length < 500000 → (∀ x ∈ X, V x) → (∀ y ∈ Y, V y) → (∀ x ∈ X, ∀ y ∈ Y, x < y) → X.Pairwise (Lt D) → Y.Pairwise (Lt D) →
    ∃ R, SlicessymMergeCmpFuncint_v1 fu (A ++ (X ++ (Y ++ T))) a m b l = some (A ++ (R ++ T)) ∧ R.Perm (X ++ Y) ∧ R.Pairwise (Lt D)
  | 0, _, _, _, _, _, _, _, _, _, _, _, _, h, _, _, _, _, _, _ => absurd h (by omega)
  | fu + 1, A, X, Y, T, a, m, b, ha, hm, hb, hX, hY, hf, hz, vX, vY, hlt, sX, sY => by
    have lx : 0 < X.length := List.length_pos_iff.2 hX
    have ly : 0 < Y.length := List.length_pos_iff.2 hY
    have hdl : (A ++ (X ++ (Y ++ T))).length = A.length + X.length + Y.length + T.length := by simp; omega
    rw [SlicessymMergeCmpFuncint_v1]
    by_cases c1 : X.length = 1
    · obtain ⟨x, rfl⟩ := List.length_eq_one_iff.1 c1
      have hd : (w64 (m - a) == 1) = true := by rw [w64_id (by omega)]; simp; omega
      rw [if_pos hd, sym1_bs]
      obtain ⟨r, r1, r2, r3, r4, r5⟩ := bs_ok (fun k => decide (D ((A ++ ([x] ++ (Y ++ T))).getD k 0) < D x)) (fun h => (gx (A ++ ([x] ++ (Y ++ T))) h).bind fun u => (gx (A ++ ([x] ++ (Y ++ T))) a).bind fun v => (Fleetorder_1_v1 u v l).bind fun c => some (decide (c < 0))) fu (A.length + [x].length) (A.length + [x].length + Y.length) (by omega) (by omega) (by omega)
        (by
          intro k k1 k2
          rw [gx_dv (by omega), ha, show A ++ ([x] ++ (Y ++ T)) = A ++ x :: (Y ++ T) by rfl, gx_mid rfl]
          obtain ⟨c, e1, e2⟩ := hC ((A ++ x :: (Y ++ T)).getD k 0) x (by rw [show A ++ x :: (Y ++ T) = A ++ ([x] ++ (Y ++ T)) by rfl, dv_Y k1 k2]; exact vY _ (getD_mem (by omega))) (vX x (by simp))
          simp only [Option.bind_some, e1]
          congr 1; exact decide_eq_decide.2 e2)
        (by
          intro k k' k1 k2 k3 h
          simp only [decide_eq_true_eq] at h ⊢
          rw [dv_Y (by omega) k3] at h
          rw [dv_Y k1 (by omega)]
          exact Int.lt_of_le_of_lt (pw_le sY (by omega) (by omega)) h)
      subst ha hm hb
      rw [r3]
      simp only [Option.bind_some]
      obtain ⟨j, hj⟩ := bub1 (Y.take (r - (A.length + 1))) fu A (Y.drop (r - (A.length + 1)) ++ T) x (by simp; omega) (by simp; omega)
      simp only [List.length_cons, List.length_nil, Nat.zero_add] at r1 r2 r4 r5 c1
      have hr : ((A.length + (Y.take (r - (A.length + 1))).length + 1 : Nat) : Int) = (r : Int) := by simp; omega
      rw [hr] at hj
      have hdd : A ++ ([x] ++ (Y ++ T)) = A ++ (x :: (Y.take (r - (A.length + 1)) ++ (Y.drop (r - (A.length + 1)) ++ T))) := by
        rw [← List.append_assoc (Y.take _), List.take_append_drop]; rfl
      rw [hdd, hj]
      simp only [Option.bind_some]
      refine ⟨Y.take (r - (A.length + 1)) ++ x :: Y.drop (r - (A.length + 1)), by simp, ?_, ?_⟩
      · have := (List.perm_middle (a := x) (l₁ := Y.take (r - (A.length + 1))) (l₂ := Y.drop (r - (A.length + 1))))
        rw [List.take_append_drop] at this; exact this
      · have hs := sY
        rw [← List.take_append_drop (r - (A.length + 1)) Y, List.pairwise_append] at hs
        refine List.pairwise_append.2 ⟨hs.1, List.pairwise_cons.2 ⟨?_, hs.2.1⟩, ?_⟩
        · intro y hy
          obtain ⟨i, i1, i2, rfl⟩ := drop_getD hy
          have h5 := r5 (A.length + 1 + i) (by omega) (by omega)
          rw [show A ++ ([x] ++ (Y ++ T)) = A ++ ([x] ++ (Y ++ T)) from rfl, dv_Y (by simp) (by simp; omega)] at h5
          simp only [List.length_cons, List.length_nil, Nat.zero_add, Nat.add_sub_cancel_left, decide_eq_false_iff_not] at h5
          have := hlt x (by simp) _ (getD_mem i2)
          unfold Lt; omega
        · intro y hy z hz'
          rcases List.mem_cons.1 hz' with rfl | h
          · obtain ⟨i, i1, i2, rfl⟩ := take_getD hy
            have h4 := r4 (A.length + 1 + i) (by omega) (by omega)
            rw [dv_Y (by simp) (by simp; omega)] at h4
            simp only [List.length_cons, List.length_nil, Nat.zero_add, Nat.add_sub_cancel_left, decide_eq_true_eq] at h4
            exact .inl h4
          · exact hs.2.2 y hy z h
    have hd1 : ¬ (w64 (m - a) == 1) = true := by rw [w64_id (by omega)]; simp; omega
    rw [if_neg hd1]
    by_cases c2 : Y.length = 1
    · obtain ⟨y, rfl⟩ := List.length_eq_one_iff.1 c2
      have hd : (w64 (b - m) == 1) = true := by rw [w64_id (by omega)]; simp; omega
      rw [if_pos hd, sym3_bs]
      obtain ⟨r, r1, r2, r3, r4, r5⟩ := bs_ok (fun k => !(decide (D y < D ((A ++ (X ++ ([y] ++ T))).getD k 0)))) (fun h => (gx (A ++ (X ++ ([y] ++ T))) m).bind fun u => (gx (A ++ (X ++ ([y] ++ T))) h).bind fun v => (Fleetorder_1_v1 u v l).bind fun c => some (!(decide (c < 0)))) fu A.length (A.length + X.length) (by omega) (by omega) (by omega)
        (by
          intro k k1 k2
          have hgm : gx (A ++ (X ++ ([y] ++ T))) m = some y := by
            rw [show A ++ (X ++ ([y] ++ T)) = (A ++ X) ++ y :: T by simp]; exact gx_mid (by rw [hm]; simp)
          rw [hgm, gx_dv (by omega)]
          obtain ⟨c, e1, e2⟩ := hC y ((A ++ (X ++ ([y] ++ T))).getD k 0) (vY y (by simp)) (by rw [dv_X k1 k2]; exact vX _ (getD_mem (by omega)))
          simp only [Option.bind_some, e1]
          congr 2; exact decide_eq_decide.2 e2)
        (by
          intro k k' k1 k2 k3 h
          simp only [Bool.not_eq_true', decide_eq_false_iff_not] at h ⊢
          rw [dv_X (by omega) k3] at h
          rw [dv_X k1 (by omega)]
          have := pw_le sX (i := k - A.length) (j := k' - A.length) (by omega) (by omega)
          omega)
      subst ha hm hb
      rw [r3]
      simp only [Option.bind_some]
      have hr : ((A ++ X.take (r - A.length)).length : Int) = (r : Int) := by simp; omega
      obtain ⟨j, hj⟩ := bub2 fu (X.drop (r - A.length)) (A ++ X.take (r - A.length)) T y (by simp; omega) (by simp; omega)
      have hr2 : (((A ++ X.take (r - A.length)).length + (X.drop (r - A.length)).length : Nat) : Int) = ((A.length + X.length : Nat) : Int) := by simp; omega
      rw [hr2, hr] at hj
      have hdd : A ++ (X ++ ([y] ++ T)) = (A ++ X.take (r - A.length)) ++ (X.drop (r - A.length) ++ y :: T) := by
        rw [List.append_assoc A, ← List.append_assoc (X.take _), List.take_append_drop]; rfl
      rw [hdd, hj]
      simp only [Option.bind_some]
      refine ⟨X.take (r - A.length) ++ y :: X.drop (r - A.length), by simp, ?_, ?_⟩
      · refine (List.perm_middle (a := y) (l₁ := X.take (r - A.length)) (l₂ := X.drop (r - A.length))).trans ?_
        rw [List.take_append_drop]
        exact (List.perm_append_comm (l₁ := [y]) (l₂ := X))
      · have hs := sX
        rw [← List.take_append_drop (r - A.length) X, List.pairwise_append] at hs
        refine List.pairwise_append.2 ⟨hs.1, List.pairwise_cons.2 ⟨?_, hs.2.1⟩, ?_⟩
        · intro x hx
          obtain ⟨i, i1, i2, rfl⟩ := drop_getD hx
          have h5 := r5 (A.length + i) (by omega) (by omega)
          rw [dv_X (by omega) (by omega)] at h5
          simp only [Nat.add_sub_cancel_left, Bool.not_eq_false', decide_eq_true_eq] at h5
          exact .inl h5
        · intro x hx z hz'
          rcases List.mem_cons.1 hz' with rfl | h
          · obtain ⟨i, i1, i2, rfl⟩ := take_getD hx
            have h4 := r4 (A.length + i) (by omega) (by omega)
            rw [dv_X (by omega) (by omega)] at h4
            simp only [Nat.add_sub_cancel_left, Bool.not_eq_true', decide_eq_false_iff_not] at h4
            have := hlt _ (getD_mem i2) z (by simp)
            unfold Lt; omega
          · exact hs.2.2 x hx z h
    have hd2 : ¬ (w64 (b - m) == 1) = true := by rw [w64_id (by omega)]; simp; omega
    rw [if_neg hd2]
    subst ha hm hb
    -- the middle
    have hmid := half_eq (a := A.length) (b := A.length + X.length + Y.length) (by omega)
    generalize hM : (A.length + (A.length + X.length + Y.length)) / 2 = mid at hmid
    simp only [sym5_bs, hmid, bnd_eq]
    obtain ⟨s0, r0, hpair, hcase⟩ : ∃ s0 r0 : Nat, (if decide (((A.length + X.length : Nat) : Int) > (mid : Int)) = true then (w64 (w64 ((mid : Int) + ((A.length + X.length : Nat) : Int)) - ((A.length + X.length + Y.length : Nat) : Int)), (mid : Int)) else ((A.length : Int), ((A.length + X.length : Nat) : Int))) = ((s0 : Int), (r0 : Int))
        ∧ ((mid < A.length + X.length ∧ s0 + (A.length + X.length + Y.length) = mid + (A.length + X.length) ∧ r0 = mid) ∨ (A.length + X.length ≤ mid ∧ s0 = A.length ∧ r0 = A.length + X.length)) := by
      by_cases h : mid < A.length + X.length
      · refine ⟨mid + (A.length + X.length) - (A.length + X.length + Y.length), mid, ?_, .inl ⟨h, by omega, rfl⟩⟩
        rw [if_pos (by simp; omega), w64_id (x := (mid : Int) + _) (by omega), w64_id (by omega)]
        congr 1; omega
      · refine ⟨A.length, A.length + X.length, ?_, .inr ⟨by omega, rfl, rfl⟩⟩
        rw [if_neg (by simp; omega)]
    have hq1 : w64 (w64 ((mid : Int) + ((A.length + X.length : Nat) : Int)) - 1) = ((mid + (A.length + X.length) - 1 : Nat) : Int) := by
      rw [w64_id (x := (mid : Int) + _) (by omega), w64_id (by omega)]; omega
    simp only [hpair, hq1]
    obtain ⟨r, r1, r2, r3, r4, r5⟩ := bs_ok (fun k => !(decide (D ((A ++ (X ++ (Y ++ T))).getD (mid + (A.length + X.length) - 1 - k) 0) < D ((A ++ (X ++ (Y ++ T))).getD k 0)))) (fun h => (gx (A ++ (X ++ (Y ++ T))) (w64 (((mid + (A.length + X.length) - 1 : Nat) : Int) - h))).bind fun u => (gx (A ++ (X ++ (Y ++ T))) h).bind fun v => (Fleetorder_1_v1 u v l).bind fun c => some (!(decide (c < 0)))) fu s0 r0 (by omega) (by omega) (by omega)
      (by
        intro k k1 k2
        have e0 : w64 (((mid + (A.length + X.length) - 1 : Nat) : Int) - (k : Int)) = ((mid + (A.length + X.length) - 1 - k : Nat) : Int) := by rw [w64_id (by omega)]; omega
        simp only [e0]
        rw [gx_dv (by omega), gx_dv (by omega)]
        obtain ⟨c, e1, e2⟩ := hC ((A ++ (X ++ (Y ++ T))).getD (mid + (A.length + X.length) - 1 - k) 0) ((A ++ (X ++ (Y ++ T))).getD k 0)
          (by rw [dv_Y (by omega) (by omega)]; exact vY _ (getD_mem (by omega))) (by rw [dv_X (by omega) (by omega)]; exact vX _ (getD_mem (by omega)))
        simp only [Option.bind_some, e1]
        congr 2; exact decide_eq_decide.2 e2)
      (by
        intro k k' k1 k2 k3 h
        simp only [Bool.not_eq_true', decide_eq_false_iff_not] at h ⊢
        rw [dv_Y (by omega) (by omega), dv_X (by omega) (by omega)] at h
        rw [dv_Y (by omega) (by omega), dv_X (by omega) (by omega)]
        have h1 := pw_le sX (i := k - A.length) (j := k' - A.length) (by omega) (by omega)
        have h2 := pw_le sY (i := mid + (A.length + X.length) - 1 - k' - (A.length + X.length)) (j := mid + (A.length + X.length) - 1 - k - (A.length + X.length)) (by omega) (by omega)
        omega)
    rw [r3]
    simp only [Option.bind_some]
    have he : w64 (w64 ((mid : Int) + ((A.length + X.length : Nat) : Int)) - (r : Int)) = ((mid + (A.length + X.length) - r : Nat) : Int) := by
      rw [w64_id (x := (mid : Int) + _) (by omega), w64_id (by omega)]; omega
    simp only [he]
    -- the four parts
    obtain ⟨X1, X2, eX, lX1⟩ : ∃ X1 X2, X = X1 ++ X2 ∧ A.length + X1.length = r := ⟨X.take (r - A.length), X.drop (r - A.length), (List.take_append_drop _ _).symm, by simp; omega⟩
    obtain ⟨Y1, Y2, eY, lY1⟩ : ∃ Y1 Y2, Y = Y1 ++ Y2 ∧ A.length + X.length + Y1.length = mid + (A.length + X.length) - r := ⟨Y.take (mid - r), Y.drop (mid - r), (List.take_append_drop _ _).symm, by simp; omega⟩
    have lXe : X.length = X1.length + X2.length := by rw [eX]; simp
    have lYe : Y.length = Y1.length + Y2.length := by rw [eY]; simp
    have sX' := sX; have sY' := sY
    rw [eX, List.pairwise_append] at sX'
    rw [eY, List.pairwise_append] at sY'
    have gX : ∀ i, i < X.length → (A ++ (X ++ (Y ++ T))).getD (A.length + i) 0 = X.getD i 0 := fun i hi => by rw [dv_X (by omega) (by omega)]; congr 1; omega
    have gY : ∀ i, i < Y.length → (A ++ (X ++ (Y ++ T))).getD (A.length + X.length + i) 0 = Y.getD i 0 := fun i hi => by rw [dv_Y (by omega) (by omega)]; congr 1; omega
    have q1 : ∀ x ∈ X1, ∀ y ∈ Y2, Lt D x y := by
      intro x hx y hy
      have hxX : x ∈ X := by rw [eX]; simp [hx]
      have hyY : y ∈ Y := by rw [eY]; simp [hy]
      have eX1 : X1 = X.take X1.length := by rw [eX]; simp
      have eY2 : Y2 = Y.drop Y1.length := by rw [eY]; simp
      rw [eX1] at hx; rw [eY2] at hy
      obtain ⟨i, i1, i2, rfl⟩ := take_getD hx
      obtain ⟨j, j1, j2, rfl⟩ := drop_getD hy
      have h4 := r4 (r - 1) (by omega) (by omega)
      simp only [Bool.not_eq_true', decide_eq_false_iff_not] at h4
      rw [show mid + (A.length + X.length) - 1 - (r - 1) = A.length + X.length + Y1.length by omega, gY _ (by omega), show r - 1 = A.length + (X1.length - 1) by omega, gX _ (by omega)] at h4
      have h1 := pw_le sX (i := i) (j := X1.length - 1) (by omega) (by omega)
      have h2 := pw_le sY (i := Y1.length) (j := j) (by omega) (by omega)
      have h3 := hlt _ hxX _ hyY
      unfold Lt; omega
    have q2 : ∀ y ∈ Y1, ∀ x ∈ X2, Lt D y x := by
      intro y hy x hx
      have eX2 : X2 = X.drop X1.length := by rw [eX]; simp
      have eY1 : Y1 = Y.take Y1.length := by rw [eY]; simp
      rw [eX2] at hx; rw [eY1] at hy
      obtain ⟨i, i1, i2, rfl⟩ := drop_getD hx
      obtain ⟨j, j1, j2, rfl⟩ := take_getD hy
      have h5 := r5 r (by omega) (by omega)
      simp only [Bool.not_eq_false', decide_eq_true_eq] at h5
      rw [show mid + (A.length + X.length) - 1 - r = A.length + X.length + (Y1.length - 1) by omega, gY _ (by omega), show r = A.length + X1.length by omega, gX _ (by omega)] at h5
      have h1 := pw_le sX (i := X1.length) (j := i) (by omega) (by omega)
      have h2 := pw_le sY (i := j) (j := Y1.length - 1) (by omega) (by omega)
      unfold Lt; omega
    -- the lower half
    obtain ⟨R1, s1, p1, w1⟩ : ∃ R1, (∀ k : List Int → Option (List Int), (if (if decide ((A.length : Int) < (r : Int)) = true then decide ((r : Int) < (mid : Int)) else false) = true then (SlicessymMergeCmpFuncint_v1 fu (A ++ (X1 ++ (Y1 ++ (X2 ++ (Y2 ++ T))))) (A.length : Int) (r : Int) (mid : Int) l).bind k else k (A ++ (X1 ++ (Y1 ++ (X2 ++ (Y2 ++ T)))))) = k (A ++ (R1 ++ (X2 ++ (Y2 ++ T))))) ∧ R1.Perm (X1 ++ Y1) ∧ R1.Pairwise (Lt D) := by
      by_cases hc : A.length < r ∧ r < mid
      · obtain ⟨R1, e1, e2, e3⟩ := sym_ok hC fu A X1 Y1 (X2 ++ (Y2 ++ T)) (A.length : Int) (r : Int) (mid : Int) rfl (by omega) (by omega) (by intro h; subst h; simp at lX1; omega) (by intro h; subst h; simp at lY1; omega) (by omega) (by omega)
          (fun x hx => vX x (by rw [eX]; simp [hx])) (fun y hy => vY y (by rw [eY]; simp [hy])) (fun x hx y hy => hlt x (by rw [eX]; simp [hx]) y (by rw [eY]; simp [hy])) sX'.1 sY'.1
        refine ⟨R1, fun k => ?_, e2, e3⟩
        rw [if_pos (by simp; omega), e1]; rfl
      · refine ⟨X1 ++ Y1, fun k => ?_, List.Perm.refl _, ?_⟩
        · rw [if_neg (by simp; omega)]; simp
        · rcases Nat.lt_or_ge A.length r with h | h
          · have : Y1 = [] := List.length_eq_zero_iff.1 (by omega)
            subst this; simpa using sX'.1
          · have : X1 = [] := List.length_eq_zero_iff.1 (by omega)
            subst this; simpa using sY'.1
    have lR1 : A.length + R1.length = mid := by have := p1.length_eq; simp at this; omega
    -- the upper half
    obtain ⟨R2, s2, p2, w2⟩ : ∃ R2, (if (if decide ((mid : Int) < ((mid + (A.length + X.length) - r : Nat) : Int)) = true then decide (((mid + (A.length + X.length) - r : Nat) : Int) < ((A.length + X.length + Y.length : Nat) : Int)) else false) = true then (SlicessymMergeCmpFuncint_v1 fu (A ++ (R1 ++ (X2 ++ (Y2 ++ T)))) (mid : Int) ((mid + (A.length + X.length) - r : Nat) : Int) ((A.length + X.length + Y.length : Nat) : Int) l).bind (fun q => some q) else some (A ++ (R1 ++ (X2 ++ (Y2 ++ T))))) = some (A ++ ((R1 ++ R2) ++ T)) ∧ R2.Perm (X2 ++ Y2) ∧ R2.Pairwise (Lt D) := by
      by_cases hc : mid < mid + (A.length + X.length) - r ∧ mid + (A.length + X.length) - r < A.length + X.length + Y.length
      · obtain ⟨R2, e1, e2, e3⟩ := sym_ok hC fu (A ++ R1) X2 Y2 T (mid : Int) ((mid + (A.length + X.length) - r : Nat) : Int) ((A.length + X.length + Y.length : Nat) : Int) (by simp; omega) (by simp; omega) (by simp; omega) (by intro h; subst h; simp at lXe; omega) (by intro h; subst h; simp at lYe; omega) (by omega) (by simp; omega)
          (fun x hx => vX x (by rw [eX]; simp [hx])) (fun y hy => vY y (by rw [eY]; simp [hy])) (fun x hx y hy => hlt x (by rw [eX]; simp [hx]) y (by rw [eY]; simp [hy])) sX'.2.1 sY'.2.1
        refine ⟨R2, ?_, e2, e3⟩
        rw [if_pos (by simp; omega), show A ++ (R1 ++ (X2 ++ (Y2 ++ T))) = (A ++ R1) ++ (X2 ++ (Y2 ++ T)) by simp, e1]; simp
      · refine ⟨X2 ++ Y2, ?_, List.Perm.refl _, ?_⟩
        · rw [if_neg (by simp; omega)]; simp
        · rcases Nat.lt_or_ge mid (mid + (A.length + X.length) - r) with h | h
          · have : Y2 = [] := List.length_eq_zero_iff.1 (by omega)
            subst this; simpa using sX'.2.1
          · have : X2 = [] := List.length_eq_zero_iff.1 (by omega)
            subst this; simpa using sY'.2.1
    refine ⟨R1 ++ R2, ?_, ?_, ?_⟩
    · have hs := s1 (fun q => if (if decide ((mid : Int) < ((mid + (A.length + X.length) - r : Nat) : Int)) = true then decide (((mid + (A.length + X.length) - r : Nat) : Int) < ((A.length + X.length + Y.length : Nat) : Int)) else false) = true then (SlicessymMergeCmpFuncint_v1 fu q (mid : Int) ((mid + (A.length + X.length) - r : Nat) : Int) ((A.length + X.length + Y.length : Nat) : Int) l).bind (fun q => some q) else some q)
      have hs2 := hs.trans s2
      by_cases hc : r < A.length + X.length ∧ A.length + X.length < mid + (A.length + X.length) - r
      · rw [if_pos (by simp; omega)]
        have hro := rot_ok (l := l) (fu := fu) (A := A ++ X1) (X := X2) (Y := Y1) (T := Y2 ++ T) (a := (r : Int)) (m := ((A.length + X.length : Nat) : Int)) (b := ((mid + (A.length + X.length) - r : Nat) : Int)) (by intro h; subst h; simp at lXe; omega) (by intro h; subst h; simp at lY1; omega) (by omega) (by simp; omega) (by simp; omega) (by simp; omega) (by simp; omega)
        have hdd : A ++ (X ++ (Y ++ T)) = (A ++ X1) ++ (X2 ++ (Y1 ++ (Y2 ++ T))) := by rw [eX, eY]; simp
        rw [hdd, hro, Option.bind_some, show (A ++ X1) ++ (Y1 ++ (X2 ++ (Y2 ++ T))) = A ++ (X1 ++ (Y1 ++ (X2 ++ (Y2 ++ T)))) by simp]
        exact hs2
      · rw [if_neg (by simp; omega)]
        have hdd : A ++ (X ++ (Y ++ T)) = A ++ (X1 ++ (Y1 ++ (X2 ++ (Y2 ++ T)))) := by
          rw [eX, eY]
          rcases Nat.lt_or_ge r (A.length + X.length) with h | h
          · have : Y1 = [] := List.length_eq_zero_iff.1 (by omega)
            subst this; simp
          · have : X2 = [] := List.length_eq_zero_iff.1 (by omega)
            subst this; simp
        rw [hdd]
        exact hs2
    · refine (p1.append p2).trans ?_
      rw [eX, eY]
      have : (Y1 ++ (X2 ++ Y2)).Perm (X2 ++ (Y1 ++ Y2)) := by
        rw [← List.append_assoc, ← List.append_assoc]; exact List.perm_append_comm.append_right _
      simpa using this.append_left X1
    · refine List.pairwise_append.2 ⟨w1, w2, ?_⟩
      intro x hx y hy
      rcases List.mem_append.1 (p1.subset hx) with h1 | h1 <;> rcases List.mem_append.1 (p2.subset hy) with h2 | h2
      · exact sX'.2.2 x h1 y h2
      · exact q1 x h1 y h2
      · exact q2 x h1 y h2
      · exact sY'.2.2 x h1 y h2

/-- the whole, for at most 40 -/
theorem stable_ok (hC : ∀ x y, V x → V y → ∃ c, Fleetorder_1_v1 x y l = some c ∧ (c < 0 ↔ D x < D y)) {fu : Nat} (hf : 60 ≤ fu) {X : List Int} (hn : X.length ≤ 40) (hV : ∀ y ∈ X, V y) (hu : X.Pairwise (· < ·)) :
    ∃ R, SlicesSortStableFuncLint_v1 fu X l = some R ∧ R.Perm X ∧ R.Pairwise (Lt D) := by
  unfold SlicesSortStableFuncLint_v1 SlicesstableCmpFuncint_v1
  obtain ⟨f, rfl⟩ : ∃ m, fu = m + 5 := ⟨fu - 5, by omega⟩
  have w0 : w64 (20 + 20) = 40 := by decide
  have w1 : w64 (40 + 20) = 60 := by decide
  have w2 : w64 (2 * 20) = 40 := by decide
  have w3 : w64 (20 * 2) = 40 := by decide
  have w4 : w64 (40 + 40) = 80 := by decide
  have w5 : w64 (0 + 20) = 20 := by decide
  have w6 : w64 (40 + 20) = 60 := by decide
  rcases Nat.lt_or_ge X.length 20 with h | h
  · obtain ⟨R, e1, e2, e3⟩ := ins_ok hC (fu := f + 5) (A := []) (X := X) (T := []) (by omega) (by simp; omega) hV hu
    refine ⟨R, ?_, e2, e3⟩
    simp only [List.nil_append, List.append_nil, List.length_nil, Nat.zero_add] at e1
    have d1 : decide ((20 : Int) ≤ ((X.length : Nat) : Int)) = false := by simp; omega
    have d2 : decide ((20 : Int) < ((X.length : Nat) : Int)) = false := by simp; omega
    have z : (0 : Int) = ((0 : Nat) : Int) := rfl
    simp only [SlicesstableCmpFuncint_v1.loop1, d1, Bool.false_eq_true, if_false, Option.bind_some]
    rw [z, e1]
    simp only [Option.bind_some, SlicesstableCmpFuncint_v1.loop2, d2, Bool.false_eq_true, if_false]
  · obtain ⟨X1, X2, rfl, l1⟩ : ∃ X1 X2, X = X1 ++ X2 ∧ X1.length = 20 := ⟨X.take 20, X.drop 20, (List.take_append_drop _ _).symm, by simp; omega⟩
    simp only [List.length_append] at hn h
    rw [List.pairwise_append] at hu
    obtain ⟨R1, a1, a2, a3⟩ := ins_ok hC (fu := f + 5) (A := []) (X := X1) (T := X2) (by omega) (by simp; omega) (fun y hy => hV y (by simp [hy])) hu.1
    have lR1 : R1.length = 20 := by rw [a2.length_eq, l1]
    obtain ⟨R2, b1, b2, b3⟩ := ins_ok hC (fu := f + 5) (A := R1) (X := X2) (T := []) (by omega) (by omega) (fun y hy => hV y (by simp [hy])) hu.2.1
    have lR2 : R2.length = X2.length := b2.length_eq
    simp only [List.nil_append, List.append_nil, List.length_nil, Nat.zero_add, l1] at a1 b1
    have z : (0 : Int) = ((0 : Nat) : Int) := rfl
    have z2 : (20 : Int) = ((20 : Nat) : Int) := rfl
    have d1 : decide ((20 : Int) ≤ (((X1 ++ X2).length : Nat) : Int)) = true := by simp; omega
    have hsym : X2 ≠ [] → ∃ R, SlicessymMergeCmpFuncint_v1 (f + 5) (R1 ++ R2) 0 20 (((X1 ++ X2).length : Nat) : Int) l = some R ∧ R.Perm (X1 ++ X2) ∧ R.Pairwise (Lt D) := by
      intro hne
      obtain ⟨R, e1, e2, e3⟩ := sym_ok hC (f + 5) [] R1 R2 [] 0 20 (((X1 ++ X2).length : Nat) : Int) rfl (by simp [lR1]) (by simp; omega) (by intro h; subst h; simp at lR1) (by intro h; subst h; simp at lR2; exact hne (List.length_eq_zero_iff.1 lR2.symm)) (by omega) (by simp; omega)
        (fun x hx => hV x (by simp [a2.subset hx])) (fun y hy => hV y (by simp [b2.subset hy])) (fun x hx y hy => hu.2.2 x (a2.subset hx) y (b2.subset hy)) a3 b3
      refine ⟨R, by simpa using e1, e2.trans (a2.append b2), e3⟩
    rcases Nat.lt_or_ge 0 X2.length with h2 | h2
    · obtain ⟨R, e1, e2, e3⟩ := hsym (List.length_pos_iff.1 h2)
      refine ⟨R, ?_, e2, e3⟩
      have d2 : decide ((20 : Int) < (((X1 ++ X2).length : Nat) : Int)) = true := by simp; omega
      have d3 : decide ((40 : Int) < (((X1 ++ X2).length : Nat) : Int)) = false := by simp; omega
      rcases Nat.lt_or_ge X2.length 20 with h3 | h3
      · have d4 : decide ((40 : Int) ≤ (((X1 ++ X2).length : Nat) : Int)) = false := by simp; omega
        simp only [SlicesstableCmpFuncint_v1.loop1, d1, if_true]
        rw [z, z2, a1]
        simp only [Option.bind_some, ← z, ← z2, w0, d4, Bool.false_eq_true, if_false]
        rw [show (R1.length : Int) = 20 by rw [lR1]; rfl, show ((R1.length + X2.length : Nat) : Int) = (((X1 ++ X2).length : Nat) : Int) by simp [lR1, l1]] at b1
        rw [b1]
        simp only [Option.bind_some, SlicesstableCmpFuncint_v1.loop2, d2, if_true, SlicesstableCmpFuncint_v1.loop3, w2, d4, Bool.false_eq_true, if_false, w5, e1, w3, d3]
      · have d4 : decide ((40 : Int) ≤ (((X1 ++ X2).length : Nat) : Int)) = true := by simp; omega
        have d5 : decide ((60 : Int) ≤ (((X1 ++ X2).length : Nat) : Int)) = false := by simp; omega
        have d6 : decide ((80 : Int) ≤ (((X1 ++ X2).length : Nat) : Int)) = false := by simp; omega
        have d7 : decide ((60 : Int) < (((X1 ++ X2).length : Nat) : Int)) = false := by simp; omega
        have hl40 : (((X1 ++ X2).length : Nat) : Int) = 40 := by simp; omega
        simp only [SlicesstableCmpFuncint_v1.loop1, d1, if_true]
        rw [z, z2, a1]
        simp only [Option.bind_some, ← z, ← z2, w0, d4, if_true]
        rw [show (R1.length : Int) = 20 by rw [lR1]; rfl, show ((R1.length + X2.length : Nat) : Int) = 40 by omega] at b1
        rw [b1]
        simp only [Option.bind_some, w1, d5, Bool.false_eq_true, if_false]
        obtain ⟨R3, c1, c2, c3⟩ := ins_ok hC (fu := f + 5) (A := R1 ++ R2) (X := []) (T := []) (by simp) (by simp <;> omega) (by simp) (by simp)
        obtain rfl : R3 = [] := List.perm_nil.1 c2
        rw [show ((R1 ++ R2).length : Int) = 40 by simp; omega, show (((R1 ++ R2).length + ([] : List Int).length : Nat) : Int) = (((X1 ++ X2).length : Nat) : Int) by simp; omega] at c1
        simp only [List.append_nil] at c1
        rw [c1]
        rw [hl40] at e1
        simp only [Option.bind_some, SlicesstableCmpFuncint_v1.loop2, d2, if_true, SlicesstableCmpFuncint_v1.loop3, w2, d4, w5, e1, w4, d6, Bool.false_eq_true, if_false, w6, d7, w3, d3]
    · obtain rfl : X2 = [] := List.length_eq_zero_iff.1 (by omega)
      refine ⟨R1, ?_, by simpa using a2, a3⟩
      simp only [List.append_nil] at *
      have d2 : decide ((20 : Int) < ((X1.length : Nat) : Int)) = false := by simp; omega
      have d4 : decide ((40 : Int) ≤ ((X1.length : Nat) : Int)) = false := by simp; omega
      simp only [SlicesstableCmpFuncint_v1.loop1, d1, if_true]
      rw [z, z2, a1]
      simp only [Option.bind_some, ← z, ← z2, w0, d4, Bool.false_eq_true, if_false]
      obtain ⟨R3, c1, c2, c3⟩ := ins_ok hC (fu := f + 5) (A := R1) (X := []) (T := []) (by simp) (by simp <;> omega) (by simp) (by simp)
      obtain rfl : R3 = [] := List.perm_nil.1 c2
      rw [show (R1.length : Int) = 20 by rw [lR1]; rfl, show ((R1.length + ([] : List Int).length : Nat) : Int) = ((X1.length : Nat) : Int) by simp; omega] at c1
      simp only [List.append_nil] at c1
      rw [c1]
      simp only [Option.bind_some, SlicesstableCmpFuncint_v1.loop2, d2, Bool.false_eq_true, if_false]
end stable
/-! the tasks in the order of Dep -/
def rng (n : Nat) : List Int := (List.range n).map fun (i : Nat) => (i : Int)
theorem rng_len (n : Nat) : (rng n).length = n := by simp [rng]
theorem rng_mem (n : Nat) (x : Int) : x ∈ rng n ↔ 0 ≤ x ∧ x < n := by
  simp only [rng, List.mem_map, List.mem_range]
  constructor
  · rintro ⟨i, h, rfl⟩; omega
  · intro h; exact ⟨x.toNat, by omega, by omega⟩
theorem rng_lt (n : Nat) : (rng n).Pairwise (· < ·) := by
  unfold rng
  rw [List.pairwise_map]
  exact List.pairwise_lt_range.imp (by intro a b h; omega)
def depOf (l : List FleetTask) (x : Int) : Int := (l.getD x.toNat default).Dep
theorem gx_task {l : List FleetTask} {x : Int} (h : 0 ≤ x ∧ x < l.length) : gx l x = some (l.getD x.toNat default) := by
  unfold gx
  rw [if_pos h.1, List.getD_eq_getElem?_getD, List.getElem?_eq_getElem (by omega)]; rfl
theorem cmp_dep (l : List FleetTask) (x y : Int) (hx : 0 ≤ x ∧ x < l.length) (hy : 0 ≤ y ∧ y < l.length) : ∃ c, Fleetorder_1_v1 x y l = some c ∧ (c < 0 ↔ depOf l x < depOf l y) := by
  unfold Fleetorder_1_v1
  rw [gx_task hx, gx_task hy]
  refine ⟨_, rfl, ?_⟩
  unfold CmpCompareint CmpisNaNint depOf
  simp only [bne_self_eq_false, Bool.false_eq_true, if_false]
  generalize (l.getD x.toNat default).Dep = a
  generalize (l.getD y.toNat default).Dep = b
  by_cases h1 : a < b
  · simp [h1]
  · by_cases h2 : a > b <;> simp [h1, h2]
theorem order_loop : ∀ (n k : Nat), Fleetorder.loop1 n k (rng k ++ List.replicate n 0) = some (rng (k + n))
  | 0, k => by simp [Fleetorder.loop1]
  | n + 1, k => by
    have h1 : ix (rng k ++ 0 :: List.replicate n 0) ((k : Nat) : Int) = some () := ix_mid (by rw [rng_len])
    have h2 : sx (rng k ++ 0 :: List.replicate n 0) ((k : Nat) : Int) ((k : Nat) : Int) = some (rng k ++ (k : Int) :: List.replicate n 0) := sx_mid (by rw [rng_len])
    have h3 : rng k ++ (k : Int) :: List.replicate n 0 = rng (k + 1) ++ List.replicate n 0 := by
      simp [rng, List.range_succ]
    rw [List.replicate_succ, Fleetorder.loop1]
    simp only [h1, h2, h3, Option.bind_some]
    rw [order_loop n (k + 1)]; congr 2; omega
theorem order_ok {fu : Nat} (hf : 60 ≤ fu) (l : List FleetTask) (hl : l.length ≤ 40) : ∃ R, Fleetorder fu l = some R ∧ R.Pairwise (Lt (depOf l)) ∧ R.length = l.length ∧ ∀ x, x ∈ R ↔ 0 ≤ x ∧ x < l.length := by
  obtain ⟨R, r1, r2, r3⟩ := stable_ok (V := fun x => 0 ≤ x ∧ x < l.length) (D := depOf l) (fun x y hx hy => cmp_dep l x y hx hy) hf (X := rng l.length) (by rw [rng_len]; exact hl) (fun y hy => (rng_mem _ _).1 hy) (rng_lt _)
  refine ⟨R, ?_, r3, by rw [r2.length_eq, rng_len], fun x => by rw [r2.mem_iff, rng_mem]⟩
  have h1 : mks ((l.length : Nat) : Int) (0 : Int) = some (List.replicate l.length 0) := by
    unfold mks; rw [if_pos (by omega)]; simp
  have h2 := order_loop l.length 0
  simp only [rng, List.range_zero, List.map_nil, List.nil_append, Nat.zero_add] at h2
  unfold Fleetorder
  simp only [h1, Option.bind_some, List.length_replicate, h2]
  have h3 : ((List.range l.length).map fun (i : Nat) => (i : Int)) = rng l.length := rfl
  rw [h3, r1]; rfl
theorem three {c1 c2 c3 : Bool} {z : Out Int Unit} (h : (if c1 = true then Out.ret 2 else if c2 = true then Out.ret 13 else if c3 = true then Out.ret 2 else z) = Out.next ()) : c1 = false ∧ c2 = false ∧ c3 = false ∧ z = Out.next () := by
  cases c1 <;> cases c2 <;> cases c3 <;> simp_all
theorem three' {c1 c2 c3 : Bool} {z : Out Int Unit} {r : Int} (h : (if c1 = true then Out.ret 2 else if c2 = true then Out.ret 13 else if c3 = true then Out.ret 2 else z) = Out.ret r) (hz : z = Out.ret r → r ≠ 0) : r ≠ 0 := by
  cases c1 <;> cases c2 <;> cases c3 <;> simp at h <;> first | exact hz h | omega
theorem in_bool {x a b : Int} (h : (!(Fleetwithin x a b)) = false) : a ≤ x ∧ x ≤ b := by
  unfold Fleetwithin bnd at h
  by_cases h1 : x ≥ a <;> by_cases h2 : x ≤ b <;> simp [h1, h2] at h
  exact ⟨h1, h2⟩
theorem tasks_in : ∀ l : List FleetTask, FleetCheckTasks.loop1 l = .next () → ∀ t ∈ l, 0 ≤ t.Dep ∧ t.Dep ≤ 28800 ∧ 1 ≤ t.Units ∧ t.Units ≤ 4
  | [], _ => by simp
  | x :: r, h => by
    simp only [FleetCheckTasks.loop1, bnd_eq] at h
    obtain ⟨h1, h2, h3, h4⟩ := three h
    have hd : (!(Fleetwithin x.Dep 0 28800)) = false := by
      revert h1; cases !(Fleetwithin x.From 0 11) <;> cases !(Fleetwithin x.To 0 11) <;> cases !(Fleetwithin x.Dep 0 28800) <;> simp
    have hu : (!(Fleetwithin x.Units 1 4)) = false := by
      revert h3; cases !(Fleetwithin x.Km 0 10000) <;> cases !(Fleetwithin x.Units 1 4) <;> simp
    have d1 := in_bool hd
    have d2 := in_bool hu
    intro t ht
    rcases List.mem_cons.1 ht with rfl | ht
    · exact ⟨d1.1, d1.2, d2.1, d2.2⟩
    · exact tasks_in r h4 t ht
theorem tasks_ret : ∀ (l : List FleetTask) (r : Int), FleetCheckTasks.loop1 l = .ret r → r ≠ 0
  | [], r, h => by simp [FleetCheckTasks.loop1] at h
  | x :: t, r, h => by
    simp only [FleetCheckTasks.loop1, bnd_eq] at h
    exact three' h (tasks_ret t r)
theorem turn_in {l : List FleetTask} {t : Int} (h : FleetcheckTurn l t = 0) : l.length ≤ 40 ∧ ∀ x ∈ l, 0 ≤ x.Dep ∧ x.Dep ≤ 28800 ∧ 1 ≤ x.Units ∧ x.Units ≤ 4 := by
  unfold FleetcheckTurn at h
  have h1 : FleetCheckTasks l = 0 := by
    by_cases h1 : FleetCheckTasks l = 0
    · exact h1
    · simp [h1] at h
  unfold FleetCheckTasks at h1
  by_cases h2 : ((l.length : Nat) : Int) > 40
  · simp [h2] at h1
  · simp only [h2, decide_false, Bool.false_eq_true, if_false, bnd_eq] at h1
    refine ⟨by omega, tasks_in l ?_⟩
    revert h1
    cases h3 : FleetCheckTasks.loop1 l with
    | next u => intro _; rfl
    | ret r => intro h1; exact absurd h1 (tasks_ret l r h3)
/-! the reference's order of tasks is the same -/
theorem inOrder2 (l : List FleetTask) (d : Int) : ∀ (r : List FleetTask) (k : Nat) (o : List Int), l.drop k = r → o.length + r.length ≤ 1000 → ∃ P, Fishref2inOrder.loop2 d r k o = some (o ++ P) ∧ P.Pairwise (· < ·) ∧ ∀ x, x ∈ P ↔ (k : Int) ≤ x ∧ x < l.length ∧ depOf l x = d
  | [], k, o, hd, _ => ⟨[], by simp [Fishref2inOrder.loop2], by simp, by
      intro x; have := List.drop_eq_nil_iff.1 hd; simp; omega⟩
  | v :: r, k, o, hd, hl => by
    obtain ⟨d1, d2, d3⟩ := drop_cons hd
    simp only [List.length_cons] at hl
    have hv : depOf l (k : Int) = v.Dep := by simp [depOf, List.getD_eq_getElem?_getD, d2]
    simp only [Fishref2inOrder.loop2]
    by_cases h : v.Dep = d
    · have hb : (v.Dep == d) = true := by simpa using h
      have ha : apd o [((k : Nat) : Int)] = some (o ++ [((k : Nat) : Int)]) := by unfold apd; rw [if_pos (by simp; omega)]
      simp only [hb, if_true, ha, Option.bind_some]
      obtain ⟨P, p1, p2, p3⟩ := inOrder2 l d r (k + 1) (o ++ [((k : Nat) : Int)]) d3 (by simp; omega)
      refine ⟨(k : Int) :: P, by rw [p1]; simp, List.pairwise_cons.2 ⟨fun y hy => by have := ((p3 y).1 hy).1; omega, p2⟩, ?_⟩
      intro x
      rw [List.mem_cons, p3]
      constructor
      · rintro (rfl | h1)
        · exact ⟨by omega, by omega, by rw [hv, h]⟩
        · exact ⟨by omega, h1.2⟩
      · rintro ⟨h1, h2, h3⟩
        by_cases e : x = k
        · exact .inl e
        · exact .inr ⟨by omega, h2, h3⟩
    · have hb : (v.Dep == d) = false := by simpa using h
      simp only [hb, Bool.false_eq_true, if_false, Option.bind_some]
      obtain ⟨P, p1, p2, p3⟩ := inOrder2 l d r (k + 1) o d3 (by omega)
      refine ⟨P, p1, p2, ?_⟩
      intro x
      rw [p3]
      constructor
      · rintro ⟨h1, h2⟩; exact ⟨by omega, h2⟩
      · rintro ⟨h1, h2, h3⟩
        refine ⟨?_, h2, h3⟩
        by_cases e : x = k
        · subst e; exact absurd (hv.symm.trans h3) h
        · omega
theorem inOrder1 (l : List FleetTask) (hl : l.length ≤ 40) (hD : ∀ x ∈ l, 0 ≤ x.Dep ∧ x.Dep ≤ 28800) {R : List Int} (hs : R.Pairwise (Lt (depOf l))) (hn : R.length = l.length) (hR : ∀ x, x ∈ R ↔ 0 ≤ x ∧ x < l.length) :
    ∀ (n : Nat) (d : Int), 0 ≤ d → d ≤ 28801 → (28801 - d).toNat < n → ∃ d', Fishref2inOrder.loop1 l n (R.filter fun x => decide (depOf l x < d)) d = some (R, d')
  | 0, _, _, _, h => absurd h (by omega)
  | n + 1, d, h0, h1, h2 => by
    have hdep : ∀ x ∈ R, 0 ≤ depOf l x ∧ depOf l x ≤ 28800 := by
      intro x hx
      have := (hR x).1 hx
      unfold depOf
      rw [List.getD_eq_getElem?_getD, List.getElem?_eq_getElem (by omega)]
      exact hD _ (List.getElem_mem _)
    simp only [Fishref2inOrder.loop1, bnd_eq]
    by_cases h3 : ((R.filter fun x => decide (depOf l x < d)).length : Int) < (l.length : Int) ∧ d ≤ 28800
    · simp only [h3.1, h3.2, decide_true, if_true]
      obtain ⟨P, p1, p2, p3⟩ := inOrder2 l d l 0 (R.filter fun x => decide (depOf l x < d)) rfl (by omega)
      have e : (R.filter fun x => decide (depOf l x < d)) ++ P = R.filter fun x => decide (depOf l x < d + 1) := by
        refine lt_ext (D := depOf l) ?_ (hs.filter _) ?_
        · refine List.pairwise_append.2 ⟨hs.filter _, ?_, ?_⟩
          · refine p2.imp_of_mem ?_
            intro a b ha hb hab
            have h4 := (p3 a).1 ha
            have h5 := (p3 b).1 hb
            exact .inr ⟨by rw [h4.2.2, h5.2.2], hab⟩
          · intro a ha b hb
            have h4 := (List.mem_filter.1 ha).2
            have h5 := (p3 b).1 hb
            exact .inl (by have := of_decide_eq_true h4; omega)
        · intro x
          rw [List.mem_append, p3, List.mem_filter, List.mem_filter, hR, decide_eq_true_eq, decide_eq_true_eq]
          constructor
          · rintro (h | h)
            · exact ⟨h.1, by omega⟩
            · exact ⟨⟨by omega, h.2.1⟩, by omega⟩
          · rintro ⟨h, h'⟩
            by_cases e : depOf l x < d
            · exact .inl ⟨h, e⟩
            · exact .inr ⟨by omega, h.2, by omega⟩
      rw [p1, Option.bind_some, e, w64_id (by omega)]
      exact inOrder1 l hl hD hs hn hR n (d + 1) (by omega) (by omega) (by omega)
    · have hc : (if decide (((R.filter fun x => decide (depOf l x < d)).length : Int) < (l.length : Int)) = true then decide (d ≤ 28800) else false) = false := by
        by_cases h4 : ((R.filter fun x => decide (depOf l x < d)).length : Int) < (l.length : Int)
        · have h5 : ¬ d ≤ 28800 := fun h => h3 ⟨h4, h⟩
          simp [h5]
        · simp [h4]
      have hf : (R.filter fun x => decide (depOf l x < d)) = R := by
        by_cases h4 : d ≤ 28800
        · have h5 : ¬ ((R.filter fun x => decide (depOf l x < d)).length : Int) < (l.length : Int) := fun h => h3 ⟨h, h4⟩
          have h6 := List.length_filter_le (fun x => decide (depOf l x < d)) R
          exact List.filter_eq_self.2 (List.length_filter_eq_length_iff.1 (by omega))
        · refine List.filter_eq_self.2 fun x hx => ?_
          have := hdep x hx
          exact decide_eq_true (by omega)
      rw [if_neg (by rw [hc]; simp), hf]
      exact ⟨d, rfl⟩
theorem inOrder_eq {fu : Nat} (hf : 28802 ≤ fu) (l : List FleetTask) (hl : l.length ≤ 40) (hD : ∀ x ∈ l, 0 ≤ x.Dep ∧ x.Dep ≤ 28800) {R : List Int} (hs : R.Pairwise (Lt (depOf l))) (hn : R.length = l.length) (hR : ∀ x, x ∈ R ↔ 0 ≤ x ∧ x < l.length) : Fishref2inOrder fu l = some R := by
  obtain ⟨d', h⟩ := inOrder1 l hl hD hs hn hR fu 0 (by omega) (by omega) (by omega)
  have e : (R.filter fun x => decide (depOf l x < 0)) = [] := by
    refine List.filter_eq_nil_iff.2 fun x hx => ?_
    have h1 := (hR x).1 hx
    have : 0 ≤ depOf l x := by
      unfold depOf
      rw [List.getD_eq_getElem?_getD, List.getElem?_eq_getElem (by omega)]
      exact (hD _ (List.getElem_mem _)).1
    simp; omega
  rw [e] at h
  unfold Fishref2inOrder
  rw [h]; rfl
end Srt
theorem sets_true (n : Nat) : Fishlaw2sets (n + 60) = some true := by kernel_rfl
theorem gxn {α : Type} {l : List α} {k : Nat} (h : k < l.length) : gx l ((k : Nat) : Int) = some l[k] := gx_at h
theorem ix_c {α : Type} {l : List α} {k : Nat} (h : k < l.length) : ix l ((k : Nat) : Int) = some () := ix_in (by omega) (by omega)
theorem sx_c {α : Type} {l : List α} {k : Nat} (h : k < l.length) (v : α) : sx l ((k : Nat) : Int) v = some (l.set k v) := by
  rw [sx_in (by omega) (by omega)]; rfl
/-- lists of u rising numbers from a number on, of d numbers -/
def chs : Nat → Nat → Nat → List (List Nat)
  | _, 0, _ => [[]]
  | 0, _ + 1, _ => []
  | d + 1, u + 1, a => (chs d u (a + 1)).map (a :: ·) ++ chs d (u + 1) (a + 1)
theorem chs_zero (d a : Nat) : chs d 0 a = [[]] := by cases d <;> rfl
theorem chs_len : ∀ (d u a : Nat), (chs d u a).length ≤ 2 ^ d
  | d, 0, a => by rw [chs_zero]; exact Nat.one_le_two_pow
  | 0, u + 1, a => by simp [chs]
  | d + 1, u + 1, a => by
    have h1 := chs_len d u (a + 1)
    have h2 := chs_len d (u + 1) (a + 1)
    simp only [chs, List.length_append, List.length_map, Nat.pow_succ]; omega
/-- numbers of a list as integers -/
def ints (c : List Nat) : List Int := c.map (fun (n : Nat) => (n : Int))
structure AEnv (l : List FleetTask) (t : Int) (sets : List FleetSet) (s : FleetShop) (o : List Int) : Prop where
  hT : ∀ a ∈ l, TOk a
  hU : ∀ a ∈ l, 1 ≤ a.Units ∧ a.Units ≤ 4
  t0 : 0 ≤ t ∧ t ≤ 28800
  sl : sets.length ≤ 6
  hs : ∀ x ∈ sets, 0 ≤ x.Km ∧ x.Km ≤ s.Limit
  hg : 0 ≤ s.Long ∧ s.Long ≤ 28800
  hlim : 0 ≤ s.Limit ∧ s.Limit ≤ 10000
  ll : l.length ≤ 40
  ho : ∀ x ∈ o, 0 ≤ x ∧ x < l.length
  ol : o.length ≤ 40
  sf : Fishref2SetsFault sets s 6 = 0
def home (sets : List FleetSet) (n : Nat) : Int := (sets[n]?.map (·.Home)).getD 0
def lastI (row : List Int) : Int := row.getLast?.getD 0
/-- may the task k come next for set n -/
def fit (l : List FleetTask) (t : Int) (sets : List FleetSet) (k : Int) (n : Nat) (row : List Int) : Bool :=
  if row = [] then (tk l k).From == home sets n else (tk l (lastI row)).To == (tk l k).From && decide ((tk l (lastI row)).Arr + t ≤ (tk l k).Dep)
/-- a row that may be given to set n -/
structure RowOk (l : List FleetTask) (sets : List FleetSet) (b n : Nat) (row : List Int) : Prop where
  mem : ∀ i ∈ row, 0 ≤ i ∧ i < l.length
  len : row.length ≤ b
  first : ∀ h : 0 < row.length, (tk l row[0]).From = home sets n
  next : ∀ k, (h : k + 1 < row.length) → (tk l (row[k]'(by omega))).To = (tk l row[k + 1]).From ∧ (tk l (row[k]'(by omega))).Arr ≤ (tk l row[k + 1]).Dep
structure VT (l : List FleetTask) (sets : List FleetSet) (b : Nat) (turns : List (List Int)) : Prop where
  len : turns.length = sets.length
  row : ∀ n, (h : n < turns.length) → RowOk l sets b n turns[n]
def app1 (turns : List (List Int)) (k : Int) (n : Nat) : List (List Int) := turns.set n ((turns[n]?.getD []) ++ [k])
def app (turns : List (List Int)) (k : Int) (c : List Nat) : List (List Int) := c.foldl (fun u n => app1 u k n) turns
theorem app_len (k : Int) : ∀ (c : List Nat) (turns : List (List Int)), (app turns k c).length = turns.length
  | [], _ => rfl
  | n :: c, turns => by show (app (app1 turns k n) k c).length = _; rw [app_len k c]; simp [app1]
theorem app_out (k : Int) {m : Nat} : ∀ (c : List Nat) (turns : List (List Int)), m ∉ c → (app turns k c)[m]? = turns[m]?
  | [], _, _ => rfl
  | n :: c, turns, h => by
    show (app (app1 turns k n) k c)[m]? = _
    rw [app_out k c _ (fun hm => h (by simp [hm]))]
    unfold app1
    rw [List.getElem?_set_ne (fun e => h (by simp [e]))]
theorem app_snoc (turns : List (List Int)) (k : Int) (c : List Nat) (n : Nat) (hn : n ∉ c) : app turns k (c ++ [n]) = (app turns k c).set n ((turns[n]?.getD []) ++ [k]) := by
  unfold app
  rw [List.foldl_append]
  show app1 (app turns k c) k n = _
  unfold app1
  rw [app_out k c turns hn]; rfl
theorem lastI_at {row : List Int} (h : row ≠ []) : ∃ hl : row.length - 1 < row.length, lastI row = row[row.length - 1] := by
  have := List.length_pos_iff.2 h
  refine ⟨by omega, ?_⟩
  unfold lastI
  rw [List.getLast?_eq_getElem?, List.getElem?_eq_getElem (by omega)]; rfl
section
variable {l : List FleetTask} {t : Int} {sets : List FleetSet} {s : FleetShop} {o : List Int} (hV : AEnv l t sets s o)
include hV
theorem AEnv.tok {k : Int} (h : 0 ≤ k ∧ k < l.length) : TOk (tk l k) := tk_ok hV.hT h.1 h.2
omit hV in
theorem home_at {n : Nat} (h : n < sets.length) : home sets n = sets[n].Home := by simp [home, h]
theorem row_app {b n : Nat} {row : List Int} {k : Int} (hk : 0 ≤ k ∧ k < l.length) (hR : RowOk l sets b n row) (hf : fit l t sets k n row = true) : RowOk l sets (b + 1) n (row ++ [k]) := by
  have ht0 := hV.t0
  refine ⟨fun i hi => ?_, by have := hR.len; simp; omega, fun h => ?_, fun j hj => ?_⟩
  · rcases List.mem_append.1 hi with h | h
    · exact hR.mem i h
    · obtain rfl : i = k := by simpa using h
      exact hk
  · unfold fit at hf
    by_cases e : row = []
    · subst e
      simpa using hf
    · have hp := List.length_pos_iff.2 e
      rw [List.getElem_append_left hp]
      exact hR.first hp
  · simp only [List.length_append, List.length_singleton] at hj
    by_cases e : j + 1 < row.length
    · rw [List.getElem_append_left (by omega), List.getElem_append_left e]
      exact hR.next j e
    · have he : row ≠ [] := by intro h; subst h; simp at hj
      have hj' : j = row.length - 1 := by omega
      subst hj'
      obtain ⟨hl, hlast⟩ := lastI_at he
      unfold fit at hf
      rw [if_neg he, hlast] at hf
      simp only [Bool.and_eq_true, beq_iff_eq, decide_eq_true_eq] at hf
      rw [List.getElem_append_left (by omega), List.getElem_append_right (by omega)]
      simp only [List.getElem_singleton]
      exact ⟨hf.1, by omega⟩
theorem vt_app {b : Nat} {k : Int} (hk : 0 ≤ k ∧ k < l.length) : ∀ (c : List Nat) (turns : List (List Int)), c.Pairwise (· < ·) → (∀ n ∈ c, n < sets.length) → (∀ n ∈ c, fit l t sets k n (turns[n]?.getD []) = true) → VT l sets b turns → VT l sets (b + 1) (app turns k c) := by
  intro c turns hp hn hf hT
  refine ⟨by rw [app_len]; exact hT.len, fun m hm => ?_⟩
  have hmt : m < turns.length := by rw [app_len] at hm; exact hm
  by_cases hmc : m ∈ c
  · obtain ⟨c1, c2, rfl⟩ := List.append_of_mem hmc
    have hp2 := List.pairwise_append.1 hp
    have h1 : m ∉ c1 := fun h => by have := hp2.2.2 m h m (by simp); omega
    have h2 : m ∉ c2 := fun h => by have := (List.pairwise_cons.1 hp2.2.1).1 m h; omega
    have e : app turns k (c1 ++ m :: c2) = app (app1 (app turns k c1) k m) k c2 := by unfold app; rw [List.foldl_append]; rfl
    have e2 : (app turns k (c1 ++ m :: c2))[m]? = some (turns[m] ++ [k]) := by
      rw [e, app_out k c2 _ h2]
      unfold app1
      rw [app_out k c1 _ h1, List.getElem?_set_self (by rw [app_len]; exact hmt), List.getElem?_eq_getElem hmt]; rfl
    have e3 : (app turns k (c1 ++ m :: c2))[m] = turns[m] ++ [k] := by
      have := List.getElem?_eq_getElem hm
      rw [e2] at this
      exact (Option.some.inj this).symm
    rw [e3]
    have hfm := hf m hmc
    rw [List.getElem?_eq_getElem hmt] at hfm
    exact row_app hV hk (hT.row m hmt) hfm
  · have e2 := app_out k c turns hmc
    rw [List.getElem?_eq_getElem hm, List.getElem?_eq_getElem hmt] at e2
    rw [Option.some.inj e2]
    have := hT.row m hmt
    exact ⟨this.mem, by have := this.len; omega, this.first, this.next⟩
theorem turn_of {b n : Nat} (hb : b ≤ 1000) {row : List Int} (hn : n < sets.length) (hR : RowOk l sets b n row) : Turn l row sets[n] s := by
  have hx := hV.hs _ (List.getElem_mem hn)
  have := hR.len
  exact ⟨hV.hT, hR.mem, by omega, hV.hlim.1, hV.hlim.2, hV.hg.1, hV.hg.2, hx.1, hx.2⟩
omit hV in
theorem pos_all {row : List Int} {x : FleetSet} (h : Turn l row x s) : ∃ res : List Int × Bool, (∀ fu, 36000 ≤ fu → Fleetpositions fu l row x s = some res ∧ Fishref2positions fu l row x s = some res) ∧ res.1.length ≤ 40000 := by
  have hn := h.n
  obtain ⟨r0, b0, p0⟩ := prog_run h (fu := 36000) (by omega)
  obtain ⟨q0, q1, _, q3⟩ := positions_same h (fu := 36000) (by omega)
  have e0 := q1.symm.trans p0
  refine ⟨q0, fun fu hf => ?_, q3⟩
  obtain ⟨r, b1, p1⟩ := prog_run h (fu := fu) (by omega)
  have e := best_one b0 b1
  subst e
  obtain ⟨q, z1, z2, _⟩ := positions_same h (fu := fu) (by omega)
  have e1 := z1.symm.trans p1
  have e2 := Option.some.inj (e1.trans e0.symm)
  subst e2
  exact ⟨z1, z2⟩
theorem follows_eq {p k : Int} (hp : 0 ≤ p ∧ p < l.length) (hk : 0 ≤ k ∧ k < l.length) : Fleetfollows (tk l p) (tk l k) t = ((tk l p).To == (tk l k).From && decide ((tk l p).Arr + t ≤ (tk l k).Dep)) ∧ w64 ((tk l p).Arr + t) = (tk l p).Arr + t := by
  have h1 := hV.tok hp
  have a0 := h1.a0; have a1 := h1.a1; have ht := hV.t0
  have hw : w64 ((tk l p).Arr + t) = (tk l p).Arr + t := w64_id (by omega)
  refine ⟨?_, hw⟩
  unfold Fleetfollows bnd
  rw [hw]
  by_cases c : (tk l p).To = (tk l k).From
  · simp [c]
  · have c' : ¬ (tk l k).From = (tk l p).To := fun h => c h.symm
    simp [c, c']
theorem prog_fit {n b : Nat} {row : List Int} (hb : b ≤ 1000) {k : Int} (hk : 0 ≤ k ∧ k < l.length) (hn : n < sets.length) (hR : RowOk l sets b n row) :
    ((if (((row).length : Int) == 0) then ((gx l k).bind fun x156 => ((gx sets ((n : Nat) : Int)).bind fun x165 => (if (x156.From != x165.Home) then some true else (if decide (((row).length : Int) > 0) then ((gx row (w64 (((row).length : Int) - 1))).bind fun x176 => ((gx l x176).bind fun x185 => ((gx l k).bind fun x194 => some (!(Fleetfollows x185 x194 t))))) else some false)))) else (if decide (((row).length : Int) > 0) then ((gx row (w64 (((row).length : Int) - 1))).bind fun x204 => ((gx l x204).bind fun x213 => ((gx l k).bind fun x222 => some (!(Fleetfollows x213 x222 t))))) else some false)) : Option Bool) = some (!fit l t sets k n row) := by
  have hlen := hR.len
  unfold fit
  by_cases e : row = []
  · subst e
    have h0 : (((([] : List Int).length : Nat) : Int) == 0) = true := rfl
    rw [if_pos h0, gx_tk hk.1 hk.2, gxn hn, if_pos rfl, home_at hn]
    simp only [Option.bind_some]
    by_cases c : (tk l k).From = sets[n].Home
    · simp [c]
    · simp [c]
  · have hp := List.length_pos_iff.2 e
    have h0 : ¬ ((((row.length : Nat) : Int) == 0) = true) := by simp; omega
    have h1 : (((row.length : Nat) : Int) > 0) := by omega
    obtain ⟨hl, hlast⟩ := lastI_at e
    have hw : w64 (((row.length : Nat) : Int) - 1) = ((row.length - 1 : Nat) : Int) := by rw [w64_id (by omega)]; omega
    have hm := hR.mem _ (List.getElem_mem hl)
    rw [if_neg h0, if_pos (decide_eq_true h1), hw, gxn hl, if_neg e]
    simp only [Option.bind_some]
    rw [gx_tk hm.1 hm.2, gx_tk hk.1 hk.2]
    simp only [Option.bind_some]
    rw [(follows_eq hV hm hk).1, hlast]
theorem ref_fit {n b : Nat} (hb : b ≤ 1000) {row : List Int} {k : Int} (hk : 0 ≤ k ∧ k < l.length) (hn : n < sets.length) (hR : RowOk l sets b n row) (q294 : Bool) :
    ((if (((row).length : Int) == 0) then (((if q294 then ((gx sets ((n : Nat) : Int)).bind fun x324 => ((gx l k).bind fun x333 => some (x324.Home == x333.From))) else some false) : Option Bool).bind fun q321 => some q321) else ((gx row (w64 (((row).length : Int) - 1))).bind fun x343 => ((gx l x343).bind fun x353 => (((if q294 then ((gx l k).bind fun x370 => (if (x353.To == x370.From) then ((gx l k).bind fun x380 => some (decide ((w64 (x353.Arr + t)) ≤ x380.Dep))) else some false)) else some false) : Option Bool).bind fun q367 => some q367)))) : Option Bool) = some (q294 && fit l t sets k n row) := by
  have hlen := hR.len
  unfold fit
  by_cases e : row = []
  · subst e
    have h0 : (((([] : List Int).length : Nat) : Int) == 0) = true := rfl
    rw [if_pos h0, gx_tk hk.1 hk.2, gxn hn, if_pos rfl, home_at hn]
    cases q294
    · rfl
    · simp only [Option.bind_some, if_true, Bool.true_and]
      congr 1
      rw [Bool.eq_iff_iff]
      simp only [beq_iff_eq]
      exact eq_comm
  · have hp := List.length_pos_iff.2 e
    have h0 : ¬ ((((row.length : Nat) : Int) == 0) = true) := by simp; omega
    obtain ⟨hl, hlast⟩ := lastI_at e
    have hw : w64 (((row.length : Nat) : Int) - 1) = ((row.length - 1 : Nat) : Int) := by rw [w64_id (by omega)]; omega
    have hm := hR.mem _ (List.getElem_mem hl)
    rw [if_neg h0, hw, gxn hl, if_neg e]
    simp only [Option.bind_some]
    rw [gx_tk hm.1 hm.2, gx_tk hk.1 hk.2]
    simp only [Option.bind_some]
    rw [(follows_eq hV hm hk).2, hlast]
    cases q294
    · rfl
    · simp only [if_true, Bool.true_and]
      by_cases c : (tk l row[row.length - 1]).To = (tk l k).From
      · simp [c]
      · simp [c]
/-- which of a choice may come next, all -/
def AllFit (l : List FleetTask) (t : Int) (sets : List FleetSet) (k : Int) (turns : List (List Int)) (d : List Nat) : Bool := d.all (fun n => fit l t sets k n (turns[n]?.getD []))
theorem r_l4 {b : Nat} (hb : b ≤ 1000) {k : Int} (hk : 0 ≤ k ∧ k < l.length) {turns : List (List Int)} (hT : VT l sets b turns) : ∀ (d : List Nat) (q : Bool), (∀ n ∈ d, n < sets.length) →
    Fishref2AssignOf_1_v1.loop4 l sets t k turns (ints d) q = some (q && AllFit l t sets k turns d)
  | [], q, _ => by simp [ints, Fishref2AssignOf_1_v1.loop4, AllFit]
  | n :: d, q, hn => by
    have hns := hn n (by simp)
    have hnt : n < turns.length := by rw [hT.len]; exact hns
    have e : ints (n :: d) = ((n : Nat) : Int) :: ints d := rfl
    rw [e, Fishref2AssignOf_1_v1.loop4, gxn hnt]
    simp only [Option.bind_some]
    rw [ref_fit hV hb hk hns (hT.row n hnt) q]
    simp only [Option.bind_some]
    rw [r_l4 hb hk hT d _ (fun m hm => hn m (by simp [hm]))]
    have : AllFit l t sets k turns (n :: d) = (fit l t sets k n turns[n] && AllFit l t sets k turns d) := by
      unfold AllFit
      rw [List.all_cons, List.getElem?_eq_getElem hnt]; rfl
    rw [this, Bool.and_assoc]
omit hV in
theorem r_l5 {k : Int} : ∀ (d : List Nat) (turns : List (List Int)), (∀ n ∈ d, n < turns.length) → (∀ r ∈ turns, r.length + d.length ≤ 2000) → Fishref2AssignOf_1_v1.loop5 k (ints d) turns = some (app turns k d)
  | [], _, _, _ => rfl
  | n :: d, turns, hn, hr => by
    have hnt := hn n (by simp)
    have hrn := hr _ (List.getElem_mem hnt)
    simp only [List.length_cons] at hr hrn
    have e : ints (n :: d) = ((n : Nat) : Int) :: ints d := rfl
    have e2 : app turns k (n :: d) = app (app1 turns k n) k d := rfl
    have e3 : app1 turns k n = turns.set n (turns[n] ++ [k]) := by unfold app1; rw [List.getElem?_eq_getElem hnt]; rfl
    rw [e, Fishref2AssignOf_1_v1.loop5, gxn hnt]
    simp only [Option.bind_some]
    rw [apd_lt (by simp; omega), ix_c hnt]
    simp only [Option.bind_some]
    rw [sx_c hnt]
    simp only [Option.bind_some]
    rw [r_l5 d _ (fun m hm => by simpa using hn m (by simp [hm])) (fun r hr' => by
      rcases List.mem_or_eq_of_mem_set hr' with h | h
      · have := hr r h; omega
      · subst h; simp; omega), e2, e3]
omit hV in
theorem r_l6 {k : Int} : ∀ (d : List Nat) (cur : List (List Int)) (turns : List (List Int)), d.Nodup → cur.length = turns.length → (∀ n ∈ d, n < turns.length) → (∀ r ∈ turns, r.length ≤ 2000) → (∀ m, m ∉ d → cur[m]? = turns[m]?) → (∀ n ∈ d, cur[n]? = some ((turns[n]?.getD []) ++ [k])) →
    Fishref2AssignOf_1_v1.loop6 (ints d) cur = some turns
  | [], cur, turns, _, hl, _, _, ho, _ => by
    have : cur = turns := List.ext_getElem? (fun m => ho m (by simp))
    rw [this]; rfl
  | n :: d, cur, turns, hnd, hl, hn, hr, ho, hi => by
    have hnt := hn n (by simp)
    have hnc : n < cur.length := by omega
    have hin := hi n (by simp)
    rw [List.getElem?_eq_getElem hnc, List.getElem?_eq_getElem hnt] at hin
    have hc : cur[n] = turns[n] ++ [k] := Option.some.inj hin
    have hrn := hr _ (List.getElem_mem hnt)
    have e : ints (n :: d) = ((n : Nat) : Int) :: ints d := rfl
    rw [e, Fishref2AssignOf_1_v1.loop6, gxn hnc, hc]
    simp only [Option.bind_some]
    have hw : w64 ((((turns[n] ++ [k]).length : Nat) : Int) - 1) = ((turns[n].length : Nat) : Int) := by simp only [List.length_append, List.length_singleton]; rw [w64_id (by omega)]; omega
    rw [hw, cutl_in (by omega) (by omega) (by simp; omega), ix_c hnc]
    simp only [Option.bind_some]
    rw [sx_c hnc]
    simp only [Option.bind_some, Int.toNat_natCast, Int.toNat_zero, List.drop_zero, List.take_left']
    have hnd' := List.nodup_cons.1 hnd
    refine r_l6 (k := k) d _ turns hnd'.2 (by simpa using hl) (fun m hm => hn m (by simp [hm])) hr (fun m hm => ?_) (fun m hm => ?_)
    · by_cases e : m = n
      · subst e
        rw [List.getElem?_set_self hnc, List.getElem?_eq_getElem hnt]
      · rw [List.getElem?_set_ne (fun h => e h.symm)]
        exact ho m (by simp [e, hm])
    · have : m ≠ n := fun e => hnd'.1 (e ▸ hm)
      rw [List.getElem?_set_ne (fun h => this h.symm)]
      exact hi m (by simp [hm])
end
theorem ints_snoc (c : List Nat) (n : Nat) : ints (c ++ [n]) = ints c ++ [(n : Int)] := by simp [ints]
theorem ints_len (c : List Nat) : (ints c).length = c.length := by simp [ints]
theorem clone_int {q : List Int} (h : q.length ≤ 100000) : SlicesCloneLint q = some q := by
  unfold SlicesCloneLint
  rw [apd_lt (by simp; omega)]; simp
theorem ch_both (N many : Nat) (hN : N ≤ 6) (hmany : many ≤ 100) : ∀ d, (∀ (u a : Nat) (c : List Nat) (out : List (List Int)) (f : Nat), a + d = N → c.length + u = many → d + 2 ≤ f → out.length + 2 ^ d ≤ 1000 → Fishref2choices_1_v1 f (ints c) (a : Int) (many : Int) out (N : Int) = some (out ++ (chs d u a).map (fun e => ints (c ++ e)))) ∧
    (∀ (u a : Nat) (c : List Nat) (out : List (List Int)) (f m : Nat), a + d = N → c.length + (u + 1) = many → d + 1 ≤ f → d < m → out.length + 2 ^ d ≤ 1000 → ∃ z, Fishref2choices_1_v1.loop1 (ints c) (many : Int) (N : Int) (Fishref2choices_1_v1 f) m (a : Int) out = some (z, out ++ (chs d (u + 1) a).map (fun e => ints (c ++ e)))) := by
  have base : ∀ (d : Nat), (∀ (u a : Nat) (c : List Nat) (out : List (List Int)) (f m : Nat), a + d = N → c.length + (u + 1) = many → d + 1 ≤ f → d < m → out.length + 2 ^ d ≤ 1000 → ∃ z, Fishref2choices_1_v1.loop1 (ints c) (many : Int) (N : Int) (Fishref2choices_1_v1 f) m (a : Int) out = some (z, out ++ (chs d (u + 1) a).map (fun e => ints (c ++ e)))) →
      ∀ (u a : Nat) (c : List Nat) (out : List (List Int)) (f : Nat), a + d = N → c.length + u = many → d + 2 ≤ f → out.length + 2 ^ d ≤ 1000 → Fishref2choices_1_v1 f (ints c) (a : Int) (many : Int) out (N : Int) = some (out ++ (chs d u a).map (fun e => ints (c ++ e))) := by
    intro d H u a c out f h1 h2 h4 h5
    obtain ⟨f, rfl⟩ : ∃ z, f = z + 1 := ⟨f - 1, by omega⟩
    rw [Fishref2choices_1_v1, ints_len]
    cases u with
    | zero =>
      have hb : (((c.length : Nat) : Int) == (many : Int)) = true := by simp; omega
      have hp : 0 < 2 ^ d := Nat.pow_pos (by omega)
      rw [hb, if_pos rfl, clone_int (by rw [ints_len]; omega)]
      simp only [Option.bind_some]
      rw [apd_lt (by simp; omega), chs_zero]
      simp
    | succ u =>
      have hb : (((c.length : Nat) : Int) == (many : Int)) = false := by simp; omega
      obtain ⟨z, hz⟩ := H u a c out f f h1 h2 (by omega) (by omega) h5
      rw [hb]
      simp only [Bool.false_eq_true, if_false]
      rw [hz]
      rfl
  intro d
  induction d with
  | zero =>
    have H : ∀ (u a : Nat) (c : List Nat) (out : List (List Int)) (f m : Nat), a + 0 = N → c.length + (u + 1) = many → 0 + 1 ≤ f → 0 < m → out.length + 2 ^ 0 ≤ 1000 → ∃ z, Fishref2choices_1_v1.loop1 (ints c) (many : Int) (N : Int) (Fishref2choices_1_v1 f) m (a : Int) out = some (z, out ++ (chs 0 (u + 1) a).map (fun e => ints (c ++ e))) := by
      intro u a c out f m h1 _ _ h5 _
      obtain ⟨m, rfl⟩ : ∃ z, m = z + 1 := ⟨m - 1, by omega⟩
      rw [Fishref2choices_1_v1.loop1]
      have : ¬ ((a : Int) < (N : Int)) := by omega
      simp only [this, decide_false, Bool.false_eq_true, if_false]
      exact ⟨((a : Nat) : Int), by simp [chs]⟩
    exact ⟨base 0 H, H⟩
  | succ d ih =>
    obtain ⟨G, H⟩ := ih
    have H' : ∀ (u a : Nat) (c : List Nat) (out : List (List Int)) (f m : Nat), a + (d + 1) = N → c.length + (u + 1) = many → d + 1 + 1 ≤ f → d + 1 < m → out.length + 2 ^ (d + 1) ≤ 1000 → ∃ z, Fishref2choices_1_v1.loop1 (ints c) (many : Int) (N : Int) (Fishref2choices_1_v1 f) m (a : Int) out = some (z, out ++ (chs (d + 1) (u + 1) a).map (fun e => ints (c ++ e))) := by
      intro u a c out f m h1 h2 h4 h5 h6
      obtain ⟨m, rfl⟩ : ∃ z, m = z + 1 := ⟨m - 1, by omega⟩
      rw [Fishref2choices_1_v1.loop1]
      have ha : ((a : Int) < (N : Int)) := by omega
      have hw : w64 ((a : Int) + 1) = ((a + 1 : Nat) : Int) := by rw [w64_id (by omega)]; omega
      rw [Nat.pow_succ] at h6
      have hc1 := chs_len d u (a + 1)
      simp only [ha, decide_true, if_true]
      rw [apd_lt (by rw [ints_len]; simp; omega), hw]
      simp only [Option.bind_some]
      rw [← ints_snoc, G u (a + 1) (c ++ [a]) out f (by omega) (by simp; omega) (by omega) (by omega)]
      simp only [Option.bind_some]
      obtain ⟨z, hz⟩ := H u (a + 1) c (out ++ (chs d u (a + 1)).map (fun e => ints (c ++ [a] ++ e))) f m (by omega) h2 (by omega) (by omega) (by simp; omega)
      refine ⟨z, ?_⟩
      rw [hz]
      simp [chs, Function.comp_def]
    exact ⟨base (d + 1) H', H'⟩
theorem chs_ok : ∀ (d u a : Nat) (e : List Nat), e ∈ chs d u a → e.Pairwise (· < ·) ∧ (∀ n ∈ e, a ≤ n ∧ n < a + d) ∧ e.length = u
  | d, 0, a, e, h => by
    rw [chs_zero] at h
    obtain rfl : e = [] := by simpa using h
    simp
  | 0, u + 1, a, e, h => by simp [chs] at h
  | d + 1, u + 1, a, e, h => by
    rw [chs] at h
    rcases List.mem_append.1 h with h | h
    · obtain ⟨e', he', rfl⟩ := List.mem_map.1 h
      obtain ⟨h1, h2, h3⟩ := chs_ok d u (a + 1) e' he'
      refine ⟨List.Pairwise.cons (fun m hm => by have := h2 m hm; omega) h1, fun n hn => ?_, by simp [h3]⟩
      rcases List.mem_cons.1 hn with rfl | hn
      · omega
      · have := h2 n hn; omega
    · obtain ⟨h1, h2, h3⟩ := chs_ok d (u + 1) (a + 1) e h
      exact ⟨h1, fun n hn => by have := h2 n hn; omega, h3⟩
theorem app_in (turns : List (List Int)) (k : Int) {c : List Nat} (hp : c.Pairwise (· < ·)) {m : Nat} (hm : m ∈ c) (hmt : m < turns.length) : (app turns k c)[m]? = some ((turns[m]?.getD []) ++ [k]) := by
  obtain ⟨c1, c2, rfl⟩ := List.append_of_mem hm
  have hp2 := List.pairwise_append.1 hp
  have h1 : m ∉ c1 := fun h => by have := hp2.2.2 m h m (by simp); omega
  have h2 : m ∉ c2 := fun h => by have := (List.pairwise_cons.1 hp2.2.1).1 m h; omega
  have e : app turns k (c1 ++ m :: c2) = app (app1 (app turns k c1) k m) k c2 := by unfold app; rw [List.foldl_append]; rfl
  rw [e, app_out k c2 _ h2]
  unfold app1
  rw [app_out k c1 _ h1, List.getElem?_set_self (by rw [app_len]; exact hmt)]
abbrev StR := Int × List (List Int) × List (List Int)
section
variable (l : List FleetTask) (t : Int) (sets : List FleetSet) (s : FleetShop) (o : List Int)
def TryR (g i : Nat) (turns : List (List Int)) (a c : StR) : Prop := Fishref2AssignOf_1_v1 g ((i : Nat) : Int) o l turns sets s a.1 a.2.1 a.2.2 t = some (turns, c.1, c.2.1, c.2.2)
/-- the reference goes through choices for task k -/
def Steps (g i : Nat) (k : Int) (turns : List (List Int)) : List (List Nat) → StR → StR → Prop
  | [], a, b => a = b
  | d :: ds, a, b => (AllFit l t sets k turns d = false ∧ Steps g i k turns ds a b) ∨ (AllFit l t sets k turns d = true ∧ ∃ c, TryR l t sets s o g (i + 1) (app turns k d) a c ∧ Steps g i k turns ds c b)
theorem Steps.app {g i : Nat} {k : Int} {turns : List (List Int)} : ∀ {A B : List (List Nat)} {a b c : StR}, Steps l t sets s o g i k turns A a b → Steps l t sets s o g i k turns B b c → Steps l t sets s o g i k turns (A ++ B) a c
  | [], _, _, _, _, h, h2 => by
    have : _ = _ := h
    subst this; exact h2
  | d :: A, B, a, b, c, h, h2 => by
    rcases h with ⟨h0, h⟩ | ⟨h0, z, hz, h⟩
    · exact .inl ⟨h0, h.app h2⟩
    · exact .inr ⟨h0, z, hz, h.app h2⟩
theorem Steps.skip {g i : Nat} {k : Int} {turns : List (List Int)} : ∀ (A : List (List Nat)) (a : StR), (∀ d ∈ A, AllFit l t sets k turns d = false) → Steps l t sets s o g i k turns A a a
  | [], _, _ => rfl
  | d :: A, a, h => .inl ⟨h d (by simp), Steps.skip A a (fun e he => h e (by simp [he]))⟩
/-- positions of all rows of a choice -/
def PosAll (best bA : List (List Int)) : Prop := bA.length = sets.length ∧ ∀ n, (h : n < sets.length) → ∀ fu, 36000 ≤ fu → Fleetpositions fu l (best[n]?.getD []) sets[n] s = some (bA[n]?.getD [], true)
def RelS (best : List (List Int)) (least : Int) (a : StR) : Prop := (best = [] ∧ least = 0 ∧ a = (-1, [], [])) ∨ (best ≠ [] ∧ best.length = sets.length ∧ 0 ≤ least ∧ a.1 = least ∧ a.2.2 = best ∧ PosAll l sets s best a.2.1)
def MSpec (i : Nat) : Prop := ∀ (fP g : Nat) (turns : List (List Int)) (best : List (List Int)) (least : Int) (a : StR), 41000 + 6 * (o.length - i) ≤ fP → 41000 + (o.length - i) ≤ g → VT l sets i turns → RelS l sets s best least a →
  ∃ best' least' c, FleetGivergive_v1 fP ((i : Nat) : Int) 0 0 ⟨l, t, sets, s, o, turns, best, least⟩ = some (turns, best', least') ∧ TryR l t sets s o g i turns a c ∧ RelS l sets s best' least' c
variable {l t sets s o} (hV : AEnv l t sets s o)
include hV
theorem r_l3 {i b g : Nat} (hb : b ≤ 1000) {k : Int} (hk : 0 ≤ k ∧ k < l.length) (hi : i < 1000) {turns : List (List Int)} (hT : VT l sets b turns) (C : List (List Nat)) (hC : ∀ e ∈ C, e.Pairwise (· < ·) ∧ (∀ n ∈ e, n < sets.length) ∧ e.length ≤ 100) :
    ∀ (d idx : Nat) (a c : StR), idx + d = C.length → Steps l t sets s o g i k turns (C.drop idx) a c →
    Fishref2AssignOf_1_v1.loop3 ((i : Nat) : Int) o l sets s t (Fishref2AssignOf_1_v1 g) k (C.map ints) d idx turns a.1 a.2.1 a.2.2 = some (turns, c.1, c.2.1, c.2.2)
  | 0, idx, a, c, hidx, hS => by
    have : C.drop idx = [] := List.drop_eq_nil_iff.2 (by omega)
    rw [this] at hS
    have e : a = c := hS
    subst e
    rfl
  | d + 1, idx, a, c, hidx, hS => by
    have hic : idx < C.length := by omega
    obtain ⟨e1, e2, e3⟩ := hC _ (List.getElem_mem hic)
    rw [List.drop_eq_getElem_cons hic] at hS
    rw [Fishref2AssignOf_1_v1.loop3, gxn (by simpa using hic)]
    simp only [Option.bind_some, List.getElem_map]
    rw [r_l4 hV hb hk hT C[idx] true e2]
    simp only [Option.bind_some, Bool.true_and]
    have hw : w64 (((i : Nat) : Int) + 1) = ((i + 1 : Nat) : Int) := by rw [w64_id (by omega)]; omega
    rcases hS with ⟨h0, hS⟩ | ⟨h0, z, hz, hS⟩
    · rw [h0]
      simp only [Bool.not_false, if_true]
      exact r_l3 hb hk hi hT C hC d (idx + 1) a c (by omega) hS
    · rw [h0]
      simp only [Bool.not_true, Bool.false_eq_true, if_false]
      have hn : ∀ n ∈ C[idx], n < turns.length := fun n hn => by rw [hT.len]; exact e2 n hn
      have hrl : ∀ r ∈ turns, r.length ≤ b := fun r hr => by
        obtain ⟨j, hj, rfl⟩ := List.mem_iff_getElem.1 hr
        exact (hT.row j hj).len
      rw [r_l5 C[idx] turns hn (fun r hr => by have := hrl r hr; omega), hw]
      simp only [Option.bind_some]
      have hz' : Fishref2AssignOf_1_v1 g ((i + 1 : Nat) : Int) o l (app turns k C[idx]) sets s a.1 a.2.1 a.2.2 t = some (app turns k C[idx], z.1, z.2.1, z.2.2) := hz
      rw [hz']
      simp only [Option.bind_some]
      rw [r_l6 (k := k) C[idx] (app turns k C[idx]) turns (e1.imp (fun h => Nat.ne_of_lt h)) (app_len k _ _) hn (fun r hr => by have := hrl r hr; omega) (fun m hm => app_out k _ _ hm) (fun m hm => app_in turns k e1 hm (hn m hm))]
      simp only [Option.bind_some]
      exact r_l3 hb hk hi hT C hC d (idx + 1) z c (by omega) hS
/-- the program's search for one task, from a choice so far -/
theorem g_both {i g : Nat} (hi : i < o.length) (hg : 41000 + (o.length - (i + 1)) ≤ g) (hM : sets ≠ [] → MSpec l t sets s o (i + 1)) {k : Int} (hko : o[i] = k) {U : Nat} (hU : (tk l k).Units = (U : Int)) (hU1 : 1 ≤ U) (hU4 : U ≤ 4) {turns : List (List Int)} (hT : VT l sets i turns) : ∀ d,
    (∀ (u from_ : Nat) (c : List Nat) (best : List (List Int)) (least : Int) (a : StR) (fP : Nat), from_ + d = sets.length → c.length + u = U → c.Pairwise (· < ·) → (∀ n ∈ c, n < from_) → AllFit l t sets k turns c = true → 41000 + 6 * (o.length - (i + 1)) + u + 1 ≤ fP → RelS l sets s best least a →
      ∃ best' least' b, FleetGivergive_v1 fP ((i : Nat) : Int) ((c.length : Nat) : Int) ((from_ : Nat) : Int) ⟨l, t, sets, s, o, app turns k c, best, least⟩ = some (app turns k c, best', least') ∧ Steps l t sets s o g i k turns ((chs d u from_).map (c ++ ·)) a b ∧ RelS l sets s best' least' b) ∧
    (∀ (u from_ : Nat) (c : List Nat) (best : List (List Int)) (least : Int) (a : StR) (fP m : Nat) (Y : FleetGiver), Y.tasks = l → Y.turn = t → Y.sets = sets → Y.shop = s → Y.order = o → from_ + d = sets.length → c.length + (u + 1) = U → c.Pairwise (· < ·) → (∀ n ∈ c, n < from_) → AllFit l t sets k turns c = true → 41000 + 6 * (o.length - (i + 1)) + u + 1 ≤ fP → d < m → RelS l sets s best least a →
      ∃ z best' least' b, FleetGivergive_v1.loop1 ((i : Nat) : Int) ((c.length : Nat) : Int) Y (FleetGivergive_v1 fP) k m ((from_ : Nat) : Int) (app turns k c) best least = some (z, app turns k c, best', least') ∧ Steps l t sets s o g i k turns ((chs d (u + 1) from_).map (c ++ ·)) a b ∧ RelS l sets s best' least' b) := by
  have hk : 0 ≤ k ∧ k < l.length := hV.ho k (hko ▸ List.getElem_mem hi)
  have hol := hV.ol
  have hsl := hV.sl
  have base : ∀ d, (∀ (u from_ : Nat) (c : List Nat) (best : List (List Int)) (least : Int) (a : StR) (fP m : Nat) (Y : FleetGiver), Y.tasks = l → Y.turn = t → Y.sets = sets → Y.shop = s → Y.order = o → from_ + d = sets.length → c.length + (u + 1) = U → c.Pairwise (· < ·) → (∀ n ∈ c, n < from_) → AllFit l t sets k turns c = true → 41000 + 6 * (o.length - (i + 1)) + u + 1 ≤ fP → d < m → RelS l sets s best least a →
      ∃ z best' least' b, FleetGivergive_v1.loop1 ((i : Nat) : Int) ((c.length : Nat) : Int) Y (FleetGivergive_v1 fP) k m ((from_ : Nat) : Int) (app turns k c) best least = some (z, app turns k c, best', least') ∧ Steps l t sets s o g i k turns ((chs d (u + 1) from_).map (c ++ ·)) a b ∧ RelS l sets s best' least' b) →
      (∀ (u from_ : Nat) (c : List Nat) (best : List (List Int)) (least : Int) (a : StR) (fP : Nat), from_ + d = sets.length → c.length + u = U → c.Pairwise (· < ·) → (∀ n ∈ c, n < from_) → AllFit l t sets k turns c = true → 41000 + 6 * (o.length - (i + 1)) + u + 1 ≤ fP → RelS l sets s best least a →
      ∃ best' least' b, FleetGivergive_v1 fP ((i : Nat) : Int) ((c.length : Nat) : Int) ((from_ : Nat) : Int) ⟨l, t, sets, s, o, app turns k c, best, least⟩ = some (app turns k c, best', least') ∧ Steps l t sets s o g i k turns ((chs d u from_).map (c ++ ·)) a b ∧ RelS l sets s best' least' b) := by
    intro d H u from_ c best least a fP h1 h2 h3 h4 h5 h6 h7
    obtain ⟨f, rfl⟩ : ∃ z, fP = z + 1 := ⟨fP - 1, by omega⟩
    rw [FleetGivergive_v1]
    have hne : (((i : Nat) : Int) == ((o.length : Nat) : Int)) = false := by simp; omega
    simp only [hne, Bool.false_eq_true, if_false]
    rw [gxn hi, hko]
    simp only [Option.bind_some]
    rw [gx_tk hk.1 hk.2]
    simp only [Option.bind_some]
    rw [hU]
    cases u with
    | zero =>
      have hb : (((c.length : Nat) : Int) == ((U : Nat) : Int)) = true := by simp; omega
      rw [hb, if_pos rfl]
      have hcn : ∀ n ∈ c, n < sets.length := fun n hn => by have := h4 n hn; omega
      have hsne : sets ≠ [] := by
        intro e
        cases c with
        | nil => simp at h2; omega
        | cons n c => have := hcn n (by simp); rw [e] at this; simp at this
      have hT1 : VT l sets (i + 1) (app turns k c) := vt_app hV hk c turns h3 hcn (fun n hn => by
        unfold AllFit at h5
        exact List.all_eq_true.1 h5 n hn) hT
      have hw : w64 (((i : Nat) : Int) + 1) = ((i + 1 : Nat) : Int) := by rw [w64_id (by omega)]; omega
      obtain ⟨best', least', b, g1, g2, g3⟩ := hM hsne f g (app turns k c) best least a (by omega) hg hT1 h7
      rw [hw, g1]
      refine ⟨best', least', b, rfl, ?_, g3⟩
      rw [chs_zero]
      simp only [List.map_cons, List.append_nil, List.map_nil]
      exact .inr ⟨h5, b, g2, rfl⟩
    | succ u =>
      have hb : (((c.length : Nat) : Int) == ((U : Nat) : Int)) = false := by simp; omega
      rw [hb]
      simp only [Bool.false_eq_true, if_false]
      obtain ⟨z, best', least', b, g1, g2, g3⟩ := H u from_ c best least a f f ⟨l, t, sets, s, o, app turns k c, best, least⟩ rfl rfl rfl rfl rfl h1 h2 h3 h4 h5 (by omega) (by omega) h7
      rw [g1]
      exact ⟨best', least', b, rfl, g2, g3⟩
  intro d
  induction d with
  | zero =>
    have H : ∀ (u from_ : Nat) (c : List Nat) (best : List (List Int)) (least : Int) (a : StR) (fP m : Nat) (Y : FleetGiver), Y.tasks = l → Y.turn = t → Y.sets = sets → Y.shop = s → Y.order = o → from_ + 0 = sets.length → c.length + (u + 1) = U → c.Pairwise (· < ·) → (∀ n ∈ c, n < from_) → AllFit l t sets k turns c = true → 41000 + 6 * (o.length - (i + 1)) + u + 1 ≤ fP → 0 < m → RelS l sets s best least a →
      ∃ z best' least' b, FleetGivergive_v1.loop1 ((i : Nat) : Int) ((c.length : Nat) : Int) Y (FleetGivergive_v1 fP) k m ((from_ : Nat) : Int) (app turns k c) best least = some (z, app turns k c, best', least') ∧ Steps l t sets s o g i k turns ((chs 0 (u + 1) from_).map (c ++ ·)) a b ∧ RelS l sets s best' least' b := by
      intro u from_ c best least a fP m Y _ _ hY _ _ h1 _ _ _ _ _ hm h7
      obtain ⟨m, rfl⟩ : ∃ z, m = z + 1 := ⟨m - 1, by omega⟩
      rw [FleetGivergive_v1.loop1, hY]
      have : ¬ (((from_ : Nat) : Int) < ((sets.length : Nat) : Int)) := by omega
      simp only [this, decide_false, Bool.false_eq_true, if_false]
      exact ⟨_, best, least, a, rfl, by simp [chs, Steps], h7⟩
    exact ⟨base 0 H, H⟩
  | succ d ih =>
    obtain ⟨G, H⟩ := ih
    have H' : ∀ (u from_ : Nat) (c : List Nat) (best : List (List Int)) (least : Int) (a : StR) (fP m : Nat) (Y : FleetGiver), Y.tasks = l → Y.turn = t → Y.sets = sets → Y.shop = s → Y.order = o → from_ + (d + 1) = sets.length → c.length + (u + 1) = U → c.Pairwise (· < ·) → (∀ n ∈ c, n < from_) → AllFit l t sets k turns c = true → 41000 + 6 * (o.length - (i + 1)) + u + 1 ≤ fP → d + 1 < m → RelS l sets s best least a →
      ∃ z best' least' b, FleetGivergive_v1.loop1 ((i : Nat) : Int) ((c.length : Nat) : Int) Y (FleetGivergive_v1 fP) k m ((from_ : Nat) : Int) (app turns k c) best least = some (z, app turns k c, best', least') ∧ Steps l t sets s o g i k turns ((chs (d + 1) (u + 1) from_).map (c ++ ·)) a b ∧ RelS l sets s best' least' b := by
      intro u from_ c best least a fP m Y y1 y2 y3 y4 y5 h1 h2 h3 h4 h5 h6 hm h7
      obtain ⟨m, rfl⟩ : ∃ z, m = z + 1 := ⟨m - 1, by omega⟩
      have hfs : from_ < sets.length := by omega
      have hnc : from_ ∉ c := fun h => by have := h4 _ h; omega
      have hft : from_ < turns.length := by rw [hT.len]; exact hfs
      have hfa : from_ < (app turns k c).length := by rw [app_len]; exact hft
      have hrow : (app turns k c)[from_] = turns[from_] := by
        have := app_out k c turns hnc
        rw [List.getElem?_eq_getElem hfa, List.getElem?_eq_getElem hft] at this
        exact Option.some.inj this
      have hRow := hT.row from_ hft
      have hrl := hRow.len
      rw [FleetGivergive_v1.loop1, y1, y2, y3, y4, y5]
      have hlt : (((from_ : Nat) : Int) < ((sets.length : Nat) : Int)) := by omega
      have hw : w64 (((from_ : Nat) : Int) + 1) = ((from_ + 1 : Nat) : Int) := by rw [w64_id (by omega)]; omega
      have hwc : w64 (((c.length : Nat) : Int) + 1) = (((c ++ [from_]).length : Nat) : Int) := by rw [w64_id (by omega)]; simp
      simp only [hlt, decide_true, if_true]
      rw [gxn hfa, hrow]
      simp only [Option.bind_some]
      rw [prog_fit hV (b := i) (by omega) hk hfs hRow, hw, hwc]
      simp only [Option.bind_some]
      have hsplit : (chs (d + 1) (u + 1) from_).map (c ++ ·) = ((chs d u (from_ + 1)).map ((c ++ [from_]) ++ ·)) ++ ((chs d (u + 1) (from_ + 1)).map (c ++ ·)) := by
        simp [chs, Function.comp_def]
      rw [hsplit]
      cases hf : fit l t sets k from_ turns[from_]
      · simp only [Bool.not_false, if_true]
        obtain ⟨z, best', least', b, g1, g2, g3⟩ := H u (from_ + 1) c best least a fP m Y y1 y2 y3 y4 y5 (by omega) h2 h3 (fun n hn => by have := h4 n hn; omega) h5 h6 (by omega) h7
        refine ⟨z, best', least', b, g1, Steps.app l t sets s o (Steps.skip l t sets s o _ a (fun e he => ?_)) g2, g3⟩
        obtain ⟨e', _, rfl⟩ := List.mem_map.1 he
        unfold AllFit
        rw [List.all_eq_false]
        exact ⟨from_, by simp, by rw [List.getElem?_eq_getElem hft]; simpa using hf⟩
      · simp only [Bool.not_true, Bool.false_eq_true, if_false]
        rw [clone_int (by omega)]
        simp only [Option.bind_some]
        rw [apd_lt (by simp; omega), ix_c hfa]
        simp only [Option.bind_some]
        rw [sx_c hfa]
        simp only [Option.bind_some]
        have happ : (app turns k c).set from_ (turns[from_] ++ [k]) = app turns k (c ++ [from_]) := by
          rw [app_snoc turns k c from_ hnc, List.getElem?_eq_getElem hft]; rfl
        rw [happ]
        have h5' : AllFit l t sets k turns (c ++ [from_]) = true := by
          unfold AllFit at h5 ⊢
          rw [List.all_append, h5, List.all_cons, List.getElem?_eq_getElem hft]
          simpa using hf
        have h3' : (c ++ [from_]).Pairwise (· < ·) := by
          rw [List.pairwise_append]
          exact ⟨h3, by simp, fun n hn m hm => by
            obtain rfl : m = from_ := by simpa using hm
            exact h4 n hn⟩
        obtain ⟨best1, least1, b1, g1, g2, g3⟩ := G u (from_ + 1) (c ++ [from_]) best least a fP (by omega) (by simp; omega) h3' (fun n hn => by
          rcases List.mem_append.1 hn with h | h
          · have := h4 n h; omega
          · obtain rfl : n = from_ := by simpa using h
            omega) h5' (by omega) h7
        rw [g1]
        simp only [Option.bind_some]
        have hfa2 : from_ < (app turns k (c ++ [from_])).length := by rw [app_len]; exact hft
        rw [ix_c hfa2]
        simp only [Option.bind_some]
        rw [sx_c hfa2]
        simp only [Option.bind_some]
        have hback : (app turns k (c ++ [from_])).set from_ turns[from_] = app turns k c := by
          rw [← happ, List.set_set]
          apply List.ext_getElem?
          intro j
          by_cases e : j = from_
          · subst e
            rw [List.getElem?_set_self hfa, List.getElem?_eq_getElem hfa, hrow]
          · rw [List.getElem?_set_ne (fun h => e h.symm)]
        rw [hback]
        obtain ⟨z, best', least', b, k1, k2, k3⟩ := H u (from_ + 1) c best1 least1 b1 fP m Y y1 y2 y3 y4 y5 (by omega) h2 h3 (fun n hn => by have := h4 n hn; omega) h5 h6 (by omega) g3
        exact ⟨z, best', least', b, k1, Steps.app l t sets s o g2 k2, k3⟩
    exact ⟨base (d + 1) H', H'⟩
end
def slen : List (List Int) → Int
  | [] => 0
  | r :: A => (r.length : Int) + slen A
section
variable {l : List FleetTask} {t : Int} {sets : List FleetSet} {s : FleetShop} {o : List Int} (hV : AEnv l t sets s o)
include hV
theorem leaf_both {b : Nat} (hb : b ≤ 1000) {turns : List (List Int)} (hT : VT l sets b turns) (Y : FleetGiver) (y1 : Y.tasks = l) (y3 : Y.sets = sets) (y4 : Y.shop = s) (y6 : Y.turns = turns) {f g : Nat} (hf : 36000 ≤ f) (hg : 36000 ≤ g) : ∀ (d k : Nat) (a : Int) (out : List (List Int)), k + d = sets.length → 0 ≤ a → a ≤ 40000 * (k : Int) → out.length ≤ k →
    (∃ A : List (List Int), A.length = d ∧ (∀ j, (h : k + j < sets.length) → ∀ fu, 36000 ≤ fu → Fleetpositions fu l (turns[k + j]?.getD []) sets[k + j] s = some (A[j]?.getD [], true)) ∧ FleetGivernote_v1.loop1 Y f d k a = some (.next (a + slen A)) ∧ Fishref2InspectOf_v1.loop3 l turns sets s g d k out = some (.next (out ++ A)) ∧ 0 ≤ slen A ∧ slen A ≤ 40000 * (d : Int)) ∨
    (FleetGivernote_v1.loop1 Y f d k a = some (.ret (Y.best, Y.least)) ∧ Fishref2InspectOf_v1.loop3 l turns sets s g d k out = some (.ret ([], 9)))
  | 0, k, a, out, hk, _, _, _ => .inl ⟨[], rfl, fun j h => absurd h (by omega), by simp [FleetGivernote_v1.loop1, slen], by simp [Fishref2InspectOf_v1.loop3], by simp [slen], by simp [slen]⟩
  | d + 1, k, a, out, hk, ha, ha2, ho => by
    have hks : k < sets.length := by omega
    have hkt : k < turns.length := by rw [hT.len]; exact hks
    have hsl := hV.sl
    obtain ⟨res, hres, hrl⟩ := pos_all (turn_of hV hb hks (hT.row k hkt))
    rw [FleetGivernote_v1.loop1, Fishref2InspectOf_v1.loop3, y1, y3, y4, y6, gxn hkt, gxn hks]
    simp only [Option.bind_some]
    rw [(hres f hf).1, (hres g hg).2]
    simp only [Option.bind_some]
    obtain ⟨r1, r2⟩ := res
    cases r2
    · simp only [Bool.not_false, if_true]
      exact .inr ⟨trivial, trivial⟩
    · simp only [Bool.not_true, Bool.false_eq_true, if_false]
      simp only at hrl
      rw [apd_lt (by simp; omega), w64_id (by omega)]
      simp only [Option.bind_some]
      rcases leaf_both hb hT Y y1 y3 y4 y6 hf hg d (k + 1) (a + (r1.length : Int)) (out ++ [r1]) (by omega) (by omega) (by omega) (by simp; omega) with ⟨A, h1, h2, h3, h4, h5, h6⟩ | ⟨h1, h2⟩
      · left
        refine ⟨r1 :: A, by simp [h1], fun j hj fu hfu => ?_, ?_, by rw [h4]; simp, by simp only [slen]; omega, by simp only [slen]; omega⟩
        · cases j with
          | zero =>
            simp only [Nat.add_zero]
            rw [List.getElem?_eq_getElem hkt]
            exact (hres fu hfu).1
          | succ j =>
            have e : k + (j + 1) = k + 1 + j := by omega
            simp only [e]
            exact h2 j (by omega) fu hfu
        · rw [h3]
          simp only [slen]
          congr 2; omega
      · exact .inr ⟨h1, h2⟩
theorem ins2 {b n : Nat} (hb : b ≤ 1000) (hn : n < sets.length) {row : List Int} (hR : RowOk l sets b n row) : ∀ (d j : Nat), j + d = row.length → Fishref2InspectOf_v1.loop2 l sets n row d j = some (.next ())
  | 0, _, _ => rfl
  | d + 1, j, hj => by
    have hjr : j < row.length := by omega
    have hm := hR.mem _ (List.getElem_mem hjr)
    have hlen := hR.len
    have ll := hV.ll
    rw [Fishref2InspectOf_v1.loop2, gxn hjr]
    have c1 : ¬ row[j] < 0 := by omega
    have c2 : ¬ row[j] ≥ ((l.length : Nat) : Int) := by omega
    simp only [Option.bind_some, bnd_eq, c1, c2, decide_false, Bool.false_eq_true, if_false]
    cases j with
    | zero =>
      have hf := hR.first hjr
      rw [home_at hn] at hf
      have e0 : (((0 : Nat) : Int) == 0) = true := rfl
      have e1 : ¬ (((0 : Nat) : Int) > 0) := by omega
      rw [gx_tk hm.1 hm.2, gxn hn]
      have e2 : ((tk l row[0]).From != sets[n].Home) = false := by simp [hf]
      simp only [e0, if_true, Option.bind_some, e1, decide_false, Bool.false_eq_true, if_false, e2]
      exact ins2 hb hn hR d 1 (by omega)
    | succ j =>
      have hnx := hR.next j hjr
      have hm' := hR.mem _ (List.getElem_mem (show j < row.length by omega))
      have e0 : (((j + 1 : Nat) : Int) == 0) = false := by simp; omega
      have e1 : (((j + 1 : Nat) : Int) > 0) := by omega
      have hw : w64 (((j + 1 : Nat) : Int) - 1) = ((j : Nat) : Int) := by rw [w64_id (by omega)]; omega
      have e2 : ((tk l (row[j]'(by omega))).To != (tk l row[j + 1]).From) = false := by simp [hnx.1]
      have e3 : ¬ ((tk l row[j + 1]).Dep < (tk l (row[j]'(by omega))).Arr) := by omega
      simp only [e0, Bool.false_eq_true, if_false, Option.bind_some, e1, decide_true, if_true, hw]
      rw [gxn (show j < row.length by omega)]
      simp only [Option.bind_some]
      rw [gx_tk hm'.1 hm'.2, gx_tk hm.1 hm.2]
      simp only [Option.bind_some, e2, Bool.false_eq_true, if_false, e3, decide_false]
      exact ins2 hb hn hR d (j + 1 + 1) (by omega)
theorem ins1 {b : Nat} (hb : b ≤ 1000) {turns : List (List Int)} (hT : VT l sets b turns) : ∀ (d k : Nat), k + d = sets.length → Fishref2InspectOf_v1.loop1 l turns sets d k = some (.next ())
  | 0, _, _ => rfl
  | d + 1, k, hk => by
    have hks : k < sets.length := by omega
    have hkt : k < turns.length := by rw [hT.len]; exact hks
    rw [Fishref2InspectOf_v1.loop1, gxn hkt]
    simp only [Option.bind_some]
    rw [ins2 hV hb hks (hT.row k hkt) turns[k].length 0 (by omega)]
    exact ins1 hb hT d (k + 1) (by omega)
omit hV in
theorem cnt_ok (A : List (List Int)) (e : Int) (hA : ∀ r ∈ A, r.length ≤ 40000) (hl : A.length ≤ 10) : ∀ (d k : Nat) (a : Int), k + d = A.length → 0 ≤ a → a ≤ 40000 * (k : Int) → Fishref2AssignOf_1_v1.loop1 (A, e) d k a = some (a + slen (A.drop k))
  | 0, k, a, hk, _, _ => by
    have : A.drop k = [] := List.drop_eq_nil_iff.2 (by omega)
    rw [this]; simp [Fishref2AssignOf_1_v1.loop1, slen]
  | d + 1, k, a, hk, h0, h1 => by
    have hkA : k < A.length := by omega
    have hr := hA _ (List.getElem_mem hkA)
    rw [Fishref2AssignOf_1_v1.loop1, gxn hkA]
    simp only [Option.bind_some]
    rw [w64_id (by omega), cnt_ok A e hA hl d (k + 1) _ (by omega) (by omega) (by omega), List.drop_eq_getElem_cons hkA]
    simp only [slen]
    congr 1; omega
omit hV in
theorem clones_ok (turns : List (List Int)) (hr : ∀ r ∈ turns, r.length ≤ 1000) (hl : turns.length ≤ 10) : ∀ (d k : Nat) (out : List (List Int)), k + d = turns.length → out = turns.take k → Fishref2AssignOf_1_v1.loop2 turns d k out = some turns
  | 0, k, out, hk, ho => by
    subst ho
    rw [List.take_of_length_le (by omega)]; rfl
  | d + 1, k, out, hk, ho => by
    have hkt : k < turns.length := by omega
    have hrk := hr _ (List.getElem_mem hkt)
    rw [Fishref2AssignOf_1_v1.loop2, gxn hkt]
    simp only [Option.bind_some]
    rw [clone_int (by omega)]
    simp only [Option.bind_some]
    rw [apd_lt (by subst ho; simp; omega)]
    simp only [Option.bind_some]
    exact clones_ok turns hr hl d (k + 1) _ (by omega) (by subst ho; rw [List.take_succ_eq_append_getElem hkt])
theorem m_leaf (hne : sets ≠ []) : MSpec l t sets s o o.length := by
  intro fP g turns best least a h1 h2 hT hR
  obtain ⟨f, rfl⟩ : ∃ z, fP = z + 1 := ⟨fP - 1, by omega⟩
  obtain ⟨g, rfl⟩ : ∃ z, g = z + 1 := ⟨g - 1, by omega⟩
  have hol := hV.ol
  have hsl := hV.sl
  have hrl : ∀ r ∈ turns, r.length ≤ o.length := fun r hr => by
    obtain ⟨j, hj, rfl⟩ := List.mem_iff_getElem.1 hr
    exact (hT.row j hj).len
  have htl := hT.len
  have hs0 : 0 < sets.length := List.length_pos_iff.2 hne
  have hne1 : (((turns.length : Nat) : Int) != ((sets.length : Nat) : Int)) = false := by simp [htl]
  have hself : (((o.length : Nat) : Int) == ((o.length : Nat) : Int)) = true := by simp
  rw [FleetGivergive_v1]
  simp only [hself, if_true]
  unfold FleetGivernote_v1 TryR
  rw [Fishref2AssignOf_1_v1]
  simp only [hself, if_true]
  unfold Fishref2InspectOf_v1
  rw [hV.sf]
  simp only [bne_self_eq_false, Bool.false_eq_true, if_false, hne1]
  rw [htl, ins1 hV (b := o.length) (by omega) hT sets.length 0 (by omega)]
  simp only [Option.bind_some]
  rcases leaf_both hV (b := o.length) (by omega) hT ⟨l, t, sets, s, o, turns, best, least⟩ rfl rfl rfl rfl (f := f) (g := g) (by omega) (by omega) sets.length 0 0 [] (by omega) (by omega) (by omega) (by simp) with ⟨A, p1, p2, p3, p4, p5, p6⟩ | ⟨p1, p2⟩
  · rw [p3, p4]
    simp only [Option.bind_some, List.nil_append, Int.zero_add, bnd_eq, bne_self_eq_false, Bool.false_eq_true, if_false]
    have hAr : ∀ r ∈ A, r.length ≤ 40000 := by
      intro r hr
      obtain ⟨j, hj, rfl⟩ := List.mem_iff_getElem.1 hr
      have hjs : j < sets.length := by omega
      have hjt : j < turns.length := by omega
      obtain ⟨res, hres, hrl'⟩ := pos_all (turn_of hV (b := o.length) (by omega) hjs (hT.row j hjt))
      have e1 := p2 j (by omega) 36000 (by omega)
      simp only [Nat.zero_add] at e1
      rw [List.getElem?_eq_getElem hjt, List.getElem?_eq_getElem hj] at e1
      have e2 := (hres 36000 (by omega)).1.symm.trans e1
      have e3 := Option.some.inj e2
      rw [e3] at hrl'
      exact hrl'
    have hcn := cnt_ok A 0 hAr (by omega) A.length 0 0 (by omega) (by omega) (by omega)
    rw [List.drop_zero, Int.zero_add] at hcn
    rw [hcn]
    simp only [Option.bind_some]
    have hcl := clones_ok turns (fun r hr => by have := hrl r hr; omega) (by omega) turns.length 0 [] (by omega) (by simp)
    rw [htl] at hcl
    have hPA : PosAll l sets s turns A := ⟨p1, fun n h fu hfu => by
      have := p2 n (by omega) fu hfu
      simpa only [Nat.zero_add] using this⟩
    have htne : turns ≠ [] := by intro e; rw [e] at htl; simp at htl; omega
    have hclone : SlicesCloneLLint_v1 turns = some turns := by
      unfold SlicesCloneLLint_v1
      rw [apd_lt (by simp; omega)]; simp
    have hnz : nz turns = some () := by
      unfold nz
      cases turns with
      | nil => exact absurd rfl htne
      | cons x r => rfl
    have hgood : RelS l sets s turns (slen A) (slen A, A, turns) := .inr ⟨htne, htl, p5, rfl, rfl, hPA⟩
    rcases hR with ⟨e1, e2, e3⟩ | ⟨e1, e2, e3, e4, e5, e6⟩
    · subst e1; subst e3
      simp only [List.isEmpty_nil, if_true, hclone, hnz, Option.bind_some]
      have hm1 : ((-1 : Int) < 0) := by omega
      simp only [hm1, decide_true, if_true, hcl, Option.bind_some]
      exact ⟨turns, slen A, (slen A, A, turns), rfl, rfl, hgood⟩
    · have hbe : best.isEmpty = false := by
        cases best with
        | nil => exact absurd rfl e1
        | cons x r => rfl
      obtain ⟨a1, a2, a3⟩ := a
      simp only at e4 e5 e6
      subst e4; subst e5
      have hn1 : ¬ a1 < 0 := by omega
      simp only [hbe, Bool.false_eq_true, if_false, hn1, decide_false]
      by_cases hlt : slen A < a1
      · simp only [hlt, decide_true, if_true, hclone, hnz, hcl, Option.bind_some]
        exact ⟨turns, slen A, (slen A, A, turns), rfl, rfl, hgood⟩
      · simp only [hlt, decide_false, Bool.false_eq_true, if_false, Option.bind_some]
        exact ⟨a3, a1, (a1, a2, a3), rfl, rfl, .inr ⟨e1, e2, e3, rfl, rfl, e6⟩⟩
  · rw [p1, p2]
    have h9 : ((9 : Int) != 0) = true := by decide
    simp only [Option.bind_some, h9, if_true]
    exact ⟨best, least, a, rfl, rfl, hR⟩
theorem m_step {i : Nat} (hi : i < o.length) (hM : sets ≠ [] → MSpec l t sets s o (i + 1)) : MSpec l t sets s o i := by
  intro fP g turns best least a h1 h2 hT hR
  obtain ⟨g, rfl⟩ : ∃ z, g = z + 1 := ⟨g - 1, by omega⟩
  have hol := hV.ol
  have hsl := hV.sl
  have hk := hV.ho o[i] (List.getElem_mem hi)
  have hkn : (nd o[i]) < l.length := by unfold nd; omega
  have htk : tk l o[i] = l[nd o[i]] := by unfold tk; rw [List.getElem?_eq_getElem hkn]; rfl
  have hu := hV.hU _ (List.getElem_mem hkn)
  rw [← htk] at hu
  obtain ⟨U, hU⟩ : ∃ U : Nat, (tk l o[i]).Units = (U : Int) := ⟨(tk l o[i]).Units.toNat, by omega⟩
  obtain ⟨best', least', b, g1, g2, g3⟩ := (g_both hV hi (g := g) (by omega) hM rfl hU (by omega) (by omega) hT sets.length).1 U 0 [] best least a fP (by omega) (by simp) (by simp) (by simp) (by simp [AllFit]) (by omega) hR
  refine ⟨best', least', b, g1, ?_, g3⟩
  unfold TryR
  rw [Fishref2AssignOf_1_v1]
  have hne : (((i : Nat) : Int) == ((o.length : Nat) : Int)) = false := by simp; omega
  simp only [hne, Bool.false_eq_true, if_false]
  rw [gxn hi]
  simp only [Option.bind_some]
  rw [gx_tk hk.1 hk.2]
  simp only [Option.bind_some]
  have h64 : 2 ^ sets.length ≤ 64 := by
    have := Nat.pow_le_pow_right (n := 2) (by omega) hsl
    rw [show (2 : Nat) ^ 6 = 64 by decide] at this
    exact this
  have hch : Fishref2choices g ((sets.length : Nat) : Int) (tk l o[i]).Units = some ((chs sets.length U 0).map ints) := by
    unfold Fishref2choices
    have := (ch_both sets.length U hsl (by omega) sets.length).1 U 0 [] [] g (by omega) (by simp) (by omega) (by simp; omega)
    have this' : Fishref2choices_1_v1 g [] 0 ((U : Nat) : Int) [] ((sets.length : Nat) : Int) = some ([] ++ (chs sets.length U 0).map (fun e => ints ([] ++ e))) := this
    rw [hU, this']
    simp
  rw [hch]
  simp only [Option.bind_some, List.length_map]
  have hst : Steps l t sets s o g i o[i] turns ((chs sets.length U 0).drop 0) a b := by
    simpa using g2
  rw [r_l3 hV (i := i) (b := i) (g := g) (by omega) hk (by omega) hT (chs sets.length U 0) (fun e he => by
    obtain ⟨c1, c2, c3⟩ := chs_ok _ _ _ e he
    exact ⟨c1, fun n hn => by have := c2 n hn; omega, by omega⟩) (chs sets.length U 0).length 0 a b (by omega) hst]
  rfl
theorem m_all (hne : sets ≠ []) : ∀ (d i : Nat), i + d = o.length → MSpec l t sets s o i
  | 0, i, h => by
    obtain rfl : i = o.length := by omega
    exact m_leaf hV hne
  | d + 1, i, h => m_step hV (by omega) (fun _ => m_all hne d (i + 1) (by omega))
theorem m_zero (hc : sets ≠ [] ∨ o ≠ []) : MSpec l t sets s o 0 := by
  by_cases hne : sets = []
  · have ho : 0 < o.length := List.length_pos_iff.2 (hc.resolve_left (fun h => h hne))
    exact m_step hV ho (fun h => absurd hne h)
  · exact m_all hV hne o.length 0 (by omega)
theorem out_ok (fu : Nat) (hf : 36000 ≤ fu) (best bA : List (List Int)) (hb : best.length = sets.length) (hP : PosAll l sets s best bA) : ∀ (d k : Nat) (out : List (List Int)), k + d = sets.length → out = bA.take k → FleetAssign.loop2 l sets s fu (best.drop k) k out = some bA
  | 0, k, out, hk, ho => by
    have : best.drop k = [] := List.drop_eq_nil_iff.2 (by omega)
    rw [this, FleetAssign.loop2]
    subst ho
    rw [List.take_of_length_le (by have := hP.1; omega)]
  | d + 1, k, out, hk, ho => by
    have hsl := hV.sl
    have hkb : k < best.length := by omega
    have hks : k < sets.length := by omega
    have hbl := hP.1
    have hkA : k < bA.length := by omega
    have hp := hP.2 k hks fu hf
    rw [List.getElem?_eq_getElem hkb, List.getElem?_eq_getElem hkA] at hp
    rw [List.drop_eq_getElem_cons hkb, FleetAssign.loop2, gxn hks]
    simp only [Option.bind_some]
    have hp' : Fleetpositions fu l best[k] sets[k] s = some (bA[k], true) := hp
    rw [hp']
    simp only [Option.bind_some]
    rw [apd_lt (by subst ho; simp; omega)]
    simp only [Option.bind_some]
    exact out_ok fu hf best bA hb hP d (k + 1) _ (by omega) (by subst ho; rw [List.take_succ_eq_append_getElem hkA])
end
theorem units_same : ∀ (l : List FleetTask) (a : Int), Fishref2AssignOf.loop1 l a = FleetAssign.loop1 l a
  | [], _ => rfl
  | x :: l, a => by rw [Fishref2AssignOf.loop1, FleetAssign.loop1, units_same l]
theorem sets_len {sets : List FleetSet} {s : FleetShop} (h : FleetcheckSets sets s 6 = 0) : sets.length ≤ 6 := by
  unfold FleetcheckSets at h
  by_cases c : ((sets.length : Nat) : Int) > 6
  · simp [c] at h
  · omega
theorem turn_zero {l : List FleetTask} {t : Int} (h : FleetcheckTurn l t = 0) : FleetCheckTasks l = 0 ∧ 0 ≤ t ∧ t ≤ 28800 := by
  unfold FleetcheckTurn at h
  by_cases c : FleetCheckTasks l = 0
  · refine ⟨c, ?_⟩
    by_cases ht : 0 ≤ t ∧ t ≤ 28800
    · exact ht
    · rw [c, fwithin, decide_eq_false ht] at h
      simp at h
  · have hb : (FleetCheckTasks l != 0) = true := by simp [c]
    rw [if_pos hb] at h
    exact absurd h c
theorem assigns_at (fu : Nat) (hfu : 50000 ≤ fu) (l : List FleetTask) (t : Int) (sets : List FleetSet) (s : FleetShop) : ∃ r, FleetAssignX fu l t sets s = some r ∧ Fishref2AssignOf fu l t sets s = some r := by
  unfold FleetAssignX Fishref2AssignOf
  rw [turn_ref, sets_ref]
  by_cases h0 : FleetcheckTurn l t = 0
  · by_cases h1 : FleetcheckSets sets s 6 = 0
    · have hb0 : (FleetcheckTurn l t != 0) = false := by simp [h0]
      have hb1 : (FleetcheckSets sets s 6 != 0) = false := by simp [h1]
      obtain ⟨z1, z2, z3⟩ := turn_zero h0
      obtain ⟨ll, hT⟩ := tasks_all z1
      obtain ⟨_, tin⟩ := Srt.turn_in h0
      obtain ⟨_, hs, hg, hlim⟩ := sets_all (by omega) h1
      have hsl := sets_len h1
      obtain ⟨R, r1, r2, r3, r4⟩ := Srt.order_ok (fu := fu) (by omega) l ll
      have i1 := Srt.inOrder_eq (fu := fu) (by omega) l ll (fun x hx => ⟨(tin x hx).1, (tin x hx).2.1⟩) r2 r3 r4
      have hV : AEnv l t sets s R := ⟨hT, fun a ha => ⟨(tin a ha).2.2.1, (tin a ha).2.2.2⟩, ⟨z2, z3⟩, hsl, hs, hg, hlim, ll, fun x hx => (r4 x).1 hx, by omega, by rw [sets_ref]; exact h1⟩
      have hmk : mks ((sets.length : Nat) : Int) ([] : List Int) = some (List.replicate sets.length []) := mks_in (by omega) []
      unfold FleetAssignC FleetAssign
      rw [hb0, hb1, i1, r1, units_same, hmk]
      simp only [Bool.false_eq_true, if_false, bnd_eq]
      by_cases h8 : FleetAssign.loop1 l 0 > 8
      · simp only [h8, decide_true, if_true]
        exact ⟨_, by split <;> rfl, rfl⟩
      · simp only [h8, decide_false, Bool.false_eq_true, if_false, Option.bind_some]
        by_cases hc : l = [] ∧ sets = []
        · obtain ⟨e1, e2⟩ := hc
          subst e1; subst e2
          have hR0 : R = [] := List.eq_nil_of_length_eq_zero (by simpa using r3)
          subst hR0
          obtain ⟨fu, rfl⟩ : ∃ z, fu = z + 1 := ⟨fu - 1, by omega⟩
          rw [if_pos ⟨rfl, rfl⟩]
          have hsf : Fishref2SetsFault [] s 6 = 0 := by rw [sets_ref]; exact h1
          have hp : FleetGivergive_c (fu + 1) ⟨[], t, [], s, [], [], [], 0⟩ = some ([], [], 0) := rfl
          have hq : Fishref2AssignOf_1_v1 (fu + 1) 0 [] [] [] [] s (-1) [] [] t = some ([], 0, [], []) := by
            rw [Fishref2AssignOf_1_v1]
            unfold Fishref2InspectOf_v1
            rw [hsf]
            rfl
          have hp' : (if ([] : List Int).length = 0 then FleetGivergive_c (fu + 1) ⟨[], t, [], s, [], List.replicate ([] : List FleetSet).length [], [], 0⟩ else none) = some ([], [], 0) := hp
          have hq' : Fishref2AssignOf_1_v1 (fu + 1) 0 [] [] (List.replicate ([] : List FleetSet).length []) [] s (-1) [] [] t = some ([], 0, [], []) := hq
          rw [hp', hq']
          exact ⟨([], [], 0), rfl, rfl⟩
        · rw [if_neg hc]
          have hVT : VT l sets 0 (List.replicate sets.length []) := ⟨by simp, fun n hn => by
            rw [List.getElem_replicate]
            exact ⟨by simp, by simp, fun h => absurd h (by simp), fun k h => absurd h (by simp)⟩⟩
          have hcc : sets ≠ [] ∨ R ≠ [] := by
            by_cases e : sets = []
            · right
              intro e2
              rw [e2] at r3
              exact hc ⟨List.eq_nil_of_length_eq_zero r3.symm, e⟩
            · exact .inl e
          obtain ⟨best, least, c, g1, g2, g3⟩ := m_zero hV hcc fu fu (List.replicate sets.length []) [] 0 (-1, [], []) (by omega) (by omega) hVT (.inl ⟨rfl, rfl, rfl⟩)
          have g1' : FleetGivergive_v1 fu 0 0 0 ⟨l, t, sets, s, R, List.replicate sets.length [], [], 0⟩ = some (List.replicate sets.length [], best, least) := g1
          have g2' : Fishref2AssignOf_1_v1 fu 0 R l (List.replicate sets.length []) sets s (-1) [] [] t = some (List.replicate sets.length [], c.1, c.2.1, c.2.2) := g2
          rw [g1', g2']
          simp only [Option.bind_some]
          rcases g3 with ⟨e1, e2, e3⟩ | ⟨e1, e2, e3, e4, e5, e6⟩
          · subst e1; subst e3
            have hcond : (if decide (((l.length : Nat) : Int) > 0) = true then true else decide (((sets.length : Nat) : Int) > 0)) = true := by
              by_cases e : l = []
              · have hs' : sets ≠ [] := fun h => hc ⟨e, h⟩
                have := List.length_pos_iff.2 hs'
                subst e
                simp; omega
              · have := List.length_pos_iff.2 e
                have h : ((l.length : Nat) : Int) > 0 := by omega
                rw [if_pos (decide_eq_true h)]
            have hm1 : ((-1 : Int) < 0) := by omega
            simp only [List.isEmpty_nil, if_true, hcond, hm1, decide_true]
            exact ⟨_, rfl, rfl⟩
          · have hbe : best.isEmpty = false := by
              cases best with
              | nil => exact absurd rfl e1
              | cons x r => rfl
            obtain ⟨c1, c2, c3⟩ := c
            simp only at e4 e5 e6
            subst e4; subst e5
            have hn1 : ¬ c1 < 0 := by omega
            have ho := out_ok hV fu (by omega) c3 c2 e2 e6 sets.length 0 [] (by omega) (by simp)
            rw [List.drop_zero] at ho
            simp only [hbe, Bool.false_eq_true, if_false, hn1, decide_false]
            rw [ho]
            exact ⟨_, rfl, rfl⟩
    · have hb0 : (FleetcheckTurn l t != 0) = false := by simp [h0]
      have hb1 : (FleetcheckSets sets s 6 != 0) = true := by simp [h1]
      unfold FleetAssignC FleetAssign
      rw [hb0, hb1]
      simp only [Bool.false_eq_true, if_false, if_true]
      exact ⟨_, by split <;> rfl, rfl⟩
  · have hb0 : (FleetcheckTurn l t != 0) = true := by simp [h0]
    unfold FleetAssignC FleetAssign
    rw [hb0]
    simp only [if_true]
    exact ⟨_, by split <;> rfl, rfl⟩
theorem assigns_law (fu : Nat) (hfu : 50000 ≤ fu) (l : List FleetTask) (t : Int) (sets : List FleetSet) (s : FleetShop) : Fishlaw2FleetAssigns (fu + 60) l t sets s = some true := by
  obtain ⟨r, h1, h2⟩ := assigns_at (fu + 60) (by omega) l t sets s
  unfold Fishlaw2FleetAssigns
  rw [h1, h2, sets_true]
  simp [lists_self]
theorem FleetAssigns_law (l : List FleetTask) (t : Int) (sets : List FleetSet) (s : FleetShop) (_ : l.length ≤ 9223372036854775807) (_ : -9223372036854775808 ≤ t ∧ t ≤ 9223372036854775807) (_ : sets.length ≤ 9223372036854775807) : ∃ fu, Fishlaw2FleetAssigns fu l t sets s = some true :=
  ⟨50000 + 60, assigns_law 50000 (by omega) l t sets s⟩

end Go.Fp
