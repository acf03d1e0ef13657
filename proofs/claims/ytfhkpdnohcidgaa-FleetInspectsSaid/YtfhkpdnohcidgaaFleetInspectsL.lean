/- FleetInspects: the mirror of the law is true of all tasks, turns, sets and shops. -/
import Derived.Test.YtfhkpdnohcidgaaFleetInspectsM
import Derived.Test.YtfhkpdnohcidgaaFpPlain
import Derived.KernelRfl
namespace Go.Fp
def nd (i : Int) : Nat := i.toNat
theorem index_loop (x : Int) : ∀ (l : List Int) (k : Nat), (SlicesIndexLint.loop1 x l k = .next () ∧ x ∉ l) ∨ (∃ j : Nat, SlicesIndexLint.loop1 x l k = .ret (((k + j : Nat) : Nat) : Int) ∧ l[j]? = some x)
  | [], k => .inl ⟨rfl, by simp⟩
  | y :: r, k => by
    by_cases h : x = y
    · subst h; exact .inr ⟨0, by simp [SlicesIndexLint.loop1], rfl⟩
    · have hb : (x == y) = false := by simpa using h
      rcases index_loop x r (k + 1) with ⟨h1, h2⟩ | ⟨j, h1, h2⟩
      · exact .inl ⟨by simp [SlicesIndexLint.loop1, hb, h1], by simp [h, h2]⟩
      · refine .inr ⟨j + 1, ?_, by simpa using h2⟩
        simp only [SlicesIndexLint.loop1, hb, Bool.false_eq_true, if_false, h1]
        have e : k + 1 + j = k + (j + 1) := by omega
        rw [e]
theorem index_cases (l : List Int) (x : Int) : (SlicesIndexLint l x = -1 ∧ x ∉ l) ∨ (∃ j : Nat, SlicesIndexLint l x = (j : Int) ∧ l[j]? = some x) := by
  unfold SlicesIndexLint
  rcases index_loop x l 0 with ⟨h1, h2⟩ | ⟨j, h1, h2⟩
  · exact .inl ⟨by simp [h1, bnd_eq], h2⟩
  · exact .inr ⟨j, by simp [h1, bnd_eq], h2⟩
theorem contains_eq (l : List Int) (x : Int) : SlicesContainsLint l x = l.contains x := by
  unfold SlicesContainsLint
  rcases index_cases l x with ⟨h1, h2⟩ | ⟨j, h1, h2⟩
  · rw [h1]; simp [h2]
  · rw [h1]; have := List.mem_of_getElem? h2; simp [this]
/-! inspections: the fewest, as late as can be -/
structure Insp where
  D : List Int
  M : Nat → Bool
  lim : Int
  K : Int
structure IOk (z : Insp) : Prop where
  d0 : ∀ a ∈ z.D, 0 ≤ a
  k0 : 0 ≤ z.K
  k1 : z.K ≤ z.lim
def Insp.d (z : Insp) (k : Nat) : Int := (z.D[k]?).getD 0
def Insp.pre (z : Insp) : Nat → Int
  | 0 => 0
  | k + 1 => z.pre k + z.d k
/-- how far a set has run ahead of position k -/
def Insp.km (z : Insp) (a : List Int) : Nat → Int
  | 0 => z.K
  | k + 1 => (if a.contains ((k : Nat) : Int) then 0 else z.km a k) + z.d k
def Insp.KU (z : Insp) (a : List Int) (k : Nat) : Prop := ∀ j, j < k → z.km a (j + 1) ≤ z.lim
/-- lists of positions that may be -/
structure Insp.Val (z : Insp) (a : List Int) : Prop where
  srt : a.Pairwise (· < ·)
  may : ∀ i ∈ a, ∃ p : Nat, i = (p : Int) ∧ z.M p = true ∧ p ≤ z.D.length
section
variable {z : Insp}
theorem IOk.d (h : IOk z) (k : Nat) : 0 ≤ z.d k := by
  unfold Insp.d
  rcases Nat.lt_or_ge k z.D.length with c | c
  · rw [List.getElem?_eq_getElem c]; exact h.d0 _ (List.getElem_mem c)
  · rw [List.getElem?_eq_none c]; exact Int.le_refl _
theorem IOk.pre (h : IOk z) {a b : Nat} (hab : a ≤ b) : z.pre a ≤ z.pre b := by
  induction hab with
  | refl => exact Int.le_refl _
  | step _ ih => have := h.d (by assumption); simp only [Insp.pre]; omega
theorem IOk.km (h : IOk z) (a : List Int) : ∀ k, 0 ≤ z.km a k
  | 0 => h.k0
  | k + 1 => by
    have := h.km a k
    have := h.d k
    simp only [Insp.km]
    split <;> omega
theorem km_low (h : IOk z) {a : List Int} {p : Nat} : ∀ k, p ≤ k → (∀ i ∈ a, i ≤ (k : Int) → i ≤ (p : Int)) → z.pre (k + 1) - z.pre p ≤ z.km a (k + 1) := by
  intro k hk
  induction hk with
  | refl =>
    intro _
    have := h.km a p
    simp only [Insp.km, Insp.pre]
    split <;> omega
  | step hk ih =>
    rename_i k
    intro hm
    have hk' : p ≤ k := hk
    have h1 := ih (fun i hi h => hm i hi (by omega))
    have hn : a.contains ((k + 1 : Nat) : Int) = false := by
      rw [← Bool.not_eq_true, List.contains_iff_mem]
      intro hc
      have := hm _ hc (Int.le_refl _)
      omega
    have e : z.km a (k + 1 + 1) = z.km a (k + 1) + z.d (k + 1) := by simp only [Insp.km, hn, Bool.false_eq_true, if_false]
    have e2 : z.pre (k + 1 + 1) = z.pre (k + 1) + z.d (k + 1) := rfl
    show z.pre (k + 1 + 1) - z.pre p ≤ z.km a (k + 1 + 1)
    omega
theorem km_none {a : List Int} : ∀ (k : Nat), (∀ i ∈ a, ¬ (0 ≤ i ∧ i < (k : Int))) → z.km a k = z.K + z.pre k
  | 0, _ => by simp [Insp.km, Insp.pre]
  | k + 1, hm => by
    have h1 := km_none k (fun i hi h => hm i hi (by omega))
    have hn : a.contains ((k : Nat) : Int) = false := by
      rw [← Bool.not_eq_true, List.contains_iff_mem]
      intro hc
      exact hm _ hc (by omega)
    simp only [Insp.km, Insp.pre, hn, Bool.false_eq_true, if_false, h1]; omega
theorem km_same {a b : List Int} : ∀ (k : Nat), (∀ i : Nat, i < k → (((i : Nat) : Int) ∈ a ↔ ((i : Nat) : Int) ∈ b)) → z.km a k = z.km b k
  | 0, _ => rfl
  | k + 1, hm => by
    have h1 := km_same k (fun i hi => hm i (by omega))
    have h2 := hm k (by omega)
    have : a.contains ((k : Nat) : Int) = b.contains ((k : Nat) : Int) := by
      rw [Bool.eq_iff_iff, List.contains_iff_mem, List.contains_iff_mem]; exact h2
    simp only [Insp.km, this, h1]
/-- one more inspection -/
theorem km_app {a : List Int} {p : Nat} (ha : ∀ i ∈ a, i < (p : Int)) : (∀ j, j ≤ p → z.km (a ++ [((p : Nat) : Int)]) j = z.km a j) ∧ ∀ j, p < j → z.km (a ++ [((p : Nat) : Int)]) j = z.pre j - z.pre p := by
  refine ⟨fun j hj => km_same j fun i hi => ?_, fun j hj => ?_⟩
  · rw [List.mem_append, List.mem_singleton]
    constructor
    · rintro (h | h)
      · exact h
      · omega
    · exact .inl
  · induction hj with
    | refl =>
      have : (a ++ [((p : Nat) : Int)]).contains ((p : Nat) : Int) = true := by rw [List.contains_iff_mem]; simp
      simp only [Insp.km, Insp.pre, this, if_true]; omega
    | step hj ih =>
      rename_i j
      have hj' : p < j := hj
      have hn : (a ++ [((p : Nat) : Int)]).contains ((j : Nat) : Int) = false := by
        rw [← Bool.not_eq_true, List.contains_iff_mem, List.mem_append, List.mem_singleton]
        rintro (h | h)
        · have := ha _ h; omega
        · omega
      simp only [Insp.km, Insp.pre, hn, Bool.false_eq_true, if_false, ih]; omega
/-- ahead of all others that are kept so far -/
def Ahead (z : Insp) (a : List Int) (k : Nat) : Prop := ∀ b, z.Val b → z.KU b k → ∀ i, ∀ hi : i < a.length, ∃ hj : i < b.length, b[i] ≤ a[i]
/-- how far a set has run, by its last inspection -/
def LastKm (z : Insp) (a : List Int) (k : Nat) (fr : Int) : Prop := (a = [] ∧ fr = -1 ∧ z.km a k = z.K + z.pre k) ∨ ∃ (p : Nat), fr = (p : Int) ∧ p ≤ k ∧ a.getLast? = some (p : Int) ∧ z.km a k = z.pre k - z.pre p
theorem srt_le {b : List Int} (hs : b.Pairwise (· < ·)) {i j : Nat} (hi : i < b.length) (hj : j < b.length) (h : i ≤ j) : b[i] ≤ b[j] := by
  rcases Nat.eq_or_lt_of_le h with e | e
  · subst e; exact Int.le_refl _
  · exact Int.le_of_lt (List.pairwise_iff_getElem.1 hs i j hi hj e)
theorem getLast_at {a : List Int} {p : Int} (h : a.getLast? = some p) : ∃ hl : a.length - 1 < a.length, a[a.length - 1] = p := by
  rw [List.getLast?_eq_getElem?] at h
  exact List.getElem?_eq_some_iff.1 h
/-- who has not run too far has one inspection more -/
theorem ahead_more (h : IOk z) {a : List Int} {k : Nat} {b : List Int} (hL : (a = [] ∧ z.lim < z.K + z.pre (k + 1)) ∨ ∃ p : Nat, p ≤ k ∧ a.getLast? = some (p : Int) ∧ z.lim < z.pre (k + 1) - z.pre p) (hb : z.Val b) (hle : z.km b (k + 1) ≤ z.lim) (hA' : ∀ i, ∀ hi : i < a.length, ∃ hj : i < b.length, b[i] ≤ a[i]) : ∃ hj : a.length < b.length, b[a.length] ≤ (k : Int) := by
  refine Classical.byContradiction fun q => ?_
  have small : ∀ x ∈ b, x ≤ (k : Int) → ∃ i, ∃ hi : i < b.length, b[i] = x ∧ i < a.length := by
    intro x hx hxk
    obtain ⟨i, hi, e⟩ := List.getElem_of_mem hx
    refine ⟨i, hi, e, ?_⟩
    rcases Nat.lt_or_ge i a.length with c | c
    · exact c
    · have hlt : a.length < b.length := by omega
      have := srt_le hb.srt hlt hi c
      exact absurd ⟨hlt, by omega⟩ q
  rcases hL with ⟨ha, hkm⟩ | ⟨p, hp, hlast, hkm⟩
  · subst ha
    have := km_none (z := z) (a := b) (k + 1) (fun i hi hc => by
      obtain ⟨j, _, _, hj⟩ := small i hi (by omega)
      exact absurd hj (Nat.not_lt_zero _))
    rw [this] at hle
    omega
  · obtain ⟨hl, hlast⟩ := getLast_at hlast
    have := km_low h (a := b) (p := p) k hp (fun i hi hik => by
      obtain ⟨j, hj, e, hja⟩ := small i hi hik
      obtain ⟨hj2, h2⟩ := hA' (a.length - 1) hl
      have h3 := srt_le hb.srt hj hj2 (by omega)
      omega)
    omega
/-- what is found: the fewest, as late as can be; or there is nothing -/
def Best (z : Insp) : Option (List Int) → Prop
  | some a => z.Val a ∧ z.KU a z.D.length ∧ Ahead z a z.D.length
  | none => ∀ b, z.Val b → ¬ z.KU b z.D.length
theorem best_one {r s : Option (List Int)} (hr : Best z r) (hs : Best z s) : r = s := by
  cases r with
  | none =>
    cases s with
    | none => rfl
    | some b => exact absurd hs.2.1 (hr b hs.1)
  | some a =>
    cases s with
    | none => exact absurd hr.2.1 (hs a hr.1)
    | some b =>
      have h1 := hr.2.2 b hs.1 hs.2.1
      have h2 := hs.2.2 a hr.1 hr.2.1
      have hl : a.length = b.length := by
        rcases Nat.lt_trichotomy a.length b.length with c | c | c
        · obtain ⟨q, _⟩ := h2 a.length c; omega
        · exact c
        · obtain ⟨q, _⟩ := h1 b.length c; omega
      congr 1
      refine List.ext_getElem hl fun i i1 i2 => ?_
      obtain ⟨_, q1⟩ := h1 i i1
      obtain ⟨_, q2⟩ := h2 i i2
      omega
theorem ahead_app {a : List Int} {k p : Nat} (hA : Ahead z a k) (hm : ∀ b, z.Val b → z.KU b (k + 1) → ∃ hj : a.length < b.length, b[a.length] ≤ (p : Int)) : Ahead z (a ++ [((p : Nat) : Int)]) (k + 1) := by
  intro b hb hk i hi
  rcases Nat.lt_or_ge i a.length with c | c
  · obtain ⟨hj, h⟩ := hA b hb (fun j hj => hk j (by omega)) i c
    exact ⟨hj, by rw [List.getElem_append_left c]; exact h⟩
  · have : i = a.length := by simp at hi; omega
    subst this
    obtain ⟨hj, h⟩ := hm b hb hk
    exact ⟨hj, by rw [List.getElem_append_right (Nat.le_refl _)]; simpa using h⟩
/-- the program, on its way -/
structure Go1 (z : Insp) (k : Nat) (out : List Int) (km last fr since : Int) : Prop where
  srt : out.Pairwise (· < ·)
  may : ∀ i ∈ out, ∃ p : Nat, i = (p : Int) ∧ z.M p = true ∧ p ≤ z.D.length ∧ p < k
  kme : km = z.km out k
  ku : z.KU out k
  lk : LastKm z out k fr
  ls : (last = -1 ∧ ∀ j, j < k → z.M j = false) ∨ ∃ p : Nat, last = (p : Int) ∧ p < k ∧ z.M p = true ∧ (∀ j, j < k → z.M j = true → j ≤ p) ∧ since = z.pre k - z.pre p
  s0 : 0 ≤ since ∧ since ≤ km
  ah : Ahead z out k
theorem last_le {out : List Int} (hs : out.Pairwise (· < ·)) {p : Int} (h : out.getLast? = some p) : ∀ i ∈ out, i ≤ p := by
  obtain ⟨hl, e⟩ := getLast_at h
  intro i hi
  obtain ⟨j, hj, e2⟩ := List.getElem_of_mem hi
  rw [← e, ← e2]
  exact srt_le hs hj hl (by omega)
/-- after the look at position k -/
def seen (z : Insp) (k : Nat) (last : Int) : Int := if z.M k then (k : Int) else last
def since1 (z : Insp) (k : Nat) (since : Int) : Int := if z.M k then 0 else since
theorem go_seen (_ : IOk z) {k : Nat} {out : List Int} {km last fr since : Int} (g : Go1 z k out km last fr since) :
    (seen z k last = -1 ∧ fr = -1 ∧ ∀ j, j ≤ k → z.M j = false) ∨ ∃ p : Nat, seen z k last = (p : Int) ∧ p ≤ k ∧ z.M p = true ∧ (∀ j, j ≤ k → z.M j = true → j ≤ p) ∧ since1 z k since = z.pre k - z.pre p ∧ fr ≤ (p : Int) ∧ (∀ i ∈ out, i ≤ fr) := by
  have hfr : ∀ i ∈ out, i ≤ fr := by
    rcases g.lk with ⟨ha, _, _⟩ | ⟨p, e, _, hl, _⟩
    · subst ha; intro i hi; cases hi
    · rw [e]; exact last_le g.srt hl
  have hfm : fr = -1 ∨ ∃ p : Nat, fr = (p : Int) ∧ z.M p = true ∧ p < k := by
    rcases g.lk with ⟨_, e, _⟩ | ⟨p, e, _, hl, _⟩
    · exact .inl e
    · obtain ⟨q, e2, m, _, q2⟩ := g.may _ (List.mem_of_getLast? hl)
      exact .inr ⟨p, e, by rw [show p = q by omega]; exact m, by omega⟩
  unfold seen since1
  cases hM : z.M k with
  | true =>
    right
    refine ⟨k, by simp, Nat.le_refl _, hM, fun j hj _ => hj, by simp, ?_, hfr⟩
    rcases hfm with e | ⟨p, e, _, q⟩ <;> omega
  | false =>
    simp only [Bool.false_eq_true, if_false]
    rcases g.ls with ⟨e, hn⟩ | ⟨p, e, hp, m, hmax, hs⟩
    · left
      refine ⟨e, ?_, fun j hj => ?_⟩
      · rcases hfm with q | ⟨p, _, m, q⟩
        · exact q
        · rw [hn p q] at m; cases m
      · rcases Nat.eq_or_lt_of_le hj with c | c
        · rw [c]; exact hM
        · exact hn j c
    · right
      refine ⟨p, e, by omega, m, fun j hj mj => ?_, hs, ?_, hfr⟩
      · rcases Nat.eq_or_lt_of_le hj with c | c
        · rw [c, hM] at mj; cases mj
        · exact hmax j c mj
      · rcases hfm with q | ⟨q, e2, mq, q2⟩
        · omega
        · have := hmax q q2 mq; omega
theorem val_le {b : List Int} (hb : z.Val b) {k p : Nat} (hmax : ∀ j, j ≤ k → z.M j = true → j ≤ p) : ∀ i ∈ b, i ≤ (k : Int) → i ≤ (p : Int) := by
  intro i hi hik
  obtain ⟨q, e, m, _⟩ := hb.may i hi
  have := hmax q (by omega) m
  omega
/-- a task that fits -/
theorem go_on (h : IOk z) {k : Nat} {out : List Int} {km last fr since : Int} (g : Go1 z k out km last fr since) (_ : k < z.D.length) (hfit : km + z.d k ≤ z.lim) : Go1 z (k + 1) out (km + z.d k) (seen z k last) fr (since1 z k since + z.d k) := by
  have hnk : out.contains ((k : Nat) : Int) = false := by
    rw [← Bool.not_eq_true, List.contains_iff_mem]
    intro hc
    obtain ⟨p, e, _, _, q⟩ := g.may _ hc
    omega
  have hkm : z.km out (k + 1) = z.km out k + z.d k := by simp only [Insp.km, hnk, Bool.false_eq_true, if_false]
  have hd := h.d k
  have h0 := g.s0
  refine ⟨g.srt, fun i hi => ?_, by rw [hkm, g.kme], fun j hj => ?_, ?_, ?_, ?_, fun b hb hkb => g.ah b hb fun j hj => hkb j (by omega)⟩
  · obtain ⟨p, e, m, q1, q2⟩ := g.may i hi
    exact ⟨p, e, m, q1, by omega⟩
  · rcases Nat.eq_or_lt_of_le (Nat.le_of_lt_succ hj) with c | c
    · rw [c, hkm, ← g.kme]; exact hfit
    · exact g.ku j c
  · rcases g.lk with ⟨ha, e, q⟩ | ⟨p, e, q1, q2, q3⟩
    · exact .inl ⟨ha, e, by rw [hkm, q]; simp only [Insp.pre]; omega⟩
    · exact .inr ⟨p, e, by omega, q2, by rw [hkm, q3]; simp only [Insp.pre]; omega⟩
  · rcases go_seen h g with ⟨e, _, hn⟩ | ⟨p, e, hp, m, hmax, hs, _, _⟩
    · exact .inl ⟨e, fun j hj => hn j (by omega)⟩
    · exact .inr ⟨p, e, by omega, m, fun j hj => hmax j (by omega), by simp only [Insp.pre]; omega⟩
  · unfold since1; split <;> omega
/-- an inspection is put in -/
theorem go_put (h : IOk z) {k : Nat} {out : List Int} {km last fr since : Int} (g : Go1 z k out km last fr since) (_ : k < z.D.length) (hfit : z.lim < km + z.d k) (h1 : fr < seen z k last) (h2 : since1 z k since + z.d k ≤ z.lim) :
    Go1 z (k + 1) (out ++ [seen z k last]) (since1 z k since + z.d k) (seen z k last) (seen z k last) (since1 z k since + z.d k) := by
  rcases go_seen h g with ⟨e, e2, _⟩ | ⟨p, e, hp, m, hmax, hs, hfr, hout⟩
  · omega
  · rw [e] at h1 ⊢
    have hlt : ∀ i ∈ out, i < (p : Int) := fun i hi => by have := hout i hi; omega
    obtain ⟨a1, a2⟩ := km_app (z := z) hlt
    have hkm : z.km (out ++ [((p : Nat) : Int)]) (k + 1) = since1 z k since + z.d k := by rw [a2 _ (by omega), hs]; simp only [Insp.pre]; omega
    have hd := h.d k
    have hpp := h.pre hp
    refine ⟨?_, fun i hi => ?_, hkm.symm, fun j hj => ?_, .inr ⟨p, rfl, by omega, by simp, by rw [a2 _ (by omega)]⟩, .inr ⟨p, rfl, by omega, m, fun j hj => hmax j (by omega), by rw [hs]; simp only [Insp.pre]; omega⟩, ⟨by omega, Int.le_refl _⟩, ?_⟩
    · rw [List.pairwise_append]
      refine ⟨g.srt, by simp, fun i hi j hj => ?_⟩
      rw [List.mem_singleton] at hj; subst hj
      exact hlt i hi
    · rcases List.mem_append.1 hi with hi | hi
      · obtain ⟨q, e, m, q1, q2⟩ := g.may i hi
        exact ⟨q, e, m, q1, by omega⟩
      · rw [List.mem_singleton] at hi
        exact ⟨p, hi, m, by omega, by omega⟩
    · rcases Nat.lt_or_ge j p with c | c
      · rw [a1 _ (by omega)]; exact g.ku j (by omega)
      · rw [a2 _ (by omega)]
        have := h.pre (z := z) (a := j + 1) (b := k + 1) (by omega)
        rw [a2 _ (by omega)] at hkm
        omega
    · refine ahead_app g.ah fun b hb hkb => ?_
      obtain ⟨hj, q⟩ := ahead_more h (a := out) (k := k) (by
        have hke := g.kme
        rcases g.lk with ⟨ha, _, q⟩ | ⟨p, _, q1, q2, q3⟩
        · exact .inl ⟨ha, by simp only [Insp.pre]; omega⟩
        · exact .inr ⟨p, q1, q2, by simp only [Insp.pre]; omega⟩) hb (hkb k (Nat.lt_succ_self k)) (g.ah b hb fun j hj => hkb j (by omega))
      exact ⟨hj, val_le hb hmax _ (List.getElem_mem hj) q⟩
/-- nothing helps -/
theorem go_none (h : IOk z) {k : Nat} {out : List Int} {km last fr since : Int} (g : Go1 z k out km last fr since) (hk : k < z.D.length) (hfit : z.lim < km + z.d k) (h1 : seen z k last ≤ fr ∨ z.lim < since1 z k since + z.d k) : Best z none := by
  intro b hb hkb
  have hle := hkb k hk
  rcases go_seen h g with ⟨e, e2, hn⟩ | ⟨p, e, hp, m, hmax, hs, hfr, hout⟩
  · have := km_none (z := z) (a := b) (k + 1) (fun i hi hc => by
      obtain ⟨q, e, m, _⟩ := hb.may i hi
      rw [hn q (by omega)] at m; cases m)
    rcases g.lk with ⟨_, _, q⟩ | ⟨p, q, _⟩
    · rw [this] at hle
      have := g.kme
      simp only [Insp.pre] at hle
      omega
    · omega
  · have hl := km_low h (a := b) (p := p) k hp (val_le hb hmax)
    simp only [Insp.pre] at hl
    rcases h1 with h1 | h1
    · rcases g.lk with ⟨_, q, _⟩ | ⟨r, q, _, _, q3⟩
      · omega
      · have : r = p := by omega
        subst this
        have := g.kme
        omega
    · omega
end
/-! the positions in order -/
def mays (z : Insp) : Nat → Nat → List Int
  | _, 0 => []
  | k, m + 1 => (if z.M k then [((k : Nat) : Int)] else []) ++ mays z (k + 1) m
section
variable {z : Insp}
theorem mays_mem : ∀ (m k : Nat) (i : Int), i ∈ mays z k m ↔ ∃ p : Nat, i = (p : Int) ∧ k ≤ p ∧ p < k + m ∧ z.M p = true
  | 0, k, i => by simp [mays]; intro p _ _ _; omega
  | m + 1, k, i => by
    rw [mays, List.mem_append, mays_mem m (k + 1)]
    constructor
    · rintro (h | ⟨p, e, h1, h2, h3⟩)
      · split at h
        · rw [List.mem_singleton] at h
          exact ⟨k, h, Nat.le_refl _, by omega, by assumption⟩
        · cases h
      · exact ⟨p, e, by omega, by omega, h3⟩
    · rintro ⟨p, e, h1, h2, h3⟩
      rcases Nat.eq_or_lt_of_le h1 with c | c
      · left; subst c; rw [if_pos h3, e]; simp
      · exact .inr ⟨p, e, by omega, by omega, h3⟩
theorem mays_srt : ∀ (m k : Nat), (mays z k m).Pairwise (· < ·)
  | 0, k => by simp [mays]
  | m + 1, k => by
    rw [mays, List.pairwise_append]
    refine ⟨by split <;> simp, mays_srt m (k + 1), fun i hi j hj => ?_⟩
    obtain ⟨p, e, h1, _⟩ := (mays_mem m (k + 1) j).1 hj
    split at hi
    · rw [List.mem_singleton] at hi; omega
    · cases hi
theorem mays_len : ∀ (m k : Nat), (mays z k m).length ≤ m
  | 0, _ => Nat.le_refl _
  | m + 1, k => by
    have := mays_len m (k + 1)
    rw [mays, List.length_append]
    split <;> simp <;> omega
def Insp.mayl (z : Insp) : List Int := mays z 0 (z.D.length + 1)
theorem mayl_mem {i : Int} : i ∈ z.mayl ↔ ∃ p : Nat, i = (p : Int) ∧ z.M p = true ∧ p ≤ z.D.length := by
  unfold Insp.mayl
  rw [mays_mem]
  constructor
  · rintro ⟨p, e, _, h2, h3⟩; exact ⟨p, e, h3, by omega⟩
  · rintro ⟨p, e, h2, h3⟩; exact ⟨p, e, Nat.zero_le _, by omega, h2⟩
theorem val_iff {a : List Int} : z.Val a ↔ a.Pairwise (· < ·) ∧ ∀ i ∈ a, i ∈ z.mayl := by
  constructor
  · intro h; exact ⟨h.srt, fun i hi => mayl_mem.2 (h.may i hi)⟩
  · rintro ⟨h1, h2⟩; exact ⟨h1, fun i hi => mayl_mem.1 (h2 i hi)⟩
theorem sub_of_srt : ∀ (ms a : List Int), ms.Pairwise (· < ·) → a.Pairwise (· < ·) → (∀ i ∈ a, i ∈ ms) → a.Sublist ms
  | ms, [], _, _, _ => List.nil_sublist _
  | [], i :: a, _, _, h => by have := h i (by simp); cases this
  | m :: ms, i :: a, h1, h2, h => by
    have h1' := List.pairwise_cons.1 h1
    have h2' := List.pairwise_cons.1 h2
    rcases List.mem_cons.1 (h i (by simp)) with e | e
    · subst e
      refine (sub_of_srt ms a h1'.2 h2'.2 fun j hj => ?_).cons_cons i
      rcases List.mem_cons.1 (h j (by simp [hj])) with e | e
      · have := h2'.1 j hj; omega
      · exact e
    · refine (sub_of_srt ms (i :: a) h1'.2 h2 fun j hj => ?_).cons m
      rcases List.mem_cons.1 (h j hj) with e2 | e2
      · have hi := h1'.1 i e
        rcases List.mem_cons.1 hj with e3 | e3
        · omega
        · have := h2'.1 j e3; omega
      · exact e2
/-! the code -/
def tk (l : List FleetTask) (i : Int) : FleetTask := (l[nd i]?).getD ⟨0, 0, 0, 0, 0, 0⟩
theorem gx_tk {l : List FleetTask} {i : Int} (h0 : 0 ≤ i) (h1 : i < l.length) : gx l i = some (tk l i) := by
  have h : i.toNat < l.length := by omega
  rw [gx_toNat h0 h]; simp [tk, nd, h]
structure TOk (t : FleetTask) : Prop where
  d0 : 0 ≤ t.Dep
  d1 : t.Dep ≤ 28800
  a0 : 0 ≤ t.Arr
  a1 : t.Arr ≤ 28800
  k0 : 0 ≤ t.Km
  k1 : t.Km ≤ 10000
  up : t.Dep < t.Arr
/-- a turn of a set, and a shop -/
structure Turn (l : List FleetTask) (t : List Int) (x : FleetSet) (s : FleetShop) : Prop where
  l0 : ∀ a ∈ l, TOk a
  t0 : ∀ i ∈ t, 0 ≤ i ∧ i < l.length
  n : t.length ≤ 30000
  l1 : 0 ≤ s.Limit
  l2 : s.Limit ≤ 10000
  g0 : 0 ≤ s.Long
  g1 : s.Long ≤ 28800
  k0 : 0 ≤ x.Km
  k1 : x.Km ≤ s.Limit
def mayB (l : List FleetTask) (t : List Int) (x : FleetSet) (s : FleetShop) (k : Nat) : Bool := (Fleetmay l t x s (k : Int)).getD false
def insp (l : List FleetTask) (t : List Int) (x : FleetSet) (s : FleetShop) : Insp := ⟨t.map fun i => (tk l i).Km, mayB l t x s, s.Limit, x.Km⟩
end
section
variable {l : List FleetTask} {t : List Int} {x : FleetSet} {s : FleetShop}
theorem Turn.tk (h : Turn l t x s) {k : Nat} (hk : k < t.length) : gx t (k : Int) = some t[k] ∧ gx l t[k] = some (Fp.tk l t[k]) ∧ TOk (Fp.tk l t[k]) := by
  obtain ⟨h0, h1⟩ := h.t0 t[k] (List.getElem_mem hk)
  refine ⟨gx_at hk, gx_tk h0 h1, ?_⟩
  have : nd t[k] < l.length := by unfold nd; omega
  unfold Fp.tk
  rw [List.getElem?_eq_getElem this]
  exact h.l0 _ (List.getElem_mem this)
theorem Turn.d (_ : Turn l t x s) {k : Nat} (hk : k < t.length) : (insp l t x s).d k = (Fp.tk l t[k]).Km := by
  unfold Insp.d insp
  simp [hk]
theorem Turn.ok (h : Turn l t x s) : IOk (insp l t x s) := by
  refine ⟨fun a ha => ?_, h.k0, h.k1⟩
  simp only [insp, List.mem_map] at ha
  obtain ⟨i, hi, rfl⟩ := ha
  obtain ⟨k, hk, rfl⟩ := List.getElem_of_mem hi
  exact (h.tk hk).2.2.k0
theorem Turn.may (h : Turn l t x s) {k : Nat} (hk : k ≤ t.length) : Fleetmay l t x s (k : Int) = some ((insp l t x s).M k) := by
  have key : Tot (Fleetmay l t x s (k : Int)) := by
    have hn := h.n
    unfold Fleetmay
    by_cases c : k = 0
    · subst c
      rw [if_neg (by simp)]
      simp only [Option.bind_some]
      refine .bind ?_ fun _ _ => .some _
      refine .ite (fun _ => .ite (fun _ => .some _) fun q => ?_) fun _ => .some _
      have hlt : 0 < t.length := by
        rcases Nat.eq_zero_or_pos t.length with e | e
        · rw [e] at q; simp at q
        · exact e
      obtain ⟨e1, e2, _⟩ := h.tk hlt
      exact .bind1 e1 (.bind1 e2 (.some _))
    · rw [if_pos (by simp; omega), w64_id (by omega), show ((k : Nat) : Int) - 1 = ((k - 1 : Nat) : Int) by omega]
      obtain ⟨e1, e2, _⟩ := h.tk (k := k - 1) (by omega)
      rw [e1]
      simp only [Option.bind_some]
      rw [e2]
      simp only [Option.bind_some]
      refine .bind ?_ fun _ _ => .some _
      refine .ite (fun _ => .ite (fun _ => .some _) fun q => ?_) fun _ => .some _
      have hlt : k < t.length := by
        rcases Nat.eq_or_lt_of_le hk with e | e
        · rw [e] at q; simp at q
        · exact e
      obtain ⟨e1, e2, _⟩ := h.tk hlt
      exact .bind1 e1 (.bind1 e2 (.some _))
  obtain ⟨b, e⟩ := key
  rw [e]
  unfold insp mayB
  simp [e]
theorem Go1.kle {z : Insp} (h : IOk z) {k : Nat} {out : List Int} {km last fr since : Int} (g : Go1 z k out km last fr since) : km ≤ z.lim := by
  have := g.kme
  cases k with
  | zero => simp only [Insp.km] at this; have := h.k1; omega
  | succ k => have := g.ku k (Nat.lt_succ_self k); omega
/-- the program's search -/
theorem prog_loop (h : Turn l t x s) : ∀ (m k : Nat) (out : List Int) (km last fr since : Int) (fu : Nat), k + m = t.length → m + 1 < fu → out.length ≤ k → Go1 (insp l t x s) k out km last fr since →
    (Fleetpositions.loop2 l t x s fu out km last fr since (k : Int) = some (.ret ([], false)) ∧ Best (insp l t x s) none) ∨ ∃ a b c d e f, Fleetpositions.loop2 l t x s fu out km last fr since (k : Int) = some (.next (a, b, c, d, e, f)) ∧ Best (insp l t x s) (some a) := by
  intro m
  induction m with
  | zero =>
    intro k out km last fr since fu hk hf hol g
    have hn := h.n
    obtain ⟨fu, rfl⟩ : ∃ f, fu = f + 1 := ⟨fu - 1, by omega⟩
    right
    have hkn : k = t.length := by omega
    have hDl : (insp l t x s).D.length = t.length := by simp [insp]
    rw [Fleetpositions.loop2, w64_id (by omega), decide_eq_true (by omega)]
    simp only [if_true]
    rw [h.may (by omega)]
    simp only [Option.bind_some, bnd]
    have heq : (((k : Nat) : Int) == ((t.length : Nat) : Int)) = true := by simp [hkn]
    have hb : Best (insp l t x s) (some out) := by
      refine ⟨⟨g.srt, fun i hi => ?_⟩, by rw [hDl, ← hkn]; exact g.ku, by rw [hDl, ← hkn]; exact g.ah⟩
      obtain ⟨p, e, q1, q2, _⟩ := g.may i hi
      exact ⟨p, e, q1, q2⟩
    cases (insp l t x s).M k with
    | true =>
      simp only [if_true, heq]
      exact ⟨_, _, _, _, _, _, rfl, hb⟩
    | false =>
      simp only [Bool.false_eq_true, if_false, heq, if_true]
      exact ⟨_, _, _, _, _, _, rfl, hb⟩
  | succ m ih =>
    intro k out km last fr since fu hk hf hol g
    have hn := h.n
    have l1 := h.l1; have l2 := h.l2
    obtain ⟨fu, rfl⟩ : ∃ f, fu = f + 1 := ⟨fu - 1, by omega⟩
    have hkn : k < t.length := by omega
    have hDl : (insp l t x s).D.length = t.length := by simp [insp]
    obtain ⟨e1, e2, tok⟩ := h.tk hkn
    have k0 := tok.k0; have k1 := tok.k1
    have hd := h.d hkn
    have hkl := g.kle h.ok
    have hkl' : km ≤ s.Limit := hkl
    have hs0 := g.s0
    have hk0 : 0 ≤ km := by rw [g.kme]; exact h.ok.km _ _
    rw [Fleetpositions.loop2, w64_id (x := ((t.length : Nat) : Int) + 1) (by omega), decide_eq_true (by omega)]
    simp only [if_true]
    rw [h.may (by omega)]
    simp only [Option.bind_some, bnd]
    have hpair : (if (insp l t x s).M k = true then (((k : Nat) : Int), (0 : Int)) else (last, since)) = (seen (insp l t x s) k last, since1 (insp l t x s) k since) := by
      unfold seen since1; split <;> rfl
    rw [hpair]
    have heq : (((k : Nat) : Int) == ((t.length : Nat) : Int)) = false := beq_eq_false_iff_ne.2 (by omega)
    simp only [heq, Bool.false_eq_true, if_false]
    rw [e1]
    simp only [Option.bind_some]
    rw [e2]
    simp only [Option.bind_some]
    have hs1 : 0 ≤ since1 (insp l t x s) k since ∧ since1 (insp l t x s) k since ≤ km := by unfold since1; split <;> omega
    rw [← hd] at k0 k1 ⊢
    generalize hS : since1 (insp l t x s) k since = S1 at hs1 ⊢
    rw [w64_id (x := km + (insp l t x s).d k) (by omega), w64_id (x := S1 + (insp l t x s).d k) (by omega), w64_id (x := ((k : Nat) : Int) + 1) (by omega), show ((k : Nat) : Int) + 1 = ((k + 1 : Nat) : Int) by omega]
    by_cases c : km + (insp l t x s).d k ≤ s.Limit
    · rw [decide_eq_true c]
      simp only [if_true]
      have := go_on h.ok g (by omega) c
      rw [hS] at this
      exact ih (k + 1) out _ _ _ _ fu (by omega) (by omega) (by omega) this
    · rw [decide_eq_false c]
      simp only [Bool.false_eq_true, if_false]
      by_cases c2 : seen (insp l t x s) k last ≤ fr ∨ s.Limit < S1 + (insp l t x s).d k
      · have e : (if decide (seen (insp l t x s) k last ≤ fr) = true then true else decide (S1 + (insp l t x s).d k > s.Limit)) = true := by
          by_cases q : seen (insp l t x s) k last ≤ fr
          · rw [decide_eq_true q]; rfl
          · rw [decide_eq_false q, decide_eq_true (c2.resolve_left q)]; rfl
        rw [e]
        simp only [if_true]
        exact .inl ⟨trivial, go_none h.ok g (by omega) (by show s.Limit < _; omega) (by rw [hS]; exact c2)⟩
      · have e : (if decide (seen (insp l t x s) k last ≤ fr) = true then true else decide (S1 + (insp l t x s).d k > s.Limit)) = false := by
          rw [decide_eq_false (fun q => c2 (.inl q)), decide_eq_false (fun q => c2 (.inr q))]; rfl
        rw [e]
        simp only [Bool.false_eq_true, if_false]
        rw [apd_lt (by simp; omega)]
        simp only [Option.bind_some]
        have := go_put h.ok g (by omega) (by show s.Limit < _; omega) (by omega) (by rw [hS]; show _ ≤ s.Limit; omega)
        rw [hS] at this
        exact ih (k + 1) _ _ _ _ _ fu (by omega) (by omega) (by simp; omega) this
theorem prog_run (h : Turn l t x s) {fu : Nat} (hf : t.length + 2 ≤ fu) : ∃ r, Best (insp l t x s) r ∧ Fleetpositions fu l t x s = some (match r with | some a => (a, true) | none => ([], false)) := by
  have g : Go1 (insp l t x s) 0 [] x.Km (-1) (-1) 0 := by
    refine ⟨by simp, by simp, rfl, fun j hj => absurd hj (Nat.not_lt_zero _), .inl ⟨rfl, rfl, by simp [Insp.km, Insp.pre]⟩, .inl ⟨rfl, fun j hj => absurd hj (Nat.not_lt_zero _)⟩, ⟨Int.le_refl _, h.k0⟩, fun b _ _ i hi => absurd hi (Nat.not_lt_zero _)⟩
  unfold Fleetpositions
  rcases prog_loop h t.length 0 [] x.Km (-1) (-1) 0 fu (by omega) (by omega) (Nat.le_refl _) g with ⟨e, hb⟩ | ⟨a, b, c, d, e', f, e, hb⟩
  · have e2 : Fleetpositions.loop2 l t x s fu [] x.Km (-1) (-1) 0 0 = some (.ret ([], false)) := e
    rw [e2]; exact ⟨none, hb, rfl⟩
  · have e2 : Fleetpositions.loop2 l t x s fu [] x.Km (-1) (-1) 0 0 = some (.next (a, b, c, d, e', f)) := e
    rw [e2]; exact ⟨some a, hb, rfl⟩
/-- what the reference says of a list of positions -/
theorem kept_loop (h : Turn l t x s) (a : List Int) {j : Nat} (hj : j ≤ t.length) : ∀ (m k : Nat) (fu : Nat), k + m = j → m + 1 < fu → (insp l t x s).KU a k →
    (Fishref2kept.loop2 l (t.take j) s a fu ((insp l t x s).km a k) (k : Int) = some (.ret false) ∧ ¬ (insp l t x s).KU a j) ∨ ∃ z, Fishref2kept.loop2 l (t.take j) s a fu ((insp l t x s).km a k) (k : Int) = some (.next z) ∧ (insp l t x s).KU a j := by
  intro m
  induction m with
  | zero =>
    intro k fu hk hf hu
    have hn := h.n
    obtain ⟨fu, rfl⟩ : ∃ f, fu = f + 2 := ⟨fu - 2, by omega⟩
    have hl : (t.take j).length = j := by simp; omega
    rw [Fishref2kept.loop2, hl, w64_id (by omega), decide_eq_true (by omega), decide_eq_false (by omega)]
    simp only [if_true, Bool.false_eq_true, if_false, bnd, Option.bind_some]
    rw [Fishref2kept.loop2, hl, w64_id (by omega), w64_id (by omega), decide_eq_false (by omega)]
    simp only [Bool.false_eq_true, if_false]
    right
    exact ⟨_, rfl, by rw [show j = k by omega]; exact hu⟩
  | succ m ih =>
    intro k fu hk hf hu
    have hn := h.n
    have l1 := h.l1; have l2 := h.l2
    obtain ⟨fu, rfl⟩ : ∃ f, fu = f + 1 := ⟨fu - 1, by omega⟩
    have hl : (t.take j).length = j := by simp; omega
    have hkn : k < t.length := by omega
    obtain ⟨e1, e2, tok⟩ := h.tk hkn
    have k0 := tok.k0; have k1 := tok.k1
    have hd := h.d hkn
    have e3 : gx (t.take j) ((k : Nat) : Int) = some t[k] := by rw [gx_at (by omega)]; simp
    have hkm : (insp l t x s).km a k ≤ s.Limit := by
      cases k with
      | zero => exact h.k1
      | succ k => exact hu k (Nat.lt_succ_self k)
    have hkm0 := h.ok.km a k
    rw [Fishref2kept.loop2, hl, w64_id (x := ((j : Nat) : Int) + 1) (by omega), decide_eq_true (by omega), decide_eq_true (by omega)]
    simp only [if_true, bnd]
    rw [e3]
    simp only [Option.bind_some]
    rw [e2, contains_eq]
    simp only [Option.bind_some]
    rw [← hd] at k0 k1 ⊢
    have hc : (if a.contains ((k : Nat) : Int) = true then 0 else (insp l t x s).km a k) + (insp l t x s).d k = (insp l t x s).km a (k + 1) := rfl
    have hb0 := h.ok.km a (k + 1)
    have hb1 : (insp l t x s).km a (k + 1) ≤ 20000 := by rw [← hc]; split <;> omega
    rw [hc, w64_id (by omega), w64_id (by omega), show ((k : Nat) : Int) + 1 = ((k + 1 : Nat) : Int) by omega]
    by_cases c : (insp l t x s).km a (k + 1) > s.Limit
    · rw [decide_eq_true c]
      simp only [if_true, Option.bind_some]
      left
      refine ⟨trivial, fun q => ?_⟩
      have : (insp l t x s).km a (k + 1) ≤ s.Limit := q k (by omega)
      omega
    · rw [decide_eq_false c]
      simp only [Bool.false_eq_true, if_false, Option.bind_some]
      refine ih (k + 1) fu (by omega) (by omega) fun i hi => ?_
      rcases Nat.eq_or_lt_of_le (Nat.le_of_lt_succ hi) with e | e
      · rw [e]; show _ ≤ s.Limit; omega
      · exact hu i e
theorem kept_run (h : Turn l t x s) (a : List Int) {j : Nat} (hj : j ≤ t.length) {fu : Nat} (hf : t.length + 2 ≤ fu) : ∃ b, Fishref2kept fu l (t.take j) x s a = some b ∧ (b = true ↔ (insp l t x s).KU a j) := by
  unfold Fishref2kept
  rcases kept_loop h a hj j 0 fu (by omega) (by omega) (fun i hi => absurd hi (Nat.not_lt_zero _)) with ⟨e, q⟩ | ⟨z, e, q⟩
  · have e2 : Fishref2kept.loop2 l (t.take j) s a fu x.Km 0 = some (.ret false) := e
    rw [e2]; exact ⟨false, rfl, by simp [q]⟩
  · have e2 : Fishref2kept.loop2 l (t.take j) s a fu x.Km 0 = some (.next z) := e
    rw [e2]; exact ⟨true, rfl, by simp [q]⟩
theorem kept_all (h : Turn l t x s) (a : List Int) {fu : Nat} (hf : t.length + 2 ≤ fu) : ∃ b, Fishref2kept fu l t x s a = some b ∧ (b = true ↔ (insp l t x s).KU a (insp l t x s).D.length) := by
  have := kept_run h a (Nat.le_refl _) hf
  rw [List.take_length] at this
  simpa [insp] using this
end
/-! the reference: the latest, one by one -/
section
variable {z : Insp}
def lastf (a : List Int) : Int := (a.getLast?).getD (-1)
theorem lastf_app (a : List Int) (p : Int) : lastf (a ++ [p]) = p := by simp [lastf]
theorem lastf_le {a : List Int} (hs : a.Pairwise (· < ·)) : ∀ i ∈ a, i ≤ lastf a := by
  intro i hi
  unfold lastf
  cases h : a.getLast? with
  | none => rw [List.getLast?_eq_none_iff] at h; subst h; cases hi
  | some p => exact last_le hs h i hi
def Cand (z : Insp) (a : List Int) (i : Int) : Prop := lastf a < i ∧ z.KU a (nd i)
theorem first_fail (a : List Int) : ∀ n : Nat, ¬ z.KU a n → ∃ f, f < n ∧ z.KU a f ∧ z.lim < z.km a (f + 1)
  | 0, h => absurd (fun j hj => absurd hj (Nat.not_lt_zero _)) h
  | n + 1, h => by
    by_cases c : z.KU a n
    · refine ⟨n, Nat.lt_succ_self n, c, ?_⟩
      rcases Int.lt_or_le z.lim (z.km a (n + 1)) with q | q
      · exact q
      · exact absurd (fun j hj => by
          rcases Nat.eq_or_lt_of_le (Nat.le_of_lt_succ hj) with e | e
          · rw [e]; exact q
          · exact c j e) h
    · obtain ⟨f, h1, h2, h3⟩ := first_fail a n c
      exact ⟨f, by omega, h2, h3⟩
structure Lt (z : Insp) (a : List Int) : Prop where
  srt : a.Pairwise (· < ·)
  may : ∀ i ∈ a, i ∈ z.mayl
  kl : ∀ p : Nat, a.getLast? = some (p : Int) → z.KU a p
  ah : ∀ b, z.Val b → z.KU b z.D.length → ∀ i, ∀ hi : i < a.length, ∃ hj : i < b.length, b[i] ≤ a[i]
theorem Lt.fail (_ : IOk z) {a : List Int} (g : Lt z a) {f : Nat} (hf : z.lim < z.km a (f + 1)) : (a = [] ∧ z.lim < z.K + z.pre (f + 1)) ∨ ∃ p : Nat, p ≤ f ∧ a.getLast? = some (p : Int) ∧ z.lim < z.pre (f + 1) - z.pre p := by
  cases e : a.getLast? with
  | none =>
    rw [List.getLast?_eq_none_iff] at e
    subst e
    left
    rw [km_none (z := z) (f + 1) (fun i hi => by cases hi)] at hf
    exact ⟨rfl, hf⟩
  | some q =>
    obtain ⟨p, rfl, m, hp⟩ := mayl_mem.1 (g.may q (List.mem_of_getLast? e))
    right
    have hk := g.kl p e
    have hpf : p ≤ f := by
      rcases Nat.lt_or_ge f p with c | c
      · have := hk f c; omega
      · exact c
    obtain ⟨a0, rfl⟩ := List.getLast?_eq_some_iff.1 e
    have hlt : ∀ i ∈ a0, i < (p : Int) := by
      intro i hi
      exact (List.pairwise_append.1 g.srt).2.2 i hi _ (by simp)
    rw [(km_app (z := z) hlt).2 (f + 1) (by omega)] at hf
    exact ⟨p, hpf, rfl, hf⟩
theorem cand_iff {a : List Int} {f : Nat} (hu : z.KU a f) (hf : z.lim < z.km a (f + 1)) {i : Int} (h0 : 0 ≤ i) : Cand z a i ↔ lastf a < i ∧ i ≤ (f : Int) := by
  unfold Cand
  constructor
  · rintro ⟨h1, h2⟩
    refine ⟨h1, ?_⟩
    rcases Nat.lt_or_ge f (nd i) with c | c
    · have := h2 f c; omega
    · unfold nd at c; omega
  · rintro ⟨h1, h2⟩
    exact ⟨h1, fun j hj => hu j (by unfold nd at hj; omega)⟩
theorem lt_none (h : IOk z) {a : List Int} (g : Lt z a) (hn : ¬ z.KU a z.D.length) (hc : ∀ i ∈ z.mayl, ¬ Cand z a i) : Best z none := by
  intro b hb hkb
  obtain ⟨f, f1, f2, f3⟩ := first_fail a _ hn
  have hF := g.fail h f3
  obtain ⟨hj, hle⟩ := ahead_more h hF hb (hkb f f1) (g.ah b hb hkb)
  have hbm := (val_iff.1 hb).2
  have hall : ∀ y ∈ b, y ≤ (f : Int) → y ≤ lastf a := by
    intro y hy hyf
    have hym := hbm y hy
    obtain ⟨p, e, _, _⟩ := mayl_mem.1 hym
    rcases Int.lt_or_le (lastf a) y with c | c
    · exact absurd ((cand_iff f2 f3 (by omega)).2 ⟨c, hyf⟩) (hc y hym)
    · exact c
  rcases hF with ⟨ha, _⟩ | ⟨p, hp, hl, hlt⟩
  · have h1 := hall _ (List.getElem_mem hj) hle
    obtain ⟨q, e, _, _⟩ := mayl_mem.1 (hbm _ (List.getElem_mem hj))
    have : lastf a = -1 := by rw [ha]; rfl
    omega
  · have hlp : lastf a = (p : Int) := by unfold lastf; rw [hl]; rfl
    have := km_low h (a := b) (p := p) f hp (fun y hy hyf => by rw [← hlp]; exact hall y hy hyf)
    have := hkb f f1
    omega
theorem lt_next (h : IOk z) {a : List Int} (g : Lt z a) (hn : ¬ z.KU a z.D.length) {r : Int} (hr : r ∈ z.mayl) (hc : Cand z a r) (hm : ∀ i ∈ z.mayl, Cand z a i → i ≤ r) : Lt z (a ++ [r]) := by
  obtain ⟨f, f1, f2, f3⟩ := first_fail a _ hn
  obtain ⟨p, rfl, mp, hp⟩ := mayl_mem.1 hr
  have hci := (cand_iff f2 f3 (i := (p : Int)) (by omega)).1 hc
  have hlt : ∀ i ∈ a, i < (p : Int) := fun i hi => by have := lastf_le g.srt i hi; omega
  refine ⟨?_, ?_, ?_, ?_⟩
  · rw [List.pairwise_append]
    refine ⟨g.srt, by simp, fun i hi j hj => ?_⟩
    rw [List.mem_singleton] at hj; subst hj
    exact hlt i hi
  · intro i hi
    rcases List.mem_append.1 hi with hi | hi
    · exact g.may i hi
    · rw [List.mem_singleton] at hi; rw [hi]; exact hr
  · intro q hq
    have : (p : Int) = (q : Int) := by simpa using hq
    have hpq : p = q := by omega
    subst hpq
    intro j hj
    rw [(km_app (z := z) hlt).1 (j + 1) (by omega)]
    exact f2 j (by omega)
  · intro b hb hkb i hi
    rcases Nat.lt_or_ge i a.length with c | c
    · obtain ⟨hj, q⟩ := g.ah b hb hkb i c
      exact ⟨hj, by rw [List.getElem_append_left c]; exact q⟩
    · have : i = a.length := by simp at hi; omega
      subst this
      obtain ⟨hj, q⟩ := ahead_more h (g.fail h f3) hb (hkb f f1) (g.ah b hb hkb)
      refine ⟨hj, ?_⟩
      rw [List.getElem_append_right (Nat.le_refl _)]
      simp only [Nat.sub_self, List.getElem_cons_zero]
      have hbm := (val_iff.1 hb).2 _ (List.getElem_mem hj)
      obtain ⟨y, e, _, _⟩ := mayl_mem.1 hbm
      rcases Int.lt_or_le (lastf a) b[a.length] with c2 | c2
      · exact hm _ hbm ((cand_iff f2 f3 (by omega)).2 ⟨c2, q⟩)
      · omega
theorem filter_lt {P Q : Int → Bool} (h : ∀ i, P i = true → Q i = true) : ∀ (ms : List Int) (r : Int), r ∈ ms → Q r = true → P r = false → (ms.filter P).length < (ms.filter Q).length
  | [], r, hr, _, _ => by cases hr
  | m :: ms, r, hr, hq, hp => by
    have hle : (ms.filter P).length ≤ (ms.filter Q).length := by
      clear hr
      induction ms with
      | nil => exact Nat.le_refl _
      | cons a ms ih =>
        rw [List.filter_cons, List.filter_cons]
        cases ea : P a with
        | true => rw [if_pos rfl, if_pos (h a ea)]; simpa using ih
        | false =>
          rw [if_neg (by simp)]
          split
          · simp only [List.length_cons]; omega
          · exact ih
    rw [List.filter_cons, List.filter_cons]
    rcases List.mem_cons.1 hr with rfl | hr
    · rw [hp, hq, if_neg (by simp), if_pos rfl]
      simp only [List.length_cons]; omega
    · have ih := filter_lt h ms r hr hq hp
      cases ea : P m with
      | true => rw [if_pos rfl, if_pos (h m ea)]; simpa using ih
      | false =>
        rw [if_neg (by simp)]
        split
        · simp only [List.length_cons]; omega
        · exact ih
end
section
variable {l : List FleetTask} {t : List Int} {x : FleetSet} {s : FleetShop}
theorem latest_loop3 (h : Turn l t x s) (a : List Int) (ha : a.length ≤ 40000) {fu : Nat} (hf : t.length + 2 ≤ fu) : ∀ (ms : List Int) (q : Int), ms.Pairwise (· < ·) → (∀ i ∈ ms, i ∈ (insp l t x s).mayl) →
    ∃ r, Fishref2latest.loop3 l t x s fu a ms q = some r ∧ ((r = q ∧ ∀ i ∈ ms, ¬ Cand (insp l t x s) a i) ∨ (r ∈ ms ∧ Cand (insp l t x s) a r ∧ ∀ i ∈ ms, Cand (insp l t x s) a i → i ≤ r))
  | [], q, _, _ => ⟨q, rfl, .inl ⟨rfl, fun i hi => by cases hi⟩⟩
  | m :: ms, q, hs, hm => by
    have hn := h.n
    have hs' := List.pairwise_cons.1 hs
    obtain ⟨p, e, mp, hp⟩ := mayl_mem.1 (hm m (by simp))
    have hpn : p ≤ t.length := by simpa [insp] using hp
    have hcond : (if decide (((a.length : Nat) : Int) > 0) = true then ((gx a (w64 (((a.length : Nat) : Int) - 1))).bind fun x112 => some (decide (m ≤ x112))) else some false) = some (decide (m ≤ lastf a)) := by
      cases ea : a.getLast? with
      | none =>
        rw [List.getLast?_eq_none_iff] at ea
        subst ea
        have : ¬ m ≤ lastf [] := by show ¬ m ≤ -1; omega
        rw [decide_eq_false this]; rfl
      | some y =>
        obtain ⟨hl, e2⟩ := getLast_at ea
        have hpos : 0 < a.length := by omega
        rw [decide_eq_true (by omega)]
        simp only [if_true]
        rw [gx_prev hpos (Nat.le_refl _) (by omega)]
        simp only [Option.bind_some]
        rw [e2]
        unfold lastf
        rw [ea]; rfl
    have ih := fun q => latest_loop3 h a ha hf ms q hs'.2 (fun i hi => hm i (by simp [hi]))
    have lift : ∀ (q r : Int), ¬ Cand (insp l t x s) a m → ((r = q ∧ ∀ i ∈ ms, ¬ Cand (insp l t x s) a i) ∨ (r ∈ ms ∧ Cand (insp l t x s) a r ∧ ∀ i ∈ ms, Cand (insp l t x s) a i → i ≤ r)) →
        ((r = q ∧ ∀ i ∈ m :: ms, ¬ Cand (insp l t x s) a i) ∨ (r ∈ m :: ms ∧ Cand (insp l t x s) a r ∧ ∀ i ∈ m :: ms, Cand (insp l t x s) a i → i ≤ r)) := by
      intro q r hnc hr
      rcases hr with ⟨h1, h2⟩ | ⟨h1, h2, h3⟩
      · refine .inl ⟨h1, fun i hi => ?_⟩
        rcases List.mem_cons.1 hi with rfl | hi
        · exact hnc
        · exact h2 i hi
      · refine .inr ⟨by simp [h1], h2, fun i hi hc => ?_⟩
        rcases List.mem_cons.1 hi with rfl | hi
        · exact absurd hc hnc
        · exact h3 i hi hc
    rw [Fishref2latest.loop3, hcond]
    simp only [Option.bind_some]
    by_cases c1 : m ≤ lastf a
    · rw [decide_eq_true c1]
      simp only [if_true]
      obtain ⟨r, r1, r2⟩ := ih q
      exact ⟨r, r1, lift q r (fun hc => by have := hc.1; omega) r2⟩
    · rw [decide_eq_false c1]
      simp only [Bool.false_eq_true, if_false]
      rw [cutl_in (by omega) (by omega) (by omega)]
      simp only [Option.bind_some]
      have ecut : List.drop ((0 : Int)).toNat (List.take m.toNat t) = t.take p := by rw [e]; simp
      rw [ecut]
      obtain ⟨b, k1, k2⟩ := kept_run h a hpn hf
      rw [k1]
      simp only [Option.bind_some, bnd]
      have hnd : nd m = p := by rw [e]; simp [nd]
      cases b with
      | true =>
        have hc : Cand (insp l t x s) a m := ⟨by omega, by rw [hnd]; exact k2.1 rfl⟩
        simp only [if_true]
        obtain ⟨r, r1, r2⟩ := ih m
        refine ⟨r, r1, .inr ?_⟩
        rcases r2 with ⟨h1, h2⟩ | ⟨h1, h2, h3⟩
        · refine ⟨by rw [h1]; simp, by rw [h1]; exact hc, fun i hi hci => ?_⟩
          rcases List.mem_cons.1 hi with rfl | hi
          · omega
          · exact absurd hci (h2 i hi)
        · refine ⟨by simp [h1], h2, fun i hi hci => ?_⟩
          rcases List.mem_cons.1 hi with rfl | hi
          · exact Int.le_of_lt (hs'.1 r h1)
          · exact h3 i hi hci
      | false =>
        simp only [Bool.false_eq_true, if_false]
        obtain ⟨r, r1, r2⟩ := ih q
        refine ⟨r, r1, lift q r (fun hc => ?_) r2⟩
        have := k2.2 (by rw [← hnd]; exact hc.2)
        cases this
def wid (z : Insp) (a : List Int) : Nat := (z.mayl.filter fun i => decide (lastf a < i)).length
theorem latest_loop2 (h : Turn l t x s) {fu : Nat} (hf : t.length + 2 ≤ fu) : ∀ (w : Nat) (a : List Int) (c fm : Nat), wid (insp l t x s) a ≤ w → c + w ≤ (insp l t x s).mayl.length → w + 1 ≤ fm → a.length ≤ c → Lt (insp l t x s) a →
    ∃ r, Best (insp l t x s) r ∧ Fishref2latest.loop2 l t x s (insp l t x s).mayl fu fm a (c : Int) = some (.ret (match r with | some a => (a, true) | none => ([], false))) := by
  intro w
  induction w with
  | zero =>
    intro a c fm hw hc hfm hac g
    have hn := h.n
    have hml := mays_len (z := insp l t x s) ((insp l t x s).D.length + 1) 0
    have hDl : (insp l t x s).D.length = t.length := by simp [insp]
    have hml' : (insp l t x s).mayl.length ≤ t.length + 1 := by unfold Insp.mayl; omega
    obtain ⟨fm, rfl⟩ : ∃ f, fm = f + 1 := ⟨fm - 1, by omega⟩
    obtain ⟨b, k1, k2⟩ := kept_all h a hf
    rw [Fishref2latest.loop2, w64_id (by omega), decide_eq_true (by omega)]
    simp only [if_true]
    rw [k1]
    simp only [Option.bind_some]
    cases b with
    | true =>
      simp only [if_true]
      exact ⟨some a, ⟨val_iff.2 ⟨g.srt, g.may⟩, k2.1 rfl, g.ah⟩, rfl⟩
    | false =>
      simp only [Bool.false_eq_true, if_false]
      have hnk : ¬ (insp l t x s).KU a (insp l t x s).D.length := fun q => by have := k2.2 q; cases this
      obtain ⟨r, r1, r2⟩ := latest_loop3 h a (by omega) hf (insp l t x s).mayl (-1) (mays_srt _ _) (fun i hi => hi)
      rw [r1]
      simp only [Option.bind_some]
      rcases r2 with ⟨e, hno⟩ | ⟨e1, e2, e3⟩
      · rw [e, decide_eq_true (by omega)]
        simp only [if_true]
        exact ⟨none, lt_none h.ok g hnk hno, rfl⟩
      · have hmem : r ∈ (insp l t x s).mayl.filter fun i => decide (lastf a < i) := List.mem_filter.2 ⟨e1, decide_eq_true e2.1⟩
        have := List.length_pos_of_mem hmem
        unfold wid at hw
        omega
  | succ w ih =>
    intro a c fm hw hc hfm hac g
    have hn := h.n
    have hml := mays_len (z := insp l t x s) ((insp l t x s).D.length + 1) 0
    have hDl : (insp l t x s).D.length = t.length := by simp [insp]
    have hml' : (insp l t x s).mayl.length ≤ t.length + 1 := by unfold Insp.mayl; omega
    obtain ⟨fm, rfl⟩ : ∃ f, fm = f + 1 := ⟨fm - 1, by omega⟩
    obtain ⟨b, k1, k2⟩ := kept_all h a hf
    rw [Fishref2latest.loop2, w64_id (x := (((insp l t x s).mayl.length : Nat) : Int) + 1) (by omega), decide_eq_true (by omega)]
    simp only [if_true]
    rw [k1]
    simp only [Option.bind_some]
    cases b with
    | true =>
      simp only [if_true]
      exact ⟨some a, ⟨val_iff.2 ⟨g.srt, g.may⟩, k2.1 rfl, g.ah⟩, rfl⟩
    | false =>
      simp only [Bool.false_eq_true, if_false]
      have hnk : ¬ (insp l t x s).KU a (insp l t x s).D.length := fun q => by have := k2.2 q; cases this
      obtain ⟨r, r1, r2⟩ := latest_loop3 h a (by omega) hf (insp l t x s).mayl (-1) (mays_srt _ _) (fun i hi => hi)
      rw [r1]
      simp only [Option.bind_some]
      rcases r2 with ⟨e, hno⟩ | ⟨e1, e2, e3⟩
      · rw [e, decide_eq_true (by omega)]
        simp only [if_true]
        exact ⟨none, lt_none h.ok g hnk hno, rfl⟩
      · obtain ⟨p, ep, _, _⟩ := mayl_mem.1 e1
        rw [decide_eq_false (by omega)]
        simp only [Bool.false_eq_true, if_false]
        rw [apd_lt (by simp; omega)]
        simp only [Option.bind_some]
        rw [w64_id (x := ((c : Nat) : Int) + 1) (by omega), show ((c : Nat) : Int) + 1 = ((c + 1 : Nat) : Int) by omega]
        have hlt := filter_lt (P := fun i => decide (lastf (a ++ [r]) < i)) (Q := fun i => decide (lastf a < i)) (fun i hi => by
          rw [lastf_app] at hi
          have h1 := of_decide_eq_true hi
          have h2 := e2.1
          exact decide_eq_true (by omega)) (insp l t x s).mayl r e1 (decide_eq_true e2.1) (by rw [lastf_app]; exact decide_eq_false (by omega))
        refine ih (a ++ [r]) (c + 1) fm ?_ (by omega) (by omega) (by simp; omega) (lt_next h.ok g hnk e1 e2 e3)
        unfold wid at hw ⊢
        omega
theorem latest_run (h : Turn l t x s) {fu : Nat} (hf : t.length + 3 ≤ fu) : ∃ r, Best (insp l t x s) r ∧ Fishref2latest fu l t x s (insp l t x s).mayl = some (match r with | some a => (a, true) | none => ([], false)) := by
  have hml := mays_len (z := insp l t x s) ((insp l t x s).D.length + 1) 0
  have hDl : (insp l t x s).D.length = t.length := by simp [insp]
  have hml' : (insp l t x s).mayl.length ≤ t.length + 1 := by unfold Insp.mayl; omega
  obtain ⟨r, h1, h2⟩ := latest_loop2 h (fu := fu) (by omega) (insp l t x s).mayl.length [] 0 fu (List.length_filter_le ..) (by omega) (by omega) (Nat.le_refl _) ⟨by simp, by simp, by simp, fun b _ _ i hi => absurd hi (Nat.not_lt_zero _)⟩
  unfold Fishref2latest
  have h2' : Fishref2latest.loop2 l t x s (insp l t x s).mayl fu fu [] 0 = _ := h2
  rw [h2']
  exact ⟨r, h1, rfl⟩
end
/-! single bits -/
theorem bit_and1 {x : Int} (h0 : 0 ≤ x) (h1 : x < 9223372036854775808) : IntKind.wrap .i64 ((BitVec.ofInt (IntKind.bits .i64) x &&& BitVec.ofInt (IntKind.bits .i64) 1).toNat : Int) = x % 2 := by
  have e : (BitVec.ofInt (IntKind.bits .i64) x &&& BitVec.ofInt (IntKind.bits .i64) 1).toNat = x.toNat % 2 := by
    show (BitVec.ofInt 64 x &&& BitVec.ofInt 64 1).toNat = x.toNat % 2
    rw [BitVec.toNat_and]
    have h2 : (BitVec.ofInt 64 1).toNat = 1 := by decide
    have h3 : (BitVec.ofInt 64 x).toNat = x.toNat := by
      rw [BitVec.toNat_ofInt]
      have : x % ((2 ^ 64 : Nat) : Int) = x := Int.emod_eq_of_lt h0 (by omega)
      rw [this]
    rw [h2, h3, Nat.and_one_is_mod]
  rw [e]
  have : ((x.toNat % 2 : Nat) : Int) = x % 2 := by omega
  rw [this]
  exact IntWalk.i64_in _ ⟨by omega, by omega⟩
theorem shr_nat {x : Int} (h0 : 0 ≤ x) {k : Nat} (hk : k ≤ 64) : Int.fdiv x (2 ^ (min (Int.toNat ((k : Nat) : Int)) (IntKind.bits .i64))) = x / 2 ^ k := by
  have e : min (Int.toNat ((k : Nat) : Int)) (IntKind.bits .i64) = k := by show min (Int.toNat ((k : Nat) : Int)) 64 = k; omega
  rw [e, Int.fdiv_eq_ediv_of_nonneg x (Int.le_of_lt (Int.pow_pos (by omega)))]
theorem shr_lt {x : Int} (h0 : 0 ≤ x) (h1 : x < 9223372036854775808) (k : Nat) : 0 ≤ x / 2 ^ k ∧ x / 2 ^ k < 9223372036854775808 := by
  have hp : (0 : Int) < 2 ^ k := Int.pow_pos (by omega)
  exact ⟨Int.ediv_nonneg h0 (Int.le_of_lt hp), Int.lt_of_le_of_lt (Int.ediv_le_self _ h0) h1⟩
/-! lists compared -/
theorem compare_tot (b : List Int) (hb : b.length ≤ 9223372036854775807) : ∀ (a : List Int) (k : Nat), Tot (SlicesCompareLint.loop1 b a k)
  | [], _ => .some _
  | x :: a, k => by
    rw [SlicesCompareLint.loop1]
    refine .ite (fun _ => .some _) fun h => ?_
    have h := of_decide_eq_false h
    exact .bind1 (gx_at (by omega)) (.ite (fun _ => .some _) fun _ => compare_tot b hb a (k + 1))
theorem compare_ok (a b : List Int) (hb : b.length ≤ 9223372036854775807) : Tot (SlicesCompareLint a b) := by
  unfold SlicesCompareLint
  refine .bind (compare_tot b hb a 0) fun z _ => ?_
  cases z
  · exact .some _
  · exact .ite (fun _ => .some _) fun _ => .some _
/-! the reference: all lists, the shorter ones first -/
def selb : Nat → List Int → List Int
  | _, [] => []
  | b, m :: ms => (if b % 2 = 1 then [m] else []) ++ selb (b / 2) ms
theorem sel_sub : ∀ (ms : List Int) (b : Nat), (selb b ms).Sublist ms
  | [], _ => List.Sublist.refl _
  | m :: ms, b => by
    rw [selb]
    split
    · exact (sel_sub ms _).cons_cons m
    · exact (sel_sub ms _).cons m
theorem sel_all : ∀ (ms a : List Int), a.Sublist ms → ∃ b, b < 2 ^ ms.length ∧ selb b ms = a
  | [], a, h => ⟨0, by simp, by rw [List.sublist_nil.1 h]; rfl⟩
  | m :: ms, a, h => by
    rw [List.length_cons, Nat.pow_succ]
    rcases List.sublist_cons_iff.1 h with h | ⟨r, e, h3⟩
    · obtain ⟨b, h1, h2⟩ := sel_all ms a h
      refine ⟨2 * b, by omega, ?_⟩
      rw [selb, if_neg (by omega), show 2 * b / 2 = b by omega, h2]; rfl
    · subst e
      obtain ⟨b, h1, h2⟩ := sel_all ms r h3
      refine ⟨2 * b + 1, by omega, ?_⟩
      rw [selb, if_pos (by omega), show (2 * b + 1) / 2 = b by omega, h2]; rfl
theorem sel_loop (ms : List Int) (b : Nat) (hb : b < 4294967296) (hm : ms.length ≤ 60) : ∀ (m k : Nat) (acc : List Int), k + m = ms.length → acc.length ≤ k → Fishref2positions.loop7 ms ((b : Nat) : Int) m k acc = some (acc ++ selb (b / 2 ^ k) (ms.drop k))
  | 0, k, acc, h, _ => by rw [List.drop_eq_nil_of_le (by omega)]; simp [Fishref2positions.loop7, selb]
  | m + 1, k, acc, h, hacc => by
    have hk : k < ms.length := by omega
    obtain ⟨s1, s2⟩ := shr_lt (x := ((b : Nat) : Int)) (by omega) (by omega) k
    rw [Fishref2positions.loop7, gx_at hk]
    simp only [Option.bind_some]
    rw [shr_nat (by omega) (by omega), bit_and1 s1 s2]
    have e : ((b : Nat) : Int) / 2 ^ k % 2 = ((b / 2 ^ k % 2 : Nat) : Int) := by
      rw [Int.natCast_emod, Int.natCast_ediv, Int.natCast_pow]; rfl
    rw [e, List.drop_eq_getElem_cons hk, selb, Nat.div_div_eq_div_mul, ← Nat.pow_succ]
    by_cases c : b / 2 ^ k % 2 = 1
    · rw [c, if_pos (by simp), if_pos rfl, apd_lt (by simp; omega)]
      simp only [Option.bind_some]
      rw [sel_loop ms b hb hm m (k + 1) _ (by omega) (by simp; omega)]
      simp
    · rw [if_neg (by simp; omega), if_neg c]
      simp only [Option.bind_some]
      rw [sel_loop ms b hb hm m (k + 1) _ (by omega) (by omega)]
      simp
theorem cmp_eq (a b : Int) : CmpCompareint a b = if a < b then -1 else if b < a then 1 else 0 := by
  unfold CmpCompareint CmpisNaNint
  simp only [bne_self_eq_false, Bool.false_eq_true, if_false, decide_eq_true_eq, gt_iff_lt]
/-- one list is not above the other one, place by place -/
def Pw (a b : List Int) : Prop := a.length = b.length ∧ ∀ i, ∀ hi : i < a.length, ∃ hj : i < b.length, a[i] ≤ b[i]
theorem cmp_loop (a b : List Int) (hl : a.length = b.length) (hb : b.length ≤ 100000) (hp : ∀ i, ∀ hi : i < a.length, a[i] ≤ b[i]'(by omega)) : ∀ (m k : Nat), k + m = a.length → (∃ v, SlicesCompareLint.loop1 b (a.drop k) k = some (.ret v) ∧ v = -1 ∧ a.drop k ≠ b.drop k) ∨ (SlicesCompareLint.loop1 b (a.drop k) k = some (.next ()) ∧ a.drop k = b.drop k)
  | 0, k, h => by
    rw [List.drop_eq_nil_of_le (by omega), List.drop_eq_nil_of_le (by omega)]
    exact .inr ⟨rfl, rfl⟩
  | m + 1, k, h => by
    have hk : k < a.length := by omega
    have hkb : k < b.length := by omega
    have hle := hp k hk
    rw [List.drop_eq_getElem_cons hk, List.drop_eq_getElem_cons hkb, SlicesCompareLint.loop1, decide_eq_false (by omega)]
    simp only [Bool.false_eq_true, if_false]
    rw [gx_at hkb]
    simp only [Option.bind_some]
    rw [cmp_eq]
    rcases Int.lt_or_eq_of_le hle with c | c
    · rw [if_pos c]
      left
      exact ⟨-1, rfl, rfl, fun q => by injection q with q1 _; omega⟩
    · rw [c, if_neg (Int.lt_irrefl _), if_neg (Int.lt_irrefl _)]
      simp only [bne_self_eq_false, Bool.false_eq_true, if_false]
      rcases cmp_loop a b hl hb hp m (k + 1) (by omega) with ⟨v, h1, h2, h3⟩ | ⟨h1, h2⟩
      · exact .inl ⟨v, h1, h2, fun q => by injection q with _ q2; exact h3 q2⟩
      · exact .inr ⟨h1, by rw [h2]⟩
theorem cmp_loop2 (a b : List Int) (hl : a.length = b.length) (hb : b.length ≤ 100000) (hp : ∀ i, ∀ hi : i < a.length, b[i]'(by omega) ≤ a[i]) : ∀ (m k : Nat), k + m = a.length → (∃ v, SlicesCompareLint.loop1 b (a.drop k) k = some (.ret v) ∧ v = 1) ∨ (SlicesCompareLint.loop1 b (a.drop k) k = some (.next ()) ∧ a.drop k = b.drop k)
  | 0, k, h => by
    rw [List.drop_eq_nil_of_le (by omega), List.drop_eq_nil_of_le (by omega)]
    exact .inr ⟨rfl, rfl⟩
  | m + 1, k, h => by
    have hk : k < a.length := by omega
    have hkb : k < b.length := by omega
    have hle := hp k hk
    rw [List.drop_eq_getElem_cons hk, List.drop_eq_getElem_cons hkb, SlicesCompareLint.loop1, decide_eq_false (by omega)]
    simp only [Bool.false_eq_true, if_false]
    rw [gx_at hkb]
    simp only [Option.bind_some]
    rw [cmp_eq]
    rcases Int.lt_or_eq_of_le hle with c | c
    · rw [if_neg (show ¬ a[k] < b[k] by omega), if_pos c]
      left
      exact ⟨1, rfl, rfl⟩
    · rw [c, if_neg (Int.lt_irrefl _), if_neg (Int.lt_irrefl _)]
      simp only [bne_self_eq_false, Bool.false_eq_true, if_false]
      rcases cmp_loop2 a b hl hb hp m (k + 1) (by omega) with ⟨v, h1, h2⟩ | ⟨h1, h2⟩
      · exact .inl ⟨v, h1, h2⟩
      · exact .inr ⟨h1, by rw [h2]⟩
theorem cmp_low {a b : List Int} (h : Pw a b) (hb : b.length ≤ 100000) : ∃ v, SlicesCompareLint a b = some v ∧ ¬ v > 0 := by
  unfold SlicesCompareLint
  have hl := h.1
  rcases cmp_loop a b h.1 hb (fun i hi => (h.2 i hi).2) a.length 0 (by omega) with ⟨v, h1, h2, _⟩ | ⟨h1, _⟩
  · rw [List.drop_zero] at h1
    rw [h1]; exact ⟨v, rfl, by omega⟩
  · rw [List.drop_zero] at h1
    rw [h1]
    simp only [Option.bind_some]
    rw [decide_eq_false (by omega)]
    exact ⟨0, rfl, by omega⟩
theorem cmp_high {a b : List Int} (h : Pw b a) (hne : a ≠ b) (hb : b.length ≤ 100000) : ∃ v, SlicesCompareLint a b = some v ∧ v > 0 := by
  unfold SlicesCompareLint
  rcases cmp_loop2 a b h.1.symm hb (fun i hi => (h.2 i (by have := h.1; omega)).2) a.length 0 (by omega) with ⟨v, h1, h2⟩ | ⟨h1, h2⟩
  · rw [List.drop_zero] at h1
    rw [h1]; exact ⟨v, rfl, by omega⟩
  · rw [List.drop_zero, List.drop_zero] at h2
    exact absurd h2 hne
section
variable {l : List FleetTask} {t : List Int} {x : FleetSet} {s : FleetShop}
/-- a list that counts, for a size -/
def Hit (z : Insp) (n : Nat) (a : List Int) : Prop := z.Val a ∧ z.KU a z.D.length ∧ a.length = n
theorem sel_val {z : Insp} (b : Nat) : z.Val (selb b z.mayl) := by
  have hs := sel_sub z.mayl b
  exact val_iff.2 ⟨(mays_srt _ _).sublist hs, fun i hi => hs.subset hi⟩
theorem pow_small {m : Nat} (h : m ≤ 12) : 2 ^ m ≤ 4096 ∧ IntKind.wrap .i64 (1 * (2 ^ (min (Int.toNat ((m : Nat) : Int)) (IntKind.bits .i64)))) = ((2 ^ m : Nat) : Int) := by
  have h1 : 2 ^ m ≤ 2 ^ 12 := Nat.pow_le_pow_right (by omega) h
  have e : min (Int.toNat ((m : Nat) : Int)) (IntKind.bits .i64) = m := by show min (Int.toNat ((m : Nat) : Int)) 64 = m; omega
  rw [e, Int.one_mul]
  have e2 : ((2 : Int) ^ m) = ((2 ^ m : Nat) : Int) := by rw [Int.natCast_pow]; rfl
  rw [e2]
  have h2 : 2 ^ m ≤ 4096 := h1
  generalize 2 ^ m = N at h2 ⊢
  exact ⟨h2, w64_id (by omega)⟩
theorem enum_loop6 (h : Turn l t x s) (hm : (insp l t x s).mayl.length ≤ 12) {fu : Nat} (hf : t.length + 2 ≤ fu) {n : Nat} {g : List Int} (hg : ∀ a, Hit (insp l t x s) n a → Hit (insp l t x s) n g ∧ Pw a g) : ∀ (m c fm : Nat) (best : List Int) (found : Bool), c + m = 2 ^ (insp l t x s).mayl.length → m < fm →
    (found = true → Hit (insp l t x s) n best) → ((∃ c', c' < c ∧ selb c' (insp l t x s).mayl = g ∧ Hit (insp l t x s) n g) → found = true ∧ best = g) →
    ∃ best' found' q, Fishref2positions.loop6 l t x s fu (insp l t x s).mayl (n : Int) fm best found (c : Int) = some (best', found', q) ∧ (found' = true → Hit (insp l t x s) n best') ∧ ((∃ c', c' < 2 ^ (insp l t x s).mayl.length ∧ selb c' (insp l t x s).mayl = g ∧ Hit (insp l t x s) n g) → found' = true ∧ best' = g) := by
  obtain ⟨p1, p2⟩ := pow_small hm
  intro m
  induction m with
  | zero =>
    intro c fm best found hc hfm hb hi
    obtain ⟨fm, rfl⟩ : ∃ f, fm = f + 1 := ⟨fm - 1, by omega⟩
    rw [Fishref2positions.loop6, p2, decide_eq_false (by omega)]
    simp only [Bool.false_eq_true, if_false]
    refine ⟨_, _, _, rfl, hb, fun ⟨c', h1, h2⟩ => hi ⟨c', by omega, h2⟩⟩
  | succ m ih =>
    intro c fm best found hc hfm hb hi
    obtain ⟨fm, rfl⟩ : ∃ f, fm = f + 1 := ⟨fm - 1, by omega⟩
    rw [Fishref2positions.loop6, p2, decide_eq_true (by omega)]
    simp only [if_true]
    have hsel := sel_loop (insp l t x s).mayl c (by omega) (by omega) (insp l t x s).mayl.length 0 [] (by omega) (Nat.le_refl _)
    rw [hsel]
    simp only [Option.bind_some, List.nil_append, Nat.pow_zero, Nat.div_one, List.drop_zero]
    have hv := sel_val (z := insp l t x s) c
    have hlen : (selb c (insp l t x s).mayl).length ≤ 12 := Nat.le_trans (sel_sub _ c).length_le hm
    obtain ⟨b, k1, k2⟩ := kept_all h (selb c (insp l t x s).mayl) hf
    rw [w64_id (x := ((c : Nat) : Int) + 1) (by omega), show ((c : Nat) : Int) + 1 = ((c + 1 : Nat) : Int) by omega]
    have skip : (¬ Hit (insp l t x s) n (selb c (insp l t x s).mayl) ∨ (found = true ∧ (best = g ∨ selb c (insp l t x s).mayl ≠ g))) → ∃ best' found' q, Fishref2positions.loop6 l t x s fu (insp l t x s).mayl (n : Int) fm best found ((c + 1 : Nat) : Int) = some (best', found', q) ∧ (found' = true → Hit (insp l t x s) n best') ∧ ((∃ c', c' < 2 ^ (insp l t x s).mayl.length ∧ selb c' (insp l t x s).mayl = g ∧ Hit (insp l t x s) n g) → found' = true ∧ best' = g) := by
      intro hsk
      refine ih (c + 1) fm best found (by omega) (by omega) hb fun ⟨c', h1, h2, h3⟩ => ?_
      rcases Nat.eq_or_lt_of_le (Nat.le_of_lt_succ h1) with e | e
      · subst e
        rcases hsk with hsk | ⟨q1, q2⟩
        · rw [h2] at hsk; exact absurd h3 hsk
        · exact ⟨q1, q2.resolve_right (fun q => q h2)⟩
      · exact hi ⟨c', e, h2, h3⟩
    by_cases c1 : (selb c (insp l t x s).mayl).length = n
    · have e1 : ((((selb c (insp l t x s).mayl).length : Nat) : Int) == (n : Int)) = true := by simp [c1]
      rw [if_pos e1, k1]
      simp only [Option.bind_some]
      cases b with
      | false =>
        simp only [Bool.false_eq_true, if_false, Option.bind_some, bnd]
        exact skip (.inl fun q => by have := k2.2 q.2.1; cases this)
      | true =>
        have hhit : Hit (insp l t x s) n (selb c (insp l t x s).mayl) := ⟨hv, k2.1 rfl, c1⟩
        obtain ⟨hgh, hpw⟩ := hg _ hhit
        simp only [if_true]
        have take : ∃ best' found' q, Fishref2positions.loop6 l t x s fu (insp l t x s).mayl (n : Int) fm (selb c (insp l t x s).mayl) true ((c + 1 : Nat) : Int) = some (best', found', q) ∧ (found' = true → Hit (insp l t x s) n best') ∧ ((∃ c', c' < 2 ^ (insp l t x s).mayl.length ∧ selb c' (insp l t x s).mayl = g ∧ Hit (insp l t x s) n g) → found' = true ∧ best' = g) ∨ best = g ∧ found = true ∧ selb c (insp l t x s).mayl ≠ g := by
          by_cases e : best = g ∧ found = true ∧ selb c (insp l t x s).mayl ≠ g
          · exact ⟨[], false, 0, .inr e⟩
          · by_cases eg : selb c (insp l t x s).mayl = g
            · obtain ⟨b', f', q, r1, r2, r3⟩ := ih (c + 1) fm (selb c (insp l t x s).mayl) true (by omega) (by omega) (fun _ => hhit) (fun _ => ⟨rfl, eg⟩)
              exact ⟨b', f', q, .inl ⟨r1, r2, r3⟩⟩
            · obtain ⟨b', f', q, r1, r2, r3⟩ := ih (c + 1) fm (selb c (insp l t x s).mayl) true (by omega) (by omega) (fun _ => hhit) (fun ⟨c', h1, h2, h3⟩ => by
                rcases Nat.eq_or_lt_of_le (Nat.le_of_lt_succ h1) with e3 | e3
                · subst e3; exact absurd h2 eg
                · obtain ⟨q1, q2⟩ := hi ⟨c', e3, h2, h3⟩
                  exact absurd ⟨q2, q1, eg⟩ e)
              exact ⟨b', f', q, .inl ⟨r1, r2, r3⟩⟩
        cases hfo : found with
        | false =>
          simp only [Bool.not_false, if_true, Option.bind_some, bnd]
          obtain ⟨b', f', q, r | ⟨_, r, _⟩⟩ := take
          · exact ⟨b', f', q, r⟩
          · rw [hfo] at r; cases r
        | true =>
          have hbh := hb hfo
          have hgb := (hg _ hbh).2
          simp only [Bool.not_true, Bool.false_eq_true, if_false]
          by_cases eb : best = g
          · rw [eb]
            obtain ⟨v, v1, v2⟩ := cmp_low hpw (by have := hgh.2.2; omega)
            rw [v1]
            simp only [Option.bind_some, bnd]
            rw [decide_eq_false v2]
            simp only [Bool.false_eq_true, if_false]
            have := skip (.inr ⟨hfo, .inl eb⟩)
            rw [eb, hfo] at this
            exact this
          · by_cases es : selb c (insp l t x s).mayl = g
            · have hne : selb c (insp l t x s).mayl ≠ best := fun q => eb (by rw [← q]; exact es)
              obtain ⟨v, v1, v2⟩ := cmp_high (a := selb c (insp l t x s).mayl) (b := best) (by rw [es]; exact hgb) hne (by have := hbh.2.2; omega)
              rw [v1]
              simp only [Option.bind_some, bnd]
              rw [decide_eq_true v2]
              simp only [if_true]
              obtain ⟨b', f', q, r | ⟨r, _, _⟩⟩ := take
              · exact ⟨b', f', q, r⟩
              · exact absurd r eb
            · obtain ⟨v, v1⟩ := compare_ok (selb c (insp l t x s).mayl) best (by have := hbh.2.2; omega)
              rw [v1]
              simp only [Option.bind_some, bnd]
              by_cases cv : v > 0
              · rw [decide_eq_true cv]
                simp only [if_true]
                obtain ⟨b', f', q, r | ⟨r, _, _⟩⟩ := take
                · exact ⟨b', f', q, r⟩
                · exact absurd r eb
              · rw [decide_eq_false cv]
                simp only [Bool.false_eq_true, if_false]
                have := skip (.inr ⟨hfo, .inr es⟩)
                rw [hfo] at this
                exact this
    · have e1 : ((((selb c (insp l t x s).mayl).length : Nat) : Int) == (n : Int)) = false := beq_eq_false_iff_ne.2 (by omega)
      rw [e1]
      simp only [Bool.false_eq_true, if_false, Option.bind_some, bnd]
      exact skip (.inl fun q => c1 q.2.2)
theorem enum_loop4 (h : Turn l t x s) (hm : (insp l t x s).mayl.length ≤ 12) {fu : Nat} (hf : t.length + 5000 ≤ fu) {r : Option (List Int)} (hr : Best (insp l t x s) r) : ∀ (m n fm : Nat), n + m = (insp l t x s).mayl.length + 1 → m < fm → (∀ g, r = some g → n ≤ g.length) →
    (Fishref2positions.loop4 l t x s fu (insp l t x s).mayl fm (n : Int) = some (.next (((insp l t x s).mayl.length + 1 : Nat) : Int)) ∧ r = none) ∨ ∃ g, Fishref2positions.loop4 l t x s fu (insp l t x s).mayl fm (n : Int) = some (.ret (g, true)) ∧ r = some g := by
  obtain ⟨p1, p2⟩ := pow_small hm
  have glen : ∀ g, r = some g → g.length ≤ (insp l t x s).mayl.length := by
    intro g hg
    rw [hg] at hr
    have hv := val_iff.1 hr.1
    exact (sub_of_srt _ _ (mays_srt _ _) hv.1 hv.2).length_le
  intro m
  induction m with
  | zero =>
    intro n fm hn hfm hle
    obtain ⟨fm, rfl⟩ : ∃ f, fm = f + 1 := ⟨fm - 1, by omega⟩
    rw [Fishref2positions.loop4, w64_id (by omega), decide_eq_false (by omega)]
    simp only [Bool.false_eq_true, if_false]
    left
    refine ⟨by rw [show n = (insp l t x s).mayl.length + 1 by omega], ?_⟩
    cases r with
    | none => rfl
    | some g => have := glen g rfl; have := hle g rfl; omega
  | succ m ih =>
    intro n fm hn hfm hle
    obtain ⟨fm, rfl⟩ : ∃ f, fm = f + 1 := ⟨fm - 1, by omega⟩
    rw [Fishref2positions.loop4, w64_id (x := (((insp l t x s).mayl.length : Nat) : Int) + 1) (by omega), decide_eq_true (by omega)]
    simp only [if_true]
    have nohit : (∀ a, ¬ Hit (insp l t x s) n a) → ∃ q, ∃ b, Fishref2positions.loop6 l t x s fu (insp l t x s).mayl (n : Int) fu [] false 0 = some (b, false, q) := by
      intro hno
      obtain ⟨b', f', q, r1, r2, _⟩ := enum_loop6 h hm (fu := fu) (by omega) (n := n) (g := []) (fun a ha => absurd ha (hno a)) (2 ^ (insp l t x s).mayl.length) 0 fu [] false (by omega) (by omega) (fun q => by cases q) (fun ⟨c', h1, _⟩ => absurd h1 (Nat.not_lt_zero _))
      have r1' : Fishref2positions.loop6 l t x s fu (insp l t x s).mayl (n : Int) fu [] false 0 = some (b', f', q) := r1
      cases f' with
      | false => exact ⟨q, b', r1'⟩
      | true => exact absurd (r2 rfl) (hno _)
    have next : (∀ g, r = some g → n + 1 ≤ g.length) → (∀ a, ¬ Hit (insp l t x s) n a) → ((((Fishref2positions.loop6 l t x s fu (insp l t x s).mayl (n : Int) fu [] false 0).bind fun q151 => match q151 with | (q156, q160, _) => (if q160 then some (.ret (q156, true)) else Fishref2positions.loop4 l t x s fu (insp l t x s).mayl fm (w64 ((n : Int) + 1)))) : Option (Out ((List Int) × Bool) Int)) = some (.next (((insp l t x s).mayl.length + 1 : Nat) : Int)) ∧ r = none) ∨
        ∃ g, (((Fishref2positions.loop6 l t x s fu (insp l t x s).mayl (n : Int) fu [] false 0).bind fun q151 => match q151 with | (q156, q160, _) => (if q160 then some (.ret (q156, true)) else Fishref2positions.loop4 l t x s fu (insp l t x s).mayl fm (w64 ((n : Int) + 1)))) : Option (Out ((List Int) × Bool) Int)) = some (.ret (g, true)) ∧ r = some g := by
      intro h1 hno
      obtain ⟨q, b, e⟩ := nohit hno
      rw [e]
      simp only [Option.bind_some, Bool.false_eq_true, if_false]
      rw [w64_id (x := ((n : Nat) : Int) + 1) (by omega), show ((n : Nat) : Int) + 1 = ((n + 1 : Nat) : Int) by omega]
      exact ih (n + 1) fm (by omega) (by omega) h1
    cases hr' : r with
    | none =>
      rw [hr'] at hr next
      refine next (fun g hg => by cases hg) fun a ha => hr a ha.1 ha.2.1
    | some g =>
      rw [hr'] at hr next
      have hle' := hle g hr'
      rcases Nat.eq_or_lt_of_le hle' with e | e
      · right
        have hgh : Hit (insp l t x s) n g := ⟨hr.1, hr.2.1, e.symm⟩
        have hv := val_iff.1 hr.1
        obtain ⟨c, c1, c2⟩ := sel_all _ g (sub_of_srt _ _ (mays_srt _ _) hv.1 hv.2)
        obtain ⟨b', f', q, r1, _, r3⟩ := enum_loop6 h hm (fu := fu) (by omega) (n := n) (g := g) (fun a ha => ⟨hgh, by
            refine ⟨by rw [ha.2.2, e], fun i hi => ?_⟩
            have hl : a.length = g.length := by rw [ha.2.2, e]
            obtain ⟨hj, q⟩ := hr.2.2 a ha.1 ha.2.1 i (by omega)
            exact ⟨by omega, q⟩⟩) (2 ^ (insp l t x s).mayl.length) 0 fu [] false (by omega) (by omega) (fun q => by cases q) (fun ⟨c', h1, _⟩ => absurd h1 (Nat.not_lt_zero _))
        have r1' : Fishref2positions.loop6 l t x s fu (insp l t x s).mayl (n : Int) fu [] false 0 = some (b', f', q) := r1
        obtain ⟨q1, q2⟩ := r3 ⟨c, c1, c2, hgh⟩
        rw [r1', q1, q2]
        exact ⟨g, rfl, rfl⟩
      · refine next (fun g' hg' => by injection hg' with hg'; subst hg'; exact e) fun a ha => ?_
        have := ha.2.2
        have h0 : 0 < g.length := by omega
        rcases Nat.eq_zero_or_pos n with c | c
        · obtain ⟨hj, _⟩ := hr.2.2 a ha.1 ha.2.1 0 h0
          omega
        · obtain ⟨hj, _⟩ := hr.2.2 a ha.1 ha.2.1 n e
          omega
theorem mays_loop (h : Turn l t x s) : ∀ (m k : Nat) (acc : List Int) (fu : Nat), k + m = t.length + 1 → m < fu → acc.length ≤ k → ∃ q, Fishref2positions.loop2 l t x s fu acc (k : Int) = some (acc ++ mays (insp l t x s) k m, q) := by
  intro m
  induction m with
  | zero =>
    intro k acc fu hk hf _
    have hn := h.n
    obtain ⟨fu, rfl⟩ : ∃ f, fu = f + 1 := ⟨fu - 1, by omega⟩
    rw [Fishref2positions.loop2, w64_id (by omega), decide_eq_false (by omega)]
    simp [mays]
  | succ m ih =>
    intro k acc fu hk hf ha
    have hn := h.n
    obtain ⟨fu, rfl⟩ : ∃ f, fu = f + 1 := ⟨fu - 1, by omega⟩
    rw [Fishref2positions.loop2, w64_id (x := ((t.length : Nat) : Int) + 1) (by omega), decide_eq_true (by omega)]
    simp only [if_true]
    rw [show Fishref2canInspect = Fleetmay from rfl, h.may (by omega)]
    simp only [Option.bind_some]
    rw [w64_id (x := ((k : Nat) : Int) + 1) (by omega), show ((k : Nat) : Int) + 1 = ((k + 1 : Nat) : Int) by omega, mays]
    cases (insp l t x s).M k with
    | true =>
      simp only [if_true]
      rw [apd_lt (by simp; omega)]
      simp only [Option.bind_some]
      obtain ⟨q, e⟩ := ih (k + 1) (acc ++ [((k : Nat) : Int)]) fu (by omega) (by omega) (by simp; omega)
      rw [e]
      exact ⟨q, by simp⟩
    | false =>
      simp only [Bool.false_eq_true, if_false, Option.bind_some]
      obtain ⟨q, e⟩ := ih (k + 1) acc fu (by omega) (by omega) (by omega)
      rw [e]
      exact ⟨q, by simp⟩
/-- both find the same positions -/
theorem positions_same (h : Turn l t x s) {fu : Nat} (hf : t.length + 5000 ≤ fu) : ∃ r, Fleetpositions fu l t x s = some r ∧ Fishref2positions fu l t x s = some r ∧ r.1.length ≤ 40000 := by
  obtain ⟨r, hr, e⟩ := prog_run h (fu := fu) (by omega)
  have hn := h.n
  have hDl : (insp l t x s).D.length = t.length := by simp [insp]
  have hml := mays_len (z := insp l t x s) (t.length + 1) 0
  have hrl : ∀ g, r = some g → g.length ≤ 40000 := by
    intro g hg
    rw [hg] at hr
    have hv := val_iff.1 hr.1
    have := (sub_of_srt _ _ (mays_srt _ _) hv.1 hv.2).length_le
    rw [hDl] at this
    omega
  refine ⟨_, e, ?_, ?_⟩
  rotate_left
  · cases r with
    | none => simp
    | some g => exact hrl g rfl
  unfold Fishref2positions
  obtain ⟨q, e2⟩ := mays_loop h (t.length + 1) 0 [] fu (by omega) (by omega) (Nat.le_refl _)
  have hmy : ([] : List Int) ++ mays (insp l t x s) 0 (t.length + 1) = (insp l t x s).mayl := by unfold Insp.mayl; rw [hDl]; rfl
  rw [hmy] at e2
  have e2' : Fishref2positions.loop2 l t x s fu [] 0 = some ((insp l t x s).mayl, q) := e2
  rw [e2']
  simp only [Option.bind_some]
  by_cases c : (((insp l t x s).mayl.length : Nat) : Int) > 12
  · rw [decide_eq_true c]
    simp only [if_true]
    obtain ⟨r', hr', e3⟩ := latest_run h (fu := fu) (by omega)
    rw [best_one hr hr', e3]
    rfl
  · rw [decide_eq_false c]
    simp only [Bool.false_eq_true, if_false]
    rcases enum_loop4 h (by omega) hf hr ((insp l t x s).mayl.length + 1) 0 fu (by omega) (by omega) (fun _ _ => Nat.zero_le _) with ⟨e3, e4⟩ | ⟨g, e3, e4⟩
    · have e3' : Fishref2positions.loop4 l t x s fu (insp l t x s).mayl fu 0 = _ := e3
      rw [e3', e4]; rfl
    · have e3' : Fishref2positions.loop4 l t x s fu (insp l t x s).mayl fu 0 = _ := e3
      rw [e3', e4]; rfl
end
theorem within_ref : Fishref2within = Fleetwithin := rfl
theorem tasks_loop : ∀ l, Fishref2TasksFault.loop1 l = FleetCheckTasks.loop1 l
  | [] => rfl
  | x :: r => by simp only [Fishref2TasksFault.loop1, FleetCheckTasks.loop1, tasks_loop r]; rfl
theorem tasks_ref (l : List FleetTask) : Fishref2TasksFault l = FleetCheckTasks l := by
  unfold Fishref2TasksFault FleetCheckTasks; rw [tasks_loop]
/-! the checks ahead, and all turns -/
theorem fwithin (x a b : Int) : Fleetwithin x a b = decide (a ≤ x ∧ x ≤ b) := by
  unfold Fleetwithin bnd
  by_cases h : a ≤ x <;> simp [h]
theorem tasks_ok : ∀ l : List FleetTask, FleetCheckTasks.loop1 l = .next () → ∀ t ∈ l, TOk t
  | [], _, t, h => by cases h
  | a :: l, he, t, ht => by
    rw [FleetCheckTasks.loop1] at he
    simp only [bnd, fwithin] at he
    by_cases c1 : (0 ≤ a.From ∧ a.From ≤ 11) ∧ (0 ≤ a.To ∧ a.To ≤ 11) ∧ (0 ≤ a.Dep ∧ a.Dep ≤ 28800) ∧ (0 ≤ a.Arr ∧ a.Arr ≤ 28800)
    · obtain ⟨q1, q2, q3, q4⟩ := c1
      rw [decide_eq_true q1, decide_eq_true q2, decide_eq_true q3, decide_eq_true q4] at he
      simp only [Bool.not_true, Bool.false_eq_true, if_false] at he
      by_cases c2 : a.Arr ≤ a.Dep
      · rw [decide_eq_true c2] at he; cases he
      · rw [decide_eq_false c2] at he
        simp only [Bool.false_eq_true, if_false] at he
        by_cases c3 : (0 ≤ a.Km ∧ a.Km ≤ 10000) ∧ (1 ≤ a.Units ∧ a.Units ≤ 4)
        · obtain ⟨q5, q6⟩ := c3
          rw [decide_eq_true q5, decide_eq_true q6] at he
          simp only [Bool.not_true, Bool.false_eq_true, if_false] at he
          rcases List.mem_cons.1 ht with rfl | ht
          · exact ⟨q3.1, q3.2, q4.1, q4.2, q5.1, q5.2, by omega⟩
          · exact tasks_ok l he t ht
        · have : (if (!decide (0 ≤ a.Km ∧ a.Km ≤ 10000)) = true then true else !decide (1 ≤ a.Units ∧ a.Units ≤ 4)) = true := by
            by_cases q5 : 0 ≤ a.Km ∧ a.Km ≤ 10000
            · rw [decide_eq_true q5, decide_eq_false (fun q6 => c3 ⟨q5, q6⟩)]; rfl
            · rw [decide_eq_false q5]; rfl
          rw [this] at he; cases he
    · have : (if (!decide (0 ≤ a.From ∧ a.From ≤ 11)) = true then true else if (!decide (0 ≤ a.To ∧ a.To ≤ 11)) = true then true else if (!decide (0 ≤ a.Dep ∧ a.Dep ≤ 28800)) = true then true else !decide (0 ≤ a.Arr ∧ a.Arr ≤ 28800)) = true := by
        by_cases q1 : 0 ≤ a.From ∧ a.From ≤ 11
        · by_cases q2 : 0 ≤ a.To ∧ a.To ≤ 11
          · by_cases q3 : 0 ≤ a.Dep ∧ a.Dep ≤ 28800
            · rw [decide_eq_true q1, decide_eq_true q2, decide_eq_true q3, decide_eq_false (fun q4 => c1 ⟨q1, q2, q3, q4⟩)]; rfl
            · rw [decide_eq_true q1, decide_eq_true q2, decide_eq_false q3]; rfl
          · rw [decide_eq_true q1, decide_eq_false q2]; rfl
        · rw [decide_eq_false q1]; rfl
      rw [this] at he; cases he
theorem task_len (l : List FleetTask) (h : FleetCheckTasks l = 0) : l.length ≤ 40 := by
  unfold FleetCheckTasks at h
  by_cases h1 : ((l.length : Int) > 40)
  · simp [h1] at h
  · omega
theorem tasks_all {l : List FleetTask} (h : FleetCheckTasks l = 0) : l.length ≤ 40 ∧ ∀ t ∈ l, TOk t := by
  have hlen := task_len l h
  refine ⟨hlen, ?_⟩
  unfold FleetCheckTasks at h
  rw [decide_eq_false (by omega)] at h
  simp only [Bool.false_eq_true, if_false, bnd] at h
  cases e : FleetCheckTasks.loop1 l with
  | ret r =>
    rw [e] at h
    have hr : ∀ (l : List FleetTask) (r : Int), FleetCheckTasks.loop1 l = .ret r → r ≠ 0 := by
      intro l
      induction l with
      | nil => intro r h; cases h
      | cons a l ih =>
        intro r h
        rw [FleetCheckTasks.loop1] at h
        simp only [bnd] at h
        repeat' (split at h)
        all_goals first
          | exact ih r h
          | (cases h; omega)
    exact absurd h (hr l r e)
  | next u => exact tasks_ok l e
theorem sets_loop (s : FleetShop) : ∀ l, Fishref2SetsFault.loop1 s l = FleetcheckSets.loop1 s l
  | [] => rfl
  | x :: r => by simp only [Fishref2SetsFault.loop1, FleetcheckSets.loop1, sets_loop s r]; rfl
theorem sets_ref (l : List FleetSet) (s : FleetShop) (n : Int) : Fishref2SetsFault l s n = FleetcheckSets l s n := by
  unfold Fishref2SetsFault FleetcheckSets; rw [sets_loop]; rfl
theorem sets_all {l : List FleetSet} {s : FleetShop} {n : Int} (hn : n ≤ 1000) (h : FleetcheckSets l s n = 0) : l.length ≤ 1000 ∧ (∀ x ∈ l, 0 ≤ x.Km ∧ x.Km ≤ s.Limit) ∧ (0 ≤ s.Long ∧ s.Long ≤ 28800) ∧ (0 ≤ s.Limit ∧ s.Limit ≤ 10000) := by
  unfold FleetcheckSets at h
  by_cases c : (l.length : Int) > n
  · rw [decide_eq_true c] at h; simp at h
  · rw [decide_eq_false c] at h
    simp only [Bool.false_eq_true, if_false, bnd, fwithin] at h
    refine ⟨by omega, ?_⟩
    have key : ∀ l : List FleetSet, (∃ r, FleetcheckSets.loop1 s l = .ret r ∧ r ≠ 0) ∨ (FleetcheckSets.loop1 s l = .next () ∧ ∀ x ∈ l, 0 ≤ x.Km ∧ x.Km ≤ s.Limit) := by
      intro l
      induction l with
      | nil => exact .inr ⟨rfl, fun x hx => by cases hx⟩
      | cons a l ih =>
        rw [FleetcheckSets.loop1]
        simp only [bnd, fwithin]
        by_cases q1 : 0 ≤ a.Home ∧ a.Home ≤ 11
        · by_cases q2 : 0 ≤ a.Km ∧ a.Km ≤ s.Limit
          · rw [decide_eq_true q1, decide_eq_true q2]
            simp only [Bool.not_true, Bool.false_eq_true, if_false]
            rcases ih with ih | ⟨i1, i2⟩
            · exact .inl ih
            · refine .inr ⟨i1, fun x hx => ?_⟩
              rcases List.mem_cons.1 hx with rfl | hx
              · exact q2
              · exact i2 x hx
          · rw [decide_eq_true q1, decide_eq_false q2]
            exact .inl ⟨2, rfl, by omega⟩
        · rw [decide_eq_false q1]
          exact .inl ⟨2, rfl, by omega⟩
    rcases key l with ⟨r, e, hr⟩ | ⟨e, hs⟩
    · rw [e] at h; exact absurd h hr
    · rw [e] at h
      refine ⟨hs, ?_⟩
      dsimp only at h
      by_cases q1 : 0 ≤ s.Place ∧ s.Place ≤ 11
      · by_cases q2 : 0 ≤ s.Long ∧ s.Long ≤ 28800
        · by_cases q3 : 0 ≤ s.Limit ∧ s.Limit ≤ 10000
          · exact ⟨q2, q3⟩
          · rw [decide_eq_true q1, decide_eq_true q2, decide_eq_false q3] at h; simp at h
        · rw [decide_eq_true q1, decide_eq_false q2] at h; simp at h
      · rw [decide_eq_false q1] at h; simp at h
section
variable {l : List FleetTask} {sets : List FleetSet}
/-- the first k tasks of a turn are in order -/
def Ord (l : List FleetTask) (t : List Int) (k : Nat) : Prop := ∀ j, ∀ hj : j < t.length, j < k → (0 ≤ t[j] ∧ t[j] < l.length) ∧ (j : Int) ≤ (tk l t[j]).Dep
theorem tk_ok (hT : ∀ t ∈ l, TOk t) {i : Int} (h0 : 0 ≤ i) (h1 : i < l.length) : TOk (tk l i) := by
  have : nd i < l.length := by unfold nd; omega
  unfold tk
  rw [List.getElem?_eq_getElem this]
  exact hT _ (List.getElem_mem this)
theorem chk2 (hT : ∀ t ∈ l, TOk t) (hl : l.length ≤ 40) {n : Nat} (hn : n < sets.length) (t : List Int) (ht : t.length ≤ 9223372036854775807) : ∀ (rest : List Int) (k : Nat), t.drop k = rest → Ord l t k →
    ∃ o, FleetInspect.loop2 l sets t n rest k = some o ∧ Fishref2InspectOf.loop2 l sets t n rest k = some o ∧ (o = .next () → Ord l t t.length)
  | [], k, hd, ho => ⟨.next (), rfl, rfl, fun _ j hj _ => ho j hj (by have := List.drop_eq_nil_iff.1 hd; omega)⟩
  | i :: rest, k, hd, ho => by
    have hk : k < t.length := by
      rcases Nat.lt_or_ge k t.length with e | e
      · exact e
      · rw [List.drop_eq_nil_of_le e] at hd; cases hd
    have hd2 := hd
    rw [List.drop_eq_getElem_cons hk] at hd2
    injection hd2 with hd3 hd4
    rw [FleetInspect.loop2, Fishref2InspectOf.loop2, fwithin, w64_id (by omega)]
    simp only [bnd]
    by_cases c : 0 ≤ i ∧ i < l.length
    · have e1 : decide (0 ≤ i ∧ i ≤ ((l.length : Nat) : Int) - 1) = true := decide_eq_true ⟨c.1, by omega⟩
      have e2 : decide (i < 0) = false := decide_eq_false (by omega)
      have e3 : decide (i ≥ ((l.length : Nat) : Int)) = false := decide_eq_false (by omega)
      rw [e1, e2, e3]
      simp only [Bool.not_true, Bool.false_eq_true, if_false]
      rw [gx_tk c.1 c.2]
      simp only [Option.bind_some]
      have tok := tk_ok hT c.1 c.2
      have next : (k : Int) ≤ (tk l i).Dep → Ord l t (k + 1) := by
        intro hdep j hj hjk
        rcases Nat.eq_or_lt_of_le (Nat.le_of_lt_succ hjk) with e | e
        · subst e; rw [hd3]; exact ⟨c, hdep⟩
        · exact ho j hj e
      cases k with
      | zero =>
        rw [gx_at hn]
        simp only [Option.bind_some, show (((0 : Nat) : Int) == 0) = true from rfl, if_true]
        rw [decide_eq_false (show ¬ ((0 : Nat) : Int) > 0 by omega)]
        simp only [Bool.false_eq_true, if_false]
        by_cases c2 : (tk l i).From = sets[n].Home
        · rw [if_neg (show ¬ ((tk l i).From != sets[n].Home) = true by simpa using c2)]
          have : ((tk l i).From != sets[n].Home) = false := by simpa using c2
          simp only [Option.bind_some, this, Bool.false_eq_true, if_false]
          exact chk2 hT hl hn t ht rest 1 hd4 (next tok.d0)
        · rw [if_pos (show ((tk l i).From != sets[n].Home) = true by simpa using c2)]
          have : ((tk l i).From != sets[n].Home) = true := by simpa using c2
          simp only [Option.bind_some, this, if_true]
          exact ⟨_, rfl, rfl, fun q => by cases q⟩
      | succ k =>
        have hb : (((k + 1 : Nat) : Int) == 0) = false := beq_eq_false_iff_ne.2 (by omega)
        simp only [hb, Bool.false_eq_true, if_false, Option.bind_some]
        rw [decide_eq_true (show ((k + 1 : Nat) : Int) > 0 by omega)]
        simp only [if_true]
        rw [w64_id (by omega), show ((k + 1 : Nat) : Int) - 1 = ((k : Nat) : Int) by omega, gx_at (by omega)]
        simp only [Option.bind_some]
        obtain ⟨p1, p2⟩ := ho k (by omega) (by omega)
        rw [gx_tk p1.1 p1.2]
        simp only [Option.bind_some]
        have pok := tk_ok hT p1.1 p1.2
        have a0 := pok.a0; have a1 := pok.a1; have up := pok.up
        have hf : Fleetfollows (tk l t[k]) (tk l i) 0 = decide ((tk l i).From = (tk l t[k]).To ∧ (tk l i).Dep ≥ (tk l t[k]).Arr) := by
          unfold Fleetfollows bnd
          rw [w64_id (by omega), Int.add_zero]
          by_cases q : (tk l i).From = (tk l t[k]).To
          · simp [q]
          · simp [q]
        rw [hf]
        by_cases c2 : (tk l i).From = (tk l t[k]).To
        · have b1 : ((tk l t[k]).To != (tk l i).From) = false := by simp [c2]
          by_cases c3 : (tk l i).Dep ≥ (tk l t[k]).Arr
          · rw [decide_eq_true ⟨c2, c3⟩, decide_eq_false (show ¬ (tk l i).Dep < (tk l t[k]).Arr by omega)]
            simp only [b1, Bool.not_true, Bool.false_eq_true, if_false, Option.bind_some]
            exact chk2 hT hl hn t ht rest (k + 1 + 1) hd4 (next (by omega))
          · rw [decide_eq_false (fun q => c3 q.2), decide_eq_true (show (tk l i).Dep < (tk l t[k]).Arr by omega)]
            simp only [b1, Bool.not_false, Bool.false_eq_true, if_false, if_true, Option.bind_some]
            exact ⟨_, rfl, rfl, fun q => by cases q⟩
        · have b1 : ((tk l t[k]).To != (tk l i).From) = true := by
            simp only [bne_iff_ne]; exact fun q => c2 q.symm
          rw [decide_eq_false (fun q => c2 q.1)]
          simp only [b1, Bool.not_false, if_true, Option.bind_some]
          exact ⟨_, rfl, rfl, fun q => by cases q⟩
    · have e1 : decide (0 ≤ i ∧ i ≤ ((l.length : Nat) : Int) - 1) = false := decide_eq_false (by omega)
      have e2 : (if decide (i < 0) = true then true else decide (i ≥ ((l.length : Nat) : Int))) = true := by
        by_cases q : i < 0
        · rw [decide_eq_true q]; rfl
        · rw [decide_eq_false q, decide_eq_true (by omega)]; rfl
      rw [e1, e2]
      simp only [Bool.not_false, if_true]
      exact ⟨_, rfl, rfl, fun q => by cases q⟩
theorem chk1 (hT : ∀ t ∈ l, TOk t) (hl : l.length ≤ 40) : ∀ (ts : List (List Int)) (k : Nat), k + ts.length ≤ sets.length → (∀ t ∈ ts, t.length ≤ 9223372036854775807) →
    ∃ o, FleetInspect.loop1 l sets ts k = some o ∧ Fishref2InspectOf.loop1 l sets ts k = some o ∧ (o = .next () → ∀ t ∈ ts, Ord l t t.length)
  | [], k, _, _ => ⟨.next (), rfl, rfl, fun _ t h => by cases h⟩
  | t :: ts, k, hk, hs => by
    simp only [List.length_cons] at hk
    obtain ⟨o, h1, h2, h3⟩ := chk2 (sets := sets) hT hl (n := k) (by omega) t (hs t (by simp)) t 0 rfl (fun j hj hj0 => absurd hj0 (Nat.not_lt_zero _))
    rw [FleetInspect.loop1, Fishref2InspectOf.loop1, h1, h2]
    simp only [Option.bind_some]
    cases o with
    | ret r => exact ⟨_, rfl, rfl, fun q => by cases q⟩
    | next u =>
      obtain ⟨o, i1, i2, i3⟩ := chk1 hT hl ts (k + 1) (by omega) (fun t ht => hs t (by simp [ht]))
      refine ⟨o, i1, i2, fun q t' ht => ?_⟩
      rcases List.mem_cons.1 ht with rfl | ht
      · exact h3 rfl
      · exact i3 q t' ht
theorem ord_len (hT : ∀ t ∈ l, TOk t) {t : List Int} (h : Ord l t t.length) : t.length ≤ 30000 := by
  rcases Nat.eq_zero_or_pos t.length with c | c
  · omega
  · obtain ⟨h1, h2⟩ := h (t.length - 1) (by omega) (by omega)
    have := (tk_ok hT h1.1 h1.2).d1
    omega
theorem pos_loop (hT : ∀ t ∈ l, TOk t) {s : FleetShop} (hsets : ∀ x ∈ sets, 0 ≤ x.Km ∧ x.Km ≤ s.Limit) (hg : 0 ≤ s.Long ∧ s.Long ≤ 28800) (hlim : 0 ≤ s.Limit ∧ s.Limit ≤ 10000) {fu : Nat} (hf : 40000 ≤ fu) : ∀ (ts : List (List Int)) (k : Nat) (acc : List (List Int)), k + ts.length ≤ sets.length → acc.length ≤ k → sets.length ≤ 1000 → (∀ t ∈ ts, Ord l t t.length) →
    ∃ o, FleetInspect.loop3 l sets s fu ts k acc = some o ∧ Fishref2InspectOf.loop3 l sets s fu ts k acc = some o
  | [], k, acc, _, _, _, _ => ⟨_, rfl, rfl⟩
  | t :: ts, k, acc, hk, ha, hs, ho => by
    simp only [List.length_cons] at hk
    have hkl : k < sets.length := by omega
    have hxo := hsets _ (List.getElem_mem hkl)
    have hot := ho t (by simp)
    have htl := ord_len hT hot
    have hturn : Turn l t sets[k] s := ⟨hT, fun i hi => by
      obtain ⟨j, hj, e⟩ := List.getElem_of_mem hi
      rw [← e]; exact (hot j hj hj).1, htl, hlim.1, hlim.2, hg.1, hg.2, hxo.1, hxo.2⟩
    obtain ⟨r, r1, r2, _⟩ := positions_same hturn (fu := fu) (by omega)
    rw [FleetInspect.loop3, Fishref2InspectOf.loop3, gx_at hkl]
    simp only [Option.bind_some]
    rw [r1, r2]
    simp only [Option.bind_some]
    cases r.2 with
    | false => exact ⟨_, rfl, rfl⟩
    | true =>
      simp only [Bool.not_true, Bool.false_eq_true, if_false]
      rw [apd_lt (a := acc) (b := [r.1]) (by simp; omega)]
      simp only [Option.bind_some]
      exact pos_loop hT hsets hg hlim hf ts (k + 1) (acc ++ [r.1]) (by omega) (by simp only [List.length_append, List.length_singleton]; omega) hs (fun t ht => ho t (by simp [ht]))
theorem inspect_both {turns : List (List Int)} {s : FleetShop} (h : FleetCheckTasks l = 0) (ht : ∀ t ∈ turns, t.length ≤ 9223372036854775807) {fu : Nat} (hf : 40000 ≤ fu) : ∃ r, FleetInspect fu l turns sets s = some r ∧ Fishref2InspectOf fu l turns sets s 40 = some r := by
  obtain ⟨hl, hT⟩ := tasks_all h
  unfold FleetInspect Fishref2InspectOf
  rw [h, sets_ref]
  simp only [bne_self_eq_false, Bool.false_eq_true, if_false]
  by_cases c : FleetcheckSets sets s 40 = 0
  · obtain ⟨n1, hs, hg, hlim⟩ := sets_all (by omega) c
    rw [c]
    simp only [bne_self_eq_false, Bool.false_eq_true, if_false]
    by_cases c2 : turns.length = sets.length
    · have : (((turns.length : Nat) : Int) != ((sets.length : Nat) : Int)) = false := by simp [c2]
      simp only [this, Bool.false_eq_true, if_false]
      obtain ⟨o, o1, o2, o3⟩ := chk1 (sets := sets) hT hl turns 0 (by omega) ht
      rw [o1, o2]
      simp only [Option.bind_some]
      cases o with
      | ret r => exact ⟨_, rfl, rfl⟩
      | next u =>
        obtain ⟨o, p1, p2⟩ := pos_loop (sets := sets) (s := s) hT hs hg hlim hf turns 0 [] (by omega) (Nat.le_refl _) n1 (o3 rfl)
        dsimp only
        rw [p1, p2]
        simp only [Option.bind_some]
        cases o with
        | ret r => exact ⟨_, rfl, rfl⟩
        | next u => exact ⟨_, rfl, rfl⟩
    · have : (((turns.length : Nat) : Int) != ((sets.length : Nat) : Int)) = true := by simp; omega
      rw [this]
      exact ⟨_, rfl, rfl⟩
  · have : (FleetcheckSets sets s 40 != 0) = true := by simpa using c
    rw [this]
    exact ⟨_, rfl, rfl⟩
end
theorem seq_self (l : List Int) : SlicesEqualLint l l = some true := by
  unfold SlicesEqualLint
  have key : ∀ (m : List Int) (k : Nat), l.drop k = m → SlicesEqualLint.loop1 l m k = some (.next ()) := by
    intro m
    induction m with
    | nil => intro k _; rfl
    | cons a m ih =>
      intro k h
      have hk : k < l.length := by
        rcases Nat.lt_or_ge k l.length with e | e
        · exact e
        · rw [List.drop_eq_nil_of_le e] at h; cases h
      rw [List.drop_eq_getElem_cons hk] at h
      injection h with h1 h2
      rw [SlicesEqualLint.loop1, gx_at hk, h1]
      simp only [Option.bind_some, bne_self_eq_false, Bool.false_eq_true, if_false]
      exact ih _ h2
  rw [key l 0 rfl]
  simp
theorem lists_self (g : List (List Int)) : Fishlaw2lists g g = some true := by
  unfold Fishlaw2lists SlicesEqualFuncLLint_v1
  have key : ∀ (m : List (List Int)) (k : Nat), g.drop k = m → SlicesEqualFuncLLint_v1.loop1 g m k = some (.next ()) := by
    intro m
    induction m with
    | nil => intro k _; rfl
    | cons a m ih =>
      intro k h
      have hk : k < g.length := by
        rcases Nat.lt_or_ge k g.length with e | e
        · exact e
        · rw [List.drop_eq_nil_of_le e] at h; cases h
      rw [List.drop_eq_getElem_cons hk] at h
      injection h with h1 h2
      rw [SlicesEqualFuncLLint_v1.loop1, gx_at hk, h1]
      simp only [Option.bind_some, seq_self, Bool.not_true, Bool.false_eq_true, if_false]
      exact ih _ h2
  rw [key g 0 rfl]
  simp
theorem sets_true (n : Nat) : Fishlaw2sets (n + 60) = some true := by kernel_rfl
theorem FleetInspects_law (x0 : List FleetTask) (x1 : List (List Int)) (x2 : List FleetSet) (x3 : FleetShop) (_ : x0.length ≤ 9223372036854775807) (_ : x1.length ≤ 9223372036854775807) (h1' : ∀ x ∈ x1, x.length ≤ 9223372036854775807) (_ : x2.length ≤ 9223372036854775807) : ∃ fu, Fishlaw2FleetInspects fu x0 x1 x2 x3 = some true := by
  refine ⟨40000 + 60, ?_⟩
  have hg := sets_true 40000
  have hfu : 40000 ≤ 40000 + 60 := by omega
  generalize 40000 + 60 = fu at hg hfu
  unfold Fishlaw2FleetInspects
  rw [tasks_ref]
  by_cases h : FleetCheckTasks x0 = 0
  · obtain ⟨r, r1, r2⟩ := inspect_both h h1' hfu
    rw [r1, r2, h, hg]
    simp [lists_self]
  · have hb : (FleetCheckTasks x0 == 0) = false := by simpa using h
    have r1 : FleetInspect fu x0 x1 x2 x3 = some ([], FleetCheckTasks x0) := by
      unfold FleetInspect
      rw [if_pos (by simpa using h)]
    rw [r1, hb, hg]
    simp [lists_self]
end Go.Fp
