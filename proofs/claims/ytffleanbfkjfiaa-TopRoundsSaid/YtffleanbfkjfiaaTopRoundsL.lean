/- TopRounds: the mirror of the law is true of all rules and delays. -/
import Derived.Test.YtffleanbfkjfiaaTopRoundsM
import Derived.Test.YtffleanbfkjfiaaFpPlain
import Derived.Test.YtffleanbfkjfiaaFpGrid
import Derived.KernelRfl
namespace Go.Fp
/-! times in lists -/
abbrev Tm := Nat → Int
def nd (i : Int) : Nat := i.toNat
def tm (t : List Int) : Tm := fun v => (t[v]?).getD 0
theorem tm_get {t : List Int} {v : Nat} (h : v < t.length) : tm t v = t[v] := by simp [tm, h]
theorem gx_tm {t : List Int} {i : Int} (h0 : 0 ≤ i) (h1 : i < t.length) : gx t i = some (tm t (nd i)) := by
  have h : i.toNat < t.length := by omega
  rw [gx_toNat h0 h]; simp [tm, nd, h]
theorem tm_set {t : List Int} {u v : Nat} {x : Int} (h : u < t.length) : tm (t.set u x) v = if v = u then x else tm t v := by
  unfold tm
  by_cases c : v = u
  · subst c; rw [if_pos rfl, List.getElem?_set_self h]; rfl
  · rw [if_neg c, List.getElem?_set_ne (fun e => c e.symm)]
def bt (w : List Bool) (v : Nat) : Bool := (w[v]?).getD false
theorem bt_get {t : List Bool} {v : Nat} (h : v < t.length) : bt t v = t[v] := by simp [bt, h]
theorem gx_bt {t : List Bool} {i : Int} (h0 : 0 ≤ i) (h1 : i < t.length) : gx t i = some (bt t (nd i)) := by
  have h : i.toNat < t.length := by omega
  rw [gx_toNat h0 h]; simp [bt, nd, h]
theorem bt_set {t : List Bool} {u v : Nat} {x : Bool} (h : u < t.length) : bt (t.set u x) v = if v = u then x else bt t v := by
  unfold bt
  by_cases c : v = u
  · subst c; rw [if_pos rfl, List.getElem?_set_self h]; rfl
  · rw [if_neg c, List.getElem?_set_ne (fun e => c e.symm)]
theorem pwithin (x a b : Int) : Planwithin x a b = decide (a ≤ x ∧ x ≤ b) := by
  unfold Planwithin bnd
  by_cases h : a ≤ x <;> simp [h]
theorem rwithin (x a b : Int) : Fishref2within x a b = decide (a ≤ x ∧ x ≤ b) := by
  unfold Fishref2within bnd
  by_cases h : a ≤ x <;> simp [h]
theorem rule_max (x lo hi : Int) (w : Bool) : (if decide (x < lo) = true then true else if decide (x > hi) = true then true else w) = (if (!decide (lo ≤ x ∧ x ≤ hi)) = true then true else w) := by
  by_cases h1 : x < lo
  · have : ¬ (lo ≤ x ∧ x ≤ hi) := by omega
    simp [h1, this]
  · by_cases h2 : x > hi
    · have : ¬ (lo ≤ x ∧ x ≤ hi) := by omega
      simp [h1, h2, this]
    · have : lo ≤ x ∧ x ≤ hi := by omega
      simp [h1, h2, this]
theorem per_loop (x : PlanPeriodic) : ∀ l, PlanCheckPeriodic.loop1 x l = Fishref2PeriodicFault.loop1 x l
  | [] => rfl
  | r :: l => by
    rw [PlanCheckPeriodic.loop1, Fishref2PeriodicFault.loop1]
    simp only [pwithin, rwithin, rule_max, per_loop x l]
theorem per_eq (x : PlanPeriodic) : PlanCheckPeriodic x = Fishref2PeriodicFault x := by
  unfold PlanCheckPeriodic Fishref2PeriodicFault
  simp only [pwithin, rwithin, per_loop]
/-- what a right rule is -/
structure RuleOk (x : PlanPeriodic) (r : PlanRule) : Prop where
  from0 : 0 ≤ r.From
  from1 : r.From < x.Events
  to0 : 0 ≤ r.To
  to1 : r.To < x.Events
  ne : r.From ≠ r.To
  min0 : 0 ≤ r.Min
  min1 : r.Min ≤ 3600
  max0 : r.Min ≤ r.Max
  max1 : r.Max ≤ r.Min + x.Period - 1
  w0 : 0 ≤ r.Weight
  w1 : r.Weight ≤ 1000
structure PerOk (x : PlanPeriodic) : Prop where
  p0 : 2 ≤ x.Period
  p1 : x.Period ≤ 3600
  e0 : 1 ≤ x.Events
  e1 : x.Events ≤ 8
  n : x.Rules.length ≤ 40
  rules : ∀ r ∈ x.Rules, RuleOk x r
theorem perloop_ok (x : PlanPeriodic) (p0 : 2 ≤ x.Period) (p1 : x.Period ≤ 3600) (e0 : 1 ≤ x.Events) (e1 : x.Events ≤ 8) :
    ∀ l, (match Fishref2PeriodicFault.loop1 x l with | .ret r => r | .next () => 0) = 0 → ∀ r ∈ l, RuleOk x r
  | [], _, r, hr => by cases hr
  | q :: l, h, r, hr => by
    rw [Fishref2PeriodicFault.loop1] at h
    simp only [rwithin, rule_max, bnd] at h
    rw [w64_id (x := x.Events - 1) (by omega)] at h
    by_cases c1 : (if (!decide (0 ≤ q.From ∧ q.From ≤ x.Events - 1)) = true then true else !decide (0 ≤ q.To ∧ q.To ≤ x.Events - 1)) = true
    · rw [if_pos c1] at h; cases h
    rw [if_neg c1] at h
    by_cases c2 : (q.From == q.To) = true
    · rw [if_pos c2] at h; cases h
    rw [if_neg c2] at h
    by_cases c3 : (if (!decide (0 ≤ q.Min ∧ q.Min ≤ 3600)) = true then true else if (!decide (q.Min ≤ q.Max ∧ q.Max ≤ w64 (w64 (q.Min + x.Period) - 1))) = true then true else !decide (0 ≤ q.Weight ∧ q.Weight ≤ 1000)) = true
    · rw [if_pos c3] at h; cases h
    rw [if_neg c3] at h
    rcases List.mem_cons.1 hr with rfl | hr
    · simp at c1 c2 c3
      have m0 : 0 ≤ r.Min := by by_cases k : 0 ≤ r.Min ∧ r.Min ≤ 3600 <;> simp_all
      have m1 : r.Min ≤ 3600 := by by_cases k : 0 ≤ r.Min ∧ r.Min ≤ 3600 <;> simp_all
      rw [w64_id (x := r.Min + x.Period) (by omega), w64_id (x := r.Min + x.Period - 1) (by omega)] at c3
      have hf : 0 ≤ r.From ∧ r.From ≤ x.Events - 1 := by by_cases k : 0 ≤ r.From ∧ r.From ≤ x.Events - 1 <;> simp_all
      have ht : 0 ≤ r.To ∧ r.To ≤ x.Events - 1 := by by_cases k : 0 ≤ r.To ∧ r.To ≤ x.Events - 1 <;> simp_all
      have hx : r.Min ≤ r.Max ∧ r.Max ≤ r.Min + x.Period - 1 := by by_cases k : r.Min ≤ r.Max ∧ r.Max ≤ r.Min + x.Period - 1 <;> simp_all
      have hw : 0 ≤ r.Weight ∧ r.Weight ≤ 1000 := by by_cases k : 0 ≤ r.Weight ∧ r.Weight ≤ 1000 <;> simp_all
      exact ⟨hf.1, by omega, ht.1, by omega, c2, m0, m1, hx.1, hx.2, hw.1, hw.2⟩
    · exact perloop_ok x p0 p1 e0 e1 l h r hr
theorem per_ok (x : PlanPeriodic) (h : Fishref2PeriodicFault x = 0) : PerOk x := by
  unfold Fishref2PeriodicFault at h
  simp only [rwithin, bnd] at h
  by_cases c1 : (if (!decide (2 ≤ x.Period ∧ x.Period ≤ 3600)) = true then true else !decide (1 ≤ x.Events ∧ x.Events ≤ 8)) = true
  · rw [if_pos c1] at h; cases h
  rw [if_neg c1] at h
  by_cases c2 : decide ((x.Rules.length : Int) > 40) = true
  · rw [if_pos c2] at h; cases h
  rw [if_neg c2] at h
  have hp : 2 ≤ x.Period ∧ x.Period ≤ 3600 := by by_cases k : 2 ≤ x.Period ∧ x.Period ≤ 3600 <;> simp_all
  have he : 1 ≤ x.Events ∧ x.Events ≤ 8 := by by_cases k : 1 ≤ x.Events ∧ x.Events ≤ 8 <;> simp_all
  have hn : x.Rules.length ≤ 40 := by simp at c2; omega
  exact ⟨hp.1, hp.2, he.1, he.2, hn, perloop_ok x hp.1 hp.2 he.1 he.2 _ h⟩
structure TimesOk (x : PlanPeriodic) (t : List Int) : Prop extends PerOk x where
  len : (t.length : Int) = x.Events
  el : ∀ v ∈ t, 0 ≤ v ∧ v < x.Period
theorem times_eq (x : PlanPeriodic) (t : List Int) : PlancheckTimes x t = Fishref2TimesFault x t := by
  have : ∀ l, PlancheckTimes.loop1 x l = Fishref2TimesFault.loop1 x l := by
    intro l
    induction l with
    | nil => rfl
    | cons v l ih => rw [PlancheckTimes.loop1, Fishref2TimesFault.loop1, ih, pwithin, rwithin]
  unfold PlancheckTimes Fishref2TimesFault
  simp only [per_eq, this]
theorem times_ok (x : PlanPeriodic) (t : List Int) (h : Fishref2TimesFault x t = 0) : TimesOk x t := by
  unfold Fishref2TimesFault at h
  by_cases c1 : (Fishref2PeriodicFault x != 0) = true
  · rw [if_pos c1] at h; rw [h] at c1; cases c1
  rw [if_neg c1] at h
  have hp := per_ok x (by simpa using c1)
  by_cases c2 : ((t.length : Int) != x.Events) = true
  · rw [if_pos c2] at h; cases h
  rw [if_neg c2] at h
  have hl : ∀ l, (match Fishref2TimesFault.loop1 x l with | .ret r => r | .next () => 0) = 0 → ∀ v ∈ l, 0 ≤ v ∧ v < x.Period := by
    intro l
    induction l with
    | nil => intro _ v hv; cases hv
    | cons u l ih =>
      intro k v hv
      rw [Fishref2TimesFault.loop1, rwithin, w64_id (by have := hp.p0; have := hp.p1; omega)] at k
      by_cases c3 : 0 ≤ u ∧ u ≤ x.Period - 1
      · simp only [c3] at k
        rcases List.mem_cons.1 hv with rfl | hv
        · omega
        · exact ih (by simpa using k) v hv
      · simp [c3] at k
  exact ⟨hp, by simpa using c2, hl t h⟩
/-- the gap, told once -/
theorem time_at {x : PlanPeriodic} {t : List Int} (h : TimesOk x t) {i : Int} (h0 : 0 ≤ i) (h1 : i < x.Events) : ∃ v, gx t i = some v ∧ 0 ≤ v ∧ v < x.Period := by
  obtain ⟨v, hv, hm⟩ := gx_in (l := t) h0 (by have := h.len; omega)
  exact ⟨v, hv, h.el v hm⟩
/-- what a rule's gap is -/
def gapv (x : PlanPeriodic) (r : PlanRule) (a b : Int) : Int := r.Min + (b - a - r.Min) % x.Period
theorem gap_m {x : PlanPeriodic} {t : List Int} (h : TimesOk x t) {r : PlanRule} (hr : RuleOk x r) {a b : Int} (ha : gx t r.From = some a) (hb : gx t r.To = some b)
    (a0 : 0 ≤ a) (a1 : a < x.Period) (b0 : 0 ≤ b) (b1 : b < x.Period) : Plangap x r t = some (gapv x r a b) := by
  have p0 := h.p0; have p1 := h.p1; have m0 := hr.min0; have m1 := hr.min1
  unfold Plangap
  rw [ha, hb]
  simp only [Option.bind_some, bnd]
  rw [w64_id (x := b - a) (by omega), w64_id (x := b - a - r.Min) (by omega)]
  unfold rm
  rw [if_neg (by omega)]
  simp only [Option.bind_some]
  have ht := Int.tmod_eq_emod (a := b - a - r.Min) (b := x.Period)
  have e1 := Int.emod_nonneg (b - a - r.Min) (b := x.Period) (by omega)
  have e2 := Int.emod_lt_of_pos (b - a - r.Min) (b := x.Period) (by omega)
  congr 1
  unfold gapv
  generalize hm : (b - a - r.Min) % x.Period = m at *
  by_cases c : 0 ≤ b - a - r.Min ∨ x.Period ∣ b - a - r.Min
  · rw [if_pos c] at ht
    rw [if_neg (by simp; omega), w64_id (by omega)]
    omega
  · rw [if_neg c] at ht
    have hne : m ≠ 0 := by
      intro hz; subst hz
      exact c (.inr (Int.dvd_of_emod_eq_zero hm))
    have ht' : (b - a - r.Min).tmod x.Period = m - x.Period := by rw [ht]; omega
    rw [ht', if_pos (by simp; omega), w64_id (x := m - x.Period + x.Period) (by omega), w64_id (by omega)]
    omega
/-! bounds of differences -/
def bv (B : List Int) (i k : Nat) : Int := tm B (i * 8 + k)
structure Dbm (n : Nat) (P : Int) (B : List Int) : Prop where
  len : B.length = 64
  diag : ∀ i, i < n → bv B i i = 0
  tri : ∀ i j k, i < n → j < n → k < n → bv B i k ≤ bv B i j + bv B j k
  hi : ∀ i k, i < n → k < n → bv B i k ≤ P - 1
/-- times within bounds -/
def Keeps (n : Nat) (B : List Int) (t : Nat → Int) : Prop := ∀ i k, i < n → k < n → t k - t i ≤ bv B i k
section
variable {n : Nat} {P : Int} {B C : List Int}
theorem Dbm.lo (h : Dbm n P B) {i k : Nat} (hi : i < n) (hk : k < n) : -(P - 1) ≤ bv B i k := by
  have h1 := h.tri i k i hi hk hi
  have h2 := h.hi k i hk hi
  have h3 := h.diag i hi
  omega
/-- the least times -/
theorem Dbm.least (h : Dbm n P B) (h0 : 0 < n) : Keeps n B (fun i => -bv B i 0) := by
  intro i k hi hk
  have := h.tri i k 0 hi hk h0
  show -bv B k 0 - -bv B i 0 ≤ _
  omega
/-- bounds with one more -/
structure Cut (n : Nat) (B : List Int) (f g : Nat) (m : Int) (C : List Int) : Prop where
  len : C.length = 64
  val : ∀ i k, i < n → k < n → bv C i k = min (bv B i k) (bv B i f + m + bv B g k)
theorem Cut.dbm (h : Dbm n P B) {f g : Nat} {m : Int} (hf : f < n) (hg : g < n) (hm : 0 ≤ bv B g f + m) (c : Cut n B f g m C) : Dbm n P C := by
  have nn : ∀ i, i < n → 0 ≤ bv B i f + m + bv B g i := by
    intro i hi
    have := h.tri g i f hg hi hf
    omega
  refine ⟨c.len, fun i hi => ?_, fun i j k hi hj hk => ?_, fun i k hi hk => ?_⟩
  · rw [c.val i i hi hi, h.diag i hi]
    have := nn i hi
    omega
  · rw [c.val i k hi hk, c.val i j hi hj, c.val j k hj hk]
    have t1 := h.tri i j k hi hj hk
    have t2 := h.tri i j f hi hj hf
    have t3 := h.tri g j k hg hj hk
    have t4 := nn j hj
    omega
  · rw [c.val i k hi hk]
    have := h.hi i k hi hk
    omega
theorem Cut.in_iff (h : Dbm n P B) {f g : Nat} {m : Int} (hf : f < n) (hg : g < n) (c : Cut n B f g m C) (t : Nat → Int) : Keeps n C t ↔ Keeps n B t ∧ t g - t f ≤ m := by
  constructor
  · intro q
    refine ⟨fun i k hi hk => ?_, ?_⟩
    · have := q i k hi hk; rw [c.val i k hi hk] at this; omega
    · have := q f g hf hg
      rw [c.val f g hf hg, h.diag f hf, h.diag g hg] at this
      omega
  · rintro ⟨q, e⟩ i k hi hk
    rw [c.val i k hi hk]
    have := q i k hi hk
    have := q i f hi hf
    have := q g k hg hk
    omega
theorem bx_in {i : Int} (h0 : 0 ≤ i) (h1 : i < 8) : bx 8 i = some () := by unfold bx; rw [if_pos ⟨h0, by omega⟩]
theorem gx_bv (hl : B.length = 64) {i k : Nat} (hi : i < 8) (hk : k < 8) : gx B ((i : Int) * 8 + (k : Int)) = some (bv B i k) := by
  have e : (i : Int) * 8 + (k : Int) = ((i * 8 + k : Nat) : Int) := by omega
  rw [e, gx_tm (by omega) (by omega)]
  unfold bv nd
  congr 2
theorem sx_bv (hl : B.length = 64) {i k : Nat} (hi : i < 8) (hk : k < 8) (a : Int) : ∃ C, sx B ((i : Int) * 8 + (k : Int)) a = some C ∧ C.length = 64 ∧ ∀ i' k', i' < 8 → k' < 8 → bv C i' k' = if i' = i ∧ k' = k then a else bv B i' k' := by
  have e : (i : Int) * 8 + (k : Int) = ((i * 8 + k : Nat) : Int) := by omega
  rw [e, sx_in (by omega) (by omega)]
  refine ⟨_, rfl, by simpa using hl, fun i' k' hi' hk' => ?_⟩
  unfold bv
  rw [show (((i * 8 + k : Nat) : Int)).toNat = i * 8 + k by omega, tm_set (by omega)]
  by_cases c : i' = i ∧ k' = k
  · rw [if_pos c, if_pos (by omega)]
  · rw [if_neg c, if_neg (by omega)]
/-- the values that the code reckons with are small -/
structure Sm (n : Nat) (B : List Int) : Prop where
  len : B.length = 64
  n8 : n ≤ 8
  sm : ∀ i k, i < n → k < n → -3600 ≤ bv B i k ∧ bv B i k ≤ 3600
theorem closed_loop4 (hB : Sm n B) {f g i : Nat} (hf : f < n) (hg : g < n) (hi : i < n) {m : Int} (hm : -100000 ≤ m ∧ m ≤ 100000) : ∀ (r k : Nat) (C : List Int) (fu : Nat), k + r = n → r < fu → C.length = 64 →
    ∃ q C', PlanBoundsclosed.loop4 (n : Int) (f : Int) (g : Int) m B (i : Int) fu (k : Int) C = some (q, C') ∧ C'.length = 64 ∧ ∀ i' k', i' < 8 → k' < 8 → bv C' i' k' = if i' = i ∧ k ≤ k' ∧ k' < n then min (bv C i k') (bv B i f + m + bv B g k') else bv C i' k'
  | 0, k, C, fu, hk, hfu, hC => by
    obtain ⟨fu, rfl⟩ : ∃ q, fu = q + 1 := ⟨fu - 1, by omega⟩
    rw [PlanBoundsclosed.loop4, decide_eq_false (by omega)]
    simp only [Bool.false_eq_true, if_false]
    exact ⟨_, C, rfl, hC, fun i' k' _ _ => by rw [if_neg (by omega)]⟩
  | r + 1, k, C, fu, hk, hfu, hC => by
    have n8 := hB.n8
    obtain ⟨fu, rfl⟩ : ∃ q, fu = q + 1 := ⟨fu - 1, by omega⟩
    have s1 := hB.sm i f hi hf
    have s2 := hB.sm g k hg (by omega)
    rw [PlanBoundsclosed.loop4, decide_eq_true (by omega)]
    simp only [if_true]
    rw [bx_in (i := (i : Int)) (by omega) (by omega), bx_in (i := (k : Int)) (by omega) (by omega), bx_in (i := (f : Int)) (by omega) (by omega), bx_in (i := (g : Int)) (by omega) (by omega)]
    simp only [Option.bind_some]
    rw [gx_bv hC (by omega) (by omega), gx_bv hB.len (i := i) (k := f) (by omega) (by omega), gx_bv hB.len (i := g) (k := k) (by omega) (by omega)]
    simp only [Option.bind_some]
    rw [w64_id (x := bv B i f + m) (by omega), w64_id (x := bv B i f + m + bv B g k) (by omega)]
    obtain ⟨C1, e1, e2, e3⟩ := sx_bv hC (i := i) (k := k) (by omega) (by omega) (mn (bv C i k) (bv B i f + m + bv B g k))
    rw [e1]
    simp only [Option.bind_some]
    rw [w64_id (x := (k : Int) + 1) (by omega), show (k : Int) + 1 = ((k + 1 : Nat) : Int) by omega]
    obtain ⟨q, C', f1, f2, f3⟩ := closed_loop4 hB hf hg hi hm r (k + 1) C1 fu (by omega) (by omega) e2
    refine ⟨q, C', f1, f2, fun i' k' hi' hk' => ?_⟩
    rw [f3 i' k' hi' hk']
    have hmn : mn (bv C i k) (bv B i f + m + bv B g k) = min (bv C i k) (bv B i f + m + bv B g k) := by unfold mn; omega
    by_cases c : i' = i ∧ k + 1 ≤ k' ∧ k' < n
    · rw [if_pos c, if_pos (by omega), e3 i k' (by omega) hk', if_neg (by omega)]
    · rw [if_neg c, e3 i' k' hi' hk', hmn]
      by_cases c2 : i' = i ∧ k' = k
      · rw [if_pos c2, if_pos (by omega), c2.2]
      · rw [if_neg c2, if_neg (by omega)]
theorem closed_loop2 (hB : Sm n B) {f g : Nat} (hf : f < n) (hg : g < n) {m : Int} (hm : -100000 ≤ m ∧ m ≤ 100000) {fv : Nat} (hv : 20 ≤ fv) : ∀ (r i : Nat) (C : List Int) (fu : Nat), i + r = n → r < fu → C.length = 64 →
    ∃ q C', PlanBoundsclosed.loop2 (n : Int) (f : Int) (g : Int) m fv B fu (i : Int) C = some (q, C') ∧ C'.length = 64 ∧ ∀ i' k', i' < 8 → k' < 8 → bv C' i' k' = if i ≤ i' ∧ i' < n ∧ k' < n then min (bv C i' k') (bv B i' f + m + bv B g k') else bv C i' k'
  | 0, i, C, fu, hi, hfu, hC => by
    obtain ⟨fu, rfl⟩ : ∃ q, fu = q + 1 := ⟨fu - 1, by omega⟩
    rw [PlanBoundsclosed.loop2, decide_eq_false (by omega)]
    simp only [Bool.false_eq_true, if_false]
    exact ⟨_, C, rfl, hC, fun i' k' _ _ => by rw [if_neg (by omega)]⟩
  | r + 1, i, C, fu, hi, hfu, hC => by
    have n8 := hB.n8
    obtain ⟨fu, rfl⟩ : ∃ q, fu = q + 1 := ⟨fu - 1, by omega⟩
    rw [PlanBoundsclosed.loop2, decide_eq_true (by omega)]
    simp only [if_true]
    obtain ⟨q1, C1, e1, e2, e3⟩ := closed_loop4 hB hf hg (i := i) (by omega) hm n 0 C fv (by omega) (by omega) hC
    have e1' : PlanBoundsclosed.loop4 (n : Int) (f : Int) (g : Int) m B (i : Int) fv 0 C = some (q1, C1) := e1
    rw [e1']
    simp only [Option.bind_some]
    rw [w64_id (x := (i : Int) + 1) (by omega), show (i : Int) + 1 = ((i + 1 : Nat) : Int) by omega]
    obtain ⟨q, C', f1, f2, f3⟩ := closed_loop2 hB hf hg hm hv r (i + 1) C1 fu (by omega) (by omega) e2
    refine ⟨q, C', f1, f2, fun i' k' hi' hk' => ?_⟩
    rw [f3 i' k' hi' hk', e3 i' k' hi' hk']
    by_cases c : i + 1 ≤ i' ∧ i' < n ∧ k' < n
    · rw [if_pos c, if_neg (by omega), if_pos (by omega)]
    · rw [if_neg c]
      by_cases c2 : i' = i ∧ 0 ≤ k' ∧ k' < n
      · rw [if_pos c2, if_pos (by omega), c2.1]
      · rw [if_neg c2, if_neg (by omega)]
theorem Dbm.small (h : Dbm n P B) (hn : n ≤ 8) (hP : P ≤ 3600) : Sm n B := ⟨h.len, hn, fun i k hi hk => by have := h.lo hi hk; have := h.hi i k hi hk; omega⟩
/-- one bound more: nothing keeps it, or these are the bounds -/
theorem closed_run (h : Dbm n P B) (hn : n ≤ 8) (hP : P ≤ 3600) {f g : Nat} (hf : f < n) (hg : g < n) {m : Int} (hm : -100000 ≤ m ∧ m ≤ 100000) {fu : Nat} (hu : 20 ≤ fu) :
    (PlanBoundsclosed fu (some B) (n : Int) (f : Int) (g : Int) m = some (none, false) ∧ ∀ t, Keeps n B t → ¬ t g - t f ≤ m) ∨ ∃ C, PlanBoundsclosed fu (some B) (n : Int) (f : Int) (g : Int) m = some (some C, true) ∧ Dbm n P C ∧ ∀ t, Keeps n C t ↔ Keeps n B t ∧ t g - t f ≤ m := by
  have hs := h.small hn hP
  have s1 := hs.sm g f hg hf
  unfold PlanBoundsclosed
  simp only [Option.bind_some]
  rw [bx_in (i := (f : Int)) (by omega) (by omega), bx_in (i := (g : Int)) (by omega) (by omega)]
  simp only [Option.bind_some]
  rw [gx_bv h.len (i := f) (k := g) (by omega) (by omega), gx_bv h.len (i := g) (k := f) (by omega) (by omega)]
  simp only [Option.bind_some]
  by_cases c : bv B f g ≤ m
  · rw [decide_eq_true c]
    right
    refine ⟨B, rfl, h, fun t => ⟨fun q => ⟨q, ?_⟩, fun q => q.1⟩⟩
    have := q f g hf hg
    omega
  · rw [decide_eq_false c]
    simp only [Bool.false_eq_true, if_false]
    rw [w64_id (x := bv B g f + m) (by omega)]
    by_cases c2 : bv B g f + m < 0
    · rw [decide_eq_true c2]
      left
      refine ⟨rfl, fun t q e => ?_⟩
      have := q g f hg hf
      omega
    · rw [decide_eq_false c2]
      simp only [Bool.false_eq_true, if_false]
      obtain ⟨q, C, e1, e2, e3⟩ := closed_loop2 hs hf hg hm (fv := fu) hu n 0 B fu (by omega) (by omega) h.len
      have e1' : PlanBoundsclosed.loop2 (n : Int) (f : Int) (g : Int) m fu B fu 0 B = some (q, C) := e1
      rw [e1']
      simp only [Option.bind_some]
      have hc : Cut n B f g m C := ⟨e2, fun i k hi hk => by rw [e3 i k (by omega) (by omega), if_pos ⟨Nat.zero_le _, hi, hk⟩]⟩
      right
      exact ⟨C, rfl, hc.dbm h hf hg (by omega), fun t => hc.in_iff h hf hg t⟩
theorem between_run (h : Dbm n P B) (hn : n ≤ 8) (hP : P ≤ 3600) {f g : Nat} (hf : f < n) (hg : g < n) {lo hi : Int} (hl : -100000 ≤ lo ∧ lo ≤ 100000) (hh : -100000 ≤ hi ∧ hi ≤ 100000) {fu : Nat} (hu : 20 ≤ fu) :
    (∃ z, PlanBoundsbetween fu (some B) (n : Int) (f : Int) (g : Int) lo hi = some (z, false) ∧ ∀ t, Keeps n B t → ¬ (lo ≤ t g - t f ∧ t g - t f ≤ hi)) ∨ ∃ C, PlanBoundsbetween fu (some B) (n : Int) (f : Int) (g : Int) lo hi = some (some C, true) ∧ Dbm n P C ∧ ∀ t, Keeps n C t ↔ Keeps n B t ∧ lo ≤ t g - t f ∧ t g - t f ≤ hi := by
  unfold PlanBoundsbetween
  rcases closed_run h hn hP hf hg hh hu with ⟨e, q⟩ | ⟨C, e, d, q⟩
  · rw [e]
    left
    exact ⟨none, rfl, fun t ht hk => q t ht hk.2⟩
  · rw [e]
    simp only [Option.bind_some, Bool.not_true, Bool.false_eq_true, if_false]
    rw [w64_id (by omega)]
    rcases closed_run d hn hP hg hf (m := 0 - lo) (by omega) hu with ⟨e2, q2⟩ | ⟨C2, e2, d2, q2⟩
    · rw [e2]
      left
      refine ⟨none, rfl, fun t ht hk => q2 t ((q t).2 ⟨ht, hk.2⟩) (by omega)⟩
    · rw [e2]
      right
      refine ⟨C2, rfl, d2, fun t => ?_⟩
      rw [q2, q]
      constructor
      · rintro ⟨⟨a, b⟩, c⟩; exact ⟨a, by omega, b⟩
      · rintro ⟨a, b, c⟩; exact ⟨⟨a, c⟩, by omega⟩
end
theorem repP (m k : Nat) (a : Int) (h : k ≤ 8) : SlicesRepeatLint (m + 60) [a] ((k : Nat) : Int) = some (List.replicate k a) := by
  have h0 : SlicesRepeatLint (m + 60) [a] 0 = some (List.replicate 0 a) := by kernel_rfl
  have h1 : SlicesRepeatLint (m + 60) [a] 1 = some (List.replicate 1 a) := by kernel_rfl
  have h2 : SlicesRepeatLint (m + 60) [a] 2 = some (List.replicate 2 a) := by kernel_rfl
  have h3 : SlicesRepeatLint (m + 60) [a] 3 = some (List.replicate 3 a) := by kernel_rfl
  have h4 : SlicesRepeatLint (m + 60) [a] 4 = some (List.replicate 4 a) := by kernel_rfl
  have h5 : SlicesRepeatLint (m + 60) [a] 5 = some (List.replicate 5 a) := by kernel_rfl
  have h6 : SlicesRepeatLint (m + 60) [a] 6 = some (List.replicate 6 a) := by kernel_rfl
  have h7 : SlicesRepeatLint (m + 60) [a] 7 = some (List.replicate 7 a) := by kernel_rfl
  have h8 : SlicesRepeatLint (m + 60) [a] 8 = some (List.replicate 8 a) := by kernel_rfl
  have : k = 0 ∨ k = 1 ∨ k = 2 ∨ k = 3 ∨ k = 4 ∨ k = 5 ∨ k = 6 ∨ k = 7 ∨ k = 8 := by omega
  rcases this with rfl | rfl | rfl | rfl | rfl | rfl | rfl | rfl | rfl
  · exact h0
  · exact h1
  · exact h2
  · exact h3
  · exact h4
  · exact h5
  · exact h6
  · exact h7
  · exact h8
theorem repB (m k : Nat) (h : k ≤ 40) : SlicesRepeatLbool (m + 60) [true] ((k : Nat) : Int) = some (List.replicate k true) := by
  have h0 : SlicesRepeatLbool (m + 60) [true] 0 = some (List.replicate 0 true) := by kernel_rfl
  have h1 : SlicesRepeatLbool (m + 60) [true] 1 = some (List.replicate 1 true) := by kernel_rfl
  have h2 : SlicesRepeatLbool (m + 60) [true] 2 = some (List.replicate 2 true) := by kernel_rfl
  have h3 : SlicesRepeatLbool (m + 60) [true] 3 = some (List.replicate 3 true) := by kernel_rfl
  have h4 : SlicesRepeatLbool (m + 60) [true] 4 = some (List.replicate 4 true) := by kernel_rfl
  have h5 : SlicesRepeatLbool (m + 60) [true] 5 = some (List.replicate 5 true) := by kernel_rfl
  have h6 : SlicesRepeatLbool (m + 60) [true] 6 = some (List.replicate 6 true) := by kernel_rfl
  have h7 : SlicesRepeatLbool (m + 60) [true] 7 = some (List.replicate 7 true) := by kernel_rfl
  have h8 : SlicesRepeatLbool (m + 60) [true] 8 = some (List.replicate 8 true) := by kernel_rfl
  have h9 : SlicesRepeatLbool (m + 60) [true] 9 = some (List.replicate 9 true) := by kernel_rfl
  have h10 : SlicesRepeatLbool (m + 60) [true] 10 = some (List.replicate 10 true) := by kernel_rfl
  have h11 : SlicesRepeatLbool (m + 60) [true] 11 = some (List.replicate 11 true) := by kernel_rfl
  have h12 : SlicesRepeatLbool (m + 60) [true] 12 = some (List.replicate 12 true) := by kernel_rfl
  have h13 : SlicesRepeatLbool (m + 60) [true] 13 = some (List.replicate 13 true) := by kernel_rfl
  have h14 : SlicesRepeatLbool (m + 60) [true] 14 = some (List.replicate 14 true) := by kernel_rfl
  have h15 : SlicesRepeatLbool (m + 60) [true] 15 = some (List.replicate 15 true) := by kernel_rfl
  have h16 : SlicesRepeatLbool (m + 60) [true] 16 = some (List.replicate 16 true) := by kernel_rfl
  have h17 : SlicesRepeatLbool (m + 60) [true] 17 = some (List.replicate 17 true) := by kernel_rfl
  have h18 : SlicesRepeatLbool (m + 60) [true] 18 = some (List.replicate 18 true) := by kernel_rfl
  have h19 : SlicesRepeatLbool (m + 60) [true] 19 = some (List.replicate 19 true) := by kernel_rfl
  have h20 : SlicesRepeatLbool (m + 60) [true] 20 = some (List.replicate 20 true) := by kernel_rfl
  have h21 : SlicesRepeatLbool (m + 60) [true] 21 = some (List.replicate 21 true) := by kernel_rfl
  have h22 : SlicesRepeatLbool (m + 60) [true] 22 = some (List.replicate 22 true) := by kernel_rfl
  have h23 : SlicesRepeatLbool (m + 60) [true] 23 = some (List.replicate 23 true) := by kernel_rfl
  have h24 : SlicesRepeatLbool (m + 60) [true] 24 = some (List.replicate 24 true) := by kernel_rfl
  have h25 : SlicesRepeatLbool (m + 60) [true] 25 = some (List.replicate 25 true) := by kernel_rfl
  have h26 : SlicesRepeatLbool (m + 60) [true] 26 = some (List.replicate 26 true) := by kernel_rfl
  have h27 : SlicesRepeatLbool (m + 60) [true] 27 = some (List.replicate 27 true) := by kernel_rfl
  have h28 : SlicesRepeatLbool (m + 60) [true] 28 = some (List.replicate 28 true) := by kernel_rfl
  have h29 : SlicesRepeatLbool (m + 60) [true] 29 = some (List.replicate 29 true) := by kernel_rfl
  have h30 : SlicesRepeatLbool (m + 60) [true] 30 = some (List.replicate 30 true) := by kernel_rfl
  have h31 : SlicesRepeatLbool (m + 60) [true] 31 = some (List.replicate 31 true) := by kernel_rfl
  have h32 : SlicesRepeatLbool (m + 60) [true] 32 = some (List.replicate 32 true) := by kernel_rfl
  have h33 : SlicesRepeatLbool (m + 60) [true] 33 = some (List.replicate 33 true) := by kernel_rfl
  have h34 : SlicesRepeatLbool (m + 60) [true] 34 = some (List.replicate 34 true) := by kernel_rfl
  have h35 : SlicesRepeatLbool (m + 60) [true] 35 = some (List.replicate 35 true) := by kernel_rfl
  have h36 : SlicesRepeatLbool (m + 60) [true] 36 = some (List.replicate 36 true) := by kernel_rfl
  have h37 : SlicesRepeatLbool (m + 60) [true] 37 = some (List.replicate 37 true) := by kernel_rfl
  have h38 : SlicesRepeatLbool (m + 60) [true] 38 = some (List.replicate 38 true) := by kernel_rfl
  have h39 : SlicesRepeatLbool (m + 60) [true] 39 = some (List.replicate 39 true) := by kernel_rfl
  have h40 : SlicesRepeatLbool (m + 60) [true] 40 = some (List.replicate 40 true) := by kernel_rfl
  have : k = 0 ∨ k = 1 ∨ k = 2 ∨ k = 3 ∨ k = 4 ∨ k = 5 ∨ k = 6 ∨ k = 7 ∨ k = 8 ∨ k = 9 ∨ k = 10 ∨ k = 11 ∨ k = 12 ∨ k = 13 ∨ k = 14 ∨ k = 15 ∨ k = 16 ∨ k = 17 ∨ k = 18 ∨ k = 19 ∨ k = 20 ∨ k = 21 ∨ k = 22 ∨ k = 23 ∨ k = 24 ∨ k = 25 ∨ k = 26 ∨ k = 27 ∨ k = 28 ∨ k = 29 ∨ k = 30 ∨ k = 31 ∨ k = 32 ∨ k = 33 ∨ k = 34 ∨ k = 35 ∨ k = 36 ∨ k = 37 ∨ k = 38 ∨ k = 39 ∨ k = 40 := by omega
  rcases this with rfl | rfl | rfl | rfl | rfl | rfl | rfl | rfl | rfl | rfl | rfl | rfl | rfl | rfl | rfl | rfl | rfl | rfl | rfl | rfl | rfl | rfl | rfl | rfl | rfl | rfl | rfl | rfl | rfl | rfl | rfl | rfl | rfl | rfl | rfl | rfl | rfl | rfl | rfl | rfl | rfl
  · exact h0
  · exact h1
  · exact h2
  · exact h3
  · exact h4
  · exact h5
  · exact h6
  · exact h7
  · exact h8
  · exact h9
  · exact h10
  · exact h11
  · exact h12
  · exact h13
  · exact h14
  · exact h15
  · exact h16
  · exact h17
  · exact h18
  · exact h19
  · exact h20
  · exact h21
  · exact h22
  · exact h23
  · exact h24
  · exact h25
  · exact h26
  · exact h27
  · exact h28
  · exact h29
  · exact h30
  · exact h31
  · exact h32
  · exact h33
  · exact h34
  · exact h35
  · exact h36
  · exact h37
  · exact h38
  · exact h39
  · exact h40
/-- what a search makes of the best so far -/
structure Got (F : (Nat → Int) → Prop) (e : Nat) (b b' : Int) : Prop where
  le : b' ≤ b
  att : b' = b ∨ ∃ t, F t ∧ t e - t 0 = b'
  all : ∀ t, F t → b' ≤ t e - t 0
/-! the reference's search -/
def Rk (x : PlanPeriodic) (r : PlanRule) (t : Nat → Int) : Prop := ∃ k : Int, r.Min - k * x.Period ≤ t (nd r.To) - t (nd r.From) ∧ t (nd r.To) - t (nd r.From) ≤ r.Max - k * x.Period
/-- n events -/
structure PIn (x : PlanPeriodic) (n : Nat) : Prop where
  p0 : 2 ≤ x.Period
  p1 : x.Period ≤ 3600
  e0 : 1 ≤ x.Events
  e1 : x.Events ≤ 8
  n : x.Events = (n : Int)
theorem PIn.n1 {x : PlanPeriodic} {n : Nat} (h : PIn x n) : 1 ≤ n ∧ n ≤ 8 := by have := h.e0; have := h.e1; have := h.n; omega
theorem PIn.ft {x : PlanPeriodic} {n : Nat} (h : PIn x n) {r : PlanRule} (k : RuleOk x r) : nd r.From < n ∧ nd r.To < n ∧ r.From = ((nd r.From : Nat) : Int) ∧ r.To = ((nd r.To : Nat) : Int) := by
  have := k.from0; have := k.from1; have := k.to0; have := k.to1; have := h.n
  unfold nd; omega
theorem PerOk.pin {x : PlanPeriodic} (h : PerOk x) : PIn x (nd x.Events) := ⟨h.p0, h.p1, h.e0, h.e1, by have := h.e0; unfold nd; omega⟩
theorem drop_cons2 {α : Type} {l rs : List α} {r : α} {k : Nat} (h : l.drop k = r :: rs) : ∃ hk : k < l.length, l[k] = r ∧ l.drop (k + 1) = rs := by
  have hk : k < l.length := by
    rcases Nat.lt_or_ge k l.length with c | c
    · exact c
    · rw [List.drop_eq_nil_of_le c] at h; cases h
  rw [List.drop_eq_getElem_cons hk] at h
  injection h with h1 h2
  exact ⟨hk, h1, h2⟩
/-! the search for least times -/
section
variable {x : PlanPeriodic}
def Full (x : PlanPeriodic) (n : Nat) (B : List Int) (t : Nat → Int) : Prop := Keeps n B t ∧ ∀ r ∈ x.Rules, Rk x r t
/-- n events -/
structure PSn (x : PlanPeriodic) (n : Nat) : Prop where
  ok : PerOk x
  n : x.Events = (n : Int)
theorem PSn.n1 {n : Nat} (h : PSn x n) : 1 ≤ n ∧ n ≤ 8 := by have := h.ok.e0; have := h.ok.e1; have := h.n; omega
theorem PSn.pin {n : Nat} (h : PSn x n) : PIn x n := ⟨h.ok.p0, h.ok.p1, h.ok.e0, h.ok.e1, h.n⟩
theorem PSn.ft {n : Nat} (h : PSn x n) {r : PlanRule} (hr : r ∈ x.Rules) : nd r.From < n ∧ nd r.To < n ∧ r.From = ((nd r.From : Nat) : Int) ∧ r.To = ((nd r.To : Nat) : Int) := h.pin.ft (h.ok.rules r hr)
theorem floor_run {a p : Int} (ha : -100000 ≤ a ∧ a ≤ 100000) (hp : 2 ≤ p) (hp1 : p ≤ 3600) : Planfloor a p = some (a / p) ∧ -100000 ≤ a / p ∧ a / p ≤ 100000 := by
  have e1 := Int.ediv_mul_le a (b := p) (by omega)
  have e2 := Int.lt_ediv_add_one_mul_self a (show 0 < p by omega)
  have hb : -100000 ≤ a / p ∧ a / p ≤ 100000 := by
    constructor
    · rcases Int.lt_or_le (a / p) (-100000) with c | c
      · have : (a / p + 1) * p ≤ (-100000) * p := Int.mul_le_mul_of_nonneg_right (by omega) (by omega)
        omega
      · exact c
    · rcases Int.lt_or_le 100000 (a / p) with c | c
      · have : 100001 * p ≤ a / p * p := Int.mul_le_mul_of_nonneg_right (by omega) (by omega)
        omega
      · exact c
  refine ⟨?_, hb⟩
  have ht := Int.tmod_eq_emod (a := a) (b := p)
  have hd := Int.tdiv_eq_ediv (a := a) (b := p)
  have m1 := Int.emod_nonneg a (b := p) (by omega)
  have m2 := Int.emod_lt_of_pos a (b := p) (by omega)
  have hs : p.sign = 1 := Int.sign_eq_one_of_pos (by omega)
  unfold Planfloor dv rm
  rw [if_neg (by omega), if_neg (by omega)]
  simp only [Option.bind_some, bnd]
  rw [show IntKind.wrap .i64 (a.tdiv p) = w64 (a.tdiv p) from rfl]
  have hna : ((p.natAbs : Nat) : Int) = p := by omega
  generalize a / p = v at *
  generalize a % p = w at *
  by_cases c : 0 ≤ a ∨ p ∣ a
  · rw [if_pos c] at ht hd
    have ht' : a.tmod p = w := by omega
    have hd' : a.tdiv p = v := by omega
    rw [ht', hd', decide_eq_false (by omega), w64_id (x := v) (by omega)]
    simp
  · rw [if_neg c] at ht hd
    rw [hna] at ht
    have hd' : a.tdiv p = v + 1 := by omega
    rw [ht, hd', decide_eq_true (by omega), w64_id (x := v + 1) (by omega)]
    simp only [if_true]
    rw [w64_id (by omega)]
    congr 1; omega
/-- choices that suffice -/
structure Ch (x : PlanPeriodic) (n : Nat) (B : List Int) (r : PlanRule) (ks : List Int) : Prop where
  all : ∀ k : Int, (∃ t, Keeps n B t ∧ r.Min - k * x.Period ≤ t (nd r.To) - t (nd r.From) ∧ t (nd r.To) - t (nd r.From) ≤ r.Max - k * x.Period) → k ∈ ks
  lo : ∀ k ∈ ks, -20000 ≤ k * x.Period ∧ k * x.Period ≤ 20000
theorem choices_loop {n : Nat} (h : PSn x n) {B : List Int} (hB : Dbm n x.Period B) {r : PlanRule} (hr : r ∈ x.Rules) : ∀ (m : Nat) (k : Int) (acc : List Int) (fu : Nat), -2000 ≤ k → k ≤ 6000 → 6001 - k ≤ m → m < fu → acc.length + m ≤ 1000000 →
    ∃ l q, PlanSearchchoices_v1.loop1 r x.Period B fu acc k = some (acc ++ l, q) ∧ (∀ j, k ≤ j → r.Max - j * x.Period ≥ -bv B (nd r.To) (nd r.From) → j ∈ l) ∧ ∀ j ∈ l, k ≤ j ∧ r.Max - j * x.Period ≥ -bv B (nd r.To) (nd r.From) := by
  obtain ⟨hf, ht, ef, et⟩ := h.ft hr
  have rk := h.ok.rules r hr
  have p0 := h.ok.p0; have p1 := h.ok.p1; have min0 := rk.min0; have min1 := rk.min1; have max0 := rk.max0; have max1 := rk.max1
  obtain ⟨n0, n8⟩ := h.n1
  have b1 := hB.lo ht hf
  have b2 := hB.hi _ _ ht hf
  have kb : ∀ k : Int, r.Max - k * x.Period ≥ -bv B (nd r.To) (nd r.From) → k ≤ 5500 := by
    intro k hk
    rcases Int.lt_or_le 5500 k with c | c
    · have : 5501 * 2 ≤ k * x.Period := Int.mul_le_mul (by omega) p0 (by omega) (by omega)
      omega
    · exact c
  intro m
  induction m with
  | zero => intro k acc fu _ hk hm; omega
  | succ m ih =>
    intro k acc fu hk0 hk1 hm hfu ha
    obtain ⟨fu, rfl⟩ : ∃ q, fu = q + 1 := ⟨fu - 1, by omega⟩
    have w1 : -2000 * 3600 ≤ k * x.Period ∧ k * x.Period ≤ 6000 * 3600 := by
      constructor
      · have a1 : -2000 * x.Period ≤ k * x.Period := Int.mul_le_mul_of_nonneg_right hk0 (by omega)
        omega
      · have a1 : k * x.Period ≤ 6000 * x.Period := Int.mul_le_mul_of_nonneg_right hk1 (by omega)
        omega
    rw [PlanSearchchoices_v1.loop1]
    have eT : bx 8 r.To = some () := bx_in (by omega) (by omega)
    have eF : bx 8 r.From = some () := bx_in (by omega) (by omega)
    have eG : gx B (r.To * 8 + r.From) = some (bv B (nd r.To) (nd r.From)) := by rw [et, ef]; exact gx_bv hB.len (by omega) (by omega)
    rw [eT, eF]
    simp only [Option.bind_some]
    rw [eG]
    simp only [Option.bind_some]
    rw [w64_id (x := k * x.Period) (by omega), w64_id (x := r.Max - k * x.Period) (by omega), w64_id (x := 0 - bv B (nd r.To) (nd r.From)) (by omega)]
    by_cases c : r.Max - k * x.Period ≥ -bv B (nd r.To) (nd r.From)
    · rw [decide_eq_true (by omega)]
      simp only [if_true]
      have hk5 := kb k c
      rw [apd_lt (by simp; omega)]
      simp only [Option.bind_some]
      rw [w64_id (x := k + 1) (by omega)]
      obtain ⟨l, q, e1, e2, e3⟩ := ih (k + 1) (acc ++ [k]) fu (by omega) (by omega) (by omega) (by omega) (by simp; omega)
      refine ⟨k :: l, q, by rw [e1]; simp, fun j hj hc => ?_, fun j hj => ?_⟩
      · rcases Int.lt_or_eq_of_le hj with g | g
        · exact List.mem_cons_of_mem _ (e2 j (by omega) hc)
        · rw [g]; simp
      · rcases List.mem_cons.1 hj with g | g
        · rw [g]; exact ⟨Int.le_refl _, c⟩
        · obtain ⟨g1, g2⟩ := e3 j g
          exact ⟨by omega, g2⟩
    · rw [decide_eq_false (by omega)]
      simp only [Bool.false_eq_true, if_false]
      refine ⟨[], k, by rw [List.append_nil], fun j hj hc => ?_, fun j hj => by cases hj⟩
      exfalso
      have : k * x.Period ≤ j * x.Period := Int.mul_le_mul_of_nonneg_right hj (by omega)
      omega
theorem choices_run {n : Nat} (h : PSn x n) {B : List Int} (hB : Dbm n x.Period B) {r : PlanRule} (hr : r ∈ x.Rules) {fu : Nat} (hfu : 9000 ≤ fu) (a1 : Int) (a2 : List PlanRule) (a3 : List Int) (a4 : List Bool) (a5 a6 : Int) : ∃ ks, PlanSearchchoices_v1 fu (some B) r x.Period a1 a2 a3 a4 a5 a6 = some ks ∧ Ch x n B r ks := by
  obtain ⟨hf, ht, ef, et⟩ := h.ft hr
  have rk := h.ok.rules r hr
  have p0 := h.ok.p0; have p1 := h.ok.p1; have min0 := rk.min0; have min1 := rk.min1; have max0 := rk.max0; have max1 := rk.max1
  obtain ⟨n0, n8⟩ := h.n1
  have b1 := hB.lo hf ht
  have b2 := hB.hi _ _ hf ht
  have b3 := hB.lo ht hf
  have b4 := hB.hi _ _ ht hf
  unfold PlanSearchchoices_v1
  have eT : bx 8 r.To = some () := bx_in (by omega) (by omega)
  have eF : bx 8 r.From = some () := bx_in (by omega) (by omega)
  have eG : gx B (r.From * 8 + r.To) = some (bv B (nd r.From) (nd r.To)) := by rw [et, ef]; exact gx_bv hB.len (by omega) (by omega)
  simp only [Option.bind_some]
  rw [eT, eF]
  simp only [Option.bind_some]
  rw [eG]
  simp only [Option.bind_some]
  rw [w64_id (x := bv B (nd r.From) (nd r.To) - r.Min) (by omega)]
  generalize ha : bv B (nd r.From) (nd r.To) - r.Min = a
  obtain ⟨f1, f2, f3⟩ := floor_run (a := a) (p := x.Period) (by omega) p0 p1
  have d1 := Int.ediv_mul_le a (b := x.Period) (by omega)
  have d2 := Int.lt_ediv_add_one_mul_self a (show 0 < x.Period by omega)
  rw [f1]
  simp only [Option.bind_some]
  generalize a / x.Period = v at *
  rw [Int.add_mul, Int.one_mul] at d2
  have v1 : -3700 ≤ v := by
    rcases Int.lt_or_le v (-3700) with c | c
    · have h1 : (v + 1) * x.Period ≤ -3700 * x.Period := Int.mul_le_mul_of_nonneg_right (by omega) (by omega)
      rw [Int.add_mul, Int.one_mul] at h1
      omega
    · exact c
  have v2 : v ≤ 2000 := by
    rcases Int.lt_or_le 2000 v with c | c
    · have : 2001 * 2 ≤ v * x.Period := Int.mul_le_mul (by omega) p0 (by omega) (by omega)
      omega
    · exact c
  rw [w64_id (x := 0 - v) (by omega)]
  obtain ⟨l, q, e1, e2, e3⟩ := choices_loop h hB hr 8500 (0 - v) [] fu (by omega) (by omega) (by omega) (by omega) (by simp)
  rw [e1]
  refine ⟨[] ++ l, rfl, ⟨fun k ⟨t, hk, k1, k2⟩ => ?_, fun k hk => ?_⟩⟩
  · rw [List.nil_append]
    refine e2 k ?_ ?_
    · have := hk _ _ hf ht
      rcases Int.lt_or_le k (0 - v) with c | c
      · have : (v + 1) * x.Period ≤ -k * x.Period := Int.mul_le_mul_of_nonneg_right (by omega) (by omega)
        rw [Int.add_mul, Int.one_mul, Int.neg_mul] at this
        omega
      · exact c
    · have := hk _ _ ht hf
      omega
  · rw [List.nil_append] at hk
    obtain ⟨g1, g2⟩ := e3 k hk
    have : -v * x.Period ≤ k * x.Period := Int.mul_le_mul_of_nonneg_right (by omega) (by omega)
    rw [Int.neg_mul] at this
    omega
def ut : List Bool → Nat
  | [] => 0
  | b :: l => (if b then 1 else 0) + ut l
theorem ut_set : ∀ (l : List Bool) (k : Nat), k < l.length → bt l k = true → ut (l.set k false) + 1 = ut l
  | [], k, h, _ => absurd h (Nat.not_lt_zero _)
  | b :: l, 0, _, h => by simp [bt] at h; subst h; simp [ut]; omega
  | b :: l, k + 1, h, q => by
    have := ut_set l k (by simpa using h) (by simpa [bt] using q)
    simp only [List.set_cons_succ, ut]; omega
theorem ut_le : ∀ l : List Bool, ut l ≤ l.length
  | [] => Nat.le_refl _
  | b :: l => by have := ut_le l; simp only [ut, List.length_cons]; split <;> omega
theorem set_true {r : List Bool} {v : Nat} (h : bt r v = true) : (r.set v false).set v true = r := by
  refine List.ext_getElem? fun i => ?_
  by_cases e : i = v
  · subst e
    rcases Nat.lt_or_ge i r.length with h' | h'
    · rw [List.getElem?_set_self (by simpa using h'), List.getElem?_eq_getElem h']; rw [bt_get h'] at h; rw [h]
    · rw [List.getElem?_eq_none (by simpa using h'), List.getElem?_eq_none h']
  · rw [List.getElem?_set_ne (fun q => e q.symm), List.getElem?_set_ne (fun q => e q.symm)]
/-- rules that are closed are kept -/
def Closed (x : PlanPeriodic) (n : Nat) (B : List Int) (op : List Bool) : Prop := ∀ i, ∀ hi : i < x.Rules.length, bt op i = false → ∀ t, Keeps n B t → Rk x x.Rules[i] t
/-- the choice of a rule -/
theorem pick_loop {n : Nat} (h : PSn x n) {B : List Int} (hB : Dbm n x.Period B) (tk : List Int) (op : List Bool) (hop : op.length = x.Rules.length) (e b : Int) {fu : Nat} (hfu : 9000 ≤ fu) : ∀ (rs : List PlanRule) (k : Nat) (q : Int) (few : List Int), x.Rules.drop k = rs →
    ((q = -1 ∧ ∀ j, j < k → bt op j = false) ∨ ∃ i : Nat, q = (i : Int) ∧ i < x.Rules.length ∧ bt op i = true ∧ ∃ hi : i < x.Rules.length, Ch x n B x.Rules[i] few) →
    (PlanSearchrun_v1.loop1 (some B) x.Period x.Events x.Rules tk op e fu rs k q few b = some (.ret (tk, op, b)) ∧ ∀ t, ¬ Full x n B t) ∨
    ∃ q' few', PlanSearchrun_v1.loop1 (some B) x.Period x.Events x.Rules tk op e fu rs k q few b = some (.next (q', few', b)) ∧
      ((q' = -1 ∧ ∀ j, j < x.Rules.length → bt op j = false) ∨ ∃ i : Nat, q' = (i : Int) ∧ i < x.Rules.length ∧ bt op i = true ∧ ∃ hi : i < x.Rules.length, Ch x n B x.Rules[i] few')
  | [], k, q, few, hd, hq => by
    right
    refine ⟨q, few, rfl, ?_⟩
    rcases hq with ⟨h1, h2⟩ | hq
    · exact .inl ⟨h1, fun j hj => h2 j (by have := List.drop_eq_nil_iff.1 hd; omega)⟩
    · exact .inr hq
  | r :: rs, k, q, few, hd, hq => by
    have hn := h.ok.n
    have hk : k < x.Rules.length := by
      rcases Nat.lt_or_ge k x.Rules.length with c | c
      · exact c
      · rw [List.drop_eq_nil_of_le c] at hd; cases hd
    have hd2 := hd
    rw [List.drop_eq_getElem_cons hk] at hd2
    injection hd2 with hd3 hd4
    have hr : r ∈ x.Rules := by rw [← hd3]; exact List.getElem_mem hk
    rw [PlanSearchrun_v1.loop1, gx_bt (by omega) (by omega)]
    simp only [Option.bind_some]
    rw [show nd ((k : Nat) : Int) = k by simp [nd]]
    by_cases c : bt op k = true
    · rw [c]
      simp only [Bool.not_true, Bool.false_eq_true, if_false]
      obtain ⟨ks, e1, e2⟩ := choices_run h hB hr hfu x.Events x.Rules tk op e b
      rw [e1]
      simp only [Option.bind_some, bnd]
      by_cases c2 : ks = []
      · left
        subst c2
        constructor
        · by_cases g : (if decide (q < 0) = true then true else decide ((([] : List Int).length : Int) < ((few.length : Nat) : Int))) = true
          · rw [if_pos g]; rfl
          · rw [if_neg g]; rfl
        · intro t ht
          obtain ⟨kk, h1, h2⟩ := ht.2 r hr
          have := e2.all kk ⟨t, ht.1, h1, h2⟩
          cases this
      · have hl : (((ks.length : Nat) : Int) == 0) = false := by
          have : ks.length ≠ 0 := fun q => c2 (List.length_eq_zero_iff.1 q)
          exact beq_eq_false_iff_ne.2 (by omega)
        have hch : ∃ hi : k < x.Rules.length, Ch x n B x.Rules[k] ks := ⟨hk, by rw [hd3]; exact e2⟩
        by_cases c3 : (if decide (q < 0) = true then true else decide (((ks.length : Nat) : Int) < ((few.length : Nat) : Int))) = true
        · rw [if_pos c3]
          simp only [hl, Bool.false_eq_true, if_false]
          exact pick_loop h hB tk op hop e b hfu rs (k + 1) _ _ hd4 (.inr ⟨k, rfl, hk, c, hch⟩)
        · rw [if_neg c3]
          simp only [hl, Bool.false_eq_true, if_false]
          refine pick_loop h hB tk op hop e b hfu rs (k + 1) _ _ hd4 ?_
          rcases hq with ⟨h1, _⟩ | hq
          · rw [h1] at c3; simp at c3
          · exact .inr hq
    · have c' : bt op k = false := by simpa using c
      rw [c']
      simp only [Bool.not_false, if_true]
      refine pick_loop h hB tk op hop e b hfu rs (k + 1) _ _ hd4 ?_
      rcases hq with ⟨h1, h2⟩ | hq
      · refine .inl ⟨h1, fun j hj => ?_⟩
        rcases Nat.eq_or_lt_of_le (Nat.le_of_lt_succ hj) with g | g
        · rw [g]; exact c'
        · exact h2 j g
      · exact .inr hq
theorem run_ok {n : Nat} (h : PSn x n) {e : Nat} (he : e < n) : ∀ (u fu : Nat) (B tk : List Int) (op : List Bool) (b : Int), ut op ≤ u → u + 9000 < fu → Dbm n x.Period B → op.length = x.Rules.length → tk.length = x.Rules.length → Closed x n B op →
    ∃ tk' b', PlanSearchrun_v1 fu (some B) x.Period x.Events x.Rules tk op (e : Int) b = some (tk', op, b') ∧ tk'.length = x.Rules.length ∧ Got (Full x n B) e b b' := by
  obtain ⟨n0, n8⟩ := h.n1
  have p0 := h.ok.p0; have p1 := h.ok.p1; have hn40 := h.ok.n
  -- one search, if the searches below are right
  have step : ∀ (fu : Nat) (B tk : List Int) (op : List Bool) (b : Int), 9000 ≤ fu → Dbm n x.Period B → op.length = x.Rules.length → tk.length = x.Rules.length → Closed x n B op →
      (∀ (C tk : List Int) (op' : List Bool) (b : Int), ut op' < ut op → Dbm n x.Period C → op'.length = x.Rules.length → tk.length = x.Rules.length → Closed x n C op' →
        ∃ tk' b', PlanSearchrun_v1 fu (some C) x.Period x.Events x.Rules tk op' (e : Int) b = some (tk', op', b') ∧ tk'.length = x.Rules.length ∧ Got (Full x n C) e b b') →
      ∃ tk' b', PlanSearchrun_v1 (fu + 1) (some B) x.Period x.Events x.Rules tk op (e : Int) b = some (tk', op, b') ∧ tk'.length = x.Rules.length ∧ Got (Full x n B) e b b' := by
    intro fu B tk op b hfu hB hop htk hcl below
    have hlo := hB.lo he n0
    have hhi := hB.hi _ _ he n0
    have least : ∀ t, Full x n B t → -bv B e 0 ≤ t e - t 0 := fun t ht => by have := ht.1 e 0 he n0; omega
    have eE : bx 8 (e : Int) = some () := bx_in (by omega) (by omega)
    have e0 : bx 8 0 = some () := bx_in (by omega) (by omega)
    have eG : gx B ((e : Int) * 8 + 0) = some (bv B e 0) := gx_bv (k := 0) hB.len (by omega) (by omega)
    have ea : Plansolve_1_v1 (some B) (e : Int) b = some (decide (-bv B e 0 ≥ b)) := by
      unfold Plansolve_1_v1
      simp only [Option.bind_some]
      rw [eE, e0]
      simp only [Option.bind_some]
      rw [eG]
      simp only [Option.bind_some]
      rw [w64_id (by omega), Int.zero_sub]
    have eb : ∀ b, Plansolve_2_v1 (some B) tk (e : Int) b = some (-bv B e 0) := by
      intro b
      unfold Plansolve_2_v1
      simp only [Option.bind_some]
      rw [eE, e0]
      simp only [Option.bind_some]
      rw [eG]
      simp only [Option.bind_some]
      rw [w64_id (by omega), Int.zero_sub]
    rw [PlanSearchrun_v1, ea]
    simp only [Option.bind_some]
    by_cases c : -bv B e 0 ≥ b
    · rw [decide_eq_true c]
      exact ⟨tk, b, rfl, htk, ⟨Int.le_refl _, .inl rfl, fun t ht => by have := least t ht; omega⟩⟩
    · rw [decide_eq_false c]
      simp only [Bool.false_eq_true, if_false]
      rcases pick_loop h hB tk op hop (e : Int) b hfu x.Rules 0 (-1) [] rfl (.inl ⟨rfl, fun j hj => absurd hj (Nat.not_lt_zero _)⟩) with ⟨e1, e2⟩ | ⟨q, few, e1, e2⟩
      · rw [e1]
        exact ⟨tk, b, rfl, htk, ⟨Int.le_refl _, .inl rfl, fun t ht => absurd ht (e2 t)⟩⟩
      · rw [e1]
        simp only [Option.bind_some]
        rcases e2 with ⟨hq, hcl2⟩ | ⟨i, hq, hi, hoi, _, hch⟩
        · rw [hq, decide_eq_true (by omega)]
          simp only [if_true]
          rw [eb]
          refine ⟨tk, _, rfl, htk, ⟨by omega, .inr ⟨fun i => -bv B i 0, ⟨hB.least n0, fun r hr => ?_⟩, ?_⟩, least⟩⟩
          · obtain ⟨i, hi, e3⟩ := List.getElem_of_mem hr
            rw [← e3]
            exact hcl i hi (hcl2 i hi) _ (hB.least n0)
          · show -bv B e 0 - -bv B 0 0 = _
            rw [hB.diag 0 n0]; omega
        · rw [hq, decide_eq_false (by omega)]
          simp only [Bool.false_eq_true, if_false]
          rw [gx_at hi]
          simp only [Option.bind_some]
          rw [ix_in (by omega) (by omega), sx_in (by omega) (by omega)]
          simp only [Option.bind_some]
          rw [show (((i : Nat) : Int)).toNat = i by omega]
          have hr : x.Rules[i] ∈ x.Rules := List.getElem_mem hi
          generalize hrr : x.Rules[i] = r at *
          obtain ⟨hf, ht, ef, et⟩ := h.ft hr
          have rk := h.ok.rules r hr
          have min0 := rk.min0; have min1 := rk.min1; have max0 := rk.max0; have max1 := rk.max1
          have hut := ut_set op i (by omega) hoi
          -- all choices, one after the other
          have loop : ∀ (ks : List Int) (tk : List Int) (b : Int), tk.length = x.Rules.length → (∀ k ∈ ks, -20000 ≤ k * x.Period ∧ k * x.Period ≤ 20000) →
              ∃ tk' b', PlanSearchrun_v1.loop2 (some B) x.Period x.Events x.Rules (e : Int) fu (PlanSearchrun_v1 fu) (i : Int) r ks tk (op.set i false) b = some (tk', op.set i false, b') ∧ tk'.length = x.Rules.length ∧
                b' ≤ b ∧ (b' = b ∨ ∃ t, Full x n B t ∧ t e - t 0 = b') ∧ ∀ t, Full x n B t → (∃ k ∈ ks, r.Min - k * x.Period ≤ t (nd r.To) - t (nd r.From) ∧ t (nd r.To) - t (nd r.From) ≤ r.Max - k * x.Period) → b' ≤ t e - t 0 := by
            intro ks
            induction ks with
            | nil => intro tk b htk _; exact ⟨tk, b, rfl, htk, Int.le_refl _, .inl rfl, fun t _ ⟨k, hk, _⟩ => by cases hk⟩
            | cons k ks ihk =>
              intro tk b htk hks
              have hkb := hks k (by simp)
              rw [PlanSearchrun_v1.loop2, w64_id (x := k * x.Period) (by omega), w64_id (x := r.Min - k * x.Period) (by omega), w64_id (x := r.Max - k * x.Period) (by omega), ef, et, h.n]
              have nx : nd ((nd r.From : Nat) : Int) = nd r.From ∧ nd ((nd r.To : Nat) : Int) = nd r.To := by unfold nd; omega
              rcases between_run hB n8 p1 hf ht (lo := r.Min - k * x.Period) (hi := r.Max - k * x.Period) (by omega) (by omega) (fu := fu) (by omega) with ⟨z, e3, e4⟩ | ⟨C, e3, hC, e4⟩
              · rw [e3]
                simp only [Option.bind_some, Bool.false_eq_true, if_false]
                obtain ⟨tk', b', g1, g2, g3, g4, g5⟩ := ihk tk b htk (fun k hk => hks k (by simp [hk]))
                rw [h.n] at g1
                refine ⟨tk', b', g1, g2, g3, g4, fun t ht ⟨k2, hk2, hk3⟩ => ?_⟩
                rcases List.mem_cons.1 hk2 with g | g
                · rw [g] at hk3; exact absurd hk3 (e4 t ht.1)
                · exact g5 t ht ⟨k2, g, hk3⟩
              · rw [e3]
                simp only [Option.bind_some, if_true]
                rw [ix_in (by omega) (by omega), sx_in (by omega) (by omega)]
                simp only [Option.bind_some]
                have hfc : ∀ t, Full x n C t → Full x n B t := fun t ht => ⟨((e4 t).1 ht.1).1, ht.2⟩
                obtain ⟨tk1, b1, r1, r2, r3⟩ := below C (tk.set ((i : Int)).toNat k) (op.set i false) b (by omega) hC (by simpa using hop) (by simpa using htk) (by
                  intro j hj hjo t htC
                  by_cases g : j = i
                  · subst g
                    rw [hrr]
                    exact ⟨k, ((e4 t).1 htC).2.1, ((e4 t).1 htC).2.2⟩
                  · rw [bt_set (by omega), if_neg g] at hjo
                    exact hcl j hj hjo t ((e4 t).1 htC).1)
                rw [h.n] at r1
                rw [r1]
                simp only [Option.bind_some]
                obtain ⟨tk', b', g1, g2, g3, g4, g5⟩ := ihk tk1 b1 r2 (fun k hk => hks k (by simp [hk]))
                rw [h.n] at g1
                have r3l := r3.le
                refine ⟨tk', b', g1, g2, by omega, ?_, fun t ht ⟨k2, hk2, hk3⟩ => ?_⟩
                · rcases g4 with g4 | g4
                  · rcases r3.att with r4 | ⟨t, r4, r5⟩
                    · exact .inl (by omega)
                    · exact .inr ⟨t, hfc t r4, by omega⟩
                  · exact .inr g4
                · rcases List.mem_cons.1 hk2 with g | g
                  · rw [g] at hk3
                    have := r3.all t ⟨(e4 t).2 ⟨ht.1, hk3⟩, ht.2⟩
                    omega
                  · exact g5 t ht ⟨k2, g, hk3⟩
          obtain ⟨tk', b', g1, g2, g3, g4, g5⟩ := loop few tk b htk hch.lo
          rw [g1]
          simp only [Option.bind_some]
          rw [ix_in (by omega) (by simp; omega), sx_in (by omega) (by simp; omega)]
          simp only [Option.bind_some]
          rw [show (((i : Nat) : Int)).toNat = i by omega, set_true hoi]
          refine ⟨tk', b', rfl, g2, ⟨g3, g4, fun t ht => ?_⟩⟩
          obtain ⟨k, k1, k2⟩ := ht.2 r hr
          exact g5 t ht ⟨k, hch.all k ⟨t, ht.1, k1, k2⟩, k1, k2⟩
  intro u
  induction u with
  | zero =>
    intro fu B tk op b hu hfu hB hop htk hcl
    obtain ⟨fu, rfl⟩ : ∃ q, fu = q + 1 := ⟨fu - 1, by omega⟩
    exact step fu B tk op b (by omega) hB hop htk hcl fun C tk op' b hlt => by omega
  | succ u ih =>
    intro fu B tk op b hu hfu hB hop htk hcl
    obtain ⟨fu, rfl⟩ : ∃ q, fu = q + 1 := ⟨fu - 1, by omega⟩
    exact step fu B tk op b (by omega) hB hop htk hcl fun C tk op' b hlt hC h1 h2 h3 => ih fu C tk op' b (by omega) (by omega) hC h1 h2 h3
end
/-! the least times, one by one -/
def Base (n : Nat) (P : Int) (t : Nat → Int) : Prop := (∀ i k, i < n → k < n → t k - t i ≤ if i = k then 0 else P - 1) ∧ ∀ j, j < n → t 0 - t j ≤ 0
def Sol (x : PlanPeriodic) (n : Nat) (T : List Int) (t : Nat → Int) : Prop := Base n x.Period t ∧ (∀ r ∈ x.Rules, Rk x r t) ∧ ∀ i, i < T.length → t i - t 0 = tm T i
def Least (F : (Nat → Int) → Prop) (e : Nat) (v : Int) : Prop := (∃ t, F t ∧ t e - t 0 = v) ∧ ∀ t, F t → v ≤ t e - t 0
theorem Least.eq {F : (Nat → Int) → Prop} {e : Nat} {v w : Int} (h : Least F e v) (k : Least F e w) : v = w := by
  obtain ⟨⟨t, h1, h2⟩, h3⟩ := h
  obtain ⟨⟨u, k1, k2⟩, k3⟩ := k
  have := h3 u k1; have := k3 t h1; omega
structure Ls (x : PlanPeriodic) (n : Nat) (T : List Int) : Prop where
  pos : 0 < T.length
  le : T.length ≤ n
  zero : tm T 0 = 0
  step : ∀ j, 0 < j → j < T.length → Least (Sol x n (T.take j)) j (tm T j)
  some : (∃ t, Sol x n [0] t) → ∃ t, Sol x n T t
theorem Ls.eq {x : PlanPeriodic} {n : Nat} {T U : List Int} (h : Ls x n T) (k : Ls x n U) (ht : T.length = n) (hu : U.length = n) : T = U := by
  have pre : ∀ j, j ≤ n → T.take j = U.take j := by
    intro j
    induction j with
    | zero => intro _; simp
    | succ j ih =>
      intro hj
      have e := ih (by omega)
      rw [List.take_add_one, List.take_add_one, e]
      congr 1
      have v : tm T j = tm U j := by
        rcases Nat.eq_zero_or_pos j with c | c
        · subst c; rw [h.zero, k.zero]
        · have h1 := h.step j c (by omega)
          have k1 := k.step j c (by omega)
          rw [e] at h1
          exact h1.eq k1
      rw [tm_get (by omega), tm_get (by omega)] at v
      rw [List.getElem?_eq_getElem (by omega), List.getElem?_eq_getElem (by omega), v]
  have := pre n (Nat.le_refl _)
  rwa [List.take_of_length_le (by omega), List.take_of_length_le (by omega)] at this
theorem Base.zero {n : Nat} {P : Int} (hP : 2 ≤ P) : Base n P (fun _ => 0) := by
  refine ⟨fun i k _ _ => ?_, fun j _ => ?_⟩
  · show (0 : Int) - 0 ≤ _
    split <;> omega
  · show (0 : Int) - 0 ≤ 0
    omega
theorem tm_app {T : List Int} {v : Int} {i : Nat} : tm (T ++ [v]) i = if i < T.length then tm T i else if i = T.length then v else 0 := by
  unfold tm
  by_cases c : i < T.length
  · rw [if_pos c, List.getElem?_append_left c]
  · rw [if_neg c, List.getElem?_append_right (by omega)]
    by_cases c2 : i = T.length
    · rw [if_pos c2, c2]; simp
    · rw [if_neg c2]
      have : i - T.length ≠ 0 := by omega
      rw [List.getElem?_eq_none (by simp; omega)]; rfl
theorem Ls.one {x : PlanPeriodic} {n : Nat} (h : 1 ≤ n) : Ls x n [0] := ⟨by simp, by simpa using h, rfl, fun j h1 h2 => by simp at h2; omega, fun h => h⟩
theorem Ls.next {x : PlanPeriodic} {n : Nat} {T : List Int} (h : Ls x n T) {v : Int} (hl : T.length < n) (hv : Least (Sol x n T) T.length v) : Ls x n (T ++ [v]) := by
  refine ⟨by simp, by simp; omega, ?_, fun j h1 h2 => ?_, fun q => ?_⟩
  · rw [tm_app, if_pos h.pos, h.zero]
  · simp at h2
    by_cases c : j < T.length
    · rw [List.take_append_of_le_length (by omega), tm_app, if_pos c]
      exact h.step j h1 c
    · have : j = T.length := by omega
      subst this
      rw [List.take_left, tm_app, if_neg c, if_pos rfl]
      exact hv
  · obtain ⟨⟨t, h1, h2⟩, _⟩ := hv
    refine ⟨t, h1.1, h1.2.1, fun i hi => ?_⟩
    simp at hi
    rw [tm_app]
    by_cases c : i < T.length
    · rw [if_pos c]; exact h1.2.2 i c
    · have : i = T.length := by omega
      rw [if_neg c, if_pos this, this]; exact h2
theorem Got.least {x : PlanPeriodic} {n : Nat} {T : List Int} {e : Nat} (h0 : 0 < e) (he : e < n) {v : Int} {F : (Nat → Int) → Prop} (hF : ∀ t, F t ↔ Sol x n T t) (g : Got F e x.Period v) : (v = x.Period ∧ ¬ ∃ t, Sol x n T t) ∨ (v ≠ x.Period ∧ Least (Sol x n T) e v) := by
  have up : ∀ t, Sol x n T t → t e - t 0 ≤ x.Period - 1 := by
    intro t ht
    have := ht.1.1 0 e (by omega) he
    rw [if_neg (by omega)] at this; exact this
  by_cases c : v = x.Period
  · refine .inl ⟨c, fun ⟨t, ht⟩ => ?_⟩
    have := g.all t ((hF t).2 ht)
    have := up t ht
    omega
  · refine .inr ⟨c, ?_, fun t ht => g.all t ((hF t).2 ht)⟩
    rcases g.att with k | ⟨t, k1, k2⟩
    · exact absurd k c
    · exact ⟨t, (hF t).1 k1, k2⟩
theorem none_one {x : PlanPeriodic} {n : Nat} {T : List Int} (h : Ls x n T) (q : ¬ ∃ t, Sol x n T t) : ¬ ∃ t, Sol x n [0] t := fun k => q (h.some k)
/-! the program -/
theorem start_loop4 {n : Nat} (h8 : n ≤ 8) {P : Int} (hP : 2 ≤ P ∧ P ≤ 3600) {i : Nat} (hi : i < n) : ∀ (r k : Nat) (C : List Int) (fu : Nat), k + r = n → r < fu → C.length = 64 →
    ∃ q C', PlanSearchstart_v1.loop4 P (n : Int) (i : Int) fu (k : Int) C = some (q, C') ∧ C'.length = 64 ∧ ∀ i' k', i' < 8 → k' < 8 → bv C' i' k' = if i' = i ∧ k ≤ k' ∧ k' < n ∧ i' ≠ k' then P - 1 else bv C i' k'
  | 0, k, C, fu, hk, hfu, hC => by
    obtain ⟨fu, rfl⟩ : ∃ q, fu = q + 1 := ⟨fu - 1, by omega⟩
    rw [PlanSearchstart_v1.loop4, decide_eq_false (by omega)]
    simp only [Bool.false_eq_true, if_false]
    exact ⟨_, C, rfl, hC, fun i' k' _ _ => by rw [if_neg (by omega)]⟩
  | r + 1, k, C, fu, hk, hfu, hC => by
    obtain ⟨fu, rfl⟩ : ∃ q, fu = q + 1 := ⟨fu - 1, by omega⟩
    rw [PlanSearchstart_v1.loop4, decide_eq_true (by omega)]
    simp only [if_true]
    rw [w64_id (x := (k : Int) + 1) (by omega), show (k : Int) + 1 = ((k + 1 : Nat) : Int) by omega]
    by_cases c : i = k
    · subst c
      have e : (((i : Nat) : Int) != ((i : Nat) : Int)) = false := by simp
      rw [e]
      simp only [Bool.false_eq_true, if_false, Option.bind_some]
      obtain ⟨q, C', f1, f2, f3⟩ := start_loop4 h8 hP hi r (i + 1) C fu (by omega) (by omega) hC
      refine ⟨q, C', f1, f2, fun i' k' hi' hk' => ?_⟩
      rw [f3 i' k' hi' hk']
      by_cases c : i' = i ∧ i + 1 ≤ k' ∧ k' < n ∧ i' ≠ k'
      · rw [if_pos c, if_pos (by omega)]
      · rw [if_neg c, if_neg (by omega)]
    · have e : (((i : Nat) : Int) != ((k : Nat) : Int)) = true := by
        rw [bne_iff_ne]; omega
      rw [e]
      simp only [if_true]
      rw [bx_in (i := (i : Int)) (by omega) (by omega), bx_in (i := (k : Int)) (by omega) (by omega), w64_id (x := P - 1) (by omega)]
      simp only [Option.bind_some]
      obtain ⟨C1, e1, e2, e3⟩ := sx_bv hC (i := i) (k := k) (by omega) (by omega) (P - 1)
      rw [e1]
      simp only [Option.bind_some]
      obtain ⟨q, C', f1, f2, f3⟩ := start_loop4 h8 hP hi r (k + 1) C1 fu (by omega) (by omega) e2
      refine ⟨q, C', f1, f2, fun i' k' hi' hk' => ?_⟩
      rw [f3 i' k' hi' hk', e3 i' k' hi' hk']
      by_cases c1 : i' = i ∧ k + 1 ≤ k' ∧ k' < n ∧ i' ≠ k'
      · rw [if_pos c1, if_pos (by omega)]
      · rw [if_neg c1]
        by_cases c2 : i' = i ∧ k' = k
        · rw [if_pos c2, if_pos (by omega)]
        · rw [if_neg c2, if_neg (by omega)]
theorem start_loop2 {n : Nat} (h8 : n ≤ 8) {P : Int} (hP : 2 ≤ P ∧ P ≤ 3600) {fv : Nat} (hv : 20 ≤ fv) : ∀ (r i : Nat) (C : List Int) (fu : Nat), i + r = n → r < fu → C.length = 64 →
    ∃ q C', PlanSearchstart_v1.loop2 P (n : Int) fv fu (i : Int) C = some (q, C') ∧ C'.length = 64 ∧ ∀ i' k', i' < 8 → k' < 8 → bv C' i' k' = if i ≤ i' ∧ i' < n ∧ k' < n then (if k' = 0 then 0 else if i' = k' then bv C i' k' else P - 1) else bv C i' k'
  | 0, i, C, fu, hi, hfu, hC => by
    obtain ⟨fu, rfl⟩ : ∃ q, fu = q + 1 := ⟨fu - 1, by omega⟩
    rw [PlanSearchstart_v1.loop2, decide_eq_false (by omega)]
    simp only [Bool.false_eq_true, if_false]
    exact ⟨_, C, rfl, hC, fun i' k' _ _ => by rw [if_neg (by omega)]⟩
  | r + 1, i, C, fu, hi, hfu, hC => by
    obtain ⟨fu, rfl⟩ : ∃ q, fu = q + 1 := ⟨fu - 1, by omega⟩
    rw [PlanSearchstart_v1.loop2, decide_eq_true (by omega)]
    simp only [if_true]
    obtain ⟨q1, C1, e1, e2, e3⟩ := start_loop4 h8 hP (i := i) (by omega) n 0 C fv (by omega) (by omega) hC
    have e1' : PlanSearchstart_v1.loop4 P (n : Int) (i : Int) fv 0 C = some (q1, C1) := e1
    rw [e1']
    simp only [Option.bind_some]
    obtain ⟨C2, g1, g2, g3⟩ := sx_bv e2 (i := i) (k := 0) (by omega) (by omega) 0
    have g1' : sx C1 ((i : Int) * 8 + 0) 0 = some C2 := g1
    rw [bx_in (i := (i : Int)) (by omega) (by omega), bx_in (i := 0) (by omega) (by omega)]
    simp only [Option.bind_some]
    rw [g1']
    simp only [Option.bind_some]
    rw [w64_id (x := (i : Int) + 1) (by omega), show (i : Int) + 1 = ((i + 1 : Nat) : Int) by omega]
    obtain ⟨q, C', f1, f2, f3⟩ := start_loop2 h8 hP hv r (i + 1) C2 fu (by omega) (by omega) g2
    refine ⟨q, C', f1, f2, fun i' k' hi' hk' => ?_⟩
    rw [f3 i' k' hi' hk', g3 i' k' hi' hk', e3 i' k' hi' hk']
    by_cases c0 : k' = 0
    · by_cases c1 : i + 1 ≤ i' ∧ i' < n ∧ k' < n
      · rw [if_pos c1, if_pos c0, if_pos (by omega), if_pos c0]
      · rw [if_neg c1]
        by_cases c2 : i' = i ∧ k' = 0
        · rw [if_pos c2, if_pos (by omega), if_pos c0]
        · rw [if_neg c2, if_neg (by omega), if_neg (by omega)]
    · by_cases c1 : i + 1 ≤ i' ∧ i' < n ∧ k' < n
      · rw [if_pos c1, if_neg c0, if_neg (show ¬(i' = i ∧ k' = 0) by omega), if_neg (show ¬(i' = i ∧ 0 ≤ k' ∧ k' < n ∧ i' ≠ k') by omega), if_pos (show i ≤ i' ∧ i' < n ∧ k' < n by omega), if_neg c0]
      · rw [if_neg c1, if_neg (by omega)]
        by_cases c2 : i' = i ∧ 0 ≤ k' ∧ k' < n ∧ i' ≠ k'
        · rw [if_pos c2, if_pos (by omega), if_neg c0, if_neg (by omega)]
        · rw [if_neg c2]
          by_cases c3 : i ≤ i' ∧ i' < n ∧ k' < n
          · rw [if_pos c3, if_neg c0, if_pos (by omega)]
          · rw [if_neg c3]
theorem start_run {n : Nat} (h8 : n ≤ 8) {P : Int} (hP : 2 ≤ P ∧ P ≤ 3600) {fu : Nat} (hu : 20 ≤ fu) (a1 : List PlanRule) (a2 : List Int) (a3 : List Bool) :
    ∃ B, PlanSearchstart_v1 fu P (n : Int) a1 a2 a3 = some (some B) ∧ Dbm n P B ∧ ∀ t, Keeps n B t ↔ Base n P t := by
  obtain ⟨q, B, e1, e2, e3⟩ := start_loop2 h8 hP hu n 0 (List.replicate 64 0) fu (by omega) (by omega) (by simp)
  have e1' : PlanSearchstart_v1.loop2 P (n : Int) fu fu 0 (List.replicate 64 0) = some (q, B) := e1
  unfold PlanSearchstart_v1
  rw [e1']
  have z : ∀ i k, bv (List.replicate 64 0) i k = 0 := by
    intro i k
    unfold bv tm
    rw [List.getElem?_replicate]
    split <;> rfl
  have val : ∀ i k, i < n → k < n → bv B i k = if k = 0 then 0 else if i = k then 0 else P - 1 := by
    intro i k hi hk
    rw [e3 i k (by omega) (by omega), if_pos ⟨Nat.zero_le _, hi, hk⟩, z]
  refine ⟨B, rfl, ⟨e2, fun i hi => ?_, fun i j k hi hj hk => ?_, fun i k hi hk => ?_⟩, fun t => ⟨fun h => ⟨fun i k hi hk => ?_, fun j hj => ?_⟩, fun h i k hi hk => ?_⟩⟩
  · rw [val i i hi hi]; split
    · rfl
    · simp
  · rw [val i k hi hk, val i j hi hj, val j k hj hk]
    by_cases c1 : k = 0 <;> by_cases c2 : i = k <;> by_cases c3 : j = 0 <;> by_cases c4 : i = j <;> by_cases c5 : j = k <;> simp only [c1, c2, c3, c4, c5, if_true, if_false] <;> omega
  · rw [val i k hi hk]; split
    · omega
    · split <;> omega
  · have := h i k hi hk
    rw [val i k hi hk] at this
    by_cases c : i = k
    · rw [if_pos c]; rw [if_pos c] at this; split at this <;> exact this
    · rw [if_neg c]; rw [if_neg c] at this; split at this <;> omega
  · have := h j 0 hj (by omega)
    rw [val j 0 hj (by omega), if_pos rfl] at this; exact this
  · rw [val i k hi hk]
    by_cases c : k = 0
    · rw [if_pos c, c]; exact h.2 i hi
    · rw [if_neg c]; exact h.1 i k hi hk
theorem newSearch_run (x : PlanPeriodic) (h : x.Rules.length ≤ 40) (m : Nat) : PlannewSearch (m + 60) x = some (x.Period, x.Events, x.Rules, List.replicate x.Rules.length 0, List.replicate x.Rules.length true) := by
  unfold PlannewSearch
  rw [mks_in (by omega)]
  simp only [Option.bind_some]
  rw [repB m _ h]
  rfl
theorem bt_rep {N i : Nat} (h : i < N) : bt (List.replicate N true) i = true := by unfold bt; rw [List.getElem?_replicate, if_pos h]; rfl
theorem solve_loop {x : PlanPeriodic} {n : Nat} (h : PSn x n) {fu : Nat} (hfu : 9100 ≤ fu) {z : Int × Int × List PlanRule × List Int × List Bool} (hz : z.1 = x.Period ∧ z.2.1 = x.Events ∧ z.2.2.1 = x.Rules) : ∀ (r e : Nat) (T B tk : List Int) (f2 : Nat), e + r = n → 1 ≤ e → r < f2 → T.length = e → Ls x n T → Dbm n x.Period B →
    (∀ t, Keeps n B t ↔ Base n x.Period t ∧ ∀ i, i < e → t i - t 0 = tm T i) → tk.length = x.Rules.length →
    (Plansolve.loop1 x fu z f2 (some B) T (e : Int) tk (List.replicate x.Rules.length true) () () = some (.ret []) ∧ ¬ ∃ t, Sol x n [0] t) ∨
    ∃ B' T' q tk' op', Plansolve.loop1 x fu z f2 (some B) T (e : Int) tk (List.replicate x.Rules.length true) () () = some (.next (B', T', q, tk', op', (), ())) ∧ Ls x n T' ∧ T'.length = n := by
  obtain ⟨n0, n8⟩ := h.n1
  have p0 := h.ok.p0; have p1 := h.ok.p1; have hn40 := h.ok.n; have hn := h.n
  intro r
  induction r with
  | zero =>
    intro e T B tk f2 he h1 hf hT hL hB hK htk
    obtain ⟨f2, rfl⟩ : ∃ q, f2 = q + 1 := ⟨f2 - 1, by omega⟩
    rw [Plansolve.loop1, decide_eq_false (by omega)]
    simp only [Bool.false_eq_true, if_false]
    exact .inr ⟨_, T, _, _, _, rfl, hL, by omega⟩
  | succ r ih =>
    intro e T B tk f2 he h1 hf hT hL hB hK htk
    obtain ⟨f2, rfl⟩ : ∃ q, f2 = q + 1 := ⟨f2 - 1, by omega⟩
    rw [Plansolve.loop1, decide_eq_true (by omega), hz.1, hz.2.1, hz.2.2]
    simp only [if_true]
    have hut := ut_le (List.replicate x.Rules.length true)
    rw [List.length_replicate] at hut
    obtain ⟨tk', b, e1, e2, e3⟩ := run_ok h (e := e) (by omega) x.Rules.length fu B tk (List.replicate x.Rules.length true) x.Period hut (by omega) hB (by simp) htk (fun i hi hc => by rw [bt_rep hi] at hc; cases hc)
    rw [e1]
    simp only [Option.bind_some]
    have hF : ∀ t, Full x n B t ↔ Sol x n T t := by
      intro t
      unfold Full Sol
      rw [hK t, hT]
      constructor
      · rintro ⟨⟨a, c⟩, d⟩; exact ⟨a, d, c⟩
      · rintro ⟨a, d, c⟩; exact ⟨⟨a, c⟩, d⟩
    rcases e3.least (by omega) (by omega) hF with ⟨c, q⟩ | ⟨c, q⟩
    · rw [if_pos (by simpa using c)]
      exact .inl ⟨rfl, none_one hL q⟩
    · rw [if_neg (by simpa using c), apd_lt (by simp; omega)]
      simp only [Option.bind_some]
      obtain ⟨t, t1, t2⟩ := q.1
      have tb := (hK t).2 ⟨t1.1, by rw [← hT]; exact t1.2.2⟩
      have b1 := tb 0 e (by omega) (by omega)
      have b2 := hB.hi 0 e (by omega) (by omega)
      have b3 := tb e 0 (by omega) (by omega)
      have b4 := hB.hi e 0 (by omega) (by omega)
      rcases between_run hB n8 p1 (f := 0) (g := e) (by omega) (by omega) (lo := b) (hi := b) (by omega) (by omega) (fu := fu) (by omega) with ⟨z', g1, g2⟩ | ⟨C, g1, hC, g2⟩
      · exact absurd ⟨by omega, by omega⟩ (g2 t tb)
      · have g1' : PlanBoundsbetween fu (some B) x.Events 0 (e : Int) b b = some (some C, true) := by rw [hn]; exact g1
        rw [g1']
        simp only [Option.bind_some]
        rw [w64_id (x := (e : Int) + 1) (by omega), show (e : Int) + 1 = ((e + 1 : Nat) : Int) by omega]
        subst hT
        refine ih (T.length + 1) (T ++ [b]) C tk' f2 (by omega) (by omega) (by omega) (by simp) (hL.next (by omega) q) hC (fun u => ?_) e2
        rw [g2 u, hK u]
        constructor
        · rintro ⟨⟨a, c⟩, d1, d2⟩
          refine ⟨a, fun i hi => ?_⟩
          rw [tm_app]
          by_cases k : i < T.length
          · rw [if_pos k]; exact c i k
          · have k2 : i = T.length := by omega
            rw [if_neg k, if_pos k2, k2]; omega
        · rintro ⟨a, c⟩
          refine ⟨⟨a, fun i hi => ?_⟩, ?_⟩
          · have := c i (by omega)
            rw [tm_app, if_pos hi] at this; exact this
          · have := c T.length (by omega)
            rw [tm_app, if_neg (by omega), if_pos rfl] at this; omega
/-- what solve gives -/
theorem solve_run {x : PlanPeriodic} {n : Nat} (h : PSn x n) {m : Nat} (hm : 9100 ≤ m) : (Plansolve (m + 60) x = some [] ∧ ¬ ∃ t, Sol x n [0] t) ∨ ∃ T, Plansolve (m + 60) x = some T ∧ Ls x n T ∧ T.length = n := by
  obtain ⟨n0, n8⟩ := h.n1
  have p0 := h.ok.p0; have p1 := h.ok.p1; have hn40 := h.ok.n; have hn := h.n
  unfold Plansolve
  rw [newSearch_run x hn40]
  simp only [Option.bind_some]
  obtain ⟨B, e1, hB, hK⟩ := start_run n8 ⟨p0, p1⟩ (fu := m + 60) (by omega) x.Rules (List.replicate x.Rules.length 0) (List.replicate x.Rules.length true)
  have e1' : PlanSearchstart_v1 (m + 60) x.Period x.Events x.Rules (List.replicate x.Rules.length 0) (List.replicate x.Rules.length true) = some (some B) := by rw [hn]; exact e1
  rw [e1']
  simp only [Option.bind_some]
  have hz : ∀ i, i < 1 → ∀ t : Nat → Int, t i - t 0 = tm [0] i := by
    intro i hi t
    have : i = 0 := by omega
    subst this
    show t 0 - t 0 = 0
    omega
  rcases solve_loop h (fu := m + 60) (by omega) (z := (x.Period, x.Events, x.Rules, List.replicate x.Rules.length 0, List.replicate x.Rules.length true)) ⟨rfl, rfl, rfl⟩ (n - 1) 1 [0] B (List.replicate x.Rules.length 0) (m + 60) (by omega) (by omega) (by omega) rfl (Ls.one n0) hB (fun t => by
      rw [hK t]
      exact ⟨fun a => ⟨a, fun i hi => hz i hi t⟩, fun a => a.1⟩) (by simp) with ⟨e2, q⟩ | ⟨B', T', q, tk', op', e2, q1, q2⟩
  · have e2' : Plansolve.loop1 x (m + 60) (x.Period, x.Events, x.Rules, List.replicate x.Rules.length 0, List.replicate x.Rules.length true) (m + 60) (some B) [0] 1 (List.replicate x.Rules.length 0) (List.replicate x.Rules.length true) () () = some (.ret []) := e2
    rw [e2']
    exact .inl ⟨rfl, q⟩
  · have e2' : Plansolve.loop1 x (m + 60) (x.Period, x.Events, x.Rules, List.replicate x.Rules.length 0, List.replicate x.Rules.length true) (m + 60) (some B) [0] 1 (List.replicate x.Rules.length 0) (List.replicate x.Rules.length true) () () = some (.next (B', T', q, tk', op', (), ())) := e2
    rw [e2']
    simp only [Option.bind_some]
    have : nz T' = some () := by
      unfold nz
      cases T' with
      | nil => simp at q2; omega
      | cons _ _ => rfl
    rw [this]
    exact .inr ⟨T', rfl, q1, q2⟩
/-! the reference -/
theorem sol_one {x : PlanPeriodic} {n : Nat} {t : Nat → Int} : Sol x n [0] t ↔ Base n x.Period t ∧ ∀ r ∈ x.Rules, Rk x r t := by
  constructor
  · exact fun h => ⟨h.1, h.2.1⟩
  · refine fun h => ⟨h.1, h.2, fun i hi => ?_⟩
    have : i = 0 := by simpa using hi
    subst this
    show t 0 - t 0 = 0
    omega
/-- of one event, all times keep all rules -/
theorem sol_single {x : PlanPeriodic} {n : Nat} (h : PSn x n) (hn : n = 1) : ∃ t, Sol x n [0] t := by
  refine ⟨fun _ => 0, sol_one.2 ⟨Base.zero h.ok.p0, fun r hr => ?_⟩⟩
  have k := h.ok.rules r hr
  have := k.from0; have := k.from1; have := k.to0; have := k.to1; have := k.ne; have := h.n
  omega
theorem ls_some {x : PlanPeriodic} {n : Nat} (h : PSn x n) {T : List Int} (k : Ls x n T) (hl : T.length = n) : ∃ t, Sol x n [0] t := by
  rcases Nat.lt_or_ge 1 n with c | c
  · obtain ⟨⟨t, ht, _⟩, _⟩ := k.step 1 (by omega) (by omega)
    exact ⟨t, sol_one.2 ⟨ht.1, ht.2.1⟩⟩
  · have := k.pos
    exact sol_single h (by omega)
/-- how many of the first m nodes have a property -/
noncomputable def count (P : Nat → Prop) : Nat → Nat
  | 0 => 0
  | m + 1 => open Classical in count P m + (if P m then 1 else 0)
theorem count_mono {P Q : Nat → Prop} : ∀ m, (∀ v, v < m → P v → Q v) → count P m ≤ count Q m
  | 0, _ => Nat.le_refl _
  | m + 1, h => by
    have h1 := count_mono m (fun v hv => h v (by omega))
    have h2 := h m (by omega)
    simp only [count]
    by_cases c : P m
    · rw [if_pos c, if_pos (h2 c)]; omega
    · rw [if_neg c]; split <;> omega
theorem count_lt {P Q : Nat → Prop} {u : Nat} (hp : ¬ P u) (hq : Q u) : ∀ m, u < m → (∀ v, v < m → P v → Q v) → count P m < count Q m
  | 0, h, _ => absurd h (Nat.not_lt_zero _)
  | m + 1, hu, h => by
    have h2 := h m (by omega)
    simp only [count]
    by_cases e : u = m
    · subst e
      have := count_mono u (fun v hv => h v (by omega))
      rw [if_neg hp, if_pos hq]; omega
    · have := count_lt hp hq m (by omega) (fun v hv => h v (by omega))
      by_cases c : P m
      · rw [if_pos c, if_pos (h2 c)]; omega
      · rw [if_neg c]; split <;> omega
theorem count_le (P : Nat → Prop) : ∀ m, count P m ≤ m
  | 0 => Nat.le_refl _
  | m + 1 => by have := count_le P m; simp only [count]; split <;> omega
theorem count_all {P : Nat → Prop} : ∀ m, count P m = m → ∀ v, v < m → P v
  | 0, _, v, hv => absurd hv (Nat.not_lt_zero _)
  | m + 1, h, v, hv => by
    have h1 := count_le P m
    simp only [count] at h
    by_cases c : P m
    · rw [if_pos c] at h
      by_cases e : v = m
      · subst e; exact c
      · exact count_all m (by omega) v (by omega)
    · rw [if_neg c] at h; omega
/-! sound rounds -/
theorem rw_eq : Fishref2within = Mendwithin := rfl
theorem slack_eq : Fishref2SlackOf = MendRoundslack := rfl
theorem mwithin (x a b : Int) : Mendwithin x a b = decide (a ≤ x ∧ x ≤ b) := by
  unfold Mendwithin bnd
  by_cases h : a ≤ x <;> simp [h]
def sl (x : MendRound) (l : MendLink) : Int := tm x.Plan (nd l.To) - tm x.Plan (nd l.From) + l.Back * x.Period - l.Len
structure LkOk (x : MendRound) (l : MendLink) : Prop where
  f0 : 0 ≤ l.From
  f1 : l.From < x.Plan.length
  t0 : 0 ≤ l.To
  t1 : l.To < x.Plan.length
  n0 : 0 ≤ l.Len
  n1 : l.Len ≤ 28800
  b0 : 0 ≤ l.Back
  b1 : l.Back ≤ 3
  s0 : 0 ≤ sl x l
  s1 : sl x l ≤ 20000
structure ROk (x : MendRound) : Prop where
  p0 : 1 ≤ x.Period
  p1 : x.Period ≤ 3600
  n0 : 1 ≤ x.Plan.length
  n1 : x.Plan.length ≤ 8
  k1 : x.Links.length ≤ 24
  plan : ∀ v, v < x.Plan.length → 0 ≤ tm x.Plan v ∧ tm x.Plan v ≤ x.Period - 1
  links : ∀ l ∈ x.Links, LkOk x l
theorem slack_some {x : MendRound} {l : MendLink} (hp0 : 1 ≤ x.Period) (hp1 : x.Period ≤ 3600) (hpl : ∀ v, v < x.Plan.length → 0 ≤ tm x.Plan v ∧ tm x.Plan v ≤ x.Period - 1) (f0 : 0 ≤ l.From) (f1 : l.From < x.Plan.length) (t0 : 0 ≤ l.To) (t1 : l.To < x.Plan.length) (n0 : 0 ≤ l.Len) (n1 : l.Len ≤ 28800) (b0 : 0 ≤ l.Back) (b1 : l.Back ≤ 3) :
    MendRoundslack x l = some (sl x l) ∧ sl x l ≤ 20000 := by
  have h1 : 0 ≤ l.Back * x.Period := Int.mul_nonneg b0 (by omega)
  have h2 : l.Back * x.Period ≤ 3 * 3600 := Int.mul_le_mul b1 hp1 (by omega) (by omega)
  obtain ⟨a1, a2⟩ := hpl (nd l.To) (by unfold nd; omega)
  obtain ⟨c1, c2⟩ := hpl (nd l.From) (by unfold nd; omega)
  unfold MendRoundslack sl
  rw [gx_tm t0 t1, gx_tm f0 f1]
  simp only [Option.bind_some]
  rw [w64_id (x := tm x.Plan (nd l.To) - tm x.Plan (nd l.From)) (by omega), w64_id (x := l.Back * x.Period) (by omega), w64_id (x := tm x.Plan (nd l.To) - tm x.Plan (nd l.From) + l.Back * x.Period) (by omega), w64_id (by omega)]
  exact ⟨rfl, by omega⟩
theorem plan_ok (x : MendRound) (hp : x.Period ≤ 3600) (hp0 : 1 ≤ x.Period) : ∀ l, (MendCheckRound.loop1 x l = .ret 2) ∨ (MendCheckRound.loop1 x l = .next () ∧ ∀ v, v < l.length → 0 ≤ tm l v ∧ tm l v ≤ x.Period - 1)
  | [] => .inr ⟨rfl, fun v hv => absurd hv (Nat.not_lt_zero _)⟩
  | a :: l => by
    rw [MendCheckRound.loop1, mwithin, w64_id (by omega)]
    by_cases h : 0 ≤ a ∧ a ≤ x.Period - 1
    · rw [decide_eq_true h]
      rcases plan_ok x hp hp0 l with e | ⟨e, i⟩
      · exact .inl e
      · refine .inr ⟨e, fun v hv => ?_⟩
        cases v with
        | zero => simpa [tm] using h
        | succ v => have := i v (by simpa using hv); simpa [tm] using this
    · rw [decide_eq_false h]
      exact .inl rfl
theorem links_ok {x : MendRound} (hp0 : 1 ≤ x.Period) (hp1 : x.Period ≤ 3600) (hn : x.Plan.length ≤ 8) (hpl : ∀ v, v < x.Plan.length → 0 ≤ tm x.Plan v ∧ tm x.Plan v ≤ x.Period - 1) : ∀ ls, (∃ r, MendCheckRound.loop2 x ls = some (.ret r) ∧ r ≠ 0) ∨ (MendCheckRound.loop2 x ls = some (.next ()) ∧ ∀ l ∈ ls, LkOk x l)
  | [] => .inr ⟨rfl, fun l hl => by cases hl⟩
  | a :: l => by
    rw [MendCheckRound.loop2, mwithin, mwithin, mwithin, mwithin, w64_id (by omega)]
    simp only [bnd]
    by_cases h1 : 0 ≤ a.From ∧ a.From ≤ (x.Plan.length : Int) - 1
    · by_cases h2 : 0 ≤ a.To ∧ a.To ≤ (x.Plan.length : Int) - 1
      · by_cases h3 : 0 ≤ a.Len ∧ a.Len ≤ 28800
        · by_cases h4 : 0 ≤ a.Back ∧ a.Back ≤ 3
          · obtain ⟨s1, s2⟩ := slack_some (l := a) hp0 hp1 hpl h1.1 (by omega) h2.1 (by omega) h3.1 h3.2 h4.1 h4.2
            rw [decide_eq_true h1, decide_eq_true h2, decide_eq_true h3, decide_eq_true h4, s1]
            simp only [Bool.not_true, Bool.false_eq_true, if_false, Option.bind_some]
            by_cases h5 : sl x a < 0
            · rw [decide_eq_true h5]
              exact .inl ⟨13, rfl, by omega⟩
            · rw [decide_eq_false h5]
              simp only [Bool.false_eq_true, if_false]
              rcases links_ok hp0 hp1 hn hpl l with e | ⟨e, i⟩
              · exact .inl e
              · refine .inr ⟨e, fun b hb => ?_⟩
                rcases List.mem_cons.1 hb with rfl | hb
                · exact ⟨h1.1, by omega, h2.1, by omega, h3.1, h3.2, h4.1, h4.2, by omega, s2⟩
                · exact i b hb
          · rw [decide_eq_true h1, decide_eq_true h2, decide_eq_true h3, decide_eq_false h4]
            exact .inl ⟨2, rfl, by omega⟩
        · rw [decide_eq_true h1, decide_eq_true h2, decide_eq_false h3]
          exact .inl ⟨2, rfl, by omega⟩
      · rw [decide_eq_true h1, decide_eq_false h2]
        exact .inl ⟨3, rfl, by omega⟩
    · rw [decide_eq_false h1]
      exact .inl ⟨3, rfl, by omega⟩

/-! rings of links with Back 0 -/
def Zf (x : MendRound) : Prop := ∃ h : Nat → Int, ∀ l ∈ x.Links, l.Back = 0 → h (nd l.From) < h (nd l.To)
/-- the first of an order, step by step -/
def Py (x : MendRound) : Nat → Nat → Prop
  | 0, _ => False
  | i + 1, v => ∀ l ∈ x.Links, l.Back = 0 → nd l.To = v → Py x i (nd l.From)
theorem Py.up (x : MendRound) : ∀ i v, Py x i v → Py x (i + 1) v
  | 0, _, h => h.elim
  | i + 1, _, h => fun l hl hb ht => Py.up x i _ (h l hl hb ht)
theorem py_all {x : MendRound} (hx : ROk x) (hz : Zf x) : ∀ v, v < x.Plan.length → Py x x.Plan.length v := by
  classical
  obtain ⟨h, hh⟩ := hz
  -- a step with nothing new has all
  have stuck : ∀ i, (∀ v, v < x.Plan.length → Py x (i + 1) v → Py x i v) → ∀ v, v < x.Plan.length → Py x i v := by
    intro i hc v hv
    have key : ∀ (k : Nat) (v : Nat), v < x.Plan.length → (∀ u, u < x.Plan.length → h v - h u ≤ k) → Py x i v := by
      intro k
      induction k with
      | zero =>
        intro v hv hk
        refine hc v hv fun l hl hb ht => ?_
        have hl' := hx.links l hl
        have f0 := hl'.f0
        have f1 := hl'.f1
        have := hh l hl hb
        have := hk (nd l.From) (by unfold nd; omega)
        rw [ht] at *
        omega
      | succ k ih =>
        intro v hv hk
        refine hc v hv fun l hl hb ht => ?_
        have hl' := hx.links l hl
        have f0 := hl'.f0
        have f1 := hl'.f1
        have h1 := hh l hl hb
        rw [ht] at h1
        refine ih (nd l.From) (by unfold nd; omega) fun u hu => ?_
        have := hk u hu
        omega
    have lo : ∃ m : Int, ∀ u, u < x.Plan.length → m ≤ h u := by
      have : ∀ n : Nat, ∃ m : Int, ∀ u, u < n → m ≤ h u := by
        intro n
        induction n with
        | zero => exact ⟨0, fun u hu => absurd hu (Nat.not_lt_zero _)⟩
        | succ n ih =>
          obtain ⟨m, hm⟩ := ih
          refine ⟨min m (h n), fun u hu => ?_⟩
          by_cases e : u = n
          · subst e; omega
          · have := hm u (by omega); omega
      exact this _
    obtain ⟨m, hm⟩ := lo
    exact key (h v - m).toNat v hv fun u hu => by have := hm u hu; omega
  have grow : ∀ i, i ≤ count (Py x i) x.Plan.length ∨ ∀ v, v < x.Plan.length → Py x i v := by
    intro i
    induction i with
    | zero => exact .inl (Nat.zero_le _)
    | succ i ih =>
      by_cases c : ∀ v, v < x.Plan.length → Py x (i + 1) v → Py x i v
      · exact .inr fun v hv => Py.up x i v (stuck i c v hv)
      · rcases ih with ih | ih
        · left
          have : ∃ v, v < x.Plan.length ∧ Py x (i + 1) v ∧ ¬ Py x i v := by
            refine Classical.byContradiction fun q => c fun v hv hp => Classical.byContradiction fun q2 => q ⟨v, hv, hp, q2⟩
          obtain ⟨v, hv, h1, h2⟩ := this
          have := count_lt (P := Py x i) (Q := Py x (i + 1)) h2 h1 x.Plan.length hv (fun v _ => Py.up x i v)
          omega
        · exact .inr fun v hv => Py.up x i v (ih v hv)
  rcases grow x.Plan.length with c | c
  · have := count_le (Py x x.Plan.length) x.Plan.length
    exact count_all x.Plan.length (by omega)
  · exact c
/-! rings: two ways to see one -/
def relZ (l : MendLink) (z : Bool × List Int) : Bool × List Int :=
  if l.Back = 0 ∧ tm z.2 (nd l.To) ≤ tm z.2 (nd l.From) then (true, z.2.set (nd l.To) (tm z.2 (nd l.From) + 1)) else z
def relZL (ls : List MendLink) (z : Bool × List Int) : Bool × List Int := ls.foldl (fun z l => relZ l z) z
theorem relZ_len (l : MendLink) (z : Bool × List Int) : (relZ l z).2.length = z.2.length := by
  unfold relZ; split
  · simp
  · rfl
theorem relZL_len : ∀ (ls : List MendLink) (z : Bool × List Int), (relZL ls z).2.length = z.2.length
  | [], z => rfl
  | l :: ls, z => by rw [show relZL (l :: ls) z = relZL ls (relZ l z) from rfl, relZL_len ls, relZ_len]
theorem LkOk.nd {x : MendRound} {l : MendLink} (h : LkOk x l) : Go.Fp.nd l.From < x.Plan.length ∧ Go.Fp.nd l.To < x.Plan.length := by
  have := h.f0; have := h.f1; have := h.t0; have := h.t1
  unfold Go.Fp.nd; omega
section
variable {x : MendRound}
theorem relZ_tm {l : MendLink} (hl : LkOk x l) {z : Bool × List Int} (hz : z.2.length = x.Plan.length) (v : Nat) :
    tm (relZ l z).2 v = if v = nd l.To ∧ l.Back = 0 ∧ tm z.2 (nd l.To) ≤ tm z.2 (nd l.From) then tm z.2 (nd l.From) + 1 else tm z.2 v := by
  unfold relZ
  by_cases c : l.Back = 0 ∧ tm z.2 (nd l.To) ≤ tm z.2 (nd l.From)
  · rw [if_pos c, tm_set (by rw [hz]; exact hl.nd.2)]
    by_cases e : v = nd l.To
    · rw [if_pos e, if_pos ⟨e, c⟩]
    · rw [if_neg e, if_neg (fun h => e h.1)]
  · rw [if_neg c, if_neg (fun h => c h.2)]
theorem relZ_mono {l : MendLink} (hl : LkOk x l) {z : Bool × List Int} (hz : z.2.length = x.Plan.length) (v : Nat) : tm z.2 v ≤ tm (relZ l z).2 v := by
  rw [relZ_tm hl hz]
  split
  · rename_i h; rw [h.1]; omega
  · exact Int.le_refl _
theorem relZL_mono : ∀ (ls : List MendLink) (z : Bool × List Int), (∀ l ∈ ls, LkOk x l) → z.2.length = x.Plan.length → ∀ v, tm z.2 v ≤ tm (relZL ls z).2 v
  | [], _, _, _, _ => Int.le_refl _
  | l :: ls, z, h, hz, v => Int.le_trans (relZ_mono (h l (List.mem_cons_self ..)) hz v) (relZL_mono ls (relZ l z) (fun b hb => h b (List.mem_cons_of_mem _ hb)) (by rw [relZ_len]; exact hz) v)
theorem relZL_ub : ∀ (ls : List MendLink) (z : Bool × List Int) (B : Int), (∀ l ∈ ls, LkOk x l) → z.2.length = x.Plan.length → (∀ v, v < x.Plan.length → tm z.2 v ≤ B) → ∀ v, v < x.Plan.length → tm (relZL ls z).2 v ≤ B + ls.length
  | [], z, B, _, _, h, v, hv => by have := h v hv; show tm z.2 v ≤ B + ((0 : Nat) : Int); omega
  | l :: ls, z, B, h, hz, hB, v, hv => by
    have hl := h l (List.mem_cons_self ..)
    have := relZL_ub ls (relZ l z) (B + 1) (fun b hb => h b (List.mem_cons_of_mem _ hb)) (by rw [relZ_len]; exact hz) (fun u hu => by
      rw [relZ_tm hl hz]
      have := hB u hu
      have := hB _ hl.nd.1
      split <;> omega) v hv
    simp only [List.length_cons, Int.natCast_add, Int.natCast_one]
    exact Int.le_trans this (by omega)
theorem relZL_true : ∀ (ls : List MendLink) (z : Bool × List Int), z.1 = true → (relZL ls z).1 = true
  | [], _, h => h
  | l :: ls, z, h => relZL_true ls (relZ l z) (by unfold relZ; split <;> simp [h])
theorem relZL_same : ∀ (ls : List MendLink) (z : Bool × List Int), (relZL ls z).1 = false → ∀ l ∈ ls, l.Back = 0 → tm z.2 (nd l.From) < tm z.2 (nd l.To)
  | [], _, _, l, hl, _ => by cases hl
  | b :: ls, z, h, l, hl, hb => by
    have e : relZ b z = z ∧ ¬ (b.Back = 0 ∧ tm z.2 (nd b.To) ≤ tm z.2 (nd b.From)) := by
      by_cases c : b.Back = 0 ∧ tm z.2 (nd b.To) ≤ tm z.2 (nd b.From)
      · exfalso
        have := relZL_true ls (relZ b z) (by unfold relZ; rw [if_pos c])
        rw [show relZL (b :: ls) z = relZL ls (relZ b z) from rfl, this] at h
        cases h
      · exact ⟨by unfold relZ; rw [if_neg c], c⟩
    rw [show relZL (b :: ls) z = relZL ls (relZ b z) from rfl, e.1] at h
    rcases List.mem_cons.1 hl with rfl | hl
    · have := e.2
      have : ¬ tm z.2 (nd l.To) ≤ tm z.2 (nd l.From) := fun q => this ⟨hb, q⟩
      omega
    · exact relZL_same ls z h l hl hb
theorem relZL_none : ∀ (ls : List MendLink) (z : Bool × List Int), (∀ l ∈ ls, l.Back = 0 → tm z.2 (nd l.From) < tm z.2 (nd l.To)) → relZL ls z = z
  | [], _, _ => rfl
  | l :: ls, z, h => by
    have e : relZ l z = z := by
      unfold relZ
      rw [if_neg]
      rintro ⟨h1, h2⟩
      have := h l (List.mem_cons_self ..) h1
      omega
    rw [show relZL (l :: ls) z = relZL ls (relZ l z) from rfl, e]
    exact relZL_none ls z fun b hb => h b (List.mem_cons_of_mem _ hb)
/-- the first of the order stand still -/
def Still (x : MendRound) (i : Nat) (t : List Int) : Prop := ∀ v, Py x i v → ∀ l ∈ x.Links, l.Back = 0 → nd l.To = v → tm t (nd l.From) < tm t v
theorem still_from {i : Nat} {l : MendLink} (hl : l ∈ x.Links) (hb : l.Back = 0) (h : Py x (i + 1) (nd l.To)) : Py x i (nd l.From) := h l hl hb rfl
theorem pass_still (hx : ROk x) {i : Nat} : ∀ (ls : List MendLink) (z : Bool × List Int), (∀ l ∈ ls, l ∈ x.Links) → z.2.length = x.Plan.length → Still x i z.2 →
    (∀ v, Py x i v → tm (relZL ls z).2 v = tm z.2 v) ∧ ∀ l ∈ ls, l.Back = 0 → Py x i (nd l.From) → tm (relZL ls z).2 (nd l.From) < tm (relZL ls z).2 (nd l.To)
  | [], z, _, _, _ => ⟨fun v _ => rfl, fun l hl => by cases hl⟩
  | b :: ls, z, h, hz, hs => by
    have hb := h b (List.mem_cons_self ..)
    have ob := hx.links b hb
    have hz' : (relZ b z).2.length = x.Plan.length := by rw [relZ_len]; exact hz
    have same : ∀ v, Py x i v → tm (relZ b z).2 v = tm z.2 v := by
      intro v hv
      rw [relZ_tm ob hz, if_neg]
      rintro ⟨e, h1, h2⟩
      have := hs v hv b hb h1 e.symm
      rw [e] at this
      omega
    have hs' : Still x i (relZ b z).2 := by
      intro v hv l hl hb' ht
      rw [same v hv]
      cases i with
      | zero => exact hv.elim
      | succ i =>
        have hf := Py.up x i _ (hv l hl hb' ht)
        rw [same _ hf]
        exact hs v hv l hl hb' ht
    obtain ⟨i1, i2⟩ := pass_still hx ls (relZ b z) (fun c hc => h c (List.mem_cons_of_mem _ hc)) hz' hs'
    refine ⟨fun v hv => by rw [show relZL (b :: ls) z = relZL ls (relZ b z) from rfl, i1 v hv, same v hv], fun l hl hlb hp => ?_⟩
    rw [show relZL (b :: ls) z = relZL ls (relZ b z) from rfl]
    rcases List.mem_cons.1 hl with rfl | hl
    · have k1 : tm (relZ l z).2 (nd l.From) < tm (relZ l z).2 (nd l.To) := by
        rw [same _ hp, relZ_tm ob hz]
        by_cases c : nd l.To = nd l.To ∧ l.Back = 0 ∧ tm z.2 (nd l.To) ≤ tm z.2 (nd l.From)
        · rw [if_pos c]; omega
        · rw [if_neg c]
          have : ¬ tm z.2 (nd l.To) ≤ tm z.2 (nd l.From) := fun q => c ⟨rfl, hlb, q⟩
          omega
      rw [i1 _ hp]
      have := relZL_mono ls (relZ l z) (fun c hc => hx.links c (h c (List.mem_cons_of_mem _ hc))) hz' (nd l.To)
      omega
    · exact i2 l hl hlb hp
theorem ring_loop3 (hx : ROk x) : ∀ (ls : List MendLink) (z : Bool × List Int) (B : Int), (∀ l ∈ ls, LkOk x l) → z.2.length = x.Plan.length → (∀ v, v < x.Plan.length → 0 ≤ tm z.2 v) → (∀ v, v < x.Plan.length → tm z.2 v ≤ B) → B + ls.length ≤ 1000000 →
    MendRoundring.loop3 ls z.1 z.2 = some (relZL ls z)
  | [], _, _, _, _, _, _, _ => rfl
  | l :: ls, z, B, h, hz, h0, hB, hs => by
    have ol := h l (List.mem_cons_self ..)
    obtain ⟨d1, d2⟩ := ol.nd
    have f0 := ol.f0
    have f1 := ol.f1
    have t0 := ol.t0
    have t1 := ol.t1
    have b1 := hB _ d1
    have b2 := h0 _ d1
    simp only [List.length_cons, Int.natCast_add, Int.natCast_one] at hs
    have hnext := ring_loop3 hx ls (relZ l z) (B + 1) (fun c hc => h c (List.mem_cons_of_mem _ hc)) (by rw [relZ_len]; exact hz) (fun v hv => Int.le_trans (h0 v hv) (relZ_mono ol hz v)) (fun v hv => by
      rw [relZ_tm ol hz]
      have := hB v hv
      split <;> omega) (by omega)
    rw [MendRoundring.loop3, gx_tm f0 (by rw [hz]; exact f1), gx_tm t0 (by rw [hz]; exact t1)]
    simp only [Option.bind_some]
    by_cases c : l.Back = 0 ∧ tm z.2 (nd l.To) ≤ tm z.2 (nd l.From)
    · have e : relZ l z = (true, z.2.set (nd l.To) (tm z.2 (nd l.From) + 1)) := if_pos c
      rw [if_pos (by simpa using c.1), decide_eq_true c.2]
      simp only [Option.bind_some, if_true]
      rw [w64_id (by omega), ix_in t0 (by rw [hz]; exact t1), sx_in t0 (by rw [hz]; exact t1)]
      simp only [Option.bind_some]
      rw [e] at hnext
      rw [show relZL (l :: ls) z = relZL ls (relZ l z) from rfl, e]
      exact hnext
    · have e : relZ l z = z := if_neg c
      have e2 : (if (l.Back == 0) = true then some (decide (tm z.2 (nd l.To) ≤ tm z.2 (nd l.From))) else some false) = some false := by
        by_cases c1 : l.Back = 0
        · rw [if_pos (by simpa using c1), decide_eq_false (fun q => c ⟨c1, q⟩)]
        · rw [if_neg (by simpa using c1)]
      rw [e2]
      simp only [Option.bind_some, Bool.false_eq_true, if_false]
      rw [e] at hnext
      rw [show relZL (l :: ls) z = relZL ls (relZ l z) from rfl, e]
      exact hnext
theorem ring_loop2 (hx : ROk x) : ∀ (m i : Nat) (t : List Int), i + m = x.Plan.length + 2 → 1 ≤ m → t.length = x.Plan.length → (∀ v, v < x.Plan.length → 0 ≤ tm t v) → (∀ v, v < x.Plan.length → tm t v ≤ 24 * i) → Still x i t → (i = x.Plan.length + 1 → ¬ Zf x) → ∀ fu, m ≤ fu →
    (MendRoundring.loop2 x fu ((i : Nat) : Int) t = some (.ret false) ∧ Zf x) ∨ (∃ a b, MendRoundring.loop2 x fu ((i : Nat) : Int) t = some (.next (a, b)) ∧ ¬ Zf x) := by
  intro m
  have n1 := hx.n1
  have k1 := hx.k1
  induction m with
  | zero => intro i t _ h; omega
  | succ m ih =>
    intro i t him _ ht h0 hB hs hno fu hfu
    obtain ⟨fu, rfl⟩ : ∃ f, fu = f + 1 := ⟨fu - 1, by omega⟩
    rw [MendRoundring.loop2, w64_id (by omega)]
    by_cases c : i = x.Plan.length + 1
    · rw [if_neg (by simp; omega)]
      exact .inr ⟨_, _, rfl, hno c⟩
    · rw [if_pos (by simp; omega), ring_loop3 hx x.Links (false, t) (24 * i) hx.links ht h0 hB (by omega)]
      simp only [Option.bind_some]
      obtain ⟨p1, p2⟩ := pass_still hx (i := i) x.Links (false, t) (fun l hl => hl) ht hs
      have hmono := relZL_mono x.Links (false, t) hx.links ht
      cases hc : (relZL x.Links (false, t)).1 with
      | false =>
        left
        exact ⟨rfl, tm t, relZL_same x.Links (false, t) hc⟩
      | true =>
        simp only [Bool.not_true, Bool.false_eq_true, if_false]
        rw [w64_id (by omega)]
        have := ih (i + 1) (relZL x.Links (false, t)).2 (by omega) (by omega) (by rw [relZL_len]; exact ht) (fun v hv => Int.le_trans (h0 v hv) (hmono v)) (fun v hv => by
          have := relZL_ub x.Links (false, t) (24 * i) hx.links ht hB v hv
          simp only [Int.natCast_add, Int.natCast_one]
          omega) (fun v hv l hl hb hto => by
            rw [← hto]
            exact p2 l hl hb (hv l hl hb hto)) (fun e hz => by
            have hi : i = x.Plan.length := by omega
            have all := py_all hx hz
            have : relZL x.Links (false, t) = (false, t) := relZL_none x.Links (false, t) fun l hl hb => by
              have := hs (nd l.To) (by rw [hi]; exact all _ (hx.links l hl).nd.2) l hl hb rfl
              exact this
            rw [this] at hc
            cases hc) fu (by omega)
        simpa only [Int.natCast_add, Int.natCast_one] using this
theorem ring_run (hx : ROk x) {fu : Nat} (hf : 20 ≤ fu) : ∃ b, MendRoundring fu x = some b ∧ (b = false ↔ Zf x) := by
  have n1 := hx.n1
  unfold MendRoundring
  rw [mks_in (by omega)]
  simp only [Option.bind_some]
  have hrep : ∀ v, tm (List.replicate x.Plan.length (0 : Int)) v = 0 := by
    intro v; unfold tm; rw [List.getElem?_replicate]; split <;> rfl
  have h := ring_loop2 hx (x.Plan.length + 2) 0 (List.replicate x.Plan.length 0) (by omega) (by omega) (by simp) (fun v _ => by rw [hrep]; omega) (fun v _ => by rw [hrep]; omega) (fun v hv => hv.elim) (fun e => by omega) fu (by omega)
  rcases h with ⟨e, hz⟩ | ⟨a, b, e, hz⟩
  · have e' : MendRoundring.loop2 x fu 0 (List.replicate x.Plan.length 0) = some (.ret false) := e
    rw [e']
    exact ⟨false, rfl, fun _ => hz, fun _ => rfl⟩
  · have e' : MendRoundring.loop2 x fu 0 (List.replicate x.Plan.length 0) = some (.next (a, b)) := e
    rw [e']
    exact ⟨true, rfl, fun q => (by cases q), fun q => absurd q hz⟩
end
/-! delays, period by period -/
theorem slice_sum_set : ∀ (l : List Int) (i : Nat) (x : Int), i < l.length → (l.set i x).sum = l.sum - tm l i + x
  | [], i, x, h => absurd h (Nat.not_lt_zero _)
  | a :: l, 0, x, _ => by simp [tm]; omega
  | a :: l, i + 1, x, h => by
    have := slice_sum_set l i x (by simpa using h)
    simp only [List.set_cons_succ, List.sum_cons, this]
    have : tm (a :: l) (i + 1) = tm l i := by simp [tm]
    rw [this]; omega
def row (g : List (List Int)) (k : Nat) : List Int := (g[k]?).getD []
def gv (g : List (List Int)) (k v : Nat) : Int := tm (row g k) v
def gsum (g : List (List Int)) : Int := (g.map List.sum).sum
theorem row_set {g : List (List Int)} {k j : Nat} {r : List Int} (h : k < g.length) : row (g.set k r) j = if j = k then r else row g j := by
  unfold row
  by_cases c : j = k
  · subst c; rw [if_pos rfl, List.getElem?_set_self h]; rfl
  · rw [if_neg c, List.getElem?_set_ne (fun e => c e.symm)]
theorem gx_row {g : List (List Int)} {i : Int} (h0 : 0 ≤ i) (h1 : i < g.length) : gx g i = some (row g (nd i)) := by
  have h : i.toNat < g.length := by omega
  rw [gx_toNat h0 h]; simp [row, nd, h]
theorem gx_rowN {g : List (List Int)} {k : Nat} (h : k < g.length) : gx g ((k : Nat) : Int) = some (row g k) := by
  rw [gx_at h]; simp [row, h]
theorem gv_set {g : List (List Int)} {k v : Nat} {a : Int} (h : k < g.length) (hv : v < (row g k).length) (j u : Nat) : gv (g.set k ((row g k).set v a)) j u = if j = k ∧ u = v then a else gv g j u := by
  unfold gv
  rw [row_set h]
  by_cases c : j = k
  · subst c
    rw [if_pos rfl, tm_set hv]
    by_cases e : u = v
    · rw [if_pos e, if_pos ⟨rfl, e⟩]
    · rw [if_neg e, if_neg (fun q => e q.2)]
  · rw [if_neg c, if_neg (fun q => c q.1)]
theorem gsum_set : ∀ (g : List (List Int)) (k : Nat) (r : List Int), k < g.length → gsum (g.set k r) = gsum g - (row g k).sum + r.sum
  | [], k, r, h => absurd h (Nat.not_lt_zero _)
  | a :: g, 0, r, _ => by simp [gsum, row]; omega
  | a :: g, k + 1, r, h => by
    have := gsum_set g k r (by simpa using h)
    unfold gsum at this ⊢
    simp only [List.set_cons_succ, List.map_cons, List.sum_cons, this]
    have : row (a :: g) (k + 1) = row g k := by simp [row]
    rw [this]; omega
def Shape (n : Nat) (g : List (List Int)) (R : Nat) : Prop := g.length = R ∧ ∀ k, k < R → (row g k).length = n
def ini (l : List MendFirst) (k v : Nat) : Int := l.foldl (fun m f => if f.Period = ((k : Nat) : Int) ∧ nd f.Event = v then mx m f.Secs else m) 0
structure FOk (x : MendRound) (f : MendFirst) : Prop where
  e0 : 0 ≤ f.Event
  e1 : f.Event < x.Plan.length
  p0 : 0 ≤ f.Period
  p1 : f.Period < 60
  s0 : 0 ≤ f.Secs
  s1 : f.Secs ≤ 28800
theorem mx2 (a b : Int) : a ≤ mx a b ∧ (mx a b = a ∨ mx a b = b) := by unfold mx; split <;> omega
theorem ini_bd {x : MendRound} {k v : Nat} : ∀ (l : List MendFirst) (m : Int), (∀ f ∈ l, FOk x f) → 0 ≤ m → m ≤ 28800 →
    0 ≤ l.foldl (fun m f => if f.Period = ((k : Nat) : Int) ∧ nd f.Event = v then mx m f.Secs else m) m ∧ l.foldl (fun m f => if f.Period = ((k : Nat) : Int) ∧ nd f.Event = v then mx m f.Secs else m) m ≤ 28800
  | [], m, _, h0, h1 => ⟨h0, h1⟩
  | f :: l, m, h, h0, h1 => by
    have hf := h f (List.mem_cons_self ..)
    have s0 := hf.s0
    have s1 := hf.s1
    obtain ⟨m1, m2⟩ := mx2 m f.Secs
    simp only [List.foldl_cons]
    refine ini_bd l _ (fun b hb => h b (List.mem_cons_of_mem _ hb)) ?_ ?_
    · split <;> omega
    · split <;> omega
structure SolD (x : MendRound) (l : List MendFirst) (P : Nat) (S : Nat → Nat → Int) : Prop where
  ge : ∀ k, k < P → ∀ v, v < x.Plan.length → ini l k v ≤ S k v
  feas : ∀ k, k < P → ∀ a ∈ x.Links, nd a.Back ≤ k → S (k - nd a.Back) (nd a.From) - sl x a ≤ S k (nd a.To)
theorem sol_const {x : MendRound} (hx : ROk x) {l : List MendFirst} (hl : ∀ f ∈ l, FOk x f) (P : Nat) : SolD x l P (fun _ _ => 28800) :=
  ⟨fun k _ v _ => (ini_bd l 0 hl (by omega) (by omega)).2, fun k _ a ha _ => by have := (hx.links a ha).s0; omega⟩
structure GI (x : MendRound) (l : List MendFirst) (P R : Nat) (g : List (List Int)) : Prop where
  shape : Shape x.Plan.length g R
  ge : ∀ k, k < R → ∀ v, v < x.Plan.length → ini l k v ≤ gv g k v
  le : ∀ S, SolD x l P S → ∀ k, k < R → ∀ v, v < x.Plan.length → gv g k v ≤ S k v
theorem GI.bd {x : MendRound} (hx : ROk x) {l : List MendFirst} (hl : ∀ f ∈ l, FOk x f) {P R : Nat} {g : List (List Int)} (h : GI x l P R g) : ∀ k, k < R → ∀ v, v < x.Plan.length → 0 ≤ gv g k v ∧ gv g k v ≤ 28800 := by
  intro k hk v hv
  exact ⟨Int.le_trans (ini_bd l 0 hl (by omega) (by omega)).1 (h.ge k hk v hv), h.le _ (sol_const hx hl P) k hk v hv⟩
def relG (x : MendRound) (k : Nat) (a : MendLink) (z : Bool × List (List Int)) : Bool × List (List Int) :=
  if nd a.Back ≤ k ∧ gv z.2 (k - nd a.Back) (nd a.From) - sl x a > gv z.2 k (nd a.To) then (true, z.2.set k ((row z.2 k).set (nd a.To) (gv z.2 (k - nd a.Back) (nd a.From) - sl x a))) else z
def rowP (x : MendRound) (k : Nat) (ls : List MendLink) (z : Bool × List (List Int)) : Bool × List (List Int) := ls.foldl (fun z a => relG x k a z) z
section
variable {x : MendRound} {l : List MendFirst} {P R : Nat}
theorem relG_gi {k : Nat} (hk : k < R) (hR : R ≤ P) {a : MendLink} (ha : a ∈ x.Links) (hx : ROk x) {z : Bool × List (List Int)} (h : GI x l P R z.2) : GI x l P R (relG x k a z).2 ∧ gsum z.2 ≤ gsum (relG x k a z).2 ∧ (∀ j, j < k → row (relG x k a z).2 j = row z.2 j) := by
  obtain ⟨d1, d2⟩ := (hx.links a ha).nd
  have hkl : k < z.2.length := by rw [h.shape.1]; exact hk
  have hrl := h.shape.2 k hk
  unfold relG
  by_cases c : nd a.Back ≤ k ∧ gv z.2 (k - nd a.Back) (nd a.From) - sl x a > gv z.2 k (nd a.To)
  · rw [if_pos c]
    have hset := gv_set (a := gv z.2 (k - nd a.Back) (nd a.From) - sl x a) hkl (show nd a.To < (row z.2 k).length by rw [hrl]; exact d2)
    refine ⟨⟨⟨by simpa using h.shape.1, fun j hj => ?_⟩, fun j hj v hv => ?_, fun S hS j hj v hv => ?_⟩, ?_, fun j hj => ?_⟩
    · show (row (z.2.set k _) j).length = _
      rw [row_set hkl]
      split
      · simpa using hrl
      · exact h.shape.2 j hj
    · show _ ≤ gv (z.2.set k _) j v
      rw [hset]
      have := h.ge j hj v hv
      split
      · rename_i e; rw [e.1, e.2] at this ⊢; omega
      · exact this
    · show gv (z.2.set k _) j v ≤ _
      rw [hset]
      split
      · rename_i e
        rw [e.1, e.2]
        have h1 := hS.feas k (by omega) a ha c.1
        have h2 := h.le S hS (k - nd a.Back) (by omega) _ d1
        omega
      · exact h.le S hS j hj v hv
    · show _ ≤ gsum (z.2.set k _)
      rw [gsum_set _ _ _ hkl, slice_sum_set _ _ _ (by rw [hrl]; exact d2)]
      have : gv z.2 k (nd a.To) = tm (row z.2 k) (nd a.To) := rfl
      omega
    · show row (z.2.set k _) j = _
      rw [row_set hkl, if_neg (by omega)]
  · rw [if_neg c]
    exact ⟨h, Int.le_refl _, fun _ _ => rfl⟩
theorem rowP_gi {k : Nat} (hk : k < R) (hR : R ≤ P) (hx : ROk x) : ∀ (ls : List MendLink) (z : Bool × List (List Int)), (∀ a ∈ ls, a ∈ x.Links) → GI x l P R z.2 → GI x l P R (rowP x k ls z).2 ∧ gsum z.2 ≤ gsum (rowP x k ls z).2 ∧ (∀ j, j < k → row (rowP x k ls z).2 j = row z.2 j)
  | [], z, _, h => ⟨h, Int.le_refl _, fun _ _ => rfl⟩
  | a :: ls, z, hl, h => by
    obtain ⟨h1, h2, h3⟩ := relG_gi hk hR (hl a (List.mem_cons_self ..)) hx h
    obtain ⟨i1, i2, i3⟩ := rowP_gi hk hR hx ls (relG x k a z) (fun b hb => hl b (List.mem_cons_of_mem _ hb)) h1
    exact ⟨i1, Int.le_trans h2 i2, fun j hj => (i3 j hj).trans (h3 j hj)⟩
theorem rowP_true {k : Nat} : ∀ (ls : List MendLink) (z : Bool × List (List Int)), z.1 = true → (rowP x k ls z).1 = true
  | [], _, h => h
  | a :: ls, z, h => rowP_true ls (relG x k a z) (by unfold relG; split <;> simp [h])
def RowOk (x : MendRound) (g : List (List Int)) (k : Nat) (ls : List MendLink) : Prop := ∀ a ∈ ls, nd a.Back ≤ k → gv g (k - nd a.Back) (nd a.From) - sl x a ≤ gv g k (nd a.To)
theorem rowP_same {k : Nat} : ∀ (ls : List MendLink) (z : Bool × List (List Int)), (rowP x k ls z).1 = false → rowP x k ls z = z ∧ RowOk x z.2 k ls
  | [], z, _ => ⟨rfl, fun a ha => by cases ha⟩
  | b :: ls, z, h => by
    have e : relG x k b z = z ∧ ¬ (nd b.Back ≤ k ∧ gv z.2 (k - nd b.Back) (nd b.From) - sl x b > gv z.2 k (nd b.To)) := by
      by_cases c : nd b.Back ≤ k ∧ gv z.2 (k - nd b.Back) (nd b.From) - sl x b > gv z.2 k (nd b.To)
      · exfalso
        have := rowP_true (x := x) (k := k) ls (relG x k b z) (by unfold relG; rw [if_pos c])
        rw [show rowP x k (b :: ls) z = rowP x k ls (relG x k b z) from rfl, this] at h
        cases h
      · exact ⟨by unfold relG; rw [if_neg c], c⟩
    rw [show rowP x k (b :: ls) z = rowP x k ls (relG x k b z) from rfl, e.1] at h ⊢
    obtain ⟨i1, i2⟩ := rowP_same ls z h
    refine ⟨i1, fun a ha hb => ?_⟩
    rcases List.mem_cons.1 ha with rfl | ha
    · have := e.2
      refine Classical.byContradiction fun q => this ⟨hb, by omega⟩
    · exact i2 a ha hb
theorem rowP_grow {k : Nat} (hk : k < R) (hR : R ≤ P) (hx : ROk x) : ∀ (ls : List MendLink) (z : Bool × List (List Int)), (∀ a ∈ ls, a ∈ x.Links) → GI x l P R z.2 → z.1 = false → (rowP x k ls z).1 = true → gsum z.2 + 1 ≤ gsum (rowP x k ls z).2
  | [], z, _, _, h, h2 => by rw [show rowP x k [] z = z from rfl, h] at h2; cases h2
  | a :: ls, z, hl, h, hz, ht => by
    have ha := hl a (List.mem_cons_self ..)
    obtain ⟨h1, h2, h3⟩ := relG_gi hk hR ha hx h
    obtain ⟨i1, i2, i3⟩ := rowP_gi hk hR hx ls (relG x k a z) (fun b hb => hl b (List.mem_cons_of_mem _ hb)) h1
    rw [show rowP x k (a :: ls) z = rowP x k ls (relG x k a z) from rfl] at ht ⊢
    obtain ⟨d1, d2⟩ := (hx.links a ha).nd
    have hkl : k < z.2.length := by rw [h.shape.1]; exact hk
    have hrl := h.shape.2 k hk
    by_cases c : nd a.Back ≤ k ∧ gv z.2 (k - nd a.Back) (nd a.From) - sl x a > gv z.2 k (nd a.To)
    · have e : relG x k a z = (true, z.2.set k ((row z.2 k).set (nd a.To) (gv z.2 (k - nd a.Back) (nd a.From) - sl x a))) := if_pos c
      have : gsum z.2 + 1 ≤ gsum (relG x k a z).2 := by
        rw [e]
        show _ ≤ gsum (z.2.set k _)
        rw [gsum_set _ _ _ hkl, slice_sum_set _ _ _ (by rw [hrl]; exact d2)]
        have : gv z.2 k (nd a.To) = tm (row z.2 k) (nd a.To) := rfl
        omega
      omega
    · have e : relG x k a z = z := if_neg c
      rw [e] at ht ⊢
      exact rowP_grow hk hR hx ls z (fun b hb => hl b (List.mem_cons_of_mem _ hb)) h hz ht
theorem sum_le (B : Int) : ∀ (r : List Int), (∀ v, v < r.length → tm r v ≤ B) → r.sum ≤ r.length * B
  | [], _ => by simp
  | a :: r, h => by
    have i := sum_le B r (fun v hv => by have := h (v + 1) (by simpa using hv); simpa [tm] using this)
    have h0 := h 0 (by simp)
    simp only [tm, List.getElem?_cons_zero, Option.getD_some] at h0
    simp only [List.sum_cons, List.length_cons, Int.natCast_add, Int.natCast_one, Int.add_mul, Int.one_mul]
    omega
theorem gsum_le : ∀ (g : List (List Int)), (∀ k, k < g.length → (row g k).sum ≤ 230400) → gsum g ≤ 230400 * g.length
  | [], _ => by simp [gsum]
  | a :: g, h => by
    have i := gsum_le g (fun k hk => by have := h (k + 1) (by simpa using hk); simpa [row] using this)
    have h0 := h 0 (by simp)
    simp only [row, List.getElem?_cons_zero, Option.getD_some] at h0
    unfold gsum at i ⊢
    simp only [List.map_cons, List.sum_cons, List.length_cons, Int.natCast_add, Int.natCast_one]
    omega
theorem GI.sum (hx : ROk x) (hl : ∀ f ∈ l, FOk x f) (hP : P ≤ 60) (hR : R ≤ P) {g : List (List Int)} (h : GI x l P R g) : gsum g ≤ 13824000 := by
  have n1 := hx.n1
  have := gsum_le g fun k hk => by
    rw [h.shape.1] at hk
    have := sum_le 28800 (row g k) fun v hv => by rw [h.shape.2 k hk] at hv; exact (h.bd hx hl k hk v hv).2
    rw [h.shape.2 k hk] at this
    have : (x.Plan.length : Int) * 28800 ≤ 8 * 28800 := Int.mul_le_mul_of_nonneg_right (by omega) (by omega)
    omega
  rw [h.shape.1] at this
  omega
theorem link_slack (hx : ROk x) {a : MendLink} (ha : a ∈ x.Links) : MendRoundslack x a = some (sl x a) := by
  have h := hx.links a ha
  exact (slack_some hx.p0 hx.p1 hx.plan h.f0 h.f1 h.t0 h.t1 h.n0 h.n1 h.b0 h.b1).1
/-- all rows, one after the other -/
def sweep (x : MendRound) : Nat → Nat → Bool × List (List Int) → Bool × List (List Int)
  | 0, _, z => z
  | m + 1, k, z => sweep x m (k + 1) (rowP x k x.Links z)
theorem sweep_true : ∀ (m k : Nat) (z : Bool × List (List Int)), z.1 = true → (sweep x m k z).1 = true
  | 0, _, _, h => h
  | m + 1, k, z, h => sweep_true m (k + 1) _ (rowP_true x.Links z h)
theorem sweep_same : ∀ (m k : Nat) (z : Bool × List (List Int)), (sweep x m k z).1 = false → sweep x m k z = z ∧ ∀ j, k ≤ j → j < k + m → RowOk x z.2 j x.Links
  | 0, k, z, _ => ⟨rfl, fun j h1 h2 => by omega⟩
  | m + 1, k, z, h => by
    have hf : (rowP x k x.Links z).1 = false := by
      cases q : (rowP x k x.Links z).1 with
      | false => rfl
      | true =>
        have := sweep_true (x := x) m (k + 1) _ q
        rw [show sweep x (m + 1) k z = sweep x m (k + 1) (rowP x k x.Links z) from rfl, this] at h
        cases h
    obtain ⟨e, ok⟩ := rowP_same x.Links z hf
    rw [show sweep x (m + 1) k z = sweep x m (k + 1) (rowP x k x.Links z) from rfl, e] at h ⊢
    obtain ⟨i1, i2⟩ := sweep_same m (k + 1) z h
    refine ⟨i1, fun j h1 h2 => ?_⟩
    by_cases c : j = k
    · subst c; exact ok
    · exact i2 j (by omega) (by omega)
theorem sweep_grow (hx : ROk x) : ∀ (m k : Nat) (z : Bool × List (List Int)), m + k = P → GI x l P P z.2 → z.1 = false → (sweep x m k z).1 = true → gsum z.2 + 1 ≤ gsum (sweep x m k z).2
  | 0, k, z, _, _, h, h2 => by rw [show sweep x 0 k z = z from rfl, h] at h2; cases h2
  | m + 1, k, z, hm, hg, h, h2 => by
    have hk : k < P := by omega
    obtain ⟨g1, g2, _⟩ := rowP_gi hk (Nat.le_refl P) hx x.Links z (fun a ha => ha) hg
    have mono : ∀ (m k : Nat) (z : Bool × List (List Int)), m + k = P → GI x l P P z.2 → gsum z.2 ≤ gsum (sweep x m k z).2 := by
      intro m
      induction m with
      | zero => intro k z _ _; exact Int.le_refl _
      | succ m ih =>
        intro k z hm h
        obtain ⟨g1, g2, _⟩ := rowP_gi (show k < P by omega) (Nat.le_refl P) hx x.Links z (fun a ha => ha) h
        exact Int.le_trans g2 (ih (k + 1) _ (by omega) g1)
    rw [show sweep x (m + 1) k z = sweep x m (k + 1) (rowP x k x.Links z) from rfl] at h2 ⊢
    cases q : (rowP x k x.Links z).1 with
    | true =>
      have := rowP_grow hk (Nat.le_refl P) hx x.Links z (fun a ha => ha) hg h q
      have := mono m (k + 1) _ (by omega) g1
      omega
    | false =>
      have := sweep_grow hx m (k + 1) _ (by omega) g1 q h2
      omega
/-- the least delays -/
structure Fin (x : MendRound) (l : List MendFirst) (P : Nat) (g : List (List Int)) : Prop where
  gi : GI x l P P g
  ok : ∀ k, k < P → RowOk x g k x.Links
theorem Fin.one {g h : List (List Int)} (a : Fin x l P g) (b : Fin x l P h) : g = h := by
  have sol : ∀ {g : List (List Int)}, Fin x l P g → SolD x l P (gv g) := fun f => ⟨f.gi.ge, fun k hk a ha hb => f.ok k hk a ha hb⟩
  refine List.ext_getElem (by rw [a.gi.shape.1, b.gi.shape.1]) fun k h1 h2 => ?_
  have hk : k < P := by rw [← a.gi.shape.1]; exact h1
  have r1 : row g k = g[k] := by simp [row, h1]
  have r2 : row h k = h[k] := by simp [row, h2]
  rw [← r1, ← r2]
  refine List.ext_getElem (by rw [a.gi.shape.2 k hk, b.gi.shape.2 k hk]) fun v h3 h4 => ?_
  rw [← tm_get h3, ← tm_get h4]
  have hv : v < x.Plan.length := by rw [← a.gi.shape.2 k hk]; exact h3
  have i1 : gv g k v ≤ gv h k v := a.gi.le _ (sol b) k hk v hv
  have i2 : gv h k v ≤ gv g k v := b.gi.le _ (sol a) k hk v hv
  show gv g k v = gv h k v
  omega
/-! the program's way: one period, then the next -/
theorem row_app {g : List (List Int)} {r : List Int} {j : Nat} : row (g ++ [r]) j = if j = g.length then r else row g j := by
  unfold row
  by_cases c : j < g.length
  · rw [List.getElem?_append_left c, if_neg (by omega)]
  · rw [List.getElem?_append_right (by omega)]
    by_cases e : j = g.length
    · rw [if_pos e, show j - g.length = 0 by omega]; rfl
    · rw [if_neg e]
      have h1 : ([r] : List (List Int))[j - g.length]? = none := List.getElem?_eq_none (by simp; omega)
      rw [h1, List.getElem?_eq_none (by omega)]
theorem set_app {g : List (List Int)} {r s : List Int} : (g ++ [r]).set g.length s = g ++ [s] := by simp
/-- the periods ahead, the last one first -/
def Bf (out before : List (List Int)) : Prop := before.length = min out.length 3 ∧ ∀ i, i < before.length → before[i]? = some (row out (out.length - 1 - i))
theorem follow_loop2 (hx : ROk x) (hl : ∀ f ∈ l, FOk x f) {out before : List (List Int)} (hR : out.length + 1 ≤ P) (hP : P ≤ 60) (hb : Bf out before) : ∀ (ls : List MendLink) (ch : Bool) (now : List Int), (∀ a ∈ ls, a ∈ x.Links) → GI x l P (out.length + 1) (out ++ [now]) →
    ∃ ch' now', MendRoundfollow.loop2 x before ls ch now = some (ch', now') ∧ rowP x out.length ls (ch, out ++ [now]) = (ch', out ++ [now'])
  | [], ch, now, _, _ => ⟨ch, now, rfl, rfl⟩
  | a :: ls, ch, now, h, hg => by
    have ha := h a (List.mem_cons_self ..)
    have oa := hx.links a ha
    obtain ⟨d1, d2⟩ := oa.nd
    have f0 := oa.f0
    have f1 := oa.f1
    have t0 := oa.t0
    have t1 := oa.t1
    have b0 := oa.b0
    have b1 := oa.b1
    have s0 := oa.s0
    have s1 := oa.s1
    have hk : out.length < out.length + 1 := by omega
    have hrow : row (out ++ [now]) out.length = now := by rw [row_app, if_pos rfl]
    have hnl : now.length = x.Plan.length := by rw [← hrow]; exact hg.shape.2 _ hk
    have hg' := (relG_gi hk hR ha hx (z := (ch, out ++ [now])) hg).1
    have hto : gv (out ++ [now]) out.length (nd a.To) = tm now (nd a.To) := by unfold gv; rw [hrow]
    obtain ⟨hbl, hbr⟩ := hb
    -- what one link does
    have key : ∀ d : Int, nd a.Back ≤ out.length → gv (out ++ [now]) (out.length - nd a.Back) (nd a.From) = d →
        ∃ ch' now', (((if decide ((w64 (d - sl x a)) > tm now (nd a.To)) = true then ((ix now a.To).bind fun _ => ((sx now a.To (w64 (d - sl x a))).bind fun x152 => some (true, x152))) else some (ch, now)) : Option (Bool × (List Int))).bind fun q135 => MendRoundfollow.loop2 x before ls q135.1 q135.2) = some (ch', now') ∧ rowP x out.length (a :: ls) (ch, out ++ [now]) = (ch', out ++ [now']) := by
      intro d hbk hd
      obtain ⟨v0, v1⟩ := hg.bd hx hl (out.length - nd a.Back) (by omega) _ d1
      rw [hd] at v0 v1
      rw [w64_id (by omega), show rowP x out.length (a :: ls) (ch, out ++ [now]) = rowP x out.length ls (relG x out.length a (ch, out ++ [now])) from rfl]
      by_cases q : d - sl x a > tm now (nd a.To)
      · have e : relG x out.length a (ch, out ++ [now]) = (true, out ++ [now.set (nd a.To) (d - sl x a)]) := by
          unfold relG
          simp only [hd, hto, hrow]
          rw [if_pos ⟨hbk, q⟩, set_app]
        rw [if_pos (by simpa using q), ix_in t0 (by rw [hnl]; exact t1), sx_in t0 (by rw [hnl]; exact t1)]
        simp only [Option.bind_some]
        rw [e] at hg' ⊢
        exact follow_loop2 hx hl hR hP ⟨hbl, hbr⟩ ls true (now.set (nd a.To) (d - sl x a)) (fun b hb => h b (List.mem_cons_of_mem _ hb)) hg'
      · have e : relG x out.length a (ch, out ++ [now]) = (ch, out ++ [now]) := by
          unfold relG
          simp only [hd, hto]
          rw [if_neg (fun u => q u.2)]
        rw [if_neg (by simpa using q)]
        simp only [Option.bind_some]
        rw [e]
        exact follow_loop2 hx hl hR hP ⟨hbl, hbr⟩ ls ch now (fun b hb => h b (List.mem_cons_of_mem _ hb)) hg
    rw [MendRoundfollow.loop2]
    by_cases cb : a.Back > 0
    · rw [if_pos (by simpa using cb)]
      by_cases cl : a.Back > (before.length : Int)
      · rw [if_pos (by simpa using cl)]
        have e : relG x out.length a (ch, out ++ [now]) = (ch, out ++ [now]) := by
          unfold relG
          rw [if_neg]
          rintro ⟨u, _⟩
          unfold nd at u
          omega
        rw [show rowP x out.length (a :: ls) (ch, out ++ [now]) = rowP x out.length ls (relG x out.length a (ch, out ++ [now])) from rfl, e]
        exact follow_loop2 hx hl hR hP ⟨hbl, hbr⟩ ls ch now (fun b hb => h b (List.mem_cons_of_mem _ hb)) hg
      · rw [if_neg (by simpa using cl), w64_id (by omega)]
        have hi : nd a.Back - 1 < before.length := by unfold nd; omega
        have hbk : nd a.Back ≤ out.length := by unfold nd; omega
        have hbi : a.Back - 1 = ((nd a.Back - 1 : Nat) : Int) := by unfold nd; omega
        have hgb : gx before (a.Back - 1) = some (row out (out.length - nd a.Back)) := by
          rw [hbi, gx_nat, hbr _ hi, show out.length - 1 - (nd a.Back - 1) = out.length - nd a.Back by unfold nd; omega]
        have hnb : 1 ≤ nd a.Back := by unfold nd; omega
        have hro : row (out ++ [now]) (out.length - nd a.Back) = row out (out.length - nd a.Back) := by rw [row_app, if_neg (by omega)]
        have hrl : (row out (out.length - nd a.Back)).length = x.Plan.length := by rw [← hro]; exact hg.shape.2 _ (by omega)
        rw [hgb]
        simp only [Option.bind_some]
        rw [gx_tm f0 (by rw [hrl]; exact f1), link_slack hx ha, gx_tm t0 (by rw [hnl]; exact t1)]
        simp only [Option.bind_some]
        exact key _ hbk (by unfold gv; rw [hro])
    · have hb0 : nd a.Back = 0 := by unfold nd; omega
      rw [if_neg (by simpa using cb), gx_tm f0 (by rw [hnl]; exact f1), link_slack hx ha, gx_tm t0 (by rw [hnl]; exact t1)]
      simp only [Option.bind_some]
      exact key _ (by omega) (by rw [hb0, Nat.sub_zero]; unfold gv; rw [hrow])
theorem follow_loop1 (hx : ROk x) (hl : ∀ f ∈ l, FOk x f) {out before : List (List Int)} (hR : out.length + 1 ≤ P) (hP : P ≤ 60) (hb : Bf out before) : ∀ (m : Nat) (now : List Int), GI x l P (out.length + 1) (out ++ [now]) → 13824000 - gsum (out ++ [now]) + 2 ≤ m →
    ∃ b now', MendRoundfollow.loop1 x before m true now = some (b, now') ∧ GI x l P (out.length + 1) (out ++ [now']) ∧ RowOk x (out ++ [now']) out.length x.Links := by
  intro m
  induction m with
  | zero => intro now hg hm; have := hg.sum hx hl hP hR; omega
  | succ m ih =>
    intro now hg hm
    have hk : out.length < out.length + 1 := by omega
    obtain ⟨ch', now', e1, e2⟩ := follow_loop2 hx hl hR hP hb x.Links false now (fun a ha => ha) hg
    have hg2 := (rowP_gi hk hR hx x.Links (false, out ++ [now]) (fun a ha => ha) hg).1
    rw [e2] at hg2
    have hs := hg.sum hx hl hP hR
    have hs2 := hg2.sum hx hl hP hR
    rw [MendRoundfollow.loop1, if_pos rfl, e1]
    simp only [Option.bind_some]
    cases ch' with
    | true =>
      have := rowP_grow hk hR hx x.Links (false, out ++ [now]) (fun a ha => ha) hg rfl (by rw [e2])
      rw [e2] at this
      exact ih now' hg2 (by simp only at this hs2; omega)
    | false =>
      obtain ⟨e3, ok⟩ := rowP_same x.Links (false, out ++ [now]) (by rw [e2])
      rw [e2] at e3
      injection e3 with _ e3
      have hn : now' = now := by
        have := List.append_cancel_left e3
        injection this
      obtain ⟨m, rfl⟩ : ∃ k, m = k + 1 := ⟨m - 1, by omega⟩
      refine ⟨false, now', rfl, hg2, ?_⟩
      rw [hn]; exact ok
theorem now_loop (hx : ROk x) (k : Nat) : ∀ (l : List MendFirst) (now : List Int), (∀ f ∈ l, FOk x f) → now.length = x.Plan.length →
    ∃ now', MendSpread.loop4 ((k : Nat) : Int) l now = some now' ∧ now'.length = x.Plan.length ∧ ∀ v, tm now' v = l.foldl (fun m f => if f.Period = ((k : Nat) : Int) ∧ nd f.Event = v then mx m f.Secs else m) (tm now v)
  | [], now, _, h => ⟨now, rfl, h, fun _ => rfl⟩
  | f :: l, now, hf, h => by
    have of := hf f (List.mem_cons_self ..)
    have e0 := of.e0
    have e1 := of.e1
    have hfl : ∀ b ∈ l, FOk x b := fun b hb => hf b (List.mem_cons_of_mem _ hb)
    have hev : nd f.Event < now.length := by unfold nd; omega
    rw [MendSpread.loop4]
    by_cases c : f.Period = ((k : Nat) : Int)
    · rw [if_pos (by simpa using c), gx_tm e0 (by rw [h]; exact e1), ix_in e0 (by rw [h]; exact e1)]
      simp only [Option.bind_some]
      rw [sx_in e0 (by rw [h]; exact e1)]
      simp only [Option.bind_some]
      obtain ⟨now', q1, q2, q3⟩ := now_loop hx k l (now.set (nd f.Event) (mx (tm now (nd f.Event)) f.Secs)) hfl (by simpa using h)
      refine ⟨now', q1, q2, fun v => ?_⟩
      rw [q3 v, tm_set hev, List.foldl_cons]
      congr 1
      by_cases e : v = nd f.Event
      · rw [if_pos e, if_pos ⟨c, e.symm⟩, e]
      · rw [if_neg e, if_neg (fun q => e q.2.symm)]
    · rw [if_neg (by simpa using c)]
      simp only [Option.bind_some]
      obtain ⟨now', q1, q2, q3⟩ := now_loop hx k l now hfl h
      refine ⟨now', q1, q2, fun v => ?_⟩
      rw [q3 v, List.foldl_cons, if_neg (fun q => c q.1)]
theorem bf_next {out before : List (List Int)} {r : List Int} (hb : Bf out before) : Bf (out ++ [r]) ([r] ++ before.take (min before.length 2)) := by
  obtain ⟨h1, h2⟩ := hb
  refine ⟨by simp; omega, fun i hi => ?_⟩
  simp only [List.length_append, List.length_singleton, List.length_take] at hi ⊢
  cases i with
  | zero =>
    rw [row_app, if_pos (by omega)]
    rfl
  | succ i =>
    rw [row_app, if_neg (by omega)]
    simp only [List.singleton_append, List.getElem?_cons_succ]
    rw [List.getElem?_take, if_pos (by omega), h2 i (by omega)]
    congr 2
    omega
theorem spread_loop3 (hx : ROk x) (hl : ∀ f ∈ l, FOk x f) (hP : P ≤ 60) {fu : Nat} (hf : 13824002 ≤ fu) : ∀ (m : Nat) (out before : List (List Int)) (fm : Nat), m + out.length = P → m + 1 ≤ fm → GI x l P out.length out → (∀ k, k < out.length → RowOk x out k x.Links) → Bf out before →
    ∃ g a b, MendSpread.loop3 x l ((P : Nat) : Int) fu fm out before ((out.length : Nat) : Int) = some (g, a, b) ∧ Fin x l P g := by
  intro m
  have n1 := hx.n1
  induction m with
  | zero =>
    intro out before fm hm hfm hg hok hb
    obtain ⟨fm, rfl⟩ : ∃ k, fm = k + 1 := ⟨fm - 1, by omega⟩
    rw [MendSpread.loop3, if_neg (by simp; omega)]
    have : out.length = P := by omega
    refine ⟨out, _, _, rfl, ?_, ?_⟩
    · rw [this] at hg; exact hg
    · rw [this] at hok; exact hok
  | succ m ih =>
    intro out before fm hm hfm hg hok hb
    obtain ⟨fm, rfl⟩ : ∃ k, fm = k + 1 := ⟨fm - 1, by omega⟩
    have hR : out.length + 1 ≤ P := by omega
    rw [MendSpread.loop3, if_pos (by simp; omega), mks_in (by omega)]
    simp only [Option.bind_some]
    obtain ⟨now, q1, q2, q3⟩ := now_loop hx out.length l (List.replicate x.Plan.length 0) hl (by simp)
    rw [q1]
    simp only [Option.bind_some]
    have hz : ∀ v, tm (List.replicate x.Plan.length (0 : Int)) v = 0 := by
      intro v; unfold tm; rw [List.getElem?_replicate]; split <;> rfl
    have hv : ∀ v, tm now v = ini l out.length v := fun v => by rw [q3 v, hz]; rfl
    have gv_old : ∀ r j v, j < out.length → gv (out ++ [r]) j v = gv out j v := fun r j v hj => by unfold gv; rw [row_app, if_neg (by omega)]
    have gv_new : ∀ r v, gv (out ++ [r]) out.length v = tm r v := fun r v => by unfold gv; rw [row_app, if_pos rfl]
    have hgi : GI x l P (out.length + 1) (out ++ [now]) := by
      refine ⟨⟨by simp, fun k hk => ?_⟩, fun k hk v hv' => ?_, fun S hS k hk v hv' => ?_⟩
      · rw [row_app]
        split
        · exact q2
        · exact hg.shape.2 k (by omega)
      · by_cases c : k = out.length
        · rw [c, gv_new, hv]; exact Int.le_refl _
        · rw [gv_old _ _ _ (by omega)]; exact hg.ge k (by omega) v hv'
      · by_cases c : k = out.length
        · rw [c, gv_new, hv]; exact hS.ge _ (by omega) v hv'
        · rw [gv_old _ _ _ (by omega)]; exact hg.le S hS k (by omega) v hv'
    have hpos : 0 ≤ gsum (out ++ [now]) := by
      have pos : ∀ r : List Int, (∀ v, v < r.length → 0 ≤ tm r v) → 0 ≤ r.sum := by
        intro r
        induction r with
        | nil => intro _; simp
        | cons a r ih =>
          intro h
          have i := ih fun v hv => by have := h (v + 1) (by simpa using hv); simpa [tm] using this
          have h0 := h 0 (by simp)
          simp only [tm, List.getElem?_cons_zero, Option.getD_some] at h0
          simp only [List.sum_cons]
          omega
      have : ∀ g : List (List Int), (∀ k, k < g.length → 0 ≤ (row g k).sum) → 0 ≤ gsum g := by
        intro g
        induction g with
        | nil => intro _; simp [gsum]
        | cons a g ih =>
          intro h
          have i := ih fun k hk => by have := h (k + 1) (by simpa using hk); simpa [row] using this
          have h0 := h 0 (by simp)
          simp only [row, List.getElem?_cons_zero, Option.getD_some] at h0
          unfold gsum at i ⊢
          simp only [List.map_cons, List.sum_cons]
          omega
      refine this _ fun k hk => pos _ fun v hv' => ?_
      rw [hgi.shape.1] at hk
      rw [hgi.shape.2 k hk] at hv'
      exact (hgi.bd hx hl k hk v hv').1
    obtain ⟨b, now', e1, e2, e3⟩ := follow_loop1 hx hl hR hP hb fu now hgi (by omega)
    have hfo : MendRoundfollow fu x now before = some now' := by
      unfold MendRoundfollow
      have : SlicesCloneLint now = some now := by
        unfold SlicesCloneLint
        rw [apd_lt (a := []) (b := now) (by simp; omega)]
        simp
      rw [this, Option.bind_some, e1]
      rfl
    have hbl := hb.1
    have hmn : mn (before.length : Int) 2 = ((min before.length 2 : Nat) : Int) := by unfold mn; split <;> omega
    rw [hfo]
    simp only [Option.bind_some]
    rw [apd_lt (by simp; omega)]
    simp only [Option.bind_some]
    rw [hmn, cutl_in (by omega) (by omega) (by omega)]
    simp only [Option.bind_some, Int.toNat_natCast]
    rw [apd_lt (by simp; omega)]
    simp only [Option.bind_some]
    rw [w64_id (by omega)]
    have := ih (out ++ [now']) ([now'] ++ before.take (min before.length 2)) fm (by simp; omega) (by omega) (by simpa using e2) (fun k hk => ?_) (bf_next hb)
    · simpa using this
    · simp only [List.length_append, List.length_singleton] at hk
      by_cases c : k = out.length
      · rw [c]; exact e3
      · intro a ha hbk
        rw [gv_old _ _ _ (by omega), gv_old _ _ _ (by omega)]
        exact hok k (by omega) a ha hbk
end
/-! tables -/
theorem set_tm {r : List Int} {v : Nat} : r.set v (tm r v) = r := by
  refine List.ext_getElem? fun i => ?_
  by_cases e : i = v
  · subst e
    rcases Nat.lt_or_ge i r.length with h | h
    · rw [List.getElem?_set_self h, tm_get h, List.getElem?_eq_getElem h]
    · rw [List.getElem?_eq_none (by simpa using h), List.getElem?_eq_none h]
  · rw [List.getElem?_set_ne (fun q => e q.symm)]
theorem set_row {g : List (List Int)} {k : Nat} : g.set k (row g k) = g := by
  refine List.ext_getElem? fun i => ?_
  by_cases e : i = k
  · subst e
    rcases Nat.lt_or_ge i g.length with h | h
    · rw [List.getElem?_set_self h, List.getElem?_eq_getElem h]; simp [row, h]
    · rw [List.getElem?_eq_none (by simpa using h), List.getElem?_eq_none h]
  · rw [List.getElem?_set_ne (fun q => e q.symm)]
theorem drop_row {b : List (List Int)} {k : Nat} (h : k < b.length) : b.drop k = row b k :: b.drop (k + 1) := by
  rw [List.drop_eq_getElem_cons h]; simp [row, h]
theorem list_tm {a b : List Int} (hl : a.length = b.length) (h : ∀ v, v < a.length → tm a v = tm b v) : a = b := by
  refine List.ext_getElem hl fun v h1 h2 => ?_
  rw [← tm_get h1, ← tm_get h2]; exact h v h1

/-! ways along links, and rings -/
def lk (L : List MendLink) (i : Nat) : MendLink := (L[i]?).getD ⟨0, 0, 0, 0⟩
theorem lk_get {L : List MendLink} {i : Nat} (h : i < L.length) : lk L i = L[i] := by simp [lk, h]
def Wk (L : List MendLink) : Int → Int → List Nat → Prop
  | a, b, [] => a = b
  | a, b, i :: is => i < L.length ∧ (lk L i).From = a ∧ Wk L (lk L i).To b is
def sL (L : List MendLink) : List Nat → Int
  | [] => 0
  | i :: is => (lk L i).Len + sL L is
def sB (L : List MendLink) : List Nat → Int
  | [] => 0
  | i :: is => (lk L i).Back + sB L is
def src (L : List MendLink) (is : List Nat) : List Int := is.map fun i => (lk L i).From
section
variable {L : List MendLink}
theorem sL_app : ∀ p q : List Nat, sL L (p ++ q) = sL L p + sL L q
  | [], q => by simp [sL]
  | i :: p, q => by simp only [List.cons_append, sL, sL_app p q]; omega
theorem sB_app : ∀ p q : List Nat, sB L (p ++ q) = sB L p + sB L q
  | [], q => by simp [sB]
  | i :: p, q => by simp only [List.cons_append, sB, sB_app p q]; omega
theorem Wk.app : ∀ {p : List Nat} {a b c : Int} {q : List Nat}, Wk L a b p → Wk L b c q → Wk L a c (p ++ q)
  | [], a, b, c, q, h, k => by cases h; exact k
  | i :: p, a, b, c, q, h, k => ⟨h.1, h.2.1, h.2.2.app k⟩
theorem Wk.split : ∀ {p : List Nat} {a c : Int} {q : List Nat}, Wk L a c (p ++ q) → ∃ b, Wk L a b p ∧ Wk L b c q
  | [], a, c, q, h => ⟨a, rfl, h⟩
  | i :: p, a, c, q, h => by
    obtain ⟨b, h1, h2⟩ := Wk.split (p := p) h.2.2
    exact ⟨b, ⟨h.1, h.2.1, h1⟩, h2⟩
theorem Wk.head {a b : Int} {i : Nat} {is : List Nat} (h : Wk L a b (i :: is)) : (lk L i).From = a := h.2.1
end
structure RIn (x : MendRound) : Prop where
  ok : ROk x
  zf : Zf x
def Rng (L : List MendLink) (r : List Nat) : Prop := r ≠ [] ∧ (src L r).Nodup ∧ ∃ v, Wk L v v r
section
variable {x : MendRound}
theorem RIn.lk (h : RIn x) {i : Nat} (hi : i < x.Links.length) : LkOk x (lk x.Links i) := by rw [lk_get hi]; exact h.ok.links _ (List.getElem_mem hi)
theorem RIn.sums (h : RIn x) : ∀ {is : List Nat} {a b : Int}, Wk x.Links a b is → 0 ≤ sL x.Links is ∧ sL x.Links is ≤ 28800 * is.length ∧ 0 ≤ sB x.Links is ∧ sB x.Links is ≤ 3 * is.length
  | [], _, _, _ => by simp [sL, sB]
  | i :: is, a, b, w => by
    obtain ⟨h1, h2, h3, h4⟩ := h.sums w.2.2
    have k := h.lk w.1
    have k1 := k.n0; have k2 := k.n1; have k3 := k.b0; have k4 := k.b1
    simp only [sL, sB, List.length_cons, Int.natCast_add, Int.natCast_one]
    omega
end
section
variable {x : MendRound}
theorem not_nodup {l : List Int} (h : ¬ l.Nodup) : ∃ i j, i < j ∧ ∃ hj : j < l.length, ∃ hi : i < l.length, l[i] = l[j] := by
  refine Classical.byContradiction fun q => h ?_
  rw [List.nodup_iff_pairwise_ne, List.pairwise_iff_getElem]
  intro i j hi hj hij e
  exact q ⟨i, j, hij, hj, hi, e⟩
theorem nodup_len : ∀ (n : Nat) (l : List Nat), l.Nodup → (∀ a ∈ l, a < n) → l.length ≤ n
  | 0, l, _, h => by
    cases l with
    | nil => exact Nat.le_refl _
    | cons a l => exact absurd (h a (by simp)) (Nat.not_lt_zero _)
  | n + 1, l, hn, h => by
    have ih := nodup_len n (l.erase n) (hn.erase n) (fun a ha => by
      have h1 := (hn.mem_erase_iff).1 ha
      have := h a h1.2
      have := h1.1
      omega)
    rw [List.length_erase] at ih
    split at ih <;> omega
theorem Wk.snoc {L : List MendLink} {a b : Int} {is : List Nat} {i : Nat} (h : Wk L a b is) (hi : i < L.length) (hf : (lk L i).From = b) : Wk L a (lk L i).To (is ++ [i]) := h.app ⟨hi, hf, rfl⟩
theorem snoc_cases : ∀ (is : List Nat) (n : Nat), is.length = n + 1 → ∃ js i, is = js ++ [i] ∧ js.length = n := by
  intro is n h
  refine ⟨is.take n, is[n]'(by omega), ?_, by simp; omega⟩
  conv => lhs; rw [← List.take_append_drop n is]
  rw [List.drop_eq_getElem_cons (by omega), List.drop_eq_nil_of_le (by omega)]
theorem rep25 (m k : Nat) (h : k ≤ 25) : SlicesRepeatLint (m + 60) [(-1)] ((k : Nat) : Int) = some (List.replicate k (-1)) := by
  have h0 : SlicesRepeatLint (m + 60) [(-1)] 0 = some (List.replicate 0 (-1)) := by kernel_rfl
  have h1 : SlicesRepeatLint (m + 60) [(-1)] 1 = some (List.replicate 1 (-1)) := by kernel_rfl
  have h2 : SlicesRepeatLint (m + 60) [(-1)] 2 = some (List.replicate 2 (-1)) := by kernel_rfl
  have h3 : SlicesRepeatLint (m + 60) [(-1)] 3 = some (List.replicate 3 (-1)) := by kernel_rfl
  have h4 : SlicesRepeatLint (m + 60) [(-1)] 4 = some (List.replicate 4 (-1)) := by kernel_rfl
  have h5 : SlicesRepeatLint (m + 60) [(-1)] 5 = some (List.replicate 5 (-1)) := by kernel_rfl
  have h6 : SlicesRepeatLint (m + 60) [(-1)] 6 = some (List.replicate 6 (-1)) := by kernel_rfl
  have h7 : SlicesRepeatLint (m + 60) [(-1)] 7 = some (List.replicate 7 (-1)) := by kernel_rfl
  have h8 : SlicesRepeatLint (m + 60) [(-1)] 8 = some (List.replicate 8 (-1)) := by kernel_rfl
  have h9 : SlicesRepeatLint (m + 60) [(-1)] 9 = some (List.replicate 9 (-1)) := by kernel_rfl
  have h10 : SlicesRepeatLint (m + 60) [(-1)] 10 = some (List.replicate 10 (-1)) := by kernel_rfl
  have h11 : SlicesRepeatLint (m + 60) [(-1)] 11 = some (List.replicate 11 (-1)) := by kernel_rfl
  have h12 : SlicesRepeatLint (m + 60) [(-1)] 12 = some (List.replicate 12 (-1)) := by kernel_rfl
  have h13 : SlicesRepeatLint (m + 60) [(-1)] 13 = some (List.replicate 13 (-1)) := by kernel_rfl
  have h14 : SlicesRepeatLint (m + 60) [(-1)] 14 = some (List.replicate 14 (-1)) := by kernel_rfl
  have h15 : SlicesRepeatLint (m + 60) [(-1)] 15 = some (List.replicate 15 (-1)) := by kernel_rfl
  have h16 : SlicesRepeatLint (m + 60) [(-1)] 16 = some (List.replicate 16 (-1)) := by kernel_rfl
  have h17 : SlicesRepeatLint (m + 60) [(-1)] 17 = some (List.replicate 17 (-1)) := by kernel_rfl
  have h18 : SlicesRepeatLint (m + 60) [(-1)] 18 = some (List.replicate 18 (-1)) := by kernel_rfl
  have h19 : SlicesRepeatLint (m + 60) [(-1)] 19 = some (List.replicate 19 (-1)) := by kernel_rfl
  have h20 : SlicesRepeatLint (m + 60) [(-1)] 20 = some (List.replicate 20 (-1)) := by kernel_rfl
  have h21 : SlicesRepeatLint (m + 60) [(-1)] 21 = some (List.replicate 21 (-1)) := by kernel_rfl
  have h22 : SlicesRepeatLint (m + 60) [(-1)] 22 = some (List.replicate 22 (-1)) := by kernel_rfl
  have h23 : SlicesRepeatLint (m + 60) [(-1)] 23 = some (List.replicate 23 (-1)) := by kernel_rfl
  have h24 : SlicesRepeatLint (m + 60) [(-1)] 24 = some (List.replicate 24 (-1)) := by kernel_rfl
  have h25 : SlicesRepeatLint (m + 60) [(-1)] 25 = some (List.replicate 25 (-1)) := by kernel_rfl
  have hc : k = 0 ∨ k = 1 ∨ k = 2 ∨ k = 3 ∨ k = 4 ∨ k = 5 ∨ k = 6 ∨ k = 7 ∨ k = 8 ∨ k = 9 ∨ k = 10 ∨ k = 11 ∨ k = 12 ∨ k = 13 ∨ k = 14 ∨ k = 15 ∨ k = 16 ∨ k = 17 ∨ k = 18 ∨ k = 19 ∨ k = 20 ∨ k = 21 ∨ k = 22 ∨ k = 23 ∨ k = 24 ∨ k = 25 := by omega
  rcases hc with rfl | rfl | rfl | rfl | rfl | rfl | rfl | rfl | rfl | rfl | rfl | rfl | rfl | rfl | rfl | rfl | rfl | rfl | rfl | rfl | rfl | rfl | rfl | rfl | rfl | rfl
  · exact h0
  · exact h1
  · exact h2
  · exact h3
  · exact h4
  · exact h5
  · exact h6
  · exact h7
  · exact h8
  · exact h9
  · exact h10
  · exact h11
  · exact h12
  · exact h13
  · exact h14
  · exact h15
  · exact h16
  · exact h17
  · exact h18
  · exact h19
  · exact h20
  · exact h21
  · exact h22
  · exact h23
  · exact h24
  · exact h25
end
/-! passes that are done again until nothing changes, or a number of times -/
section
variable {α : Type} (step : MendLink → α → α)
def pass (ls : List MendLink) (r : α) : α := ls.foldl (fun r l => step l r) r
def Stable (ls : List MendLink) (r : α) : Prop := ∀ l ∈ ls, step l r = r
def it (ls : List MendLink) : Nat → α → α
  | 0, r => r
  | k + 1, r => it ls k (pass step ls r)
variable {step}
theorem pass_stable : ∀ {ls : List MendLink} {r : α}, Stable step ls r → pass step ls r = r
  | [], _, _ => rfl
  | l :: ls, r, h => by
    have h1 := h l (by simp)
    show pass step ls (step l r) = r
    rw [h1]
    exact pass_stable fun l hl => h l (by simp [hl])
theorem it_stable {ls : List MendLink} {r : α} (h : Stable step ls r) : ∀ k, it step ls k r = r
  | 0 => rfl
  | k + 1 => by rw [it, pass_stable h, it_stable h k]
theorem it_succ {ls : List MendLink} : ∀ (k : Nat) (r : α), it step ls (k + 1) r = pass step ls (it step ls k r)
  | 0, _ => rfl
  | k + 1, r => by rw [it, it_succ k, it]
theorem it_inv {ls : List MendLink} {P : α → Prop} (hs : ∀ l ∈ ls, ∀ r, P r → P (step l r)) : ∀ (k : Nat) (r : α), P r → P (it step ls k r) := by
  have hp : ∀ (ms : List MendLink) (r : α), (∀ l ∈ ms, l ∈ ls) → P r → P (pass step ms r) := by
    intro ms
    induction ms with
    | nil => intro r _ h; exact h
    | cons l ms ih => intro r hm h; exact ih _ (fun a ha => hm a (by simp [ha])) (hs l (hm l (by simp)) r h)
  intro k
  induction k with
  | zero => intro r h; exact h
  | succ k ih => intro r h; exact ih _ (hp ls r (fun _ h => h) h)
theorem pass_inv {ls : List MendLink} {P : α → Prop} (hs : ∀ l ∈ ls, ∀ r, P r → P (step l r)) : ∀ (r : α), P r → P (pass step ls r) := fun r h => it_inv (ls := ls) (step := step) hs 1 r h
/-- a loop that goes through the links, and says whether something changed -/
def Flags (step : MendLink → α → α) (P : α → Prop) (ls0 : List MendLink) (F : List MendLink → Bool → α → Option (Bool × α)) : Prop :=
  ∀ (ls : List MendLink) (ch : Bool) (r : α), (∀ l ∈ ls, l ∈ ls0) → P r → ∃ c, F ls ch r = some (c, pass step ls r) ∧ (ch = true → c = true) ∧ (c = false → Stable step ls r) ∧ (Stable step ls r → c = ch)
/-- again and again, until nothing changes -/
theorem again_run {P : α → Prop} {ls : List MendLink} {F : List MendLink → Bool → α → Option (Bool × α)} (hF : Flags step P ls F) (hP : ∀ l ∈ ls, ∀ r, P r → P (step l r)) (W : Nat → Bool → α → Option (Bool × α))
    (hW0 : ∀ m r, W (m + 1) false r = some (false, r)) (hW1 : ∀ m r, W (m + 1) true r = (F ls false r).bind fun q => W m q.1 q.2) : ∀ (N : Nat) (r : α), P r → Stable step ls (it step ls N r) → ∀ m, N + 2 ≤ m → W m true r = some (false, it step ls N r)
  | N, r, hp, hs, 0, hm => absurd hm (by omega)
  | N, r, hp, hs, 1, hm => absurd hm (by omega)
  | N, r, hp, hs, m + 2, hm => by
    obtain ⟨c, e, _, h2, h3⟩ := hF ls false r (fun _ h => h) hp
    rw [hW1, e]
    simp only [Option.bind_some]
    cases c with
    | false =>
      have := h2 rfl
      rw [hW0, pass_stable this, it_stable this]
    | true =>
      cases N with
      | zero => exact absurd (h3 hs) (by simp)
      | succ N => rw [again_run hF hP W hW0 hW1 N _ (pass_inv hP r hp) hs (m + 1) (by omega), it]
end
/-! how late events may be: shortest ways -/
section
variable {x : MendRound}
def sS (x : MendRound) : List Nat → Int
  | [] => 0
  | i :: is => sl x (lk x.Links i) + sS x is
theorem sS_app : ∀ p q : List Nat, sS x (p ++ q) = sS x p + sS x q
  | [], q => by simp [sS]
  | i :: p, q => by simp only [List.cons_append, sS, sS_app p q]; omega
theorem RIn.slk (hx : RIn x) {i : Nat} (hi : i < x.Links.length) : 0 ≤ sl x (Fp.lk x.Links i) ∧ sl x (Fp.lk x.Links i) ≤ 20000 := ⟨(hx.lk hi).s0, (hx.lk hi).s1⟩
theorem RIn.sS (hx : RIn x) : ∀ {is : List Nat} {a b : Int}, Wk x.Links a b is → 0 ≤ sS x is ∧ sS x is ≤ 20000 * is.length
  | [], _, _, _ => by simp [Fp.sS]
  | i :: is, a, b, w => by
    have h1 := hx.sS w.2.2
    have h2 := hx.slk w.1
    simp only [Fp.sS, List.length_cons, Int.natCast_add, Int.natCast_one]
    omega
theorem wk_mem {L : List MendLink} : ∀ (is : List Nat) (a b : Int), Wk L a b is → ∀ i ∈ is, i < L.length
  | [], a, b, _, i, hi => by cases hi
  | j :: is, a, b, w, i, hi => by
    rcases List.mem_cons.1 hi with rfl | hi
    · exact w.1
    · exact wk_mem is _ _ w.2.2 i hi
/-- the events on a way -/
def vts (L : List MendLink) (is : List Nat) (b : Int) : List Int := src L is ++ [b]
theorem vts_split {L : List MendLink} {a b : Int} {is : List Nat} (w : Wk L a b is) {i : Nat} (hi : i ≤ is.length) : Wk L a ((vts L is b)[i]'(by simp [vts, src]; omega)) (is.take i) ∧ Wk L ((vts L is b)[i]'(by simp [vts, src]; omega)) b (is.drop i) := by
  have h := w
  rw [← List.take_append_drop i is] at h
  obtain ⟨u, w1, w2⟩ := Wk.split h
  have : (vts L is b)[i]'(by simp [vts, src]; omega) = u := by
    rcases Nat.lt_or_ge i is.length with c | c
    · have e : (vts L is b)[i]'(by simp [vts, src]; omega) = (lk L is[i]).From := by
        unfold vts; rw [List.getElem_append_left (by simp [src]; omega)]; simp [src]
      rw [List.drop_eq_getElem_cons c] at w2
      rw [e]; exact w2.2.1
    · have hi' : i = is.length := by omega
      subst hi'
      have e : (vts L is b)[is.length]'(by simp [vts, src]) = b := by
        unfold vts; rw [List.getElem_append_right (by simp [src])]; simp
      rw [List.drop_length] at w2
      rw [e]; exact w2.symm
  rw [this]
  exact ⟨w1, w2⟩
theorem RIn.vts (hx : RIn x) {is : List Nat} {a b : Int} (w : Wk x.Links a b is) (hb : 0 ≤ b ∧ b < x.Plan.length) : ∀ v ∈ vts x.Links is b, 0 ≤ v ∧ v < x.Plan.length := by
  intro v hv
  rcases List.mem_append.1 hv with hv | hv
  · rw [src, List.mem_map] at hv
    obtain ⟨i, hi, rfl⟩ := hv
    have := hx.lk (wk_mem _ _ _ w i hi)
    exact ⟨this.f0, this.f1⟩
  · rw [List.mem_singleton] at hv; subst hv; exact hb
theorem ints_len {n : Nat} {l : List Int} (hn : l.Nodup) (h : ∀ v ∈ l, 0 ≤ v ∧ v < (n : Int)) : l.length ≤ n := by
  have h1 : (l.map nd).Nodup := by
    rw [List.nodup_iff_pairwise_ne, List.pairwise_map]
    refine (List.nodup_iff_pairwise_ne.1 hn).imp_of_mem ?_
    intro a b ha hb hab e
    have := h a ha
    have := h b hb
    unfold nd at e; omega
  have h2 := nodup_len n _ h1 (by
    intro a ha
    rw [List.mem_map] at ha
    obtain ⟨c, hc, rfl⟩ := ha
    have := h c hc
    unfold nd; omega)
  simpa using h2
/-- a long way passes an event twice -/
theorem RIn.twice (hx : RIn x) {is : List Nat} {a b : Int} (w : Wk x.Links a b is) (hb : 0 ≤ b ∧ b < x.Plan.length) (hl : x.Plan.length ≤ is.length) :
    ∃ i j v, i < j ∧ j ≤ is.length ∧ Wk x.Links a v (is.take i) ∧ Wk x.Links v v ((is.drop i).take (j - i)) ∧ Wk x.Links v b (is.drop j) ∧ is = is.take i ++ ((is.drop i).take (j - i) ++ is.drop j) := by
  have hn : ¬ (Fp.vts x.Links is b).Nodup := by
    intro h
    have := ints_len h (hx.vts w hb)
    simp [Fp.vts, src] at this
    omega
  obtain ⟨i, j, hij, hj, hi, e⟩ := not_nodup hn
  have hlen : (Fp.vts x.Links is b).length = is.length + 1 := by simp [Fp.vts, src]
  obtain ⟨w1, w2⟩ := vts_split w (i := i) (by omega)
  obtain ⟨w3, w4⟩ := vts_split w (i := j) (by omega)
  have e1 : is.drop i = (is.drop i).take (j - i) ++ is.drop j := by
    conv => lhs; rw [← List.take_append_drop (j - i) (is.drop i)]
    rw [List.drop_drop]; congr 2; omega
  have w2' := w2
  rw [e1] at w2'
  obtain ⟨u, w5, w6⟩ := Wk.split w2'
  have hu : u = (Fp.vts x.Links is b)[j] := by
    have e2 : is.take j = is.take i ++ (is.drop i).take (j - i) := by
      have : j = i + (j - i) := by omega
      conv => lhs; rw [this, List.take_add]
    rw [e2] at w3
    obtain ⟨t, w7, w8⟩ := Wk.split w3
    have ends : ∀ (p : List Nat) (a b c : Int), Wk x.Links a b p → Wk x.Links a c p → b = c := by
      intro p
      induction p with
      | nil => intro a b c h k; exact h.symm.trans k
      | cons q p ih => intro a b c h k; exact ih _ _ _ h.2.2 k.2.2
    have := ends _ _ _ _ w1 w7
    subst this
    exact ends _ _ _ _ w5 w8
  rw [← e] at hu
  subst hu
  refine ⟨i, j, _, hij, by omega, w1, w5, w6, ?_⟩
  conv => lhs; rw [← List.take_append_drop i is, e1]
/-- each way has a short one that is not longer -/
theorem RIn.short (hx : RIn x) : ∀ (m : Nat) (is : List Nat) (a b : Int), is.length ≤ m → 0 ≤ b ∧ b < x.Plan.length → Wk x.Links a b is → ∃ js, Wk x.Links a b js ∧ js.length < x.Plan.length ∧ Fp.sS x js ≤ Fp.sS x is := by
  intro m
  induction m with
  | zero => intro is a b h hb w; exact ⟨is, w, by have := hx.ok.n0; omega, Int.le_refl _⟩
  | succ m ih =>
    intro is a b h hb w
    rcases Nat.lt_or_ge is.length x.Plan.length with c | c
    · exact ⟨is, w, c, Int.le_refl _⟩
    · obtain ⟨i, j, v, hij, hj, w1, w2, w3, e⟩ := hx.twice w hb c
      obtain ⟨js, k1, k2, k3⟩ := ih (is.take i ++ is.drop j) a b (by simp; omega) hb (w1.app w3)
      refine ⟨js, k1, k2, ?_⟩
      have := (hx.sS w2).1
      rw [e, sS_app, sS_app]
      rw [sS_app] at k3
      omega

/-- one link of a row -/
def stepR (x : MendRound) (l : MendLink) (r : List Int) : List Int :=
  if tm r (nd l.From) < 0 then r else if tm r (nd l.To) < 0 ∨ tm r (nd l.From) + sl x l < tm r (nd l.To) then r.set (nd l.To) (tm r (nd l.From) + sl x l) else r
/-- a row from event a: each place has the slack of a way, or none -/
structure RRow (x : MendRound) (a : Nat) (r : List Int) : Prop where
  len : r.length = x.Plan.length
  way : ∀ v, v < x.Plan.length → tm r v = -1 ∨ ∃ is, Wk x.Links (a : Int) (v : Int) is ∧ tm r v = sS x is
  small : ∀ v, v < x.Plan.length → tm r v ≤ 20000 * (count (fun v => 0 ≤ tm r v) x.Plan.length : Int)
  own : tm r a = 0
theorem RRow.nn (hx : RIn x) {a : Nat} {r : List Int} (h : RRow x a r) {v : Nat} (hv : v < x.Plan.length) : tm r v = -1 ∨ 0 ≤ tm r v := by
  rcases h.way v hv with q | ⟨is, w, q⟩
  · exact .inl q
  · have := (hx.sS w).1; exact .inr (by omega)
theorem RRow.bd {a : Nat} {r : List Int} (hx : RIn x) (h : RRow x a r) {v : Nat} (hv : v < x.Plan.length) : tm r v ≤ 160000 := by
  have h1 := h.small v hv
  have h2 := count_le (fun v => 0 ≤ tm r v) x.Plan.length
  have := hx.ok.n1
  omega
theorem stepR_row (hx : RIn x) {a : Nat} {l : MendLink} (hl : l ∈ x.Links) {r : List Int} (h : RRow x a r) : RRow x a (stepR x l r) := by
  have ok := hx.ok.links l hl
  have s0 := ok.s0
  have s1 := ok.s1
  unfold stepR
  split
  · exact h
  · rename_i c1
    split
    · rename_i c2
      have hT : nd l.To < r.length := by rw [h.len]; exact ok.nd.2
      have hF := ok.nd.1
      have hset : ∀ v, tm (r.set (nd l.To) (tm r (nd l.From) + sl x l)) v = if v = nd l.To then tm r (nd l.From) + sl x l else tm r v := fun v => tm_set hT
      have hna : nd l.To ≠ a := by
        intro e
        have := h.own
        rw [e, this] at c2
        omega
      refine ⟨by simpa using h.len, fun v hv => ?_, fun v hv => ?_, by rw [hset, if_neg (fun e => hna e.symm)]; exact h.own⟩
      · rw [hset]
        by_cases e : v = nd l.To
        · rw [if_pos e]
          right
          obtain ⟨is, w, q⟩ := (h.way _ hF).resolve_left (by omega)
          obtain ⟨i, hi, e2⟩ := List.getElem_of_mem hl
          have hlk : lk x.Links i = l := by rw [lk_get hi, e2]
          have hf0 := ok.f0
          have ht0 := ok.t0
          have w2 := w.snoc (i := i) hi (by rw [hlk]; unfold nd; omega)
          rw [hlk, show l.To = ((v : Nat) : Int) by rw [e]; unfold nd; omega] at w2
          refine ⟨is ++ [i], w2, ?_⟩
          rw [sS_app, q]; simp [sS, hlk]
        · rw [if_neg e]; exact h.way v hv
      · have hmono : ∀ v, v < x.Plan.length → 0 ≤ tm r v → 0 ≤ tm (r.set (nd l.To) (tm r (nd l.From) + sl x l)) v := by
          intro v _ q
          rw [hset]; split <;> omega
        have hle := count_mono (P := fun v => 0 ≤ tm r v) (Q := fun v => 0 ≤ tm (r.set (nd l.To) (tm r (nd l.From) + sl x l)) v) x.Plan.length hmono
        have hsm := h.small v hv
        have hsf := h.small _ hF
        have hst := h.small _ ok.nd.2
        rw [hset]
        by_cases e : v = nd l.To
        · rw [if_pos e]
          rcases c2 with c2 | c2
          · have hlt := count_lt (P := fun v => 0 ≤ tm r v) (Q := fun v => 0 ≤ tm (r.set (nd l.To) (tm r (nd l.From) + sl x l)) v) (u := nd l.To) (by show ¬ 0 ≤ tm r (nd l.To); omega) (by show 0 ≤ _; rw [hset, if_pos rfl]; omega) x.Plan.length ok.nd.2 hmono
            omega
          · omega
        · rw [if_neg e]; omega
    · exact h
/-- not greater -/
def Lr (x : MendRound) (r r' : List Int) : Prop := ∀ v, v < x.Plan.length → 0 ≤ tm r v → 0 ≤ tm r' v ∧ tm r' v ≤ tm r v
theorem Lr.trans {r r' r'' : List Int} (h : Lr x r r') (k : Lr x r' r'') : Lr x r r'' := fun v hv q => by
  have h1 := h v hv q
  have h2 := k v hv h1.1
  omega
theorem stepR_lr (hx : RIn x) {a : Nat} {l : MendLink} (hl : l ∈ x.Links) {r : List Int} (h : RRow x a r) : Lr x r (stepR x l r) ∧ (0 ≤ tm r (nd l.From) → 0 ≤ tm (stepR x l r) (nd l.To) ∧ tm (stepR x l r) (nd l.To) ≤ tm r (nd l.From) + sl x l) := by
  have ok := hx.ok.links l hl
  have s0 := ok.s0
  have hT : nd l.To < r.length := by rw [h.len]; exact ok.nd.2
  unfold stepR
  split
  · exact ⟨fun v _ q => ⟨q, Int.le_refl _⟩, fun q => by omega⟩
  · split
    · rename_i c1 c2
      refine ⟨fun v hv q => ?_, fun q => ?_⟩
      · rw [tm_set hT]
        split
        · rename_i e; rw [e] at q ⊢; omega
        · omega
      · rw [tm_set hT, if_pos rfl]; omega
    · rename_i c1 c2
      exact ⟨fun v _ q => ⟨q, Int.le_refl _⟩, fun q => by omega⟩
theorem passR_bf (hx : RIn x) {a : Nat} : ∀ (ls : List MendLink) (r : List Int), (∀ l ∈ ls, l ∈ x.Links) → RRow x a r → RRow x a (pass (stepR x) ls r) ∧ Lr x r (pass (stepR x) ls r) ∧
    ∀ l ∈ ls, 0 ≤ tm r (nd l.From) → 0 ≤ tm (pass (stepR x) ls r) (nd l.To) ∧ tm (pass (stepR x) ls r) (nd l.To) ≤ tm r (nd l.From) + sl x l
  | [], r, _, h => ⟨h, fun v _ q => ⟨q, Int.le_refl _⟩, fun l hl => by cases hl⟩
  | l :: ls, r, hm, h => by
    have hl := hm l (by simp)
    obtain ⟨i1, i2, i3⟩ := passR_bf hx ls (stepR x l r) (fun a ha => hm a (by simp [ha])) (stepR_row hx hl h)
    obtain ⟨j1, j2⟩ := stepR_lr hx hl h
    have e : pass (stepR x) (l :: ls) r = pass (stepR x) ls (stepR x l r) := rfl
    rw [e]
    refine ⟨i1, j1.trans i2, fun k hk hf => ?_⟩
    rcases List.mem_cons.1 hk with rfl | hk'
    · have h1 := j2 hf
      have h2 := i2 _ (hx.ok.links k hl).nd.2 h1.1
      omega
    · have h1 := j1 _ (hx.ok.links k (hm k hk)).nd.1 hf
      have h2 := i3 k hk' h1.1
      omega
/-- ways of so many links are seen -/
def Bf2 (x : MendRound) (a k : Nat) (r : List Int) : Prop := ∀ (is : List Nat) (b : Int), 0 ≤ b ∧ b < x.Plan.length → Wk x.Links (a : Int) b is → is.length ≤ k → 0 ≤ tm r (nd b) ∧ tm r (nd b) ≤ sS x is
theorem itR_bf (hx : RIn x) {a : Nat} : ∀ (m k : Nat) (r : List Int), RRow x a r → Bf2 x a k r → RRow x a (it (stepR x) x.Links m r) ∧ Bf2 x a (k + m) (it (stepR x) x.Links m r)
  | 0, k, r, h, hb => ⟨h, hb⟩
  | m + 1, k, r, h, hb => by
    obtain ⟨i1, i2, i3⟩ := passR_bf hx x.Links r (fun _ h => h) h
    have hb2 : Bf2 x a (k + 1) (pass (stepR x) x.Links r) := by
      intro is b hb1 w hl
      rcases Nat.lt_or_ge k is.length with c | c
      · obtain ⟨js, i, rfl, hj⟩ := snoc_cases is k (by omega)
        obtain ⟨u, w1, w2⟩ := Wk.split w
        have hi := w2.1
        have ok := hx.lk hi
        have hmem : lk x.Links i ∈ x.Links := by rw [lk_get hi]; exact List.getElem_mem hi
        have hu : u = (lk x.Links i).From := w2.2.1.symm
        have hbt : (lk x.Links i).To = b := w2.2.2
        subst hu
        have h1 := hb js _ ⟨ok.f0, ok.f1⟩ w1 (by omega)
        have h2 := i3 _ hmem h1.1
        rw [hbt] at h2
        rw [sS_app]
        simp only [sS]
        omega
      · have h1 := hb is b hb1 w c
        have h2 := i2 (nd b) (by unfold nd; omega) h1.1
        omega
    have := itR_bf hx m (k + 1) _ i1 hb2
    rw [it]
    rw [show k + (m + 1) = k + 1 + m by omega]
    exact this
theorem stableR (hx : RIn x) {a : Nat} {r : List Int} (h : RRow x a r) (hb : Bf2 x a x.Plan.length r) : Stable (stepR x) x.Links r := by
  intro l hl
  have ok := hx.ok.links l hl
  unfold stepR
  split
  · rfl
  · rename_i c1
    obtain ⟨is, w, q⟩ := (h.way _ ok.nd.1).resolve_left (by omega)
    obtain ⟨i, hi, e2⟩ := List.getElem_of_mem hl
    have hlk : lk x.Links i = l := by rw [lk_get hi, e2]
    have hf0 := ok.f0
    have w2 := w.snoc (i := i) hi (by rw [hlk]; unfold nd; omega)
    rw [hlk] at w2
    obtain ⟨js, w3, k1, k2⟩ := hx.short _ (is ++ [i]) _ _ (Nat.le_refl _) ⟨ok.t0, ok.t1⟩ w2
    have := hb js _ ⟨ok.t0, ok.t1⟩ w3 (by omega)
    rw [sS_app] at k2
    simp only [sS, hlk] at k2
    rw [if_neg (by omega)]
/-- the same in a table -/
def stepG (x : MendRound) (k : Nat) (l : MendLink) (g : List (List Int)) : List (List Int) := g.set k (stepR x l (row g k))
theorem passG (k : Nat) : ∀ (ls : List MendLink) (g : List (List Int)), k < g.length → pass (stepG x k) ls g = g.set k (pass (stepR x) ls (row g k))
  | [], g, _ => by show g = g.set k (row g k); rw [set_row]
  | l :: ls, g, h => by
    show pass (stepG x k) ls (stepG x k l g) = _
    rw [passG k ls _ (by simpa [stepG] using h)]
    unfold stepG
    rw [row_set h, if_pos rfl, List.set_set]
    rfl
theorem itG (k : Nat) : ∀ (m : Nat) (g : List (List Int)), k < g.length → it (stepG x k) x.Links m g = g.set k (it (stepR x) x.Links m (row g k))
  | 0, g, _ => by show g = g.set k (row g k); rw [set_row]
  | m + 1, g, h => by
    rw [it, passG k _ g h, itG k m _ (by simpa using h), row_set h, if_pos rfl, List.set_set]
    rfl
structure PG (x : MendRound) (k : Nat) (g : List (List Int)) : Prop where
  len : g.length = x.Plan.length
  row : RRow x k (row g k)
theorem stepG_pg (hx : RIn x) {k : Nat} (hk : k < x.Plan.length) {l : MendLink} (hl : l ∈ x.Links) {g : List (List Int)} (h : PG x k g) : PG x k (stepG x k l g) := by
  refine ⟨by simpa [stepG] using h.len, ?_⟩
  unfold stepG
  rw [row_set (by rw [h.len]; exact hk), if_pos rfl]
  exact stepR_row hx hl h.row
theorem set_ne {g : List (List Int)} {k : Nat} {r : List Int} (hk : k < g.length) (h : g.set k r = g) : r = row g k := by
  have : row (g.set k r) k = row g k := by rw [h]
  rw [row_set hk, if_pos rfl] at this
  exact this
/-- one link, as the code has it -/
theorem room_one (hx : RIn x) {k : Nat} (hk : k < x.Plan.length) {l : MendLink} (hl : l ∈ x.Links) {g : List (List Int)} (h : PG x k g) :
    (tm (row g k) (nd l.From) < 0 ∧ stepG x k l g = g) ∨ (0 ≤ tm (row g k) (nd l.From) ∧ w64 (tm (row g k) (nd l.From) + sl x l) = tm (row g k) (nd l.From) + sl x l ∧
      ((tm (row g k) (nd l.To) < 0 ∨ tm (row g k) (nd l.From) + sl x l < tm (row g k) (nd l.To)) ∧ stepG x k l g = g.set k ((row g k).set (nd l.To) (tm (row g k) (nd l.From) + sl x l)) ∧ stepG x k l g ≠ g ∨
       ¬ (tm (row g k) (nd l.To) < 0 ∨ tm (row g k) (nd l.From) + sl x l < tm (row g k) (nd l.To)) ∧ stepG x k l g = g)) := by
  have ok := hx.ok.links l hl
  have s0 := ok.s0
  have s1 := ok.s1
  have hk' : k < g.length := by rw [h.len]; exact hk
  by_cases c1 : tm (row g k) (nd l.From) < 0
  · left
    refine ⟨c1, ?_⟩
    unfold stepG stepR
    rw [if_pos c1, set_row]
  · right
    have hbd := h.row.bd hx ok.nd.1
    refine ⟨by omega, w64_id (by omega), ?_⟩
    by_cases c2 : tm (row g k) (nd l.To) < 0 ∨ tm (row g k) (nd l.From) + sl x l < tm (row g k) (nd l.To)
    · left
      have e : stepG x k l g = g.set k ((row g k).set (nd l.To) (tm (row g k) (nd l.From) + sl x l)) := by
        unfold stepG stepR; rw [if_neg c1, if_pos c2]
      refine ⟨c2, e, fun q => ?_⟩
      rw [e] at q
      have h1 := set_ne hk' q
      have h2 : tm ((row g k).set (nd l.To) (tm (row g k) (nd l.From) + sl x l)) (nd l.To) = tm (row g k) (nd l.To) := by rw [h1]
      rw [tm_set (by rw [h.row.len]; exact ok.nd.2), if_pos rfl] at h2
      omega
    · right
      refine ⟨c2, ?_⟩
      unfold stepG stepR
      rw [if_neg c1, if_neg c2, set_row]
theorem room_flags (hx : RIn x) {k : Nat} (hk : k < x.Plan.length) : Flags (stepG x k) (PG x k) x.Links (MendRoom.loop3 x k) := by
  intro ls
  induction ls with
  | nil => intro ch g _ _; exact ⟨ch, rfl, fun h => h, fun _ l hl => (by cases hl), fun _ => rfl⟩
  | cons l ls ih =>
    intro ch g hm h
    have hl := hm l (by simp)
    have ok := hx.ok.links l hl
    have hlen := h.row.len
    have hg := h.len
    have f0 := ok.f0; have f1 := ok.f1; have t0 := ok.t0; have t1 := ok.t1
    have hsl := (slack_some hx.ok.p0 hx.ok.p1 hx.ok.plan ok.f0 ok.f1 ok.t0 ok.t1 ok.n0 ok.n1 ok.b0 ok.b1).1
    rw [MendRoom.loop3, gx_rowN (by omega)]
    simp only [Option.bind_some]
    rw [gx_tm (t := row g k) f0 (by omega), gx_tm (t := row g k) t0 (by omega)]
    simp only [Option.bind_some]
    rw [hsl]
    simp only [Option.bind_some]
    have hpass : pass (stepG x k) (l :: ls) g = pass (stepG x k) ls (stepG x k l g) := rfl
    rw [hpass]
    have same : ∀ c : Bool, stepG x k l g = g → ∃ c', MendRoom.loop3 x k ls c g = some (c', pass (stepG x k) ls (stepG x k l g)) ∧ (c = true → c' = true) ∧ (c' = false → Stable (stepG x k) (l :: ls) g) ∧ (Stable (stepG x k) (l :: ls) g → c' = c) := by
      intro c e
      obtain ⟨c', i1, i2, i3, i4⟩ := ih c g (fun a ha => hm a (by simp [ha])) h
      rw [e]
      refine ⟨c', i1, i2, fun q a ha => ?_, fun q => i4 fun a ha => q a (by simp [ha])⟩
      rcases List.mem_cons.1 ha with rfl | ha
      · exact e
      · exact i3 q a ha
    rcases room_one hx hk hl h with ⟨c1, e⟩ | ⟨c1, ew, ⟨c2, e, hne⟩ | ⟨c2, e⟩⟩
    · rw [decide_eq_true c1]
      simp only [if_true]
      exact same ch e
    · rw [decide_eq_false (by omega)]
      simp only [Bool.false_eq_true, if_false]
      rw [ew]
      have eb : (if decide (tm (row g k) (nd l.To) < 0) = true then some true else some (decide (tm (row g k) (nd l.From) + sl x l < tm (row g k) (nd l.To)))) = some true := by
        by_cases q : tm (row g k) (nd l.To) < 0
        · rw [decide_eq_true q]; rfl
        · rw [decide_eq_false q, decide_eq_true (c2.resolve_left q)]; rfl
      rw [eb]
      simp only [Option.bind_some, if_true]
      rw [ix_in t0 (by omega), sx_in t0 (by omega)]
      simp only [Option.bind_some]
      rw [show (((k : Nat) : Int)).toNat = k by omega, show (l.To).toNat = nd l.To from rfl, ← e]
      obtain ⟨c', i1, i2, i3, i4⟩ := ih true _ (fun a ha => hm a (by simp [ha])) (stepG_pg hx hk hl h)
      refine ⟨c', i1, fun _ => i2 rfl, fun q => absurd (i2 rfl) (by rw [q]; simp), fun q => absurd (q l (by simp)) hne⟩
    · rw [decide_eq_false (by omega)]
      simp only [Bool.false_eq_true, if_false]
      rw [ew]
      have eb : (if decide (tm (row g k) (nd l.To) < 0) = true then some true else some (decide (tm (row g k) (nd l.From) + sl x l < tm (row g k) (nd l.To)))) = some false := by
        rw [decide_eq_false (fun q => c2 (.inl q)), decide_eq_false (fun q => c2 (.inr q))]; rfl
      rw [eb]
      simp only [Option.bind_some, Bool.false_eq_true, if_false]
      exact same ch e
end
/-! a round whose links are sound -/
section
variable {x : MendRound}
theorem rnd_ploop (hp0 : 1 ≤ x.Period) (hp1 : x.Period ≤ 3600) : ∀ l : List Int, (∀ v ∈ l, 0 ≤ v ∧ v ≤ x.Period - 1) → MendCheckRound.loop1 x l = .next ()
  | [], _ => rfl
  | v :: l, h => by
    have := h v (by simp)
    rw [MendCheckRound.loop1, mwithin, w64_id (by omega), decide_eq_true (by omega)]
    simp only [Bool.not_true, Bool.false_eq_true, if_false]
    exact rnd_ploop hp0 hp1 l fun q hq => h q (by simp [hq])
theorem rnd_lloop (hx : ROk x) : ∀ l : List MendLink, (∀ a ∈ l, LkOk x a) → MendCheckRound.loop2 x l = some (.next ())
  | [], _ => rfl
  | a :: l, h => by
    have k := h a (by simp)
    have n1 := hx.n1
    have f0 := k.f0; have f1 := k.f1; have t0 := k.t0; have t1 := k.t1; have l0 := k.n0; have l1 := k.n1; have b0 := k.b0; have b1 := k.b1; have s0 := k.s0
    rw [MendCheckRound.loop2, mwithin, mwithin, mwithin, mwithin, w64_id (by omega), decide_eq_true (p := 0 ≤ a.From ∧ _) (by omega), decide_eq_true (p := 0 ≤ a.To ∧ _) (by omega), decide_eq_true (p := 0 ≤ a.Len ∧ _) (by omega), decide_eq_true (p := 0 ≤ a.Back ∧ _) (by omega)]
    simp only [Bool.not_true, Bool.false_eq_true, if_false, bnd]
    rw [(slack_some hx.p0 hx.p1 hx.plan f0 f1 t0 t1 l0 l1 b0 b1).1, Option.bind_some, decide_eq_false (by omega), if_neg Bool.false_ne_true]
    exact rnd_lloop hx l fun q hq => h q (by simp [hq])
theorem rnd_check (hx : ROk x) {fu : Nat} (hf : 20 ≤ fu) : (MendCheckRound fu x = some 0 ∧ Zf x) ∨ MendCheckRound fu x = some 5 := by
  have p0 := hx.p0; have p1 := hx.p1; have n0 := hx.n0; have n1 := hx.n1; have k1 := hx.k1
  have hp := rnd_ploop p0 p1 x.Plan (fun v hv => by
    obtain ⟨i, hi, e⟩ := List.getElem_of_mem hv
    have := hx.plan i hi
    rw [tm_get hi, e] at this; exact this)
  have hl := rnd_lloop hx x.Links hx.links
  have hr := ring_run hx hf
  unfold MendCheckRound
  simp only [mwithin, bnd]
  rw [decide_eq_true (p := 1 ≤ x.Period ∧ _) (by omega), decide_eq_true (p := 1 ≤ ((x.Plan.length : Nat) : Int) ∧ _) (by omega), decide_eq_false (by omega)]
  generalize MendCheckRound.loop1 x x.Plan = P at *
  generalize MendCheckRound.loop2 x x.Links = L at *
  generalize MendRoundring fu x = R at *
  subst hp
  subst hl
  obtain ⟨b, rfl, q⟩ := hr
  simp only [Bool.not_true, Bool.false_eq_true, if_false, Option.bind_some]
  cases b with
  | true => exact .inr rfl
  | false => exact .inl ⟨rfl, q.1 rfl⟩
/-! how late events may be -/
def RmOk (x : MendRound) (g : List (List Int)) : Prop := g.length = x.Plan.length ∧ ∀ a, a < x.Plan.length → RRow x a (row g a) ∧ Bf2 x a x.Plan.length (row g a)
theorem rm_loop1 (hx : RIn x) (fm : Nat) : ∀ (m k : Nat) (g : List (List Int)), m + k = x.Plan.length → g.length = x.Plan.length → (∀ a, a < k → RRow x a (row g a) ∧ Bf2 x a x.Plan.length (row g a)) → ∃ g', MendRoom.loop1 x (fm + 60) m k g = some g' ∧ RmOk x g'
  | 0, k, g, h, hg, ha => ⟨g, rfl, hg, fun a q => ha a (by omega)⟩
  | m + 1, k, g, h, hg, ha => by
    have n8 := hx.ok.n1
    have hk : k < x.Plan.length := by omega
    rw [MendRoom.loop1, rep25 _ _ (by omega)]
    simp only [Option.bind_some]
    rw [ix_in (by omega) (by omega), sx_in (by omega) (by omega)]
    simp only [Option.bind_some]
    rw [show (((k : Nat) : Int)).toNat = k by omega]
    have e1 : gx (g.set k (List.replicate x.Plan.length (-1))) ((k : Nat) : Int) = some (List.replicate x.Plan.length (-1)) := by
      rw [gx_at (by simp; omega)]; simp
    rw [e1]
    simp only [Option.bind_some]
    rw [ix_in (by omega) (by simp; omega), sx_in (by omega) (by simp; omega)]
    simp only [Option.bind_some]
    rw [show (((k : Nat) : Int)).toNat = k by omega, List.set_set]
    have hr0 : ∀ v, v < x.Plan.length → tm ((List.replicate x.Plan.length (-1)).set k (0 : Int)) v = if v = k then 0 else -1 := by
      intro v hv
      rw [tm_set (by simp; omega)]
      by_cases e : v = k
      · rw [if_pos e, if_pos e]
      · rw [if_neg e, if_neg e]; unfold tm; rw [List.getElem?_replicate, if_pos hv]; rfl
    have hrow : RRow x k ((List.replicate x.Plan.length (-1)).set k (0 : Int)) := by
      refine ⟨by simp, fun v hv => ?_, fun v hv => ?_, by rw [hr0 k hk, if_pos rfl]⟩
      · rw [hr0 v hv]
        by_cases e : v = k
        · rw [if_pos e]; exact .inr ⟨[], by rw [e]; rfl, rfl⟩
        · rw [if_neg e]; exact .inl rfl
      · rw [hr0 v hv]; split <;> omega
    have hpg : PG x k (g.set k ((List.replicate x.Plan.length (-1)).set k (0 : Int))) := ⟨by simpa using hg, by rw [row_set (by omega), if_pos rfl]; exact hrow⟩
    have hb0 : Bf2 x k 0 ((List.replicate x.Plan.length (-1)).set k (0 : Int)) := by
      intro is b hb w hl
      have : is = [] := List.length_eq_zero_iff.1 (by omega)
      subst this
      have hkb : ((k : Nat) : Int) = b := w
      rw [hr0 (nd b) (by unfold nd; omega), if_pos (by unfold nd; omega)]
      simp [sS]
    obtain ⟨q1, q2⟩ := itR_bf hx x.Plan.length 0 _ hrow hb0
    rw [Nat.zero_add] at q2
    have hst : Stable (stepG x k) x.Links (it (stepG x k) x.Links x.Plan.length (g.set k ((List.replicate x.Plan.length (-1)).set k (0 : Int)))) := by
      intro l hl
      rw [itG k _ _ (by simp; omega), row_set (by omega), if_pos rfl, List.set_set]
      unfold stepG
      rw [row_set (by omega), if_pos rfl, List.set_set, stableR hx q1 q2 l hl]
    have hrun := again_run (room_flags hx hk) (fun l hl r hr => stepG_pg hx hk hl hr) (MendRoom.loop2 x k) (fun m r => rfl)
      (fun m r => by rw [MendRoom.loop2]; simp only [if_true]) x.Plan.length _ hpg hst (fm + 60) (by omega)
    rw [hrun]
    simp only [Option.bind_some]
    refine rm_loop1 hx fm m (k + 1) _ (by omega) ?_ ?_
    · rw [itG k _ _ (by simp; omega)]
      simpa using hg
    · intro a hak
      rw [itG k _ _ (by simp; omega), row_set (by simp; omega)]
      by_cases c : a = k
      · rw [if_pos c, c, row_set (by omega), if_pos rfl]; exact ⟨q1, q2⟩
      · rw [if_neg c, row_set (by omega), if_neg c]; exact ha a (by omega)
theorem rm_run (hx : RIn x) (fm : Nat) (hc : MendCheckRound (fm + 60) x = some 0) : ∃ g, MendRoom (fm + 60) x = some (g, 0) ∧ RmOk x g := by
  have n8 := hx.ok.n1
  obtain ⟨g', h1, h2⟩ := rm_loop1 hx fm x.Plan.length 0 (List.replicate x.Plan.length []) (by omega) (by simp) (fun a h => by omega)
  unfold MendRoom
  rw [hc, mks_in (by omega)]
  simp only [Option.bind_some, List.length_replicate, bne_self_eq_false, Bool.false_eq_true, if_false]
  rw [h1]
  exact ⟨g', rfl, h2⟩
/-! one first delay, and what becomes of it -/
theorem sp_run (hx : ROk x) {a : Nat} (ha : a < x.Plan.length) {y : Int} (hy : 0 ≤ y ∧ y ≤ 28800) {fu : Nat} (hf : 13824002 ≤ fu) (hc : MendCheckRound fu x = some 0) : ∃ g, MendSpread fu x [MendFirst.mk ((a : Nat) : Int) 0 y] 40 = some (g, 0) ∧ Fin x [MendFirst.mk ((a : Nat) : Int) 0 y] 40 g := by
  have n1 := hx.n1
  have hl : ∀ f ∈ [MendFirst.mk ((a : Nat) : Int) 0 y], FOk x f := by
    intro f hf
    rw [List.mem_singleton] at hf
    subst hf
    exact ⟨by show (0 : Int) ≤ (a : Int); omega, by show (a : Int) < _; omega, by show (0 : Int) ≤ 0; omega, by show (0 : Int) < 60; omega, hy.1, hy.2⟩
  obtain ⟨g, b, c, e, q⟩ := spread_loop3 hx hl (P := 40) (by omega) hf 40 [] [] fu (by simp) (by omega) ⟨⟨rfl, fun k hk => absurd hk (Nat.not_lt_zero _)⟩, fun k hk => absurd hk (Nat.not_lt_zero _), fun _ _ k hk => absurd hk (Nat.not_lt_zero _)⟩ (fun k hk => absurd hk (Nat.not_lt_zero _)) ⟨rfl, fun i hi => absurd hi (Nat.not_lt_zero _)⟩
  have e' : MendSpread.loop3 x [MendFirst.mk ((a : Nat) : Int) 0 y] 40 fu fu [] [] 0 = some (g, b, c) := e
  unfold MendSpread
  rw [hc, Option.bind_some, mwithin, MendSpread.loop1, MendSpread.loop1, mwithin, mwithin, mwithin, w64_id (by omega)]
  simp only [bne_self_eq_false, Bool.false_eq_true, if_false, bnd]
  rw [decide_eq_true (p := (0 : Int) ≤ 40 ∧ (40 : Int) ≤ 60) (by omega), decide_eq_true (p := (0 : Int) ≤ ((a : Nat) : Int) ∧ _) (by omega), decide_eq_true (p := (0 : Int) ≤ 0 ∧ (0 : Int) ≤ 59) (by omega), decide_eq_true (p := 0 ≤ y ∧ y ≤ 28800) hy]
  simp only [Bool.not_true, Bool.false_eq_true, if_false, List.length_singleton]
  rw [decide_eq_false (by omega), if_neg Bool.false_ne_true, e', Option.bind_some]
  exact ⟨g, rfl, q⟩
theorem ini_one {a k v : Nat} {y : Int} (hy : 0 ≤ y) : ini [MendFirst.mk ((a : Nat) : Int) 0 y] k v = if k = 0 ∧ a = v then y else 0 := by
  unfold ini
  simp only [List.foldl_cons, List.foldl_nil]
  have e : nd ((a : Nat) : Int) = a := by simp [nd]
  rw [e]
  by_cases c : k = 0 ∧ a = v
  · rw [if_pos c, if_pos (by omega)]; unfold mx; split <;> omega
  · rw [if_neg c, if_neg (by omega)]
/-- not later than room permits -/
theorem late_up (hx : RIn x) {a : Nat} (ha : a < x.Plan.length) {y : Int} (hy : 0 ≤ y) {g : List (List Int)} (hf : Fin x [MendFirst.mk ((a : Nat) : Int) 0 y] 40 g) {r : List Int} (hr : RRow x a r) (hb : Bf2 x a x.Plan.length r) {k v : Nat} (hk : k < 40) (hv : v < x.Plan.length) : gv g k v ≤ if tm r v < 0 then 0 else max 0 (y - tm r v) := by
  refine hf.gi.le (fun _ v => if tm r v < 0 then 0 else max 0 (y - tm r v)) ⟨fun k hk v hv => ?_, fun k hk l hl hbk => ?_⟩ k hk v hv
  · rw [ini_one hy]
    have := hr.own
    by_cases c : k = 0 ∧ a = v
    · rw [if_pos c]
      show y ≤ if tm r v < 0 then 0 else max 0 (y - tm r v)
      rw [← c.2, this, if_neg (by omega)]; omega
    · rw [if_neg c]
      show 0 ≤ if tm r v < 0 then 0 else max 0 (y - tm r v)
      split <;> omega
  · have ok := hx.ok.links l hl
    have s0 := ok.s0
    show (if tm r (nd l.From) < 0 then 0 else max 0 (y - tm r (nd l.From))) - sl x l ≤ if tm r (nd l.To) < 0 then 0 else max 0 (y - tm r (nd l.To))
    by_cases c : tm r (nd l.From) < 0
    · rw [if_pos c]; split <;> omega
    · rw [if_neg c]
      obtain ⟨is, w, q⟩ := (hr.way _ ok.nd.1).resolve_left (by omega)
      obtain ⟨i, hi, e2⟩ := List.getElem_of_mem hl
      have hlk : lk x.Links i = l := by rw [lk_get hi, e2]
      have hf0 := ok.f0
      have w2 := w.snoc (i := i) hi (by rw [hlk]; unfold nd; omega)
      rw [hlk] at w2
      obtain ⟨js, w3, k1, k2⟩ := hx.short _ (is ++ [i]) _ _ (Nat.le_refl _) ⟨ok.t0, ok.t1⟩ w2
      have h3 := hb js _ ⟨ok.t0, ok.t1⟩ w3 (by omega)
      rw [sS_app] at k2
      simp only [sS, hlk] at k2
      rw [if_neg (by omega)]
      omega
theorem snoc_ind : ∀ (n : Nat) (is : List Nat), is.length = n → is = [] ∨ ∃ js i, is = js ++ [i] ∧ js.length + 1 = n
  | 0, is, h => .inl (List.length_eq_zero_iff.1 h)
  | n + 1, is, h => by
    obtain ⟨js, i, e, q⟩ := snoc_cases is n h
    exact .inr ⟨js, i, e, by omega⟩
/-- a delay goes along each way -/
theorem late_way (hx : RIn x) {a : Nat} (ha : a < x.Plan.length) {y : Int} (hy : 0 ≤ y) {g : List (List Int)} (hf : Fin x [MendFirst.mk ((a : Nat) : Int) 0 y] 40 g) : ∀ (n : Nat) (is : List Nat) (b : Int), is.length = n → Wk x.Links ((a : Nat) : Int) b is → sB x.Links is < 40 → y - sS x is ≤ gv g (nd (sB x.Links is)) (nd b) := by
  intro n
  induction n with
  | zero =>
    intro is b hl w hs
    have : is = [] := List.length_eq_zero_iff.1 hl
    subst this
    have hab : ((a : Nat) : Int) = b := w
    have h0 := hf.gi.ge 0 (by omega) a ha
    rw [ini_one hy, if_pos ⟨rfl, rfl⟩] at h0
    have e : nd b = a := by unfold nd; omega
    rw [e]
    show y - 0 ≤ gv g (nd 0) a
    have e0 : nd 0 = 0 := rfl
    rw [e0]; omega
  | succ n ih =>
    intro is b hl w hs
    obtain ⟨js, i, rfl, hj⟩ := snoc_cases is n hl
    obtain ⟨u, w1, w2⟩ := Wk.split w
    have hi := w2.1
    have ok := hx.lk hi
    have hmem : lk x.Links i ∈ x.Links := by rw [lk_get hi]; exact List.getElem_mem hi
    have hu : (lk x.Links i).From = u := w2.2.1
    have hbt : (lk x.Links i).To = b := w2.2.2
    rw [sB_app] at hs ⊢
    rw [sS_app]
    simp only [sB, sS] at hs ⊢
    have s1 := (hx.sums w1).2.2.1
    have b0 := ok.b0
    have h1 := ih js u hj w1 (by omega)
    have h2 := hf.ok (nd (sB x.Links js + ((lk x.Links i).Back + 0))) (by unfold nd; omega) _ hmem (by unfold nd; omega)
    have e : nd (sB x.Links js + ((lk x.Links i).Back + 0)) - nd (lk x.Links i).Back = nd (sB x.Links js) := by unfold nd; omega
    rw [e, hu, hbt] at h2
    omega
theorem late_low (hx : RIn x) {a : Nat} (ha : a < x.Plan.length) {y : Int} (hy : 0 ≤ y) {g : List (List Int)} (hf : Fin x [MendFirst.mk ((a : Nat) : Int) 0 y] 40 g) {r : List Int} (hr : RRow x a r) {v : Nat} (hv : v < x.Plan.length) (h0 : 0 ≤ tm r v) : ∃ k, k < 40 ∧ y - tm r v ≤ gv g k v := by
  obtain ⟨is, w, q⟩ := (hr.way v hv).resolve_left (by omega)
  obtain ⟨js, w3, k1, k2⟩ := hx.short _ is _ _ (Nat.le_refl _) ⟨by omega, by omega⟩ w
  have n8 := hx.ok.n1
  have s := (hx.sums w3).2.2
  have h := late_way hx ha hy hf js.length js _ rfl w3 (by omega)
  refine ⟨nd (sB x.Links js), by unfold nd; omega, ?_⟩
  have e : nd ((v : Nat) : Int) = v := by simp [nd]
  rw [e] at h
  omega
/-! the law's loops -/
theorem worst_loop {g : List (List Int)} {n b : Nat} (hs : Shape n g 40) (hb : b < n) (f : Int) : ∀ (m k : Nat) (w : Int), m + k = 40 → ∃ w', FishtopTopRounds.loop4 (g, f) b m k w = some w' ∧ w ≤ w' ∧ (∀ j, k ≤ j → j < 40 → gv g j b ≤ w') ∧ (w' = w ∨ ∃ j, k ≤ j ∧ j < 40 ∧ w' = gv g j b)
  | 0, k, w, _ => ⟨w, rfl, Int.le_refl _, fun j h1 h2 => by omega, .inl rfl⟩
  | m + 1, k, w, h => by
    have hl := hs.1
    have hr := hs.2 k (by omega)
    rw [FishtopTopRounds.loop4]
    simp only
    rw [gx_rowN (by omega), Option.bind_some, gx_tm (by omega) (by omega), Option.bind_some]
    have e : nd ((b : Nat) : Int) = b := by simp [nd]
    rw [e]
    obtain ⟨w', e1, e2, e3, e4⟩ := worst_loop hs hb f m (k + 1) (mx w (tm (row g k) b)) (by omega)
    obtain ⟨m1, m2⟩ := mx2 w (tm (row g k) b)
    have m3 : tm (row g k) b ≤ mx w (tm (row g k) b) := by unfold mx; split <;> omega
    have eg : gv g k b = tm (row g k) b := rfl
    refine ⟨w', e1, by omega, fun j h1 h2 => ?_, ?_⟩
    · by_cases c : j = k
      · rw [c, eg]; omega
      · exact e3 j (by omega) h2
    · rcases e4 with q | ⟨j, q1, q2, q3⟩
      · rcases m2 with p | p
        · exact .inl (by omega)
        · exact .inr ⟨k, Nat.le_refl _, by omega, by rw [eg]; omega⟩
      · exact .inr ⟨j, by omega, q2, q3⟩
theorem b_loop (hx : RIn x) {a : Nat} (ha : a < x.Plan.length) {y : Int} (hy : 0 ≤ y ∧ y ≤ 28800) {g R : List (List Int)} (hf : Fin x [MendFirst.mk ((a : Nat) : Int) 0 y] 40 g) (hR : RmOk x R) (f f2 : Int) : ∀ (l : List Int) (b : Nat), b + l.length = x.Plan.length → FishtopTopRounds.loop3 y (R, f2) a (g, f) l b = some (.next ())
  | [], b, _ => rfl
  | p :: l, b, h => by
    simp only [List.length_cons] at h
    obtain ⟨hr, hb⟩ := hR.2 a ha
    have hRl := hR.1
    have hrl := hr.len
    have hs := hf.gi.shape
    have hbn : b < x.Plan.length := by omega
    obtain ⟨w, e1, e2, e3, e4⟩ := worst_loop hs hbn f 40 0 0 (by omega)
    have e1' : FishtopTopRounds.loop4 (g, f) b (g, f).1.length 0 0 = some w := by
      have : (g, f).1.length = 40 := hs.1
      rw [this]; exact e1
    have eN : nd ((b : Nat) : Int) = b := by simp [nd]
    have gr : gx (R, f2).1 ((a : Nat) : Int) = some (row R a) := gx_rowN (by show a < R.length; omega)
    have gb : gx (row R a) ((b : Nat) : Int) = some (tm (row R a) b) := by rw [gx_tm (by omega) (by omega), eN]
    have up := fun k hk => late_up hx ha hy.1 hf hr hb (k := k) hk hbn
    have bd := hr.bd hx hbn
    have nn := hr.nn hx hbn
    rw [FishtopTopRounds.loop3, e1', Option.bind_some, gr, Option.bind_some, gb, Option.bind_some, Option.bind_some, gb, Option.bind_some]
    by_cases c : tm (row R a) b < 0
    · have w0 : w = 0 := by
        rcases e4 with q | ⟨j, _, q2, q3⟩
        · exact q
        · have := up j q2; rw [if_pos c] at this; omega
      rw [decide_eq_true c, if_pos rfl, w0]
      simp only [bne_self_eq_false, Bool.false_eq_true, if_false, Option.bind_some]
      rw [gb, Option.bind_some, decide_eq_false (by omega)]
      simp only [Bool.false_eq_true, if_false, Option.bind_some]
      exact b_loop hx ha hy hf hR f f2 l (b + 1) (by omega)
    · rw [decide_eq_false c, if_neg Bool.false_ne_true, Option.bind_some, gb, Option.bind_some, decide_eq_true (by omega), if_pos rfl, w64_id (by omega), Option.bind_some]
      have ew : w = mx 0 (y - tm (row R a) b) := by
        obtain ⟨k, k1, k2⟩ := late_low hx ha hy.1 hf hr hbn (by omega)
        have h3 := e3 k (Nat.zero_le _) k1
        unfold mx
        rcases e4 with q | ⟨j, _, q2, q3⟩
        · split <;> omega
        · have := up j q2; rw [if_neg c] at this
          split <;> omega
      rw [← ew]
      simp only [bne_self_eq_false, Bool.false_eq_true, if_false]
      exact b_loop hx ha hy hf hR f f2 l (b + 1) (by omega)
theorem rows_all (y0 : List Int) : ∀ (l : List (List Int)) (k : Nat), (∀ r ∈ l, r.length = y0.length) → SlicesIndexFuncLLint_v1.loop1 y0 l k = .next () ∧ SlicesIndexFuncLLint_v2.loop1 y0 l k = .next ()
  | [], _, _ => ⟨rfl, rfl⟩
  | r :: l, k, h => by
    have := h r (by simp)
    have ih := rows_all y0 l (k + 1) (fun q hq => h q (by simp [hq]))
    rw [SlicesIndexFuncLLint_v1.loop1, SlicesIndexFuncLLint_v2.loop1]
    unfold FishtopTopRounds_1_v1 FishtopTopRounds_2_v1
    rw [this]
    simp only [bne_self_eq_false, Bool.false_eq_true, if_false]
    exact ih
theorem rows_none {y0 : List Int} {l : List (List Int)} (h : ∀ r ∈ l, r.length = y0.length) : SlicesContainsFuncLLint_v1 l y0 = false ∧ SlicesContainsFuncLLint_v2 l y0 = false := by
  unfold SlicesContainsFuncLLint_v1 SlicesContainsFuncLLint_v2 SlicesIndexFuncLLint_v1 SlicesIndexFuncLLint_v2
  rw [(rows_all y0 l 0 h).1, (rows_all y0 l 0 h).2]
  exact ⟨rfl, rfl⟩
theorem shape_rows {n R : Nat} {g : List (List Int)} (h : g.length = R ∧ ∀ k, k < R → (row g k).length = n) : ∀ r ∈ g, r.length = n := by
  intro r hr
  obtain ⟨i, hi, e⟩ := List.getElem_of_mem hr
  have := h.2 i (by omega)
  have e2 : row g i = g[i] := by simp [row, hi]
  rw [e2, e] at this; exact this
theorem a_loop {p : PlanPeriodic} {T : List Int} {L : List MendLink} {e0 : Int} (hx : RIn (MendRound.mk p.Period T L)) {y : Int} (hy : 0 ≤ y ∧ y ≤ 28800) {R : List (List Int)} (hR : RmOk (MendRound.mk p.Period T L) R) (f2 : Int) {fu : Nat} (hf : 13824002 ≤ fu) (hc : MendCheckRound fu (MendRound.mk p.Period T L) = some 0) : ∀ (l : List Int) (a : Nat), a + l.length = T.length → FishtopTopRounds.loop2 p y fu (T, e0) L (R, f2) l a = some (.next ())
  | [], a, _ => rfl
  | q :: l, a, h => by
    simp only [List.length_cons] at h
    have ha : a < (MendRound.mk p.Period T L).Plan.length := by show a < T.length; omega
    obtain ⟨g, e1, e2⟩ := sp_run hx.ok ha hy hf hc
    rw [FishtopTopRounds.loop2]
    simp only
    rw [e1, Option.bind_some]
    have hl : g.length = 40 := e2.gi.shape.1
    have hrows := (rows_none (y0 := T) (l := g) (shape_rows e2.gi.shape)).2
    simp only [bnd, bne_self_eq_false, Bool.false_eq_true, if_false]
    rw [hl, hrows]
    simp only [show (((40 : Nat) : Int) != 40) = false from rfl, Bool.false_eq_true, if_false]
    rw [b_loop hx ha hy e2 hR 0 f2 T 0 (by show 0 + T.length = T.length; omega), Option.bind_some]
    exact a_loop hx hy hR f2 hf hc l (a + 1) (by omega)
end
/-! the links of rules -/
section
variable {x : PlanPeriodic} {n : Nat}
theorem lk_any {P : Int} {T : List Int} {A B : List MendLink} {l : MendLink} (h : LkOk (MendRound.mk P T A) l) : LkOk (MendRound.mk P T B) l := ⟨h.f0, h.f1, h.t0, h.t1, h.n0, h.n1, h.b0, h.b1, h.s0, h.s1⟩
/-- a gap of times that keep a rule -/
theorem gap_kept (h : PSn x n) {r : PlanRule} (hr : r ∈ x.Rules) {t : Nat → Int} (k : Rk x r t) : ∃ b : Int, gapv x r (t (nd r.From)) (t (nd r.To)) = t (nd r.To) - t (nd r.From) + b * x.Period ∧ r.Min ≤ gapv x r (t (nd r.From)) (t (nd r.To)) ∧ gapv x r (t (nd r.From)) (t (nd r.To)) ≤ r.Max := by
  have rk := h.ok.rules r hr
  have x1 := rk.max1
  have p0 := h.ok.p0
  obtain ⟨b, h1, h2⟩ := k
  have e : t (nd r.To) - t (nd r.From) - r.Min = (t (nd r.To) - t (nd r.From) + b * x.Period - r.Min) + x.Period * (-b) := by
    rw [Int.mul_neg, Int.mul_comm x.Period b]; omega
  have e2 : gapv x r (t (nd r.From)) (t (nd r.To)) = t (nd r.To) - t (nd r.From) + b * x.Period := by
    unfold gapv
    rw [e, Int.add_mul_emod_self_left, Int.emod_eq_of_lt (by omega) (by omega)]
    omega
  exact ⟨b, e2, by omega, by omega⟩
theorem rules_loop (h : PSn x n) {T : List Int} (ht : TimesOk x T) (hl : T.length = n) (hf : Fishref2TimesFault x T = 0) (hk : ∀ r ∈ x.Rules, Rk x r (tm T)) (e0 : Int) : ∀ (rs : List PlanRule) (k : Nat) (c : Int) (L : List MendLink), x.Rules.drop k = rs → L.length = k → (∀ l ∈ L, LkOk (MendRound.mk x.Period T []) l) → L.length ≤ 24 → 0 ≤ c → c ≤ 4000000 * (k : Int) →
    FishtopTopRounds.loop1 x (T, e0) rs k c L = some (.ret true) ∨ ∃ c' L', FishtopTopRounds.loop1 x (T, e0) rs k c L = some (.next (c', L')) ∧ Plancost.loop1 x T rs c = some c' ∧ L'.length ≤ 24 ∧ ∀ l ∈ L', LkOk (MendRound.mk x.Period T []) l
  | [], k, c, L, _, hL, hLk, hLn, _, _ => .inr ⟨c, L, rfl, rfl, hLn, hLk⟩
  | r :: rs, k, c, L, hd, hL, hLk, hLn, c0, c1 => by
    obtain ⟨hkk, d1, d2⟩ := drop_cons2 hd
    have hr : r ∈ x.Rules := by rw [← d1]; exact List.getElem_mem hkk
    obtain ⟨h1, h2, ef, et⟩ := h.ft hr
    have rk := h.ok.rules r hr
    have w0 := rk.w0; have w1 := rk.w1; have m0 := rk.min0; have m1 := rk.min1; have x1 := rk.max1; have p0 := h.ok.p0; have p1 := h.ok.p1; have hN := h.ok.n
    obtain ⟨n0, n8⟩ := h.n1
    have gF : gx T r.From = some (tm T (nd r.From)) := gx_tm rk.from0 (by omega)
    have gT : gx T r.To = some (tm T (nd r.To)) := gx_tm rk.to0 (by omega)
    obtain ⟨a, ha, a0, a1⟩ := time_at ht rk.from0 rk.from1
    obtain ⟨b, hb, b0, b1⟩ := time_at ht rk.to0 rk.to1
    have ea : a = tm T (nd r.From) := Option.some.inj (by rw [← ha, gF])
    have eb : b = tm T (nd r.To) := Option.some.inj (by rw [← hb, gT])
    obtain ⟨q, g1, g2, g3⟩ := gap_kept h hr (hk r hr)
    rw [← ea, ← eb] at g1 g2 g3
    have eg := gap_m ht rk ha hb a0 a1 b0 b1
    generalize hg : gapv x r a b = g at *
    have eG : PlanGap x ((k : Nat) : Int) T = some (g, 0) := by
      unfold PlanGap
      rw [times_eq, hf, pwithin, w64_id (by omega), decide_eq_true (by omega)]
      simp only [bne_self_eq_false, Bool.false_eq_true, if_false, Bool.not_true]
      rw [gx_at hkk, Option.bind_some, d1, eg]; rfl
    have ed : dv (w64 (w64 (g - b) + a)) x.Period = some q := by
      rw [w64_id (x := g - b) (by omega), w64_id (x := g - b + a) (by omega), show g - b + a = q * x.Period by omega]
      have hq : -4000 ≤ q ∧ q ≤ 8000 := by
        constructor
        · rcases Int.lt_or_le q (-4000) with z | z
          · have : q * x.Period ≤ -4001 * x.Period := Int.mul_le_mul_of_nonneg_right (by omega) (by omega)
            omega
          · exact z
        · rcases Int.lt_or_le 8000 q with z | z
          · have : 8001 * x.Period ≤ q * x.Period := Int.mul_le_mul_of_nonneg_right (by omega) (by omega)
            omega
          · exact z
      unfold dv
      rw [if_neg (by omega), Int.mul_tdiv_cancel _ (by omega)]
      show some (w64 q) = some q
      rw [w64_id (by omega)]
    rw [FishtopTopRounds.loop1]
    simp only [bnd]
    rw [eG, Option.bind_some]
    simp only [bne_self_eq_false, Bool.false_eq_true, if_false]
    rw [decide_eq_false (by omega), if_neg Bool.false_ne_true, hb, Option.bind_some, ha, Option.bind_some, ed, Option.bind_some]
    by_cases cc : (if decide (q < 0) = true then true else if decide (q > 3) = true then true else decide (((L.length : Nat) : Int) ≥ 24)) = true
    · rw [if_pos cc]; exact .inl rfl
    · rw [if_neg cc]
      have q1 : 0 ≤ q ∧ q ≤ 3 ∧ L.length < 24 := by
        by_cases z1 : q < 0
        · rw [decide_eq_true z1] at cc; exact absurd rfl cc
        · rw [decide_eq_false z1, if_neg Bool.false_ne_true] at cc
          by_cases z2 : q > 3
          · rw [decide_eq_true z2] at cc; exact absurd rfl cc
          · rw [decide_eq_false z2, if_neg Bool.false_ne_true] at cc
            have := of_decide_eq_false (by simpa using cc : decide (((L.length : Nat) : Int) ≥ 24) = false)
            omega
      rw [apd_lt (by simp; omega), Option.bind_some]
      have gl : gx (L ++ [MendLink.mk r.From r.To r.Min q]) ((k : Nat) : Int) = some (MendLink.mk r.From r.To r.Min q) := by
        rw [gx_at (by simp; omega)]
        congr 1
        rw [List.getElem_append_right (by omega)]
        simp [hL]
      rw [gl, Option.bind_some, slack_eq]
      have hpl : ∀ v, v < (MendRound.mk x.Period T (L ++ [MendLink.mk r.From r.To r.Min q])).Plan.length → 0 ≤ tm (MendRound.mk x.Period T (L ++ [MendLink.mk r.From r.To r.Min q])).Plan v ∧ tm (MendRound.mk x.Period T (L ++ [MendLink.mk r.From r.To r.Min q])).Plan v ≤ (MendRound.mk x.Period T (L ++ [MendLink.mk r.From r.To r.Min q])).Period - 1 := by
        intro v hv
        have hv' : v < T.length := hv
        have := ht.el T[v] (List.getElem_mem hv')
        show 0 ≤ tm T v ∧ tm T v ≤ x.Period - 1
        rw [tm_get hv']; omega
      obtain ⟨s1, s2⟩ := slack_some (x := MendRound.mk x.Period T (L ++ [MendLink.mk r.From r.To r.Min q])) (l := MendLink.mk r.From r.To r.Min q) (by show 1 ≤ x.Period; omega) p1 hpl rk.from0 (by show r.From < (T.length : Int); omega) rk.to0 (by show r.To < (T.length : Int); omega) m0 (by show r.Min ≤ 28800; omega) q1.1 q1.2.1
      have es : sl (MendRound.mk x.Period T (L ++ [MendLink.mk r.From r.To r.Min q])) (MendLink.mk r.From r.To r.Min q) = g - r.Min := by
        show tm T (nd r.To) - tm T (nd r.From) + q * x.Period - r.Min = g - r.Min
        rw [← ea, ← eb]; omega
      rw [s1, Option.bind_some, es]
      have hw : 0 ≤ r.Weight * (g - r.Min) := Int.mul_nonneg w0 (by omega)
      have hw2 : r.Weight * (g - r.Min) ≤ 1000 * 3600 := Int.mul_le_mul w1 (by omega) (by omega) (by omega)
      rw [Plancost.loop1, eg, Option.bind_some, w64_id (x := g - r.Min) (by omega), w64_id (x := r.Weight * (g - r.Min)) (by omega), w64_id (x := c + r.Weight * (g - r.Min)) (by omega)]
      refine rules_loop h ht hl hf hk e0 rs (k + 1) _ _ d2 (by simp; omega) ?_ (by simp; omega) (by omega) (by omega)
      intro l hl'
      rcases List.mem_append.1 hl' with z | z
      · exact hLk l z
      · rw [List.mem_singleton] at z
        subst z
        rw [es] at s2
        exact ⟨rk.from0, by show r.From < (T.length : Int); omega, rk.to0, by show r.To < (T.length : Int); omega, m0, by show r.Min ≤ 28800; omega, q1.1, q1.2.1, by show 0 ≤ tm T (nd r.To) - tm T (nd r.From) + q * x.Period - r.Min; rw [← ea, ← eb]; omega, by show tm T (nd r.To) - tm T (nd r.From) + q * x.Period - r.Min ≤ 20000; rw [← ea, ← eb]; omega⟩
/-- least times are times that keep all rules -/
theorem ls_times (h : PSn x n) {T : List Int} (k : Ls x n T) (hl : T.length = n) : (∀ i, i < n → 0 ≤ tm T i ∧ tm T i < x.Period) ∧ ∀ r ∈ x.Rules, Rk x r (tm T) := by
  obtain ⟨n0, n8⟩ := h.n1
  have p0 := h.ok.p0
  obtain ⟨t, t1, t2, t3⟩ := k.some (ls_some h k hl)
  rw [hl] at t3
  refine ⟨fun i hi => ?_, fun r hr => ?_⟩
  · have a := t1.1 0 i (by omega) hi
    have b := t1.2 i hi
    rw [← t3 i hi]
    split at a <;> omega
  · obtain ⟨h1, h2, _, _⟩ := h.ft hr
    obtain ⟨q, q1, q2⟩ := t2 r hr
    have e1 := t3 _ h1
    have e2 := t3 _ h2
    exact ⟨q, by omega, by omega⟩
theorem tf_loop : ∀ l : List Int, (∀ v ∈ l, 0 ≤ v ∧ v < x.Period) → 2 ≤ x.Period → x.Period ≤ 3600 → Fishref2TimesFault.loop1 x l = .next ()
  | [], _, _, _ => rfl
  | v :: l, h, p0, p1 => by
    have := h v (by simp)
    rw [Fishref2TimesFault.loop1, rwithin, w64_id (by omega), decide_eq_true (by omega)]
    simp only [Bool.not_true, Bool.false_eq_true, if_false]
    exact tf_loop l (fun q hq => h q (by simp [hq])) p0 p1
theorem tf_run (h : PSn x n) (hf : Fishref2PeriodicFault x = 0) {p : List Int} (hp : ∀ i, i < n → 0 ≤ tm p i ∧ tm p i < x.Period) (hl : p.length = n) : Fishref2TimesFault x p = 0 := by
  have hn := h.n
  unfold Fishref2TimesFault
  rw [hf, hl, hn, tf_loop p (fun v hv => by
    obtain ⟨i, hi, e⟩ := List.getElem_of_mem hv
    have := hp i (by omega)
    rw [tm_get hi, e] at this; exact this) h.ok.p0 h.ok.p1]
  simp [bnd]
theorem awake_true (n : Nat) : FishtopawakeMend (n + 60) = some true := by kernel_rfl
end
theorem TopRounds_law (x : PlanPeriodic) (y : Int) (_ : x.Rules.length ≤ 9223372036854775807) (_ : -9223372036854775808 ≤ y ∧ y ≤ 9223372036854775807) : ∃ fu, FishtopTopRounds fu x y = some true := by
  refine ⟨13824002 + 60, ?_⟩
  unfold FishtopTopRounds PlanSolve
  rw [awake_true, Option.bind_some, per_eq]
  simp only [Bool.not_true, Bool.false_eq_true, if_false]
  by_cases c : (Fishref2PeriodicFault x != 0) = true
  · rw [if_pos c, Option.bind_some]
    simp only
    rw [if_pos c]; simp
  · rw [if_neg c]
    have cf0 : Fishref2PeriodicFault x = 0 := by simpa using c
    have h : PSn x (nd x.Events) := ⟨per_ok x (by simpa using c), (per_ok x (by simpa using c)).pin.n⟩
    obtain ⟨n0, n8⟩ := h.n1
    rcases solve_run h (m := 13824002) (by omega) with ⟨e1, q1⟩ | ⟨T, e1, q1, q2⟩
    · rw [e1]; simp
    · have hne : T.isEmpty = false := by
        have := q1.pos
        cases T with
        | nil => simp at this
        | cons _ _ => rfl
      obtain ⟨v1, v2⟩ := ls_times h q1 q2
      have hf := tf_run h cf0 v1 q2
      have ht := times_ok x T hf
      rw [e1, Option.bind_some, hne, if_neg Bool.false_ne_true, Option.bind_some]
      simp only [bne_self_eq_false, Bool.false_eq_true, if_false]
      rw [hf]
      simp only [bne_self_eq_false, Bool.false_eq_true, if_false]
      rcases rules_loop h ht q2 hf v2 0 x.Rules 0 0 [] rfl rfl (fun l hl => by cases hl) (by simp) (by omega) (by omega) with r | ⟨c', L, r1, r2, r3, r4⟩
      · rw [r, Option.bind_some]
      · rw [r1, Option.bind_some]
        have ec : PlanCost x T = some (c', 0) := by
          unfold PlanCost Plancost
          rw [times_eq, hf, r2]; rfl
        simp only
        rw [ec, Option.bind_some]
        simp only [bnd, bne_self_eq_false, Bool.false_eq_true, if_false]
        have hx : ROk (MendRound.mk x.Period T L) := ⟨by have := h.ok.p0; show 1 ≤ x.Period; omega, h.ok.p1, by show 1 ≤ T.length; omega, by show T.length ≤ 8; omega, r3, fun v hv => by
          have hv' : v < T.length := hv
          have := v1 v (by omega)
          show 0 ≤ tm T v ∧ tm T v ≤ x.Period - 1
          omega, fun l hl => lk_any (r4 l hl)⟩
        rcases rnd_check hx (fu := 13824002 + 60) (by omega) with ⟨k1, k2⟩ | k1
        · have hi : RIn (MendRound.mk x.Period T L) := ⟨hx, k2⟩
          rw [k1, Option.bind_some]
          simp only [bne_self_eq_false, Bool.false_eq_true, if_false]
          obtain ⟨R, m1, m2⟩ := rm_run hi 13824002 k1
          rw [m1, Option.bind_some]
          simp only [bne_self_eq_false, Bool.false_eq_true, if_false]
          by_cases hy : 0 ≤ y ∧ y ≤ 28800
          · have d1 : decide (y < 0) = false := decide_eq_false (by omega)
            have d2 : decide (y > 28800) = false := decide_eq_false (by omega)
            rw [d1, d2]
            have hRl : R.length = T.length := m2.1
            have rn := (rows_none (y0 := T) (l := R) (shape_rows ⟨m2.1, fun k hk => (m2.2 k hk).1.len⟩)).1
            rw [hRl, rn]
            simp only [bne_self_eq_false, Bool.false_eq_true, if_false]
            rw [a_loop hi hy m2 0 (by omega) k1 T 0 (by omega), Option.bind_some]
          · have : (if decide (y < 0) = true then true else decide (y > 28800)) = true := by
              by_cases q : y < 0
              · rw [decide_eq_true q]; rfl
              · rw [decide_eq_false q, decide_eq_true (by omega)]; rfl
            rw [this]; rfl
        · rw [k1, Option.bind_some]; rfl
end Go.Fp
