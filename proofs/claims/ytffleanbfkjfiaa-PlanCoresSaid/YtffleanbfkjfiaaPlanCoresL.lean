/- PlanCores: the mirror of the law is true of all rules. -/
import Derived.Test.YtffleanbfkjfiaaPlanCoresM
import Derived.Test.YtffleanbfkjfiaaFpPlain
import Derived.Test.YtffleanbfkjfiaaFpGrid
import Derived.KernelRfl
namespace Go.Fp
/-! times in lists -/
abbrev Tm := Nat → Int
def nd (i : Int) : Nat := i.toNat
def tm (t : List Int) : Tm := fun v => (t[v]?).getD 0
theorem tm_get {t : List Int} {v : Nat} (h : v < t.length) : tm t v = t[v] := by simp [tm, h]
theorem gx_tm {t : List Int} {i : Int} (h0 : 0 ≤ i) (h1 : i < t.length) : gx t i = some (tm t (nd i)) := by
  have h : i.toNat < t.length := by omega
  rw [gx_toNat h0 h]; simp [tm, nd, h]
theorem tm_set {t : List Int} {u v : Nat} {x : Int} (h : u < t.length) : tm (t.set u x) v = if v = u then x else tm t v := by
  unfold tm
  by_cases c : v = u
  · subst c; rw [if_pos rfl, List.getElem?_set_self h]; rfl
  · rw [if_neg c, List.getElem?_set_ne (fun e => c e.symm)]
def bt (w : List Bool) (v : Nat) : Bool := (w[v]?).getD false
theorem bt_get {t : List Bool} {v : Nat} (h : v < t.length) : bt t v = t[v] := by simp [bt, h]
theorem gx_bt {t : List Bool} {i : Int} (h0 : 0 ≤ i) (h1 : i < t.length) : gx t i = some (bt t (nd i)) := by
  have h : i.toNat < t.length := by omega
  rw [gx_toNat h0 h]; simp [bt, nd, h]
theorem bt_set {t : List Bool} {u v : Nat} {x : Bool} (h : u < t.length) : bt (t.set u x) v = if v = u then x else bt t v := by
  unfold bt
  by_cases c : v = u
  · subst c; rw [if_pos rfl, List.getElem?_set_self h]; rfl
  · rw [if_neg c, List.getElem?_set_ne (fun e => c e.symm)]
theorem pwithin (x a b : Int) : Planwithin x a b = decide (a ≤ x ∧ x ≤ b) := by
  unfold Planwithin bnd
  by_cases h : a ≤ x <;> simp [h]
theorem rwithin (x a b : Int) : Fishref2within x a b = decide (a ≤ x ∧ x ≤ b) := by
  unfold Fishref2within bnd
  by_cases h : a ≤ x <;> simp [h]
theorem rule_max (x lo hi : Int) (w : Bool) : (if decide (x < lo) = true then true else if decide (x > hi) = true then true else w) = (if (!decide (lo ≤ x ∧ x ≤ hi)) = true then true else w) := by
  by_cases h1 : x < lo
  · have : ¬ (lo ≤ x ∧ x ≤ hi) := by omega
    simp [h1, this]
  · by_cases h2 : x > hi
    · have : ¬ (lo ≤ x ∧ x ≤ hi) := by omega
      simp [h1, h2, this]
    · have : lo ≤ x ∧ x ≤ hi := by omega
      simp [h1, h2, this]
theorem per_loop (x : PlanPeriodic) : ∀ l, PlanCheckPeriodic.loop1 x l = Fishref2PeriodicFault.loop1 x l
  | [] => rfl
  | r :: l => by
    rw [PlanCheckPeriodic.loop1, Fishref2PeriodicFault.loop1]
    simp only [pwithin, rwithin, rule_max, per_loop x l]
theorem per_eq (x : PlanPeriodic) : PlanCheckPeriodic x = Fishref2PeriodicFault x := by
  unfold PlanCheckPeriodic Fishref2PeriodicFault
  simp only [pwithin, rwithin, per_loop]
theorem periods_true (n : Nat) : Fishlaw2periods (n + 60) = some true := by kernel_rfl
/-- what a right rule is -/
structure RuleOk (x : PlanPeriodic) (r : PlanRule) : Prop where
  from0 : 0 ≤ r.From
  from1 : r.From < x.Events
  to0 : 0 ≤ r.To
  to1 : r.To < x.Events
  ne : r.From ≠ r.To
  min0 : 0 ≤ r.Min
  min1 : r.Min ≤ 3600
  max0 : r.Min ≤ r.Max
  max1 : r.Max ≤ r.Min + x.Period - 1
  w0 : 0 ≤ r.Weight
  w1 : r.Weight ≤ 1000
structure PerOk (x : PlanPeriodic) : Prop where
  p0 : 2 ≤ x.Period
  p1 : x.Period ≤ 3600
  e0 : 1 ≤ x.Events
  e1 : x.Events ≤ 8
  n : x.Rules.length ≤ 40
  rules : ∀ r ∈ x.Rules, RuleOk x r
theorem perloop_ok (x : PlanPeriodic) (p0 : 2 ≤ x.Period) (p1 : x.Period ≤ 3600) (e0 : 1 ≤ x.Events) (e1 : x.Events ≤ 8) :
    ∀ l, (match Fishref2PeriodicFault.loop1 x l with | .ret r => r | .next () => 0) = 0 → ∀ r ∈ l, RuleOk x r
  | [], _, r, hr => by cases hr
  | q :: l, h, r, hr => by
    rw [Fishref2PeriodicFault.loop1] at h
    simp only [rwithin, rule_max, bnd] at h
    rw [w64_id (x := x.Events - 1) (by omega)] at h
    by_cases c1 : (if (!decide (0 ≤ q.From ∧ q.From ≤ x.Events - 1)) = true then true else !decide (0 ≤ q.To ∧ q.To ≤ x.Events - 1)) = true
    · rw [if_pos c1] at h; cases h
    rw [if_neg c1] at h
    by_cases c2 : (q.From == q.To) = true
    · rw [if_pos c2] at h; cases h
    rw [if_neg c2] at h
    by_cases c3 : (if (!decide (0 ≤ q.Min ∧ q.Min ≤ 3600)) = true then true else if (!decide (q.Min ≤ q.Max ∧ q.Max ≤ w64 (w64 (q.Min + x.Period) - 1))) = true then true else !decide (0 ≤ q.Weight ∧ q.Weight ≤ 1000)) = true
    · rw [if_pos c3] at h; cases h
    rw [if_neg c3] at h
    rcases List.mem_cons.1 hr with rfl | hr
    · simp at c1 c2 c3
      have m0 : 0 ≤ r.Min := by by_cases k : 0 ≤ r.Min ∧ r.Min ≤ 3600 <;> simp_all
      have m1 : r.Min ≤ 3600 := by by_cases k : 0 ≤ r.Min ∧ r.Min ≤ 3600 <;> simp_all
      rw [w64_id (x := r.Min + x.Period) (by omega), w64_id (x := r.Min + x.Period - 1) (by omega)] at c3
      have hf : 0 ≤ r.From ∧ r.From ≤ x.Events - 1 := by by_cases k : 0 ≤ r.From ∧ r.From ≤ x.Events - 1 <;> simp_all
      have ht : 0 ≤ r.To ∧ r.To ≤ x.Events - 1 := by by_cases k : 0 ≤ r.To ∧ r.To ≤ x.Events - 1 <;> simp_all
      have hx : r.Min ≤ r.Max ∧ r.Max ≤ r.Min + x.Period - 1 := by by_cases k : r.Min ≤ r.Max ∧ r.Max ≤ r.Min + x.Period - 1 <;> simp_all
      have hw : 0 ≤ r.Weight ∧ r.Weight ≤ 1000 := by by_cases k : 0 ≤ r.Weight ∧ r.Weight ≤ 1000 <;> simp_all
      exact ⟨hf.1, by omega, ht.1, by omega, c2, m0, m1, hx.1, hx.2, hw.1, hw.2⟩
    · exact perloop_ok x p0 p1 e0 e1 l h r hr
theorem per_ok (x : PlanPeriodic) (h : Fishref2PeriodicFault x = 0) : PerOk x := by
  unfold Fishref2PeriodicFault at h
  simp only [rwithin, bnd] at h
  by_cases c1 : (if (!decide (2 ≤ x.Period ∧ x.Period ≤ 3600)) = true then true else !decide (1 ≤ x.Events ∧ x.Events ≤ 8)) = true
  · rw [if_pos c1] at h; cases h
  rw [if_neg c1] at h
  by_cases c2 : decide ((x.Rules.length : Int) > 40) = true
  · rw [if_pos c2] at h; cases h
  rw [if_neg c2] at h
  have hp : 2 ≤ x.Period ∧ x.Period ≤ 3600 := by by_cases k : 2 ≤ x.Period ∧ x.Period ≤ 3600 <;> simp_all
  have he : 1 ≤ x.Events ∧ x.Events ≤ 8 := by by_cases k : 1 ≤ x.Events ∧ x.Events ≤ 8 <;> simp_all
  have hn : x.Rules.length ≤ 40 := by simp at c2; omega
  exact ⟨hp.1, hp.2, he.1, he.2, hn, perloop_ok x hp.1 hp.2 he.1 he.2 _ h⟩
structure TimesOk (x : PlanPeriodic) (t : List Int) : Prop extends PerOk x where
  len : (t.length : Int) = x.Events
  el : ∀ v ∈ t, 0 ≤ v ∧ v < x.Period
/-! bounds of differences -/
def bv (B : List Int) (i k : Nat) : Int := tm B (i * 8 + k)
structure Dbm (n : Nat) (P : Int) (B : List Int) : Prop where
  len : B.length = 64
  diag : ∀ i, i < n → bv B i i = 0
  tri : ∀ i j k, i < n → j < n → k < n → bv B i k ≤ bv B i j + bv B j k
  hi : ∀ i k, i < n → k < n → bv B i k ≤ P - 1
/-- times within bounds -/
def Keeps (n : Nat) (B : List Int) (t : Nat → Int) : Prop := ∀ i k, i < n → k < n → t k - t i ≤ bv B i k
section
variable {n : Nat} {P : Int} {B C : List Int}
theorem Dbm.lo (h : Dbm n P B) {i k : Nat} (hi : i < n) (hk : k < n) : -(P - 1) ≤ bv B i k := by
  have h1 := h.tri i k i hi hk hi
  have h2 := h.hi k i hk hi
  have h3 := h.diag i hi
  omega
/-- the least times -/
theorem Dbm.least (h : Dbm n P B) (h0 : 0 < n) : Keeps n B (fun i => -bv B i 0) := by
  intro i k hi hk
  have := h.tri i k 0 hi hk h0
  show -bv B k 0 - -bv B i 0 ≤ _
  omega
/-- bounds with one more -/
structure Cut (n : Nat) (B : List Int) (f g : Nat) (m : Int) (C : List Int) : Prop where
  len : C.length = 64
  val : ∀ i k, i < n → k < n → bv C i k = min (bv B i k) (bv B i f + m + bv B g k)
theorem Cut.dbm (h : Dbm n P B) {f g : Nat} {m : Int} (hf : f < n) (hg : g < n) (hm : 0 ≤ bv B g f + m) (c : Cut n B f g m C) : Dbm n P C := by
  have nn : ∀ i, i < n → 0 ≤ bv B i f + m + bv B g i := by
    intro i hi
    have := h.tri g i f hg hi hf
    omega
  refine ⟨c.len, fun i hi => ?_, fun i j k hi hj hk => ?_, fun i k hi hk => ?_⟩
  · rw [c.val i i hi hi, h.diag i hi]
    have := nn i hi
    omega
  · rw [c.val i k hi hk, c.val i j hi hj, c.val j k hj hk]
    have t1 := h.tri i j k hi hj hk
    have t2 := h.tri i j f hi hj hf
    have t3 := h.tri g j k hg hj hk
    have t4 := nn j hj
    omega
  · rw [c.val i k hi hk]
    have := h.hi i k hi hk
    omega
theorem Cut.in_iff (h : Dbm n P B) {f g : Nat} {m : Int} (hf : f < n) (hg : g < n) (c : Cut n B f g m C) (t : Nat → Int) : Keeps n C t ↔ Keeps n B t ∧ t g - t f ≤ m := by
  constructor
  · intro q
    refine ⟨fun i k hi hk => ?_, ?_⟩
    · have := q i k hi hk; rw [c.val i k hi hk] at this; omega
    · have := q f g hf hg
      rw [c.val f g hf hg, h.diag f hf, h.diag g hg] at this
      omega
  · rintro ⟨q, e⟩ i k hi hk
    rw [c.val i k hi hk]
    have := q i k hi hk
    have := q i f hi hf
    have := q g k hg hk
    omega
theorem bx_in {i : Int} (h0 : 0 ≤ i) (h1 : i < 8) : bx 8 i = some () := by unfold bx; rw [if_pos ⟨h0, by omega⟩]
theorem gx_bv (hl : B.length = 64) {i k : Nat} (hi : i < 8) (hk : k < 8) : gx B ((i : Int) * 8 + (k : Int)) = some (bv B i k) := by
  have e : (i : Int) * 8 + (k : Int) = ((i * 8 + k : Nat) : Int) := by omega
  rw [e, gx_tm (by omega) (by omega)]
  unfold bv nd
  congr 2
theorem sx_bv (hl : B.length = 64) {i k : Nat} (hi : i < 8) (hk : k < 8) (a : Int) : ∃ C, sx B ((i : Int) * 8 + (k : Int)) a = some C ∧ C.length = 64 ∧ ∀ i' k', i' < 8 → k' < 8 → bv C i' k' = if i' = i ∧ k' = k then a else bv B i' k' := by
  have e : (i : Int) * 8 + (k : Int) = ((i * 8 + k : Nat) : Int) := by omega
  rw [e, sx_in (by omega) (by omega)]
  refine ⟨_, rfl, by simpa using hl, fun i' k' hi' hk' => ?_⟩
  unfold bv
  rw [show (((i * 8 + k : Nat) : Int)).toNat = i * 8 + k by omega, tm_set (by omega)]
  by_cases c : i' = i ∧ k' = k
  · rw [if_pos c, if_pos (by omega)]
  · rw [if_neg c, if_neg (by omega)]
/-- the values that the code reckons with are small -/
structure Sm (n : Nat) (B : List Int) : Prop where
  len : B.length = 64
  n8 : n ≤ 8
  sm : ∀ i k, i < n → k < n → -3600 ≤ bv B i k ∧ bv B i k ≤ 3600
theorem closed_loop4 (hB : Sm n B) {f g i : Nat} (hf : f < n) (hg : g < n) (hi : i < n) {m : Int} (hm : -100000 ≤ m ∧ m ≤ 100000) : ∀ (r k : Nat) (C : List Int) (fu : Nat), k + r = n → r < fu → C.length = 64 →
    ∃ q C', PlanBoundsclosed.loop4 (n : Int) (f : Int) (g : Int) m B (i : Int) fu (k : Int) C = some (q, C') ∧ C'.length = 64 ∧ ∀ i' k', i' < 8 → k' < 8 → bv C' i' k' = if i' = i ∧ k ≤ k' ∧ k' < n then min (bv C i k') (bv B i f + m + bv B g k') else bv C i' k'
  | 0, k, C, fu, hk, hfu, hC => by
    obtain ⟨fu, rfl⟩ : ∃ q, fu = q + 1 := ⟨fu - 1, by omega⟩
    rw [PlanBoundsclosed.loop4, decide_eq_false (by omega)]
    simp only [Bool.false_eq_true, if_false]
    exact ⟨_, C, rfl, hC, fun i' k' _ _ => by rw [if_neg (by omega)]⟩
  | r + 1, k, C, fu, hk, hfu, hC => by
    have n8 := hB.n8
    obtain ⟨fu, rfl⟩ : ∃ q, fu = q + 1 := ⟨fu - 1, by omega⟩
    have s1 := hB.sm i f hi hf
    have s2 := hB.sm g k hg (by omega)
    rw [PlanBoundsclosed.loop4, decide_eq_true (by omega)]
    simp only [if_true]
    rw [bx_in (i := (i : Int)) (by omega) (by omega), bx_in (i := (k : Int)) (by omega) (by omega), bx_in (i := (f : Int)) (by omega) (by omega), bx_in (i := (g : Int)) (by omega) (by omega)]
    simp only [Option.bind_some]
    rw [gx_bv hC (by omega) (by omega), gx_bv hB.len (i := i) (k := f) (by omega) (by omega), gx_bv hB.len (i := g) (k := k) (by omega) (by omega)]
    simp only [Option.bind_some]
    rw [w64_id (x := bv B i f + m) (by omega), w64_id (x := bv B i f + m + bv B g k) (by omega)]
    obtain ⟨C1, e1, e2, e3⟩ := sx_bv hC (i := i) (k := k) (by omega) (by omega) (mn (bv C i k) (bv B i f + m + bv B g k))
    rw [e1]
    simp only [Option.bind_some]
    rw [w64_id (x := (k : Int) + 1) (by omega), show (k : Int) + 1 = ((k + 1 : Nat) : Int) by omega]
    obtain ⟨q, C', f1, f2, f3⟩ := closed_loop4 hB hf hg hi hm r (k + 1) C1 fu (by omega) (by omega) e2
    refine ⟨q, C', f1, f2, fun i' k' hi' hk' => ?_⟩
    rw [f3 i' k' hi' hk']
    have hmn : mn (bv C i k) (bv B i f + m + bv B g k) = min (bv C i k) (bv B i f + m + bv B g k) := by unfold mn; omega
    by_cases c : i' = i ∧ k + 1 ≤ k' ∧ k' < n
    · rw [if_pos c, if_pos (by omega), e3 i k' (by omega) hk', if_neg (by omega)]
    · rw [if_neg c, e3 i' k' hi' hk', hmn]
      by_cases c2 : i' = i ∧ k' = k
      · rw [if_pos c2, if_pos (by omega), c2.2]
      · rw [if_neg c2, if_neg (by omega)]
theorem closed_loop2 (hB : Sm n B) {f g : Nat} (hf : f < n) (hg : g < n) {m : Int} (hm : -100000 ≤ m ∧ m ≤ 100000) {fv : Nat} (hv : 20 ≤ fv) : ∀ (r i : Nat) (C : List Int) (fu : Nat), i + r = n → r < fu → C.length = 64 →
    ∃ q C', PlanBoundsclosed.loop2 (n : Int) (f : Int) (g : Int) m fv B fu (i : Int) C = some (q, C') ∧ C'.length = 64 ∧ ∀ i' k', i' < 8 → k' < 8 → bv C' i' k' = if i ≤ i' ∧ i' < n ∧ k' < n then min (bv C i' k') (bv B i' f + m + bv B g k') else bv C i' k'
  | 0, i, C, fu, hi, hfu, hC => by
    obtain ⟨fu, rfl⟩ : ∃ q, fu = q + 1 := ⟨fu - 1, by omega⟩
    rw [PlanBoundsclosed.loop2, decide_eq_false (by omega)]
    simp only [Bool.false_eq_true, if_false]
    exact ⟨_, C, rfl, hC, fun i' k' _ _ => by rw [if_neg (by omega)]⟩
  | r + 1, i, C, fu, hi, hfu, hC => by
    have n8 := hB.n8
    obtain ⟨fu, rfl⟩ : ∃ q, fu = q + 1 := ⟨fu - 1, by omega⟩
    rw [PlanBoundsclosed.loop2, decide_eq_true (by omega)]
    simp only [if_true]
    obtain ⟨q1, C1, e1, e2, e3⟩ := closed_loop4 hB hf hg (i := i) (by omega) hm n 0 C fv (by omega) (by omega) hC
    have e1' : PlanBoundsclosed.loop4 (n : Int) (f : Int) (g : Int) m B (i : Int) fv 0 C = some (q1, C1) := e1
    rw [e1']
    simp only [Option.bind_some]
    rw [w64_id (x := (i : Int) + 1) (by omega), show (i : Int) + 1 = ((i + 1 : Nat) : Int) by omega]
    obtain ⟨q, C', f1, f2, f3⟩ := closed_loop2 hB hf hg hm hv r (i + 1) C1 fu (by omega) (by omega) e2
    refine ⟨q, C', f1, f2, fun i' k' hi' hk' => ?_⟩
    rw [f3 i' k' hi' hk', e3 i' k' hi' hk']
    by_cases c : i + 1 ≤ i' ∧ i' < n ∧ k' < n
    · rw [if_pos c, if_neg (by omega), if_pos (by omega)]
    · rw [if_neg c]
      by_cases c2 : i' = i ∧ 0 ≤ k' ∧ k' < n
      · rw [if_pos c2, if_pos (by omega), c2.1]
      · rw [if_neg c2, if_neg (by omega)]
theorem Dbm.small (h : Dbm n P B) (hn : n ≤ 8) (hP : P ≤ 3600) : Sm n B := ⟨h.len, hn, fun i k hi hk => by have := h.lo hi hk; have := h.hi i k hi hk; omega⟩
/-- one bound more: nothing keeps it, or these are the bounds -/
theorem closed_run (h : Dbm n P B) (hn : n ≤ 8) (hP : P ≤ 3600) {f g : Nat} (hf : f < n) (hg : g < n) {m : Int} (hm : -100000 ≤ m ∧ m ≤ 100000) {fu : Nat} (hu : 20 ≤ fu) :
    (PlanBoundsclosed fu (some B) (n : Int) (f : Int) (g : Int) m = some (none, false) ∧ ∀ t, Keeps n B t → ¬ t g - t f ≤ m) ∨ ∃ C, PlanBoundsclosed fu (some B) (n : Int) (f : Int) (g : Int) m = some (some C, true) ∧ Dbm n P C ∧ ∀ t, Keeps n C t ↔ Keeps n B t ∧ t g - t f ≤ m := by
  have hs := h.small hn hP
  have s1 := hs.sm g f hg hf
  unfold PlanBoundsclosed
  simp only [Option.bind_some]
  rw [bx_in (i := (f : Int)) (by omega) (by omega), bx_in (i := (g : Int)) (by omega) (by omega)]
  simp only [Option.bind_some]
  rw [gx_bv h.len (i := f) (k := g) (by omega) (by omega), gx_bv h.len (i := g) (k := f) (by omega) (by omega)]
  simp only [Option.bind_some]
  by_cases c : bv B f g ≤ m
  · rw [decide_eq_true c]
    right
    refine ⟨B, rfl, h, fun t => ⟨fun q => ⟨q, ?_⟩, fun q => q.1⟩⟩
    have := q f g hf hg
    omega
  · rw [decide_eq_false c]
    simp only [Bool.false_eq_true, if_false]
    rw [w64_id (x := bv B g f + m) (by omega)]
    by_cases c2 : bv B g f + m < 0
    · rw [decide_eq_true c2]
      left
      refine ⟨rfl, fun t q e => ?_⟩
      have := q g f hg hf
      omega
    · rw [decide_eq_false c2]
      simp only [Bool.false_eq_true, if_false]
      obtain ⟨q, C, e1, e2, e3⟩ := closed_loop2 hs hf hg hm (fv := fu) hu n 0 B fu (by omega) (by omega) h.len
      have e1' : PlanBoundsclosed.loop2 (n : Int) (f : Int) (g : Int) m fu B fu 0 B = some (q, C) := e1
      rw [e1']
      simp only [Option.bind_some]
      have hc : Cut n B f g m C := ⟨e2, fun i k hi hk => by rw [e3 i k (by omega) (by omega), if_pos ⟨Nat.zero_le _, hi, hk⟩]⟩
      right
      exact ⟨C, rfl, hc.dbm h hf hg (by omega), fun t => hc.in_iff h hf hg t⟩
theorem between_run (h : Dbm n P B) (hn : n ≤ 8) (hP : P ≤ 3600) {f g : Nat} (hf : f < n) (hg : g < n) {lo hi : Int} (hl : -100000 ≤ lo ∧ lo ≤ 100000) (hh : -100000 ≤ hi ∧ hi ≤ 100000) {fu : Nat} (hu : 20 ≤ fu) :
    (∃ z, PlanBoundsbetween fu (some B) (n : Int) (f : Int) (g : Int) lo hi = some (z, false) ∧ ∀ t, Keeps n B t → ¬ (lo ≤ t g - t f ∧ t g - t f ≤ hi)) ∨ ∃ C, PlanBoundsbetween fu (some B) (n : Int) (f : Int) (g : Int) lo hi = some (some C, true) ∧ Dbm n P C ∧ ∀ t, Keeps n C t ↔ Keeps n B t ∧ lo ≤ t g - t f ∧ t g - t f ≤ hi := by
  unfold PlanBoundsbetween
  rcases closed_run h hn hP hf hg hh hu with ⟨e, q⟩ | ⟨C, e, d, q⟩
  · rw [e]
    left
    exact ⟨none, rfl, fun t ht hk => q t ht hk.2⟩
  · rw [e]
    simp only [Option.bind_some, Bool.not_true, Bool.false_eq_true, if_false]
    rw [w64_id (by omega)]
    rcases closed_run d hn hP hg hf (m := 0 - lo) (by omega) hu with ⟨e2, q2⟩ | ⟨C2, e2, d2, q2⟩
    · rw [e2]
      left
      refine ⟨none, rfl, fun t ht hk => q2 t ((q t).2 ⟨ht, hk.2⟩) (by omega)⟩
    · rw [e2]
      right
      refine ⟨C2, rfl, d2, fun t => ?_⟩
      rw [q2, q]
      constructor
      · rintro ⟨⟨a, b⟩, c⟩; exact ⟨a, by omega, b⟩
      · rintro ⟨a, b, c⟩; exact ⟨⟨a, c⟩, by omega⟩
end
theorem repP (m k : Nat) (a : Int) (h : k ≤ 8) : SlicesRepeatLint (m + 60) [a] ((k : Nat) : Int) = some (List.replicate k a) := by
  have h0 : SlicesRepeatLint (m + 60) [a] 0 = some (List.replicate 0 a) := by kernel_rfl
  have h1 : SlicesRepeatLint (m + 60) [a] 1 = some (List.replicate 1 a) := by kernel_rfl
  have h2 : SlicesRepeatLint (m + 60) [a] 2 = some (List.replicate 2 a) := by kernel_rfl
  have h3 : SlicesRepeatLint (m + 60) [a] 3 = some (List.replicate 3 a) := by kernel_rfl
  have h4 : SlicesRepeatLint (m + 60) [a] 4 = some (List.replicate 4 a) := by kernel_rfl
  have h5 : SlicesRepeatLint (m + 60) [a] 5 = some (List.replicate 5 a) := by kernel_rfl
  have h6 : SlicesRepeatLint (m + 60) [a] 6 = some (List.replicate 6 a) := by kernel_rfl
  have h7 : SlicesRepeatLint (m + 60) [a] 7 = some (List.replicate 7 a) := by kernel_rfl
  have h8 : SlicesRepeatLint (m + 60) [a] 8 = some (List.replicate 8 a) := by kernel_rfl
  have : k = 0 ∨ k = 1 ∨ k = 2 ∨ k = 3 ∨ k = 4 ∨ k = 5 ∨ k = 6 ∨ k = 7 ∨ k = 8 := by omega
  rcases this with rfl | rfl | rfl | rfl | rfl | rfl | rfl | rfl | rfl
  · exact h0
  · exact h1
  · exact h2
  · exact h3
  · exact h4
  · exact h5
  · exact h6
  · exact h7
  · exact h8
theorem repB (m k : Nat) (h : k ≤ 40) : SlicesRepeatLbool (m + 60) [true] ((k : Nat) : Int) = some (List.replicate k true) := by
  have h0 : SlicesRepeatLbool (m + 60) [true] 0 = some (List.replicate 0 true) := by kernel_rfl
  have h1 : SlicesRepeatLbool (m + 60) [true] 1 = some (List.replicate 1 true) := by kernel_rfl
  have h2 : SlicesRepeatLbool (m + 60) [true] 2 = some (List.replicate 2 true) := by kernel_rfl
  have h3 : SlicesRepeatLbool (m + 60) [true] 3 = some (List.replicate 3 true) := by kernel_rfl
  have h4 : SlicesRepeatLbool (m + 60) [true] 4 = some (List.replicate 4 true) := by kernel_rfl
  have h5 : SlicesRepeatLbool (m + 60) [true] 5 = some (List.replicate 5 true) := by kernel_rfl
  have h6 : SlicesRepeatLbool (m + 60) [true] 6 = some (List.replicate 6 true) := by kernel_rfl
  have h7 : SlicesRepeatLbool (m + 60) [true] 7 = some (List.replicate 7 true) := by kernel_rfl
  have h8 : SlicesRepeatLbool (m + 60) [true] 8 = some (List.replicate 8 true) := by kernel_rfl
  have h9 : SlicesRepeatLbool (m + 60) [true] 9 = some (List.replicate 9 true) := by kernel_rfl
  have h10 : SlicesRepeatLbool (m + 60) [true] 10 = some (List.replicate 10 true) := by kernel_rfl
  have h11 : SlicesRepeatLbool (m + 60) [true] 11 = some (List.replicate 11 true) := by kernel_rfl
  have h12 : SlicesRepeatLbool (m + 60) [true] 12 = some (List.replicate 12 true) := by kernel_rfl
  have h13 : SlicesRepeatLbool (m + 60) [true] 13 = some (List.replicate 13 true) := by kernel_rfl
  have h14 : SlicesRepeatLbool (m + 60) [true] 14 = some (List.replicate 14 true) := by kernel_rfl
  have h15 : SlicesRepeatLbool (m + 60) [true] 15 = some (List.replicate 15 true) := by kernel_rfl
  have h16 : SlicesRepeatLbool (m + 60) [true] 16 = some (List.replicate 16 true) := by kernel_rfl
  have h17 : SlicesRepeatLbool (m + 60) [true] 17 = some (List.replicate 17 true) := by kernel_rfl
  have h18 : SlicesRepeatLbool (m + 60) [true] 18 = some (List.replicate 18 true) := by kernel_rfl
  have h19 : SlicesRepeatLbool (m + 60) [true] 19 = some (List.replicate 19 true) := by kernel_rfl
  have h20 : SlicesRepeatLbool (m + 60) [true] 20 = some (List.replicate 20 true) := by kernel_rfl
  have h21 : SlicesRepeatLbool (m + 60) [true] 21 = some (List.replicate 21 true) := by kernel_rfl
  have h22 : SlicesRepeatLbool (m + 60) [true] 22 = some (List.replicate 22 true) := by kernel_rfl
  have h23 : SlicesRepeatLbool (m + 60) [true] 23 = some (List.replicate 23 true) := by kernel_rfl
  have h24 : SlicesRepeatLbool (m + 60) [true] 24 = some (List.replicate 24 true) := by kernel_rfl
  have h25 : SlicesRepeatLbool (m + 60) [true] 25 = some (List.replicate 25 true) := by kernel_rfl
  have h26 : SlicesRepeatLbool (m + 60) [true] 26 = some (List.replicate 26 true) := by kernel_rfl
  have h27 : SlicesRepeatLbool (m + 60) [true] 27 = some (List.replicate 27 true) := by kernel_rfl
  have h28 : SlicesRepeatLbool (m + 60) [true] 28 = some (List.replicate 28 true) := by kernel_rfl
  have h29 : SlicesRepeatLbool (m + 60) [true] 29 = some (List.replicate 29 true) := by kernel_rfl
  have h30 : SlicesRepeatLbool (m + 60) [true] 30 = some (List.replicate 30 true) := by kernel_rfl
  have h31 : SlicesRepeatLbool (m + 60) [true] 31 = some (List.replicate 31 true) := by kernel_rfl
  have h32 : SlicesRepeatLbool (m + 60) [true] 32 = some (List.replicate 32 true) := by kernel_rfl
  have h33 : SlicesRepeatLbool (m + 60) [true] 33 = some (List.replicate 33 true) := by kernel_rfl
  have h34 : SlicesRepeatLbool (m + 60) [true] 34 = some (List.replicate 34 true) := by kernel_rfl
  have h35 : SlicesRepeatLbool (m + 60) [true] 35 = some (List.replicate 35 true) := by kernel_rfl
  have h36 : SlicesRepeatLbool (m + 60) [true] 36 = some (List.replicate 36 true) := by kernel_rfl
  have h37 : SlicesRepeatLbool (m + 60) [true] 37 = some (List.replicate 37 true) := by kernel_rfl
  have h38 : SlicesRepeatLbool (m + 60) [true] 38 = some (List.replicate 38 true) := by kernel_rfl
  have h39 : SlicesRepeatLbool (m + 60) [true] 39 = some (List.replicate 39 true) := by kernel_rfl
  have h40 : SlicesRepeatLbool (m + 60) [true] 40 = some (List.replicate 40 true) := by kernel_rfl
  have : k = 0 ∨ k = 1 ∨ k = 2 ∨ k = 3 ∨ k = 4 ∨ k = 5 ∨ k = 6 ∨ k = 7 ∨ k = 8 ∨ k = 9 ∨ k = 10 ∨ k = 11 ∨ k = 12 ∨ k = 13 ∨ k = 14 ∨ k = 15 ∨ k = 16 ∨ k = 17 ∨ k = 18 ∨ k = 19 ∨ k = 20 ∨ k = 21 ∨ k = 22 ∨ k = 23 ∨ k = 24 ∨ k = 25 ∨ k = 26 ∨ k = 27 ∨ k = 28 ∨ k = 29 ∨ k = 30 ∨ k = 31 ∨ k = 32 ∨ k = 33 ∨ k = 34 ∨ k = 35 ∨ k = 36 ∨ k = 37 ∨ k = 38 ∨ k = 39 ∨ k = 40 := by omega
  rcases this with rfl | rfl | rfl | rfl | rfl | rfl | rfl | rfl | rfl | rfl | rfl | rfl | rfl | rfl | rfl | rfl | rfl | rfl | rfl | rfl | rfl | rfl | rfl | rfl | rfl | rfl | rfl | rfl | rfl | rfl | rfl | rfl | rfl | rfl | rfl | rfl | rfl | rfl | rfl | rfl | rfl
  · exact h0
  · exact h1
  · exact h2
  · exact h3
  · exact h4
  · exact h5
  · exact h6
  · exact h7
  · exact h8
  · exact h9
  · exact h10
  · exact h11
  · exact h12
  · exact h13
  · exact h14
  · exact h15
  · exact h16
  · exact h17
  · exact h18
  · exact h19
  · exact h20
  · exact h21
  · exact h22
  · exact h23
  · exact h24
  · exact h25
  · exact h26
  · exact h27
  · exact h28
  · exact h29
  · exact h30
  · exact h31
  · exact h32
  · exact h33
  · exact h34
  · exact h35
  · exact h36
  · exact h37
  · exact h38
  · exact h39
  · exact h40
/-! the reference's bounds, in rows -/
def rw_ (b : List (List Int)) (k : Nat) : List Int := (b[k]?).getD []
def rb (b : List (List Int)) (i k : Nat) : Int := tm (rw_ b i) k
structure Rows (n : Nat) (b : List (List Int)) : Prop where
  len : b.length = n
  el : ∀ k, k < n → (rw_ b k).length = n
def fl (b : List (List Int)) : List Int := (List.range 64).map fun j => rb b (j / 8) (j % 8)
theorem bv_fl {b : List (List Int)} {i k : Nat} (hi : i < 8) (hk : k < 8) : bv (fl b) i k = rb b i k := by
  unfold bv fl tm
  rw [List.getElem?_map, List.getElem?_range (by omega)]
  have e1 : (i * 8 + k) / 8 = i := by omega
  have e2 : (i * 8 + k) % 8 = k := by omega
  simp only [Option.map_some, Option.getD_some, e1, e2]
theorem fl_len (b : List (List Int)) : (fl b).length = 64 := by simp [fl]
structure RD (n : Nat) (P : Int) (b : List (List Int)) : Prop where
  rows : Rows n b
  dbm : Dbm n P (fl b)
theorem gx_rw {n : Nat} {b : List (List Int)} (h : b.length = n) {i : Nat} (hi : i < n) : gx b (i : Int) = some (rw_ b i) := by
  rw [gx_nat, List.getElem?_eq_getElem (by omega)]; simp [rw_, List.getElem?_eq_getElem (show i < b.length by omega)]
theorem gx_rb {n : Nat} {r : List Int} (h : r.length = n) {k : Nat} (hk : k < n) : gx r (k : Int) = some (tm r k) := by
  rw [gx_tm (by omega) (by omega)]; rfl
theorem rw_set {b : List (List Int)} {x : Nat} (hx : x < b.length) (r : List Int) (i : Nat) : rw_ (b.set x r) i = if i = x then r else rw_ b i := by
  unfold rw_
  by_cases c : i = x
  · subst c; rw [if_pos rfl, List.getElem?_set_self hx]; rfl
  · rw [if_neg c, List.getElem?_set_ne (fun e => c e.symm)]
/-- the values that the reference reckons with are small -/
structure RSm (n : Nat) (b : List (List Int)) : Prop where
  rows : Rows n b
  n8 : n ≤ 8
  sm : ∀ i k, i < n → k < n → -3600 ≤ rb b i k ∧ rb b i k ≤ 3600
theorem RD.small {n : Nat} {P : Int} {b : List (List Int)} (h : RD n P b) (hn : n ≤ 8) (hP : P ≤ 3600) : RSm n b :=
  ⟨h.rows, hn, fun i k hi hk => by have := (h.dbm.small hn hP).sm i k hi hk; rwa [bv_fl (by omega) (by omega)] at this⟩
theorem tight_loop2 {n : Nat} {b : List (List Int)} (hb : RSm n b) {f g x : Nat} (hf : f < n) (hg : g < n) (hx : x < n) {m : Int} (hm : -100000 ≤ m ∧ m ≤ 100000) :
    ∀ (rest : List (List Int)) (k : Nat) (q : List (List Int)) (row : List Int), rest.length + k = n → q.length = n → rw_ q x = row → row.length = n → (∀ y, k ≤ y → y < n → tm row y = rb b x y) →
    ∃ row', Fishref2Boundstighter.loop2 b (f : Int) (g : Int) m (rw_ b x) x rest k q = some (q.set x row') ∧ row'.length = n ∧ ∀ y, y < n → tm row' y = if k ≤ y then min (rb b x y) (rb b x f + m + rb b g y) else tm row y
  | [], k, q, row, hk, hq, hr, hl, hy => by
    have hs : q.set x row = q := by
      refine List.ext_getElem? fun i => ?_
      by_cases e : i = x
      · subst e
        rw [List.getElem?_set_self (by omega), ← hr]
        simp [rw_, List.getElem?_eq_getElem (show i < q.length by omega)]
      · rw [List.getElem?_set_ne (fun q => e q.symm)]
    refine ⟨row, by rw [hs]; rfl, hl, fun y hy' => ?_⟩
    simp at hk
    rw [if_neg (by omega)]
  | _ :: rest, k, q, row, hk, hq, hr, hl, hy => by
    have n8 := hb.n8
    simp only [List.length_cons] at hk
    have s1 := hb.sm x f hx hf
    have s2 := hb.sm g k hg (by omega)
    have s3 := hb.sm x k hx (by omega)
    have hk' := hy k (Nat.le_refl _) (by omega)
    rw [Fishref2Boundstighter.loop2, gx_rw hq hx, hr]
    simp only [Option.bind_some]
    rw [gx_rb hl (by omega)]
    simp only [Option.bind_some]
    rw [gx_rb (hb.rows.el x hx) hf, gx_rw hb.rows.len hg]
    simp only [Option.bind_some]
    rw [gx_rb (hb.rows.el g hg) (by omega)]
    simp only [Option.bind_some]
    rw [ix_in (by omega) (by omega), sx_in (by omega) (by omega)]
    simp only [Option.bind_some]
    rw [show (((k : Nat) : Int)).toNat = k by omega, show (((x : Nat) : Int)).toNat = x by omega, show tm (rw_ b x) f = rb b x f from rfl, show tm (rw_ b g) k = rb b g k from rfl]
    rw [w64_id (x := rb b x f + m) (by omega), w64_id (x := rb b x f + m + rb b g k) (by omega)]
    generalize hv : mn (tm row k) (rb b x f + m + rb b g k) = v
    have hv2 : v = min (rb b x k) (rb b x f + m + rb b g k) := by rw [← hv, hk']; unfold mn; omega
    obtain ⟨row', e1, e2, e3⟩ := tight_loop2 hb hf hg hx hm rest (k + 1) (q.set x (row.set k v)) (row.set k v) (by omega) (by simpa using hq) (by rw [rw_set (by omega), if_pos rfl]) (by simpa using hl) (fun y h1 h2 => by
      rw [tm_set (by omega), if_neg (by omega)]; exact hy y (by omega) h2)
    refine ⟨row', by rw [e1, List.set_set], e2, fun y hy' => ?_⟩
    rw [e3 y hy']
    by_cases c : k + 1 ≤ y
    · rw [if_pos c, if_pos (by omega)]
    · rw [if_neg c, tm_set (by omega)]
      by_cases c2 : y = k
      · rw [if_pos c2, if_pos (by omega), hv2, c2]
      · rw [if_neg c2, if_neg (by omega)]
theorem clone_ints (l : List Int) (h : l.length < 4294967296) : SlicesCloneLint l = some l := by
  unfold SlicesCloneLint; rw [apd_lt (by simpa using h)]; simp
theorem tight_loop1 {n : Nat} {b : List (List Int)} (hb : RSm n b) {f g : Nat} (hf : f < n) (hg : g < n) {m : Int} (hm : -100000 ≤ m ∧ m ≤ 100000) :
    ∀ (rest : List (List Int)) (k : Nat) (q : List (List Int)), b.drop k = rest → q.length = n → (∀ i, i < k → (rw_ q i).length = n ∧ ∀ y, y < n → rb q i y = min (rb b i y) (rb b i f + m + rb b g y)) →
    ∃ c, Fishref2Boundstighter.loop1 b (f : Int) (g : Int) m rest k q = some c ∧ Rows n c ∧ ∀ i y, i < n → y < n → rb c i y = min (rb b i y) (rb b i f + m + rb b g y)
  | [], k, q, hd, hq, hi => by
    have hk : n ≤ k := by have := List.drop_eq_nil_iff.1 hd; have := hb.rows.len; omega
    exact ⟨q, rfl, ⟨hq, fun i h => (hi i (by omega)).1⟩, fun i y h1 h2 => (hi i (by omega)).2 y h2⟩
  | r :: rest, k, q, hd, hq, hi => by
    have n8 := hb.n8
    have hbl := hb.rows.len
    have hk : k < n := by
      rcases Nat.lt_or_ge k n with c | c
      · exact c
      · rw [List.drop_eq_nil_of_le (by omega)] at hd; cases hd
    have hd2 := hd
    rw [List.drop_eq_getElem_cons (by omega)] at hd2
    injection hd2 with hd3 hd4
    have hr : r = rw_ b k := by rw [← hd3]; simp [rw_, List.getElem?_eq_getElem (show k < b.length by omega)]
    have hrl := hb.rows.el k hk
    rw [Fishref2Boundstighter.loop1, hr, clone_ints _ (by omega)]
    simp only [Option.bind_some]
    rw [ix_in (by omega) (by omega), sx_in (by omega) (by omega)]
    simp only [Option.bind_some]
    rw [show (((k : Nat) : Int)).toNat = k by omega]
    obtain ⟨row', e1, e2, e3⟩ := tight_loop2 hb hf hg hk hm b 0 (q.set k (rw_ b k)) (rw_ b k) (by omega) (by simpa using hq) (by rw [rw_set (by omega), if_pos rfl]) hrl (fun y _ _ => rfl)
    rw [e1, List.set_set]
    simp only [Option.bind_some]
    refine tight_loop1 hb hf hg hm rest (k + 1) (q.set k row') hd4 (by simpa using hq) fun i hik => ?_
    by_cases c : i = k
    · subst c
      have : rw_ (q.set i row') i = row' := by rw [rw_set (by omega), if_pos rfl]
      refine ⟨by rw [this]; exact e2, fun y hy => ?_⟩
      unfold rb at e3 ⊢
      rw [this, e3 y hy, if_pos (Nat.zero_le _)]
    · have : rw_ (q.set k row') i = rw_ q i := by rw [rw_set (by omega), if_neg c]
      have h0 := hi i (by omega)
      refine ⟨by rw [this]; exact h0.1, fun y hy => ?_⟩
      have := h0.2 y hy
      unfold rb at this ⊢
      rw [‹rw_ (q.set k row') i = rw_ q i›]; exact this
/-- one bound more -/
theorem tight_run {n : Nat} {P : Int} {b : List (List Int)} (h : RD n P b) (hn : n ≤ 8) (hP : P ≤ 3600) {f g : Nat} (hf : f < n) (hg : g < n) {m : Int} (hm : -100000 ≤ m ∧ m ≤ 100000) :
    (∃ z, Fishref2Boundstighter b (f : Int) (g : Int) m = some (z, false) ∧ ∀ t, Keeps n (fl b) t → ¬ t g - t f ≤ m) ∨ ∃ c, Fishref2Boundstighter b (f : Int) (g : Int) m = some (c, true) ∧ RD n P c ∧ ∀ t, Keeps n (fl c) t ↔ Keeps n (fl b) t ∧ t g - t f ≤ m := by
  have hs := h.small hn hP
  have s1 := hs.sm g f hg hf
  have b1 := bv_fl (b := b) (i := f) (k := g) (by omega) (by omega)
  have b2 := bv_fl (b := b) (i := g) (k := f) (by omega) (by omega)
  unfold Fishref2Boundstighter
  rw [gx_rw h.rows.len hf, gx_rw h.rows.len hg]
  simp only [Option.bind_some]
  rw [gx_rb (h.rows.el f hf) hg]
  simp only [Option.bind_some]
  rw [show tm (rw_ b f) g = rb b f g from rfl]
  by_cases c : m ≥ rb b f g
  · rw [decide_eq_true c]
    right
    refine ⟨b, rfl, h, fun t => ⟨fun q => ⟨q, ?_⟩, fun q => q.1⟩⟩
    have := q f g hf hg
    omega
  · rw [decide_eq_false c]
    simp only [Bool.false_eq_true, if_false]
    rw [gx_rb (h.rows.el g hg) hf]
    simp only [Option.bind_some]
    rw [show tm (rw_ b g) f = rb b g f from rfl, w64_id (x := m + rb b g f) (by omega)]
    by_cases c2 : m + rb b g f < 0
    · rw [decide_eq_true c2]
      left
      refine ⟨[], rfl, fun t q e => ?_⟩
      have := q g f hg hf
      omega
    · rw [decide_eq_false c2]
      simp only [Bool.false_eq_true, if_false]
      have hbl := h.rows.len
      rw [mks_in (by omega)]
      simp only [Option.bind_some]
      obtain ⟨C, e1, e2, e3⟩ := tight_loop1 hs hf hg hm b 0 (List.replicate b.length []) rfl (by simpa using hbl) (fun i hi => by omega)
      rw [e1]
      simp only [Option.bind_some]
      have hc : Cut n (fl b) f g m (fl C) := ⟨fl_len C, fun i k hi hk => by
        rw [bv_fl (by omega) (by omega), bv_fl (by omega) (by omega), bv_fl (by omega) (by omega), bv_fl (by omega) (by omega)]; exact e3 i k hi hk⟩
      right
      exact ⟨C, rfl, ⟨e2, hc.dbm h.dbm hf hg (by omega)⟩, fun t => hc.in_iff h.dbm hf hg t⟩
/-- what a search makes of the best so far -/
structure Got (F : (Nat → Int) → Prop) (e : Nat) (b b' : Int) : Prop where
  le : b' ≤ b
  att : b' = b ∨ ∃ t, F t ∧ t e - t 0 = b'
  all : ∀ t, F t → b' ≤ t e - t 0
/-! the reference's search -/
def Rk (x : PlanPeriodic) (r : PlanRule) (t : Nat → Int) : Prop := ∃ k : Int, r.Min - k * x.Period ≤ t (nd r.To) - t (nd r.From) ∧ t (nd r.To) - t (nd r.From) ≤ r.Max - k * x.Period
/-- the ways of a rule -/
structure Ways (x : PlanPeriodic) (n : Nat) (b : List (List Int)) (r : PlanRule) (ws : List (List (List Int))) : Prop where
  ok : ∀ w ∈ ws, RD n x.Period w
  sub : ∀ w ∈ ws, ∀ t, Keeps n (fl w) t → Keeps n (fl b) t ∧ Rk x r t
  all : ∀ t, Keeps n (fl b) t → Rk x r t → ∃ w ∈ ws, Keeps n (fl w) t
/-- n events -/
structure PIn (x : PlanPeriodic) (n : Nat) : Prop where
  p0 : 2 ≤ x.Period
  p1 : x.Period ≤ 3600
  e0 : 1 ≤ x.Events
  e1 : x.Events ≤ 8
  n : x.Events = (n : Int)
theorem PIn.n1 {x : PlanPeriodic} {n : Nat} (h : PIn x n) : 1 ≤ n ∧ n ≤ 8 := by have := h.e0; have := h.e1; have := h.n; omega
theorem PIn.ft {x : PlanPeriodic} {n : Nat} (h : PIn x n) {r : PlanRule} (k : RuleOk x r) : nd r.From < n ∧ nd r.To < n ∧ r.From = ((nd r.From : Nat) : Int) ∧ r.To = ((nd r.To : Nat) : Int) := by
  have := k.from0; have := k.from1; have := k.to0; have := k.to1; have := h.n
  unfold nd; omega
theorem PerOk.pin {x : PlanPeriodic} (h : PerOk x) : PIn x (nd x.Events) := ⟨h.p0, h.p1, h.e0, h.e1, by have := h.e0; unfold nd; omega⟩
theorem drop_cons2 {α : Type} {l rs : List α} {r : α} {k : Nat} (h : l.drop k = r :: rs) : ∃ hk : k < l.length, l[k] = r ∧ l.drop (k + 1) = rs := by
  have hk : k < l.length := by
    rcases Nat.lt_or_ge k l.length with c | c
    · exact c
    · rw [List.drop_eq_nil_of_le c] at h; cases h
  rw [List.drop_eq_getElem_cons hk] at h
  injection h with h1 h2
  exact ⟨hk, h1, h2⟩
theorem ways_loop_v1 {x : PlanPeriodic} {n : Nat} (h : PIn x n) {b : List (List Int)} (hb : RD n x.Period b) {r : PlanRule} (rk : RuleOk x r) {H : Int} (hH0 : 0 ≤ H) (hH1 : H * x.Period ≤ r.Max + x.Period) (hH : dv (r.Max + x.Period) x.Period = some H) (hH3 : H ≤ 5400) :
    ∀ (m : Nat) (s : Int) (acc : List (List (List Int))) (fu : Nat), -1 ≤ s → s ≤ H + 2 → H + 2 - s ≤ m → m < fu → acc.length + m ≤ 1000000 →
    ∃ ws q, Fishref2shifts_v1.loop2 x b r fu acc s = some (acc ++ ws, q) ∧ (∀ w ∈ ws, RD n x.Period w ∧ ∀ t, Keeps n (fl w) t → Keeps n (fl b) t ∧ Rk x r t) ∧
      ∀ t, Keeps n (fl b) t → ∀ k : Int, s ≤ k → k ≤ H + 1 → r.Min - k * x.Period ≤ t (nd r.To) - t (nd r.From) → t (nd r.To) - t (nd r.From) ≤ r.Max - k * x.Period → ∃ w ∈ ws, Keeps n (fl w) t := by
  obtain ⟨hf, ht, ef, et⟩ := h.ft rk
  have p0 := h.p0; have p1 := h.p1; have min0 := rk.min0; have min1 := rk.min1; have max0 := rk.max0; have max1 := rk.max1
  obtain ⟨n0, n8⟩ := h.n1
  intro m
  induction m with
  | zero =>
    intro s acc fu h0 h1 h2 hfu ha
    obtain ⟨fu, rfl⟩ : ∃ q, fu = q + 1 := ⟨fu - 1, by omega⟩
    rw [Fishref2shifts_v1.loop2, w64_id (x := r.Max + x.Period) (by omega), hH]
    simp only [Option.bind_some]
    rw [w64_id (x := 1 + H) (by omega), decide_eq_false (by omega)]
    simp only [Bool.false_eq_true, if_false]
    exact ⟨[], s, by rw [List.append_nil], fun w hw => (by cases hw), fun t _ k h3 h4 => by omega⟩
  | succ m ih =>
    intro s acc fu h0 h1 h2 hfu ha
    obtain ⟨fu, rfl⟩ : ∃ q, fu = q + 1 := ⟨fu - 1, by omega⟩
    rw [Fishref2shifts_v1.loop2, w64_id (x := r.Max + x.Period) (by omega), hH]
    simp only [Option.bind_some]
    rw [w64_id (x := 1 + H) (by omega)]
    by_cases c : s ≤ 1 + H
    · rw [decide_eq_true c]
      simp only [if_true]
      have w1 : -3600 ≤ s * x.Period ∧ s * x.Period ≤ 20000 := by
        constructor
        · have a1 : -1 * x.Period ≤ s * x.Period := Int.mul_le_mul_of_nonneg_right h0 (by omega)
          omega
        · have a1 : s * x.Period ≤ (1 + H) * x.Period := Int.mul_le_mul_of_nonneg_right c (by omega)
          rw [Int.add_mul, Int.one_mul] at a1
          omega
      generalize hsP : s * x.Period = sP at *
      rw [w64_id (x := sP) (by omega), w64_id (x := r.Max - sP) (by omega), w64_id (x := sP - r.Min) (by omega), w64_id (x := s + 1) (by omega)]
      have one : ∀ t : Nat → Int, ∀ k : Int, s ≤ k → r.Min - k * x.Period ≤ t (nd r.To) - t (nd r.From) → t (nd r.To) - t (nd r.From) ≤ r.Max - k * x.Period → s + 1 ≤ k ∨ (t (nd r.To) - t (nd r.From) ≤ r.Max - sP ∧ t (nd r.From) - t (nd r.To) ≤ sP - r.Min) := by
        intro t k h3 h4 h5
        by_cases e : k = s
        · right; subst e; rw [hsP] at h4 h5; omega
        · left; omega
      have nx : nd ((nd r.From : Nat) : Int) = nd r.From ∧ nd ((nd r.To : Nat) : Int) = nd r.To := by unfold nd; omega
      rcases tight_run hb n8 p1 hf ht (m := r.Max - sP) (by omega) with ⟨z, e, q⟩ | ⟨C, e, hC, q⟩
      · rw [← ef, ← et] at e
        rw [e]
        simp only [Option.bind_some, Bool.false_eq_true, if_false]
        obtain ⟨ws, z2, e1, e2, e3⟩ := ih (s + 1) acc fu (by omega) (by omega) (by omega) (by omega) (by omega)
        refine ⟨ws, z2, e1, e2, fun t hk k h3 h4 h5 h6 => ?_⟩
        rcases one t k h3 h5 h6 with g | g
        · exact e3 t hk k g h4 h5 h6
        · exact absurd g.1 (q t hk)
      · rw [← ef, ← et] at e
        rw [e]
        simp only [Option.bind_some, if_true]
        rcases tight_run hC n8 p1 ht hf (m := sP - r.Min) (by omega) with ⟨z, e', q'⟩ | ⟨D, e', hD, q'⟩
        · rw [← ef, ← et] at e'
          rw [e']
          simp only [Option.bind_some, Bool.false_eq_true, if_false]
          obtain ⟨ws, z2, e1, e2, e3⟩ := ih (s + 1) acc fu (by omega) (by omega) (by omega) (by omega) (by omega)
          refine ⟨ws, z2, e1, e2, fun t hk k h3 h4 h5 h6 => ?_⟩
          rcases one t k h3 h5 h6 with g | g
          · exact e3 t hk k g h4 h5 h6
          · exact absurd g.2 (q' t ((q t).2 ⟨hk, g.1⟩))
        · rw [← ef, ← et] at e'
          rw [e']
          simp only [Option.bind_some, if_true]
          rw [apd_lt (by simp; omega)]
          simp only [Option.bind_some]
          obtain ⟨ws, z2, e1, e2, e3⟩ := ih (s + 1) (acc ++ [D]) fu (by omega) (by omega) (by omega) (by omega) (by simp; omega)
          refine ⟨D :: ws, z2, by rw [e1]; simp, fun w hw => ?_, fun t hk k h3 h4 h5 h6 => ?_⟩
          · rcases List.mem_cons.1 hw with g | g
            · subst g
              refine ⟨hD, fun t ht' => ?_⟩
              have a1 := (q' t).1 ht'
              have a2 := (q t).1 a1.1
              refine ⟨a2.1, s, ?_, ?_⟩
              · rw [hsP]; omega
              · rw [hsP]; omega
            · exact e2 w g
          · rcases one t k h3 h5 h6 with g | g
            · obtain ⟨w, g1, g2⟩ := e3 t hk k g h4 h5 h6
              exact ⟨w, List.mem_cons_of_mem _ g1, g2⟩
            · exact ⟨D, by simp, (q' t).2 ⟨(q t).2 ⟨hk, g.1⟩, g.2⟩⟩
    · rw [decide_eq_false c]
      simp only [Bool.false_eq_true, if_false]
      exact ⟨[], s, by rw [List.append_nil], fun w hw => (by cases hw), fun t _ k h3 h4 => by omega⟩
theorem ways_run_v1 {x : PlanPeriodic} {n : Nat} (h : PIn x n) {b : List (List Int)} (hb : RD n x.Period b) {r : PlanRule} (rk : RuleOk x r) {fu : Nat} (hfu : 9000 ≤ fu) :
    ∃ ws q, Fishref2shifts_v1.loop2 x b r fu [] (-1) = some (ws, q) ∧ Ways x n b r ws := by
  obtain ⟨hf, ht, ef, et⟩ := h.ft rk
  have p0 := h.p0; have p1 := h.p1; have min0 := rk.min0; have min1 := rk.min1; have max0 := rk.max0; have max1 := rk.max1
  obtain ⟨n0, n8⟩ := h.n1
  have d1 := Int.ediv_mul_le (r.Max + x.Period) (b := x.Period) (by omega)
  have d2 := Int.lt_ediv_add_one_mul_self (r.Max + x.Period) (show 0 < x.Period by omega)
  have d0 : 0 ≤ (r.Max + x.Period) / x.Period := Int.ediv_nonneg (by omega) (by omega)
  have ed : dv (r.Max + x.Period) x.Period = some (w64 ((r.Max + x.Period) / x.Period)) := by
    unfold dv
    rw [if_neg (by omega), Int.tdiv_eq_ediv_of_nonneg (by omega)]
  generalize (r.Max + x.Period) / x.Period = H at *
  have d3 : H ≤ 5400 := by
    rcases Int.lt_or_le 5400 H with c | c
    · have : 5401 * 2 ≤ H * x.Period := Int.mul_le_mul (by omega) p0 (by omega) (by omega)
      omega
    · exact c
  rw [w64_id (x := H) (by omega)] at ed
  obtain ⟨ws, q, e1, e2, e3⟩ := ways_loop_v1 h hb rk d0 d1 ed d3 5500 (-1) [] fu (by omega) (by omega) (by omega) (by omega) (by simp)
  rw [List.nil_append] at e1
  refine ⟨ws, q, e1, fun w hw => (e2 w hw).1, fun w hw => (e2 w hw).2, fun t hk ⟨k, k1, k2⟩ => ?_⟩
  have b1 := hb.dbm.hi _ _ hf ht
  have b2 := hb.dbm.hi _ _ ht hf
  have c1 := hk _ _ hf ht
  have c2 := hk _ _ ht hf
  refine e3 t hk k ?_ ?_ k1 k2
  · rcases Int.lt_or_le k (-1) with c | c
    · have : k * x.Period ≤ -2 * x.Period := Int.mul_le_mul_of_nonneg_right (by omega) (by omega)
      omega
    · exact c
  · rcases Int.lt_or_le (H + 1) k with c | c
    · have a1 : (H + 1) * x.Period ≤ k * x.Period := Int.mul_le_mul_of_nonneg_right (by omega) (by omega)
      omega
    · exact c
/-- the rule that is taken -/
theorem take_loop_v1 {x : PlanPeriodic} {n : Nat} (h : PIn x n) {b : List (List Int)} (hb : RD n x.Period b)  {left : List PlanRule} (hl : ∀ r ∈ left, RuleOk x r) (hlen : left.length ≤ 1000) {fu : Nat} (hfu : 9000 ≤ fu) : ∀ (rs : List PlanRule) (k : Nat) (q : Int) (bw : List (List (List Int))), left.drop k = rs →
    ((q = -1 ∧ k = 0) ∨ ∃ i : Nat, q = (i : Int) ∧ ∃ hi : i < left.length, Ways x n b left[i] bw) →
    (Fishref2shifts_v1.loop1 x b  fu rs k q bw = some (.ret false) ∧ ∀ t, ¬ (Keeps n (fl b) t ∧ ∀ r ∈ left, Rk x r t)) ∨
    ∃ q' bw', Fishref2shifts_v1.loop1 x b  fu rs k q bw = some (.next (q', bw')) ∧
      ((q' = -1 ∧ left = []) ∨ ∃ i : Nat, q' = (i : Int) ∧ ∃ hi : i < left.length, Ways x n b left[i] bw')
  | [], k, q, bw, hd, hq => by
    right
    refine ⟨q, bw, rfl, ?_⟩
    rcases hq with ⟨h1, h2⟩ | hq
    · subst h2
      exact .inl ⟨h1, by simpa using hd⟩
    · exact .inr hq
  | r :: rs, k, q, bw, hd, hq => by
    obtain ⟨hk, hd3, hd4⟩ := drop_cons2 hd
    have hr : r ∈ left := by rw [← hd3]; exact List.getElem_mem hk
    obtain ⟨ws, z, e1, e2⟩ := ways_run_v1 h hb (hl r hr) hfu
    rw [Fishref2shifts_v1.loop1, e1]
    simp only [Option.bind_some, bnd]
    by_cases c : ws = []
    · left
      subst c
      refine ⟨rfl, fun t ⟨ht, hall⟩ => ?_⟩
      obtain ⟨w, hw, _⟩ := e2.all t ht (hall r hr)
      cases hw
    · have hl0 : (((ws.length : Nat) : Int) == 0) = false := by
        have : ws.length ≠ 0 := fun q => c (List.length_eq_zero_iff.1 q)
        exact beq_eq_false_iff_ne.2 (by omega)
      rw [hl0]
      simp only [Bool.false_eq_true, if_false]
      have new : ∃ i : Nat, ((k : Nat) : Int) = (i : Int) ∧ ∃ hi : i < left.length, Ways x n b left[i] ws := ⟨k, rfl, hk, by rw [hd3]; exact e2⟩
      by_cases c3 : (if decide (q < 0) = true then true else decide (((ws.length : Nat) : Int) < ((bw.length : Nat) : Int))) = true
      · simp only [if_pos c3]
        by_cases c4 : (((ws.length : Nat) : Int) == 1) = true
        · rw [if_pos c4]
          exact .inr ⟨_, _, rfl, .inr new⟩
        · rw [if_neg c4]
          exact take_loop_v1 h hb  hl hlen hfu rs (k + 1) _ _ hd4 (.inr new)
      · simp only [if_neg c3]
        have old : ∃ i : Nat, q = (i : Int) ∧ ∃ hi : i < left.length, Ways x n b left[i] bw := by
          rcases hq with ⟨h1, _⟩ | hq
          · rw [h1] at c3; simp at c3
          · exact hq
        by_cases c4 : (((ws.length : Nat) : Int) == 1) = true
        · rw [if_pos c4]
          exact .inr ⟨_, _, rfl, .inr old⟩
        · rw [if_neg c4]
          exact take_loop_v1 h hb  hl hlen hfu rs (k + 1) _ _ hd4 (.inr old)
def Fulr (x : PlanPeriodic) (n : Nat) (b : List (List Int)) (left : List PlanRule) (t : Nat → Int) : Prop := Keeps n (fl b) t ∧ ∀ r ∈ left, Rk x r t
theorem cloneR {l : List PlanRule} (h : l.length ≤ 1000) : SlicesCloneLplanRule l = some l := by
  unfold SlicesCloneLplanRule; rw [apd_lt (by simp; omega)]; simp
theorem delR {l : List PlanRule} {i : Nat} (h : i < l.length) (hl : l.length ≤ 1000) : SlicesDeleteLplanRule_v1 l (i : Int) (w64 ((i : Int) + 1)) = some (l.eraseIdx i) := by
  unfold SlicesDeleteLplanRule_v1
  rw [w64_id (by omega), cutl_in (by omega) (by omega) (by omega), cutl_in (by omega) (by omega) (by omega), cutl_in (by omega) (by omega) (by omega)]
  have e : ((i : Int) == (i : Int) + 1) = false := beq_eq_false_iff_ne.2 (by omega)
  simp only [Option.bind_some, e, Bool.false_eq_true, if_false, bnd]
  rw [show ((i : Int) + 1).toNat = i + 1 by omega, show ((i : Nat) : Int).toNat = i by omega, ← List.eraseIdx_eq_take_drop_succ]
theorem erase_all {l : List PlanRule} {i : Nat} (h : i < l.length) {p : PlanRule → Prop} : (∀ r ∈ l, p r) ↔ p l[i] ∧ ∀ r ∈ l.eraseIdx i, p r := by
  constructor
  · exact fun k => ⟨k _ (List.getElem_mem h), fun r hr => k r (List.mem_of_mem_eraseIdx hr)⟩
  · rintro ⟨k1, k2⟩ r hr
    obtain ⟨j, hj, rfl⟩ := List.mem_iff_getElem.1 hr
    by_cases c : j = i
    · subst c; exact k1
    · exact k2 _ (List.mem_eraseIdx_iff_getElem.2 ⟨j, hj, c, rfl⟩)
theorem ways_full {x : PlanPeriodic} {n : Nat} {b : List (List Int)} {left : List PlanRule} {i : Nat} (hi : i < left.length) {ws : List (List (List Int))} (hw : Ways x n b left[i] ws) (t : Nat → Int) :
    Fulr x n b left t ↔ ∃ w ∈ ws, Fulr x n w (left.eraseIdx i) t := by
  constructor
  · rintro ⟨h1, h2⟩
    obtain ⟨k1, k2⟩ := (erase_all hi).1 h2
    obtain ⟨w, w1, w2⟩ := hw.all t h1 k1
    exact ⟨w, w1, w2, k2⟩
  · rintro ⟨w, w1, w2, k2⟩
    have := hw.sub w w1 t w2
    exact ⟨this.1, (erase_all hi).2 ⟨this.2, k2⟩⟩
theorem shifts1_loop {x : PlanPeriodic} {self : PlanPeriodic → List (List Int) → List PlanRule → Option Bool} {rest : List PlanRule} {Q : List (List Int) → Prop} : ∀ ws : List (List (List Int)), (∀ w ∈ ws, ∃ res, self x w rest = some res ∧ (res = true ↔ Q w)) →
    (Fishref2shifts_v1.loop3 x self rest ws = some (.ret true) ∧ ∃ w ∈ ws, Q w) ∨ (Fishref2shifts_v1.loop3 x self rest ws = some (.next ()) ∧ ∀ w ∈ ws, ¬ Q w)
  | [], _ => .inr ⟨rfl, fun w hw => by cases hw⟩
  | w :: ws, h => by
    obtain ⟨res, e, q⟩ := h w (by simp)
    rw [Fishref2shifts_v1.loop3, e]
    simp only [Option.bind_some]
    cases res with
    | true => exact .inl ⟨rfl, w, by simp, q.1 rfl⟩
    | false =>
      simp only [Bool.false_eq_true, if_false]
      rcases shifts1_loop ws (fun w' hw' => h w' (by simp [hw'])) with ⟨e2, w', k1, k2⟩ | ⟨e2, k⟩
      · exact .inl ⟨e2, w', by simp [k1], k2⟩
      · refine .inr ⟨e2, fun w' hw' => ?_⟩
        rcases List.mem_cons.1 hw' with g | g
        · rw [g]; exact fun c => by have := q.2 c; cases this
        · exact k w' g
theorem shifts1_run {x : PlanPeriodic} {n : Nat} (h : PIn x n) : ∀ (u fu : Nat) (b : List (List Int)) (left : List PlanRule), left.length ≤ u → u + 9000 < fu → RD n x.Period b → (∀ r ∈ left, RuleOk x r) → left.length ≤ 1000 →
    ∃ res, Fishref2shifts_v1 fu x b left = some res ∧ (res = true ↔ ∃ t, Fulr x n b left t) := by
  obtain ⟨n0, n8⟩ := h.n1
  have step : ∀ (fu : Nat) (b : List (List Int)) (left : List PlanRule), 9000 ≤ fu → RD n x.Period b → (∀ r ∈ left, RuleOk x r) → left.length ≤ 1000 →
      (∀ (w : List (List Int)) (l : List PlanRule), l.length < left.length → RD n x.Period w → (∀ r ∈ l, RuleOk x r) → l.length ≤ 1000 → ∃ res, Fishref2shifts_v1 fu x w l = some res ∧ (res = true ↔ ∃ t, Fulr x n w l t)) →
      ∃ res, Fishref2shifts_v1 (fu + 1) x b left = some res ∧ (res = true ↔ ∃ t, Fulr x n b left t) := by
    intro fu b left hfu hb hl hlen below
    rw [Fishref2shifts_v1]
    unfold Fishref2Solvable_1
    simp only [Bool.not_true, Bool.false_eq_true, if_false]
    by_cases c : left = []
    · subst c
      exact ⟨true, rfl, fun _ => ⟨_, hb.dbm.least (by omega), fun r hr => (by cases hr)⟩, fun _ => rfl⟩
    · have hl0 : (((left.length : Nat) : Int) == 0) = false := by
        have : left.length ≠ 0 := fun q => c (List.length_eq_zero_iff.1 q)
        exact beq_eq_false_iff_ne.2 (by omega)
      rw [hl0]
      simp only [Bool.false_eq_true, if_false]
      rcases take_loop_v1 h hb hl hlen hfu left 0 (-1) [] rfl (.inl ⟨rfl, rfl⟩) with ⟨e, k⟩ | ⟨q', bw, e, k⟩
      · rw [e]
        exact ⟨false, rfl, fun c => (by cases c), fun ⟨t, ht⟩ => absurd ht (k t)⟩
      · rcases k with ⟨_, k⟩ | ⟨i, rfl, hi, hw⟩
        · exact absurd k c
        · rw [e]
          simp only [Option.bind_some]
          rw [cloneR hlen]
          simp only [Option.bind_some]
          rw [delR hi hlen]
          simp only [Option.bind_some]
          have hel : (left.eraseIdx i).length < left.length := by rw [List.length_eraseIdx_of_lt hi]; omega
          rcases shifts1_loop (x := x) (self := Fishref2shifts_v1 fu) (rest := left.eraseIdx i) (Q := fun w => ∃ t, Fulr x n w (left.eraseIdx i) t) bw (fun w hw' => below w _ hel (hw.ok w hw') (fun r hr => hl r (List.mem_of_mem_eraseIdx hr)) (by omega)) with ⟨e2, w, k1, t, k2⟩ | ⟨e2, k⟩
          · rw [e2]
            exact ⟨true, rfl, fun _ => ⟨t, (ways_full hi hw t).2 ⟨w, k1, k2⟩⟩, fun _ => rfl⟩
          · rw [e2]
            refine ⟨false, rfl, fun c => (by cases c), fun ⟨t, ht⟩ => ?_⟩
            obtain ⟨w, k1, k2⟩ := (ways_full hi hw t).1 ht
            exact absurd ⟨t, k2⟩ (k w k1)
  intro u
  induction u with
  | zero =>
    intro fu b left hu hfu hb hl hlen
    obtain ⟨fu, rfl⟩ : ∃ q, fu = q + 1 := ⟨fu - 1, by omega⟩
    exact step fu b left (by omega) hb hl hlen fun w l hlt => by omega
  | succ u ih =>
    intro fu b left hu hfu hb hl hlen
    obtain ⟨fu, rfl⟩ : ∃ q, fu = q + 1 := ⟨fu - 1, by omega⟩
    exact step fu b left (by omega) hb hl hlen fun w l hlt h1 h2 h3 => ih fu w l (by omega) (by omega) h1 h2 h3
/-! the search for least times -/
section
variable {x : PlanPeriodic}
def Full (x : PlanPeriodic) (n : Nat) (B : List Int) (t : Nat → Int) : Prop := Keeps n B t ∧ ∀ r ∈ x.Rules, Rk x r t
/-- n events -/
structure PSn (x : PlanPeriodic) (n : Nat) : Prop where
  ok : PerOk x
  n : x.Events = (n : Int)
theorem PSn.n1 {n : Nat} (h : PSn x n) : 1 ≤ n ∧ n ≤ 8 := by have := h.ok.e0; have := h.ok.e1; have := h.n; omega
theorem PSn.pin {n : Nat} (h : PSn x n) : PIn x n := ⟨h.ok.p0, h.ok.p1, h.ok.e0, h.ok.e1, h.n⟩
theorem PSn.ft {n : Nat} (h : PSn x n) {r : PlanRule} (hr : r ∈ x.Rules) : nd r.From < n ∧ nd r.To < n ∧ r.From = ((nd r.From : Nat) : Int) ∧ r.To = ((nd r.To : Nat) : Int) := h.pin.ft (h.ok.rules r hr)
theorem floor_run {a p : Int} (ha : -100000 ≤ a ∧ a ≤ 100000) (hp : 2 ≤ p) (hp1 : p ≤ 3600) : Planfloor a p = some (a / p) ∧ -100000 ≤ a / p ∧ a / p ≤ 100000 := by
  have e1 := Int.ediv_mul_le a (b := p) (by omega)
  have e2 := Int.lt_ediv_add_one_mul_self a (show 0 < p by omega)
  have hb : -100000 ≤ a / p ∧ a / p ≤ 100000 := by
    constructor
    · rcases Int.lt_or_le (a / p) (-100000) with c | c
      · have : (a / p + 1) * p ≤ (-100000) * p := Int.mul_le_mul_of_nonneg_right (by omega) (by omega)
        omega
      · exact c
    · rcases Int.lt_or_le 100000 (a / p) with c | c
      · have : 100001 * p ≤ a / p * p := Int.mul_le_mul_of_nonneg_right (by omega) (by omega)
        omega
      · exact c
  refine ⟨?_, hb⟩
  have ht := Int.tmod_eq_emod (a := a) (b := p)
  have hd := Int.tdiv_eq_ediv (a := a) (b := p)
  have m1 := Int.emod_nonneg a (b := p) (by omega)
  have m2 := Int.emod_lt_of_pos a (b := p) (by omega)
  have hs : p.sign = 1 := Int.sign_eq_one_of_pos (by omega)
  unfold Planfloor dv rm
  rw [if_neg (by omega), if_neg (by omega)]
  simp only [Option.bind_some, bnd]
  rw [show IntKind.wrap .i64 (a.tdiv p) = w64 (a.tdiv p) from rfl]
  have hna : ((p.natAbs : Nat) : Int) = p := by omega
  generalize a / p = v at *
  generalize a % p = w at *
  by_cases c : 0 ≤ a ∨ p ∣ a
  · rw [if_pos c] at ht hd
    have ht' : a.tmod p = w := by omega
    have hd' : a.tdiv p = v := by omega
    rw [ht', hd', decide_eq_false (by omega), w64_id (x := v) (by omega)]
    simp
  · rw [if_neg c] at ht hd
    rw [hna] at ht
    have hd' : a.tdiv p = v + 1 := by omega
    rw [ht, hd', decide_eq_true (by omega), w64_id (x := v + 1) (by omega)]
    simp only [if_true]
    rw [w64_id (by omega)]
    congr 1; omega
/-- choices that suffice -/
structure Ch (x : PlanPeriodic) (n : Nat) (B : List Int) (r : PlanRule) (ks : List Int) : Prop where
  all : ∀ k : Int, (∃ t, Keeps n B t ∧ r.Min - k * x.Period ≤ t (nd r.To) - t (nd r.From) ∧ t (nd r.To) - t (nd r.From) ≤ r.Max - k * x.Period) → k ∈ ks
  lo : ∀ k ∈ ks, -20000 ≤ k * x.Period ∧ k * x.Period ≤ 20000
theorem choices_loop {n : Nat} (h : PSn x n) {B : List Int} (hB : Dbm n x.Period B) {r : PlanRule} (hr : r ∈ x.Rules) : ∀ (m : Nat) (k : Int) (acc : List Int) (fu : Nat), -2000 ≤ k → k ≤ 6000 → 6001 - k ≤ m → m < fu → acc.length + m ≤ 1000000 →
    ∃ l q, PlanSearchchoices_v1.loop1 r x.Period B fu acc k = some (acc ++ l, q) ∧ (∀ j, k ≤ j → r.Max - j * x.Period ≥ -bv B (nd r.To) (nd r.From) → j ∈ l) ∧ ∀ j ∈ l, k ≤ j ∧ r.Max - j * x.Period ≥ -bv B (nd r.To) (nd r.From) := by
  obtain ⟨hf, ht, ef, et⟩ := h.ft hr
  have rk := h.ok.rules r hr
  have p0 := h.ok.p0; have p1 := h.ok.p1; have min0 := rk.min0; have min1 := rk.min1; have max0 := rk.max0; have max1 := rk.max1
  obtain ⟨n0, n8⟩ := h.n1
  have b1 := hB.lo ht hf
  have b2 := hB.hi _ _ ht hf
  have kb : ∀ k : Int, r.Max - k * x.Period ≥ -bv B (nd r.To) (nd r.From) → k ≤ 5500 := by
    intro k hk
    rcases Int.lt_or_le 5500 k with c | c
    · have : 5501 * 2 ≤ k * x.Period := Int.mul_le_mul (by omega) p0 (by omega) (by omega)
      omega
    · exact c
  intro m
  induction m with
  | zero => intro k acc fu _ hk hm; omega
  | succ m ih =>
    intro k acc fu hk0 hk1 hm hfu ha
    obtain ⟨fu, rfl⟩ : ∃ q, fu = q + 1 := ⟨fu - 1, by omega⟩
    have w1 : -2000 * 3600 ≤ k * x.Period ∧ k * x.Period ≤ 6000 * 3600 := by
      constructor
      · have a1 : -2000 * x.Period ≤ k * x.Period := Int.mul_le_mul_of_nonneg_right hk0 (by omega)
        omega
      · have a1 : k * x.Period ≤ 6000 * x.Period := Int.mul_le_mul_of_nonneg_right hk1 (by omega)
        omega
    rw [PlanSearchchoices_v1.loop1]
    have eT : bx 8 r.To = some () := bx_in (by omega) (by omega)
    have eF : bx 8 r.From = some () := bx_in (by omega) (by omega)
    have eG : gx B (r.To * 8 + r.From) = some (bv B (nd r.To) (nd r.From)) := by rw [et, ef]; exact gx_bv hB.len (by omega) (by omega)
    rw [eT, eF]
    simp only [Option.bind_some]
    rw [eG]
    simp only [Option.bind_some]
    rw [w64_id (x := k * x.Period) (by omega), w64_id (x := r.Max - k * x.Period) (by omega), w64_id (x := 0 - bv B (nd r.To) (nd r.From)) (by omega)]
    by_cases c : r.Max - k * x.Period ≥ -bv B (nd r.To) (nd r.From)
    · rw [decide_eq_true (by omega)]
      simp only [if_true]
      have hk5 := kb k c
      rw [apd_lt (by simp; omega)]
      simp only [Option.bind_some]
      rw [w64_id (x := k + 1) (by omega)]
      obtain ⟨l, q, e1, e2, e3⟩ := ih (k + 1) (acc ++ [k]) fu (by omega) (by omega) (by omega) (by omega) (by simp; omega)
      refine ⟨k :: l, q, by rw [e1]; simp, fun j hj hc => ?_, fun j hj => ?_⟩
      · rcases Int.lt_or_eq_of_le hj with g | g
        · exact List.mem_cons_of_mem _ (e2 j (by omega) hc)
        · rw [g]; simp
      · rcases List.mem_cons.1 hj with g | g
        · rw [g]; exact ⟨Int.le_refl _, c⟩
        · obtain ⟨g1, g2⟩ := e3 j g
          exact ⟨by omega, g2⟩
    · rw [decide_eq_false (by omega)]
      simp only [Bool.false_eq_true, if_false]
      refine ⟨[], k, by rw [List.append_nil], fun j hj hc => ?_, fun j hj => by cases hj⟩
      exfalso
      have : k * x.Period ≤ j * x.Period := Int.mul_le_mul_of_nonneg_right hj (by omega)
      omega
theorem choices_run {n : Nat} (h : PSn x n) {B : List Int} (hB : Dbm n x.Period B) {r : PlanRule} (hr : r ∈ x.Rules) {fu : Nat} (hfu : 9000 ≤ fu) (a1 : Int) (a2 : List PlanRule) (a3 : List Int) (a4 : List Bool) (a5 a6 : Int) : ∃ ks, PlanSearchchoices_v1 fu (some B) r x.Period a1 a2 a3 a4 a5 a6 = some ks ∧ Ch x n B r ks := by
  obtain ⟨hf, ht, ef, et⟩ := h.ft hr
  have rk := h.ok.rules r hr
  have p0 := h.ok.p0; have p1 := h.ok.p1; have min0 := rk.min0; have min1 := rk.min1; have max0 := rk.max0; have max1 := rk.max1
  obtain ⟨n0, n8⟩ := h.n1
  have b1 := hB.lo hf ht
  have b2 := hB.hi _ _ hf ht
  have b3 := hB.lo ht hf
  have b4 := hB.hi _ _ ht hf
  unfold PlanSearchchoices_v1
  have eT : bx 8 r.To = some () := bx_in (by omega) (by omega)
  have eF : bx 8 r.From = some () := bx_in (by omega) (by omega)
  have eG : gx B (r.From * 8 + r.To) = some (bv B (nd r.From) (nd r.To)) := by rw [et, ef]; exact gx_bv hB.len (by omega) (by omega)
  simp only [Option.bind_some]
  rw [eT, eF]
  simp only [Option.bind_some]
  rw [eG]
  simp only [Option.bind_some]
  rw [w64_id (x := bv B (nd r.From) (nd r.To) - r.Min) (by omega)]
  generalize ha : bv B (nd r.From) (nd r.To) - r.Min = a
  obtain ⟨f1, f2, f3⟩ := floor_run (a := a) (p := x.Period) (by omega) p0 p1
  have d1 := Int.ediv_mul_le a (b := x.Period) (by omega)
  have d2 := Int.lt_ediv_add_one_mul_self a (show 0 < x.Period by omega)
  rw [f1]
  simp only [Option.bind_some]
  generalize a / x.Period = v at *
  rw [Int.add_mul, Int.one_mul] at d2
  have v1 : -3700 ≤ v := by
    rcases Int.lt_or_le v (-3700) with c | c
    · have h1 : (v + 1) * x.Period ≤ -3700 * x.Period := Int.mul_le_mul_of_nonneg_right (by omega) (by omega)
      rw [Int.add_mul, Int.one_mul] at h1
      omega
    · exact c
  have v2 : v ≤ 2000 := by
    rcases Int.lt_or_le 2000 v with c | c
    · have : 2001 * 2 ≤ v * x.Period := Int.mul_le_mul (by omega) p0 (by omega) (by omega)
      omega
    · exact c
  rw [w64_id (x := 0 - v) (by omega)]
  obtain ⟨l, q, e1, e2, e3⟩ := choices_loop h hB hr 8500 (0 - v) [] fu (by omega) (by omega) (by omega) (by omega) (by simp)
  rw [e1]
  refine ⟨[] ++ l, rfl, ⟨fun k ⟨t, hk, k1, k2⟩ => ?_, fun k hk => ?_⟩⟩
  · rw [List.nil_append]
    refine e2 k ?_ ?_
    · have := hk _ _ hf ht
      rcases Int.lt_or_le k (0 - v) with c | c
      · have : (v + 1) * x.Period ≤ -k * x.Period := Int.mul_le_mul_of_nonneg_right (by omega) (by omega)
        rw [Int.add_mul, Int.one_mul, Int.neg_mul] at this
        omega
      · exact c
    · have := hk _ _ ht hf
      omega
  · rw [List.nil_append] at hk
    obtain ⟨g1, g2⟩ := e3 k hk
    have : -v * x.Period ≤ k * x.Period := Int.mul_le_mul_of_nonneg_right (by omega) (by omega)
    rw [Int.neg_mul] at this
    omega
def ut : List Bool → Nat
  | [] => 0
  | b :: l => (if b then 1 else 0) + ut l
theorem ut_set : ∀ (l : List Bool) (k : Nat), k < l.length → bt l k = true → ut (l.set k false) + 1 = ut l
  | [], k, h, _ => absurd h (Nat.not_lt_zero _)
  | b :: l, 0, _, h => by simp [bt] at h; subst h; simp [ut]; omega
  | b :: l, k + 1, h, q => by
    have := ut_set l k (by simpa using h) (by simpa [bt] using q)
    simp only [List.set_cons_succ, ut]; omega
theorem ut_le : ∀ l : List Bool, ut l ≤ l.length
  | [] => Nat.le_refl _
  | b :: l => by have := ut_le l; simp only [ut, List.length_cons]; split <;> omega
theorem set_true {r : List Bool} {v : Nat} (h : bt r v = true) : (r.set v false).set v true = r := by
  refine List.ext_getElem? fun i => ?_
  by_cases e : i = v
  · subst e
    rcases Nat.lt_or_ge i r.length with h' | h'
    · rw [List.getElem?_set_self (by simpa using h'), List.getElem?_eq_getElem h']; rw [bt_get h'] at h; rw [h]
    · rw [List.getElem?_eq_none (by simpa using h'), List.getElem?_eq_none h']
  · rw [List.getElem?_set_ne (fun q => e q.symm), List.getElem?_set_ne (fun q => e q.symm)]
/-- rules that are closed are kept -/
def Closed (x : PlanPeriodic) (n : Nat) (B : List Int) (op : List Bool) : Prop := ∀ i, ∀ hi : i < x.Rules.length, bt op i = false → ∀ t, Keeps n B t → Rk x x.Rules[i] t
/-- the choice of a rule -/
theorem pick_loop {n : Nat} (h : PSn x n) {B : List Int} (hB : Dbm n x.Period B) (tk : List Int) (op : List Bool) (hop : op.length = x.Rules.length) (e b : Int) {fu : Nat} (hfu : 9000 ≤ fu) : ∀ (rs : List PlanRule) (k : Nat) (q : Int) (few : List Int), x.Rules.drop k = rs →
    ((q = -1 ∧ ∀ j, j < k → bt op j = false) ∨ ∃ i : Nat, q = (i : Int) ∧ i < x.Rules.length ∧ bt op i = true ∧ ∃ hi : i < x.Rules.length, Ch x n B x.Rules[i] few) →
    (PlanSearchrun_v1.loop1 (some B) x.Period x.Events x.Rules tk op e fu rs k q few b = some (.ret (tk, op, b)) ∧ ∀ t, ¬ Full x n B t) ∨
    ∃ q' few', PlanSearchrun_v1.loop1 (some B) x.Period x.Events x.Rules tk op e fu rs k q few b = some (.next (q', few', b)) ∧
      ((q' = -1 ∧ ∀ j, j < x.Rules.length → bt op j = false) ∨ ∃ i : Nat, q' = (i : Int) ∧ i < x.Rules.length ∧ bt op i = true ∧ ∃ hi : i < x.Rules.length, Ch x n B x.Rules[i] few')
  | [], k, q, few, hd, hq => by
    right
    refine ⟨q, few, rfl, ?_⟩
    rcases hq with ⟨h1, h2⟩ | hq
    · exact .inl ⟨h1, fun j hj => h2 j (by have := List.drop_eq_nil_iff.1 hd; omega)⟩
    · exact .inr hq
  | r :: rs, k, q, few, hd, hq => by
    have hn := h.ok.n
    have hk : k < x.Rules.length := by
      rcases Nat.lt_or_ge k x.Rules.length with c | c
      · exact c
      · rw [List.drop_eq_nil_of_le c] at hd; cases hd
    have hd2 := hd
    rw [List.drop_eq_getElem_cons hk] at hd2
    injection hd2 with hd3 hd4
    have hr : r ∈ x.Rules := by rw [← hd3]; exact List.getElem_mem hk
    rw [PlanSearchrun_v1.loop1, gx_bt (by omega) (by omega)]
    simp only [Option.bind_some]
    rw [show nd ((k : Nat) : Int) = k by simp [nd]]
    by_cases c : bt op k = true
    · rw [c]
      simp only [Bool.not_true, Bool.false_eq_true, if_false]
      obtain ⟨ks, e1, e2⟩ := choices_run h hB hr hfu x.Events x.Rules tk op e b
      rw [e1]
      simp only [Option.bind_some, bnd]
      by_cases c2 : ks = []
      · left
        subst c2
        constructor
        · by_cases g : (if decide (q < 0) = true then true else decide ((([] : List Int).length : Int) < ((few.length : Nat) : Int))) = true
          · rw [if_pos g]; rfl
          · rw [if_neg g]; rfl
        · intro t ht
          obtain ⟨kk, h1, h2⟩ := ht.2 r hr
          have := e2.all kk ⟨t, ht.1, h1, h2⟩
          cases this
      · have hl : (((ks.length : Nat) : Int) == 0) = false := by
          have : ks.length ≠ 0 := fun q => c2 (List.length_eq_zero_iff.1 q)
          exact beq_eq_false_iff_ne.2 (by omega)
        have hch : ∃ hi : k < x.Rules.length, Ch x n B x.Rules[k] ks := ⟨hk, by rw [hd3]; exact e2⟩
        by_cases c3 : (if decide (q < 0) = true then true else decide (((ks.length : Nat) : Int) < ((few.length : Nat) : Int))) = true
        · rw [if_pos c3]
          simp only [hl, Bool.false_eq_true, if_false]
          exact pick_loop h hB tk op hop e b hfu rs (k + 1) _ _ hd4 (.inr ⟨k, rfl, hk, c, hch⟩)
        · rw [if_neg c3]
          simp only [hl, Bool.false_eq_true, if_false]
          refine pick_loop h hB tk op hop e b hfu rs (k + 1) _ _ hd4 ?_
          rcases hq with ⟨h1, _⟩ | hq
          · rw [h1] at c3; simp at c3
          · exact .inr hq
    · have c' : bt op k = false := by simpa using c
      rw [c']
      simp only [Bool.not_false, if_true]
      refine pick_loop h hB tk op hop e b hfu rs (k + 1) _ _ hd4 ?_
      rcases hq with ⟨h1, h2⟩ | hq
      · refine .inl ⟨h1, fun j hj => ?_⟩
        rcases Nat.eq_or_lt_of_le (Nat.le_of_lt_succ hj) with g | g
        · rw [g]; exact c'
        · exact h2 j g
      · exact .inr hq
theorem run_ok {n : Nat} (h : PSn x n) {e : Nat} (he : e < n) : ∀ (u fu : Nat) (B tk : List Int) (op : List Bool) (b : Int), ut op ≤ u → u + 9000 < fu → Dbm n x.Period B → op.length = x.Rules.length → tk.length = x.Rules.length → Closed x n B op →
    ∃ tk' b', PlanSearchrun_v1 fu (some B) x.Period x.Events x.Rules tk op (e : Int) b = some (tk', op, b') ∧ tk'.length = x.Rules.length ∧ Got (Full x n B) e b b' := by
  obtain ⟨n0, n8⟩ := h.n1
  have p0 := h.ok.p0; have p1 := h.ok.p1; have hn40 := h.ok.n
  -- one search, if the searches below are right
  have step : ∀ (fu : Nat) (B tk : List Int) (op : List Bool) (b : Int), 9000 ≤ fu → Dbm n x.Period B → op.length = x.Rules.length → tk.length = x.Rules.length → Closed x n B op →
      (∀ (C tk : List Int) (op' : List Bool) (b : Int), ut op' < ut op → Dbm n x.Period C → op'.length = x.Rules.length → tk.length = x.Rules.length → Closed x n C op' →
        ∃ tk' b', PlanSearchrun_v1 fu (some C) x.Period x.Events x.Rules tk op' (e : Int) b = some (tk', op', b') ∧ tk'.length = x.Rules.length ∧ Got (Full x n C) e b b') →
      ∃ tk' b', PlanSearchrun_v1 (fu + 1) (some B) x.Period x.Events x.Rules tk op (e : Int) b = some (tk', op, b') ∧ tk'.length = x.Rules.length ∧ Got (Full x n B) e b b' := by
    intro fu B tk op b hfu hB hop htk hcl below
    have hlo := hB.lo he n0
    have hhi := hB.hi _ _ he n0
    have least : ∀ t, Full x n B t → -bv B e 0 ≤ t e - t 0 := fun t ht => by have := ht.1 e 0 he n0; omega
    have eE : bx 8 (e : Int) = some () := bx_in (by omega) (by omega)
    have e0 : bx 8 0 = some () := bx_in (by omega) (by omega)
    have eG : gx B ((e : Int) * 8 + 0) = some (bv B e 0) := gx_bv (k := 0) hB.len (by omega) (by omega)
    have ea : Plansolve_1_v1 (some B) (e : Int) b = some (decide (-bv B e 0 ≥ b)) := by
      unfold Plansolve_1_v1
      simp only [Option.bind_some]
      rw [eE, e0]
      simp only [Option.bind_some]
      rw [eG]
      simp only [Option.bind_some]
      rw [w64_id (by omega), Int.zero_sub]
    have eb : ∀ b, Plansolve_2_v1 (some B) tk (e : Int) b = some (-bv B e 0) := by
      intro b
      unfold Plansolve_2_v1
      simp only [Option.bind_some]
      rw [eE, e0]
      simp only [Option.bind_some]
      rw [eG]
      simp only [Option.bind_some]
      rw [w64_id (by omega), Int.zero_sub]
    rw [PlanSearchrun_v1, ea]
    simp only [Option.bind_some]
    by_cases c : -bv B e 0 ≥ b
    · rw [decide_eq_true c]
      exact ⟨tk, b, rfl, htk, ⟨Int.le_refl _, .inl rfl, fun t ht => by have := least t ht; omega⟩⟩
    · rw [decide_eq_false c]
      simp only [Bool.false_eq_true, if_false]
      rcases pick_loop h hB tk op hop (e : Int) b hfu x.Rules 0 (-1) [] rfl (.inl ⟨rfl, fun j hj => absurd hj (Nat.not_lt_zero _)⟩) with ⟨e1, e2⟩ | ⟨q, few, e1, e2⟩
      · rw [e1]
        exact ⟨tk, b, rfl, htk, ⟨Int.le_refl _, .inl rfl, fun t ht => absurd ht (e2 t)⟩⟩
      · rw [e1]
        simp only [Option.bind_some]
        rcases e2 with ⟨hq, hcl2⟩ | ⟨i, hq, hi, hoi, _, hch⟩
        · rw [hq, decide_eq_true (by omega)]
          simp only [if_true]
          rw [eb]
          refine ⟨tk, _, rfl, htk, ⟨by omega, .inr ⟨fun i => -bv B i 0, ⟨hB.least n0, fun r hr => ?_⟩, ?_⟩, least⟩⟩
          · obtain ⟨i, hi, e3⟩ := List.getElem_of_mem hr
            rw [← e3]
            exact hcl i hi (hcl2 i hi) _ (hB.least n0)
          · show -bv B e 0 - -bv B 0 0 = _
            rw [hB.diag 0 n0]; omega
        · rw [hq, decide_eq_false (by omega)]
          simp only [Bool.false_eq_true, if_false]
          rw [gx_at hi]
          simp only [Option.bind_some]
          rw [ix_in (by omega) (by omega), sx_in (by omega) (by omega)]
          simp only [Option.bind_some]
          rw [show (((i : Nat) : Int)).toNat = i by omega]
          have hr : x.Rules[i] ∈ x.Rules := List.getElem_mem hi
          generalize hrr : x.Rules[i] = r at *
          obtain ⟨hf, ht, ef, et⟩ := h.ft hr
          have rk := h.ok.rules r hr
          have min0 := rk.min0; have min1 := rk.min1; have max0 := rk.max0; have max1 := rk.max1
          have hut := ut_set op i (by omega) hoi
          -- all choices, one after the other
          have loop : ∀ (ks : List Int) (tk : List Int) (b : Int), tk.length = x.Rules.length → (∀ k ∈ ks, -20000 ≤ k * x.Period ∧ k * x.Period ≤ 20000) →
              ∃ tk' b', PlanSearchrun_v1.loop2 (some B) x.Period x.Events x.Rules (e : Int) fu (PlanSearchrun_v1 fu) (i : Int) r ks tk (op.set i false) b = some (tk', op.set i false, b') ∧ tk'.length = x.Rules.length ∧
                b' ≤ b ∧ (b' = b ∨ ∃ t, Full x n B t ∧ t e - t 0 = b') ∧ ∀ t, Full x n B t → (∃ k ∈ ks, r.Min - k * x.Period ≤ t (nd r.To) - t (nd r.From) ∧ t (nd r.To) - t (nd r.From) ≤ r.Max - k * x.Period) → b' ≤ t e - t 0 := by
            intro ks
            induction ks with
            | nil => intro tk b htk _; exact ⟨tk, b, rfl, htk, Int.le_refl _, .inl rfl, fun t _ ⟨k, hk, _⟩ => by cases hk⟩
            | cons k ks ihk =>
              intro tk b htk hks
              have hkb := hks k (by simp)
              rw [PlanSearchrun_v1.loop2, w64_id (x := k * x.Period) (by omega), w64_id (x := r.Min - k * x.Period) (by omega), w64_id (x := r.Max - k * x.Period) (by omega), ef, et, h.n]
              have nx : nd ((nd r.From : Nat) : Int) = nd r.From ∧ nd ((nd r.To : Nat) : Int) = nd r.To := by unfold nd; omega
              rcases between_run hB n8 p1 hf ht (lo := r.Min - k * x.Period) (hi := r.Max - k * x.Period) (by omega) (by omega) (fu := fu) (by omega) with ⟨z, e3, e4⟩ | ⟨C, e3, hC, e4⟩
              · rw [e3]
                simp only [Option.bind_some, Bool.false_eq_true, if_false]
                obtain ⟨tk', b', g1, g2, g3, g4, g5⟩ := ihk tk b htk (fun k hk => hks k (by simp [hk]))
                rw [h.n] at g1
                refine ⟨tk', b', g1, g2, g3, g4, fun t ht ⟨k2, hk2, hk3⟩ => ?_⟩
                rcases List.mem_cons.1 hk2 with g | g
                · rw [g] at hk3; exact absurd hk3 (e4 t ht.1)
                · exact g5 t ht ⟨k2, g, hk3⟩
              · rw [e3]
                simp only [Option.bind_some, if_true]
                rw [ix_in (by omega) (by omega), sx_in (by omega) (by omega)]
                simp only [Option.bind_some]
                have hfc : ∀ t, Full x n C t → Full x n B t := fun t ht => ⟨((e4 t).1 ht.1).1, ht.2⟩
                obtain ⟨tk1, b1, r1, r2, r3⟩ := below C (tk.set ((i : Int)).toNat k) (op.set i false) b (by omega) hC (by simpa using hop) (by simpa using htk) (by
                  intro j hj hjo t htC
                  by_cases g : j = i
                  · subst g
                    rw [hrr]
                    exact ⟨k, ((e4 t).1 htC).2.1, ((e4 t).1 htC).2.2⟩
                  · rw [bt_set (by omega), if_neg g] at hjo
                    exact hcl j hj hjo t ((e4 t).1 htC).1)
                rw [h.n] at r1
                rw [r1]
                simp only [Option.bind_some]
                obtain ⟨tk', b', g1, g2, g3, g4, g5⟩ := ihk tk1 b1 r2 (fun k hk => hks k (by simp [hk]))
                rw [h.n] at g1
                have r3l := r3.le
                refine ⟨tk', b', g1, g2, by omega, ?_, fun t ht ⟨k2, hk2, hk3⟩ => ?_⟩
                · rcases g4 with g4 | g4
                  · rcases r3.att with r4 | ⟨t, r4, r5⟩
                    · exact .inl (by omega)
                    · exact .inr ⟨t, hfc t r4, by omega⟩
                  · exact .inr g4
                · rcases List.mem_cons.1 hk2 with g | g
                  · rw [g] at hk3
                    have := r3.all t ⟨(e4 t).2 ⟨ht.1, hk3⟩, ht.2⟩
                    omega
                  · exact g5 t ht ⟨k2, g, hk3⟩
          obtain ⟨tk', b', g1, g2, g3, g4, g5⟩ := loop few tk b htk hch.lo
          rw [g1]
          simp only [Option.bind_some]
          rw [ix_in (by omega) (by simp; omega), sx_in (by omega) (by simp; omega)]
          simp only [Option.bind_some]
          rw [show (((i : Nat) : Int)).toNat = i by omega, set_true hoi]
          refine ⟨tk', b', rfl, g2, ⟨g3, g4, fun t ht => ?_⟩⟩
          obtain ⟨k, k1, k2⟩ := ht.2 r hr
          exact g5 t ht ⟨k, hch.all k ⟨t, ht.1, k1, k2⟩, k1, k2⟩
  intro u
  induction u with
  | zero =>
    intro fu B tk op b hu hfu hB hop htk hcl
    obtain ⟨fu, rfl⟩ : ∃ q, fu = q + 1 := ⟨fu - 1, by omega⟩
    exact step fu B tk op b (by omega) hB hop htk hcl fun C tk op' b hlt => by omega
  | succ u ih =>
    intro fu B tk op b hu hfu hB hop htk hcl
    obtain ⟨fu, rfl⟩ : ∃ q, fu = q + 1 := ⟨fu - 1, by omega⟩
    exact step fu B tk op b (by omega) hB hop htk hcl fun C tk op' b hlt hC h1 h2 h3 => ih fu C tk op' b (by omega) (by omega) hC h1 h2 h3
end
/-! the least times, one by one -/
def Base (n : Nat) (P : Int) (t : Nat → Int) : Prop := (∀ i k, i < n → k < n → t k - t i ≤ if i = k then 0 else P - 1) ∧ ∀ j, j < n → t 0 - t j ≤ 0
def Sol (x : PlanPeriodic) (n : Nat) (T : List Int) (t : Nat → Int) : Prop := Base n x.Period t ∧ (∀ r ∈ x.Rules, Rk x r t) ∧ ∀ i, i < T.length → t i - t 0 = tm T i
def Least (F : (Nat → Int) → Prop) (e : Nat) (v : Int) : Prop := (∃ t, F t ∧ t e - t 0 = v) ∧ ∀ t, F t → v ≤ t e - t 0
theorem Least.eq {F : (Nat → Int) → Prop} {e : Nat} {v w : Int} (h : Least F e v) (k : Least F e w) : v = w := by
  obtain ⟨⟨t, h1, h2⟩, h3⟩ := h
  obtain ⟨⟨u, k1, k2⟩, k3⟩ := k
  have := h3 u k1; have := k3 t h1; omega
structure Ls (x : PlanPeriodic) (n : Nat) (T : List Int) : Prop where
  pos : 0 < T.length
  le : T.length ≤ n
  zero : tm T 0 = 0
  step : ∀ j, 0 < j → j < T.length → Least (Sol x n (T.take j)) j (tm T j)
  some : (∃ t, Sol x n [0] t) → ∃ t, Sol x n T t
theorem Ls.eq {x : PlanPeriodic} {n : Nat} {T U : List Int} (h : Ls x n T) (k : Ls x n U) (ht : T.length = n) (hu : U.length = n) : T = U := by
  have pre : ∀ j, j ≤ n → T.take j = U.take j := by
    intro j
    induction j with
    | zero => intro _; simp
    | succ j ih =>
      intro hj
      have e := ih (by omega)
      rw [List.take_add_one, List.take_add_one, e]
      congr 1
      have v : tm T j = tm U j := by
        rcases Nat.eq_zero_or_pos j with c | c
        · subst c; rw [h.zero, k.zero]
        · have h1 := h.step j c (by omega)
          have k1 := k.step j c (by omega)
          rw [e] at h1
          exact h1.eq k1
      rw [tm_get (by omega), tm_get (by omega)] at v
      rw [List.getElem?_eq_getElem (by omega), List.getElem?_eq_getElem (by omega), v]
  have := pre n (Nat.le_refl _)
  rwa [List.take_of_length_le (by omega), List.take_of_length_le (by omega)] at this
theorem Base.zero {n : Nat} {P : Int} (hP : 2 ≤ P) : Base n P (fun _ => 0) := by
  refine ⟨fun i k _ _ => ?_, fun j _ => ?_⟩
  · show (0 : Int) - 0 ≤ _
    split <;> omega
  · show (0 : Int) - 0 ≤ 0
    omega
theorem tm_app {T : List Int} {v : Int} {i : Nat} : tm (T ++ [v]) i = if i < T.length then tm T i else if i = T.length then v else 0 := by
  unfold tm
  by_cases c : i < T.length
  · rw [if_pos c, List.getElem?_append_left c]
  · rw [if_neg c, List.getElem?_append_right (by omega)]
    by_cases c2 : i = T.length
    · rw [if_pos c2, c2]; simp
    · rw [if_neg c2]
      have : i - T.length ≠ 0 := by omega
      rw [List.getElem?_eq_none (by simp; omega)]; rfl
theorem Ls.one {x : PlanPeriodic} {n : Nat} (h : 1 ≤ n) : Ls x n [0] := ⟨by simp, by simpa using h, rfl, fun j h1 h2 => by simp at h2; omega, fun h => h⟩
theorem Ls.next {x : PlanPeriodic} {n : Nat} {T : List Int} (h : Ls x n T) {v : Int} (hl : T.length < n) (hv : Least (Sol x n T) T.length v) : Ls x n (T ++ [v]) := by
  refine ⟨by simp, by simp; omega, ?_, fun j h1 h2 => ?_, fun q => ?_⟩
  · rw [tm_app, if_pos h.pos, h.zero]
  · simp at h2
    by_cases c : j < T.length
    · rw [List.take_append_of_le_length (by omega), tm_app, if_pos c]
      exact h.step j h1 c
    · have : j = T.length := by omega
      subst this
      rw [List.take_left, tm_app, if_neg c, if_pos rfl]
      exact hv
  · obtain ⟨⟨t, h1, h2⟩, _⟩ := hv
    refine ⟨t, h1.1, h1.2.1, fun i hi => ?_⟩
    simp at hi
    rw [tm_app]
    by_cases c : i < T.length
    · rw [if_pos c]; exact h1.2.2 i c
    · have : i = T.length := by omega
      rw [if_neg c, if_pos this, this]; exact h2
theorem Got.least {x : PlanPeriodic} {n : Nat} {T : List Int} {e : Nat} (h0 : 0 < e) (he : e < n) {v : Int} {F : (Nat → Int) → Prop} (hF : ∀ t, F t ↔ Sol x n T t) (g : Got F e x.Period v) : (v = x.Period ∧ ¬ ∃ t, Sol x n T t) ∨ (v ≠ x.Period ∧ Least (Sol x n T) e v) := by
  have up : ∀ t, Sol x n T t → t e - t 0 ≤ x.Period - 1 := by
    intro t ht
    have := ht.1.1 0 e (by omega) he
    rw [if_neg (by omega)] at this; exact this
  by_cases c : v = x.Period
  · refine .inl ⟨c, fun ⟨t, ht⟩ => ?_⟩
    have := g.all t ((hF t).2 ht)
    have := up t ht
    omega
  · refine .inr ⟨c, ?_, fun t ht => g.all t ((hF t).2 ht)⟩
    rcases g.att with k | ⟨t, k1, k2⟩
    · exact absurd k c
    · exact ⟨t, (hF t).1 k1, k2⟩
theorem none_one {x : PlanPeriodic} {n : Nat} {T : List Int} (h : Ls x n T) (q : ¬ ∃ t, Sol x n T t) : ¬ ∃ t, Sol x n [0] t := fun k => q (h.some k)
/-! the program -/
theorem start_loop4 {n : Nat} (h8 : n ≤ 8) {P : Int} (hP : 2 ≤ P ∧ P ≤ 3600) {i : Nat} (hi : i < n) : ∀ (r k : Nat) (C : List Int) (fu : Nat), k + r = n → r < fu → C.length = 64 →
    ∃ q C', PlanSearchstart_v1.loop4 P (n : Int) (i : Int) fu (k : Int) C = some (q, C') ∧ C'.length = 64 ∧ ∀ i' k', i' < 8 → k' < 8 → bv C' i' k' = if i' = i ∧ k ≤ k' ∧ k' < n ∧ i' ≠ k' then P - 1 else bv C i' k'
  | 0, k, C, fu, hk, hfu, hC => by
    obtain ⟨fu, rfl⟩ : ∃ q, fu = q + 1 := ⟨fu - 1, by omega⟩
    rw [PlanSearchstart_v1.loop4, decide_eq_false (by omega)]
    simp only [Bool.false_eq_true, if_false]
    exact ⟨_, C, rfl, hC, fun i' k' _ _ => by rw [if_neg (by omega)]⟩
  | r + 1, k, C, fu, hk, hfu, hC => by
    obtain ⟨fu, rfl⟩ : ∃ q, fu = q + 1 := ⟨fu - 1, by omega⟩
    rw [PlanSearchstart_v1.loop4, decide_eq_true (by omega)]
    simp only [if_true]
    rw [w64_id (x := (k : Int) + 1) (by omega), show (k : Int) + 1 = ((k + 1 : Nat) : Int) by omega]
    by_cases c : i = k
    · subst c
      have e : (((i : Nat) : Int) != ((i : Nat) : Int)) = false := by simp
      rw [e]
      simp only [Bool.false_eq_true, if_false, Option.bind_some]
      obtain ⟨q, C', f1, f2, f3⟩ := start_loop4 h8 hP hi r (i + 1) C fu (by omega) (by omega) hC
      refine ⟨q, C', f1, f2, fun i' k' hi' hk' => ?_⟩
      rw [f3 i' k' hi' hk']
      by_cases c : i' = i ∧ i + 1 ≤ k' ∧ k' < n ∧ i' ≠ k'
      · rw [if_pos c, if_pos (by omega)]
      · rw [if_neg c, if_neg (by omega)]
    · have e : (((i : Nat) : Int) != ((k : Nat) : Int)) = true := by
        rw [bne_iff_ne]; omega
      rw [e]
      simp only [if_true]
      rw [bx_in (i := (i : Int)) (by omega) (by omega), bx_in (i := (k : Int)) (by omega) (by omega), w64_id (x := P - 1) (by omega)]
      simp only [Option.bind_some]
      obtain ⟨C1, e1, e2, e3⟩ := sx_bv hC (i := i) (k := k) (by omega) (by omega) (P - 1)
      rw [e1]
      simp only [Option.bind_some]
      obtain ⟨q, C', f1, f2, f3⟩ := start_loop4 h8 hP hi r (k + 1) C1 fu (by omega) (by omega) e2
      refine ⟨q, C', f1, f2, fun i' k' hi' hk' => ?_⟩
      rw [f3 i' k' hi' hk', e3 i' k' hi' hk']
      by_cases c1 : i' = i ∧ k + 1 ≤ k' ∧ k' < n ∧ i' ≠ k'
      · rw [if_pos c1, if_pos (by omega)]
      · rw [if_neg c1]
        by_cases c2 : i' = i ∧ k' = k
        · rw [if_pos c2, if_pos (by omega)]
        · rw [if_neg c2, if_neg (by omega)]
theorem start_loop2 {n : Nat} (h8 : n ≤ 8) {P : Int} (hP : 2 ≤ P ∧ P ≤ 3600) {fv : Nat} (hv : 20 ≤ fv) : ∀ (r i : Nat) (C : List Int) (fu : Nat), i + r = n → r < fu → C.length = 64 →
    ∃ q C', PlanSearchstart_v1.loop2 P (n : Int) fv fu (i : Int) C = some (q, C') ∧ C'.length = 64 ∧ ∀ i' k', i' < 8 → k' < 8 → bv C' i' k' = if i ≤ i' ∧ i' < n ∧ k' < n then (if k' = 0 then 0 else if i' = k' then bv C i' k' else P - 1) else bv C i' k'
  | 0, i, C, fu, hi, hfu, hC => by
    obtain ⟨fu, rfl⟩ : ∃ q, fu = q + 1 := ⟨fu - 1, by omega⟩
    rw [PlanSearchstart_v1.loop2, decide_eq_false (by omega)]
    simp only [Bool.false_eq_true, if_false]
    exact ⟨_, C, rfl, hC, fun i' k' _ _ => by rw [if_neg (by omega)]⟩
  | r + 1, i, C, fu, hi, hfu, hC => by
    obtain ⟨fu, rfl⟩ : ∃ q, fu = q + 1 := ⟨fu - 1, by omega⟩
    rw [PlanSearchstart_v1.loop2, decide_eq_true (by omega)]
    simp only [if_true]
    obtain ⟨q1, C1, e1, e2, e3⟩ := start_loop4 h8 hP (i := i) (by omega) n 0 C fv (by omega) (by omega) hC
    have e1' : PlanSearchstart_v1.loop4 P (n : Int) (i : Int) fv 0 C = some (q1, C1) := e1
    rw [e1']
    simp only [Option.bind_some]
    obtain ⟨C2, g1, g2, g3⟩ := sx_bv e2 (i := i) (k := 0) (by omega) (by omega) 0
    have g1' : sx C1 ((i : Int) * 8 + 0) 0 = some C2 := g1
    rw [bx_in (i := (i : Int)) (by omega) (by omega), bx_in (i := 0) (by omega) (by omega)]
    simp only [Option.bind_some]
    rw [g1']
    simp only [Option.bind_some]
    rw [w64_id (x := (i : Int) + 1) (by omega), show (i : Int) + 1 = ((i + 1 : Nat) : Int) by omega]
    obtain ⟨q, C', f1, f2, f3⟩ := start_loop2 h8 hP hv r (i + 1) C2 fu (by omega) (by omega) g2
    refine ⟨q, C', f1, f2, fun i' k' hi' hk' => ?_⟩
    rw [f3 i' k' hi' hk', g3 i' k' hi' hk', e3 i' k' hi' hk']
    by_cases c0 : k' = 0
    · by_cases c1 : i + 1 ≤ i' ∧ i' < n ∧ k' < n
      · rw [if_pos c1, if_pos c0, if_pos (by omega), if_pos c0]
      · rw [if_neg c1]
        by_cases c2 : i' = i ∧ k' = 0
        · rw [if_pos c2, if_pos (by omega), if_pos c0]
        · rw [if_neg c2, if_neg (by omega), if_neg (by omega)]
    · by_cases c1 : i + 1 ≤ i' ∧ i' < n ∧ k' < n
      · rw [if_pos c1, if_neg c0, if_neg (show ¬(i' = i ∧ k' = 0) by omega), if_neg (show ¬(i' = i ∧ 0 ≤ k' ∧ k' < n ∧ i' ≠ k') by omega), if_pos (show i ≤ i' ∧ i' < n ∧ k' < n by omega), if_neg c0]
      · rw [if_neg c1, if_neg (by omega)]
        by_cases c2 : i' = i ∧ 0 ≤ k' ∧ k' < n ∧ i' ≠ k'
        · rw [if_pos c2, if_pos (by omega), if_neg c0, if_neg (by omega)]
        · rw [if_neg c2]
          by_cases c3 : i ≤ i' ∧ i' < n ∧ k' < n
          · rw [if_pos c3, if_neg c0, if_pos (by omega)]
          · rw [if_neg c3]
theorem start_run {n : Nat} (h8 : n ≤ 8) {P : Int} (hP : 2 ≤ P ∧ P ≤ 3600) {fu : Nat} (hu : 20 ≤ fu) (a1 : List PlanRule) (a2 : List Int) (a3 : List Bool) :
    ∃ B, PlanSearchstart_v1 fu P (n : Int) a1 a2 a3 = some (some B) ∧ Dbm n P B ∧ ∀ t, Keeps n B t ↔ Base n P t := by
  obtain ⟨q, B, e1, e2, e3⟩ := start_loop2 h8 hP hu n 0 (List.replicate 64 0) fu (by omega) (by omega) (by simp)
  have e1' : PlanSearchstart_v1.loop2 P (n : Int) fu fu 0 (List.replicate 64 0) = some (q, B) := e1
  unfold PlanSearchstart_v1
  rw [e1']
  have z : ∀ i k, bv (List.replicate 64 0) i k = 0 := by
    intro i k
    unfold bv tm
    rw [List.getElem?_replicate]
    split <;> rfl
  have val : ∀ i k, i < n → k < n → bv B i k = if k = 0 then 0 else if i = k then 0 else P - 1 := by
    intro i k hi hk
    rw [e3 i k (by omega) (by omega), if_pos ⟨Nat.zero_le _, hi, hk⟩, z]
  refine ⟨B, rfl, ⟨e2, fun i hi => ?_, fun i j k hi hj hk => ?_, fun i k hi hk => ?_⟩, fun t => ⟨fun h => ⟨fun i k hi hk => ?_, fun j hj => ?_⟩, fun h i k hi hk => ?_⟩⟩
  · rw [val i i hi hi]; split
    · rfl
    · simp
  · rw [val i k hi hk, val i j hi hj, val j k hj hk]
    by_cases c1 : k = 0 <;> by_cases c2 : i = k <;> by_cases c3 : j = 0 <;> by_cases c4 : i = j <;> by_cases c5 : j = k <;> simp only [c1, c2, c3, c4, c5, if_true, if_false] <;> omega
  · rw [val i k hi hk]; split
    · omega
    · split <;> omega
  · have := h i k hi hk
    rw [val i k hi hk] at this
    by_cases c : i = k
    · rw [if_pos c]; rw [if_pos c] at this; split at this <;> exact this
    · rw [if_neg c]; rw [if_neg c] at this; split at this <;> omega
  · have := h j 0 hj (by omega)
    rw [val j 0 hj (by omega), if_pos rfl] at this; exact this
  · rw [val i k hi hk]
    by_cases c : k = 0
    · rw [if_pos c, c]; exact h.2 i hi
    · rw [if_neg c]; exact h.1 i k hi hk
theorem newSearch_run (x : PlanPeriodic) (h : x.Rules.length ≤ 40) (m : Nat) : PlannewSearch (m + 60) x = some (x.Period, x.Events, x.Rules, List.replicate x.Rules.length 0, List.replicate x.Rules.length true) := by
  unfold PlannewSearch
  rw [mks_in (by omega)]
  simp only [Option.bind_some]
  rw [repB m _ h]
  rfl
theorem bt_rep {N i : Nat} (h : i < N) : bt (List.replicate N true) i = true := by unfold bt; rw [List.getElem?_replicate, if_pos h]; rfl
theorem solve_loop {x : PlanPeriodic} {n : Nat} (h : PSn x n) {fu : Nat} (hfu : 9100 ≤ fu) {z : Int × Int × List PlanRule × List Int × List Bool} (hz : z.1 = x.Period ∧ z.2.1 = x.Events ∧ z.2.2.1 = x.Rules) : ∀ (r e : Nat) (T B tk : List Int) (f2 : Nat), e + r = n → 1 ≤ e → r < f2 → T.length = e → Ls x n T → Dbm n x.Period B →
    (∀ t, Keeps n B t ↔ Base n x.Period t ∧ ∀ i, i < e → t i - t 0 = tm T i) → tk.length = x.Rules.length →
    (Plansolve.loop1 x fu z f2 (some B) T (e : Int) tk (List.replicate x.Rules.length true) () () = some (.ret []) ∧ ¬ ∃ t, Sol x n [0] t) ∨
    ∃ B' T' q tk' op', Plansolve.loop1 x fu z f2 (some B) T (e : Int) tk (List.replicate x.Rules.length true) () () = some (.next (B', T', q, tk', op', (), ())) ∧ Ls x n T' ∧ T'.length = n := by
  obtain ⟨n0, n8⟩ := h.n1
  have p0 := h.ok.p0; have p1 := h.ok.p1; have hn40 := h.ok.n; have hn := h.n
  intro r
  induction r with
  | zero =>
    intro e T B tk f2 he h1 hf hT hL hB hK htk
    obtain ⟨f2, rfl⟩ : ∃ q, f2 = q + 1 := ⟨f2 - 1, by omega⟩
    rw [Plansolve.loop1, decide_eq_false (by omega)]
    simp only [Bool.false_eq_true, if_false]
    exact .inr ⟨_, T, _, _, _, rfl, hL, by omega⟩
  | succ r ih =>
    intro e T B tk f2 he h1 hf hT hL hB hK htk
    obtain ⟨f2, rfl⟩ : ∃ q, f2 = q + 1 := ⟨f2 - 1, by omega⟩
    rw [Plansolve.loop1, decide_eq_true (by omega), hz.1, hz.2.1, hz.2.2]
    simp only [if_true]
    have hut := ut_le (List.replicate x.Rules.length true)
    rw [List.length_replicate] at hut
    obtain ⟨tk', b, e1, e2, e3⟩ := run_ok h (e := e) (by omega) x.Rules.length fu B tk (List.replicate x.Rules.length true) x.Period hut (by omega) hB (by simp) htk (fun i hi hc => by rw [bt_rep hi] at hc; cases hc)
    rw [e1]
    simp only [Option.bind_some]
    have hF : ∀ t, Full x n B t ↔ Sol x n T t := by
      intro t
      unfold Full Sol
      rw [hK t, hT]
      constructor
      · rintro ⟨⟨a, c⟩, d⟩; exact ⟨a, d, c⟩
      · rintro ⟨a, d, c⟩; exact ⟨⟨a, c⟩, d⟩
    rcases e3.least (by omega) (by omega) hF with ⟨c, q⟩ | ⟨c, q⟩
    · rw [if_pos (by simpa using c)]
      exact .inl ⟨rfl, none_one hL q⟩
    · rw [if_neg (by simpa using c), apd_lt (by simp; omega)]
      simp only [Option.bind_some]
      obtain ⟨t, t1, t2⟩ := q.1
      have tb := (hK t).2 ⟨t1.1, by rw [← hT]; exact t1.2.2⟩
      have b1 := tb 0 e (by omega) (by omega)
      have b2 := hB.hi 0 e (by omega) (by omega)
      have b3 := tb e 0 (by omega) (by omega)
      have b4 := hB.hi e 0 (by omega) (by omega)
      rcases between_run hB n8 p1 (f := 0) (g := e) (by omega) (by omega) (lo := b) (hi := b) (by omega) (by omega) (fu := fu) (by omega) with ⟨z', g1, g2⟩ | ⟨C, g1, hC, g2⟩
      · exact absurd ⟨by omega, by omega⟩ (g2 t tb)
      · have g1' : PlanBoundsbetween fu (some B) x.Events 0 (e : Int) b b = some (some C, true) := by rw [hn]; exact g1
        rw [g1']
        simp only [Option.bind_some]
        rw [w64_id (x := (e : Int) + 1) (by omega), show (e : Int) + 1 = ((e + 1 : Nat) : Int) by omega]
        subst hT
        refine ih (T.length + 1) (T ++ [b]) C tk' f2 (by omega) (by omega) (by omega) (by simp) (hL.next (by omega) q) hC (fun u => ?_) e2
        rw [g2 u, hK u]
        constructor
        · rintro ⟨⟨a, c⟩, d1, d2⟩
          refine ⟨a, fun i hi => ?_⟩
          rw [tm_app]
          by_cases k : i < T.length
          · rw [if_pos k]; exact c i k
          · have k2 : i = T.length := by omega
            rw [if_neg k, if_pos k2, k2]; omega
        · rintro ⟨a, c⟩
          refine ⟨⟨a, fun i hi => ?_⟩, ?_⟩
          · have := c i (by omega)
            rw [tm_app, if_pos hi] at this; exact this
          · have := c T.length (by omega)
            rw [tm_app, if_neg (by omega), if_pos rfl] at this; omega
/-- what solve gives -/
theorem solve_run {x : PlanPeriodic} {n : Nat} (h : PSn x n) {m : Nat} (hm : 9100 ≤ m) : (Plansolve (m + 60) x = some [] ∧ ¬ ∃ t, Sol x n [0] t) ∨ ∃ T, Plansolve (m + 60) x = some T ∧ Ls x n T ∧ T.length = n := by
  obtain ⟨n0, n8⟩ := h.n1
  have p0 := h.ok.p0; have p1 := h.ok.p1; have hn40 := h.ok.n; have hn := h.n
  unfold Plansolve
  rw [newSearch_run x hn40]
  simp only [Option.bind_some]
  obtain ⟨B, e1, hB, hK⟩ := start_run n8 ⟨p0, p1⟩ (fu := m + 60) (by omega) x.Rules (List.replicate x.Rules.length 0) (List.replicate x.Rules.length true)
  have e1' : PlanSearchstart_v1 (m + 60) x.Period x.Events x.Rules (List.replicate x.Rules.length 0) (List.replicate x.Rules.length true) = some (some B) := by rw [hn]; exact e1
  rw [e1']
  simp only [Option.bind_some]
  have hz : ∀ i, i < 1 → ∀ t : Nat → Int, t i - t 0 = tm [0] i := by
    intro i hi t
    have : i = 0 := by omega
    subst this
    show t 0 - t 0 = 0
    omega
  rcases solve_loop h (fu := m + 60) (by omega) (z := (x.Period, x.Events, x.Rules, List.replicate x.Rules.length 0, List.replicate x.Rules.length true)) ⟨rfl, rfl, rfl⟩ (n - 1) 1 [0] B (List.replicate x.Rules.length 0) (m + 60) (by omega) (by omega) (by omega) rfl (Ls.one n0) hB (fun t => by
      rw [hK t]
      exact ⟨fun a => ⟨a, fun i hi => hz i hi t⟩, fun a => a.1⟩) (by simp) with ⟨e2, q⟩ | ⟨B', T', q, tk', op', e2, q1, q2⟩
  · have e2' : Plansolve.loop1 x (m + 60) (x.Period, x.Events, x.Rules, List.replicate x.Rules.length 0, List.replicate x.Rules.length true) (m + 60) (some B) [0] 1 (List.replicate x.Rules.length 0) (List.replicate x.Rules.length true) () () = some (.ret []) := e2
    rw [e2']
    exact .inl ⟨rfl, q⟩
  · have e2' : Plansolve.loop1 x (m + 60) (x.Period, x.Events, x.Rules, List.replicate x.Rules.length 0, List.replicate x.Rules.length true) (m + 60) (some B) [0] 1 (List.replicate x.Rules.length 0) (List.replicate x.Rules.length true) () () = some (.next (B', T', q, tk', op', (), ())) := e2
    rw [e2']
    simp only [Option.bind_some]
    have : nz T' = some () := by
      unfold nz
      cases T' with
      | nil => simp at q2; omega
      | cons _ _ => rfl
    rw [this]
    exact .inr ⟨T', rfl, q1, q2⟩
/-! the reference -/
theorem tight_sure {n : Nat} {P : Int} {b : List (List Int)} (h : RD n P b) (hn : n ≤ 8) (hP : P ≤ 3600) {f g : Nat} (hf : f < n) (hg : g < n) {m : Int} (hm : -100000 ≤ m ∧ m ≤ 100000) {t : Nat → Int} (ht : Keeps n (fl b) t) (hc : t g - t f ≤ m) :
    ∃ c, Fishref2Boundstighter b (f : Int) (g : Int) m = some (c, true) ∧ RD n P c ∧ Keeps n (fl c) t ∧ ∀ t, Keeps n (fl c) t ↔ Keeps n (fl b) t ∧ t g - t f ≤ m := by
  rcases tight_run h hn hP hf hg hm with ⟨z, _, q⟩ | ⟨c, e, hc', q⟩
  · exact absurd hc (q t ht)
  · exact ⟨c, e, hc', (q t).2 ⟨ht, hc⟩, q⟩
theorem free_loop {x : PlanPeriodic} {n : Nat} (h : PIn x n) {m : Nat} : ∀ (r k : Nat) (q : List (List Int)), k + r = n → q.length = n → (∀ i, i < k → (rw_ q i).length = n ∧ ∀ y, y < n → rb q i y = if i = y then 0 else x.Period - 1) →
    ∃ b, Fishref2free.loop1 x (m + 60) r k q = some b ∧ Rows n b ∧ ∀ i y, i < n → y < n → rb b i y = if i = y then 0 else x.Period - 1
  | 0, k, q, hk, hq, hi => ⟨q, rfl, ⟨hq, fun i h => (hi i (by omega)).1⟩, fun i y h1 h2 => (hi i (by omega)).2 y h2⟩
  | r + 1, k, q, hk, hq, hi => by
    have p0 := h.p0; have p1 := h.p1; have hn := h.n
    obtain ⟨n0, n8⟩ := h.n1
    rw [Fishref2free.loop1, hn, repP m n _ n8]
    simp only [Option.bind_some]
    rw [ix_in (by omega) (by omega), sx_in (by omega) (by omega)]
    simp only [Option.bind_some]
    rw [w64_id (x := x.Period - 1) (by omega), show (((k : Nat) : Int)).toNat = k by omega]
    rw [gx_rw (n := n) (by simpa using hq) (by omega), rw_set (by omega), if_pos rfl]
    simp only [Option.bind_some]
    rw [ix_in (by omega) (by simp; omega), sx_in (by omega) (by simp; omega)]
    simp only [Option.bind_some]
    rw [show (((k : Nat) : Int)).toNat = k by omega, List.set_set]
    refine free_loop h r (k + 1) (q.set k ((List.replicate n (x.Period - 1)).set k 0)) (by omega) (by simpa using hq) fun i hik => ?_
    by_cases c : i = k
    · subst c
      have e : rw_ (q.set i ((List.replicate n (x.Period - 1)).set i 0)) i = (List.replicate n (x.Period - 1)).set i 0 := by rw [rw_set (by omega), if_pos rfl]
      refine ⟨by rw [e]; simp, fun y hy => ?_⟩
      unfold rb
      rw [e, tm_set (by simp; omega)]
      by_cases c : y = i
      · rw [if_pos c, if_pos c.symm]
      · rw [if_neg c, if_neg (fun q => c q.symm)]
        unfold tm
        rw [List.getElem?_replicate, if_pos hy]; rfl
    · have e : rw_ (q.set k ((List.replicate n (x.Period - 1)).set k 0)) i = rw_ q i := by rw [rw_set (by omega), if_neg c]
      have h0 := hi i (by omega)
      refine ⟨by rw [e]; exact h0.1, fun y hy => ?_⟩
      have := h0.2 y hy
      unfold rb at this ⊢
      rw [e]; exact this
theorem free_run {x : PlanPeriodic} {n : Nat} (h : PIn x n) (m : Nat) : ∃ b, Fishref2free (m + 60) x = some b ∧ RD n x.Period b ∧ ∀ t, Keeps n (fl b) t ↔ ∀ i k, i < n → k < n → t k - t i ≤ if i = k then 0 else x.Period - 1 := by
  have p0 := h.p0; have p1 := h.p1; have hn := h.n
  obtain ⟨n0, n8⟩ := h.n1
  unfold Fishref2free
  rw [hn, mks_in (by omega)]
  simp only [Option.bind_some]
  rw [List.length_replicate]
  obtain ⟨b, e1, e2, e3⟩ := free_loop h (m := m) n 0 (List.replicate n []) (by omega) (by simp) (fun i hi => by omega)
  rw [e1]
  refine ⟨b, rfl, ⟨e2, ⟨fl_len b, fun i hi => ?_, fun i j k hi hj hk => ?_, fun i k hi hk => ?_⟩⟩, fun t => ⟨fun q i k hi hk => ?_, fun q i k hi hk => ?_⟩⟩
  · rw [bv_fl (by omega) (by omega), e3 i i hi hi, if_pos rfl]
  · rw [bv_fl (by omega) (by omega), bv_fl (by omega) (by omega), bv_fl (by omega) (by omega), e3 i k hi hk, e3 i j hi hj, e3 j k hj hk]
    split <;> split <;> split <;> omega
  · rw [bv_fl (by omega) (by omega), e3 i k hi hk]; split <;> omega
  · have := q i k hi hk
    rw [bv_fl (by omega) (by omega), e3 i k hi hk] at this; exact this
  · rw [bv_fl (by omega) (by omega), e3 i k hi hk]; exact q i k hi hk
theorem Fishref2Solvable_loop3 {x : PlanPeriodic} {n : Nat} (h : PIn x n) {t : Nat → Int} (ht0 : ∀ j, j < n → t 0 - t j ≤ 0) : ∀ (r j : Nat) (q : List (List Int)) (f2 : Nat), j + r = n → r < f2 → RD n x.Period q → Keeps n (fl q) t →
    ∃ b z, Fishref2Solvable.loop3 x f2 q (j : Int) = some (.next (b, z)) ∧ RD n x.Period b ∧ ∀ u, Keeps n (fl b) u ↔ Keeps n (fl q) u ∧ ∀ i, j ≤ i → i < n → u 0 - u i ≤ 0
  | 0, j, q, f2, hj, hf, hq, hk => by
    have hn := h.n
    obtain ⟨f2, rfl⟩ : ∃ q, f2 = q + 1 := ⟨f2 - 1, by omega⟩
    rw [Fishref2Solvable.loop3, decide_eq_false (by omega)]
    simp only [Bool.false_eq_true, if_false]
    exact ⟨q, _, rfl, hq, fun u => ⟨fun a => ⟨a, fun i h1 h2 => by omega⟩, fun a => a.1⟩⟩
  | r + 1, j, q, f2, hj, hf, hq, hk => by
    have p1 := h.p1; have hn := h.n
    obtain ⟨n0, n8⟩ := h.n1
    obtain ⟨f2, rfl⟩ : ∃ q, f2 = q + 1 := ⟨f2 - 1, by omega⟩
    rw [Fishref2Solvable.loop3, decide_eq_true (by omega)]
    simp only [if_true]
    obtain ⟨c, e1, hc, hk2, e3⟩ := tight_sure hq n8 p1 (f := j) (g := 0) (by omega) (by omega) (m := 0) (by omega) hk (ht0 j (by omega))
    have e1' : Fishref2Boundstighter q (j : Int) 0 0 = some (c, true) := e1
    rw [e1']
    simp only [Option.bind_some, Bool.not_true, Bool.false_eq_true, if_false]
    rw [w64_id (x := (j : Int) + 1) (by omega), show (j : Int) + 1 = ((j + 1 : Nat) : Int) by omega]
    obtain ⟨b, z, f1, f2', f3⟩ := Fishref2Solvable_loop3 h ht0 r (j + 1) c f2 (by omega) (by omega) hc hk2
    refine ⟨b, z, f1, f2', fun u => ?_⟩
    rw [f3 u, e3 u]
    constructor
    · rintro ⟨⟨a, d⟩, g⟩
      refine ⟨a, fun i h1 h2 => ?_⟩
      by_cases c : i = j
      · rw [c]; exact d
      · exact g i (by omega) h2
    · rintro ⟨a, g⟩
      exact ⟨⟨a, g j (Nat.le_refl _) (by omega)⟩, fun i h1 h2 => g i (by omega) h2⟩
/-- whether rules can be kept -/
theorem solvable_run {x : PlanPeriodic} {n : Nat} (h : PIn x n) {rs : List PlanRule} (hr : ∀ r ∈ rs, RuleOk x r) (hl : rs.length ≤ 1000) {m : Nat} (hm : 11000 ≤ m) : ∃ res, Fishref2Solvable (m + 60) x rs [0] = some res ∧ (res = true ↔ ∃ t, Base n x.Period t ∧ ∀ r ∈ rs, Rk x r t) := by
  have p0 := h.p0; have p1 := h.p1; have hn := h.n
  obtain ⟨n0, n8⟩ := h.n1
  obtain ⟨b, e1, hb, hk⟩ := free_run h m
  have hz : Keeps n (fl b) (fun _ => 0) := (hk _).2 (Base.zero p0).1
  unfold Fishref2Solvable
  rw [e1]
  simp only [Option.bind_some]
  obtain ⟨c1, f1, hc1, k1, g1⟩ := tight_sure hb n8 p1 (f := 0) (g := 0) (by omega) (by omega) (m := 0) (by omega) hz (by omega)
  obtain ⟨c2, f2, hc2, k2, g2⟩ := tight_sure hc1 n8 p1 (f := 0) (g := 0) (by omega) (by omega) (m := 0) (by omega) k1 (by omega)
  have f1' : Fishref2Boundstighter b 0 ((0 : Nat) : Int) (w64 (0 - 0)) = some (c1, true) := f1
  have f2' : Fishref2Boundstighter c1 ((0 : Nat) : Int) 0 (w64 (0 - 0)) = some (c2, true) := f2
  have l1 : Fishref2Solvable.loop1 [0] [0] 0 b = some (.next c2) := by
    rw [Fishref2Solvable.loop1]
    rw [gx_zero]
    simp only [List.getElem?_cons_zero, Option.bind_some]
    rw [f1']
    simp only [Option.bind_some, Bool.not_true, Bool.false_eq_true, if_false]
    rw [f2']
    simp only [Option.bind_some, Bool.not_true, Bool.false_eq_true, if_false]
    rfl
  rw [l1]
  simp only [Option.bind_some]
  obtain ⟨c3, z, f3, hc3, g3⟩ := Fishref2Solvable_loop3 h (t := fun _ => 0) (fun j _ => by omega) n 0 c2 (m + 60) (by omega) (by omega) hc2 k2
  have f3' : Fishref2Solvable.loop3 x (m + 60) c2 0 = some (.next (c3, z)) := f3
  rw [f3']
  simp only [Option.bind_some]
  obtain ⟨res, e4, q⟩ := shifts1_run h rs.length (m + 60) c3 rs (Nat.le_refl _) (by omega) hc3 hr hl
  rw [e4]
  refine ⟨res, rfl, ?_⟩
  rw [q]
  constructor
  · rintro ⟨t, a, d⟩
    have a3 := (g3 t).1 a
    have a2 := (g1 t).1 ((g2 t).1 a3.1).1
    exact ⟨t, ⟨(hk t).1 a2.1, fun j hj => a3.2 j (Nat.zero_le _) hj⟩, d⟩
  · rintro ⟨t, a, d⟩
    exact ⟨t, (g3 t).2 ⟨(g2 t).2 ⟨(g1 t).2 ⟨(hk t).2 a.1, by omega⟩, by omega⟩, fun i _ h => a.2 i h⟩, d⟩
theorem sol_one {x : PlanPeriodic} {n : Nat} {t : Nat → Int} : Sol x n [0] t ↔ Base n x.Period t ∧ ∀ r ∈ x.Rules, Rk x r t := by
  constructor
  · exact fun h => ⟨h.1, h.2.1⟩
  · refine fun h => ⟨h.1, h.2, fun i hi => ?_⟩
    have : i = 0 := by simpa using hi
    subst this
    show t 0 - t 0 = 0
    omega
/-- of one event, all times keep all rules -/
theorem sol_single {x : PlanPeriodic} {n : Nat} (h : PSn x n) (hn : n = 1) : ∃ t, Sol x n [0] t := by
  refine ⟨fun _ => 0, sol_one.2 ⟨Base.zero h.ok.p0, fun r hr => ?_⟩⟩
  have k := h.ok.rules r hr
  have := k.from0; have := k.from1; have := k.to0; have := k.to1; have := k.ne; have := h.n
  omega
theorem ls_some {x : PlanPeriodic} {n : Nat} (h : PSn x n) {T : List Int} (k : Ls x n T) (hl : T.length = n) : ∃ t, Sol x n [0] t := by
  rcases Nat.lt_or_ge 1 n with c | c
  · obtain ⟨⟨t, ht, _⟩, _⟩ := k.step 1 (by omega) (by omega)
    exact ⟨t, sol_one.2 ⟨ht.1, ht.2.1⟩⟩
  · have := k.pos
    exact sol_single h (by omega)
theorem equal_refl (l : List Int) : SlicesEqualLint l l = some true := by
  have key : ∀ (r : List Int) (k : Nat), l.drop k = r → SlicesEqualLint.loop1 l r k = some (.next ()) := by
    intro r
    induction r with
    | nil => intro k _; rfl
    | cons v r ih =>
      intro k hd
      obtain ⟨d1, d2, d3⟩ := drop_cons hd
      simp only [SlicesEqualLint.loop1, gx_nat, d2, Option.bind_some, bne_self_eq_false, Bool.false_eq_true, if_false]
      exact ih (k + 1) d3
  unfold SlicesEqualLint
  simp [key l 0 rfl]

/-- the rules that are in -/
def pk : List PlanRule → List Bool → List PlanRule
  | r :: rs, b :: bs => if b then r :: pk rs bs else pk rs bs
  | [], _ => []
  | _ :: _, [] => []
theorem pk_mem : ∀ {l : List PlanRule} {L : List Bool} {r : PlanRule}, r ∈ pk l L → r ∈ l
  | [], _, r, h => by simp [pk] at h
  | _ :: _, [], r, h => by simp [pk] at h
  | q :: l, b :: L, r, h => by
    cases b with
    | false => simp only [pk, Bool.false_eq_true, if_false] at h; exact List.mem_cons_of_mem _ (pk_mem h)
    | true =>
      simp only [pk, if_true] at h
      rcases List.mem_cons.1 h with g | g
      · rw [g]; simp
      · exact List.mem_cons_of_mem _ (pk_mem g)
theorem pk_len : ∀ (l : List PlanRule) (L : List Bool), (pk l L).length ≤ l.length
  | [], _ => by simp [pk]
  | _ :: _, [] => by simp [pk]
  | q :: l, b :: L => by
    have := pk_len l L
    cases b <;> simp [pk] <;> omega
theorem pk_app : ∀ (l l2 : List PlanRule) (L L2 : List Bool), l.length = L.length → pk (l ++ l2) (L ++ L2) = pk l L ++ pk l2 L2
  | [], _, [], _, _ => by simp [pk]
  | [], _, _ :: _, _, h => by simp at h
  | _ :: _, _, [], _, h => by simp at h
  | q :: l, l2, b :: L, L2, h => by
    have := pk_app l l2 L L2 (by simpa using h)
    cases b <;> simp [pk, this]
theorem pk_true : ∀ (l : List PlanRule) (L : List Bool), l.length = L.length → (∀ b ∈ L, b = true) → pk l L = l
  | [], _, _, _ => by simp [pk]
  | _ :: _, [], h, _ => by simp at h
  | q :: l, b :: L, h, k => by
    have := pk_true l L (by simpa using h) (fun b hb => k b (by simp [hb]))
    have hb := k b (by simp)
    subst hb
    simp [pk, this]
/-- their numbers -/
def ixs : List Bool → Nat → List Int
  | [], _ => []
  | b :: L, k => if b then (k : Int) :: ixs L (k + 1) else ixs L (k + 1)
theorem ixs_len : ∀ (L : List Bool) (k : Nat), (ixs L k).length ≤ L.length
  | [], _ => by simp [ixs]
  | b :: L, k => by
    have := ixs_len L (k + 1)
    cases b <;> simp [ixs] <;> omega
theorem ixs_app : ∀ (L L2 : List Bool) (k : Nat), ixs (L ++ L2) k = ixs L k ++ ixs L2 (k + L.length)
  | [], _, _ => by simp [ixs]
  | b :: L, L2, k => by
    have := ixs_app L L2 (k + 1)
    have e : k + 1 + L.length = k + (L.length + 1) := by omega
    rw [e] at this
    cases b <;> simp [ixs, this]
theorem bt_drop {L : List Bool} {k : Nat} (h : k < L.length) : L.drop k = bt L k :: L.drop (k + 1) := by
  rw [List.drop_eq_getElem_cons h, bt_get h]
theorem some_loop {rules : List PlanRule} {L : List Bool} (hL : L.length = rules.length) (hr : rules.length ≤ 40) : ∀ (rs : List PlanRule) (k : Nat) (acc : List PlanRule), rules.drop k = rs → acc.length + rs.length ≤ 40 → Fishref2CoreOf_1_v1.loop1 L rs k acc = some (acc ++ pk rs (L.drop k))
  | [], k, acc, _, _ => by simp [pk, Fishref2CoreOf_1_v1.loop1]
  | r :: rs, k, acc, hd, ha => by
    obtain ⟨hk, hd3, hd4⟩ := drop_cons2 hd
    simp only [List.length_cons] at ha
    rw [Fishref2CoreOf_1_v1.loop1, gx_bt (by omega) (by omega), show nd ((k : Nat) : Int) = k by simp [nd], bt_drop (by omega)]
    simp only [Option.bind_some]
    by_cases c : bt L k = true
    · rw [c]
      simp only [if_true, pk]
      rw [apd_lt (by simp; omega)]
      simp only [Option.bind_some]
      rw [some_loop hL hr rs (k + 1) (acc ++ [r]) hd4 (by simp; omega)]
      simp
    · have c' : bt L k = false := by simpa using c
      rw [c']
      simp only [Bool.false_eq_true, if_false, pk, Option.bind_some]
      exact some_loop hL hr rs (k + 1) acc hd4 (by omega)
theorem some_run {x : PlanPeriodic} {L : List Bool} (hL : L.length = x.Rules.length) (hr : x.Rules.length ≤ 40) : Fishref2CoreOf_1_v1 x L = some (pk x.Rules L) := by
  unfold Fishref2CoreOf_1_v1
  rw [some_loop hL hr x.Rules 0 [] rfl (by simpa using hr)]
  simp
theorem ixs_loop {L : List Bool} (hL : L.length ≤ 40) : ∀ (r k : Nat) (acc : List Int), k + r = L.length → acc.length + r ≤ 40 → Fishref2CoreOf.loop2 L r k acc = some (acc ++ ixs (L.drop k) k)
  | 0, k, acc, hk, _ => by
    rw [List.drop_eq_nil_of_le (by omega)]
    simp [ixs, Fishref2CoreOf.loop2]
  | r + 1, k, acc, hk, ha => by
    rw [Fishref2CoreOf.loop2, gx_bt (by omega) (by omega), show nd ((k : Nat) : Int) = k by simp [nd], bt_drop (by omega)]
    simp only [Option.bind_some]
    by_cases c : bt L k = true
    · rw [c]
      simp only [if_true, ixs]
      rw [apd_lt (by simp; omega)]
      simp only [Option.bind_some]
      rw [ixs_loop hL r (k + 1) (acc ++ [(k : Int)]) (by omega) (by simp; omega)]
      simp
    · have c' : bt L k = false := by simpa using c
      rw [c']
      simp only [Bool.false_eq_true, if_false, ixs, Option.bind_some]
      exact ixs_loop hL r (k + 1) acc (by omega) (by omega)
theorem concat_run {a b : List PlanRule} (h : a.length + b.length ≤ 1000) : SlicesConcatLplanRule [a, b] = some (a ++ b) := by
  unfold SlicesConcatLplanRule
  have l1 : SlicesConcatLplanRule.loop1 [a, b] 0 = some ((a.length : Int) + b.length) := by
    rw [SlicesConcatLplanRule.loop1, SlicesConcatLplanRule.loop1, SlicesConcatLplanRule.loop1]
    rw [w64_id (x := 0 + (a.length : Int)) (by omega), decide_eq_false (by omega)]
    simp only [Bool.false_eq_true, if_false]
    rw [w64_id (by omega), decide_eq_false (by omega)]
    simp
  have l2 : SlicesGrowLplanRule_v1 ((a.length : Int) + b.length) = some [] := by
    unfold SlicesGrowLplanRule_v1
    rw [decide_eq_false (by omega)]
    simp only [Bool.false_eq_true, if_false]
    have e : w64 (w64 (0 - ((0 : Nat) : Int))) = 0 := by decide
    have e0 : w64 (0 - ((0 : Nat) : Int)) = 0 := by decide
    rw [e0, w64_id (by omega)]
    by_cases c : (a.length : Int) + b.length - 0 > 0
    · rw [decide_eq_true c]
      simp only [if_true]
      unfold zq
      rw [if_pos (by omega)]
      rfl
    · rw [decide_eq_false c]
      rfl
  rw [l1]
  simp only [Option.bind_some]
  rw [l2]
  simp only [Option.bind_some]
  rw [SlicesConcatLplanRule.loop2, apd_lt (by simp; omega)]
  simp only [Option.bind_some]
  rw [SlicesConcatLplanRule.loop2, apd_lt (by simp; omega)]
  simp [SlicesConcatLplanRule.loop2]
/-- rules that can be kept together -/
def Feas (x : PlanPeriodic) (n : Nat) (rs : List PlanRule) : Prop := ∃ t, Base n x.Period t ∧ ∀ r ∈ rs, Rk x r t
theorem feas_solve {x : PlanPeriodic} {n : Nat} (h : PSn x n) {rs : List PlanRule} (hl : rs.length ≤ 40) (hr : ∀ r ∈ rs, RuleOk x r) {m : Nat} (hm : 9100 ≤ m) :
    ∃ T, Plansolve (m + 60) (PlanPeriodic.mk x.Period x.Events rs) = some T ∧ (T.isEmpty = false ↔ Feas x n rs) := by
  have h' : PSn (PlanPeriodic.mk x.Period x.Events rs) n := ⟨⟨h.ok.p0, h.ok.p1, h.ok.e0, h.ok.e1, hl, fun r hr' => by
    have k := hr r hr'
    exact ⟨k.from0, k.from1, k.to0, k.to1, k.ne, k.min0, k.min1, k.max0, k.max1, k.w0, k.w1⟩⟩, h.n⟩
  rcases solve_run h' hm with ⟨e, q⟩ | ⟨T, e, q1, q2⟩
  · refine ⟨[], e, fun c => (by cases c), fun ⟨t, a, b⟩ => ?_⟩
    exact absurd ⟨t, sol_one.2 ⟨a, b⟩⟩ q
  · refine ⟨T, e, fun _ => ?_, fun _ => ?_⟩
    · obtain ⟨t, ht⟩ := ls_some h' q1 q2
      exact ⟨t, (sol_one.1 ht).1, (sol_one.1 ht).2⟩
    · have := q1.pos
      cases T with
      | nil => simp at this
      | cons _ _ => rfl
theorem core_loop {x : PlanPeriodic} {n : Nat} (h : PSn x n) {m : Nat} (hm : 11000 ≤ m) : ∀ (rs : List PlanRule) (k : Nat) (L : List Bool), x.Rules.drop k = rs → k + rs.length = x.Rules.length → L.length = x.Rules.length → (∀ b ∈ L.drop k, b = true) →
    ∃ L' a b, PlanCore.loop1 x (m + 60) rs k (ixs (L.take k) 0) (x.Rules.drop k) (pk (x.Rules.take k) (L.take k)) = some (ixs L' 0, a, b) ∧ Fishref2CoreOf.loop1 x (m + 60) rs.length k L = some L' ∧ L'.length = x.Rules.length
  | [], k, L, hd, hk, hL, hb => by
    simp at hk
    exact ⟨L, _, _, by rw [PlanCore.loop1, List.take_of_length_le (by omega)], rfl, hL⟩
  | r :: rs, k, L, hd, hk, hL, hb => by
    have hN := h.ok.n
    obtain ⟨hk', hd3, hd4⟩ := drop_cons2 hd
    simp only [List.length_cons] at hk
    have hml : (pk (x.Rules.take k) (L.take k)).length ≤ k := by have := pk_len (x.Rules.take k) (L.take k); simp at this; omega
    have hil : (ixs (L.take k) 0).length ≤ k := by have := ixs_len (L.take k) 0; simp at this; omega
    rw [PlanCore.loop1, cutl_in (by omega) (by simp; omega) (by omega)]
    have ec : List.drop (1 : Int).toNat (List.take (((x.Rules.drop k).length : Nat) : Int).toNat (x.Rules.drop k)) = rs := by
      rw [show (((x.Rules.drop k).length : Nat) : Int).toNat = (x.Rules.drop k).length by omega, List.take_length, show (1 : Int).toNat = 1 from rfl, List.drop_drop]
      exact hd4
    rw [Option.bind_some, ec, concat_run (by omega), Option.bind_some]
    have hsub : ∀ q ∈ pk (x.Rules.take k) (L.take k) ++ rs, RuleOk x q := by
      intro q hq
      refine h.ok.rules q ?_
      rcases List.mem_append.1 hq with g | g
      · exact List.mem_of_mem_take (pk_mem g)
      · rw [← hd4] at g; exact List.mem_of_mem_drop g
    obtain ⟨T, e1, f1⟩ := feas_solve h (rs := pk (x.Rules.take k) (L.take k) ++ rs) (by simp; omega) hsub (m := m) (by omega)
    rw [e1, Option.bind_some]
    rw [List.length_cons, Fishref2CoreOf.loop1, ix_in (by omega) (by omega), Option.bind_some, sx_in (by omega) (by omega), Option.bind_some]
    rw [show (((k : Nat) : Int)).toNat = k by omega, some_run (by simpa using hL) hN]
    have ep : pk x.Rules (L.set k false) = pk (x.Rules.take k) (L.take k) ++ rs := by
      have e0 : L.set k false = L.take k ++ (false :: L.drop (k + 1)) := List.set_eq_take_append_cons_drop.trans (if_pos (by omega))
      have e2 : x.Rules = x.Rules.take k ++ (r :: rs) := by rw [← hd, List.take_append_drop]
      rw [e0]
      conv => lhs; rw [e2]
      rw [pk_app _ _ _ _ (by simp; omega)]
      simp only [pk, Bool.false_eq_true, if_false]
      rw [pk_true rs _ (by simp; omega) (fun b hb' => hb b (by rw [bt_drop (by omega)]; exact List.mem_cons_of_mem _ hb'))]
    rw [ep, Option.bind_some]
    obtain ⟨res, e2, f2⟩ := solvable_run h.pin hsub (by simp; omega) hm
    rw [e2, Option.bind_some]
    have same : (!T.isEmpty) = res := by
      cases res with
      | true =>
        rw [f1.2 (f2.1 rfl)]; rfl
      | false =>
        cases hT : T.isEmpty with
        | true => rfl
        | false => have := f2.2 (f1.1 hT); cases this
    rw [same]
    have htk : x.Rules.take (k + 1) = x.Rules.take k ++ [r] := by rw [List.take_add_one, List.getElem?_eq_getElem hk', hd3]; rfl
    have hdl : ∀ b, (L.set k b).take (k + 1) = L.take k ++ [b] := by
      intro b
      rw [List.take_add_one, List.take_set_of_le (Nat.le_refl _), List.getElem?_set_self (by omega)]; rfl
    have hdd : ∀ b, (L.set k b).drop (k + 1) = L.drop (k + 1) := fun b => List.drop_set_of_lt (by omega)
    have hb2 : ∀ b ∈ L.drop (k + 1), b = true := fun b hb' => hb b (by rw [bt_drop (by omega)]; exact List.mem_cons_of_mem _ hb')
    have hix : ∀ b, ixs ((L.set k b).take (k + 1)) 0 = ixs (L.take k) 0 ++ (if b = true then [(k : Int)] else []) := by
      intro b
      rw [hdl, ixs_app]
      have : 0 + (L.take k).length = k := by simp; omega
      rw [this]
      cases b <;> simp [ixs]
    have hpk : ∀ b, pk (x.Rules.take (k + 1)) ((L.set k b).take (k + 1)) = pk (x.Rules.take k) (L.take k) ++ (if b = true then [r] else []) := by
      intro b
      rw [hdl, htk, pk_app _ _ _ _ (by simp; omega)]
      cases b <;> simp [pk]
    cases res with
    | true =>
      rw [if_pos rfl, if_pos rfl, apd_lt (by simp; omega), Option.bind_some, apd_lt (by simp; omega), Option.bind_some, Option.bind_some, ix_in (by omega) (by simp; omega), Option.bind_some, sx_in (by omega) (by simp; omega), Option.bind_some, Option.bind_some]
      rw [show (((k : Nat) : Int)).toNat = k by omega, List.set_set]
      have := core_loop h hm rs (k + 1) (L.set k true) hd4 (by omega) (by simpa using hL) (by rw [hdd]; exact hb2)
      rw [hix, hpk] at this
      simp only [if_true] at this
      rw [hd4] at this
      exact this
    | false =>
      rw [if_neg Bool.false_ne_true, if_neg Bool.false_ne_true, Option.bind_some, Option.bind_some]
      have := core_loop h hm rs (k + 1) (L.set k false) hd4 (by omega) (by simpa using hL) (by rw [hdd]; exact hb2)
      rw [hix, hpk] at this
      simp only [Bool.false_eq_true, if_false, List.append_nil] at this
      rw [hd4] at this
      exact this

theorem PlanCores_law (x : PlanPeriodic) (_ : x.Rules.length ≤ 9223372036854775807) : ∃ fu, Fishlaw2PlanCores fu x = some true := by
  refine ⟨20000 + 60, ?_⟩
  unfold Fishlaw2PlanCores PlanCore
  rw [per_eq, periods_true]
  by_cases c : (Fishref2PeriodicFault x != 0) = true
  · rw [if_pos c]
    simp only [Option.bind_some]
    rw [if_pos c]
    simp
  · rw [if_neg c]
    have h : PSn x (nd x.Events) := ⟨per_ok x (by simpa using c), (per_ok x (by simpa using c)).pin.n⟩
    have cf : (Fishref2PeriodicFault x != 0) = false := by simpa using c
    have hN := h.ok.n
    obtain ⟨T, e1, f1⟩ := feas_solve h hN h.ok.rules (m := 20000) (by omega)
    have e1' : Plansolve (20000 + 60) x = some T := e1
    obtain ⟨res, e2, f2⟩ := solvable_run h.pin h.ok.rules (by omega) (m := 20000) (by omega)
    have same : (!T.isEmpty) = res := by
      cases res with
      | true => rw [f1.2 (f2.1 rfl)]; rfl
      | false =>
        cases hT : T.isEmpty with
        | true => rfl
        | false => have := f2.2 (f1.1 hT); cases this
    unfold Fishref2CoreOf
    rw [e1', e2]
    simp only [Option.bind_some]
    rw [same]
    cases res with
    | true => simp [cf]
    | false =>
      obtain ⟨L', a, b, g1, g2, g3⟩ := core_loop h (m := 20000) (by omega) x.Rules 0 (List.replicate x.Rules.length true) rfl (by simp) (by simp) (fun b hb => by
        rw [List.drop_zero] at hb; exact (List.mem_replicate.1 hb).2)
      have g1' : PlanCore.loop1 x (20000 + 60) x.Rules 0 [] x.Rules [] = some (ixs L' 0, a, b) := by
        have := g1
        simpa [ixs, pk] using this
      rw [g1', repB 20000 _ hN]
      simp only [Bool.false_eq_true, if_false, Option.bind_some]
      rw [List.length_replicate, g2]
      simp only [Option.bind_some]
      rw [show x.Rules.length = L'.length from g3.symm, ixs_loop (by omega) L'.length 0 [] (by omega) (by simp; omega)]
      simp [cf, equal_refl]
end Go.Fp
