/- PlanGaps: the mirror of the law is true of all rules and times. -/
import Derived.Test.YtffleanbfkjfiaaPlanGapsM
import Derived.Test.YtffleanbfkjfiaaFpPlain
import Derived.KernelRfl
namespace Go.Fp

theorem pwithin (x a b : Int) : Planwithin x a b = decide (a ≤ x ∧ x ≤ b) := by
  unfold Planwithin bnd
  by_cases h : a ≤ x <;> simp [h]
theorem rwithin (x a b : Int) : Fishref2within x a b = decide (a ≤ x ∧ x ≤ b) := by
  unfold Fishref2within bnd
  by_cases h : a ≤ x <;> simp [h]
theorem rule_max (x lo hi : Int) (w : Bool) : (if decide (x < lo) = true then true else if decide (x > hi) = true then true else w) = (if (!decide (lo ≤ x ∧ x ≤ hi)) = true then true else w) := by
  by_cases h1 : x < lo
  · have : ¬ (lo ≤ x ∧ x ≤ hi) := by omega
    simp [h1, this]
  · by_cases h2 : x > hi
    · have : ¬ (lo ≤ x ∧ x ≤ hi) := by omega
      simp [h1, h2, this]
    · have : lo ≤ x ∧ x ≤ hi := by omega
      simp [h1, h2, this]
theorem per_loop (x : PlanPeriodic) : ∀ l, PlanCheckPeriodic.loop1 x l = Fishref2PeriodicFault.loop1 x l
  | [] => rfl
  | r :: l => by
    rw [PlanCheckPeriodic.loop1, Fishref2PeriodicFault.loop1]
    simp only [pwithin, rwithin, rule_max, per_loop x l]
theorem per_eq (x : PlanPeriodic) : PlanCheckPeriodic x = Fishref2PeriodicFault x := by
  unfold PlanCheckPeriodic Fishref2PeriodicFault
  simp only [pwithin, rwithin, per_loop]
theorem periods_true (n : Nat) : Fishlaw2periods (n + 60) = some true := by kernel_rfl
/-- what a right rule is -/
structure RuleOk (x : PlanPeriodic) (r : PlanRule) : Prop where
  from0 : 0 ≤ r.From
  from1 : r.From < x.Events
  to0 : 0 ≤ r.To
  to1 : r.To < x.Events
  ne : r.From ≠ r.To
  min0 : 0 ≤ r.Min
  min1 : r.Min ≤ 3600
  max0 : r.Min ≤ r.Max
  max1 : r.Max ≤ r.Min + x.Period - 1
  w0 : 0 ≤ r.Weight
  w1 : r.Weight ≤ 1000
structure PerOk (x : PlanPeriodic) : Prop where
  p0 : 2 ≤ x.Period
  p1 : x.Period ≤ 3600
  e0 : 1 ≤ x.Events
  e1 : x.Events ≤ 8
  n : x.Rules.length ≤ 40
  rules : ∀ r ∈ x.Rules, RuleOk x r
theorem perloop_ok (x : PlanPeriodic) (p0 : 2 ≤ x.Period) (p1 : x.Period ≤ 3600) (e0 : 1 ≤ x.Events) (e1 : x.Events ≤ 8) :
    ∀ l, (match Fishref2PeriodicFault.loop1 x l with | .ret r => r | .next () => 0) = 0 → ∀ r ∈ l, RuleOk x r
  | [], _, r, hr => by cases hr
  | q :: l, h, r, hr => by
    rw [Fishref2PeriodicFault.loop1] at h
    simp only [rwithin, rule_max, bnd] at h
    rw [w64_id (x := x.Events - 1) (by omega)] at h
    by_cases c1 : (if (!decide (0 ≤ q.From ∧ q.From ≤ x.Events - 1)) = true then true else !decide (0 ≤ q.To ∧ q.To ≤ x.Events - 1)) = true
    · rw [if_pos c1] at h; cases h
    rw [if_neg c1] at h
    by_cases c2 : (q.From == q.To) = true
    · rw [if_pos c2] at h; cases h
    rw [if_neg c2] at h
    by_cases c3 : (if (!decide (0 ≤ q.Min ∧ q.Min ≤ 3600)) = true then true else if (!decide (q.Min ≤ q.Max ∧ q.Max ≤ w64 (w64 (q.Min + x.Period) - 1))) = true then true else !decide (0 ≤ q.Weight ∧ q.Weight ≤ 1000)) = true
    · rw [if_pos c3] at h; cases h
    rw [if_neg c3] at h
    rcases List.mem_cons.1 hr with rfl | hr
    · simp at c1 c2 c3
      have m0 : 0 ≤ r.Min := by by_cases k : 0 ≤ r.Min ∧ r.Min ≤ 3600 <;> simp_all
      have m1 : r.Min ≤ 3600 := by by_cases k : 0 ≤ r.Min ∧ r.Min ≤ 3600 <;> simp_all
      rw [w64_id (x := r.Min + x.Period) (by omega), w64_id (x := r.Min + x.Period - 1) (by omega)] at c3
      have hf : 0 ≤ r.From ∧ r.From ≤ x.Events - 1 := by by_cases k : 0 ≤ r.From ∧ r.From ≤ x.Events - 1 <;> simp_all
      have ht : 0 ≤ r.To ∧ r.To ≤ x.Events - 1 := by by_cases k : 0 ≤ r.To ∧ r.To ≤ x.Events - 1 <;> simp_all
      have hx : r.Min ≤ r.Max ∧ r.Max ≤ r.Min + x.Period - 1 := by by_cases k : r.Min ≤ r.Max ∧ r.Max ≤ r.Min + x.Period - 1 <;> simp_all
      have hw : 0 ≤ r.Weight ∧ r.Weight ≤ 1000 := by by_cases k : 0 ≤ r.Weight ∧ r.Weight ≤ 1000 <;> simp_all
      exact ⟨hf.1, by omega, ht.1, by omega, c2, m0, m1, hx.1, hx.2, hw.1, hw.2⟩
    · exact perloop_ok x p0 p1 e0 e1 l h r hr
theorem per_ok (x : PlanPeriodic) (h : Fishref2PeriodicFault x = 0) : PerOk x := by
  unfold Fishref2PeriodicFault at h
  simp only [rwithin, bnd] at h
  by_cases c1 : (if (!decide (2 ≤ x.Period ∧ x.Period ≤ 3600)) = true then true else !decide (1 ≤ x.Events ∧ x.Events ≤ 8)) = true
  · rw [if_pos c1] at h; cases h
  rw [if_neg c1] at h
  by_cases c2 : decide ((x.Rules.length : Int) > 40) = true
  · rw [if_pos c2] at h; cases h
  rw [if_neg c2] at h
  have hp : 2 ≤ x.Period ∧ x.Period ≤ 3600 := by by_cases k : 2 ≤ x.Period ∧ x.Period ≤ 3600 <;> simp_all
  have he : 1 ≤ x.Events ∧ x.Events ≤ 8 := by by_cases k : 1 ≤ x.Events ∧ x.Events ≤ 8 <;> simp_all
  have hn : x.Rules.length ≤ 40 := by simp at c2; omega
  exact ⟨hp.1, hp.2, he.1, he.2, hn, perloop_ok x hp.1 hp.2 he.1 he.2 _ h⟩
structure TimesOk (x : PlanPeriodic) (t : List Int) : Prop extends PerOk x where
  len : (t.length : Int) = x.Events
  el : ∀ v ∈ t, 0 ≤ v ∧ v < x.Period
theorem times_eq (x : PlanPeriodic) (t : List Int) : PlancheckTimes x t = Fishref2TimesFault x t := by
  have : ∀ l, PlancheckTimes.loop1 x l = Fishref2TimesFault.loop1 x l := by
    intro l
    induction l with
    | nil => rfl
    | cons v l ih => rw [PlancheckTimes.loop1, Fishref2TimesFault.loop1, ih, pwithin, rwithin]
  unfold PlancheckTimes Fishref2TimesFault
  simp only [per_eq, this]
theorem times_ok (x : PlanPeriodic) (t : List Int) (h : Fishref2TimesFault x t = 0) : TimesOk x t := by
  unfold Fishref2TimesFault at h
  by_cases c1 : (Fishref2PeriodicFault x != 0) = true
  · rw [if_pos c1] at h; rw [h] at c1; cases c1
  rw [if_neg c1] at h
  have hp := per_ok x (by simpa using c1)
  by_cases c2 : ((t.length : Int) != x.Events) = true
  · rw [if_pos c2] at h; cases h
  rw [if_neg c2] at h
  have hl : ∀ l, (match Fishref2TimesFault.loop1 x l with | .ret r => r | .next () => 0) = 0 → ∀ v ∈ l, 0 ≤ v ∧ v < x.Period := by
    intro l
    induction l with
    | nil => intro _ v hv; cases hv
    | cons u l ih =>
      intro k v hv
      rw [Fishref2TimesFault.loop1, rwithin, w64_id (by have := hp.p0; have := hp.p1; omega)] at k
      by_cases c3 : 0 ≤ u ∧ u ≤ x.Period - 1
      · simp only [c3] at k
        rcases List.mem_cons.1 hv with rfl | hv
        · omega
        · exact ih (by simpa using k) v hv
      · simp [c3] at k
  exact ⟨hp, by simpa using c2, hl t h⟩
/-- the gap, told once -/
theorem up_loop (x : PlanPeriodic) (r : PlanRule) (hp : 2 ≤ x.Period) (hp1 : x.Period ≤ 3600) (h0 : 0 ≤ r.Min) (h1 : r.Min ≤ 3600) :
    ∀ (n : Nat) (g : Int), -8000 ≤ g → g ≤ 8000 → r.Min - g < n → 1 ≤ n → ∃ k : Nat, Fishref2GapOf.loop1 x r n g = some (g + k * x.Period) ∧ r.Min ≤ g + k * x.Period ∧ g + k * x.Period ≤ 8000
  | 0, g, _, _, _, h => by
    exfalso; omega
  | n + 1, g, a, b, h, _ => by
    rw [Fishref2GapOf.loop1]
    by_cases c : g < r.Min
    · rw [if_pos (by simpa using c), w64_id (by omega)]
      obtain ⟨k, e1, e2, e3⟩ := up_loop x r hp hp1 h0 h1 n (g + x.Period) (by omega) (by omega) (by omega) (by omega)
      refine ⟨k + 1, ?_⟩
      have e : g + x.Period + (k : Int) * x.Period = g + ((k + 1 : Nat) : Int) * x.Period := by rw [Int.natCast_add, Int.add_mul]; omega
      rw [← e]; exact ⟨e1, e2, e3⟩
    · rw [if_neg (by simpa using c)]
      exact ⟨0, by simp, by simp; omega, by simp; omega⟩
theorem down_loop (x : PlanPeriodic) (r : PlanRule) (hp : 2 ≤ x.Period) (hp1 : x.Period ≤ 3600) (h0 : 0 ≤ r.Min) (h1 : r.Min ≤ 3600) :
    ∀ (n : Nat) (g : Int), r.Min ≤ g → g ≤ 8000 → g - r.Min < n → ∃ k : Nat, Fishref2GapOf.loop2 x r n g = some (g - k * x.Period) ∧ r.Min ≤ g - k * x.Period ∧ g - k * x.Period < r.Min + x.Period
  | 0, g, _, _, h => by
    exfalso; omega
  | n + 1, g, a, b, h => by
    rw [Fishref2GapOf.loop2, w64_id (x := r.Min + x.Period) (by omega)]
    by_cases c : r.Min + x.Period ≤ g
    · rw [if_pos (by simpa using c), w64_id (by omega)]
      obtain ⟨k, e1, e2, e3⟩ := down_loop x r hp hp1 h0 h1 n (g - x.Period) (by omega) (by omega) (by omega)
      refine ⟨k + 1, ?_⟩
      have e : g - x.Period - (k : Int) * x.Period = g - ((k + 1 : Nat) : Int) * x.Period := by rw [Int.natCast_add, Int.add_mul]; omega
      rw [← e]; exact ⟨e1, e2, e3⟩
    · rw [if_neg (by simpa using c)]
      exact ⟨0, by simp, by simp; omega, by simp; omega⟩
theorem time_at {x : PlanPeriodic} {t : List Int} (h : TimesOk x t) {i : Int} (h0 : 0 ≤ i) (h1 : i < x.Events) : ∃ v, gx t i = some v ∧ 0 ≤ v ∧ v < x.Period := by
  obtain ⟨v, hv, hm⟩ := gx_in (l := t) h0 (by have := h.len; omega)
  exact ⟨v, hv, h.el v hm⟩
/-- what a rule's gap is -/
def gapv (x : PlanPeriodic) (r : PlanRule) (a b : Int) : Int := r.Min + (b - a - r.Min) % x.Period
theorem gap_m {x : PlanPeriodic} {t : List Int} (h : TimesOk x t) {r : PlanRule} (hr : RuleOk x r) {a b : Int} (ha : gx t r.From = some a) (hb : gx t r.To = some b)
    (a0 : 0 ≤ a) (a1 : a < x.Period) (b0 : 0 ≤ b) (b1 : b < x.Period) : Plangap x r t = some (gapv x r a b) := by
  have p0 := h.p0; have p1 := h.p1; have m0 := hr.min0; have m1 := hr.min1
  unfold Plangap
  rw [ha, hb]
  simp only [Option.bind_some, bnd]
  rw [w64_id (x := b - a) (by omega), w64_id (x := b - a - r.Min) (by omega)]
  unfold rm
  rw [if_neg (by omega)]
  simp only [Option.bind_some]
  have ht := Int.tmod_eq_emod (a := b - a - r.Min) (b := x.Period)
  have e1 := Int.emod_nonneg (b - a - r.Min) (b := x.Period) (by omega)
  have e2 := Int.emod_lt_of_pos (b - a - r.Min) (b := x.Period) (by omega)
  congr 1
  unfold gapv
  generalize hm : (b - a - r.Min) % x.Period = m at *
  by_cases c : 0 ≤ b - a - r.Min ∨ x.Period ∣ b - a - r.Min
  · rw [if_pos c] at ht
    rw [if_neg (by simp; omega), w64_id (by omega)]
    omega
  · rw [if_neg c] at ht
    have hne : m ≠ 0 := by
      intro hz; subst hz
      exact c (.inr (Int.dvd_of_emod_eq_zero hm))
    have ht' : (b - a - r.Min).tmod x.Period = m - x.Period := by rw [ht]; omega
    rw [ht', if_pos (by simp; omega), w64_id (x := m - x.Period + x.Period) (by omega), w64_id (by omega)]
    omega
theorem gap_r {x : PlanPeriodic} {t : List Int} (h : TimesOk x t) {r : PlanRule} (hr : RuleOk x r) {a b : Int} (ha : gx t r.From = some a) (hb : gx t r.To = some b)
    (a0 : 0 ≤ a) (a1 : a < x.Period) (b0 : 0 ≤ b) (b1 : b < x.Period) {fu : Nat} (hf : 20000 ≤ fu) : Fishref2GapOf fu x r t = some (gapv x r a b) := by
  have p0 := h.p0; have p1 := h.p1; have m0 := hr.min0; have m1 := hr.min1
  unfold Fishref2GapOf
  rw [ha, hb]
  simp only [Option.bind_some]
  rw [w64_id (x := b - a) (by omega)]
  obtain ⟨k, e1, e2, e3⟩ := up_loop x r p0 p1 m0 m1 fu (b - a) (by omega) (by omega) (by omega) (by omega)
  rw [e1]
  simp only [Option.bind_some]
  obtain ⟨j, f1, f2, f3⟩ := down_loop x r p0 p1 m0 m1 fu (b - a + k * x.Period) e2 e3 (by omega)
  rw [f1]
  simp only [Option.bind_some]
  congr 1
  unfold gapv
  have e : (b - a + (k : Int) * x.Period - (j : Int) * x.Period - r.Min) % x.Period = (b - a - r.Min) % x.Period := by
    have : b - a + (k : Int) * x.Period - (j : Int) * x.Period - r.Min = (b - a - r.Min) + x.Period * ((k : Int) - j) := by rw [Int.mul_comm x.Period, Int.sub_mul]; omega
    rw [this, Int.add_mul_emod_self_left]
  rw [Int.emod_eq_of_lt (by omega) (by omega)] at e
  rw [← e]; omega
theorem gap_eq {x : PlanPeriodic} {t : List Int} (h : TimesOk x t) {r : PlanRule} (hr : RuleOk x r) {fu : Nat} (hf : 20000 ≤ fu) :
    ∃ g, Plangap x r t = some g ∧ Fishref2GapOf fu x r t = some g := by
  obtain ⟨a, ha, a0, a1⟩ := time_at h hr.from0 hr.from1
  obtain ⟨b, hb, b0, b1⟩ := time_at h hr.to0 hr.to1
  exact ⟨_, gap_m h hr ha hb a0 a1 b0 b1, gap_r h hr ha hb a0 a1 b0 b1 hf⟩
theorem broken_eq {x : PlanPeriodic} {t : List Int} (h : TimesOk x t) {fu : Nat} (hf : 20000 ≤ fu) : ∀ (l : List PlanRule) (k : Nat), (∀ r ∈ l, RuleOk x r) →
    ∃ o, SlicesIndexFuncLplanRule_v1.loop1 x t l k = some o ∧ SlicesIndexFuncLplanRule_v2.loop1 x t fu l k = some o
  | [], _, _ => ⟨_, rfl, rfl⟩
  | r :: l, k, hl => by
    obtain ⟨g, g1, g2⟩ := gap_eq h (hl r (List.mem_cons_self ..)) hf
    obtain ⟨o, o1, o2⟩ := broken_eq h hf l (k + 1) (fun r hr => hl r (List.mem_cons_of_mem _ hr))
    rw [SlicesIndexFuncLplanRule_v1.loop1, SlicesIndexFuncLplanRule_v2.loop1]
    unfold PlanBroken_1_v1 Fishref2BrokenOf_1_v1
    rw [g1, g2, o1, o2]
    simp only [Option.bind_some]
    by_cases c : g > r.Max
    · exact ⟨.ret k, by simp [c], by simp [c]⟩
    · exact ⟨o, by simp [c], by simp [c]⟩
theorem cost_eq {x : PlanPeriodic} {t : List Int} (h : TimesOk x t) {fu : Nat} (hf : 20000 ≤ fu) : ∀ (l : List PlanRule) (k : Int), (∀ r ∈ l, RuleOk x r) →
    ∃ o, Plancost.loop1 x t l k = some o ∧ Fishref2CostOf.loop1 x t fu l k = some o
  | [], k, _ => ⟨k, rfl, rfl⟩
  | r :: l, k, hl => by
    obtain ⟨g, g1, g2⟩ := gap_eq h (hl r (List.mem_cons_self ..)) hf
    obtain ⟨o, o1, o2⟩ := cost_eq h hf l (w64 (k + (w64 (r.Weight * (w64 (g - r.Min)))))) (fun r hr => hl r (List.mem_cons_of_mem _ hr))
    rw [Plancost.loop1, Fishref2CostOf.loop1, g1, g2]
    exact ⟨o, o1, o2⟩

theorem PlanGaps_law (x : PlanPeriodic) (i : Int) (t : List Int) (_ : x.Rules.length ≤ 9223372036854775807) (_ : -9223372036854775808 ≤ i ∧ i ≤ 9223372036854775807) (_ : t.length ≤ 9223372036854775807) : ∃ fu, Fishlaw2PlanGaps fu x i t = some true := by
  refine ⟨20000 + 60, ?_⟩
  unfold Fishlaw2PlanGaps PlanGap PlanBroken PlanCost
  rw [times_eq, periods_true]
  by_cases c : (Fishref2TimesFault x t != 0) = true
  · simp only [if_pos c, Option.bind_some]
    simp
  · simp only [if_neg c]
    have h := times_ok x t (by simpa using c)
    obtain ⟨o, o1, o2⟩ := broken_eq h (fu := 20000 + 60) (by omega) x.Rules 0 h.rules
    obtain ⟨u, u1, u2⟩ := cost_eq h (fu := 20000 + 60) (by omega) x.Rules 0 h.rules
    have hb : ∃ k, SlicesIndexFuncLplanRule_v1 x.Rules x t = some k ∧ Fishref2BrokenOf (20000 + 60) x t = some k := by
      unfold Fishref2BrokenOf SlicesIndexFuncLplanRule_v1 SlicesIndexFuncLplanRule_v2
      rw [o1, o2]
      cases o with
      | ret r => exact ⟨r, rfl, rfl⟩
      | next v => exact ⟨-1, rfl, rfl⟩
    obtain ⟨k, k1, k2⟩ := hb
    have hc : Plancost x t = some u := by unfold Plancost; rw [u1]; rfl
    have hc2 : Fishref2CostOf (20000 + 60) x t = some u := by unfold Fishref2CostOf; rw [u2]; rfl
    have hn := h.n
    rw [k1, k2, hc, hc2, pwithin, w64_id (by omega)]
    by_cases ci : 0 ≤ i ∧ i ≤ (x.Rules.length : Int) - 1
    · obtain ⟨r, hr, hm⟩ := gx_in (l := x.Rules) ci.1 (by omega)
      obtain ⟨g, g1, g2⟩ := gap_eq h (h.rules r hm) (fu := 20000 + 60) (by omega)
      have c2 : (if decide (i < 0) = true then true else decide (i ≥ (x.Rules.length : Int))) = false := by simp; omega
      simp only [ci, hr, g1, g2, Option.bind_some, bnd, c2]
      simp
    · have c2 : (if decide (i < 0) = true then true else decide (i ≥ (x.Rules.length : Int))) = true := by
        by_cases h0 : i < 0
        · simp [h0]
        · simp [h0]; omega
      simp only [ci, Option.bind_some, bnd, c2]
      simp

end Go.Fp
