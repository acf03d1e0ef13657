/- PlanPeriodics: the mirror of the law is true of all rules. -/
import Derived.Test.YtffleanbfkjfiaaPlanPeriodicsM
import Derived.Test.YtffleanbfkjfiaaFpPlain
import Derived.KernelRfl
namespace Go.Fp

theorem pwithin (x a b : Int) : Planwithin x a b = decide (a ≤ x ∧ x ≤ b) := by
  unfold Planwithin bnd
  by_cases h : a ≤ x <;> simp [h]
theorem rwithin (x a b : Int) : Fishref2within x a b = decide (a ≤ x ∧ x ≤ b) := by
  unfold Fishref2within bnd
  by_cases h : a ≤ x <;> simp [h]
theorem rule_max (x lo hi : Int) (w : Bool) : (if decide (x < lo) = true then true else if decide (x > hi) = true then true else w) = (if (!decide (lo ≤ x ∧ x ≤ hi)) = true then true else w) := by
  by_cases h1 : x < lo
  · have : ¬ (lo ≤ x ∧ x ≤ hi) := by omega
    simp [h1, this]
  · by_cases h2 : x > hi
    · have : ¬ (lo ≤ x ∧ x ≤ hi) := by omega
      simp [h1, h2, this]
    · have : lo ≤ x ∧ x ≤ hi := by omega
      simp [h1, h2, this]
theorem per_loop (x : PlanPeriodic) : ∀ l, PlanCheckPeriodic.loop1 x l = Fishref2PeriodicFault.loop1 x l
  | [] => rfl
  | r :: l => by
    rw [PlanCheckPeriodic.loop1, Fishref2PeriodicFault.loop1]
    simp only [pwithin, rwithin, rule_max, per_loop x l]
theorem per_eq (x : PlanPeriodic) : PlanCheckPeriodic x = Fishref2PeriodicFault x := by
  unfold PlanCheckPeriodic Fishref2PeriodicFault
  simp only [pwithin, rwithin, per_loop]
theorem periods_true (n : Nat) : Fishlaw2periods (n + 60) = some true := by kernel_rfl

theorem PlanPeriodics_law (x : PlanPeriodic) (_ : x.Rules.length ≤ 9223372036854775807) : ∃ fu, Fishlaw2PlanPeriodics fu x = some true := by
  refine ⟨0 + 60, ?_⟩
  unfold Fishlaw2PlanPeriodics
  rw [periods_true, per_eq x]
  simp

end Go.Fp
