/- PlanBests: whatever the input, the law returns true, and the input reads as it did. No condition. -/
import Derived.Test.YtffleanbfkjfiaaRows
import Derived.Test.YtffleanbfkjfiaaPlanBestsW
import Derived.Test.YtffleanbfkjfiaaPlanBestsO
import Derived.Test.YtffleanbfkjfiaaPlanBestsL
import Derived.ProofKit
namespace Go.Proofs.Ytffleanbfkjfiaa
open Go.ChangeShapes Go.WideShapes Go.ChangeAt Go.RowKit Go.Fp

theorem own_ : ownKnob Try.prog.godebug = none := by kernel_rfl
theorem laidOut_ : laidOutB Try.prog = true := by kernel_rfl

set_option maxRecDepth 100000 in
theorem planBests_lifted (os : Os) (started : os.Started) (H : Type) (enc : TypeId × Value → H) :
    ReturnsInHanded {} Try.checked os 7 .any (Rows.planBestsSpec.pre6 enc Try.prog Try.f7 Rows.planBestsRow.domain false) (Rows.planBestsSpec.post enc Try.prog Try.f7 false true false false) := by
  refine returnsInHanded_of_change (C := Try.checked) own_ started (by kernel_rfl) Try.func7
    (ChangeSpec.witness6 (enc := enc) (C := Try.checked) false ⟨#[], #[.agg #[.int .i64 0, .int .i64 0, .slice none 0 0]], []⟩ 8 (by kernel_rfl) (by kernel_rfl) (by kernel_rfl) (by kernel_rfl)) ?_
  intro W base args ds gs before hval0 hW hcnd _
  have hW' := hW
  obtain ⟨p, q, hA0, hV, rfl, hfz, hnd⟩ := hW
  have hA : DataW.TrodAll enc Try.prog W 0 (fun _ => true) true Try.f7.params.toList args.toList ds p := hA0
  rw [Try.params7] at hA
  obtain ⟨v0, d0, rfl, rfl, g0⟩ := trodAll_one hA
  obtain ⟨rfl, rfl⟩ := trodVars_none hV
  obtain ⟨cs0, x0, rfl, h0⟩ := arg_struct Try.underlying24 OPlanPeriodic (hval0 0 24 v0 rfl rfl) g0
  obtain ⟨_, _, rfl, h0_0⟩ := h0
  obtain ⟨fu, hfu⟩ := PlanBests_law x0 h0_0.small
  refine (Fishlaw2PlanBests_ok (St.start W) h0_0 hfu).mono fun e W' ⟨he, hS⟩ => ?_
  exact ⟨_, he, post_law laidOut_ hS hW' rfl ⟨rfl, rfl, rfl⟩ (by kernel_rfl) rfl und4⟩

theorem planBests_holds : Rows.PlanBestsSaid :=
  OpenClaim.holds_of_wide 7 Try.f7 rfl rfl rfl rfl rfl rfl rfl ⟨rfl, rfl, rfl, rfl, rfl⟩ rfl rfl rfl rfl rfl (by kernel_rfl) Try.func7 (by kernel_rfl)
    (of_decide_eq_true (by kernel_rfl)) (by unfold Func.isWrapper; first | (rw [if_pos (by decide +kernel)]; kernel_rfl) | (rw [if_neg (by decide +kernel)]; exact ⟨rfl, rfl⟩))
    (fun os started H enc _ => planBests_lifted os started H enc)

end Go.Proofs.Ytffleanbfkjfiaa
