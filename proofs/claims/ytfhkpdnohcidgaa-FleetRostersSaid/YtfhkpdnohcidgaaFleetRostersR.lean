/- FleetRosters: whatever the input, the law returns true, and the input reads as it did. No condition. -/
import Derived.Test.YtfhkpdnohcidgaaRows
import Derived.Test.YtfhkpdnohcidgaaFleetRostersW
import Derived.Test.YtfhkpdnohcidgaaFleetRostersO
import Derived.Test.YtfhkpdnohcidgaaFleetRostersL
import Derived.ProofKit
namespace Go.Proofs.Ytfhkpdnohcidgaa
open Go.ChangeShapes Go.WideShapes Go.ChangeAt Go.RowKit Go.Fp

theorem own_ : ownKnob Try.prog.godebug = none := by kernel_rfl
theorem laidOut_ : laidOutB Try.prog = true := by kernel_rfl

set_option maxRecDepth 100000 in
theorem fleetRosters_lifted (os : Os) (started : os.Started) (H : Type) (enc : TypeId × Value → H) :
    ReturnsInHanded {} Try.checked os 3 .any (Rows.fleetRostersSpec.pre6 enc Try.prog Try.f3 Rows.fleetRostersRow.domain false) (Rows.fleetRostersSpec.post enc Try.prog Try.f3 false true false false) := by
  refine returnsInHanded_of_change (C := Try.checked) own_ started (by kernel_rfl) Try.func3
    (ChangeSpec.witness6 (enc := enc) (C := Try.checked) false ⟨#[], #[.slice none 0 0, .int .i64 0, .agg #[.int .i64 0, .int .i64 0, .int .i64 0, .int .i64 0, .int .i64 0, .int .i64 0, .int .i64 0]], []⟩ 8 (by kernel_rfl) (by kernel_rfl) (by kernel_rfl) (by kernel_rfl)) ?_
  intro W base args ds gs before hval0 hW hcnd _
  have hW' := hW
  obtain ⟨p, q, hA0, hV, rfl, hfz, hnd⟩ := hW
  have hA : DataW.TrodAll enc Try.prog W 0 (fun _ => true) true Try.f3.params.toList args.toList ds p := hA0
  rw [Try.params3] at hA
  obtain ⟨v0, v1, v2, d0, d1, d2, p0, p1, p2, rfl, rfl, rfl, g0, g1, g2⟩ := trodAll_three hA
  obtain ⟨rfl, rfl⟩ := trodVars_none hV
  obtain ⟨a0, c0, x0, rfl, h0⟩ := arg_slice und22 (Opens.slice und22 cel126 (by decide) OFleetShift) (hval0 0 22 v0 rfl rfl) g0
  obtain ⟨x1, rfl, hx1⟩ := arg_int Try.underlying3 (hval0 1 3 v1 rfl rfl)
  obtain ⟨cs2, x2, rfl, e2⟩ := arg_struct Try.underlying24 OFleetLimits (hval0 2 24 v2 rfl rfl) g2
  have e2 : cs2 = x2.cells := e2
  subst e2
  obtain ⟨fu, hfu⟩ := FleetRosters_law x0 x1 x2 h0.small hx1
  refine (Fishlaw2FleetRosters_ok (St.start W) h0 hfu).mono fun e W' ⟨he, hS⟩ => ?_
  exact ⟨_, he, post_law laidOut_ hS hW' rfl ⟨rfl, rfl, rfl⟩ (by kernel_rfl) rfl und4⟩

theorem fleetRosters_holds : Rows.FleetRostersSaid :=
  OpenClaim.holds_of_wide 3 Try.f3 rfl rfl rfl rfl rfl rfl rfl ⟨rfl, rfl, rfl, rfl, rfl⟩ rfl rfl rfl rfl rfl (by kernel_rfl) Try.func3 (by kernel_rfl)
    (of_decide_eq_true (by kernel_rfl)) (by unfold Func.isWrapper; first | (rw [if_pos (by decide +kernel)]; kernel_rfl) | (rw [if_neg (by decide +kernel)]; exact ⟨rfl, rfl⟩))
    (fun os started H enc _ => fleetRosters_lifted os started H enc)

end Go.Proofs.Ytfhkpdnohcidgaa
