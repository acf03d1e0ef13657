/- FleetDuties: whatever the input, the law returns true, and the input reads as it did. No condition. -/
import Derived.Test.YtfhkpdnohcidgaaRows
import Derived.Test.YtfhkpdnohcidgaaFleetDutiesW
import Derived.Test.YtfhkpdnohcidgaaFleetDutiesO
import Derived.Test.YtfhkpdnohcidgaaFleetDutiesL
import Derived.ProofKit
namespace Go.Proofs.Ytfhkpdnohcidgaa
open Go.ChangeShapes Go.WideShapes Go.ChangeAt Go.RowKit Go.Fp

theorem own_ : ownKnob Try.prog.godebug = none := by kernel_rfl
theorem laidOut_ : laidOutB Try.prog = true := by kernel_rfl

set_option maxRecDepth 100000 in
theorem fleetDuties_lifted (os : Os) (started : os.Started) (H : Type) (enc : TypeId × Value → H) :
    ReturnsInHanded {} Try.checked os 8 .any (Rows.fleetDutiesSpec.pre6 enc Try.prog Try.f8 Rows.fleetDutiesRow.domain false) (Rows.fleetDutiesSpec.post enc Try.prog Try.f8 false true false false) := by
  refine returnsInHanded_of_change (C := Try.checked) own_ started (by kernel_rfl) Try.func8
    (ChangeSpec.witness6 (enc := enc) (C := Try.checked) false ⟨#[], #[.slice none 0 0, .agg #[.int .i64 0, .int .i64 0, .int .i64 0, .int .i64 0, .int .i64 0, .int .i64 0, .int .i64 0]], []⟩ 8 (by kernel_rfl) (by kernel_rfl) (by kernel_rfl) (by kernel_rfl)) ?_
  intro W base args ds gs before hval0 hW hcnd _
  have hW' := hW
  obtain ⟨p, q, hA0, hV, rfl, hfz, hnd⟩ := hW
  have hA : DataW.TrodAll enc Try.prog W 0 (fun _ => true) true Try.f8.params.toList args.toList ds p := hA0
  rw [Try.params8] at hA
  obtain ⟨v0, v1, d0, d1, p0, p1, rfl, rfl, rfl, g0, g1⟩ := trodAll_two hA
  obtain ⟨rfl, rfl⟩ := trodVars_none hV
  obtain ⟨a0, c0, x0, rfl, h0⟩ := arg_slice und32 (Opens.slice und32 cel78 (by decide) OFleetTask) (hval0 0 32 v0 rfl rfl) g0
  obtain ⟨cs1, x1, rfl, e1⟩ := arg_struct Try.underlying24 OFleetLimits (hval0 1 24 v1 rfl rfl) g1
  have e1 : cs1 = x1.cells := e1
  subst e1
  obtain ⟨fu, hfu⟩ := FleetDuties_law x0 x1 h0.small
  refine (Fishlaw2FleetDuties_ok (St.start W) h0 hfu).mono fun e W' ⟨he, hS⟩ => ?_
  exact ⟨_, he, post_law laidOut_ hS hW' rfl ⟨rfl, rfl, rfl⟩ (by kernel_rfl) rfl und4⟩

theorem fleetDuties_holds : Rows.FleetDutiesSaid :=
  OpenClaim.holds_of_wide 8 Try.f8 rfl rfl rfl rfl rfl rfl rfl ⟨rfl, rfl, rfl, rfl, rfl⟩ rfl rfl rfl rfl rfl (by kernel_rfl) Try.func8 (by kernel_rfl)
    (of_decide_eq_true (by kernel_rfl)) (by unfold Func.isWrapper; first | (rw [if_pos (by decide +kernel)]; kernel_rfl) | (rw [if_neg (by decide +kernel)]; exact ⟨rfl, rfl⟩))
    (fun os started H enc _ => fleetDuties_lifted os started H enc)

end Go.Proofs.Ytfhkpdnohcidgaa
