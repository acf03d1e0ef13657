/- FleetAssigns: whatever the input, the law returns true, and the input reads as it did. No condition. -/
import Derived.Test.YtfhkpdnohcidgaaRows
import Derived.Test.YtfhkpdnohcidgaaFleetAssignsW
import Derived.Test.YtfhkpdnohcidgaaFleetAssignsO
import Derived.Test.YtfhkpdnohcidgaaFleetAssignsL
import Derived.ProofKit
namespace Go.Proofs.Ytfhkpdnohcidgaa
open Go.ChangeShapes Go.WideShapes Go.ChangeAt Go.RowKit Go.Fp

theorem own_ : ownKnob Try.prog.godebug = none := by kernel_rfl
theorem laidOut_ : laidOutB Try.prog = true := by kernel_rfl

set_option maxRecDepth 100000 in
theorem fleetAssigns_lifted (os : Os) (started : os.Started) (H : Type) (enc : TypeId × Value → H) :
    ReturnsInHanded {} Try.checked os 5 .any (Rows.fleetAssignsSpec.pre6 enc Try.prog Try.f5 Rows.fleetAssignsRow.domain false) (Rows.fleetAssignsSpec.post enc Try.prog Try.f5 false true false false) := by
  refine returnsInHanded_of_change (C := Try.checked) own_ started (by kernel_rfl) Try.func5
    (ChangeSpec.witness6 (enc := enc) (C := Try.checked) false ⟨#[], #[.slice none 0 0, .int .i64 0, .slice none 0 0, .agg #[.int .i64 0, .int .i64 0, .int .i64 0]], []⟩ 8 (by kernel_rfl) (by kernel_rfl) (by kernel_rfl) (by kernel_rfl)) ?_
  intro W base args ds gs before hval0 hW hcnd _
  have hW' := hW
  obtain ⟨p, q, hA0, hV, rfl, hfz, hnd⟩ := hW
  have hA : DataW.TrodAll enc Try.prog W 0 (fun _ => true) true Try.f5.params.toList args.toList ds p := hA0
  rw [Try.params5] at hA
  obtain ⟨v0, v1, v2, v3, d0, d1, d2, d3, p0, p1, p2, p3, rfl, rfl, rfl, g0, g1, g2, g3⟩ := trodAll_four hA
  obtain ⟨rfl, rfl⟩ := trodVars_none hV
  obtain ⟨a0, c0, x0, rfl, h0⟩ := arg_slice und32 (Opens.slice und32 cel78 (by decide) OFleetTask) (hval0 0 32 v0 rfl rfl) g0
  obtain ⟨x1, rfl, hx1⟩ := arg_int Try.underlying3 (hval0 1 3 v1 rfl rfl)
  obtain ⟨a2, c2, x2, rfl, h2⟩ := arg_slice und33 (Opens.slice und33 cel84 (by decide) OFleetSet) (hval0 2 33 v2 rfl rfl) g2
  obtain ⟨cs3, x3, rfl, e3⟩ := arg_struct Try.underlying35 OFleetShop (hval0 3 35 v3 rfl rfl) g3
  have e3 : cs3 = x3.cells := e3
  subst e3
  obtain ⟨fu, hfu⟩ := FleetAssigns_law x0 x1 x2 x3 h0.small hx1 h2.small
  refine (Fishlaw2FleetAssigns_ok (St.start W) h0 h2 hfu).mono fun e W' ⟨he, hS⟩ => ?_
  exact ⟨_, he, post_law laidOut_ hS hW' rfl ⟨rfl, rfl, rfl⟩ (by kernel_rfl) rfl und4⟩

theorem fleetAssigns_holds : Rows.FleetAssignsSaid :=
  OpenClaim.holds_of_wide 5 Try.f5 rfl rfl rfl rfl rfl rfl rfl ⟨rfl, rfl, rfl, rfl, rfl⟩ rfl rfl rfl rfl rfl (by kernel_rfl) Try.func5 (by kernel_rfl)
    (of_decide_eq_true (by kernel_rfl)) (by unfold Func.isWrapper; first | (rw [if_pos (by decide +kernel)]; kernel_rfl) | (rw [if_neg (by decide +kernel)]; exact ⟨rfl, rfl⟩))
    (fun os started H enc _ => fleetAssigns_lifted os started H enc)

end Go.Proofs.Ytfhkpdnohcidgaa
