/- FleetStands: whatever the input, the law returns true, and the input reads as it did. No condition. -/
import Derived.Test.YtfhkpdnohcidgaaRows
import Derived.Test.YtfhkpdnohcidgaaFleetStandsW
import Derived.Test.YtfhkpdnohcidgaaFleetStandsO
import Derived.Test.YtfhkpdnohcidgaaFleetStandsL
import Derived.ProofKit
namespace Go.Proofs.Ytfhkpdnohcidgaa
open Go.ChangeShapes Go.WideShapes Go.ChangeAt Go.RowKit Go.Fp

theorem own_ : ownKnob Try.prog.godebug = none := by kernel_rfl
theorem laidOut_ : laidOutB Try.prog = true := by kernel_rfl

set_option maxRecDepth 100000 in
theorem fleetStands_lifted (os : Os) (started : os.Started) (H : Type) (enc : TypeId × Value → H) :
    ReturnsInHanded {} Try.checked os 9 .any (Rows.fleetStandsSpec.pre6 enc Try.prog Try.f9 Rows.fleetStandsRow.domain false) (Rows.fleetStandsSpec.post enc Try.prog Try.f9 false true false false) := by
  refine returnsInHanded_of_change (C := Try.checked) own_ started (by kernel_rfl) Try.func9
    (ChangeSpec.witness6 (enc := enc) (C := Try.checked) false ⟨#[], #[.slice none 0 0, .slice none 0 0, .agg #[.int .i64 0, .int .i64 0, .int .i64 0, .int .i64 0, .int .i64 0, .int .i64 0, .int .i64 0], .slice none 0 0], []⟩ 8 (by kernel_rfl) (by kernel_rfl) (by kernel_rfl) (by kernel_rfl)) ?_
  intro W base args ds gs before hval0 hW hcnd _
  have hW' := hW
  obtain ⟨p, q, hA0, hV, rfl, hfz, hnd⟩ := hW
  have hA : DataW.TrodAll enc Try.prog W 0 (fun _ => true) true Try.f9.params.toList args.toList ds p := hA0
  rw [Try.params9] at hA
  obtain ⟨v0, v1, v2, v3, d0, d1, d2, d3, p0, p1, p2, p3, rfl, rfl, rfl, g0, g1, g2, g3⟩ := trodAll_four hA
  obtain ⟨rfl, rfl⟩ := trodVars_none hV
  obtain ⟨a0, c0, x0, rfl, h0⟩ := arg_slice und22 (Opens.slice und22 cel126 (by decide) OFleetShift) (hval0 0 22 v0 rfl rfl) g0
  obtain ⟨a1, c1, x1, rfl, h1⟩ := arg_slice und25 (Opens.slice und25 cel44 (by decide) (Opens.slice und44 cel3 (by decide) (Opens.int und3))) (hval0 1 25 v1 rfl rfl) g1
  obtain ⟨cs2, x2, rfl, e2⟩ := arg_struct Try.underlying24 OFleetLimits (hval0 2 24 v2 rfl rfl) g2
  have e2 : cs2 = x2.cells := e2
  subst e2
  obtain ⟨a3, c3, x3, rfl, h3⟩ := arg_slice und59 (Opens.slice und59 cel123 (by decide) OFleetAbsence) (hval0 3 59 v3 rfl rfl) g3
  obtain ⟨fu, hfu⟩ := FleetStands_law x0 x1 x2 x3 h0.small h1.small h1.small2 h3.small
  refine (Fishlaw2FleetStands_ok (St.start W) h0 h1 h3 hfu).mono fun e W' ⟨he, hS⟩ => ?_
  exact ⟨_, he, post_law laidOut_ hS hW' rfl ⟨rfl, rfl, rfl⟩ (by kernel_rfl) rfl und4⟩

theorem fleetStands_holds : Rows.FleetStandsSaid :=
  OpenClaim.holds_of_wide 9 Try.f9 rfl rfl rfl rfl rfl rfl rfl ⟨rfl, rfl, rfl, rfl, rfl⟩ rfl rfl rfl rfl rfl (by kernel_rfl) Try.func9 (by kernel_rfl)
    (of_decide_eq_true (by kernel_rfl)) (by unfold Func.isWrapper; first | (rw [if_pos (by decide +kernel)]; kernel_rfl) | (rw [if_neg (by decide +kernel)]; exact ⟨rfl, rfl⟩))
    (fun os started H enc _ => fleetStands_lifted os started H enc)

end Go.Proofs.Ytfhkpdnohcidgaa
