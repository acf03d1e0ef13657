/- FareSigns: whatever the input, the law returns true, and the input reads as it did. No condition. -/
import Derived.Test.YtmgdigencbganaaRows
import Derived.Test.YtmgdigencbganaaFareSignsW
import Derived.Test.YtmgdigencbganaaFareSignsO
import Derived.Test.YtmgdigencbganaaFareSignsL
import Derived.ProofKit
namespace Go.Proofs.Ytmgdigencbganaa
open Go.ChangeShapes Go.WideShapes Go.ChangeAt Go.RowKit Go.Fp

theorem own_ : ownKnob Try.prog.godebug = none := by kernel_rfl
theorem laidOut_ : laidOutB Try.prog = true := by kernel_rfl

set_option maxRecDepth 100000 in
theorem fareSigns_lifted (os : Os) (started : os.Started) (H : Type) (enc : TypeId × Value → H) :
    ReturnsInHanded {} Try.checked os 9 .any (Rows.fareSignsSpec.pre6 enc Try.prog Try.f9 Rows.fareSignsRow.domain false) (Rows.fareSignsSpec.post enc Try.prog Try.f9 false true false false) := by
  refine returnsInHanded_of_change (C := Try.checked) own_ started (by kernel_rfl) Try.func9
    (ChangeSpec.witness6 (enc := enc) (C := Try.checked) false ⟨#[], #[.agg #[.int .i64 0, .int .i64 0, .int .i64 0], .string ByteArray.empty, .int .i64 0], []⟩ 8 (by kernel_rfl) (by kernel_rfl) (by kernel_rfl) (by kernel_rfl)) ?_
  intro W base args ds gs before hval0 hW hcnd _
  have hW' := hW
  obtain ⟨p, q, hA0, hV, rfl, hfz, hnd⟩ := hW
  have hA : DataW.TrodAll enc Try.prog W 0 (fun _ => true) true Try.f9.params.toList args.toList ds p := hA0
  rw [Try.params9] at hA
  obtain ⟨v0, v1, v2, d0, d1, d2, p0, p1, p2, rfl, rfl, rfl, g0, g1, g2⟩ := trodAll_three hA
  obtain ⟨rfl, rfl⟩ := trodVars_none hV
  obtain ⟨cs0, x0, rfl, e0⟩ := arg_struct Try.underlying59 OFareKey (hval0 0 59 v0 rfl rfl) g0
  have e0 : cs0 = x0.cells := e0
  subst e0
  obtain ⟨x1, rfl, hx1⟩ := arg_string Try.underlying9 (hval0 1 9 v1 rfl rfl)
  obtain ⟨x2, rfl, hx2⟩ := arg_int Try.underlying3 (hval0 2 3 v2 rfl rfl)
  obtain ⟨fu, hfu⟩ := FareSigns_law x0 x1 x2 hx1 hx2
  refine (Fishlaw2FareSigns_ok (St.start W) hfu).mono fun e W' ⟨he, hS⟩ => ?_
  exact ⟨_, he, post_law laidOut_ hS hW' rfl ⟨rfl, rfl, rfl⟩ (by kernel_rfl) rfl und4⟩

theorem fareSigns_holds : Rows.FareSignsSaid :=
  OpenClaim.holds_of_wide 9 Try.f9 rfl rfl rfl rfl rfl rfl rfl ⟨rfl, rfl, rfl, rfl, rfl⟩ rfl rfl rfl rfl rfl (by kernel_rfl) Try.func9 (by kernel_rfl)
    (of_decide_eq_true (by kernel_rfl)) (by unfold Func.isWrapper; first | (rw [if_pos (by decide +kernel)]; kernel_rfl) | (rw [if_neg (by decide +kernel)]; exact ⟨rfl, rfl⟩))
    (fun os started H enc _ => fareSigns_lifted os started H enc)

end Go.Proofs.Ytmgdigencbganaa
