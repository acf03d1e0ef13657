/- MendForced: whatever the input, the law returns true, and the input reads as it did. No condition. -/
import Derived.Test.YtfioafdipipcaaaRows
import Derived.Test.YtfioafdipipcaaaMendForcedW
import Derived.Test.YtfioafdipipcaaaMendForcedO
import Derived.Test.YtfioafdipipcaaaMendForcedL
import Derived.ProofKit
namespace Go.Proofs.Ytfioafdipipcaaa
open Go.ChangeShapes Go.WideShapes Go.ChangeAt Go.RowKit Go.Fp

theorem own_ : ownKnob Try.prog.godebug = none := by kernel_rfl
theorem laidOut_ : laidOutB Try.prog = true := by kernel_rfl

set_option maxRecDepth 100000 in
theorem mendForced_lifted (os : Os) (started : os.Started) (H : Type) (enc : TypeId × Value → H) :
    ReturnsInHanded {} Try.checked os 10 .any (Rows.mendForcedSpec.pre6 enc Try.prog Try.f10 Rows.mendForcedRow.domain false) (Rows.mendForcedSpec.post enc Try.prog Try.f10 false true false false) := by
  refine returnsInHanded_of_change (C := Try.checked) own_ started (by kernel_rfl) Try.func10
    (ChangeSpec.witness6 (enc := enc) (C := Try.checked) false ⟨#[], #[.agg #[.slice none 0 0, .slice none 0 0, .slice none 0 0, .slice none 0 0, .slice none 0 0], .slice none 0 0], []⟩ 8 (by kernel_rfl) (by kernel_rfl) (by kernel_rfl) (by kernel_rfl)) ?_
  intro W base args ds gs before hval0 hW hcnd _
  have hW' := hW
  obtain ⟨p, q, hA0, hV, rfl, hfz, hnd⟩ := hW
  have hA : DataW.TrodAll enc Try.prog W 0 (fun _ => true) true Try.f10.params.toList args.toList ds p := hA0
  rw [Try.params10] at hA
  obtain ⟨v0, v1, d0, d1, p0, p1, rfl, rfl, rfl, g0, g1⟩ := trodAll_two hA
  obtain ⟨rfl, rfl⟩ := trodVars_none hV
  obtain ⟨cs0, x0, rfl, h0⟩ := arg_struct Try.underlying50 OMendGraph (hval0 0 50 v0 rfl rfl) g0
  obtain ⟨_, _, _, _, _, _, _, _, _, _, rfl, h0_0, h0_1, h0_2, h0_3, h0_4⟩ := h0
  obtain ⟨a1, c1, x1, rfl, h1⟩ := arg_slice und22 (Opens.slice und22 cel3 (by decide) (Opens.int und3)) (hval0 1 22 v1 rfl rfl) g1
  obtain ⟨fu, hfu⟩ := MendForced_law x0 x1 h0_0.small h0_1.small h0_2.small h0_3.small h0_4.small h1.small
  refine (Fishlaw2MendForced_ok (St.start W) h0_0 h0_1 h0_2 h0_3 h0_4 h1 hfu).mono fun e W' ⟨he, hS⟩ => ?_
  exact ⟨_, he, post_law laidOut_ hS hW' rfl ⟨rfl, rfl, rfl⟩ (by kernel_rfl) rfl und4⟩

theorem mendForced_holds : Rows.MendForcedSaid :=
  OpenClaim.holds_of_wide 10 Try.f10 rfl rfl rfl rfl rfl rfl rfl ⟨rfl, rfl, rfl, rfl, rfl⟩ rfl rfl rfl rfl rfl (by kernel_rfl) Try.func10 (by kernel_rfl)
    (of_decide_eq_true (by kernel_rfl)) (by unfold Func.isWrapper; first | (rw [if_pos (by decide +kernel)]; kernel_rfl) | (rw [if_neg (by decide +kernel)]; exact ⟨rfl, rfl⟩))
    (fun os started H enc _ => mendForced_lifted os started H enc)

end Go.Proofs.Ytfioafdipipcaaa
