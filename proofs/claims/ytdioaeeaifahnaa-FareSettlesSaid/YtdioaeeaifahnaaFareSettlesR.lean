/- FareSettles: whatever the input, the law returns true, and the input reads as it did. No condition. -/
import Derived.Test.YtdioaeeaifahnaaRows
import Derived.Test.YtdioaeeaifahnaaFareSettlesW
import Derived.Test.YtdioaeeaifahnaaFareSettlesO
import Derived.Test.YtdioaeeaifahnaaFareSettlesL
import Derived.ProofKit
namespace Go.Proofs.Ytdioaeeaifahnaa
open Go.ChangeShapes Go.WideShapes Go.ChangeAt Go.RowKit Go.Fp

theorem own_ : ownKnob Try.prog.godebug = none := by kernel_rfl
theorem laidOut_ : laidOutB Try.prog = true := by kernel_rfl

set_option maxRecDepth 100000 in
theorem fareSettles_lifted (os : Os) (started : os.Started) (H : Type) (enc : TypeId × Value → H) :
    ReturnsInHanded {} Try.checked os 7 .any (Rows.fareSettlesSpec.pre6 enc Try.prog Try.f7 Rows.fareSettlesRow.domain false) (Rows.fareSettlesSpec.post enc Try.prog Try.f7 false true false false) := by
  refine returnsInHanded_of_change (C := Try.checked) own_ started (by kernel_rfl) Try.func7
    (ChangeSpec.witness6 (enc := enc) (C := Try.checked) false ⟨#[], #[.slice none 0 0], []⟩ 8 (by kernel_rfl) (by kernel_rfl) (by kernel_rfl) (by kernel_rfl)) ?_
  intro W base args ds gs before hval0 hW hcnd _
  have hW' := hW
  obtain ⟨p, q, hA0, hV, rfl, hfz, hnd⟩ := hW
  have hA : DataW.TrodAll enc Try.prog W 0 (fun _ => true) true Try.f7.params.toList args.toList ds p := hA0
  rw [Try.params7] at hA
  obtain ⟨v0, d0, rfl, rfl, g0⟩ := trodAll_one hA
  obtain ⟨rfl, rfl⟩ := trodVars_none hV
  obtain ⟨a0, c0, x0, rfl, h0⟩ := arg_slice und57 (Opens.slice und57 cel41 (by decide) (Opens.slice und41 cel3 (by decide) (Opens.int und3))) (hval0 0 57 v0 rfl rfl) g0
  obtain ⟨fu, hfu⟩ := FareSettles_law x0 h0.small h0.small2
  refine (Fishlaw2FareSettles_ok (St.start W) h0 hfu).mono fun e W' ⟨he, hS⟩ => ?_
  exact ⟨_, he, post_law laidOut_ hS hW' rfl ⟨rfl, rfl, rfl⟩ (by kernel_rfl) rfl und4⟩

theorem fareSettles_holds : Rows.FareSettlesSaid :=
  OpenClaim.holds_of_wide 7 Try.f7 rfl rfl rfl rfl rfl rfl rfl ⟨rfl, rfl, rfl, rfl, rfl⟩ rfl rfl rfl rfl rfl (by kernel_rfl) Try.func7 (by kernel_rfl)
    (of_decide_eq_true (by kernel_rfl)) (by unfold Func.isWrapper; first | (rw [if_pos (by decide +kernel)]; kernel_rfl) | (rw [if_neg (by decide +kernel)]; exact ⟨rfl, rfl⟩))
    (fun os started H enc _ => fareSettles_lifted os started H enc)

end Go.Proofs.Ytdioaeeaifahnaa
