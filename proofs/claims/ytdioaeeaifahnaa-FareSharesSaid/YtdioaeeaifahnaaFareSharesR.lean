/- FareShares: whatever the input, the law returns true, and the input reads as it did. No condition. -/
import Derived.Test.YtdioaeeaifahnaaRows
import Derived.Test.YtdioaeeaifahnaaFareSharesW
import Derived.Test.YtdioaeeaifahnaaFareSharesO
import Derived.Test.YtdioaeeaifahnaaFareSharesL
import Derived.ProofKit
namespace Go.Proofs.Ytdioaeeaifahnaa
open Go.ChangeShapes Go.WideShapes Go.ChangeAt Go.RowKit Go.Fp

theorem own_ : ownKnob Try.prog.godebug = none := by kernel_rfl
theorem laidOut_ : laidOutB Try.prog = true := by kernel_rfl

set_option maxRecDepth 100000 in
theorem fareShares_lifted (os : Os) (started : os.Started) (H : Type) (enc : TypeId × Value → H) :
    ReturnsInHanded {} Try.checked os 5 .any (Rows.fareSharesSpec.pre6 enc Try.prog Try.f5 Rows.fareSharesRow.domain false) (Rows.fareSharesSpec.post enc Try.prog Try.f5 false true false false) := by
  refine returnsInHanded_of_change (C := Try.checked) own_ started (by kernel_rfl) Try.func5
    (ChangeSpec.witness6 (enc := enc) (C := Try.checked) false ⟨#[], #[.int .i64 0, .slice none 0 0], []⟩ 8 (by kernel_rfl) (by kernel_rfl) (by kernel_rfl) (by kernel_rfl)) ?_
  intro W base args ds gs before hval0 hW hcnd _
  have hW' := hW
  obtain ⟨p, q, hA0, hV, rfl, hfz, hnd⟩ := hW
  have hA : DataW.TrodAll enc Try.prog W 0 (fun _ => true) true Try.f5.params.toList args.toList ds p := hA0
  rw [Try.params5] at hA
  obtain ⟨v0, v1, d0, d1, p0, p1, rfl, rfl, rfl, g0, g1⟩ := trodAll_two hA
  obtain ⟨rfl, rfl⟩ := trodVars_none hV
  obtain ⟨x0, rfl, hx0⟩ := arg_int Try.underlying3 (hval0 0 3 v0 rfl rfl)
  obtain ⟨a1, c1, x1, rfl, h1⟩ := arg_slice und41 (Opens.slice und41 cel3 (by decide) (Opens.int und3)) (hval0 1 41 v1 rfl rfl) g1
  obtain ⟨fu, hfu⟩ := FareShares_law x0 x1 hx0 h1.small
  refine (Fishlaw2FareShares_ok (St.start W) h1 hfu).mono fun e W' ⟨he, hS⟩ => ?_
  exact ⟨_, he, post_law laidOut_ hS hW' rfl ⟨rfl, rfl, rfl⟩ (by kernel_rfl) rfl und4⟩

theorem fareShares_holds : Rows.FareSharesSaid :=
  OpenClaim.holds_of_wide 5 Try.f5 rfl rfl rfl rfl rfl rfl rfl ⟨rfl, rfl, rfl, rfl, rfl⟩ rfl rfl rfl rfl rfl (by kernel_rfl) Try.func5 (by kernel_rfl)
    (of_decide_eq_true (by kernel_rfl)) (by unfold Func.isWrapper; first | (rw [if_pos (by decide +kernel)]; kernel_rfl) | (rw [if_neg (by decide +kernel)]; exact ⟨rfl, rfl⟩))
    (fun os started H enc _ => fareShares_lifted os started H enc)

end Go.Proofs.Ytdioaeeaifahnaa
