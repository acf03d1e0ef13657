/- FareWays: whatever the input, the law returns true, and the input reads as it did. No condition. -/
import Derived.Test.YtckhpgbcajnpnaaRows
import Derived.Test.YtckhpgbcajnpnaaFareWaysW
import Derived.Test.YtckhpgbcajnpnaaFareWaysO
import Derived.Test.YtckhpgbcajnpnaaFareWaysL
import Derived.Test.YtckhpgbcajnpnaaFpReach
import Derived.ProofKit
import Derived.HandedShaped
namespace Go.Proofs.Ytckhpgbcajnpnaa
open Go.ChangeShapes Go.WideShapes Go.ChangeAt Go.RowKit Go.Fp

theorem own_ : ownKnob Try.prog.godebug = none := by kernel_rfl
theorem laidOut_ : laidOutB Try.prog = true := by kernel_rfl

set_option maxRecDepth 100000 in
theorem fareWays_lifted (os : Os) (started : os.Started) (H : Type) (enc : TypeId × Value → H) :
    ReturnsInHanded {} Try.checked os 3 .any (Rows.fareWaysSpec.pre6 enc Try.prog Try.f3 Rows.fareWaysRow.domain false) (Rows.fareWaysSpec.post enc Try.prog Try.f3 false true false false) := by
  refine returnsInHanded_of_change_shaped (C := Try.checked) own_ started (by kernel_rfl) Try.func3
    (ChangeSpec.witness6 (enc := enc) (C := Try.checked) false ⟨#[], #[.slice none 0 0, .int .i64 0, .int .i64 0], []⟩ 8 (by kernel_rfl) (by kernel_rfl) (by kernel_rfl) (by kernel_rfl)) ?_
  intro W base args ds gs before hval0 hW hcnd hwt _ _
  have hW' := hW
  obtain ⟨p, q, hA0, hV, rfl, hfz, hnd⟩ := hW
  have hA : DataW.TrodAll enc Try.prog W 0 (fun _ => true) true Try.f3.params.toList args.toList ds p := hA0
  rw [Try.params3] at hA
  obtain ⟨v0, v1, v2, d0, d1, d2, p0, p1, p2, rfl, rfl, rfl, g0, g1, g2⟩ := trodAll_three hA
  obtain ⟨rfl, rfl⟩ := trodVars_none hV
  have hw0 := weights_head (P := Try.prog) hwt
  obtain ⟨a0, c0, x0, rfl, h0, h0r⟩ := arg_sliceW und22 (OpensW.slice und22 cel23 (by decide) (kk := 24) (by kernel_rfl) (OpensW.slice und23 cel3 (by decide) (kk := 8) (by kernel_rfl) (OpensW.of (Opens.int und3)))) (hval0 0 22 v0 rfl rfl) g0 hw0
  obtain ⟨x1, rfl, hx1⟩ := arg_int Try.underlying3 (hval0 1 3 v1 rfl rfl)
  obtain ⟨x2, rfl, hx2⟩ := arg_int Try.underlying3 (hval0 2 3 v2 rfl rfl)
  obtain ⟨fu, hfu⟩ := FareWays_law x0 x1 x2 h0r hx1 hx2
  refine (Fishlaw2FareWays_ok (St.start W) h0 hfu).mono fun e W' ⟨he, hS⟩ => ?_
  exact ⟨_, he, post_law laidOut_ hS hW' rfl ⟨rfl, rfl, rfl⟩ (by kernel_rfl) rfl und4⟩

theorem fareWays_holds : Rows.FareWaysSaid :=
  OpenClaim.holds_of_wide 3 Try.f3 rfl rfl rfl rfl rfl rfl rfl ⟨rfl, rfl, rfl, rfl, rfl⟩ rfl rfl rfl rfl rfl (by kernel_rfl) Try.func3 (by kernel_rfl)
    (of_decide_eq_true (by kernel_rfl)) (by unfold Func.isWrapper; first | (rw [if_pos (by decide +kernel)]; kernel_rfl) | (rw [if_neg (by decide +kernel)]; exact ⟨rfl, rfl⟩))
    (fun os started H enc _ => fareWays_lifted os started H enc)

end Go.Proofs.Ytckhpgbcajnpnaa
