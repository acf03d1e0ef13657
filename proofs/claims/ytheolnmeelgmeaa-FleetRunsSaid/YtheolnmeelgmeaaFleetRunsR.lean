/- FleetRuns: whatever the input, the law returns true, and the input reads as it did. No condition. -/
import Derived.Test.YtheolnmeelgmeaaRows
import Derived.Test.YtheolnmeelgmeaaFleetRunsW
import Derived.Test.YtheolnmeelgmeaaFleetRunsO
import Derived.Test.YtheolnmeelgmeaaFleetRunsL
import Derived.Test.YtheolnmeelgmeaaFpReach
import Derived.ProofKit
import Derived.HandedShaped
namespace Go.Proofs.Ytheolnmeelgmeaa
open Go.ChangeShapes Go.WideShapes Go.ChangeAt Go.RowKit Go.Fp

theorem own_ : ownKnob Try.prog.godebug = none := by kernel_rfl
theorem laidOut_ : laidOutB Try.prog = true := by kernel_rfl

set_option maxRecDepth 100000 in
theorem fleetRuns_lifted (os : Os) (started : os.Started) (H : Type) (enc : TypeId × Value → H) :
    ReturnsInHanded {} Try.checked os 3 .any (Rows.fleetRunsSpec.pre6 enc Try.prog Try.f3 Rows.fleetRunsRow.domain false) (Rows.fleetRunsSpec.post enc Try.prog Try.f3 false true false false) := by
  refine returnsInHanded_of_change_shaped (C := Try.checked) own_ started (by kernel_rfl) Try.func3
    (ChangeSpec.witness6 (enc := enc) (C := Try.checked) false ⟨#[], #[.slice none 0 0, .slice none 0 0], []⟩ 8 (by kernel_rfl) (by kernel_rfl) (by kernel_rfl) (by kernel_rfl)) ?_
  intro W base args ds gs before hval0 hW hcnd hwt _ _
  have hW' := hW
  obtain ⟨p, q, hA0, hV, rfl, hfz, hnd⟩ := hW
  have hA : DataW.TrodAll enc Try.prog W 0 (fun _ => true) true Try.f3.params.toList args.toList ds p := hA0
  rw [Try.params3] at hA
  obtain ⟨v0, v1, d0, d1, p0, p1, rfl, rfl, rfl, g0, g1⟩ := trodAll_two hA
  obtain ⟨rfl, rfl⟩ := trodVars_none hV
  obtain ⟨hw0, hw1⟩ := weights_two (P := Try.prog) hwt
  obtain ⟨a0, c0, x0, rfl, h0⟩ := arg_slice und22 (Opens.slice und22 cel34 (by decide) OFleetTask) (hval0 0 22 v0 rfl rfl) g0
  obtain ⟨a1, c1, x1, rfl, h1, h1r⟩ := arg_sliceW und23 (OpensW.slice und23 cel31 (by decide) (kk := 24) (by kernel_rfl) (OpensW.slice und31 cel3 (by decide) (kk := 8) (by kernel_rfl) (OpensW.of (Opens.int und3)))) (hval0 1 23 v1 rfl rfl) g1 hw1
  obtain ⟨fu, hfu⟩ := FleetRuns_law x0 x1 h0.small h1r
  refine (Fishlaw2FleetRuns_ok (St.start W) h0 h1 hfu).mono fun e W' ⟨he, hS⟩ => ?_
  exact ⟨_, he, post_law laidOut_ hS hW' rfl ⟨rfl, rfl, rfl⟩ (by kernel_rfl) rfl und4⟩

theorem fleetRuns_holds : Rows.FleetRunsSaid :=
  OpenClaim.holds_of_wide 3 Try.f3 rfl rfl rfl rfl rfl rfl rfl ⟨rfl, rfl, rfl, rfl, rfl⟩ rfl rfl rfl rfl rfl (by kernel_rfl) Try.func3 (by kernel_rfl)
    (of_decide_eq_true (by kernel_rfl)) (by unfold Func.isWrapper; first | (rw [if_pos (by decide +kernel)]; kernel_rfl) | (rw [if_neg (by decide +kernel)]; exact ⟨rfl, rfl⟩))
    (fun os started H enc _ => fleetRuns_lifted os started H enc)

end Go.Proofs.Ytheolnmeelgmeaa
