/- FleetTurns: whatever the input, the law returns true, and the input reads as it did. No condition. -/
import Derived.Test.YtpoooohaoekbaaaRows
import Derived.Test.YtpoooohaoekbaaaFleetTurnsW
import Derived.Test.YtpoooohaoekbaaaFleetTurnsO
import Derived.Test.YtpoooohaoekbaaaFleetTurnsL
import Derived.ProofKit
namespace Go.Proofs.Ytpoooohaoekbaaa
open Go.ChangeShapes Go.WideShapes Go.ChangeAt Go.RowKit Go.Fp

theorem own_ : ownKnob Try.prog.godebug = none := by kernel_rfl
theorem laidOut_ : laidOutB Try.prog = true := by kernel_rfl

set_option maxRecDepth 100000 in
theorem fleetTurns_lifted (os : Os) (started : os.Started) (H : Type) (enc : TypeId × Value → H) :
    ReturnsInHanded {} Try.checked os 11 .any (Rows.fleetTurnsSpec.pre6 enc Try.prog Try.f11 Rows.fleetTurnsRow.domain false) (Rows.fleetTurnsSpec.post enc Try.prog Try.f11 false true false false) := by
  refine returnsInHanded_of_change (C := Try.checked) own_ started (by kernel_rfl) Try.func11
    (ChangeSpec.witness6 (enc := enc) (C := Try.checked) false ⟨#[], #[.slice none 0 0, .int .i64 0], []⟩ 8 (by kernel_rfl) (by kernel_rfl) (by kernel_rfl) (by kernel_rfl)) ?_
  intro W base args ds gs before hval0 hW hcnd _
  have hW' := hW
  obtain ⟨p, q, hA0, hV, rfl, hfz, hnd⟩ := hW
  have hA : DataW.TrodAll enc Try.prog W 0 (fun _ => true) true Try.f11.params.toList args.toList ds p := hA0
  rw [Try.params11] at hA
  obtain ⟨v0, v1, d0, d1, p0, p1, rfl, rfl, rfl, g0, g1⟩ := trodAll_two hA
  obtain ⟨rfl, rfl⟩ := trodVars_none hV
  obtain ⟨a0, c0, x0, rfl, h0⟩ := arg_slice und33 (Opens.slice und33 cel84 (by decide) OFleetTask) (hval0 0 33 v0 rfl rfl) g0
  obtain ⟨x1, rfl, hx1⟩ := arg_int Try.underlying3 (hval0 1 3 v1 rfl rfl)
  obtain ⟨fu, hfu⟩ := FleetTurns_law x0 x1 h0.small hx1
  refine (Fishlaw2FleetTurns_ok (St.start W) h0 hfu).mono fun e W' ⟨he, hS⟩ => ?_
  exact ⟨_, he, post_law laidOut_ hS hW' rfl ⟨rfl, rfl, rfl⟩ (by kernel_rfl) rfl und4⟩

theorem fleetTurns_holds : Rows.FleetTurnsSaid :=
  OpenClaim.holds_of_wide 11 Try.f11 rfl rfl rfl rfl rfl rfl rfl ⟨rfl, rfl, rfl, rfl, rfl⟩ rfl rfl rfl rfl rfl (by kernel_rfl) Try.func11 (by kernel_rfl)
    (of_decide_eq_true (by kernel_rfl)) (by unfold Func.isWrapper; first | (rw [if_pos (by decide +kernel)]; kernel_rfl) | (rw [if_neg (by decide +kernel)]; exact ⟨rfl, rfl⟩))
    (fun os started H enc _ => fleetTurns_lifted os started H enc)

end Go.Proofs.Ytpoooohaoekbaaa
