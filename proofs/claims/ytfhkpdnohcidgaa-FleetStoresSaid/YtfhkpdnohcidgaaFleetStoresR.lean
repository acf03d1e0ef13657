/- FleetStores: whatever the input, the law returns true, and the input reads as it did. No condition. -/
import Derived.Test.YtfhkpdnohcidgaaRows
import Derived.Test.YtfhkpdnohcidgaaFleetStoresW
import Derived.Test.YtfhkpdnohcidgaaFleetStoresO
import Derived.Test.YtfhkpdnohcidgaaFleetStoresL
import Derived.ProofKit
namespace Go.Proofs.Ytfhkpdnohcidgaa
open Go.ChangeShapes Go.WideShapes Go.ChangeAt Go.RowKit Go.Fp

theorem own_ : ownKnob Try.prog.godebug = none := by kernel_rfl
theorem laidOut_ : laidOutB Try.prog = true := by kernel_rfl

set_option maxRecDepth 100000 in
theorem fleetStores_lifted (os : Os) (started : os.Started) (H : Type) (enc : TypeId × Value → H) :
    ReturnsInHanded {} Try.checked os 7 .any (Rows.fleetStoresSpec.pre6 enc Try.prog Try.f7 Rows.fleetStoresRow.domain false) (Rows.fleetStoresSpec.post enc Try.prog Try.f7 false true false false) := by
  refine returnsInHanded_of_change (C := Try.checked) own_ started (by kernel_rfl) Try.func7
    (ChangeSpec.witness6 (enc := enc) (C := Try.checked) false ⟨#[], #[.slice none 0 0, .slice none 0 0], []⟩ 8 (by kernel_rfl) (by kernel_rfl) (by kernel_rfl) (by kernel_rfl)) ?_
  intro W base args ds gs before hval0 hW hcnd _
  have hW' := hW
  obtain ⟨p, q, hA0, hV, rfl, hfz, hnd⟩ := hW
  have hA : DataW.TrodAll enc Try.prog W 0 (fun _ => true) true Try.f7.params.toList args.toList ds p := hA0
  rw [Try.params7] at hA
  obtain ⟨v0, v1, d0, d1, p0, p1, rfl, rfl, rfl, g0, g1⟩ := trodAll_two hA
  obtain ⟨rfl, rfl⟩ := trodVars_none hV
  obtain ⟨a0, c0, x0, rfl, h0⟩ := arg_slice und44 (Opens.slice und44 cel3 (by decide) (Opens.int und3)) (hval0 0 44 v0 rfl rfl) g0
  obtain ⟨a1, c1, x1, rfl, h1⟩ := arg_slice und53 (Opens.slice und53 cel105 (by decide) OFleetStay) (hval0 1 53 v1 rfl rfl) g1
  obtain ⟨fu, hfu⟩ := FleetStores_law x0 x1 h0.small h1.small
  refine (Fishlaw2FleetStores_ok (St.start W) h0 h1 hfu).mono fun e W' ⟨he, hS⟩ => ?_
  exact ⟨_, he, post_law laidOut_ hS hW' rfl ⟨rfl, rfl, rfl⟩ (by kernel_rfl) rfl und4⟩

theorem fleetStores_holds : Rows.FleetStoresSaid :=
  OpenClaim.holds_of_wide 7 Try.f7 rfl rfl rfl rfl rfl rfl rfl ⟨rfl, rfl, rfl, rfl, rfl⟩ rfl rfl rfl rfl rfl (by kernel_rfl) Try.func7 (by kernel_rfl)
    (of_decide_eq_true (by kernel_rfl)) (by unfold Func.isWrapper; first | (rw [if_pos (by decide +kernel)]; kernel_rfl) | (rw [if_neg (by decide +kernel)]; exact ⟨rfl, rfl⟩))
    (fun os started H enc _ => fleetStores_lifted os started H enc)

end Go.Proofs.Ytfhkpdnohcidgaa
