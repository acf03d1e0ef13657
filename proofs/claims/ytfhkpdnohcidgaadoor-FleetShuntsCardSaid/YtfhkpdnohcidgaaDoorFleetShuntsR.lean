/- FleetShunts: whatever the input, the law returns true, and the input reads as it did. No condition. -/
import Derived.Test.YtfhkpdnohcidgaaDoorRows
import Derived.Test.YtfhkpdnohcidgaaDoorTie
import Derived.Test.YtfhkpdnohcidgaaDoorCards
import Derived.Test.YtfhkpdnohcidgaaDoorFleetShuntsW
import Derived.Test.YtfhkpdnohcidgaaDoorFleetShuntsO
import Derived.Test.YtfhkpdnohcidgaaDoorFleetShuntsL
import Derived.ProofKit
import Derived.LaidMore
import Derived.OpenShut
import Derived.Stop.Joined
import Derived.SevenTiedAt
namespace Go.Proofs.YtfhkpdnohcidgaaDoor
open Go.ChangeShapes Go.WideShapes Go.ChangeAt Go.RowKit Go.Fp

theorem own_ : ownKnob Tryd.prog.godebug = none := by kernel_rfl
theorem laidOut_ : laidOutB Tryd.prog = true := by kernel_rfl

theorem door_met (os : Os) (args : Array Value) : laidMetH Tryd.prog Rows.fleetShuntsRow.laid ((World.doorLaid Tryd.prog 4000 os).forCall (fun _ _ => 0) ⟨#[], args, []⟩).memory :=
  laidMetH_of_parts3 (fuel := 8) (laidMet_of_run' 8 (by kernel_rfl) (by kernel_rfl)) (by kernel_rfl) (by kernel_rfl)

set_option maxRecDepth 100000 in
theorem fleetShunts_lifted (os : Os) (started : os.Started) (H : Type) (enc : TypeId × Value → H) :
    ReturnsInHanded {} Tryd.checked os 3 .any (fun w args => (Rows.fleetShuntsSpec.pre enc Tryd.prog Tryd.f3 [] false w args ∧ laidMetH Tryd.prog Rows.fleetShuntsRow.laid w) ∧ sizedMet enc Tryd.prog Tryd.f3 (OpenSpec.ofChange Rows.fleetShuntsSpec) false w args) (Rows.fleetShuntsSpec.post enc Tryd.prog Tryd.f3 false true false false) := by
  refine returnsInHanded_of_change_and (C := Tryd.checked) (X := fun w _ => laidMetH Tryd.prog Rows.fleetShuntsRow.laid w) (fun _ _ _ hh h => h.of_heap hh) own_ started (by kernel_rfl) Tryd.func3
    (ChangeSpec.witness_shaped (enc := enc) (C := Tryd.checked) (os := os) (X := fun w _ => laidMetH Tryd.prog Rows.fleetShuntsRow.laid w) false (World.doorLaid Tryd.prog 4000 os) #[.agg #[.slice none 0 0, .slice none 0 0], .slice none 0 0, .slice none 0 0] 8 rfl (World.shaped_of_RefB (by kernel_rfl) (by kernel_rfl)) (by kernel_rfl) (by kernel_rfl) (by kernel_rfl) (door_met os _)) ?_
  intro W base args ds gs before hval0 hW _ _ _ _
  have hW' := hW
  obtain ⟨p, q, hA0, hV, rfl, hfz, hnd⟩ := hW
  have hA : DataW.TrodAll enc Tryd.prog W 0 (fun _ => true) true Tryd.f3.params.toList args.toList ds p := hA0
  rw [Tryd.params3] at hA
  obtain ⟨v0, v1, v2, d0, d1, d2, p0, p1, p2, rfl, rfl, rfl, g0, g1, g2⟩ := trodAll_three hA
  obtain ⟨rfl, rfl⟩ := trodVars_none hV
  obtain ⟨cs0, x0, rfl, h0⟩ := arg_struct Tryd.underlying25 OFleetDepot (hval0 0 25 v0 rfl rfl) g0
  obtain ⟨_, _, _, _, rfl, h0_0, h0_1⟩ := h0
  obtain ⟨a1, c1, x1, rfl, h1⟩ := arg_slice und22 (Opens.slice und22 cel3 (by decide) (Opens.int und3)) (hval0 1 22 v1 rfl rfl) g1
  obtain ⟨a2, c2, x2, rfl, h2⟩ := arg_slice und22 (Opens.slice und22 cel3 (by decide) (Opens.int und3)) (hval0 2 22 v2 rfl rfl) g2
  obtain ⟨fu, hfu⟩ := FleetShunts_law x0 x1 x2 h0_0.small h0_1.small h1.small h2.small
  refine (Fishlaw2FleetShunts_ok (St.start W) h0_0 h0_1 h1 h2 hfu).mono fun e W' ⟨he, hS⟩ => ?_
  exact ⟨_, he, post_law laidOut_ hS hW' rfl ⟨rfl, rfl, rfl⟩ (by kernel_rfl) rfl und4⟩

theorem fleetShunts_row : Rows.FleetShuntsSaid :=
  OpenClaim.holds_of_wide 3 Tryd.f3 rfl rfl rfl rfl rfl rfl rfl ⟨rfl, rfl, rfl, rfl, rfl⟩ rfl rfl rfl rfl rfl (by kernel_rfl) Tryd.func3 (by kernel_rfl)
    (of_decide_eq_true (by kernel_rfl)) (by unfold Func.isWrapper; first | (rw [if_pos (by decide +kernel)]; kernel_rfl) | (rw [if_neg (by decide +kernel)]; exact ⟨rfl, rfl⟩))
    (fun os started H enc _ => fleetShunts_lifted os started H enc)

theorem fleetShunts_holds : Rows.FleetShuntsCardSaid :=
  Claim7.holds_tied_plain_at .later [] [.data, .data, .data] true (true, "7f72cb356869a12865deaef9e6856f8131e190f7af4f7133b53d791bdb34a2bd") false
    fleetShunts_row (fun _ h => by cases h) (by kernel_rfl) (fun _ h => by cases h) fleetShunts_row_tie rfl ⟨rfl, rfl⟩ (by kernel_rfl) rfl
    (fun f fn hf hfn => by
      obtain rfl : f = 3 := Option.some.inj ((show Tryd.prog.funcNamed "fishplate/fishlaw2.FleetShunts" = some 3 by kernel_rfl).symm.trans hf) |>.symm
      obtain rfl : fn = Tryd.f3 := (Option.some.inj (Tryd.func3.symm.trans hfn)).symm
      exact ⟨by kernel_rfl, fun j t ht => by
        rw [Tryd.params3] at ht
        have hm : t ∈ [25, 22, 22] := by simpa using Array.mem_of_getElem? ht
        have hall : ([25, 22, 22].all fun u => !Tryd.prog.wantsStandIn u) = true := by kernel_rfl
        exact (show Tryd.prog.wantsStandIn t = false by simpa using List.all_eq_true.1 hall t hm)⟩)
    (by kernel_rfl)

end Go.Proofs.YtfhkpdnohcidgaaDoor
