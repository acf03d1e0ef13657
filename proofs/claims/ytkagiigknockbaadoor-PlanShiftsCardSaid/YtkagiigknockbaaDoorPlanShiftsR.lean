/- PlanShifts: whatever the input, the law returns true, and the input reads as it did. No condition. -/
import Derived.Test.YtkagiigknockbaaDoorRows
import Derived.Test.YtkagiigknockbaaDoorTie
import Derived.Test.YtkagiigknockbaaDoorCards
import Derived.Test.YtkagiigknockbaaDoorPlanShiftsW
import Derived.Test.YtkagiigknockbaaDoorPlanShiftsO
import Derived.Test.YtkagiigknockbaaDoorPlanShiftsL
import Derived.Test.YtkagiigknockbaaDoorFpReach
import Derived.ProofKit
import Derived.LaidMore
import Derived.OpenShut
import Derived.Stop.Joined
import Derived.SevenTiedAt
namespace Go.Proofs.YtkagiigknockbaaDoor
open Go.ChangeShapes Go.WideShapes Go.ChangeAt Go.RowKit Go.Fp

theorem own_ : ownKnob Tryd.prog.godebug = none := by kernel_rfl
theorem laidOut_ : laidOutB Tryd.prog = true := by kernel_rfl

theorem door_met (os : Os) (args : Array Value) : laidMetH Tryd.prog Rows.planShiftsRow.laid ((World.doorLaid Tryd.prog 4000 os).forCall (fun _ _ => 0) ⟨#[], args, []⟩).memory :=
  laidMetH_of_parts3 (fuel := 8) (laidMet_of_run' 8 (by kernel_rfl) (by kernel_rfl)) (by kernel_rfl) (by kernel_rfl)

theorem OWApiTrain {W : World} : OpensW Tryd.prog W 37 RApiTrain (fun t => (t.Stops.length * 32 ≤ reachBytes ∧ ∀ x ∈ t.Stops, True) ∧ (t.Legs.length * 24 ≤ reachBytes ∧ ∀ x ∈ t.Legs, x.length * 8 ≤ reachBytes ∧ ∀ y ∈ x, True)) := by
  intro H enc fuel cs x h hw
  obtain ⟨hl, v0, h0⟩ := Opens.field fb37_0 (Opens.int und3) h
  obtain ⟨_, v1, h1⟩ := Opens.field fb37_1 (Opens.int und3) h
  obtain ⟨_, v2, h2, r2⟩ := OpensW.field fb37_2 (OpensW.slice und35 cel41 (by decide) (kk := 32) (by kernel_rfl) (OpensW.of OApiStop)) h hw
  obtain ⟨_, v3, h3, r3⟩ := OpensW.field fb37_3 (OpensW.slice und23 cel47 (by decide) (kk := 24) (by kernel_rfl) (OpensW.slice und47 cel3 (by decide) (kk := 8) (by kernel_rfl) (OpensW.of (Opens.int und3)))) h hw
  rw [cel37] at hl
  match cs, hl with
  | [c0, c1, c2, c3], _ =>
    replace h0 : [c0] = [.int .i64 v0] := h0
    have e0 := h0
    simp only [List.cons.injEq, and_true] at e0
    subst e0
    replace h1 : [c1] = [.int .i64 v1] := h1
    have e1 := h1
    simp only [List.cons.injEq, and_true] at e1
    subst e1
    obtain ⟨a2_0, k2_0, e2, q2_0⟩ := h2
    replace e2 : [c2] = [.slice a2_0 v2.length k2_0] := e2
    simp only [List.cons.injEq, and_true] at e2
    subst e2
    obtain ⟨a3_0, k3_0, e3, q3_0⟩ := h3
    replace e3 : [c3] = [.slice a3_0 v3.length k3_0] := e3
    simp only [List.cons.injEq, and_true] at e3
    subst e3
    exact ⟨(ApiTrain.mk v0 v1 v2 v3), ⟨a2_0, k2_0, a3_0, k3_0, rfl, q2_0, q3_0⟩, r2, r3⟩
theorem OWApiDay {W : World} : OpensW Tryd.prog W 25 RApiDay (fun d => (d.Trains.length * 64 ≤ reachBytes ∧ ∀ t ∈ d.Trains, (t.Stops.length * 32 ≤ reachBytes ∧ ∀ x ∈ t.Stops, True) ∧ (t.Legs.length * 24 ≤ reachBytes ∧ ∀ x ∈ t.Legs, x.length * 8 ≤ reachBytes ∧ ∀ y ∈ x, True)) ∧ (d.Turns.length * 24 ≤ reachBytes ∧ ∀ x ∈ d.Turns, x.length * 8 ≤ reachBytes ∧ ∀ y ∈ x, True)) := by
  intro H enc fuel cs x h hw
  obtain ⟨hl, v0, h0, r0⟩ := OpensW.field fb25_0 (OpensW.slice und22 cel37 (by decide) (kk := 64) (by kernel_rfl) OWApiTrain) h hw
  obtain ⟨_, v1, h1, r1⟩ := OpensW.field fb25_1 (OpensW.slice und23 cel47 (by decide) (kk := 24) (by kernel_rfl) (OpensW.slice und47 cel3 (by decide) (kk := 8) (by kernel_rfl) (OpensW.of (Opens.int und3)))) h hw
  rw [cel25] at hl
  match cs, hl with
  | [c0, c1], _ =>
    obtain ⟨a0_0, k0_0, e0, q0_0⟩ := h0
    replace e0 : [c0] = [.slice a0_0 v0.length k0_0] := e0
    simp only [List.cons.injEq, and_true] at e0
    subst e0
    obtain ⟨a1_0, k1_0, e1, q1_0⟩ := h1
    replace e1 : [c1] = [.slice a1_0 v1.length k1_0] := e1
    simp only [List.cons.injEq, and_true] at e1
    subst e1
    exact ⟨(ApiDay.mk v0 v1), ⟨a0_0, k0_0, a1_0, k1_0, rfl, q0_0, q1_0⟩, r0, r1⟩
set_option maxRecDepth 100000 in
theorem planShifts_lifted (os : Os) (started : os.Started) (H : Type) (enc : TypeId × Value → H) :
    ReturnsInHanded {} Tryd.checked os 3 .any (fun w args => (Rows.planShiftsSpec.pre enc Tryd.prog Tryd.f3 [] false w args ∧ laidMetH Tryd.prog Rows.planShiftsRow.laid w) ∧ sizedMet enc Tryd.prog Tryd.f3 (OpenSpec.ofChange Rows.planShiftsSpec) false w args) (Rows.planShiftsSpec.post enc Tryd.prog Tryd.f3 false true false false) := by
  refine returnsInHanded_of_change_and (C := Tryd.checked) (X := fun w _ => laidMetH Tryd.prog Rows.planShiftsRow.laid w) (fun _ _ _ hh h => h.of_heap hh) own_ started (by kernel_rfl) Tryd.func3
    (ChangeSpec.witness_shaped (enc := enc) (C := Tryd.checked) (os := os) (X := fun w _ => laidMetH Tryd.prog Rows.planShiftsRow.laid w) false (World.doorLaid Tryd.prog 4000 os) #[.agg #[.slice none 0 0, .slice none 0 0], .int .i64 0, .int .i64 0, .int .i64 0] 8 rfl (World.shaped_of_RefB (by kernel_rfl) (by kernel_rfl)) (by kernel_rfl) (by kernel_rfl) (by kernel_rfl) (door_met os _)) ?_
  intro W base args ds gs before hval0 hW _ hwt _ _
  have hW' := hW
  obtain ⟨p, q, hA0, hV, rfl, hfz, hnd⟩ := hW
  have hA : DataW.TrodAll enc Tryd.prog W 0 (fun _ => true) true Tryd.f3.params.toList args.toList ds p := hA0
  rw [Tryd.params3] at hA
  obtain ⟨v0, v1, v2, v3, d0, d1, d2, d3, p0, p1, p2, p3, rfl, rfl, rfl, g0, g1, g2, g3⟩ := trodAll_four hA
  obtain ⟨rfl, rfl⟩ := trodVars_none hV
  have hw0 := weights_head (P := Tryd.prog) hwt
  obtain ⟨cs0, x0, rfl, h0, h0r⟩ := arg_structW Tryd.underlying25 OWApiDay (hval0 0 25 v0 rfl rfl) g0 hw0
  obtain ⟨_, _, _, _, rfl, h0_0, h0_1⟩ := h0
  obtain ⟨x1, rfl, hx1⟩ := arg_int Tryd.underlying3 (hval0 1 3 v1 rfl rfl)
  obtain ⟨x2, rfl, hx2⟩ := arg_int Tryd.underlying3 (hval0 2 3 v2 rfl rfl)
  obtain ⟨x3, rfl, hx3⟩ := arg_int Tryd.underlying3 (hval0 3 3 v3 rfl rfl)
  obtain ⟨fu, hfu⟩ := PlanShifts_law x0 x1 x2 x3 h0_0.small h0_1.small hx1 hx2 hx3 (fine_reach h0r)
  refine (Fishlaw2PlanShifts_ok (St.start W) h0_0 h0_1 hfu).mono fun e W' ⟨he, hS⟩ => ?_
  exact ⟨_, he, post_law laidOut_ hS hW' rfl ⟨rfl, rfl, rfl⟩ (by kernel_rfl) rfl und4⟩

theorem planShifts_row : Rows.PlanShiftsSaid :=
  OpenClaim.holds_of_wide 3 Tryd.f3 rfl rfl rfl rfl rfl rfl rfl ⟨rfl, rfl, rfl, rfl, rfl⟩ rfl rfl rfl rfl rfl (by kernel_rfl) Tryd.func3 (by kernel_rfl)
    (of_decide_eq_true (by kernel_rfl)) (by unfold Func.isWrapper; first | (rw [if_pos (by decide +kernel)]; kernel_rfl) | (rw [if_neg (by decide +kernel)]; exact ⟨rfl, rfl⟩))
    (fun os started H enc _ => planShifts_lifted os started H enc)

theorem planShifts_holds : Rows.PlanShiftsCardSaid :=
  Claim7.holds_tied_plain_at .later [] [.data, .data, .data] true (true, "e8300d0624b990daa9e3047e060de2048dedccc1dd0128ea1433b5784ade79c6") false
    planShifts_row (fun _ h => by cases h) (by kernel_rfl) (fun _ h => by cases h) planShifts_row_tie rfl ⟨rfl, rfl⟩ (by kernel_rfl) rfl
    (fun f fn hf hfn => by
      obtain rfl : f = 3 := Option.some.inj ((show Tryd.prog.funcNamed "fishplate/fishlaw2.PlanShifts" = some 3 by kernel_rfl).symm.trans hf) |>.symm
      obtain rfl : fn = Tryd.f3 := (Option.some.inj (Tryd.func3.symm.trans hfn)).symm
      exact ⟨by kernel_rfl, fun j t ht => by
        rw [Tryd.params3] at ht
        have hm : t ∈ [25, 3, 3, 3] := by simpa using Array.mem_of_getElem? ht
        have hall : ([25, 3, 3, 3].all fun u => !Tryd.prog.wantsStandIn u) = true := by kernel_rfl
        exact (show Tryd.prog.wantsStandIn t = false by simpa using List.all_eq_true.1 hall t hm)⟩)
    (by kernel_rfl)

end Go.Proofs.YtkagiigknockbaaDoor
