/- PlanShifts: whatever the input, the law returns true, and the input reads as it did. No condition. -/
import Derived.Test.YtffleanbfkjfiaaDoorRows
import Derived.Test.YtffleanbfkjfiaaDoorTie
import Derived.Test.YtffleanbfkjfiaaDoorCards
import Derived.Test.YtffleanbfkjfiaaDoorFpDoor
import Derived.Test.YtffleanbfkjfiaaDoorPlanShiftsW
import Derived.Test.YtffleanbfkjfiaaDoorPlanShiftsO
import Derived.Test.YtffleanbfkjfiaaDoorPlanShiftsL
import Derived.Test.YtffleanbfkjfiaaDoorFpBulk
import Derived.ProofKit
import Derived.LaidMore
import Derived.OpenShut
import Derived.Stop.Joined
import Derived.SevenTiedAt
import Derived.JoinedCond
namespace Go.Proofs.YtffleanbfkjfiaaDoor
open Go.ChangeShapes Go.WideShapes Go.ChangeAt Go.RowKit Go.Fp

theorem own_ : ownKnob Tryd.prog.godebug = none := by kernel_rfl
theorem laidOut_ : laidOutB Tryd.prog = true := by kernel_rfl

abbrev UB : (H : Type) → DataW H → Nat := fun H d => Rows.uptoBulk (H := H) d
theorem bulk_ : Bulk UB := by
  have all : ∀ (H : Type) (l : List (DataW H)), (l.map (fun d => Rows.uptoBulk d)).sum = Rows.uptoBulkAll l := by
    intro H l
    induction l with
    | nil => simp [Rows.uptoBulkAll]
    | cons x l ih => simp [Rows.uptoBulkAll, ih]
  refine ⟨?_, ?_, ?_, ?_⟩
  · intro H d
    cases d with
    | lit l => cases l <;> simp [Rows.uptoBulk]
    | nil => simp [Rows.uptoBulk]
    | ptr d => simp [Rows.uptoBulk]
    | slice elems spare => simp [Rows.uptoBulk]
    | agg parts => simp [Rows.uptoBulk]
    | iface t d => simp [Rows.uptoBulk]
    | map entries => simp [Rows.uptoBulk]
    | held h => simp [Rows.uptoBulk]
  · intro H elems spare
    simp only [Rows.uptoBulk]
    rw [all]
    omega
  · intro H parts
    simp only [Rows.uptoBulk]
    rw [all]
    omega
  · intro H l
    simp only [Rows.uptoBulk]
    omega

theorem stb25 : structB Tryd.prog 25 2 = true := by kernel_rfl
theorem stb29 : structB Tryd.prog 29 4 = true := by kernel_rfl
theorem OBApiTrain {W : World} : OpensB Tryd.prog W 29 RApiTrain szApiTrain UB := by
  intro H enc fuel cs x h
  obtain ⟨xs, m, hm, hx, hl, hxl, hf⟩ := struct_parts stb29 h
  rw [cel29] at hl
  match xs, hxl, hx, hf with
  | [y0, y1, y2, y3], _, hx, hf =>
    obtain ⟨v0, h0, z0⟩ := (OpensB.of bulk_ (Opens.int und3)) _ enc m _ _ (hf 0 3 0 1 fb29_0)
    obtain ⟨v1, h1, z1⟩ := (OpensB.of bulk_ (Opens.int und3)) _ enc m _ _ (hf 1 3 1 1 fb29_1)
    obtain ⟨v2, h2, z2⟩ := (OpensB.slice bulk_ und27 cel31 (by decide) (OpensB.of bulk_ OApiStop)) _ enc m _ _ (hf 2 27 2 1 fb29_2)
    obtain ⟨v3, h3, z3⟩ := (OpensB.slice bulk_ und23 cel33 (by decide) (OpensB.slice bulk_ und33 cel3 (by decide) (OpensB.of bulk_ (Opens.int und3)))) _ enc m _ _ (hf 3 23 3 1 fb29_3)
    match cs, hl with
    | [c0, c1, c2, c3], _ =>
      replace h0 : [c0] = [.int .i64 v0] := h0
      have e0 := h0
      simp only [List.cons.injEq, and_true] at e0
      subst e0
      replace h1 : [c1] = [.int .i64 v1] := h1
      have e1 := h1
      simp only [List.cons.injEq, and_true] at e1
      subst e1
      obtain ⟨a2_0, k2_0, e2, q2_0⟩ := h2
      replace e2 : [c2] = [.slice a2_0 v2.length k2_0] := e2
      simp only [List.cons.injEq, and_true] at e2
      subst e2
      obtain ⟨a3_0, k3_0, e3, q3_0⟩ := h3
      replace e3 : [c3] = [.slice a3_0 v3.length k3_0] := e3
      simp only [List.cons.injEq, and_true] at e3
      subst e3
      have hz := bulk_.agg H [y0.1, y1.1, y2.1, y3.1]
      simp only [List.map_cons, List.map_nil, List.sum_cons, List.sum_nil] at hz hx
      rw [← hx] at hz
      exact ⟨(ApiTrain.mk v0 v1 v2 v3), ⟨a2_0, k2_0, a3_0, k3_0, rfl, q2_0, q3_0⟩, by simp only [szApiTrain]; omega⟩
theorem OBApiDay {W : World} : OpensB Tryd.prog W 25 RApiDay szApiDay UB := by
  intro H enc fuel cs x h
  obtain ⟨xs, m, hm, hx, hl, hxl, hf⟩ := struct_parts stb25 h
  rw [cel25] at hl
  match xs, hxl, hx, hf with
  | [y0, y1], _, hx, hf =>
    obtain ⟨v0, h0, z0⟩ := (OpensB.slice bulk_ und22 cel29 (by decide) OBApiTrain) _ enc m _ _ (hf 0 22 0 1 fb25_0)
    obtain ⟨v1, h1, z1⟩ := (OpensB.slice bulk_ und23 cel33 (by decide) (OpensB.slice bulk_ und33 cel3 (by decide) (OpensB.of bulk_ (Opens.int und3)))) _ enc m _ _ (hf 1 23 1 1 fb25_1)
    match cs, hl with
    | [c0, c1], _ =>
      obtain ⟨a0_0, k0_0, e0, q0_0⟩ := h0
      replace e0 : [c0] = [.slice a0_0 v0.length k0_0] := e0
      simp only [List.cons.injEq, and_true] at e0
      subst e0
      obtain ⟨a1_0, k1_0, e1, q1_0⟩ := h1
      replace e1 : [c1] = [.slice a1_0 v1.length k1_0] := e1
      simp only [List.cons.injEq, and_true] at e1
      subst e1
      have hz := bulk_.agg H [y0.1, y1.1]
      simp only [List.map_cons, List.map_nil, List.sum_cons, List.sum_nil] at hz hx
      rw [← hx] at hz
      exact ⟨(ApiDay.mk v0 v1), ⟨a0_0, k0_0, a1_0, k1_0, rfl, q0_0, q1_0⟩, by simp only [szApiDay]; omega⟩
theorem door_met (os : Os) (args : Array Value) : laidMetH Tryd.prog Rows.planShiftsUptoRow.laid ((World.doorLaid Tryd.prog 4000 os).forCall (fun _ _ => 0) ⟨#[], args, []⟩).memory :=
  laidMetH_of_parts3 (fuel := 8) (laidMet_of_run' 8 (by kernel_rfl) (by kernel_rfl)) (by kernel_rfl) (by kernel_rfl)

set_option maxRecDepth 100000 in
theorem planShifts_lifted (os : Os) (started : os.Started) (H : Type) (enc : TypeId × Value → H) (F : Stop.Interp) :
    ReturnsInHanded {} Tryd.checked os 4 .any (fun w args => ((Rows.OpenSpec.upto Rows.planShiftsSpec).pre enc Tryd.prog Tryd.f4 [] false w args ∧ laidMetH Tryd.prog Rows.planShiftsUptoRow.laid w) ∧ sizedMet enc Tryd.prog Tryd.f4 (Rows.OpenSpec.upto Rows.planShiftsSpec) false w args) (((Rows.OpenSpec.upto Rows.planShiftsSpec).at F).post enc Tryd.prog Tryd.f4 false true false false) := by
  refine cond_and (C := Tryd.checked) (s := (Rows.OpenSpec.upto Rows.planShiftsSpec)) (k := Rows.uptoSmall) (X := fun w _ => laidMetH Tryd.prog Rows.planShiftsUptoRow.laid w) rfl (fun _ _ _ hh h => h.of_heap hh) own_ started (by kernel_rfl) Tryd.func4
    (cond_witness (enc := enc) (C := Tryd.checked) (os := os) (s := (Rows.OpenSpec.upto Rows.planShiftsSpec)) (k := Rows.uptoSmall) (X := fun w _ => laidMetH Tryd.prog Rows.planShiftsUptoRow.laid w) rfl false (World.doorLaid Tryd.prog 4000 os) #[.agg #[.slice none 0 0, .slice none 0 0], .int .i64 0, .int .i64 0, .int .i64 0] 8 rfl (World.shaped_of_RefB (by kernel_rfl) (by kernel_rfl)) (by kernel_rfl)
      (x := ([.agg [.nil, .nil], .lit (.int .i64 0), .lit (.int .i64 0), .lit (.int .i64 0)], [], [])) (by kernel_rfl) rfl (by kernel_rfl) (by kernel_rfl) (door_met os _)) ?_
  intro W base args ds gs before hval0 hW _ hk _ _
  have hW' := hW
  obtain ⟨p, q, hA0, hV, rfl, hfz, hnd⟩ := hW
  have hA : DataW.TrodAll enc Tryd.prog W 0 (fun _ => true) true Tryd.f4.params.toList args.toList ds p := hA0
  rw [Tryd.params4] at hA
  obtain ⟨v0, v1, v2, v3, d0, d1, d2, d3, p0, p1, p2, p3, rfl, rfl, rfl, g0, g1, g2, g3⟩ := trodAll_four hA
  obtain ⟨rfl, rfl⟩ := trodVars_none hV
  have hk2 := of_decide_eq_true hk
  simp only [List.append_nil, Rows.uptoBulkAll] at hk2
  obtain ⟨cs0, x0, rfl, h0, z0⟩ := arg_structB Tryd.underlying25 OBApiDay (hval0 0 25 v0 rfl rfl) g0
  obtain ⟨_, _, _, _, rfl, h0_0, h0_1⟩ := h0
  obtain ⟨x1, rfl, hx1⟩ := arg_int Tryd.underlying3 (hval0 1 3 v1 rfl rfl)
  obtain ⟨x2, rfl, hx2⟩ := arg_int Tryd.underlying3 (hval0 2 3 v2 rfl rfl)
  obtain ⟨x3, rfl, hx3⟩ := arg_int Tryd.underlying3 (hval0 3 3 v3 rfl rfl)
  obtain ⟨fu, hfu⟩ := PlanShifts_law x0 x1 x2 x3 h0_0.small h0_1.small hx1 hx2 hx3 (Nat.le_trans z0 (by show Rows.uptoBulk d0 ≤ _; omega))
  refine (Fishlaw2PlanShifts_ok (St.start W) h0_0 h0_1 hfu).mono fun e W' ⟨he, hS⟩ => ?_
  exact ⟨_, he, post_law laidOut_ hS hW' rfl ⟨rfl, rfl, rfl⟩ (by kernel_rfl) rfl und4⟩

theorem planShifts_row : Rows.PlanShiftsUptoSaid :=
  OpenClaim.holds_of_cond 4 Tryd.f4 rfl rfl rfl rfl rfl rfl rfl ⟨rfl, rfl, rfl, rfl, rfl⟩ rfl rfl rfl rfl rfl (by kernel_rfl) Tryd.func4 (by kernel_rfl)
    (of_decide_eq_true (by kernel_rfl)) (by unfold Func.isWrapper; first | (rw [if_pos (by decide +kernel)]; kernel_rfl) | (rw [if_neg (by decide +kernel)]; exact ⟨rfl, rfl⟩))
    (fun os started H enc _ F => planShifts_lifted os started H enc F)

theorem planShifts_holds : Rows.PlanShiftsUptoCardSaid :=
  Claim7.holds_tied_plain_at .later [] [.data, .data, .data] true (true, "d3a4c67aeee8ed1ebdebf69e164d022e27430029bf12bdcd2f4bc085eeb4547b") false
    planShifts_row (fun _ h => by cases h) (by kernel_rfl) (fun _ h => by cases h) planShiftsUpto_row_tie rfl ⟨rfl, rfl⟩ (by kernel_rfl) rfl
    (fun f fn hf hfn => by
      obtain rfl : f = 4 := Option.some.inj ((show Tryd.prog.funcNamed "fishplate/fishlaw2.PlanShifts" = some 4 by kernel_rfl).symm.trans hf) |>.symm
      obtain rfl : fn = Tryd.f4 := (Option.some.inj (Tryd.func4.symm.trans hfn)).symm
      exact ⟨by kernel_rfl, fun j t ht => by
        rw [Tryd.params4] at ht
        have hm : t ∈ [25, 3, 3, 3] := by simpa using Array.mem_of_getElem? ht
        have hall : ([25, 3, 3, 3].all fun u => !Tryd.prog.wantsStandIn u) = true := by kernel_rfl
        exact (show Tryd.prog.wantsStandIn t = false by simpa using List.all_eq_true.1 hall t hm)⟩)
    (by kernel_rfl)

end Go.Proofs.YtffleanbfkjfiaaDoor
