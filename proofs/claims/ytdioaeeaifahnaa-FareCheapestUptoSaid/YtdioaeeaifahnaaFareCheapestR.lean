/- FareCheapest: whatever the input, the law returns true, and the input reads as it did. No condition. -/
import Derived.Test.YtdioaeeaifahnaaRows
import Derived.Test.YtdioaeeaifahnaaFareCheapestW
import Derived.Test.YtdioaeeaifahnaaFareCheapestO
import Derived.Test.YtdioaeeaifahnaaFareCheapestL
import Derived.Test.YtdioaeeaifahnaaFpBulk
import Derived.ProofKit
import Derived.JoinedCond
namespace Go.Proofs.Ytdioaeeaifahnaa
open Go.ChangeShapes Go.WideShapes Go.ChangeAt Go.RowKit Go.Fp

theorem own_ : ownKnob Try.prog.godebug = none := by kernel_rfl
theorem laidOut_ : laidOutB Try.prog = true := by kernel_rfl

abbrev UB : (H : Type) → DataW H → Nat := fun H d => Rows.uptoBulk (H := H) d
theorem bulk_ : Bulk UB := by
  have all : ∀ (H : Type) (l : List (DataW H)), (l.map (fun d => Rows.uptoBulk d)).sum = Rows.uptoBulkAll l := by
    intro H l
    induction l with
    | nil => simp [Rows.uptoBulkAll]
    | cons x l ih => simp [Rows.uptoBulkAll, ih]
  refine ⟨?_, ?_, ?_, ?_⟩
  · intro H d
    cases d with
    | lit l => cases l <;> simp [Rows.uptoBulk]
    | nil => simp [Rows.uptoBulk]
    | ptr d => simp [Rows.uptoBulk]
    | slice elems spare => simp [Rows.uptoBulk]
    | agg parts => simp [Rows.uptoBulk]
    | iface t d => simp [Rows.uptoBulk]
    | map entries => simp [Rows.uptoBulk]
    | held h => simp [Rows.uptoBulk]
  · intro H elems spare
    simp only [Rows.uptoBulk]
    rw [all]
    omega
  · intro H parts
    simp only [Rows.uptoBulk]
    rw [all]
    omega
  · intro H l
    simp only [Rows.uptoBulk]
    omega

theorem stb111 : structB Try.prog 111 4 = true := by kernel_rfl
theorem stb113 : structB Try.prog 113 4 = true := by kernel_rfl
theorem stb25 : structB Try.prog 25 4 = true := by kernel_rfl
theorem stb93 : structB Try.prog 93 6 = true := by kernel_rfl
theorem stb97 : structB Try.prog 97 3 = true := by kernel_rfl
theorem OBFareCond {W : World} : OpensB Try.prog W 111 RFareCond szFareCond UB := OpensBN.all fun N => by
  induction N with
  | zero => exact OpensBN.zero
  | succ N ih =>
    intro H enc fuel cs x hF h
    obtain ⟨xs, m, hm, hx, hl, hxl, hf⟩ := struct_parts stb111 h
    rw [cel111] at hl
    match xs, hxl, hx, hf with
    | [y0, y1, y2, y3], _, hx, hf =>
      obtain ⟨v0, h0, z0⟩ := (OpensB.of bulk_ (Opens.int und3)) _ enc m _ _ (hf 0 3 0 1 fb111_0)
      obtain ⟨v1, h1, z1⟩ := (OpensB.of bulk_ (Opens.int und3)) _ enc m _ _ (hf 1 3 1 1 fb111_1)
      obtain ⟨v2, h2, z2⟩ := (OpensB.of bulk_ (Opens.int und3)) _ enc m _ _ (hf 2 3 2 1 fb111_2)
      obtain ⟨v3, h3, z3⟩ := (OpensBN.slice bulk_ und109 cel111 (by decide) ih) _ enc m _ _ (by omega) (hf 3 109 3 1 fb111_3)
      match cs, hl with
      | [c0, c1, c2, c3], _ =>
        replace h0 : [c0] = [.int .i64 v0] := h0
        have e0 := h0
        simp only [List.cons.injEq, and_true] at e0
        subst e0
        replace h1 : [c1] = [.int .i64 v1] := h1
        have e1 := h1
        simp only [List.cons.injEq, and_true] at e1
        subst e1
        replace h2 : [c2] = [.int .i64 v2] := h2
        have e2 := h2
        simp only [List.cons.injEq, and_true] at e2
        subst e2
        obtain ⟨a3_0, k3_0, e3, q3_0⟩ := h3
        replace e3 : [c3] = [.slice a3_0 v3.length k3_0] := e3
        simp only [List.cons.injEq, and_true] at e3
        subst e3
        have hz := bulk_.agg H [y0.1, y1.1, y2.1, y3.1]
        simp only [List.map_cons, List.map_nil, List.sum_cons, List.sum_nil] at hz hx
        rw [← hx] at hz
        exact ⟨(FareCond.mk v0 v1 v2 v3), RFareCond.fold ⟨a3_0, k3_0, rfl, q3_0⟩, by have hs_ := szsFareCond_eq v3; simp only [szFareCond]; omega⟩
theorem OBFareRule {W : World} : OpensB Try.prog W 113 RFareRule szFareRule UB := by
  intro H enc fuel cs x h
  obtain ⟨xs, m, hm, hx, hl, hxl, hf⟩ := struct_parts stb113 h
  rw [cel113] at hl
  match xs, hxl, hx, hf with
  | [y0, y1, y2, y3], _, hx, hf =>
    obtain ⟨v0, h0, z0⟩ := OBFareCond _ enc m _ _ (hf 0 111 0 4 fb113_0)
    obtain ⟨v1, h1, z1⟩ := (OpensB.of bulk_ (Opens.int und3)) _ enc m _ _ (hf 1 3 4 1 fb113_1)
    obtain ⟨v2, h2, z2⟩ := (OpensB.of bulk_ (Opens.int und3)) _ enc m _ _ (hf 2 3 5 1 fb113_2)
    obtain ⟨v3, h3, z3⟩ := (OpensB.of bulk_ (Opens.bool und4)) _ enc m _ _ (hf 3 4 6 1 fb113_3)
    match cs, hl with
    | [c0, c1, c2, c3, c4, c5, c6], _ =>
      obtain ⟨a0_0, k0_0, e0, q0_0⟩ := h0.unf
      replace e0 : [c0, c1, c2, c3] = [.int .i64 v0.Kind, .int .i64 v0.A, .int .i64 v0.B, .slice a0_0 v0.Kids.length k0_0] := e0
      simp only [List.cons.injEq, and_true] at e0
      obtain ⟨rfl, rfl, rfl, rfl⟩ := e0
      replace h1 : [c4] = [.int .i64 v1] := h1
      have e1 := h1
      simp only [List.cons.injEq, and_true] at e1
      subst e1
      replace h2 : [c5] = [.int .i64 v2] := h2
      have e2 := h2
      simp only [List.cons.injEq, and_true] at e2
      subst e2
      replace h3 : [c6] = [.bool v3] := h3
      have e3 := h3
      simp only [List.cons.injEq, and_true] at e3
      subst e3
      have hz := bulk_.agg H [y0.1, y1.1, y2.1, y3.1]
      simp only [List.map_cons, List.map_nil, List.sum_cons, List.sum_nil] at hz hx
      rw [← hx] at hz
      exact ⟨(FareRule.mk v0 v1 v2 v3), ⟨a0_0, k0_0, rfl, q0_0⟩, by simp only [szFareRule]; omega⟩
theorem OBFareTariff {W : World} : OpensB Try.prog W 25 RFareTariff szFareTariff UB := by
  intro H enc fuel cs x h
  obtain ⟨xs, m, hm, hx, hl, hxl, hf⟩ := struct_parts stb25 h
  rw [cel25] at hl
  match xs, hxl, hx, hf with
  | [y0, y1, y2, y3], _, hx, hf =>
    obtain ⟨v0, h0, z0⟩ := (OpensB.of bulk_ (Opens.bool und4)) _ enc m _ _ (hf 0 4 0 1 fb25_0)
    obtain ⟨v1, h1, z1⟩ := (OpensB.slice bulk_ und22 cel108 (by decide) (OpensB.of bulk_ OFareBand)) _ enc m _ _ (hf 1 22 1 1 fb25_1)
    obtain ⟨v2, h2, z2⟩ := (OpensB.of bulk_ (Opens.int und3)) _ enc m _ _ (hf 2 3 2 1 fb25_2)
    obtain ⟨v3, h3, z3⟩ := (OpensB.slice bulk_ und23 cel113 (by decide) OBFareRule) _ enc m _ _ (hf 3 23 3 1 fb25_3)
    match cs, hl with
    | [c0, c1, c2, c3], _ =>
      replace h0 : [c0] = [.bool v0] := h0
      have e0 := h0
      simp only [List.cons.injEq, and_true] at e0
      subst e0
      obtain ⟨a1_0, k1_0, e1, q1_0⟩ := h1
      replace e1 : [c1] = [.slice a1_0 v1.length k1_0] := e1
      simp only [List.cons.injEq, and_true] at e1
      subst e1
      replace h2 : [c2] = [.int .i64 v2] := h2
      have e2 := h2
      simp only [List.cons.injEq, and_true] at e2
      subst e2
      obtain ⟨a3_0, k3_0, e3, q3_0⟩ := h3
      replace e3 : [c3] = [.slice a3_0 v3.length k3_0] := e3
      simp only [List.cons.injEq, and_true] at e3
      subst e3
      have hz := bulk_.agg H [y0.1, y1.1, y2.1, y3.1]
      simp only [List.map_cons, List.map_nil, List.sum_cons, List.sum_nil] at hz hx
      rw [← hx] at hz
      exact ⟨(FareTariff.mk v0 v1 v2 v3), ⟨a1_0, k1_0, a3_0, k3_0, rfl, q1_0, q3_0⟩, by simp only [szFareTariff]; omega⟩
theorem OBFareTrip {W : World} : OpensB Try.prog W 93 RFareTrip szFareTrip UB := by
  intro H enc fuel cs x h
  obtain ⟨xs, m, hm, hx, hl, hxl, hf⟩ := struct_parts stb93 h
  rw [cel93] at hl
  match xs, hxl, hx, hf with
  | [y0, y1, y2, y3, y4, y5], _, hx, hf =>
    obtain ⟨v0, h0, z0⟩ := (OpensB.of bulk_ (Opens.int und3)) _ enc m _ _ (hf 0 3 0 1 fb93_0)
    obtain ⟨v1, h1, z1⟩ := (OpensB.of bulk_ (Opens.int und3)) _ enc m _ _ (hf 1 3 1 1 fb93_1)
    obtain ⟨v2, h2, z2⟩ := (OpensB.of bulk_ (Opens.int und3)) _ enc m _ _ (hf 2 3 2 1 fb93_2)
    obtain ⟨v3, h3, z3⟩ := (OpensB.of bulk_ (Opens.int und3)) _ enc m _ _ (hf 3 3 3 1 fb93_3)
    obtain ⟨v4, h4, z4⟩ := (OpensB.of bulk_ (Opens.bool und4)) _ enc m _ _ (hf 4 4 4 1 fb93_4)
    obtain ⟨v5, h5, z5⟩ := (OpensB.slice bulk_ und41 cel3 (by decide) (OpensB.of bulk_ (Opens.int und3))) _ enc m _ _ (hf 5 41 5 1 fb93_5)
    match cs, hl with
    | [c0, c1, c2, c3, c4, c5], _ =>
      replace h0 : [c0] = [.int .i64 v0] := h0
      have e0 := h0
      simp only [List.cons.injEq, and_true] at e0
      subst e0
      replace h1 : [c1] = [.int .i64 v1] := h1
      have e1 := h1
      simp only [List.cons.injEq, and_true] at e1
      subst e1
      replace h2 : [c2] = [.int .i64 v2] := h2
      have e2 := h2
      simp only [List.cons.injEq, and_true] at e2
      subst e2
      replace h3 : [c3] = [.int .i64 v3] := h3
      have e3 := h3
      simp only [List.cons.injEq, and_true] at e3
      subst e3
      replace h4 : [c4] = [.bool v4] := h4
      have e4 := h4
      simp only [List.cons.injEq, and_true] at e4
      subst e4
      obtain ⟨a5_0, k5_0, e5, q5_0⟩ := h5
      replace e5 : [c5] = [.slice a5_0 v5.length k5_0] := e5
      simp only [List.cons.injEq, and_true] at e5
      subst e5
      have hz := bulk_.agg H [y0.1, y1.1, y2.1, y3.1, y4.1, y5.1]
      simp only [List.map_cons, List.map_nil, List.sum_cons, List.sum_nil] at hz hx
      rw [← hx] at hz
      exact ⟨(FareTrip.mk v0 v1 v2 v3 v4 v5), ⟨a5_0, k5_0, rfl, q5_0⟩, by simp only [szFareTrip]; omega⟩
theorem OBFarePass {W : World} : OpensB Try.prog W 97 RFarePass szFarePass UB := by
  intro H enc fuel cs x h
  obtain ⟨xs, m, hm, hx, hl, hxl, hf⟩ := struct_parts stb97 h
  rw [cel97] at hl
  match xs, hxl, hx, hf with
  | [y0, y1, y2], _, hx, hf =>
    obtain ⟨v0, h0, z0⟩ := (OpensB.of bulk_ (Opens.int und3)) _ enc m _ _ (hf 0 3 0 1 fb97_0)
    obtain ⟨v1, h1, z1⟩ := (OpensB.of bulk_ (Opens.int und3)) _ enc m _ _ (hf 1 3 1 1 fb97_1)
    obtain ⟨v2, h2, z2⟩ := (OpensB.slice bulk_ und41 cel3 (by decide) (OpensB.of bulk_ (Opens.int und3))) _ enc m _ _ (hf 2 41 2 1 fb97_2)
    match cs, hl with
    | [c0, c1, c2], _ =>
      replace h0 : [c0] = [.int .i64 v0] := h0
      have e0 := h0
      simp only [List.cons.injEq, and_true] at e0
      subst e0
      replace h1 : [c1] = [.int .i64 v1] := h1
      have e1 := h1
      simp only [List.cons.injEq, and_true] at e1
      subst e1
      obtain ⟨a2_0, k2_0, e2, q2_0⟩ := h2
      replace e2 : [c2] = [.slice a2_0 v2.length k2_0] := e2
      simp only [List.cons.injEq, and_true] at e2
      subst e2
      have hz := bulk_.agg H [y0.1, y1.1, y2.1]
      simp only [List.map_cons, List.map_nil, List.sum_cons, List.sum_nil] at hz hx
      rw [← hx] at hz
      exact ⟨(FarePass.mk v0 v1 v2), ⟨a2_0, k2_0, rfl, q2_0⟩, by simp only [szFarePass]; omega⟩
set_option maxRecDepth 100000 in
theorem fareCheapest_lifted (os : Os) (started : os.Started) (H : Type) (enc : TypeId × Value → H) (F : Stop.Interp) :
    ReturnsInHanded {} Try.checked os 3 .any ((Rows.OpenSpec.upto Rows.fareCheapestSpec).pre6 enc Try.prog Try.f3 Rows.fareCheapestUptoRow.domain false) (((Rows.OpenSpec.upto Rows.fareCheapestSpec).at F).post enc Try.prog Try.f3 false true false false) := by
  refine returnsInHanded_of_cond (C := Try.checked) (s := Rows.OpenSpec.upto Rows.fareCheapestSpec) (k := Rows.uptoSmall) rfl own_ started (by kernel_rfl) Try.func3
    (OpenSpec.witness (enc := enc) (C := Try.checked) (s := Rows.OpenSpec.upto Rows.fareCheapestSpec) (k := Rows.uptoSmall) rfl false ⟨#[], #[.agg #[.bool false, .slice none 0 0, .int .i64 0, .slice none 0 0], .slice none 0 0, .slice none 0 0], []⟩ 8 (by kernel_rfl) (by kernel_rfl) (by kernel_rfl)
      (x := ([.agg [.lit (.bool false), .nil, .lit (.int .i64 0), .nil], .nil, .nil], [], [])) (by kernel_rfl) rfl (by kernel_rfl)) ?_
  intro W base args ds gs before hval0 hW _ hk _
  have hW' := hW
  obtain ⟨p, q, hA0, hV, rfl, hfz, hnd⟩ := hW
  have hA : DataW.TrodAll enc Try.prog W 0 (fun _ => true) true Try.f3.params.toList args.toList ds p := hA0
  rw [Try.params3] at hA
  obtain ⟨v0, v1, v2, d0, d1, d2, p0, p1, p2, rfl, rfl, rfl, g0, g1, g2⟩ := trodAll_three hA
  obtain ⟨rfl, rfl⟩ := trodVars_none hV
  have hk2 := of_decide_eq_true hk
  simp only [List.append_nil, Rows.uptoBulkAll] at hk2
  obtain ⟨cs0, x0, rfl, h0, z0⟩ := arg_structB Try.underlying25 OBFareTariff (hval0 0 25 v0 rfl rfl) g0
  obtain ⟨_, _, _, _, rfl, h0_0, h0_1⟩ := h0
  obtain ⟨a1, c1, x1, rfl, h1, z1⟩ := arg_sliceB und26 (OpensB.slice bulk_ und26 cel93 (by decide) OBFareTrip) (hval0 1 26 v1 rfl rfl) g1
  obtain ⟨a2, c2, x2, rfl, h2, z2⟩ := arg_sliceB und27 (OpensB.slice bulk_ und27 cel97 (by decide) OBFarePass) (hval0 2 27 v2 rfl rfl) g2
  obtain ⟨fu, hfu⟩ := FareCheapest_law x0 x1 x2 h0_0.small h0_1.small h1.small h2.small (Nat.le_trans z0 (by show Rows.uptoBulk d0 ≤ _; omega)) (Nat.le_trans z1 (by show Rows.uptoBulk d1 ≤ _; omega)) (Nat.le_trans z2 (by show Rows.uptoBulk d2 ≤ _; omega))
  refine (Fishlaw2FareCheapest_ok (St.start W) h0_0 h0_1 h1 h2 hfu).mono fun e W' ⟨he, hS⟩ => ?_
  exact ⟨_, he, post_law laidOut_ hS hW' rfl ⟨rfl, rfl, rfl⟩ (by kernel_rfl) rfl und4⟩

theorem fareCheapest_holds : Rows.FareCheapestUptoSaid :=
  OpenClaim.holds_of_cond 3 Try.f3 rfl rfl rfl rfl rfl rfl rfl ⟨rfl, rfl, rfl, rfl, rfl⟩ rfl rfl rfl rfl rfl (by kernel_rfl) Try.func3 (by kernel_rfl)
    (of_decide_eq_true (by kernel_rfl)) (by unfold Func.isWrapper; first | (rw [if_pos (by decide +kernel)]; kernel_rfl) | (rw [if_neg (by decide +kernel)]; exact ⟨rfl, rfl⟩))
    (fun os started H enc _ F => fareCheapest_lifted os started H enc F)

end Go.Proofs.Ytdioaeeaifahnaa
