/- What the arguments of the law read as. No condition. -/
import Derived.Test.YtfdifpegldailaaGreatDoorProg
import Derived.Test.YtfdifpegldailaaGreatDoorFareTextsM
import Derived.Test.YtfdifpegldailaaGreatDoorFpOpen
namespace Go.Proofs.YtfdifpegldailaaGreatDoor
open Go Go.Fp
theorem cel25 : Tryz.prog.cellsOf 25 = 4 := by kernel_rfl
theorem cel40 : Tryz.prog.cellsOf 40 = 2 := by kernel_rfl
theorem cel43 : Tryz.prog.cellsOf 43 = 4 := by kernel_rfl
theorem cel45 : Tryz.prog.cellsOf 45 = 7 := by kernel_rfl
theorem fb25_0 : fieldB Tryz.prog 25 0 4 0 1 = true := by kernel_rfl
theorem fb25_1 : fieldB Tryz.prog 25 1 22 1 1 = true := by kernel_rfl
theorem fb25_2 : fieldB Tryz.prog 25 2 3 2 1 = true := by kernel_rfl
theorem fb25_3 : fieldB Tryz.prog 25 3 23 3 1 = true := by kernel_rfl
theorem fb40_0 : fieldB Tryz.prog 40 0 3 0 1 = true := by kernel_rfl
theorem fb40_1 : fieldB Tryz.prog 40 1 3 1 1 = true := by kernel_rfl
theorem fb43_0 : fieldB Tryz.prog 43 0 3 0 1 = true := by kernel_rfl
theorem fb43_1 : fieldB Tryz.prog 43 1 3 1 1 = true := by kernel_rfl
theorem fb43_2 : fieldB Tryz.prog 43 2 3 2 1 = true := by kernel_rfl
theorem fb43_3 : fieldB Tryz.prog 43 3 41 3 1 = true := by kernel_rfl
theorem fb45_0 : fieldB Tryz.prog 45 0 43 0 4 = true := by kernel_rfl
theorem fb45_1 : fieldB Tryz.prog 45 1 3 4 1 = true := by kernel_rfl
theorem fb45_2 : fieldB Tryz.prog 45 2 3 5 1 = true := by kernel_rfl
theorem fb45_3 : fieldB Tryz.prog 45 3 4 6 1 = true := by kernel_rfl
theorem und22 : Tryz.prog.underlying 22 = some (.slice 40) := by kernel_rfl
theorem und23 : Tryz.prog.underlying 23 = some (.slice 45) := by kernel_rfl
theorem und3 : Tryz.prog.underlying 3 = some (.int .i64) := by kernel_rfl
theorem und4 : Tryz.prog.underlying 4 = some .bool := by kernel_rfl
theorem und41 : Tryz.prog.underlying 41 = some (.slice 43) := by kernel_rfl
theorem OFareBand {W : World} : Opens Tryz.prog W 40 RFareBand := by
  intro H enc fuel cs x h
  obtain ⟨hl, v0, h0⟩ := Opens.field fb40_0 (Opens.int und3) h
  obtain ⟨_, v1, h1⟩ := Opens.field fb40_1 (Opens.int und3) h
  rw [cel40] at hl
  match cs, hl with
  | [c0, c1], _ =>
    replace h0 : [c0] = [.int .i64 v0] := h0
    have e0 := h0
    simp only [List.cons.injEq, and_true] at e0
    subst e0
    replace h1 : [c1] = [.int .i64 v1] := h1
    have e1 := h1
    simp only [List.cons.injEq, and_true] at e1
    subst e1
    exact ⟨(FareBand.mk v0 v1), rfl⟩
theorem OFareCond {W : World} : Opens Tryz.prog W 43 RFareCond := OpensN.all fun N => by
  induction N with
  | zero => exact OpensN.zero
  | succ N ih =>
    intro H enc fuel cs x hF h
    obtain ⟨hl, v0, h0⟩ := OpensN.field fb43_0 (Opens.int und3).n hF h
    obtain ⟨_, v1, h1⟩ := OpensN.field fb43_1 (Opens.int und3).n hF h
    obtain ⟨_, v2, h2⟩ := OpensN.field fb43_2 (Opens.int und3).n hF h
    obtain ⟨_, v3, h3⟩ := OpensN.field fb43_3 (OpensN.slice und41 cel43 (by decide) ih) hF h
    rw [cel43] at hl
    match cs, hl with
    | [c0, c1, c2, c3], _ =>
      replace h0 : [c0] = [.int .i64 v0] := h0
      have e0 := h0
      simp only [List.cons.injEq, and_true] at e0
      subst e0
      replace h1 : [c1] = [.int .i64 v1] := h1
      have e1 := h1
      simp only [List.cons.injEq, and_true] at e1
      subst e1
      replace h2 : [c2] = [.int .i64 v2] := h2
      have e2 := h2
      simp only [List.cons.injEq, and_true] at e2
      subst e2
      obtain ⟨a3_0, k3_0, e3, q3_0⟩ := h3
      replace e3 : [c3] = [.slice a3_0 v3.length k3_0] := e3
      simp only [List.cons.injEq, and_true] at e3
      subst e3
      exact ⟨(FareCond.mk v0 v1 v2 v3), RFareCond.fold ⟨a3_0, k3_0, rfl, q3_0⟩⟩
theorem OFareRule {W : World} : Opens Tryz.prog W 45 RFareRule := by
  intro H enc fuel cs x h
  obtain ⟨hl, v0, h0⟩ := Opens.field fb45_0 OFareCond h
  obtain ⟨_, v1, h1⟩ := Opens.field fb45_1 (Opens.int und3) h
  obtain ⟨_, v2, h2⟩ := Opens.field fb45_2 (Opens.int und3) h
  obtain ⟨_, v3, h3⟩ := Opens.field fb45_3 (Opens.bool und4) h
  rw [cel45] at hl
  match cs, hl with
  | [c0, c1, c2, c3, c4, c5, c6], _ =>
    obtain ⟨a0_0, k0_0, e0, q0_0⟩ := h0.unf
    replace e0 : [c0, c1, c2, c3] = [.int .i64 v0.Kind, .int .i64 v0.A, .int .i64 v0.B, .slice a0_0 v0.Kids.length k0_0] := e0
    simp only [List.cons.injEq, and_true] at e0
    obtain ⟨rfl, rfl, rfl, rfl⟩ := e0
    replace h1 : [c4] = [.int .i64 v1] := h1
    have e1 := h1
    simp only [List.cons.injEq, and_true] at e1
    subst e1
    replace h2 : [c5] = [.int .i64 v2] := h2
    have e2 := h2
    simp only [List.cons.injEq, and_true] at e2
    subst e2
    replace h3 : [c6] = [.bool v3] := h3
    have e3 := h3
    simp only [List.cons.injEq, and_true] at e3
    subst e3
    exact ⟨(FareRule.mk v0 v1 v2 v3), a0_0, k0_0, rfl, q0_0⟩
theorem OFareTariff {W : World} : Opens Tryz.prog W 25 RFareTariff := by
  intro H enc fuel cs x h
  obtain ⟨hl, v0, h0⟩ := Opens.field fb25_0 (Opens.bool und4) h
  obtain ⟨_, v1, h1⟩ := Opens.field fb25_1 (Opens.slice und22 cel40 (by decide) OFareBand) h
  obtain ⟨_, v2, h2⟩ := Opens.field fb25_2 (Opens.int und3) h
  obtain ⟨_, v3, h3⟩ := Opens.field fb25_3 (Opens.slice und23 cel45 (by decide) OFareRule) h
  rw [cel25] at hl
  match cs, hl with
  | [c0, c1, c2, c3], _ =>
    replace h0 : [c0] = [.bool v0] := h0
    have e0 := h0
    simp only [List.cons.injEq, and_true] at e0
    subst e0
    obtain ⟨a1_0, k1_0, e1, q1_0⟩ := h1
    replace e1 : [c1] = [.slice a1_0 v1.length k1_0] := e1
    simp only [List.cons.injEq, and_true] at e1
    subst e1
    replace h2 : [c2] = [.int .i64 v2] := h2
    have e2 := h2
    simp only [List.cons.injEq, and_true] at e2
    subst e2
    obtain ⟨a3_0, k3_0, e3, q3_0⟩ := h3
    replace e3 : [c3] = [.slice a3_0 v3.length k3_0] := e3
    simp only [List.cons.injEq, and_true] at e3
    subst e3
    exact ⟨(FareTariff.mk v0 v1 v2 v3), a1_0, k1_0, a3_0, k3_0, rfl, q1_0, q3_0⟩
end Go.Proofs.YtfdifpegldailaaGreatDoor
