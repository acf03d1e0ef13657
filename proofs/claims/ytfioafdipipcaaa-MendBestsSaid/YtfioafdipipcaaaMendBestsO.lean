/- What the arguments of the law read as. No condition. -/
import Derived.Test.YtfioafdipipcaaaProg
import Derived.Test.YtfioafdipipcaaaMendBestsM
import Derived.Test.YtfioafdipipcaaaFpOpen
namespace Go.Proofs.Ytfioafdipipcaaa
open Go Go.Fp
theorem cel3 : Try.prog.cellsOf 3 = 1 := by kernel_rfl
theorem cel47 : Try.prog.cellsOf 47 = 1 := by kernel_rfl
theorem cel50 : Try.prog.cellsOf 50 = 5 := by kernel_rfl
theorem cel94 : Try.prog.cellsOf 94 = 3 := by kernel_rfl
theorem cel97 : Try.prog.cellsOf 97 = 1 := by kernel_rfl
theorem fb50_0 : fieldB Try.prog 50 0 22 0 1 = true := by kernel_rfl
theorem fb50_1 : fieldB Try.prog 50 1 22 1 1 = true := by kernel_rfl
theorem fb50_2 : fieldB Try.prog 50 2 22 2 1 = true := by kernel_rfl
theorem fb50_3 : fieldB Try.prog 50 3 47 3 1 = true := by kernel_rfl
theorem fb50_4 : fieldB Try.prog 50 4 48 4 1 = true := by kernel_rfl
theorem fb94_0 : fieldB Try.prog 94 0 3 0 1 = true := by kernel_rfl
theorem fb94_1 : fieldB Try.prog 94 1 3 1 1 = true := by kernel_rfl
theorem fb94_2 : fieldB Try.prog 94 2 3 2 1 = true := by kernel_rfl
theorem fb97_0 : fieldB Try.prog 97 0 95 0 1 = true := by kernel_rfl
theorem und22 : Try.prog.underlying 22 = some (.slice 3) := by kernel_rfl
theorem und3 : Try.prog.underlying 3 = some (.int .i64) := by kernel_rfl
theorem und47 : Try.prog.underlying 47 = some (.slice 94) := by kernel_rfl
theorem und48 : Try.prog.underlying 48 = some (.slice 97) := by kernel_rfl
theorem und95 : Try.prog.underlying 95 = some (.slice 47) := by kernel_rfl
theorem OMendArc {W : World} : Opens Try.prog W 94 RMendArc := by
  intro H enc fuel cs x h
  obtain ⟨hl, v0, h0⟩ := Opens.field fb94_0 (Opens.int und3) h
  obtain ⟨_, v1, h1⟩ := Opens.field fb94_1 (Opens.int und3) h
  obtain ⟨_, v2, h2⟩ := Opens.field fb94_2 (Opens.int und3) h
  rw [cel94] at hl
  match cs, hl with
  | [c0, c1, c2], _ =>
    replace h0 : [c0] = [.int .i64 v0] := h0
    have e0 := h0
    simp only [List.cons.injEq, and_true] at e0
    subst e0
    replace h1 : [c1] = [.int .i64 v1] := h1
    have e1 := h1
    simp only [List.cons.injEq, and_true] at e1
    subst e1
    replace h2 : [c2] = [.int .i64 v2] := h2
    have e2 := h2
    simp only [List.cons.injEq, and_true] at e2
    subst e2
    exact ⟨(MendArc.mk v0 v1 v2), rfl⟩
theorem OMendChoice {W : World} : Opens Try.prog W 97 RMendChoice := by
  intro H enc fuel cs x h
  obtain ⟨hl, v0, h0⟩ := Opens.field fb97_0 (Opens.slice und95 cel47 (by decide) (Opens.slice und47 cel94 (by decide) OMendArc)) h
  rw [cel97] at hl
  match cs, hl with
  | [c0], _ =>
    obtain ⟨a0_0, k0_0, e0, q0_0⟩ := h0
    replace e0 : [c0] = [.slice a0_0 v0.length k0_0] := e0
    simp only [List.cons.injEq, and_true] at e0
    subst e0
    exact ⟨(MendChoice.mk v0), a0_0, k0_0, rfl, q0_0⟩
theorem OMendGraph {W : World} : Opens Try.prog W 50 RMendGraph := by
  intro H enc fuel cs x h
  obtain ⟨hl, v0, h0⟩ := Opens.field fb50_0 (Opens.slice und22 cel3 (by decide) (Opens.int und3)) h
  obtain ⟨_, v1, h1⟩ := Opens.field fb50_1 (Opens.slice und22 cel3 (by decide) (Opens.int und3)) h
  obtain ⟨_, v2, h2⟩ := Opens.field fb50_2 (Opens.slice und22 cel3 (by decide) (Opens.int und3)) h
  obtain ⟨_, v3, h3⟩ := Opens.field fb50_3 (Opens.slice und47 cel94 (by decide) OMendArc) h
  obtain ⟨_, v4, h4⟩ := Opens.field fb50_4 (Opens.slice und48 cel97 (by decide) OMendChoice) h
  rw [cel50] at hl
  match cs, hl with
  | [c0, c1, c2, c3, c4], _ =>
    obtain ⟨a0_0, k0_0, e0, q0_0⟩ := h0
    replace e0 : [c0] = [.slice a0_0 v0.length k0_0] := e0
    simp only [List.cons.injEq, and_true] at e0
    subst e0
    obtain ⟨a1_0, k1_0, e1, q1_0⟩ := h1
    replace e1 : [c1] = [.slice a1_0 v1.length k1_0] := e1
    simp only [List.cons.injEq, and_true] at e1
    subst e1
    obtain ⟨a2_0, k2_0, e2, q2_0⟩ := h2
    replace e2 : [c2] = [.slice a2_0 v2.length k2_0] := e2
    simp only [List.cons.injEq, and_true] at e2
    subst e2
    obtain ⟨a3_0, k3_0, e3, q3_0⟩ := h3
    replace e3 : [c3] = [.slice a3_0 v3.length k3_0] := e3
    simp only [List.cons.injEq, and_true] at e3
    subst e3
    obtain ⟨a4_0, k4_0, e4, q4_0⟩ := h4
    replace e4 : [c4] = [.slice a4_0 v4.length k4_0] := e4
    simp only [List.cons.injEq, and_true] at e4
    subst e4
    exact ⟨(MendGraph.mk v0 v1 v2 v3 v4), a0_0, k0_0, a1_0, k1_0, a2_0, k2_0, a3_0, k3_0, a4_0, k4_0, rfl, q0_0, q1_0, q2_0, q3_0, q4_0⟩
theorem und4 : Try.prog.underlying 4 = some .bool := by kernel_rfl
end Go.Proofs.Ytfioafdipipcaaa
