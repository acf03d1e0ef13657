/- What the arguments of the law read as. No condition. -/
import Derived.Test.YtfioafdipipcaaaProg
import Derived.Test.YtfioafdipipcaaaMendSettlesM
import Derived.Test.YtfioafdipipcaaaFpOpen
namespace Go.Proofs.Ytfioafdipipcaaa
open Go Go.Fp
theorem cel25 : Try.prog.cellsOf 25 = 3 := by kernel_rfl
theorem cel3 : Try.prog.cellsOf 3 = 1 := by kernel_rfl
theorem cel36 : Try.prog.cellsOf 36 = 4 := by kernel_rfl
theorem fb25_0 : fieldB Try.prog 25 0 3 0 1 = true := by kernel_rfl
theorem fb25_1 : fieldB Try.prog 25 1 22 1 1 = true := by kernel_rfl
theorem fb25_2 : fieldB Try.prog 25 2 23 2 1 = true := by kernel_rfl
theorem fb36_0 : fieldB Try.prog 36 0 3 0 1 = true := by kernel_rfl
theorem fb36_1 : fieldB Try.prog 36 1 3 1 1 = true := by kernel_rfl
theorem fb36_2 : fieldB Try.prog 36 2 3 2 1 = true := by kernel_rfl
theorem fb36_3 : fieldB Try.prog 36 3 3 3 1 = true := by kernel_rfl
theorem und22 : Try.prog.underlying 22 = some (.slice 3) := by kernel_rfl
theorem und23 : Try.prog.underlying 23 = some (.slice 36) := by kernel_rfl
theorem und3 : Try.prog.underlying 3 = some (.int .i64) := by kernel_rfl
theorem OMendLink {W : World} : Opens Try.prog W 36 RMendLink := by
  intro H enc fuel cs x h
  obtain ⟨hl, v0, h0⟩ := Opens.field fb36_0 (Opens.int und3) h
  obtain ⟨_, v1, h1⟩ := Opens.field fb36_1 (Opens.int und3) h
  obtain ⟨_, v2, h2⟩ := Opens.field fb36_2 (Opens.int und3) h
  obtain ⟨_, v3, h3⟩ := Opens.field fb36_3 (Opens.int und3) h
  rw [cel36] at hl
  match cs, hl with
  | [c0, c1, c2, c3], _ =>
    replace h0 : [c0] = [.int .i64 v0] := h0
    have e0 := h0
    simp only [List.cons.injEq, and_true] at e0
    subst e0
    replace h1 : [c1] = [.int .i64 v1] := h1
    have e1 := h1
    simp only [List.cons.injEq, and_true] at e1
    subst e1
    replace h2 : [c2] = [.int .i64 v2] := h2
    have e2 := h2
    simp only [List.cons.injEq, and_true] at e2
    subst e2
    replace h3 : [c3] = [.int .i64 v3] := h3
    have e3 := h3
    simp only [List.cons.injEq, and_true] at e3
    subst e3
    exact ⟨(MendLink.mk v0 v1 v2 v3), rfl⟩
theorem OMendRound {W : World} : Opens Try.prog W 25 RMendRound := by
  intro H enc fuel cs x h
  obtain ⟨hl, v0, h0⟩ := Opens.field fb25_0 (Opens.int und3) h
  obtain ⟨_, v1, h1⟩ := Opens.field fb25_1 (Opens.slice und22 cel3 (by decide) (Opens.int und3)) h
  obtain ⟨_, v2, h2⟩ := Opens.field fb25_2 (Opens.slice und23 cel36 (by decide) OMendLink) h
  rw [cel25] at hl
  match cs, hl with
  | [c0, c1, c2], _ =>
    replace h0 : [c0] = [.int .i64 v0] := h0
    have e0 := h0
    simp only [List.cons.injEq, and_true] at e0
    subst e0
    obtain ⟨a1_0, k1_0, e1, q1_0⟩ := h1
    replace e1 : [c1] = [.slice a1_0 v1.length k1_0] := e1
    simp only [List.cons.injEq, and_true] at e1
    subst e1
    obtain ⟨a2_0, k2_0, e2, q2_0⟩ := h2
    replace e2 : [c2] = [.slice a2_0 v2.length k2_0] := e2
    simp only [List.cons.injEq, and_true] at e2
    subst e2
    exact ⟨(MendRound.mk v0 v1 v2), a1_0, k1_0, a2_0, k2_0, rfl, q1_0, q2_0⟩
theorem und4 : Try.prog.underlying 4 = some .bool := by kernel_rfl
end Go.Proofs.Ytfioafdipipcaaa
