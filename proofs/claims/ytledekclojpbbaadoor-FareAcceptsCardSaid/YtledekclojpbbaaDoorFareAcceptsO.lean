/- What the arguments of the law read as. No condition. -/
import Derived.Test.YtledekclojpbbaaDoorProg
import Derived.Test.YtledekclojpbbaaDoorFareAcceptsM
import Derived.Test.YtledekclojpbbaaDoorFpOpen
namespace Go.Proofs.YtledekclojpbbaaDoor
open Go Go.Fp
theorem cel3 : Tryd.prog.cellsOf 3 = 1 := by kernel_rfl
theorem cel44 : Tryd.prog.cellsOf 44 = 3 := by kernel_rfl
theorem cel46 : Tryd.prog.cellsOf 46 = 6 := by kernel_rfl
theorem fb44_0 : fieldB Tryd.prog 44 0 3 0 1 = true := by kernel_rfl
theorem fb44_1 : fieldB Tryd.prog 44 1 3 1 1 = true := by kernel_rfl
theorem fb44_2 : fieldB Tryd.prog 44 2 3 2 1 = true := by kernel_rfl
theorem fb46_0 : fieldB Tryd.prog 46 0 3 0 1 = true := by kernel_rfl
theorem fb46_1 : fieldB Tryd.prog 46 1 3 1 1 = true := by kernel_rfl
theorem fb46_2 : fieldB Tryd.prog 46 2 3 2 1 = true := by kernel_rfl
theorem fb46_3 : fieldB Tryd.prog 46 3 3 3 1 = true := by kernel_rfl
theorem fb46_4 : fieldB Tryd.prog 46 4 3 4 1 = true := by kernel_rfl
theorem fb46_5 : fieldB Tryd.prog 46 5 23 5 1 = true := by kernel_rfl
theorem und23 : Tryd.prog.underlying 23 = some (.slice 3) := by kernel_rfl
theorem und3 : Tryd.prog.underlying 3 = some (.int .i64) := by kernel_rfl
theorem und9 : Tryd.prog.underlying 9 = some .string := by kernel_rfl
theorem OFareKey {W : World} : Opens Tryd.prog W 44 RFareKey := by
  intro H enc fuel cs x h
  obtain ⟨hl, v0, h0⟩ := Opens.field fb44_0 (Opens.int und3) h
  obtain ⟨_, v1, h1⟩ := Opens.field fb44_1 (Opens.int und3) h
  obtain ⟨_, v2, h2⟩ := Opens.field fb44_2 (Opens.int und3) h
  rw [cel44] at hl
  match cs, hl with
  | [c0, c1, c2], _ =>
    replace h0 : [c0] = [.int .i64 v0] := h0
    have e0 := h0
    simp only [List.cons.injEq, and_true] at e0
    subst e0
    replace h1 : [c1] = [.int .i64 v1] := h1
    have e1 := h1
    simp only [List.cons.injEq, and_true] at e1
    subst e1
    replace h2 : [c2] = [.int .i64 v2] := h2
    have e2 := h2
    simp only [List.cons.injEq, and_true] at e2
    subst e2
    exact ⟨(FareKey.mk v0 v1 v2), rfl⟩
theorem OFareTicket {W : World} : Opens Tryd.prog W 46 RFareTicket := by
  intro H enc fuel cs x h
  obtain ⟨hl, v0, h0⟩ := Opens.field fb46_0 (Opens.int und3) h
  obtain ⟨_, v1, h1⟩ := Opens.field fb46_1 (Opens.int und3) h
  obtain ⟨_, v2, h2⟩ := Opens.field fb46_2 (Opens.int und3) h
  obtain ⟨_, v3, h3⟩ := Opens.field fb46_3 (Opens.int und3) h
  obtain ⟨_, v4, h4⟩ := Opens.field fb46_4 (Opens.int und3) h
  obtain ⟨_, v5, h5⟩ := Opens.field fb46_5 (Opens.slice und23 cel3 (by decide) (Opens.int und3)) h
  rw [cel46] at hl
  match cs, hl with
  | [c0, c1, c2, c3, c4, c5], _ =>
    replace h0 : [c0] = [.int .i64 v0] := h0
    have e0 := h0
    simp only [List.cons.injEq, and_true] at e0
    subst e0
    replace h1 : [c1] = [.int .i64 v1] := h1
    have e1 := h1
    simp only [List.cons.injEq, and_true] at e1
    subst e1
    replace h2 : [c2] = [.int .i64 v2] := h2
    have e2 := h2
    simp only [List.cons.injEq, and_true] at e2
    subst e2
    replace h3 : [c3] = [.int .i64 v3] := h3
    have e3 := h3
    simp only [List.cons.injEq, and_true] at e3
    subst e3
    replace h4 : [c4] = [.int .i64 v4] := h4
    have e4 := h4
    simp only [List.cons.injEq, and_true] at e4
    subst e4
    obtain ⟨a5_0, k5_0, e5, q5_0⟩ := h5
    replace e5 : [c5] = [.slice a5_0 v5.length k5_0] := e5
    simp only [List.cons.injEq, and_true] at e5
    subst e5
    exact ⟨(FareTicket.mk v0 v1 v2 v3 v4 v5), a5_0, k5_0, rfl, q5_0⟩
theorem und4 : Tryd.prog.underlying 4 = some .bool := by kernel_rfl
end Go.Proofs.YtledekclojpbbaaDoor
