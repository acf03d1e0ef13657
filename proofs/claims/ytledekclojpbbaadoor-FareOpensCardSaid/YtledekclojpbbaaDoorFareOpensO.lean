/- What the arguments of the law read as. No condition. -/
import Derived.Test.YtledekclojpbbaaDoorProg
import Derived.Test.YtledekclojpbbaaDoorFareOpensM
import Derived.Test.YtledekclojpbbaaDoorFpOpen
namespace Go.Proofs.YtledekclojpbbaaDoor
open Go Go.Fp
theorem cel44 : Tryd.prog.cellsOf 44 = 3 := by kernel_rfl
theorem fb44_0 : fieldB Tryd.prog 44 0 3 0 1 = true := by kernel_rfl
theorem fb44_1 : fieldB Tryd.prog 44 1 3 1 1 = true := by kernel_rfl
theorem fb44_2 : fieldB Tryd.prog 44 2 3 2 1 = true := by kernel_rfl
theorem und3 : Tryd.prog.underlying 3 = some (.int .i64) := by kernel_rfl
theorem und9 : Tryd.prog.underlying 9 = some .string := by kernel_rfl
theorem OFareKey {W : World} : Opens Tryd.prog W 44 RFareKey := by
  intro H enc fuel cs x h
  obtain ⟨hl, v0, h0⟩ := Opens.field fb44_0 (Opens.int und3) h
  obtain ⟨_, v1, h1⟩ := Opens.field fb44_1 (Opens.int und3) h
  obtain ⟨_, v2, h2⟩ := Opens.field fb44_2 (Opens.int und3) h
  rw [cel44] at hl
  match cs, hl with
  | [c0, c1, c2], _ =>
    replace h0 : [c0] = [.int .i64 v0] := h0
    have e0 := h0
    simp only [List.cons.injEq, and_true] at e0
    subst e0
    replace h1 : [c1] = [.int .i64 v1] := h1
    have e1 := h1
    simp only [List.cons.injEq, and_true] at e1
    subst e1
    replace h2 : [c2] = [.int .i64 v2] := h2
    have e2 := h2
    simp only [List.cons.injEq, and_true] at e2
    subst e2
    exact ⟨(FareKey.mk v0 v1 v2), rfl⟩
theorem und4 : Tryd.prog.underlying 4 = some .bool := by kernel_rfl
end Go.Proofs.YtledekclojpbbaaDoor
