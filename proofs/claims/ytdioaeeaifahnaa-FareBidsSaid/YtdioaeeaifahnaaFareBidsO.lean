/- What the arguments of the law read as. No condition. -/
import Derived.Test.YtdioaeeaifahnaaProg
import Derived.Test.YtdioaeeaifahnaaFareBidsM
import Derived.Test.YtdioaeeaifahnaaFpOpen
namespace Go.Proofs.Ytdioaeeaifahnaa
open Go Go.Fp
theorem cel118 : Try.prog.cellsOf 118 = 3 := by kernel_rfl
theorem fb118_0 : fieldB Try.prog 118 0 3 0 1 = true := by kernel_rfl
theorem fb118_1 : fieldB Try.prog 118 1 3 1 1 = true := by kernel_rfl
theorem fb118_2 : fieldB Try.prog 118 2 3 2 1 = true := by kernel_rfl
theorem und3 : Try.prog.underlying 3 = some (.int .i64) := by kernel_rfl
theorem und40 : Try.prog.underlying 40 = some (.slice 118) := by kernel_rfl
theorem OFareOffer {W : World} : Opens Try.prog W 118 RFareOffer := by
  intro H enc fuel cs x h
  obtain ⟨hl, v0, h0⟩ := Opens.field fb118_0 (Opens.int und3) h
  obtain ⟨_, v1, h1⟩ := Opens.field fb118_1 (Opens.int und3) h
  obtain ⟨_, v2, h2⟩ := Opens.field fb118_2 (Opens.int und3) h
  rw [cel118] at hl
  match cs, hl with
  | [c0, c1, c2], _ =>
    replace h0 : [c0] = [.int .i64 v0] := h0
    have e0 := h0
    simp only [List.cons.injEq, and_true] at e0
    subst e0
    replace h1 : [c1] = [.int .i64 v1] := h1
    have e1 := h1
    simp only [List.cons.injEq, and_true] at e1
    subst e1
    replace h2 : [c2] = [.int .i64 v2] := h2
    have e2 := h2
    simp only [List.cons.injEq, and_true] at e2
    subst e2
    exact ⟨(FareOffer.mk v0 v1 v2), rfl⟩
theorem und4 : Try.prog.underlying 4 = some .bool := by kernel_rfl
end Go.Proofs.Ytdioaeeaifahnaa
