/- What a call leaves that turned nothing that lay, and that hands back a row of its own. No condition. -/
import Derived.Test.YtfdifpegldailaaGreatDoorFpMore
import Derived.Below
namespace Go.Fp
open Go
theorem St.grown {w w' : World} {s : Sg} {R : List HP} (hS : St w s R) (hB : RowKit.Below w.heap.size w w') : St w' s R := by
  have hlt : ∀ {b : Nat} {o : Obj}, w.heap[b]? = some o → w'.heap[b]? = some o := by
    intro b o h
    have : b < w.heap.size := by
      rcases Nat.lt_or_ge b w.heap.size with hl | hg
      · exact hl
      · rw [Array.getElem?_eq_none hg] at h; cases h
    rw [hB.block b this]; exact h
  obtain ⟨h, a, e⟩ := hS.own
  exact ⟨fun b o k => hlt (hS.sub b o k), ⟨h, a, fun b o k => ⟨hlt (e b o k).1, (e b o k).2⟩⟩, hB.os.trans hS.os, hB.output.trans hS.out⟩
end Go.Fp
