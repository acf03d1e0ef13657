/- Ranges over a text's runes. No condition. -/
import Derived.Test.YtfdifpegldailaaGreatDoorFpRmap
import Derived.Laws.RangeString
import Derived.Lib.RuneCount
namespace Go.Fp
open Go
section
variable {P : Program} {K : Kt} {a : Act} {w : World} {n : Nat} {E : Env} {ops : Array Oper} {rest : List Oper} {d : Option Tmp} {ty : TypeId} {pos : String} {aft : Array Edge} {g : Option (Nat × Bool)} {s : Sg} {R : List HP}
abbrev strI (r : Nat) (v : ByteArray) (p : Nat) : HP := pt r (.stringIter v p)
theorem WL.rangeS (hE : Rep a n E) (hS : St w s R) {t : TypeId} {x : Operand} {v : ByteArray} (hx : E.ev x = some (.string v)) (ht : P.underlying t = some .string)
    (hg : Region.wanted ⟨d, .range t x, ty, pos, aft, g⟩ (yielded ops a.tmps) = true) (hd : dstOk d n = true)
    (q : ∀ r a w, Rep a n (E.put d (.pointer (some ⟨r, 0, none⟩))) → St w s (strI r v 0 :: R) → WL P ops K rest a w) : WL P ops K (⟨d, .range t x, ty, pos, aft, g⟩ :: rest) a w := by
  refine WL.step (w' := w.alloc (.stringIter v 0)) hg ?_ (q w.heap.size _ _ (hE.puts hd _) (hS.alloc _))
  simp only [execOp, hE.ev hx]
  simp [Instr.range, run_underlying ht, Result.andThen]
theorem run_next_rune (w : World) (v : ByteArray) (p r : Nat) (ty : TypeId) (hr : w.heap[r]? = some (.stringIter v p)) (h : p < v.size) :
    (Instr.next (.pointer (some ⟨r, 0, none⟩)) true ty).run P w = .ok (.tuple #[.bool true, .int .i64 p, .int .i32 (Utf8.decode v p).1]) { w with heap := w.heap.setIfInBounds r (.stringIter v (p + (Utf8.decode v p).2)) } := by
  simp only [Instr.next, getObj, setObj, Sem.run_bind, Sem.run, hr, Result.andThen, h, if_true]
  simp [goInt]
theorem run_next_last (w : World) (v : ByteArray) (p r : Nat) (ty : TypeId) (hr : w.heap[r]? = some (.stringIter v p)) (h : ¬ p < v.size) :
    (Instr.next (.pointer (some ⟨r, 0, none⟩)) true ty).run P w = .ok (.tuple #[.bool false]) w := by
  simp only [Instr.next, getObj, Sem.run_bind, Sem.run, hr, Result.andThen, h, if_false]
  simp
theorem WL.nextS (hE : Rep a n E) (hS : St w s R) (i : Nat) {x : Operand} {v : ByteArray} {p r : Nat} (hr : R[i]? = some (strI r v p)) (hx : E.ev x = some (.pointer (some ⟨r, 0, none⟩)))
    (hg : Region.wanted ⟨d, .next x true, ty, pos, aft, g⟩ (yielded ops a.tmps) = true) (hd : dstOk d n = true)
    (q1 : ¬ p < v.size → ∀ a, Rep a n (E.put d (.tuple #[.bool false])) → WL P ops K rest a w)
    (q2 : p < v.size → ∀ a w, Rep a n (E.put d (.tuple #[.bool true, .int .i64 p, .int .i32 (Utf8.decode v p).1])) → St w s (R.set i (strI r v (p + (Utf8.decode v p).2))) → WL P ops K rest a w) : WL P ops K (⟨d, .next x true, ty, pos, aft, g⟩ :: rest) a w := by
  have hi : w.heap[r]? = some (.stringIter v p) := (hS.front i hr).at
  have hb : r < w.heap.size := (Array.getElem?_eq_some_iff.1 hi).1
  by_cases h : p < v.size
  · refine WL.step (w' := { w with heap := w.heap.setIfInBounds r (.stringIter v (p + (Utf8.decode v p).2)) }) hg ?_ (q2 h _ _ (hE.puts hd _) (hS.setAt i hr (by simp [hb]) (fun k hk => by simp [Ne.symm hk]) rfl rfl))
    simp only [execOp, hE.ev hx]
    simp [run_next_rune w v p r ty hi h, Result.andThen]
  · refine WL.step (w' := w) hg ?_ (q1 h _ (hE.puts hd _))
    simp only [execOp, hE.ev hx]
    simp [run_next_last w v p r ty hi h, Result.andThen]
theorem Gives.runeStr {C : World → Prop} (hE : Rep a n E) {t t' : TypeId} {x : Operand} {k : IntKind} {p : Int} (hx : E.ev x = some (.int k p)) (hs : P.underlying t = some (.int k)) (ht : P.underlying t' = some .string) :
    Gives P C a ⟨d, .convert t t' x, ty, pos, aft, g⟩ (.string (Utf8.encode p)) := by
  intro w _
  simp [execOp, hE.ev hx, convert, run_underlying hs, run_underlying ht, Conv.intToString]
end
end Go.Fp
