/- Sorting in place, and leaving out equal neighbours: what the library's contracts say, told of a slice of the call's own. No condition. -/
import Derived.Test.YtngamgkmhgmmjaaGreatDoorFpGrow
import Derived.Sort.Row
import Derived.Sort.Grow
import Derived.Lib.SlicesCompact
namespace Go.Fp
open Go

/-- the sorted list -/
def isort (l : List Int) : List Int := l.mergeSort fun x y => decide (x ≤ y)
def srt (l : List Int) : Option (List Int) := if l.length < 4294967296 then some (isort l) else none
theorem srt_some {l r : List Int} (h : srt l = some r) : l.length < 4294967296 ∧ r = isort l := by
  unfold srt at h
  split at h
  · rename_i h1; simp at h; exact ⟨h1, h.symm⟩
  · cases h
theorem isort_length (l : List Int) : (isort l).length = l.length := List.length_mergeSort l

section
variable {w : World} {s : Sg} {R : List HP} {e c n : Nat} {l : List Int} {b o : Nat} {cs : List Value}

theorem St.holds (hS : St w s (vecC e 1 (some ⟨b, o, none⟩) c n cs :: R)) (h : Ev 1 (RI .i64) s cs l) : Sort.Holds (Value.int .i64) w b o l.toArray := by
  rcases hS.vec 0 rfl with ⟨hcl, ⟨h0, _⟩ | ⟨b', o', cur, e1, e2, e3, e4, e5, e6, _⟩⟩
  · cases h0
  · cases e1
    intro j hj
    have hj' : j < l.length := by simpa using hj
    have hcs := h.ints
    refine ⟨?_, by simp [World.frozen?, e2]⟩
    have hv : cs[j]? = some (.int .i64 l[j]) := by rw [hcs, List.getElem?_map, List.getElem?_eq_getElem hj']; rfl
    have h1 := hS.vecSees 0 rfl 0 cs (fun j v hj => by simpa using hj) j _ hv
    have h2 : l.toArray[j]! = l[j] := by rw [getElem!_pos l.toArray j (by simpa using hj')]; simp
    rw [h2]
    simpa [ab, ao] using h1

theorem St.putRow {os : Array Obj} {q : Nat} {r : List Int} (hS : St w s (vecC e 1 (some ⟨b, o, none⟩) c n cs :: R)) (hr : r.length = n) :
    St (Sort.grow (Sort.putRow (Value.int .i64) (Sort.ahead w q) b o r.toArray) os) s (vecC e 1 (some ⟨b, o, none⟩) c n (r.map (Value.int .i64)) :: R) := by
  rcases hS.vec 0 rfl with ⟨hcl, ⟨h0, _⟩ | ⟨b', o', cur, e1, e2, e3, e4, e5, e6, h⟩⟩
  · cases h0
  · cases e1
    have hb : b < w.heap.size := by
      rcases Nat.lt_or_ge b w.heap.size with hl | hg
      · exact hl
      · rw [Array.getElem?_eq_none hg] at e2; cases e2
    -- the row turned
    have h1 : St (Sort.putRow (Value.int .i64) (Sort.ahead w q) b o r.toArray) s (pt b (.cells (Sort.putCells (Value.int .i64) o r.toArray cur) e (0, 0)) :: R) := by
      refine h.put (o' := .cells (Sort.putCells (Value.int .i64) o r.toArray cur) e (0, 0)) ?_ ?_ rfl rfl
      · simp [Sort.putRow, Sort.mapBlock, Sort.ahead, Array.getElem?_modify, e2, Sort.onCells]
      · intro k hk
        simp [Sort.putRow, Sort.mapBlock, Sort.ahead, Array.getElem?_modify, Ne.symm hk]
    have hsz : (Sort.putRow (Value.int .i64) (Sort.ahead w q) b o r.toArray).heap.size = w.heap.size := by simp [Sort.putRow, Sort.mapBlock, Sort.ahead]
    have hput : (Sort.putCells (Value.int .i64) o r.toArray cur).toList = cur.toList.take o ++ r.map (Value.int .i64) ++ cur.toList.drop (o + n) := by
      apply List.ext_getElem?
      intro k
      rw [Array.getElem?_toList]
      have hle : o + n ≤ cur.size := by omega
      have t1 : (cur.toList.take o).length = o := by simp; omega
      rcases Nat.lt_or_ge k o with hk | hk
      · rw [List.append_assoc, List.getElem?_append_left (by omega), List.getElem?_take, if_pos hk, Array.getElem?_toList]
        unfold Sort.putCells
        rw [Array.getElem?_mapIdx]
        have : ¬ (o ≤ k) := by omega
        simp [this]
      · rw [List.append_assoc, List.getElem?_append_right (by omega), t1]
        rcases Nat.lt_or_ge k (o + n) with hk2 | hk2
        · rw [List.getElem?_append_left (by simp; omega), List.getElem?_map]
          unfold Sort.putCells
          rw [Array.getElem?_mapIdx, Array.getElem?_eq_getElem (by omega)]
          have hkr : k - o < r.length := by omega
          have : o ≤ k ∧ k < o + r.length := ⟨hk, by omega⟩
          rw [List.getElem?_eq_getElem hkr]
          simp only [Option.map_some, List.size_toArray, this, and_self, if_true]
          rw [getElem!_pos r.toArray (k - o) (by simpa using hkr)]
          simp
        · rw [List.getElem?_append_right (by simp; omega), List.getElem?_drop]
          have e7 : o + n + (k - o - (r.map (Value.int .i64)).length) = k := by simp; omega
          rw [e7, Array.getElem?_toList]
          unfold Sort.putCells
          rw [Array.getElem?_mapIdx]
          have : ¬ (k < o + r.length) := by omega
          simp [this]
    have h2 : St (Sort.putRow (Value.int .i64) (Sort.ahead w q) b o r.toArray) s (vecC e 1 (some ⟨b, o, none⟩) c n (r.map (Value.int .i64)) :: R) := by
      refine h1.head fun hh k => ⟨by simp [hr], .inr ⟨b, o, _, rfl, k, e3, e4, ?_, ?_⟩⟩
      · unfold Sort.putCells; simpa using e5
      · rw [hput]
        have t1 : (cur.toList.take o).length = o := by simp; omega
        have e8 : (cur.toList.take o ++ r.map (Value.int .i64) ++ cur.toList.drop (o + n)).drop o = r.map (Value.int .i64) ++ cur.toList.drop (o + n) := by
          rw [List.append_assoc]
          have := List.drop_left (l₁ := cur.toList.take o) (l₂ := r.map (Value.int .i64) ++ cur.toList.drop (o + n))
          rw [t1] at this
          exact this
        rw [e8]
        have : n * 1 = (r.map (Value.int .i64)).length := by simp [hr]
        rw [this]
        exact List.take_left
    refine h2.grown (w' := Sort.grow _ os) ⟨rfl, rfl, rfl, by simp [Sort.grow], fun k hk => ?_⟩
    simp only [Sort.grow]
    rw [Array.getElem?_append_left hk]

end
end Go.Fp
