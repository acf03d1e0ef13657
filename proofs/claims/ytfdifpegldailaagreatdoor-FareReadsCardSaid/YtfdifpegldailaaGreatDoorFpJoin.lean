/- Texts joined with a text between them. No condition. -/
import Derived.Test.YtfdifpegldailaaGreatDoorFpErr
import Derived.Lib.Join
import Derived.Lib.IndexMore
import Derived.Lib.Strings
namespace Go.Fp
open Go
def joinq (l : List ByteArray) (y : ByteArray) : Option ByteArray :=
  if l.length ≤ 140737488355328 ∧ (Lib.join (l.map (·.data.toList)) y.data.toList).length ≤ 140737488355328 then some ⟨(Lib.join (l.map (·.data.toList)) y.data.toList).toArray⟩ else none
theorem joinq_some {l : List ByteArray} {y r : ByteArray} (h : joinq l y = some r) : l.length ≤ 140737488355328 ∧ (Lib.join (l.map (·.data.toList)) y.data.toList).length ≤ 140737488355328 ∧ r = ⟨(Lib.join (l.map (·.data.toList)) y.data.toList).toArray⟩ := by
  unfold joinq at h
  split at h
  · rename_i c
    injection h with h
    exact ⟨c.1, c.2, h.symm⟩
  · cases h
def cutq (x y : ByteArray) : Option (ByteArray × ByteArray × Bool) :=
  if x.size < 4294967281 then some (⟨(Lib.cut x.data.toList y.data.toList).1.toArray⟩, ⟨(Lib.cut x.data.toList y.data.toList).2.1.toArray⟩, (Lib.cut x.data.toList y.data.toList).2.2) else none
theorem cutq_some {x y : ByteArray} {r : ByteArray × ByteArray × Bool} (h : cutq x y = some r) : x.size < 4294967281 ∧ r = (⟨(Lib.cut x.data.toList y.data.toList).1.toArray⟩, ⟨(Lib.cut x.data.toList y.data.toList).2.1.toArray⟩, (Lib.cut x.data.toList y.data.toList).2.2) := by
  unfold cutq at h
  split at h
  · rename_i c
    injection h with h
    exact ⟨c, h.symm⟩
  · cases h
def haspq (x y : ByteArray) : Bool := Lib.hasPrefix x.data.toList y.data.toList
def hassq (x y : ByteArray) : Option Bool := if x.size ≤ 9223372036854775807 then some (Lib.hasSuffix x.data.toList y.data.toList) else none
theorem hassq_some {x y : ByteArray} {r : Bool} (h : hassq x y = some r) : x.size ≤ 9223372036854775807 ∧ r = Lib.hasSuffix x.data.toList y.data.toList := by
  unfold hassq at h
  split at h
  · rename_i c
    injection h with h
    exact ⟨c, h.symm⟩
  · cases h
def cutsq (x y : ByteArray) : Option (ByteArray × Bool) := if x.size ≤ 9223372036854775807 then some (⟨(Lib.trimSuffix x.data.toList y.data.toList).toArray⟩, Lib.hasSuffix x.data.toList y.data.toList) else none
theorem cutsq_some {x y : ByteArray} {r : ByteArray × Bool} (h : cutsq x y = some r) : x.size ≤ 9223372036854775807 ∧ r = (⟨(Lib.trimSuffix x.data.toList y.data.toList).toArray⟩, Lib.hasSuffix x.data.toList y.data.toList) := by
  unfold cutsq at h
  split at h
  · rename_i c
    injection h with h
    exact ⟨c, h.symm⟩
  · cases h
theorem Sl.strs {w : World} {s : Sg} {R : List HP} (hS : St w s R) {b o c : Nat} {l : List ByteArray} (q : Sl 1 RS s (some ⟨b, o, none⟩) c l) : ∀ (j : Nat) x, l[j]? = some x → w.cell? ⟨b, o + j, none⟩ = some (.string x) := by
  intro j x hj
  obtain ⟨cs, _, h2, h3⟩ := q.el j x hj
  have := hS.sees h2 0 (.string x) (by rw [h3]; rfl)
  simpa [ab, ao] using this
theorem Sl.block {w : World} {s : Sg} {R : List HP} (hS : St w s R) {b o c : Nat} {x : ByteArray} {l : List ByteArray} (q : Sl 1 RS s (some ⟨b, o, none⟩) c (x :: l)) : b < w.heap.size := by
  have h := Sl.strs hS q 0 x rfl
  rcases Nat.lt_or_ge b w.heap.size with k | k
  · exact k
  · unfold World.cell? at h
    simp [Array.getElem?_eq_none k] at h
end Go.Fp
