/- Numbers as decimal text: the library's table of powers stays as it was laid; what strconv.Itoa hands back. No condition. -/
import Derived.Test.YtngamgkmhgmmjaaGreatDoorFpGrow
import Derived.Test.YtngamgkmhgmmjaaGreatDoorFpOpen
import Derived.Lib.LaidTab
import Derived.Lib.ItoaNum
import Derived.Lib.ItoaMem
import Derived.Sort.Grow
import Derived.Deep.Draws
namespace Go.Fp
open Go

/-- the table lies in the memory that stays -/
def TabS (P : Program) (s : Sg) : Prop := ∀ w R, St w s R → Lib.TabIs P w "internal/strconv.uint64pow10" .u64 Lib.pow10Tab
theorem TabS.mono {P : Program} {s t : Sg} (h : s.Le t) (q : TabS P s) : TabS P t := fun w R hS => q w R (hS.down h)
theorem TabS.start {P : Program} {W : World} (h : Lib.TabIs P W "internal/strconv.uint64pow10" .u64 Lib.pow10Tab) : TabS P (s0 W) := by
  intro w R hS
  unfold Lib.TabIs World.var? at *
  cases hg : P.globalNamed "internal/strconv.uint64pow10" with
  | none => rw [hg] at h; cases h
  | some g =>
    rw [hg] at h
    simp only [Option.bind_some] at h ⊢
    cases hW : W.heap[g]? with
    | none => rw [hW] at h; cases h
    | some o =>
      rw [hW] at h
      have : w.heap[g]? = some o := hS.sub g o hW
      rw [this]
      exact h

/-- a number's text -/
def itoa (x : Int) : Option ByteArray := if -9223372036854775808 ≤ x ∧ x ≤ 9223372036854775807 then some ⟨(Lib.itoa x).toArray⟩ else none
theorem itoa_some {x : Int} {r : ByteArray} (h : itoa x = some r) : (-9223372036854775808 ≤ x ∧ x ≤ 9223372036854775807) ∧ r = ⟨(Lib.itoa x).toArray⟩ := by
  unfold itoa at h
  split at h
  · rename_i h1; simp at h; exact ⟨h1, h.symm⟩
  · cases h

theorem St.drewN {w : World} {s : Sg} {R : List HP} (k : Nat) (q : St w s R) : St (w.drewN k) s R := ⟨q.sub, q.own, q.os, q.out⟩
theorem St.growBy {w : World} {s : Sg} {R : List HP} (os : Array Obj) (q : St w s R) : St (Sort.grow w os) s R :=
  q.grown ⟨rfl, rfl, rfl, by simp [Sort.grow], fun k hk => by simp only [Sort.grow]; rw [Array.getElem?_append_left hk]⟩
end Go.Fp
