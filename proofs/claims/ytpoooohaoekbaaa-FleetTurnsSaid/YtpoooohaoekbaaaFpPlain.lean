/- Plain lemmas on the words of the mirrors. No condition. -/
import Derived.Test.YtpoooohaoekbaaaFpVec
import Derived.IntWalk
namespace Go.Fp

theorem w64_id {x : Int} (h : -9223372036854775808 ≤ x ∧ x ≤ 9223372036854775807) : w64 x = x := IntWalk.i64_in x h

theorem gx_nat {α : Type} (l : List α) (k : Nat) : gx l (k : Int) = l[k]? := by simp [gx]
theorem gx_zero {α : Type} (l : List α) : gx l 0 = l[0]? := by simp [gx]
theorem gx_in {α : Type} {l : List α} {i : Int} (h0 : 0 ≤ i) (h1 : i < l.length) : ∃ x, gx l i = some x ∧ x ∈ l := by
  have h : i.toNat < l.length := by omega
  exact ⟨l[i.toNat], by simp [gx, h0, h], List.getElem_mem h⟩

theorem bnd_eq {α β : Type} (x : α) (f : α → β) : bnd x f = f x := rfl

end Go.Fp
