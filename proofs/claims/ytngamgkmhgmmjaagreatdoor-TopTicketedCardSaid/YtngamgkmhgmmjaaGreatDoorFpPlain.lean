/- Plain lemmas on the words of the mirrors. No condition. -/
import Derived.Test.YtngamgkmhgmmjaaGreatDoorFpVec
import Derived.IntWalk
namespace Go.Fp

theorem w64_id {x : Int} (h : -9223372036854775808 ≤ x ∧ x ≤ 9223372036854775807) : w64 x = x := IntWalk.i64_in x h

theorem gx_nat {α : Type} (l : List α) (k : Nat) : gx l (k : Int) = l[k]? := by simp [gx]
theorem gx_zero {α : Type} (l : List α) : gx l 0 = l[0]? := by simp [gx]
theorem gx_in {α : Type} {l : List α} {i : Int} (h0 : 0 ≤ i) (h1 : i < l.length) : ∃ x, gx l i = some x ∧ x ∈ l := by
  have h : i.toNat < l.length := by omega
  exact ⟨l[i.toNat], by simp [gx, h0, h], List.getElem_mem h⟩

theorem bnd_eq {α β : Type} (x : α) (f : α → β) : bnd x f = f x := rfl

theorem gx_at {α : Type} {l : List α} {k : Nat} (h : k < l.length) : gx l ((k : Nat) : Int) = some l[k] := by rw [gx_nat, List.getElem?_eq_getElem h]
/-- the element ahead of the k-th one -/
theorem gx_prev {α : Type} {l : List α} {k : Nat} (h0 : 0 < k) (h1 : k ≤ l.length) (hs : l.length ≤ 9223372036854775807) : gx l (w64 (((k : Nat) : Int) - 1)) = some (l[k - 1]'(by omega)) := by
  rw [w64_id (by omega)]
  have e : ((k : Int) - 1) = ((k - 1 : Nat) : Int) := by omega
  rw [e, gx_at (by omega)]
theorem apd_lt {α : Type} {a b : List α} (h : a.length + b.length < 4294967296) : apd a b = some (a ++ b) := by unfold apd; rw [if_pos h]
theorem cutl_in {α : Type} {l : List α} {lo hi : Int} (h0 : 0 ≤ lo) (h1 : lo ≤ hi) (h2 : hi ≤ l.length) : cutl l lo hi = some ((l.take hi.toNat).drop lo.toNat) := by unfold cutl; rw [if_pos ⟨h0, h1, h2⟩]

/-- there is an answer -/
def Tot {α : Type} (x : Option α) : Prop := ∃ z, x = some z
theorem Tot.some {α : Type} (x : α) : Tot (some x) := ⟨x, rfl⟩
theorem Tot.ite {α : Type} {b : Bool} {x y : Option α} (h : b = true → Tot x) (k : b = false → Tot y) : Tot (if b = true then x else y) := by
  cases b
  · exact k rfl
  · exact h rfl
theorem Tot.bind {α β : Type} {x : Option α} {f : α → Option β} (h : Tot x) (k : ∀ z, x = Option.some z → Tot (f z)) : Tot (x.bind f) := by
  obtain ⟨z, rfl⟩ := h; exact k z rfl
theorem Tot.bind1 {α β : Type} {x : Option α} {f : α → Option β} {z : α} (h : x = Option.some z) (k : Tot (f z)) : Tot (x.bind f) := by
  subst h; exact k
theorem Tot.bnd {α β : Type} {x : α} {f : α → Option β} (k : Tot (f x)) : Tot (Go.Fp.bnd x f) := k

end Go.Fp
