/- Plain lemmas on the words of the mirrors. No condition. -/
import Derived.Test.YthllfhmpjclplaaGreatDoorFpVec
import Derived.IntWalk
namespace Go.Fp
theorem Q5 {x : Int} (h : -9223372036854775808 ≤ x ∧ x ≤ 9223372036854775807) : w64 x = x := IntWalk.i64_in x h
theorem O0 {α : Type} (l : List α) (k : Nat) : gx l (k : Int) = l[k]? := by simp [gx]
theorem a2K {α : Type} {l : List α} {i : Int} (h0 : 0 ≤ i) (h1 : i < l.length) : ∃ x, gx l i = some x ∧ x ∈ l := by
  have h : i.toNat < l.length := by omega
  exact ⟨l[i.toNat], by simp [gx, h0, h], List.getElem_mem h⟩
theorem J1 {α β : Type} (x : α) (f : α → β) : bnd x f = f x := rfl
theorem V0 {α : Type} {l : List α} {k : Nat} (h : k < l.length) : gx l ((k : Nat) : Int) = some l[k] := by rw [O0, List.getElem?_eq_getElem h]
theorem X7 {α : Type} {l : List α} {k : Nat} (h0 : 0 < k) (h1 : k ≤ l.length) (hs : l.length ≤ 9223372036854775807) : gx l (w64 (((k : Nat) : Int) - 1)) = some (l[k - 1]'(by omega)) := by
  rw [Q5 (by omega)]
  have e : ((k : Int) - 1) = ((k - 1 : Nat) : Int) := by omega
  rw [e, V0 (by omega)]
theorem a3f {α : Type} {l : List α} {i : Int} (h0 : 0 ≤ i) (h1 : i < l.length) : ix l i = some () := by unfold ix; rw [if_pos ⟨h0, h1⟩]
theorem a3y {α : Type} {l : List α} {i : Int} (h0 : 0 ≤ i) (h1 : i < l.length) (x : α) : sx l i x = some (l.set i.toNat x) := by unfold sx; rw [if_pos ⟨h0, h1⟩]
theorem M8 {α : Type} {a b : List α} (h : a.length + b.length < 4294967296) : apd a b = some (a ++ b) := by unfold apd; rw [if_pos h]
theorem a5N {α : Type} {m : Nat} (h : m < 4294967296) (z : α) : mks ((m : Nat) : Int) z = some (List.replicate m z) := by unfold mks; rw [if_pos (by omega)]; simp
theorem a0P {α : Type} {l : List α} {lo hi : Int} (h0 : 0 ≤ lo) (h1 : lo ≤ hi) (h2 : hi ≤ l.length) : a2M l lo hi = some ((l.take hi.toNat).drop lo.toNat) := by unfold a2M; rw [if_pos ⟨h0, h1, h2⟩]
def Tot {α : Type} (x : Option α) : Prop := ∃ z, x = some z
theorem Tot.some {α : Type} (x : α) : Tot (some x) := ⟨x, rfl⟩
theorem Tot.bind {α β : Type} {x : Option α} {f : α → Option β} (h : Tot x) (k : ∀ z, x = Option.some z → Tot (f z)) : Tot (x.bind f) := by
  obtain ⟨z, rfl⟩ := h; exact k z rfl
theorem Tot.bnd {α β : Type} {x : α} {f : α → Option β} (k : Tot (f x)) : Tot (Go.Fp.bnd x f) := k
end Go.Fp
