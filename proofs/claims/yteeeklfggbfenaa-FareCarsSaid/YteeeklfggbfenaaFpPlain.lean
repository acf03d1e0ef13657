/- Plain lemmas on the words of the mirrors. No condition. -/
import Derived.Test.YteeeklfggbfenaaFpVec
import Derived.IntWalk
namespace Go.Fp

theorem w64_id {x : Int} (h : -9223372036854775808 ≤ x ∧ x ≤ 9223372036854775807) : w64 x = x := IntWalk.i64_in x h

theorem gx_nat {α : Type} (l : List α) (k : Nat) : gx l (k : Int) = l[k]? := by simp [gx]
theorem gx_zero {α : Type} (l : List α) : gx l 0 = l[0]? := by simp [gx]
theorem gx_in {α : Type} {l : List α} {i : Int} (h0 : 0 ≤ i) (h1 : i < l.length) : ∃ x, gx l i = some x ∧ x ∈ l := by
  have h : i.toNat < l.length := by omega
  exact ⟨l[i.toNat], by simp [gx, h0, h], List.getElem_mem h⟩

theorem bnd_eq {α β : Type} (x : α) (f : α → β) : bnd x f = f x := rfl

theorem gx_at {α : Type} {l : List α} {k : Nat} (h : k < l.length) : gx l ((k : Nat) : Int) = some l[k] := by rw [gx_nat, List.getElem?_eq_getElem h]
theorem gx_toNat {α : Type} {l : List α} {i : Int} (h0 : 0 ≤ i) (h1 : i.toNat < l.length) : gx l i = some l[i.toNat] := by unfold gx; rw [if_pos h0, List.getElem?_eq_getElem h1]
/-- the element ahead of the k-th one -/
theorem gx_prev {α : Type} {l : List α} {k : Nat} (h0 : 0 < k) (h1 : k ≤ l.length) (hs : l.length ≤ 9223372036854775807) : gx l (w64 (((k : Nat) : Int) - 1)) = some (l[k - 1]'(by omega)) := by
  rw [w64_id (by omega)]
  have e : ((k : Int) - 1) = ((k - 1 : Nat) : Int) := by omega
  rw [e, gx_at (by omega)]
theorem ix_in {α : Type} {l : List α} {i : Int} (h0 : 0 ≤ i) (h1 : i < l.length) : ix l i = some () := by unfold ix; rw [if_pos ⟨h0, h1⟩]
theorem sx_in {α : Type} {l : List α} {i : Int} (h0 : 0 ≤ i) (h1 : i < l.length) (x : α) : sx l i x = some (l.set i.toNat x) := by unfold sx; rw [if_pos ⟨h0, h1⟩]
theorem apd_lt {α : Type} {a b : List α} (h : a.length + b.length < 4294967296) : apd a b = some (a ++ b) := by unfold apd; rw [if_pos h]
theorem mks_in {α : Type} {m : Nat} (h : m < 4294967296) (z : α) : mks ((m : Nat) : Int) z = some (List.replicate m z) := by unfold mks; rw [if_pos (by omega)]; simp
theorem cutl_in {α : Type} {l : List α} {lo hi : Int} (h0 : 0 ≤ lo) (h1 : lo ≤ hi) (h2 : hi ≤ l.length) : cutl l lo hi = some ((l.take hi.toNat).drop lo.toNat) := by unfold cutl; rw [if_pos ⟨h0, h1, h2⟩]

/-- there is an answer -/
def Tot {α : Type} (x : Option α) : Prop := ∃ z, x = some z
theorem Tot.some {α : Type} (x : α) : Tot (some x) := ⟨x, rfl⟩
theorem Tot.ite {α : Type} {b : Bool} {x y : Option α} (h : b = true → Tot x) (k : b = false → Tot y) : Tot (if b = true then x else y) := by
  cases b
  · exact k rfl
  · exact h rfl
theorem Tot.bind {α β : Type} {x : Option α} {f : α → Option β} (h : Tot x) (k : ∀ z, x = Option.some z → Tot (f z)) : Tot (x.bind f) := by
  obtain ⟨z, rfl⟩ := h; exact k z rfl
theorem Tot.bind1 {α β : Type} {x : Option α} {f : α → Option β} {z : α} (h : x = Option.some z) (k : Tot (f z)) : Tot (x.bind f) := by
  subst h; exact k
theorem Tot.bnd {α β : Type} {x : α} {f : α → Option β} (k : Tot (f x)) : Tot (Go.Fp.bnd x f) := k

theorem szL_mem {α : Type} {f : α → Nat} {l : List α} {x : α} (h : x ∈ l) : f x + 1 ≤ szL f l := by
  unfold szL
  induction l with
  | nil => cases h
  | cons y l ih =>
    simp only [List.map_cons, List.sum_cons]
    rcases List.mem_cons.1 h with rfl | h
    · omega
    · have := ih h; omega

theorem ite_same {α : Type} {b : Bool} {x y y' : α} (h : b = false → y = y') : (if b = true then x else y) = (if b = true then x else y') := by
  cases b
  · exact h rfl
  · rfl
theorem ite_both {α : Type} {b : Bool} {x x' y y' : α} (k : b = true → x = x') (h : b = false → y = y') : (if b = true then x else y) = (if b = true then x' else y') := by
  cases b
  · exact h rfl
  · exact k rfl
theorem bind_same {α β : Type} {x : Option α} {f g : α → Option β} (h : ∀ z, x = some z → f z = g z) : x.bind f = x.bind g := by
  cases x
  · rfl
  · exact h _ rfl

end Go.Fp
