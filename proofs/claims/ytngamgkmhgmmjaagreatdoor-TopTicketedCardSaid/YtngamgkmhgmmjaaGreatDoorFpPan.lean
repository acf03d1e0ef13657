/- Functions that may panic below one that recovers: the panic as a second end of a contract. No condition. -/
import Derived.Test.YtngamgkmhgmmjaaGreatDoorFpDefer
import Derived.Test.YtngamgkmhgmmjaaGreatDoorFpReg
import Derived.Test.YtngamgkmhgmmjaaGreatDoorFpErr
import Derived.WalkKit
import Derived.Recover
import Derived.OneCell
namespace Go.Fp
open Go

/-- a type that is no interface -/
def ifcOk (P : Program) (t : TypeId) : Bool := match P.underlying t with
  | some (.interface _) => false
  | some _ => true
  | none => false

section
variable {P : Program} {a : Act} {n : Nat} {E : Env} {d : Option Tmp} {ty : TypeId} {pos : String} {aft : Array Edge} {g : Option (Nat × Bool)}
theorem Gives.iface {C : World → Prop} (hE : Rep a n E) {t : TypeId} {x : Operand} {v : Value} (hx : E.ev x = some v) (h : ifcOk P t = true) : Gives P C a ⟨d, .makeInterface t x, ty, pos, aft, g⟩ (.iface t v) := by
  intro w _
  unfold ifcOk at h
  cases hu : P.underlying t with
  | none => rw [hu] at h; cases h
  | some u =>
    rw [hu] at h
    have e : (underlying t).run P w = .ok u w := by simp [underlying, hu]
    have := hE.ev hx
    cases u <;> simp_all [execOp, Instr.makeInterface]
theorem Gives.errNe {C : World → Prop} (hE : Rep a n E) {t t' : TypeId} {x : Operand} {v : Value} {ok : Bool} (ht : ifOk P t = true) (hv : ErrV v ok) (hx : E.ev x = some v) : Gives P C a ⟨d, .binOp .neq t x (.const .nilIface) t', ty, pos, aft, g⟩ (.bool (!ok)) := by
  intro w _
  have h0 : a.eval (.const .nilIface) = .nilIface := rfl
  cases ok with
  | true =>
    obtain rfl : v = .nilIface := hv
    simp [execOp, hE.ev hx, h0, eqGuard, run_neq_nil_nil _ _ (ifOk.und ht)]
  | false =>
    obtain ⟨u, p, rfl⟩ : ∃ t p, v = .iface t p := hv
    simp [execOp, hE.ev hx, h0, eqGuard, run_neq_held_nil _ _ _ _ (ifOk.und ht)]
end

/-- the one cell of a box of the call's own -/
theorem St.cell1 {w : World} {s : Sg} {R : List HP} (i : Nat) {b T : Nat} {v : Value} (q : St w s R) (hr : R[i]? = some (pt b (.cells #[v] T (0, 0)))) : w.cell? ⟨b, 0, none⟩ = some v ∧ w.frozen? ⟨b, 0, none⟩ = false := by
  have h := (q.front i hr).at
  constructor
  · simp [World.cell?, h]
  · simp [World.frozen?, h]

/-- what a closure that recovers leaves: a block more, and false in one cell -/
theorem St.recov {w : World} {s : Sg} {R : List HP} (i : Nat) {b T : Nat} {v : Value} (q : St w s R) (hr : R[i]? = some (pt b (.cells #[v] T (0, 0)))) (o : Obj) (u : Value) :
    St ((w.alloc o).setCell ⟨b, 0, none⟩ u) s (R.set i (pt b (.cells #[u] T (0, 0)))) := by
  have h0 := (q.front i hr).at
  have hb : b < w.heap.size := (Array.getElem?_eq_some_iff.1 h0).1
  have h2 : (w.alloc o).heap[b]? = some (.cells #[v] T (0, 0)) := by rw [heap_alloc_old _ _ hb]; exact h0
  exact (q.alloc o).tail.setAt i hr (one_setCell h2) (fun k hk => heap_setCell_other _ _ _ _ hk) rfl rfl
end Go.Fp
