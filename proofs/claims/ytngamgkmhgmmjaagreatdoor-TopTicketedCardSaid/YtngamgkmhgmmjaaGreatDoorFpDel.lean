/- Delete: the upper part of a slice of the call's own moved down in its place, and what then lies behind its length cleared. No condition. -/
import Derived.Test.YtngamgkmhgmmjaaGreatDoorFpCopy
import Derived.IntWalk
namespace Go.Fp
open Go

/-- a cut of what stays, at its place -/
theorem Sl.cutA {α : Type} {es : Nat} {Rr : Rd α} {s : Sg} {a : Option Addr} {c : Nat} {l r : List α} {lo hi : Int} (q : Sl es Rr s a c l) (h : cutl l lo hi = some r) : Sl es Rr s (cutA a c lo.toNat es) (c - lo.toNat) r := by
  obtain ⟨a2, c2, e, q2⟩ := q.cut h
  rw [cutA_sliced] at e
  injection e with e1 e2 e3
  rw [e1, e3]; exact q2
section
variable {P : Program} {K : Kt} {a : Act} {w : World} {s : Sg} {R : List HP} {n : Nat} {E : Env} {ops : Array Oper} {rest : List Oper} {d : Option Tmp} {ty : TypeId} {pos : String} {aft : Array Edge} {g : Option (Nat × Bool)}
variable {α : Type} {Rr : Rd α}

theorem Gives.cap {C : World → Prop} (hE : Rep a n E) {t e es : TypeId} {x : Operand} {sa : Option Addr} {m c : Nat}
    (hx : E.ev x = some (.slice sa m c)) (ht : slOk P t e es = true) : Gives P C a ⟨d, .call ⟨.builtin .cap, #[x], #[t]⟩, ty, pos, aft, g⟩ (.int .i64 c) := by
  intro w _
  have hu2 : P.underlying t = some (.slice (P.elem t)) := by unfold Program.elem; rw [slOk.und ht]
  simp [execOp, resolve, invoke, builtin, hE.ev hx, run_cap_slice w t ty sa m c hu2, goInt]

def clOk (P : Program) (t e es : Nat) : Bool :=
  match P.underlying t, P.info? e with
  | some (.slice e'), some i => Nat.beq e' e && Nat.beq i.size es && (match i.zero with | some z => Nat.beq z.cells.size es && z.cells.toList.all (fun v => v.oneCell') | none => false) && Nat.blt 0 es
  | _, _ => false
theorem clOk.get {P : Program} {t e es : Nat} (h : clOk P t e es = true) : P.underlying t = some (.slice e) ∧ ∃ i z, P.info? e = some i ∧ i.size = es ∧ i.zero = some z ∧ z.cells.size = es ∧ (∀ v ∈ z.cells.toList, v.oneCell' = true) ∧ 0 < es := by
  unfold clOk at h
  split at h
  · rename_i e' i hu hi
    simp only [Bool.and_eq_true] at h
    obtain ⟨⟨⟨h1, h2⟩, h4⟩, h5⟩ := h
    split at h4
    · rename_i z hz
      simp only [Bool.and_eq_true] at h4
      refine ⟨by rw [hu, Nat.eq_of_beq_eq_true h1], i, z, hi, Nat.eq_of_beq_eq_true h2, hz, Nat.eq_of_beq_eq_true h4.1, fun v hv => List.all_eq_true.1 h4.2 v hv, by simp [Nat.blt] at h5; omega⟩
    · cases h4
  · cases h

end
end Go.Fp
