/- copy: into a slice of the call's own, out of what stays or out of the same slice. No condition. -/
import Derived.Test.YtfdifpegldailaaGreatDoorFpGrid
namespace Go.Fp
open Go
theorem Ev.drop {α : Type} {es : Nat} {R : Rd α} {s : Sg} {cs : List Value} {l : List α} (q : Ev es R s cs l) (m : Nat) : Ev es R s (cs.drop (m * es)) (l.drop m) := by
  refine ⟨by rw [List.length_drop, List.length_drop, q.len, Nat.sub_mul], fun k x hk => ?_⟩
  rw [List.getElem?_drop] at hk
  have := q.el _ _ hk
  rw [List.drop_drop]
  rwa [show m * es + k * es = (m + k) * es by rw [Nat.add_mul]]
section
variable {P : Program} {K : Kt} {a : Act} {w : World} {s : Sg} {R : List HP} {n : Nat} {E : Env} {ops : Array Oper} {rest : List Oper} {d : Option Tmp} {ty : TypeId} {pos : String} {aft : Array Edge} {g : Option (Nat × Bool)}
variable {α : Type} {Rr : Rd α}
def cpOk (P : Program) (t e es : Nat) : Bool := match P.underlying t with | some (.slice e') => Nat.beq e' e && (match P.info? e with | some i => Nat.beq i.size es && Nat.blt 0 es | none => false) | _ => false
theorem cpOk.get {P : Program} {t e es : Nat} (h : cpOk P t e es = true) : P.underlying t = some (.slice e) ∧ 0 < es ∧ ∃ i, P.info? e = some i ∧ i.size = es := by
  unfold cpOk at h
  split at h
  · rename_i e' hu
    simp only [Bool.and_eq_true] at h
    have h1 := Nat.eq_of_beq_eq_true h.1
    subst h1
    have h2 := h.2
    split at h2
    · rename_i i hi
      simp only [Bool.and_eq_true] at h2
      have h3 : 0 < es := by have := h2.2; simp [Nat.blt] at this; omega
      exact ⟨hu, h3, i, hi, Nat.eq_of_beq_eq_true h2.1⟩
    · cases h2
  · cases h
end
theorem Ev.flat {α : Type} {es : Nat} {R : Rd α} {s1 s2 : Sg} (hR : ∀ s t cs x, R s cs x → R t cs x) {cs : List Value} {l : List α} (q : Ev es R s1 cs l) : Ev es R s2 cs l := ⟨q.len, fun k x hk => hR _ _ _ _ (q.el k x hk)⟩
section
variable {P : Program} {K : Kt} {a : Act} {w : World} {s : Sg} {R : List HP} {n : Nat} {E : Env} {ops : Array Oper} {rest : List Oper} {d : Option Tmp} {ty : TypeId} {pos : String} {aft : Array Edge} {g : Option (Nat × Bool)}
variable {α : Type} {Rr : Rd α}
end
theorem aok.isNone {a : Option Addr} (h : aok a) : a.isNone = false := by obtain ⟨b, o, rfl⟩ := h; rfl
section
variable {P : Program} {a : Act} {n : Nat} {E : Env} {d : Option Tmp} {ty : TypeId} {pos : String} {aft : Array Edge} {g : Option (Nat × Bool)}
end
end Go.Fp
