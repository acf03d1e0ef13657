/- Pointers to what stays, told as data that may be missing. No condition. -/
import Derived.Test.YtngamgkmhgmmjaaGreatDoorFpStr
import Derived.Laws.Pointers
namespace Go.Fp
open Go

/-- a points to x: nowhere, or to cells that stay -/
def Pt {α : Type} (es : Nat) (R : Rd α) (s : Sg) (a : Option Addr) (x : Option α) : Prop :=
  match x with
  | none => a = none
  | some v => ∃ b o cs, a = some ⟨b, o, none⟩ ∧ cs.length = es ∧ s.At b o cs ∧ R s cs v
def RP {α : Type} (es : Nat) (R : Rd α) : Rd (Option α) := fun s cs x => ∃ a, cs = [.pointer a] ∧ Pt es R s a x

theorem Pt.nil {α : Type} {es : Nat} {R : Rd α} {s : Sg} : Pt es R s none (none : Option α) := rfl
theorem Pt.mono {α : Type} {es : Nat} {R : Rd α} (hR : Rmono R) {s t : Sg} (h : s.Le t) {a : Option Addr} {x : Option α} (q : Pt es R s a x) : Pt es R t a x := by
  cases x with
  | none => exact q
  | some v => obtain ⟨b, o, cs, h1, h2, h3, h4⟩ := q; exact ⟨b, o, cs, h1, h2, h3.mono h, hR _ _ h _ _ h4⟩
theorem RP.mono {α : Type} {es : Nat} {R : Rd α} (hR : Rmono R) : Rmono (RP es R) := fun _ _ h _ _ ⟨a, h1, h2⟩ => ⟨a, h1, h2.mono hR h⟩
theorem RP.one {α : Type} {es : Nat} {R : Rd α} : Rone (RP es R) := by rintro s cs x ⟨a, rfl, _⟩; rfl

theorem Pt.at {α : Type} {es : Nat} {R : Rd α} {s : Sg} {a : Option Addr} {x : Option α} {v : α} (q : Pt es R s a x) (hx : x = some v) :
    ∃ b o cs, a = some ⟨b, o, none⟩ ∧ cs.length = es ∧ R s cs v ∧ ∀ w rs, St w s rs → Sees w b o cs := by
  subst hx
  obtain ⟨b, o, cs, h1, h2, h3, h4⟩ := q
  exact ⟨b, o, cs, h1, h2, h4, fun w rs hS => hS.sees h3⟩
theorem Pt.isNone {α : Type} {es : Nat} {R : Rd α} {s : Sg} {a : Option Addr} {x : Option α} (q : Pt es R s a x) : a.isNone = x.isNone := by
  cases x with
  | none => rw [show a = none from q]; rfl
  | some v => obtain ⟨b, o, cs, h1, _⟩ := q; rw [h1]; rfl

def ptOk (P : Program) (t e : TypeId) : Bool := match P.underlying t with | some (.pointer e') => Nat.beq e' e | _ => false
theorem ptOk.und {P : Program} {t e : TypeId} (h : ptOk P t e = true) : P.underlying t = some (.pointer (P.pointee t)) := by
  unfold ptOk at h
  split at h
  · rename_i e' hu
    rw [hu]; unfold Program.pointee; rw [hu]
  · cases h

section
variable {P : Program} {C : World → Prop} {a : Act} {n : Nat} {E : Env} {d : Option Tmp} {ty : TypeId} {pos : String} {aft : Array Edge} {g : Option (Nat × Bool)}

theorem run_eqPtr {t e : TypeId} (h : ptOk P t e = true) (p : Option Addr) (w : World) : (Op.equal t (.pointer p) (.pointer none)).run P w = .ok p.isNone w := run_equalIn_pointer_nil w 9999 t p (ptOk.und h)
theorem Gives.isNilP (hE : Rep a n E) {t t' e : Nat} {x y : Operand} {p : Option Addr} (hx : E.ev x = some (.pointer p)) (hy : E.ev y = some (.pointer none)) (h : ptOk P t e = true) :
    Gives P C a ⟨d, .binOp .eql t x y t', ty, pos, aft, g⟩ (.bool p.isNone) := by
  intro w _
  simp [execOp, hE.ev hx, hE.ev hy, eqGuard, binOp, run_eqPtr h]
end

end Go.Fp
