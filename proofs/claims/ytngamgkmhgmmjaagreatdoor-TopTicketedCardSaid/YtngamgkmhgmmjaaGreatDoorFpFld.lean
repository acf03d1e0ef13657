/- A field of a struct's value. No condition. -/
import Derived.Test.YtngamgkmhgmmjaaGreatDoorFpMore
namespace Go.Fp
open Go
/-- field f of struct type t lies at off and is of type ft: one cell, or (agg) n cells -/
def fdOk (P : Program) (t f off ft : Nat) : Bool :=
  match P.underlying t with
  | some (.struct fs) => match fs.toList[f]? with
    | some x => Nat.beq x.offset off && Nat.beq x.type ft
    | none => false
  | _ => false
section
variable {P : Program} {a : Act} {n : Nat} {E : Env} {d : Option Tmp} {ty : TypeId} {pos : String} {aft : Array Edge} {g : Option (Nat × Bool)}
theorem run_field {t f off ft : Nat} {cs : List Value} {w : World} (h : fdOk P t f off ft = true) : (Instr.field t (.agg cs.toArray) f).run P w = (part ft cs.toArray off).run P w := by
  unfold fdOk at h
  split at h
  · rename_i fs hu
    split at h
    · rename_i x hx
      simp only [Bool.and_eq_true] at h
      have e1 := Nat.eq_of_beq_eq_true h.1
      have e2 := Nat.eq_of_beq_eq_true h.2
      have hx' : fs[f]? = some x := by simpa using hx
      unfold Instr.field
      simp [Sem.run_bind, run_underlying hu, hx', asAgg, e1, e2]
    · cases h
  · cases h
theorem Gives.field1 {C : World → Prop} (hE : Rep a n E) {t f off ft : Nat} {x : Operand} {cs : List Value} {v : Value} (hx : E.ev x = some (.agg cs.toArray)) (h : fdOk P t f off ft = true) (ht : tyOk P ft false 1 = true) (hv : cs[off]? = some v) :
    Gives P C a ⟨d, .field t x f, ty, pos, aft, g⟩ v := by
  intro w _
  have h1 := tyOk.agg ht w
  simp only [execOp, hE.ev hx]
  rw [Sem.run_bind]
  rw [run_field h]
  unfold part
  simp [Sem.run_bind, h1, hv]
end
end Go.Fp
