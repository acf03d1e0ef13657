/- An element of an array of structs that lies in a slot. No condition. -/
import Derived.Test.YtpcebngchmgckaaGreatDoorFpVec
namespace Go.Fp
open Go
section
variable {P : Program} {C : World → Prop} {a : Act} {n : Nat} {E : Env} {d : Option Tmp} {ty : TypeId} {pos : String} {aft : Array Edge} {g : Option (Nat × Bool)}
def arS (P : Program) (t m es : Nat) : Bool :=
  match P.underlying t with
  | some (.array k e) => Nat.beq k m && (match P.underlying e, P.info? e with
    | some (.struct _), some i => Nat.beq i.size es
    | _, _ => false)
  | _ => false
theorem Gives.indexS (hE : Rep a n E) {t m es : Nat} {x ix : Operand} {cs c : List Value} {i : Int} {kd : IntKind} (k : Nat) (ht : arS P t m es = true) (hx : E.ev x = some (.agg cs.toArray)) (hi : E.ev ix = some (.int kd i))
    (hik : i = (k : Int)) (hkm : k < m) (hc : (cs.drop (k * es)).take es = c) : Gives P C a ⟨d, .index t x ix, ty, pos, aft, g⟩ (.agg c.toArray) := by
  intro w _
  subst hik hc
  unfold arS at ht
  split at ht
  · rename_i k' e hu
    simp only [Bool.and_eq_true] at ht
    have h1 := Nat.eq_of_beq_eq_true ht.1
    have h2 := ht.2
    subst h1
    split at h2
    · rename_i fs i hd hi'
      have h3 := Nat.eq_of_beq_eq_true h2
      have hpart : (part e cs.toArray (k * es)).run P w = .ok (.agg ((cs.drop (k * es)).take es).toArray) w := by
        unfold part
        have hagg : (isAgg e).run P w = .ok true w := by
          unfold isAgg; rw [Sem.run_bind, run_underlying hd w]; rfl
        simp [Sem.run_bind, hagg, sizeOf, typeInfo, hi', h3]
      simp [execOp, hE.ev hx, hE.ev hi, Instr.index, asIntOf, run_underlying hu, hkm, sizeOf, typeInfo, hi', h3, hpart]
    · cases h2
  · cases ht
end
end Go.Fp
