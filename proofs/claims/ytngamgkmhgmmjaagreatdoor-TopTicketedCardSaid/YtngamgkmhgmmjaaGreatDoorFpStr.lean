/- Strings as data: length, bytes, parts, joining, comparing; arrays compared; shifts by a variable. No condition. -/
import Derived.Test.YtngamgkmhgmmjaaGreatDoorFpNest
import Derived.Laws.Strings
import Derived.ChangeKeysEq
namespace Go.Fp
open Go

def stOk (P : Program) (t : TypeId) : Bool := match P.underlying t with | some .string => true | _ => false
theorem stOk.und {P : Program} {t : TypeId} (h : stOk P t = true) : P.underlying t = some .string := by
  unfold stOk at h
  split at h
  · assumption
  · cases h

abbrev str (l : List UInt8) : ByteArray := ⟨l.toArray⟩
def sgx (s : ByteArray) (i : Int) : Option Int := (gx s.data.toList i).map fun b => (b.toNat : Int)
def seq (x y : ByteArray) : Bool := x.data.toList == y.data.toList
def scat (x y : ByteArray) : Option ByteArray := if x.size + y.size ≤ 9223372036854775807 then some (x ++ y) else none
def scut (s : ByteArray) (lo hi : Int) : Option ByteArray := if 0 ≤ lo ∧ lo ≤ hi ∧ hi ≤ s.size then some (s.extract lo.toNat hi.toNat) else none
def szok (s : ByteArray) : Option Unit := if s.size ≤ 9223372036854775807 then some () else none
theorem szok_some {s : ByteArray} {u : Unit} (h : szok s = some u) : s.size ≤ 9223372036854775807 := by
  unfold szok at h
  split at h
  · assumption
  · cases h
/-- a shift's count is not below 0 -/
def nn (y : Int) : Option Unit := if 0 ≤ y then some () else none
section
variable {P : Program} {C : World → Prop} {a : Act} {n : Nat} {E : Env} {d : Option Tmp} {ty : TypeId} {pos : String} {aft : Array Edge} {g : Option (Nat × Bool)}

theorem Gives.lenS (hE : Rep a n E) {t : TypeId} {x : Operand} {s : ByteArray} (hx : E.ev x = some (.string s)) (ht : stOk P t = true) : Gives P C a ⟨d, .call ⟨.builtin .len, #[x], #[t]⟩, ty, pos, aft, g⟩ (.int .i64 ((s.size : Nat) : Int)) := by
  intro w _
  simp [execOp, resolve, invoke, builtin, hE.ev hx, Builtin.len_, run_underlying (stOk.und ht), goInt]

theorem Gives.idxS (hE : Rep a n E) {t : TypeId} {x y : Operand} {s : ByteArray} {k : IntKind} {i v : Int} (ht : stOk P t = true) (hx : E.ev x = some (.string s)) (hy : E.ev y = some (.int k i)) (hv : sgx s i = some v) :
    Gives P C a ⟨d, .index t x y, ty, pos, aft, g⟩ (.int .u8 v) := by
  intro w _
  unfold sgx at hv
  rw [Option.map_eq_some_iff] at hv
  obtain ⟨b, h1, rfl⟩ := hv
  obtain ⟨h2, h3, h4⟩ := gx_some h1
  have hl : s.data.toList.length = s.size := by cases s; rfl
  have hi : 0 ≤ i ∧ i < s.size := by omega
  have hb : s[i.toNat]'(by omega) = b := by
    rw [List.getElem?_eq_getElem h3] at h4
    have := Option.some.inj h4
    rw [← this]
    cases s
    rfl
  simp only [execOp, hE.ev hx, hE.ev hy, Sem.run_bind, run_index_string w t s k i (stOk.und ht), dif_pos hi, Result.andThen_ok, hb]
  exact rfl

theorem Gives.catS (hE : Rep a n E) {t t' : TypeId} {x y : Operand} {p q r : ByteArray} (hx : E.ev x = some (.string p)) (hy : E.ev y = some (.string q)) (h : scat p q = some r) :
    Gives P C a ⟨d, .binOp .add t x y t', ty, pos, aft, g⟩ (.string r) := by
  intro w _
  unfold scat at h
  split at h
  · rename_i hs
    cases h
    simp [execOp, hE.ev hx, hE.ev hy, eqGuard, binOp, Op.stringOp]
    omega
  · cases h

theorem Gives.eqSt (hE : Rep a n E) {t t' : TypeId} {x y : Operand} {p q : ByteArray} (hx : E.ev x = some (.string p)) (hy : E.ev y = some (.string q)) :
    Gives P C a ⟨d, .binOp .eql t x y t', ty, pos, aft, g⟩ (.bool (seq p q)) := by
  intro w _
  simp [execOp, hE.ev hx, hE.ev hy, eqGuard, binOp, Op.stringOp, seq, ByteArray.toList_eq]
theorem Gives.neSt (hE : Rep a n E) {t t' : TypeId} {x y : Operand} {p q : ByteArray} (hx : E.ev x = some (.string p)) (hy : E.ev y = some (.string q)) :
    Gives P C a ⟨d, .binOp .neq t x y t', ty, pos, aft, g⟩ (.bool (!(seq p q))) := by
  intro w _
  simp [execOp, hE.ev hx, hE.ev hy, eqGuard, binOp, Op.stringOp, seq, ByteArray.toList_eq]
theorem Gives.cutSL (hE : Rep a n E) {t : TypeId} {x : Operand} {lo : Operand} {s r : ByteArray} {k : IntKind} {p : Int} (ht : stOk P t = true) (hx : E.ev x = some (.string s)) (hl : E.ev lo = some (.int k p)) (h : scut s p ((s.size : Nat) : Int) = some r) :
    Gives P C a ⟨d, .slice t x (some lo) none none, ty, pos, aft, g⟩ (.string r) := by
  intro w _
  unfold scut at h
  split at h
  · rename_i hs
    cases h
    have h2 : 0 ≤ p ∧ p ≤ (s.size : Int) := by omega
    simp [execOp, hE.ev hx, hE.ev hl, run_sliceAt_string _ t _ _ _ _ (stOk.und ht), Instr.slice, run_underlying (stOk.und ht), Instr.sliceBounds, Instr.sliceBound, asIntOf, h2]
  · cases h
theorem Gives.cutSH (hE : Rep a n E) {t : TypeId} {x : Operand} {hi : Operand} {s r : ByteArray} {k' : IntKind} {q : Int} (ht : stOk P t = true) (hx : E.ev x = some (.string s)) (hh : E.ev hi = some (.int k' q)) (h : scut s 0 q = some r) :
    Gives P C a ⟨d, .slice t x none (some hi) none, ty, pos, aft, g⟩ (.string r) := by
  intro w _
  unfold scut at h
  split at h
  · rename_i hs
    cases h
    have h1 : 0 ≤ q ∧ q ≤ (s.size : Int) := by omega
    simp [execOp, hE.ev hx, hE.ev hh, run_sliceAt_string _ t _ _ _ _ (stOk.und ht), Instr.slice, run_underlying (stOk.und ht), Instr.sliceBounds, Instr.sliceBound, asIntOf, h1]
  · cases h

end

end Go.Fp
