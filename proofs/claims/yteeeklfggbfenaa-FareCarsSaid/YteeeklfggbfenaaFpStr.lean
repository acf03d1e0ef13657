/- Strings as data: length, bytes, parts, joining, comparing; arrays compared; shifts by a variable. No condition. -/
import Derived.Test.YteeeklfggbfenaaFpNest
import Derived.Laws.Strings
import Derived.ChangeKeysEq
namespace Go.Fp
open Go

def stOk (P : Program) (t : TypeId) : Bool := match P.underlying t with | some .string => true | _ => false
theorem stOk.und {P : Program} {t : TypeId} (h : stOk P t = true) : P.underlying t = some .string := by
  unfold stOk at h
  split at h
  · assumption
  · cases h

abbrev str (l : List UInt8) : ByteArray := ⟨l.toArray⟩
def sgx (s : ByteArray) (i : Int) : Option Int := (gx s.data.toList i).map fun b => (b.toNat : Int)
def seq (x y : ByteArray) : Bool := x.data.toList == y.data.toList
def slt (x y : ByteArray) : Bool := Op.bytesLess x.data.toList y.data.toList
def scat (x y : ByteArray) : Option ByteArray := if x.size + y.size ≤ 9223372036854775807 then some (x ++ y) else none
def scut (s : ByteArray) (lo hi : Int) : Option ByteArray := if 0 ≤ lo ∧ lo ≤ hi ∧ hi ≤ s.size then some (s.extract lo.toNat hi.toNat) else none
def szok (s : ByteArray) : Option Unit := if s.size ≤ 9223372036854775807 then some () else none
theorem szok_some {s : ByteArray} {u : Unit} (h : szok s = some u) : s.size ≤ 9223372036854775807 := by
  unfold szok at h
  split at h
  · assumption
  · cases h
/-- a shift's count is not below 0 -/
def nn (y : Int) : Option Unit := if 0 ≤ y then some () else none
theorem nn_some {y : Int} {u : Unit} (h : nn y = some u) : 0 ≤ y := by
  unfold nn at h
  split at h
  · assumption
  · cases h

section
variable {P : Program} {C : World → Prop} {a : Act} {n : Nat} {E : Env} {d : Option Tmp} {ty : TypeId} {pos : String} {aft : Array Edge} {g : Option (Nat × Bool)}

theorem Gives.lenS (hE : Rep a n E) {t : TypeId} {x : Operand} {s : ByteArray} (hx : E.ev x = some (.string s)) (ht : stOk P t = true) : Gives P C a ⟨d, .call ⟨.builtin .len, #[x], #[t]⟩, ty, pos, aft, g⟩ (.int .i64 ((s.size : Nat) : Int)) := by
  intro w _
  simp [execOp, resolve, invoke, builtin, hE.ev hx, Builtin.len_, run_underlying (stOk.und ht), goInt]

theorem Gives.idxS (hE : Rep a n E) {t : TypeId} {x y : Operand} {s : ByteArray} {k : IntKind} {i v : Int} (ht : stOk P t = true) (hx : E.ev x = some (.string s)) (hy : E.ev y = some (.int k i)) (hv : sgx s i = some v) :
    Gives P C a ⟨d, .index t x y, ty, pos, aft, g⟩ (.int .u8 v) := by
  intro w _
  unfold sgx at hv
  rw [Option.map_eq_some_iff] at hv
  obtain ⟨b, h1, rfl⟩ := hv
  obtain ⟨h2, h3, h4⟩ := gx_some h1
  have hl : s.data.toList.length = s.size := by cases s; rfl
  have hi : 0 ≤ i ∧ i < s.size := by omega
  have hb : s[i.toNat]'(by omega) = b := by
    rw [List.getElem?_eq_getElem h3] at h4
    have := Option.some.inj h4
    rw [← this]
    cases s
    rfl
  simp only [execOp, hE.ev hx, hE.ev hy, Sem.run_bind, run_index_string w t s k i (stOk.und ht), dif_pos hi, Result.andThen_ok, hb]
  exact rfl

theorem Gives.catS (hE : Rep a n E) {t t' : TypeId} {x y : Operand} {p q r : ByteArray} (hx : E.ev x = some (.string p)) (hy : E.ev y = some (.string q)) (h : scat p q = some r) :
    Gives P C a ⟨d, .binOp .add t x y t', ty, pos, aft, g⟩ (.string r) := by
  intro w _
  unfold scat at h
  split at h
  · rename_i hs
    cases h
    simp [execOp, hE.ev hx, hE.ev hy, eqGuard, binOp, Op.stringOp]
    omega
  · cases h

theorem Gives.eqSt (hE : Rep a n E) {t t' : TypeId} {x y : Operand} {p q : ByteArray} (hx : E.ev x = some (.string p)) (hy : E.ev y = some (.string q)) :
    Gives P C a ⟨d, .binOp .eql t x y t', ty, pos, aft, g⟩ (.bool (seq p q)) := by
  intro w _
  simp [execOp, hE.ev hx, hE.ev hy, eqGuard, binOp, Op.stringOp, seq, ByteArray.toList_eq]
theorem Gives.neSt (hE : Rep a n E) {t t' : TypeId} {x y : Operand} {p q : ByteArray} (hx : E.ev x = some (.string p)) (hy : E.ev y = some (.string q)) :
    Gives P C a ⟨d, .binOp .neq t x y t', ty, pos, aft, g⟩ (.bool (!(seq p q))) := by
  intro w _
  simp [execOp, hE.ev hx, hE.ev hy, eqGuard, binOp, Op.stringOp, seq, ByteArray.toList_eq]
theorem Gives.ltSt (hE : Rep a n E) {t t' : TypeId} {x y : Operand} {p q : ByteArray} (hx : E.ev x = some (.string p)) (hy : E.ev y = some (.string q)) :
    Gives P C a ⟨d, .binOp .lss t x y t', ty, pos, aft, g⟩ (.bool (slt p q)) := by
  intro w _
  simp [execOp, hE.ev hx, hE.ev hy, eqGuard, binOp, Op.stringOp, slt, ByteArray.toList_eq]
theorem Gives.gtSt (hE : Rep a n E) {t t' : TypeId} {x y : Operand} {p q : ByteArray} (hx : E.ev x = some (.string p)) (hy : E.ev y = some (.string q)) :
    Gives P C a ⟨d, .binOp .gtr t x y t', ty, pos, aft, g⟩ (.bool (!(slt p q || seq p q))) := by
  intro w _
  simp [execOp, hE.ev hx, hE.ev hy, eqGuard, binOp, Op.stringOp, slt, seq, ByteArray.toList_eq]

theorem Gives.cutS (hE : Rep a n E) {t : TypeId} {x : Operand} {lo hi : Operand} {s r : ByteArray} {k k' : IntKind} {p q : Int} (ht : stOk P t = true) (hx : E.ev x = some (.string s)) (hl : E.ev lo = some (.int k p)) (hh : E.ev hi = some (.int k' q)) (h : scut s p q = some r) :
    Gives P C a ⟨d, .slice t x (some lo) (some hi) none, ty, pos, aft, g⟩ (.string r) := by
  intro w _
  unfold scut at h
  split at h
  · rename_i hs
    cases h
    have h1 : 0 ≤ q ∧ q ≤ (s.size : Int) := by omega
    have h2 : 0 ≤ p ∧ p ≤ (q.toNat : Int) := by omega
    simp [execOp, hE.ev hx, hE.ev hl, hE.ev hh, run_sliceAt_string _ t _ _ _ _ (stOk.und ht), Instr.slice, run_underlying (stOk.und ht), Instr.sliceBounds, Instr.sliceBound, asIntOf, h1, h2]
    intro h3; omega
  · cases h
theorem Gives.cutSL (hE : Rep a n E) {t : TypeId} {x : Operand} {lo : Operand} {s r : ByteArray} {k : IntKind} {p : Int} (ht : stOk P t = true) (hx : E.ev x = some (.string s)) (hl : E.ev lo = some (.int k p)) (h : scut s p ((s.size : Nat) : Int) = some r) :
    Gives P C a ⟨d, .slice t x (some lo) none none, ty, pos, aft, g⟩ (.string r) := by
  intro w _
  unfold scut at h
  split at h
  · rename_i hs
    cases h
    have h2 : 0 ≤ p ∧ p ≤ (s.size : Int) := by omega
    simp [execOp, hE.ev hx, hE.ev hl, run_sliceAt_string _ t _ _ _ _ (stOk.und ht), Instr.slice, run_underlying (stOk.und ht), Instr.sliceBounds, Instr.sliceBound, asIntOf, h2]
  · cases h
theorem Gives.cutSH (hE : Rep a n E) {t : TypeId} {x : Operand} {hi : Operand} {s r : ByteArray} {k' : IntKind} {q : Int} (ht : stOk P t = true) (hx : E.ev x = some (.string s)) (hh : E.ev hi = some (.int k' q)) (h : scut s 0 q = some r) :
    Gives P C a ⟨d, .slice t x none (some hi) none, ty, pos, aft, g⟩ (.string r) := by
  intro w _
  unfold scut at h
  split at h
  · rename_i hs
    cases h
    have h1 : 0 ≤ q ∧ q ≤ (s.size : Int) := by omega
    simp [execOp, hE.ev hx, hE.ev hh, run_sliceAt_string _ t _ _ _ _ (stOk.und ht), Instr.slice, run_underlying (stOk.und ht), Instr.sliceBounds, Instr.sliceBound, asIntOf, h1]
  · cases h

/-- an array of n elements of kind k that may be compared -/
def arEqB (P : Program) (t : TypeId) (m : Nat) (k : LeafK) : Bool :=
  match P.underlying t with
  | some (.array n e) => Nat.beq n m && kindOk P e k && Nat.beq (P.cellsOf e) 1 && (P.info? e).isSome && !P.eqGuardType P.depth t
  | _ => false

theorem run_items {e : TypeId} {k : LeafK} (h : kindOk P e k = true) (d : Nat) (xs ys : Array Value) (w : World) : ∀ (m j : Nat) (ls ms : List Leaf), ls.length = m → ms.length = m → (∀ l ∈ ls, l.kind = k) → (∀ l ∈ ms, l.kind = k) →
    (∀ i l, ls[i]? = some l → xs[j + i]? = some l.val) → (∀ i l, ms[i]? = some l → ys[j + i]? = some l.val) → (Op.eqItems (d + 1) e 1 xs ys (List.range' j m)).run P w = .ok (eqs ls ms) w
  | 0, j, ls, ms, h1, h2, _, _, _, _ => by
    obtain rfl := List.length_eq_zero_iff.1 h1
    obtain rfl := List.length_eq_zero_iff.1 h2
    simp [Op.eqItems, eqs]
  | m + 1, j, ls, ms, h1, h2, k1, k2, hx, hy => by
    match ls, ms, h1, h2 with
    | a :: ls, b :: ms, h1, h2 =>
      simp only [List.length_cons, Nat.add_right_cancel_iff] at h1 h2
      have ha := hx 0 a rfl
      have hb := hy 0 b rfl
      rw [Nat.add_zero] at ha hb
      have ih := run_items h d xs ys w m (j + 1) ls ms h1 h2 (fun l hl => k1 l (by simp [hl])) (fun l hl => k2 l (by simp [hl]))
        (fun i l hl => by have := hx (i + 1) l (by simpa using hl); rwa [show j + (i + 1) = j + 1 + i by omega] at this)
        (fun i l hl => by have := hy (i + 1) l (by simpa using hl); rwa [show j + (i + 1) = j + 1 + i by omega] at this)
      simp only [List.range'_succ, Op.eqItems, Nat.mul_one, Sem.run_bind, run_part1 h xs j _ ha, run_part1 h ys j _ hb, Result.andThen_ok, run_same h d a b (k1 a (by simp)) (k2 b (by simp)), eqs_cons a b ls ms (by omega)]
      cases hs : a.same b with
      | true => simpa using ih
      | false => simp

theorem run_arEq {t m : Nat} {k : LeafK} (h : arEqB P t m k = true) (ls ms : List Leaf) (h1 : ls.length = m) (h2 : ms.length = m) (k1 : ∀ l ∈ ls, l.kind = k) (k2 : ∀ l ∈ ms, l.kind = k) (w : World) :
    (Op.equalIn 10000 t (.agg (ls.map Leaf.val).toArray) (.agg (ms.map Leaf.val).toArray)).run P w = .ok (eqs ls ms) w ∧ P.eqGuardType P.depth t = false := by
  unfold arEqB at h
  split at h
  · rename_i n e hu
    simp only [Bool.and_eq_true, Bool.not_eq_true'] at h
    obtain ⟨⟨⟨⟨g1, g2⟩, g3⟩, g4⟩, g5⟩ := h
    have e1 := Nat.eq_of_beq_eq_true g1
    have e3 := Nat.eq_of_beq_eq_true g3
    obtain ⟨i, hi⟩ := Option.isSome_iff_exists.1 g4
    refine ⟨?_, g5⟩
    rw [run_equalIn_array w 9999 _ _ hu hi, e3, List.range_eq_range', e1]
    exact run_items g2 9998 _ _ w m 0 ls ms h1 h2 k1 k2 (fun i l hl => by simp [hl]) (fun i l hl => by simp [hl])
  · cases h

theorem Gives.eqAr (hE : Rep a n E) {t t' m : Nat} {k : LeafK} {x y : Operand} {cx cy : List Value} (ls ms : List Leaf) (h : arEqB P t m k = true) (hx : E.ev x = some (.agg cx.toArray)) (hy : E.ev y = some (.agg cy.toArray))
    (hcx : cx = ls.map Leaf.val) (hcy : cy = ms.map Leaf.val) (h1 : ls.length = m) (h2 : ms.length = m) (k1 : ∀ l ∈ ls, l.kind = k) (k2 : ∀ l ∈ ms, l.kind = k) : Gives P C a ⟨d, .binOp .eql t x y t', ty, pos, aft, g⟩ (.bool (eqs ls ms)) := by
  intro w _
  subst hcx; subst hcy
  obtain ⟨e1, e2⟩ := run_arEq (P := P) h ls ms h1 h2 k1 k2 w
  simp only [execOp, hE.ev hx, hE.ev hy, Sem.run_bind, run_eqGuard_agg w .eql t x y _ _ e2, Result.andThen_ok, run_eql_struct, e1]
  exact rfl
theorem Gives.neAr (hE : Rep a n E) {t t' m : Nat} {k : LeafK} {x y : Operand} {cx cy : List Value} (ls ms : List Leaf) (h : arEqB P t m k = true) (hx : E.ev x = some (.agg cx.toArray)) (hy : E.ev y = some (.agg cy.toArray))
    (hcx : cx = ls.map Leaf.val) (hcy : cy = ms.map Leaf.val) (h1 : ls.length = m) (h2 : ms.length = m) (k1 : ∀ l ∈ ls, l.kind = k) (k2 : ∀ l ∈ ms, l.kind = k) : Gives P C a ⟨d, .binOp .neq t x y t', ty, pos, aft, g⟩ (.bool (!(eqs ls ms))) := by
  intro w _
  subst hcx; subst hcy
  obtain ⟨e1, e2⟩ := run_arEq (P := P) h ls ms h1 h2 k1 k2 w
  simp only [execOp, hE.ev hx, hE.ev hy, Sem.run_bind, run_eqGuard_agg w .neq t x y _ _ e2, Result.andThen_ok, run_neq_struct, e1]
  exact rfl
end

end Go.Fp
