/- Strings as data: length, bytes, parts, joining, comparing; arrays compared; shifts by a variable. No condition. -/
import Derived.Test.YthllfhmpjclplaaGreatDoorFpNest
import Derived.Laws.Strings
import Derived.ChangeKeysEq
namespace Go.Fp
open Go
def a8Q (P : Program) (t : TypeId) : Bool := match P.underlying t with | some .string => true | _ => false
theorem a8Q.und {P : Program} {t : TypeId} (h : a8Q P t = true) : P.underlying t = some .string := by
  unfold a8Q at h
  split at h
  · assumption
  · cases h
abbrev str (l : List UInt8) : ByteArray := ⟨l.toArray⟩
def seq (x y : ByteArray) : Bool := x.data.toList == y.data.toList
def a8j (x y : ByteArray) : Option ByteArray := if x.size + y.size ≤ 9223372036854775807 then some (x ++ y) else none
section
variable {P : Program} {C : World → Prop} {a : Act} {n : Nat} {E : Env} {d : Option Tmp} {ty : TypeId} {pos : String} {aft : Array Edge} {g : Option (Nat × Bool)}
theorem A6.lenS (hE : Rep a n E) {t : TypeId} {x : Operand} {s : ByteArray} (hx : E.ev x = some (.string s)) (ht : a8Q P t = true) : A6 P C a ⟨d, .call ⟨.builtin .len, #[x], #[t]⟩, ty, pos, aft, g⟩ (.int .i64 ((s.size : Nat) : Int)) := by
  intro w _
  simp [execOp, resolve, invoke, builtin, hE.ev hx, Builtin.len_, run_underlying (a8Q.und ht), goInt]
theorem A6.catS (hE : Rep a n E) {t t' : TypeId} {x y : Operand} {p q r : ByteArray} (hx : E.ev x = some (.string p)) (hy : E.ev y = some (.string q)) (h : a8j p q = some r) :
    A6 P C a ⟨d, .binOp .add t x y t', ty, pos, aft, g⟩ (.string r) := by
  intro w _
  unfold a8j at h
  split at h
  · rename_i hs
    cases h
    simp [execOp, hE.ev hx, hE.ev hy, eqGuard, binOp, Op.stringOp]
    omega
  · cases h
def a2i (P : Program) (t : TypeId) (m : Nat) (k : X3) : Bool :=
  match P.underlying t with
  | some (.array n e) => Nat.beq n m && a1d P e k && Nat.beq (P.cellsOf e) 1 && (P.info? e).isSome && !P.eqGuardType P.depth t
  | _ => false
theorem a3q {e : TypeId} {k : X3} (h : a1d P e k = true) (d : Nat) (xs ys : Array Value) (w : World) : ∀ (m j : Nat) (ls ms : List S1), ls.length = m → ms.length = m → (∀ l ∈ ls, l.kind = k) → (∀ l ∈ ms, l.kind = k) →
    (∀ i l, ls[i]? = some l → xs[j + i]? = some l.val) → (∀ i l, ms[i]? = some l → ys[j + i]? = some l.val) → (Op.eqItems (d + 1) e 1 xs ys (List.range' j m)).run P w = .ok (eqs ls ms) w
  | 0, j, ls, ms, h1, h2, _, _, _, _ => by
    obtain rfl := List.length_eq_zero_iff.1 h1
    obtain rfl := List.length_eq_zero_iff.1 h2
    simp [Op.eqItems, eqs]
  | m + 1, j, ls, ms, h1, h2, k1, k2, hx, hy => by
    match ls, ms, h1, h2 with
    | a :: ls, b :: ms, h1, h2 =>
      simp only [List.length_cons, Nat.add_right_cancel_iff] at h1 h2
      have ha := hx 0 a rfl
      have hb := hy 0 b rfl
      rw [Nat.add_zero] at ha hb
      have ih := a3q h d xs ys w m (j + 1) ls ms h1 h2 (fun l hl => k1 l (by simp [hl])) (fun l hl => k2 l (by simp [hl]))
        (fun i l hl => by have := hx (i + 1) l (by simpa using hl); rwa [show j + (i + 1) = j + 1 + i by omega] at this)
        (fun i l hl => by have := hy (i + 1) l (by simpa using hl); rwa [show j + (i + 1) = j + 1 + i by omega] at this)
      simp only [List.range'_succ, Op.eqItems, Nat.mul_one, Sem.run_bind, U8 h xs j _ ha, U8 h ys j _ hb, Result.andThen_ok, a4d h d a b (k1 a (by simp)) (k2 b (by simp)), a2R a b ls ms (by omega)]
      cases hs : a.same b with
      | true => simpa using ih
      | false => simp
end
end Go.Fp
