/- Slices cut with a bound on their room. No condition. -/
import Derived.Test.YteeeklfggbfenaaFpDel
namespace Go.Fp
open Go
section
variable {P : Program} {K : Kt} {a : Act} {w : World} {s : Sg} {R : List HP} {n : Nat} {E : Env} {ops : Array Oper} {rest : List Oper} {d : Option Tmp} {ty : TypeId} {pos : String} {aft : Array Edge} {g : Option (Nat × Bool)}

theorem Gives.slHM {C : World → Prop} (hE : Rep a n E) {t e es : Nat} {x z u : Operand} {sa : Option Addr} {m c : Nat} {kh km : IntKind} {hi mx : Int} {v : Value} (ht : slOk P t e es = true)
    (hx : E.ev x = some (.slice sa m c)) (hz : E.ev z = some (.int kh hi)) (hu : E.ev u = some (.int km mx)) (h1 : 0 ≤ hi) (h2 : hi ≤ mx) (h3 : mx ≤ c) (hv : sliced sa 0 hi.toNat mx.toNat es = v) :
    Gives P C a ⟨d, .slice t x none (some z) (some u), ty, pos, aft, g⟩ v := by
  intro w _
  subst hv
  have hu2 : P.underlying t = some (.slice (P.elem t)) := by unfold Program.elem; rw [slOk.und ht]
  have he : P.elem t = e := by unfold Program.elem; rw [slOk.und ht]
  simp [execOp, hE.ev hx, hE.ev hz, hE.ev hu, run_sliceAt_slice _ t _ _ _ _ hu2, run_slice_hm w t sa m c hu2 kh km hi mx h1 h2 h3, he, slOk.size ht]
end

/-- part i cut to its first m elements, with room for no more -/
theorem St.vecTakeM {w : World} {s : Sg} {R : List HP} (hS : St w s R) (i : Nat) {T es c n m : Nat} {a : Option Addr} {cs : List Value} (hr : R[i]? = some (vecC T es a c n cs)) (hm : m ≤ n) : St w s (R.set i (vecC T es a m m (cs.take (m * es)))) := by
  have h1 := hS.front i hr
  have h2 : St w s (vecC T es a m m (cs.take (m * es)) :: R.eraseIdx i) := by
    refine h1.head fun h q => ?_
    obtain ⟨q1, q2⟩ := q
    have hle : m * es ≤ n * es := Nat.mul_le_mul_right _ hm
    refine ⟨by simp; omega, ?_⟩
    rcases q2 with ⟨e1, e2, e3⟩ | ⟨b, o, cur, e1, e2, e3, e4, e5, e6⟩
    · exact .inl ⟨e1, by omega, by omega⟩
    · refine .inr ⟨b, o, cur, e1, e2, by omega, by omega, ?_, ?_⟩
      · have : m * es ≤ c * es := Nat.mul_le_mul_right _ (by omega)
        omega
      · rw [← e6, List.take_take, Nat.min_eq_left hle]
  refine h2.perm ?_
  clear hS h1 h2
  induction R generalizing i with
  | nil => simp at hr
  | cons x l ih =>
    cases i with
    | zero => exact List.Perm.refl _
    | succ i => simp at hr; exact (List.Perm.swap _ _ _).trans ((ih i hr).cons x)

end Go.Fp
