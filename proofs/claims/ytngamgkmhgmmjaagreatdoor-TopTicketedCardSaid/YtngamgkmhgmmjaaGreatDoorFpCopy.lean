/- copy: into a slice of the call's own, out of what stays or out of the same slice. No condition. -/
import Derived.Test.YtngamgkmhgmmjaaGreatDoorFpGrid
namespace Go.Fp
open Go

theorem Ev.drop {α : Type} {es : Nat} {R : Rd α} {s : Sg} {cs : List Value} {l : List α} (q : Ev es R s cs l) (m : Nat) : Ev es R s (cs.drop (m * es)) (l.drop m) := by
  refine ⟨by rw [List.length_drop, List.length_drop, q.len, Nat.sub_mul], fun k x hk => ?_⟩
  rw [List.getElem?_drop] at hk
  have := q.el _ _ hk
  rw [List.drop_drop]
  rwa [show m * es + k * es = (m + k) * es by rw [Nat.add_mul]]

section
variable {P : Program} {K : Kt} {a : Act} {w : World} {s : Sg} {R : List HP} {n : Nat} {E : Env} {ops : Array Oper} {rest : List Oper} {d : Option Tmp} {ty : TypeId} {pos : String} {aft : Array Edge} {g : Option (Nat × Bool)}
variable {α : Type} {Rr : Rd α}

/-- cells written into part i -/
theorem St.putCells (hS : St w s R) (i : Nat) {T es c m p : Nat} {sa : Option Addr} {cs : List Value} (hr : R[i]? = some (vecC T es sa c m cs)) {vs : List Value}
    (h1 : vs.all (·.oneCell') = true) (hfit : p + vs.length ≤ m * es) (hpos : 0 < m * es) :
    ∃ w2, (storeCells ⟨ab sa, ao sa + p, none⟩ vs).run P w = .ok () w2 ∧ St w2 s (R.set i (vecC T es sa c m (cs.take p ++ vs ++ cs.drop (p + vs.length)))) := by
  rcases hS.vec i hr with ⟨hl, ⟨h0, hn, hc⟩ | ⟨b, o, cur, e1, e2, e3, e4, e5, e6, h⟩⟩
  · subst hn; omega
  · subst e1
    have hcur : o + m * es ≤ cur.size := by have := Nat.mul_le_mul_right es e3; omega
    have hst := run_storeCells_at P b (o + p) T vs 0 cur w e2 (by omega) (fun v hv => List.all_eq_true.1 h1 v hv)
    simp only [Nat.add_zero] at hst
    have hput := h.put (w' := w.setRow b (cur.toList.take (o + p) ++ vs ++ cur.toList.drop (o + p + vs.length)).toArray) (setRow_heap w b cur _ T _ e2) (fun k hk => by simp [World.setRow, Array.getElem?_modify, Ne.symm hk]) rfl rfl
    have hcl : cs.length = m * es := hl
    have hS2 : St (w.setRow b (cur.toList.take (o + p) ++ vs ++ cur.toList.drop (o + p + vs.length)).toArray) s (vecC T es (some ⟨b, o, none⟩) c m (cs.take p ++ vs ++ cs.drop (p + vs.length)) :: R.eraseIdx i) := by
      refine hput.head fun hh q => ⟨by simp only [List.length_append, List.length_take, List.length_drop]; omega, .inr ⟨b, o, _, rfl, q, e3, e4, ?_, ?_⟩⟩
      · simp only [List.size_toArray, List.length_append, List.length_take, List.length_drop, Array.length_toList]; omega
      · rw [List.toList_toArray]
        exact put_mid cur.toList o p (m * es) vs cs e6 hfit (by simpa using hcur)
    refine ⟨_, ?_, hS2.perm ?_⟩
    · simpa [ab, ao] using hst
    · clear hS hput hS2 h
      induction R generalizing i with
      | nil => simp at hr
      | cons x l ih =>
        cases i with
        | zero => exact List.Perm.refl _
        | succ i => simp at hr; exact (List.Perm.swap _ _ _).trans ((ih i hr).cons x)

def cpOk (P : Program) (t e es : Nat) : Bool := match P.underlying t with | some (.slice e') => Nat.beq e' e && (match P.info? e with | some i => Nat.beq i.size es && Nat.blt 0 es | none => false) | _ => false
theorem cpOk.get {P : Program} {t e es : Nat} (h : cpOk P t e es = true) : P.underlying t = some (.slice e) ∧ 0 < es ∧ ∃ i, P.info? e = some i ∧ i.size = es := by
  unfold cpOk at h
  split at h
  · rename_i e' hu
    simp only [Bool.and_eq_true] at h
    have h1 := Nat.eq_of_beq_eq_true h.1
    subst h1
    have h2 := h.2
    split at h2
    · rename_i i hi
      simp only [Bool.and_eq_true] at h2
      have h3 : 0 < es := by have := h2.2; simp [Nat.blt] at this; omega
      exact ⟨hu, h3, i, hi, Nat.eq_of_beq_eq_true h2.1⟩
    · cases h2
  · cases h

end


theorem Ev.flat {α : Type} {es : Nat} {R : Rd α} {s1 s2 : Sg} (hR : ∀ s t cs x, R s cs x → R t cs x) {cs : List Value} {l : List α} (q : Ev es R s1 cs l) : Ev es R s2 cs l := ⟨q.len, fun k x hk => hR _ _ _ _ (q.el k x hk)⟩

section
variable {P : Program} {K : Kt} {a : Act} {w : World} {s : Sg} {R : List HP} {n : Nat} {E : Env} {ops : Array Oper} {rest : List Oper} {d : Option Tmp} {ty : TypeId} {pos : String} {aft : Array Edge} {g : Option (Nat × Bool)}
variable {α : Type} {Rr : Rd α}

end

/-! ## Slices that are asked whether they are nil -/

theorem aok.isNone {a : Option Addr} (h : aok a) : a.isNone = false := by obtain ⟨b, o, rfl⟩ := h; rfl
section
variable {P : Program} {a : Act} {n : Nat} {E : Env} {d : Option Tmp} {ty : TypeId} {pos : String} {aft : Array Edge} {g : Option (Nat × Bool)}
end
end Go.Fp
