/- Arrays of arrays, laid flat; pointers to arrays that stay. No condition. -/
import Derived.Test.YtngamgkmhgmmjaaGreatDoorFpPtr
namespace Go.Fp
open Go

/-- array type t: m elements of es cells -/
def arN (P : Program) (t m es : Nat) : Bool :=
  match P.underlying t with
  | some (.array k e) => Nat.beq k m && (match P.info? e with | some i => Nat.beq i.size es | none => false)
  | _ => false
theorem arN.get {P : Program} {t m es : Nat} (h : arN P t m es = true) : ∃ e i, P.underlying t = some (.array m e) ∧ P.info? e = some i ∧ i.size = es := by
  unfold arN at h
  split at h
  · rename_i k' e hu
    simp only [Bool.and_eq_true] at h
    have h1 := Nat.eq_of_beq_eq_true h.1
    have h2 := h.2
    subst h1
    split at h2
    · rename_i i hi'
      exact ⟨e, i, hu, hi', Nat.eq_of_beq_eq_true h2⟩
    · cases h2
  · cases h

/-- m numbers, laid flat -/
def RA (k : IntKind) (m : Nat) : Rd (List Int) := fun _ cs l => cs = l.map (Value.int k) ∧ l.length = m
theorem RA.mono {k : IntKind} {m : Nat} : Rmono (RA k m) := fun _ _ _ _ _ h => h

theorem Ev.ofMap {k : IntKind} {s : Sg} : ∀ l : List Int, Ev 1 (RI k) s (l.map (Value.int k)) l
  | [] => Ev.nil
  | x :: l => Ev.cons (c1 := [Value.int k x]) rfl rfl (Ev.ofMap l)

theorem Sees.cell {w : World} {b o k : Nat} {kd : IntKind} {l : List Int} {x : Int} (h : Sees w b o (l.map (Value.int kd))) (hk : l[k]? = some x) : w.cell? ⟨b, o + k, none⟩ = some (.int kd x) :=
  h k _ (by simp [hk])
theorem Sees.cell1 {w : World} {b o k : Nat} {kd : IntKind} {l : List Int} {x : Int} (h : Sees w b o (l.map (Value.int kd))) (hk : l[k]? = some x) : Sees w b (o + k) [.int kd x] := by
  intro j v hj
  cases j with
  | zero => simp at hj; subst hj; simpa using Sees.cell h hk
  | succ j => simp at hj


section
variable {P : Program} {K : Kt} {a : Act} {w : World} {n : Nat} {E : Env} {ops : Array Oper} {rest : List Oper} {d : Option Tmp} {ty : TypeId} {pos : String} {aft : Array Edge} {g : Option (Nat × Bool)} {s : Sg} {R : List HP}

end

end Go.Fp
