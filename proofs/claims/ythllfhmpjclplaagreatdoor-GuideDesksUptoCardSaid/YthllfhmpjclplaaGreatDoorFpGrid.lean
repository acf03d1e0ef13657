/- Pointers to what stays, told as data that may be missing. No condition. -/
import Derived.Test.YthllfhmpjclplaaGreatDoorFpStr
import Derived.Laws.Pointers
namespace Go.Fp
open Go
def Pt {α : Type} (es : Nat) (R : Rd α) (s : Sg) (a : Option Addr) (x : Option α) : Prop :=
  match x with
  | none => a = none
  | some v => ∃ b o cs, a = some ⟨b, o, none⟩ ∧ cs.length = es ∧ s.At b o cs ∧ R s cs v
def RP {α : Type} (es : Nat) (R : Rd α) : Rd (Option α) := fun s cs x => ∃ a, cs = [.pointer a] ∧ Pt es R s a x
theorem Pt.nil {α : Type} {es : Nat} {R : Rd α} {s : Sg} : Pt es R s none (none : Option α) := rfl
theorem Pt.mono {α : Type} {es : Nat} {R : Rd α} (hR : O7 R) {s t : Sg} (h : s.Le t) {a : Option Addr} {x : Option α} (q : Pt es R s a x) : Pt es R t a x := by
  cases x with
  | none => exact q
  | some v => obtain ⟨b, o, cs, h1, h2, h3, h4⟩ := q; exact ⟨b, o, cs, h1, h2, h3.mono h, hR _ _ h _ _ h4⟩
theorem RP.mono {α : Type} {es : Nat} {R : Rd α} (hR : O7 R) : O7 (RP es R) := fun _ _ h _ _ ⟨a, h1, h2⟩ => ⟨a, h1, h2.mono hR h⟩
theorem RP.one {α : Type} {es : Nat} {R : Rd α} : a1F (RP es R) := by rintro s cs x ⟨a, rfl, _⟩; rfl
theorem Pt.at {α : Type} {es : Nat} {R : Rd α} {s : Sg} {a : Option Addr} {x : Option α} {v : α} (q : Pt es R s a x) (hx : x = some v) :
    ∃ b o cs, a = some ⟨b, o, none⟩ ∧ cs.length = es ∧ R s cs v ∧ ∀ w rs, St w s rs → a0M w b o cs := by
  subst hx
  obtain ⟨b, o, cs, h1, h2, h3, h4⟩ := q
  exact ⟨b, o, cs, h1, h2, h4, fun w rs hS => hS.sees h3⟩
theorem Pt.isNone {α : Type} {es : Nat} {R : Rd α} {s : Sg} {a : Option Addr} {x : Option α} (q : Pt es R s a x) : a.isNone = x.isNone := by
  cases x with
  | none => rw [show a = none from q]; rfl
  | some v => obtain ⟨b, o, cs, h1, _⟩ := q; rw [h1]; rfl
theorem St.fixB {α : Type} {w : World} {s : Sg} {R : List HP} {T b es : Nat} {cs : List Value} {Rr : Rd α} {v : α} (hR : O7 Rr) (i : Nat) (hS : St w s R) (hr : R[i]? = some (pt b (.cells cs.toArray T (0, 0)))) (hl : cs.length = es) (hv : Rr s cs v) :
    ∃ t, s.Le t ∧ St w t (R.eraseIdx i) ∧ Pt es Rr t (some ⟨b, 0, none⟩) (some v) := by
  obtain ⟨h1, h2⟩ := (hS.front i hr).fix
  exact ⟨_, h2, h1, b, 0, cs, rfl, hl, ⟨cs.toArray, T, (0, 0), by simp [Sg.add], fun j u hj => by simpa using hj⟩, hR _ _ h2 _ _ hv⟩
def a6M (P : Program) (t e : TypeId) : Bool := match P.underlying t with | some (.pointer e') => Nat.beq e' e | _ => false
theorem a6M.und {P : Program} {t e : TypeId} (h : a6M P t e = true) : P.underlying t = some (.pointer (P.pointee t)) := by
  unfold a6M at h
  split at h
  · rename_i e' hu
    rw [hu]; unfold Program.pointee; rw [hu]
  · cases h
section
variable {P : Program} {C : World → Prop} {a : Act} {n : Nat} {E : Env} {d : Option Tmp} {ty : TypeId} {pos : String} {aft : Array Edge} {g : Option (Nat × Bool)}
theorem a3v {t e : TypeId} (h : a6M P t e = true) (p : Option Addr) (w : World) : (Op.equal t (.pointer p) (.pointer none)).run P w = .ok p.isNone w := run_equalIn_pointer_nil w 9999 t p (a6M.und h)
theorem A6.isNilP (hE : Rep a n E) {t t' e : Nat} {x y : Operand} {p : Option Addr} (hx : E.ev x = some (.pointer p)) (hy : E.ev y = some (.pointer none)) (h : a6M P t e = true) :
    A6 P C a ⟨d, .binOp .eql t x y t', ty, pos, aft, g⟩ (.bool p.isNone) := by
  intro w _
  simp [execOp, hE.ev hx, hE.ev hy, eqGuard, binOp, a3v h]
theorem A6.notNilP (hE : Rep a n E) {t t' e : Nat} {x y : Operand} {p : Option Addr} (hx : E.ev x = some (.pointer p)) (hy : E.ev y = some (.pointer none)) (h : a6M P t e = true) :
    A6 P C a ⟨d, .binOp .neq t x y t', ty, pos, aft, g⟩ (.bool !p.isNone) := by
  intro w _
  simp [execOp, hE.ev hx, hE.ev hy, eqGuard, binOp, a3v h]
end
end Go.Fp
namespace Go.Fp
open Go
def arN (P : Program) (t m es : Nat) : Bool :=
  match P.underlying t with
  | some (.array k e) => Nat.beq k m && (match P.info? e with | some i => Nat.beq i.size es | none => false)
  | _ => false
theorem arN.get {P : Program} {t m es : Nat} (h : arN P t m es = true) : ∃ e i, P.underlying t = some (.array m e) ∧ P.info? e = some i ∧ i.size = es := by
  unfold arN at h
  split at h
  · rename_i k' e hu
    simp only [Bool.and_eq_true] at h
    have h1 := Nat.eq_of_beq_eq_true h.1
    have h2 := h.2
    subst h1
    split at h2
    · rename_i i hi'
      exact ⟨e, i, hu, hi', Nat.eq_of_beq_eq_true h2⟩
    · cases h2
  · cases h
def RA (k : IntKind) (m : Nat) : Rd (List Int) := fun _ cs l => cs = l.map (Value.int k) ∧ l.length = m
theorem RA.mono {k : IntKind} {m : Nat} : O7 (RA k m) := fun _ _ _ _ _ h => h
theorem Ev.ofMap {k : IntKind} {s : Sg} : ∀ l : List Int, Ev 1 (RI k) s (l.map (Value.int k)) l
  | [] => Ev.nil
  | x :: l => Ev.cons (c1 := [Value.int k x]) rfl rfl (Ev.ofMap l)
theorem a0M.cell {w : World} {b o k : Nat} {kd : IntKind} {l : List Int} {x : Int} (h : a0M w b o (l.map (Value.int kd))) (hk : l[k]? = some x) : w.cell? ⟨b, o + k, none⟩ = some (.int kd x) :=
  h k _ (by simp [hk])
section
variable {P : Program} {K : Kt} {a : Act} {w : World} {n : Nat} {E : Env} {ops : Array Oper} {rest : List Oper} {d : Option Tmp} {ty : TypeId} {pos : String} {aft : Array Edge} {g : Option (Nat × Bool)} {s : Sg} {R : List HP}
end
end Go.Fp
