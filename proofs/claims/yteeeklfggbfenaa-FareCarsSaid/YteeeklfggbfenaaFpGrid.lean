/- Arrays of arrays, laid flat; pointers to arrays that stay. No condition. -/
import Derived.Test.YteeeklfggbfenaaFpPtr
namespace Go.Fp
open Go

/-- array type t: m elements of es cells -/
def arN (P : Program) (t m es : Nat) : Bool :=
  match P.underlying t with
  | some (.array k e) => Nat.beq k m && (match P.info? e with | some i => Nat.beq i.size es | none => false)
  | _ => false
theorem arN.get {P : Program} {t m es : Nat} (h : arN P t m es = true) : ∃ e i, P.underlying t = some (.array m e) ∧ P.info? e = some i ∧ i.size = es := by
  unfold arN at h
  split at h
  · rename_i k' e hu
    simp only [Bool.and_eq_true] at h
    have h1 := Nat.eq_of_beq_eq_true h.1
    have h2 := h.2
    subst h1
    split at h2
    · rename_i i hi'
      exact ⟨e, i, hu, hi', Nat.eq_of_beq_eq_true h2⟩
    · cases h2
  · cases h

/-- an index within m -/
def bx (m : Nat) (i : Int) : Option Unit := if 0 ≤ i ∧ i < m then some () else none
theorem bx_some {m : Nat} {i : Int} {u : Unit} (h : bx m i = some u) : i = (i.toNat : Int) ∧ i.toNat < m := by
  unfold bx at h
  split at h
  · omega
  · cases h

/-- m numbers, laid flat -/
def RA (k : IntKind) (m : Nat) : Rd (List Int) := fun _ cs l => cs = l.map (Value.int k) ∧ l.length = m
theorem RA.mono {k : IntKind} {m : Nat} : Rmono (RA k m) := fun _ _ _ _ _ h => h

theorem Ev.ofMap {k : IntKind} {s : Sg} : ∀ l : List Int, Ev 1 (RI k) s (l.map (Value.int k)) l
  | [] => Ev.nil
  | x :: l => Ev.cons (c1 := [Value.int k x]) rfl rfl (Ev.ofMap l)

theorem Sees.cell {w : World} {b o k : Nat} {kd : IntKind} {l : List Int} {x : Int} (h : Sees w b o (l.map (Value.int kd))) (hk : l[k]? = some x) : w.cell? ⟨b, o + k, none⟩ = some (.int kd x) :=
  h k _ (by simp [hk])
theorem Sees.cell1 {w : World} {b o k : Nat} {kd : IntKind} {l : List Int} {x : Int} (h : Sees w b o (l.map (Value.int kd))) (hk : l[k]? = some x) : Sees w b (o + k) [.int kd x] := by
  intro j v hj
  cases j with
  | zero => simp at hj; subst hj; simpa using Sees.cell h hk
  | succ j => simp at hj


theorem Pt.ofSl {k : IntKind} {s : Sg} {a : Option Addr} {c m : Nat} {l : List Int} (q : Sl 1 (RI k) s a c l) (hl : l.length = m) (hm : 0 < m) : Pt m (RA k m) s a (some l) := by
  obtain ⟨b, o, rfl⟩ : aok a := q.aok (k := 0) (by omega)
  refine ⟨b, o, l.map (Value.int k), rfl, by simpa using hl, ?_, rfl, hl⟩
  have each : ∀ j v, l[j]? = some v → ∃ c' T fr, s.h b = some (.cells c' T fr) ∧ c'[o + j]? = some (.int k v) := by
    intro j v hj
    obtain ⟨cs, h1, ⟨c', T, fr, h2, h3⟩, h4⟩ := q.el j v hj
    have h5 : cs = [Value.int k v] := h4
    subst h5
    refine ⟨c', T, fr, h2, ?_⟩
    have := h3 0 _ rfl
    simpa [ab, ao] using this
  obtain ⟨v0, hv0⟩ : ∃ v, l[0]? = some v := ⟨l[0], List.getElem?_eq_getElem (by omega)⟩
  obtain ⟨c', T, fr, h1, _⟩ := each 0 v0 hv0
  refine ⟨c', T, fr, h1, fun j v hj => ?_⟩
  rw [List.getElem?_map, Option.map_eq_some_iff] at hj
  obtain ⟨x, hx, rfl⟩ := hj
  obtain ⟨c2, T2, fr2, h2, h3⟩ := each j x hx
  rw [h1] at h2
  injection h2 with h2
  injection h2 with e1 e2 e3
  subst e1; exact h3

theorem St.fixA {w : World} {s : Sg} {R : List HP} {T : Nat} {kd : IntKind} {a : Option Addr} {c m : Nat} {cs : List Value} {l : List Int} (i : Nat) (hS : St w s R) (hr : R[i]? = some (vecC T 1 a c m cs)) (hv : Ev 1 (RI kd) s cs l) (hn : l.length = m) (hm : Nat.blt 0 m = true) :
    ∃ t, s.Le t ∧ St w t (R.eraseIdx i) ∧ Pt m (RA kd m) t a (some l) := by
  obtain ⟨t, h1, h2, h3⟩ := St.fixD RI.mono i hS hr hv hn
  exact ⟨t, h1, h2, Pt.ofSl h3 hn (by simpa using hm)⟩

section
variable {P : Program} {K : Kt} {a : Act} {w : World} {n : Nat} {E : Env} {ops : Array Oper} {rest : List Oper} {d : Option Tmp} {ty : TypeId} {pos : String} {aft : Array Edge} {g : Option (Nat × Bool)} {s : Sg} {R : List HP}

theorem Gives.idxG {C : World → Prop} (hE : Rep a n E) {t m es off : Nat} {x ix : Operand} {sa : Option Addr} {kd : IntKind} {i : Int} (k : Nat)
    (hx : E.ev x = some (.pointer sa)) (hi : E.ev ix = some (.int kd i)) (ht : arN P t m es = true) (hik : i = (k : Int)) (hkm : k < m) (ha : aok sa) (ho : ao sa + k * es = off) :
    Gives P C a ⟨d, .indexAddr t x ix, ty, pos, aft, g⟩ (.pointer (some ⟨ab sa, off, none⟩)) := by
  intro w _
  obtain ⟨b, o, rfl⟩ := ha
  obtain ⟨e, inf, hu, hi', hs⟩ := arN.get ht
  subst hik; subst ho
  simp [execOp, hE.ev hx, hE.ev hi, Instr.indexAt, asIntOf, run_underlying hu, sizeOf, typeInfo, hi', hs, hkm, Addr.add_here, ab, ao, Instr.sureAddr]
end

end Go.Fp
