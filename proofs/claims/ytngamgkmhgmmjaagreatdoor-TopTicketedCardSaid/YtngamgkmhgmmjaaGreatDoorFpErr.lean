/- Cells of variables that stay; errors as values; what strings.Split and strconv.Atoi hand back. No condition. -/
import Derived.Test.YtngamgkmhgmmjaaGreatDoorFpTab
import Derived.Test.YtngamgkmhgmmjaaGreatDoorFpVec
import Derived.WideLaws
import Derived.Lib.AtoiAll
import Derived.Lib.Split
import Derived.Lib.ConvBytes
namespace Go.Fp
open Go

def CellS (s : Sg) (b : Nat) (v : Value) : Prop := ∀ w R, St w s R → w.cell? ⟨b, 0, none⟩ = some v
theorem CellS.mono {s t : Sg} {b : Nat} {v : Value} (h : s.Le t) (q : CellS s b v) : CellS t b v := fun w R hS => q w R (hS.down h)
theorem CellS.start {W : World} {b : Nat} {v : Value} (h : W.cell? ⟨b, 0, none⟩ = some v) : CellS (s0 W) b v := by
  intro w R hS
  unfold World.cell? at *
  cases hW : W.heap[b]? with
  | none => rw [hW] at h; cases h
  | some o =>
    rw [hW] at h
    have : w.heap[b]? = some o := hS.sub b o hW
    rw [this]
    exact h
/-- the variables of the library that are read: the table of powers, bytealg.MaxLen, strconv.ErrSyntax, strconv.ErrRange -/
structure TabG (P : Program) (g1 g2 g3 : Nat) (s : Sg) : Prop where
  tab : TabS P s
  max : ∃ m, CellS s g1 (.int .i64 m)
  syn : ∃ v, CellS s g2 v ∧ (v = .nilIface ∨ ∃ t p, v = .iface t p)
  ran : ∃ v, CellS s g3 v ∧ (v = .nilIface ∨ ∃ t p, v = .iface t p)
theorem TabG.mono {P : Program} {g1 g2 g3 : Nat} {s t : Sg} (h : s.Le t) (q : TabG P g1 g2 g3 s) : TabG P g1 g2 g3 t := by
  obtain ⟨a, ⟨m, b⟩, ⟨v, c, c2⟩, ⟨u, d, d2⟩⟩ := q
  exact ⟨a.mono h, ⟨m, b.mono h⟩, ⟨v, c.mono h, c2⟩, ⟨u, d.mono h, d2⟩⟩

/-- an error: none, or some -/
def ErrV (v : Value) (ok : Bool) : Prop := match ok with | true => v = .nilIface | false => ∃ t p, v = .iface t p
section
variable {P : Program} {K : Kt} {a : Act} {w : World} {n : Nat} {E : Env} {ops : Array Oper} {rest : List Oper} {d : Option Tmp} {ty : TypeId} {pos : String} {aft : Array Edge} {g : Option (Nat × Bool)}
def ifOk (P : Program) (t : TypeId) : Bool := match P.underlying t with | some (.interface _) => true | _ => false
theorem ifOk.und {P : Program} {t : TypeId} (h : ifOk P t = true) : P.underlying t = some (.interface (P.methodsAt t)) := by
  unfold ifOk at h
  split at h
  · rename_i ms hu
    unfold Program.methodsAt
    rw [hu]
  · cases h
end
/-- strings.Split -/
def splitq (a sep : ByteArray) : Option (List ByteArray) := if a.size < 4294967281 ∧ 1 ≤ sep.size then some (Lib.splitB sep 0 (Lib.countB a sep) a) else none
theorem splitq_some {a sep : ByteArray} {r : List ByteArray} (h : splitq a sep = some r) : a.size < 4294967281 ∧ 1 ≤ sep.size ∧ r = Lib.splitB sep 0 (Lib.countB a sep) a := by
  unfold splitq at h
  split at h
  · rename_i c; simp at h; exact ⟨c.1, c.2, h.symm⟩
  · cases h
/-- strconv.Atoi: the number, and whether there was no error -/
def atoiq (a : ByteArray) : Option (Int × Bool) := if a.size < 4294967281 then some (match Lib.atoiAll a.data.toList with | .ok v => (v, true) | .range => (Lib.atoiSat a.data.toList, false) | _ => (0, false)) else none
theorem Ev.strs {s : Sg} : ∀ l : List ByteArray, Ev 1 RS s (l.map Value.string) l
  | [] => Ev.nil
  | x :: l => Ev.cons (c1 := [Value.string x]) rfl rfl (Ev.strs l)
theorem St.frozen {w : World} {s : Sg} {R : List HP} (hS : St w s R) (e : TypeId) (str : ByteArray) : St (Lib.bytesWorld w e str) s R := by
  have h1 : St (w.drew.alloc (.cells (Lib.bytesCells w e str) e)) s (pt w.heap.size (.cells (Lib.bytesCells w e str) e) :: R) := hS.drew.alloc _
  have h2 : St (Lib.bytesWorld w e str) s (pt w.heap.size (.cells (Lib.bytesCells w e str) e ((Lib.bytesCells w e str).size, (Lib.bytesCells w e str).size + 1)) :: R) := by
    refine h1.put (Lib.bytesWorld_at_new w e str) ?_ ?_ ?_
    · intro k hk
      rcases Nat.lt_trichotomy k w.heap.size with h | h | h
      · rw [Lib.bytesWorld_at_old w e str k h]
        simp [World.alloc, World.drew, -World.alloc_eq, -World.drew_eq, Array.getElem?_push, Nat.ne_of_lt h]
      · exact absurd h hk
      · rw [Array.getElem?_eq_none (by rw [Lib.bytesWorld_size]; omega)]
        rw [Array.getElem?_eq_none]
        simp only [World.alloc, World.drew, Array.size_push]
        omega
    · simp [Lib.bytesWorld, World.freeze, World.alloc, World.drew, -World.alloc_eq, -World.drew_eq]
    · simp [Lib.bytesWorld, World.freeze, World.alloc, World.drew, -World.alloc_eq, -World.drew_eq]
  exact h2.tail
end Go.Fp
