/- What a comparison leaves that makes rows and boxes of its own and calls others: all that lay lies, and more has been drawn. No condition. -/
import Derived.Test.YthllfhmpjclplaaGreatDoorFpSortF
open Array renaming getElem?_eq_getElem → b2O, getElem?_eq_none → b3o
open Nat renaming eq_of_beq_eq_true → b2r
namespace Go.Fp
open Go
structure XW (w0 w : World) : Prop where
  tape : w.tape = w0.tape
  drawn : w0.drawn ≤ w.drawn
theorem XW.refl (w : World) : XW w w := ⟨rfl, Nat.le_refl _⟩
theorem XW.drew {w0 w : World} (h : XW w0 w) : XW w0 w.drew := ⟨h.tape, Nat.le_succ_of_le h.drawn⟩
def sX (W : World) : Sg := ⟨fun b => W.heap[b]?, W.os, W.output⟩
theorem St.startX (W : World) : St W (sX W) [] := ⟨fun _ _ h => h, ⟨fun _ => none, trivial, fun _ _ h => by cases h⟩, rfl, rfl⟩
theorem XW.grow {w0 w : World} {R : List HP} (h : XW w0 w) (hS : St w (sX w0) R) : ∃ q os', w = Sort.grow (w0.drewN q) os' := by
  refine ⟨w.drawn - w0.drawn, w.heap.extract w0.heap.size w.heap.size, ?_⟩
  have h1 := h.tape
  have h2 := h.drawn
  have h3 : w.os = w0.os := hS.os
  have h4 : w.output = w0.output := hS.out
  have h5 : ∀ b o, w0.heap[b]? = some o → w.heap[b]? = some o := hS.sub
  have hsz : w0.heap.size ≤ w.heap.size := by
    rcases Nat.lt_or_ge w.heap.size w0.heap.size with hl | hg
    · have := h5 w.heap.size _ (b2O hl)
      rw [b3o (Nat.le_refl _)] at this
      cases this
    · exact hg
  have hh : w.heap = w0.heap ++ w.heap.extract w0.heap.size w.heap.size := by
    apply Array.ext_getElem?
    intro i
    rcases Nat.lt_or_ge i w0.heap.size with hl | hg
    · rw [Array.getElem?_append_left hl, b2O hl]
      exact h5 i _ (b2O hl)
    · rw [Array.getElem?_append_right hg, Array.getElem?_extract]
      split
      · congr 1; omega
      · exact b3o (by omega)
  obtain ⟨heap, tape, drawn, os, output⟩ := w
  unfold Sort.grow World.drewN
  simp only at h1 h2 h3 h4 hh ⊢
  subst h1 h3 h4
  rw [← hh]
  congr 1
  omega
section
variable {P : Program} {K : Kt} {a : Act} {w : World} {s : Sg} {R : List HP} {n : Nat} {E : Env} {ops : Array Oper} {rest : List Oper} {d : Option Tmp} {ty : TypeId} {pos : String} {aft : Array Edge} {g : Option (Nat × Bool)}
theorem WL.boxX (hE : Rep a n E) {s : Sg} {rs : List HP} (hS : St w s rs) {w0 : World} (hX : XW w0 w) {t : TypeId} {x : Operand} {v : Value} {cs : List Value} (hg : Region.wanted ⟨d, .box t x, ty, pos, aft, g⟩ (yielded ops a.tmps) = true) (hx : E.ev x = some v)
    (hc : v.cells = cs.toArray) (hd : J5 d n = true) (q : ∀ b a w, Rep a n (E.put d (.pointer (some ⟨b, 0, none⟩))) → St w s (pt b (.cells cs.toArray t (0, 0)) :: rs) → XW w0 w → WL P ops K rest a w) : WL P ops K (⟨d, .box t x, ty, pos, aft, g⟩ :: rest) a w := by
  refine WL.step (w' := w.alloc (.cells cs.toArray t)) hg ?_ (q w.heap.size _ _ (hE.puts hd _) (hS.alloc _) ⟨hX.tape, hX.drawn⟩)
  simp [execOp, hE.ev hx, Instr.box, newVar, newRow, hc]
theorem WL.litX (hE : Rep a n E) (hS : St w s R) {w0 : World} (hX : XW w0 w) {t e es len : Nat} {parts : List (Nat × Operand)} {vs : List (Nat × Value)} {cs : List Value}
    (hg : Region.wanted ⟨d, .buildSlice t len parts.toArray, ty, pos, aft, g⟩ (yielded ops a.tmps) = true)
    (hp : (parts.map fun p => (p.1, E.ev p.2)) = (vs.map fun p => (p.1, some p.2))) (hl : a9W P t e es len vs = some cs) (hd : J5 d n = true)
    (q : ∀ b a w, Rep a n (E.put d (.slice (some ⟨b, 0, none⟩) len len)) → St w s (pt b (.cells cs.toArray e (0, 0)) :: R) → XW w0 w → WL P ops K rest a w) : WL P ops K (⟨d, .buildSlice t len parts.toArray, ty, pos, aft, g⟩ :: rest) a w := by
  refine WL.step (w' := w.alloc (.cells cs.toArray e)) hg ?_ (q w.heap.size _ _ (hE.puts hd _) (hS.alloc _) ⟨hX.tape, hX.drawn⟩)
  have h1 := a2H (ρ := a.eval) (fun x v h => hE.ev h) hp
  unfold a9W at hl
  split at hl
  · rename_i e' i hu hi
    split at hl
    · rename_i h0
      have h0 := b2r h0
      subst h0
      split at hl
      · split at hl
        · rename_i hc
          simp only [Bool.and_eq_true] at hc
          have c1 := b2r hc.1
          have c2 := b2r hc.2
          subst c1; subst c2
          simp at hl
          subst hl
          have hp0 : parts = [] := by cases parts with
            | nil => rfl
            | cons x l => simp at hp
          subst hp0
          simp [execOp, Instr.buildSlice, run_underlying hu, sizeOf, typeInfo, hi, newRow, Instr.fill]
          congr 2
          exact Array.eq_empty_of_size_eq_zero (by simp)
        · cases hl
      · cases hl
    split at hl
    · rename_i hc
      simp only [Bool.and_eq_true] at hc
      obtain ⟨⟨⟨c1, c2⟩, c3⟩, c4⟩ := hc
      have c1 := b2r c1
      have c2 := b2r c2
      have c3 : len * es ≤ 16777216 := by simpa using c3
      have c4 : len * es ≠ 0 := by intro k; rw [k] at c4; simp at c4
      subst c1; subst c2
      split at hl
      · rename_i z hz
        cases hf : Instr.fill (fun j => some (j * i.size, i.size)) ((Array.range (len * i.size)).map (z.cells[· % z.cells.size]!)) vs with
        | none => rw [hf] at hl; cases hl
        | some ar =>
          rw [hf] at hl
          simp at hl
          subst hl
          have h1' : (Array.map (fun p => (p.1, a.eval p.2)) parts.toArray).toList = vs := by simpa using h1
          simp [execOp, Instr.buildSlice, run_underlying hu, sizeOf, typeInfo, hi, zeroValue, hz, newRow, show ¬ 16777216 < len * i.size by omega, c4, h1, hf]
      · cases hl
    · cases hl
  · cases hl
end
end Go.Fp
