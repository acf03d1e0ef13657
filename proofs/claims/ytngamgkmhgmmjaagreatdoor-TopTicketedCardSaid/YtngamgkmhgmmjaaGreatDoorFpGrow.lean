/- What a call leaves that turned nothing that lay, and that hands back a row of its own. No condition. -/
import Derived.Test.YtngamgkmhgmmjaaGreatDoorFpMore
import Derived.Below
namespace Go.Fp
open Go

theorem St.grown {w w' : World} {s : Sg} {R : List HP} (hS : St w s R) (hB : RowKit.Below w.heap.size w w') : St w' s R := by
  have hlt : ∀ {b : Nat} {o : Obj}, w.heap[b]? = some o → w'.heap[b]? = some o := by
    intro b o h
    have : b < w.heap.size := by
      rcases Nat.lt_or_ge b w.heap.size with hl | hg
      · exact hl
      · rw [Array.getElem?_eq_none hg] at h; cases h
    rw [hB.block b this]; exact h
  obtain ⟨h, a, e⟩ := hS.own
  exact ⟨fun b o k => hlt (hS.sub b o k), ⟨h, a, fun b o k => ⟨hlt (e b o k).1, (e b o k).2⟩⟩, hB.os.trans hS.os, hB.output.trans hS.out⟩

theorem St.rowC {w w' : World} {s : Sg} {R : List HP} {e es n : Nat} {v : Value} {cs : List Value} (hS : St w s R) (hB : RowKit.Below w.heap.size w w') (ho : w'.ownsRow w.heap.size e es v n cs) :
    ∃ (a : Option Addr) (c : Nat), v = .slice a n c ∧ St w' s (vecC e es a c n cs :: R) := by
  obtain ⟨hl, ⟨rfl, rfl⟩ | ⟨g, cap, cur, rfl, hg, hh, h1, h2, h3, h4⟩⟩ := ho
  · have : cs = [] := List.eq_nil_of_length_eq_zero (by simpa using hl)
    subst this
    exact ⟨none, 0, rfl, (hS.grown hB).vecNil e es⟩
  · refine ⟨some ⟨g, 0, none⟩, cap, rfl, ?_⟩
    have hlt : ∀ {b : Nat} {o : Obj}, w.heap[b]? = some o → b < w.heap.size := by
      intro b o h
      rcases Nat.lt_or_ge b w.heap.size with hl | hg
      · exact hl
      · rw [Array.getElem?_eq_none hg] at h; cases h
    have hS' := hS.grown hB
    obtain ⟨h, a, e'⟩ := hS.own
    have hgn : h g = Option.none := by
      cases hx : h g with
      | none => rfl
      | some o => have := hlt (e' g o hx).1; omega
    have hsn : s.h g = Option.none := by
      cases hx : s.h g with
      | none => rfl
      | some o => have := hlt (hS.sub g o hx); omega
    obtain ⟨_, _, e2⟩ := hS'.own
    refine ⟨hS'.sub, ⟨fun x => if x = g then some (.cells cur e (0, 0)) else h x, ⟨fun x => if x = g then some (.cells cur e (0, 0)) else Option.none, h, ?_, a, ?_, ?_⟩, ?_⟩, hS'.os, hS'.out⟩
    · refine ⟨hl, .inr ⟨g, 0, cur, rfl, by simp, h1, h2, by omega, by simpa using h4⟩⟩
    · intro b o k
      by_cases hb : b = g
      · subst hb; simp only [if_true] at k; exact ⟨by simpa using k, hgn⟩
      · simp only [if_neg hb] at k; cases k
    · intro b o k
      by_cases hb : b = g
      · subst hb; rw [hgn] at k; cases k
      · simp [hb, k]
    · intro b o k
      by_cases hb : b = g
      · subst hb; simp only [if_true] at k; exact ⟨by rw [hh]; exact k, hsn⟩
      · simp only [if_neg hb] at k
        have hb1 := (e' b o k)
        rw [hB.block b (hlt hb1.1)]
        exact hb1
end Go.Fp
