/- An element of a slice of the call's own, told apart as a place of several cells: read and written by its address, lent to calls. No condition. -/
import Derived.Test.YthllfhmpjclplaaGreatDoorFpHot
open List renaming append_assoc → b2y, take_append_drop → b3U, ext_getElem? → b3v, getElem?_take → b2H, getElem?_drop → b2P, perm_middle → b4I, getElem?_eq_getElem → b2q, getElem?_eq_some_iff → b2t, set_getElem_self → b3V
open Nat renaming mul_le_mul_right → b2x, succ_le_of_lt → b3k, succ_mul → b3p
namespace Go.Fp
open Go
def a1D (b o m : Nat) (Z : List Value → HP) : Prop := ∀ (vs : List Value) (j : Nat), vs.length = m → j < m → a6W b (o + j) (fun v => Z (vs.set j v))
abbrev a2k (T es : Nat) (a : Option Addr) (c n : Nat) (cs : List Value) (p : Nat) : List Value → HP := fun vs => B2 T es a c n (cs.take p ++ vs ++ cs.drop (p + es))
theorem a8l {A vs B : List Value} {p j : Nat} {v : Value} (hA : A.length = p) (hj : j < vs.length) : (A ++ vs ++ B).take (p + j) ++ [v] ++ (A ++ vs ++ B).drop (p + j + 1) = A ++ vs.set j v ++ B := by
  have hl : p + j < (A ++ vs ++ B).length := by simp; omega
  refine (a4I (cs := A ++ vs ++ B) (p := p + j) (v := v) hl).trans ?_
  rw [b2y, List.set_append_right _ _ (by omega), show p + j - A.length = j by omega, List.set_append_left _ _ hj, b2y]
theorem a7S {cs : List Value} {p es : Nat} : cs.take p ++ (cs.drop p).take es ++ cs.drop (p + es) = cs := by
  rw [← List.drop_drop, b2y, b3U, b3U]
theorem a9n {T es : Nat} {a : Option Addr} {c n p : Nat} {cs : List Value} {b0 o0 : Nat} (ha : a = some ⟨b0, o0, none⟩) (hp : p + es ≤ n * es) (hl : cs.length = n * es) : a1D (ab a) (ao a + p) es (a2k T es a c n cs p) := by
  intro vs j hv hj
  have hA : (cs.take p).length = p := by simp; omega
  have hl2 : (cs.take p ++ vs ++ cs.drop (p + es)).length = n * es := by simp; omega
  have h := a9t (T := T) (es := es) (c := c) (n := n) (p := p) (off := j) ha (by omega) hl2
  have e : b0T T es a c n (cs.take p ++ vs ++ cs.drop (p + es)) (p + j) = fun v => a2k T es a c n cs p (vs.set j v) := by
    funext v
    show B2 T es a c n _ = B2 T es a c n _
    rw [a8l hA (by omega)]
  rw [e] at h
  exact h
section
variable {w : World} {s : Sg} {R : List HP} {T es : Nat} {a : Option Addr} {c n : Nat} {cs : List Value}
theorem St.plnOpen {p : Nat} {vs : List Value} (hS : St w s (B2 T es a c n cs :: R)) (hp : p + es ≤ n * es) (hes : Nat.blt 0 es = true) (hd : (cs.drop p).take es = vs) : St w s (a2k T es a c n cs p vs :: R) ∧ a1D (ab a) (ao a + p) es (a2k T es a c n cs p) := by
  have hes' : 0 < es := by simpa using hes
  have hl := (hS.vec 0 rfl).1
  obtain ⟨b0, o0, ha⟩ := hS.vecAok 0 rfl (k := 0) (by
    rcases Nat.eq_zero_or_pos n with h | h
    · rw [h, Nat.zero_mul] at hp; omega
    · exact h)
  refine ⟨?_, a9n ha hp hl⟩
  show St w s (B2 T es a c n (cs.take p ++ vs ++ cs.drop (p + es)) :: R)
  rw [← hd, a7S]
  exact hS
theorem a8d {A vs B : List Value} {p es : Nat} (hA : A.length = p) (hv : vs.length = es) : ((A ++ vs ++ B).drop p).take es = vs := by
  rw [b2y, ← hA, List.drop_left, ← hv, List.take_left]
theorem a6q {k j : Nat} {vs : List Value} (hv : vs.length = es) (hj : j ≠ k) (hl : k * es + es ≤ cs.length) : ((cs.take (k * es) ++ vs ++ cs.drop (k * es + es)).drop (j * es)).take es = (cs.drop (j * es)).take es := by
  apply b3v
  intro i
  rw [b2H, b2H]
  split
  · rename_i hi
    rw [b2P, b2P]
    rcases Nat.lt_or_ge j k with h | h
    · have := b2x es (b3k h); rw [b3p] at this
      rw [b2y, List.getElem?_append_left (by simp; omega), b2H, if_pos (by omega)]
    · have := b2x es (b3k (Nat.lt_of_le_of_ne h (Ne.symm hj))); rw [b3p] at this
      have h1 : (cs.take (k * es) ++ vs).length = k * es + es := by simp; omega
      rw [List.getElem?_append_right (by rw [h1]; omega), b2P, h1]
      congr 1; omega
  · rfl
theorem X2.mid {α : Type} {k : Nat} {O : Ob α} {hs : List HP} {l : List α} {vs : List Value} (q : X2 es O s k cs hs l) (hv : vs.length = es) (hl : k * es + es ≤ cs.length) : X2 es O s k (cs.take (k * es) ++ vs ++ cs.drop (k * es + es)) hs l :=
  ⟨q.len, fun j x H h0 h1 h2 => by rw [a6q hv h0 hl]; exact q.el j x H h0 h1 h2⟩
theorem St.plnClose {α : Type} {Rr : Rd α} {l : List α} {k : Nat} {vs : List Value} {x : α} (hS : St w s (a2k T es a c n cs (k * es) vs :: R)) (q : Ev es Rr s cs l) (hn : l.length = n) (hk : k < l.length) (hv : vs.length = es) (hx : Rr s vs x) :
    ∃ cs2, St w s (B2 T es a c n cs2 :: R) ∧ Ev es Rr s cs2 (l.set k x) ∧ (l.set k x).length = n :=
  ⟨_, hS, q.set hk hv hx, by simp [hn]⟩
theorem a4c {k n es : Nat} (h : k < n) : k * es + es ≤ n * es := by
  have := b2x es (b3k h); rwa [b3p] at this
theorem St.plnHot {d : a0o} {k : Nat} {vs : List Value} {ps : List HP} (i : Nat) (hS : St w s R) (hr : R[i]? = some (M5 T es a c n d)) (hk : k < n) (hes : Nat.blt 0 es = true) (hd : (d.cs.drop (k * es)).take es = vs) (hH : d.hs[k]? = some (L5 ps)) :
    St w s (a2k T es a c n d.cs (k * es) vs :: (ps ++ L5 (d.hs.eraseIdx k) :: R.eraseIdx i)) ∧ a1D (ab a) (ao a + k * es) es (a2k T es a c n d.cs (k * es)) := by
  have h1 := hS.hotOpen i hr
  obtain ⟨h2, h3⟩ := h1.plnOpen (a4c hk) hes hd
  refine ⟨?_, h3⟩
  have h4 := h2.oOpen 1 rfl hH
  refine h4.perm ?_
  exact b4I (l₁ := ps) (a := a2k T es a c n d.cs (k * es) vs) (l₂ := L5 (d.hs.eraseIdx k) :: R.eraseIdx i)
theorem St.hotObjOpen {d : a0o} {k : Nat} {p : HP} {ps : List HP} (i : Nat) (hS : St w s R) (hr : R[i]? = some (M5 T es a c n d)) (hH : d.hs[k]? = some (L5 (p :: ps))) :
    St w s (p :: (ps ++ B2 T es a c n d.cs :: L5 (d.hs.eraseIdx k) :: R.eraseIdx i)) := by
  have h1 := hS.hotOpen i hr
  have h4 : St w s ((p :: ps) ++ B2 T es a c n d.cs :: L5 (d.hs.eraseIdx k) :: R.eraseIdx i) := h1.oOpen 1 rfl hH
  exact h4
theorem St.hotObjSees {d : a0o} {k b : Nat} {cs : List Value} {T' : TypeId} {fr : Nat × Nat} {ps : List HP} (i : Nat) (hS : St w s R) (hr : R[i]? = some (M5 T es a c n d)) (hH : d.hs[k]? = some (L5 (pt b (.cells cs.toArray T' fr) :: ps))) : a0M w b 0 cs :=
  (hS.hotObjOpen i hr hH).seesAt 0 rfl
theorem St.hotObjClose {α : Type} {O : Ob α} {d : a0o} {l : List α} {k : Nat} {vs : List Value} {p : HP} {ps : List HP} {x : α} (hS : St w s (p :: (ps ++ B2 T es a c n d.cs :: L5 (d.hs.eraseIdx k) :: R))) (q : HEv es O s d l) (hn : l.length = n) (hk : k < l.length) (hd : (d.cs.drop (k * es)).take es = vs) (hx : O s vs (L5 (p :: ps)) x) :
    ∃ d2, St w s (M5 T es a c n d2 :: R) ∧ HEv es O s d2 (l.set k x) ∧ (l.set k x).length = n := by
  have hkh : k < d.hs.length := by rw [q.link.len]; exact hk
  have h1 : St w s ((p :: ps) ++ (B2 T es a c n d.cs :: L5 (d.hs.eraseIdx k) :: R)) := hS
  have h2 := h1.oClose 1 rfl hkh
  exact ⟨⟨d.cs, d.hs.set k (L5 (p :: ps))⟩, St.hotClose h2, ⟨by have := q.len; simpa using this, q.link.set hd hx⟩, by simp [hn]⟩
theorem a8J {p : Nat} {vs : List Value} (h : ∀ j v, vs[j]? = some v → cs[p + j]? = some v) (hl : vs.length = es) : (cs.drop p).take es = vs := by
  apply b3v
  intro i
  rw [b2H]
  split
  · rename_i hi
    rw [b2P]
    have e : vs[i]? = some vs[i] := b2q (by omega)
    rw [e]; exact h i _ e
  · rw [List.getElem?_eq_none (by omega)]
theorem Ev.klt {α : Type} {Rr : Rd α} {l : List α} {k : Nat} {vs : List Value} (q : Ev es Rr s cs l) (h : ∀ j v, vs[j]? = some v → cs[k * es + j]? = some v) (hl : vs.length = es) (hes : Nat.blt 0 es = true) : k < l.length := by
  have hes' : 0 < es := by simpa using hes
  have h1 := h 0 _ (b2q (by omega : 0 < vs.length))
  have h2 := (b2t.1 h1).1
  rw [q.len] at h2
  rcases Nat.lt_or_ge k l.length with h3 | h3
  · exact h3
  · have := b2x es h3; omega
theorem St.plnHotClose {α : Type} {O : Ob α} {d : a0o} {l : List α} {k : Nat} {vs : List Value} {ps : List HP} {x : α} (hS : St w s (a2k T es a c n d.cs (k * es) vs :: (ps ++ L5 (d.hs.eraseIdx k) :: R))) (q : HEv es O s d l) (hn : l.length = n) (hk : k < l.length) (hv : vs.length = es) (hx : O s vs (L5 ps) x) :
    ∃ d2, St w s (M5 T es a c n d2 :: R) ∧ HEv es O s d2 (l.set k x) ∧ (l.set k x).length = n := by
  have hf : k * es + es ≤ d.cs.length := by rw [q.len]; exact a4c hk
  have hlen : (d.cs.take (k * es) ++ vs ++ d.cs.drop (k * es + es)).length = l.length * es := by
    have := q.len
    simp only [List.length_append, List.length_take, List.length_drop]; omega
  have hev : HEv es O s ⟨d.cs.take (k * es) ++ vs ++ d.cs.drop (k * es + es), d.hs.set k (L5 ps)⟩ (l.set k x) :=
    HEv.close ((q.link.hole k).mid hv hf) hlen (a8d (by simp; omega) hv) hx
  refine ⟨_, ?_, hev, by simp [hn]⟩
  have hkh : k < d.hs.length := by rw [q.link.len]; exact hk
  have h1 : St w s (ps ++ (a2k T es a c n d.cs (k * es) vs :: L5 (d.hs.eraseIdx k) :: R)) := hS.perm b4I.symm
  have h2 := h1.oClose 1 rfl hkh
  exact St.hotClose h2
end
section
variable {P : Program} {K : Kt} {a : Act} {w : World} {s : Sg} {R : List HP} {n : Nat} {E : Env} {ops : Array Oper} {rest : List Oper} {d : Option Tmp} {ty : TypeId} {pos : String} {aft : Array Edge} {g : Option (Nat × Bool)}
theorem A6.loadZN {b o m : Nat} {Z : List Value → HP} (hZ : a1D b o m Z) (hE : Rep a n E) {t : TypeId} {x : Operand} {v : Value} {vs : List Value} (i j : Nat) (hx : E.ev x = some (.pointer (some ⟨b, o + j, none⟩)))
    (hr : R[i]? = some (Z vs)) (hm : vs.length = m) (hv : vs[j]? = some v) (ht : Q8 P t false 1 = true) : A6 P (fun w => St w s R) a ⟨d, .load t x, ty, pos, aft, g⟩ v := by
  obtain ⟨hj, rfl⟩ := b2t.1 hv
  have h := hZ vs j hm (by omega)
  refine A6.loadZ h hE i hx ?_ ht
  rw [hr]; show _ = some (Z (vs.set j vs[j]))
  rw [b3V]
theorem WL.storeZN {b o m : Nat} {Z : List Value → HP} (hZ : a1D b o m Z) (hE : Rep a n E) (hS : St w s R) (i j : Nat) {t : TypeId} {vs : List Value} (hr : R[i]? = some (Z vs)) (hm : vs.length = m) {v0 : Value} (hv0 : vs[j]? = some v0) {x y : Operand} {v : Value}
    (hg : Region.wanted ⟨d, .store t x y, ty, pos, aft, g⟩ (yielded ops a.tmps) = true) (hx : E.ev x = some (.pointer (some ⟨b, o + j, none⟩))) (hy : E.ev y = some v) (hv : v.cells = [v].toArray) (ht : Q8 P t false 1 = true) (h1 : v.oneCell' = true) (hd : J5 d n = true)
    (q : ∀ a w, Rep a n (E.put d undef) → St w s (R.set i (Z (vs.set j v))) → WL P ops K rest a w) : WL P ops K (⟨d, .store t x y, ty, pos, aft, g⟩ :: rest) a w := by
  obtain ⟨hj, rfl⟩ := b2t.1 hv0
  have h := hZ vs j hm (by omega)
  refine WL.storeZ h hE hS i (v0 := vs[j]) ?_ hg hx hy hv ht h1 hd q
  rw [hr]; show _ = some (Z (vs.set j vs[j]))
  rw [b3V]
end
end Go.Fp
