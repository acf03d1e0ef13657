/- Elements of a slice of the call's own that hold slices of the call's own: what each of them holds is one part of memory. No condition. -/
import Derived.Test.YthllfhmpjclplaaGreatDoorFpObj
import Derived.Test.YthllfhmpjclplaaGreatDoorFpPlc
open List renaming getElem?_eq_some_iff → b2t, getElem?_take → b2H, getElem?_drop → b2P, getElem?_set → b3N
open Nat renaming mul_le_mul_right → b2x, succ_le_of_lt → b3k, succ_mul → b3p
namespace Go.Fp
open Go
def RX {α : Type} (n : Nat) : Rd α := fun _ cs _ => cs.length = n
theorem RX.mono {α : Type} {n : Nat} : O7 (RX n : Rd α) := fun _ _ _ _ _ h => h
theorem RX.one {α : Type} {n : Nat} : ∀ (s : Sg) (cs : List Value) (x : α), (RX n : Rd α) s cs x → cs.length = n := fun _ _ _ h => h
theorem RX.ev {α : Type} {es : Nat} {s : Sg} {cs : List Value} {l : List α} (h : cs.length = l.length * es) : Ev es (RX es : Rd α) s cs l := ⟨h, fun k x hk => by
  have hk' := (b2t.1 hk).1
  have h2 := b2x es (b3k hk')
  rw [b3p] at h2
  show ((cs.drop (k * es)).take es).length = es
  rw [List.length_take, List.length_drop]
  omega⟩
abbrev b0e (cs : List Value) (p : Nat) (v : Value) : List Value := cs.take p ++ [v] ++ cs.drop (p + 1)
theorem a4I {cs : List Value} {p : Nat} {v : Value} (h : p < cs.length) : b0e cs p v = cs.set p v := by
  unfold b0e
  rw [List.set_eq_take_append_cons_drop, if_pos h]
  simp
theorem a6C {cs : List Value} {k j f es : Nat} {v : Value} (hf : f < es) (hj : j ≠ k) (hl : k * es + f < cs.length) : ((b0e cs (k * es + f) v).drop (j * es)).take es = (cs.drop (j * es)).take es := by
  rw [a4I hl]
  apply List.ext_getElem?
  intro i
  rw [b2H, b2H]
  split
  · rename_i hi
    rw [b2P, b2P, b3N]
    rw [if_neg ?_]
    intro e
    rcases Nat.lt_or_ge j k with h | h
    · have := b2x es (b3k h); rw [b3p] at this; omega
    · have := b2x es (b3k (Nat.lt_of_le_of_ne h (Ne.symm hj))); rw [b3p] at this; omega
  · rfl
structure X2 {α : Type} (es : Nat) (O : Ob α) (s : Sg) (k : Nat) (cs : List Value) (hs : List HP) (l : List α) : Prop where
  len : hs.length = l.length
  el : ∀ j x H, j ≠ k → l[j]? = some x → hs[j]? = some H → O s ((cs.drop (j * es)).take es) H x
section
variable {α : Type} {es k : Nat} {O : Ob α} {s t : Sg} {cs : List Value} {hs : List HP} {l : List α}
theorem W7.hole (q : W7 es O s cs hs l) (k : Nat) : X2 es O s k cs hs l := ⟨q.len, fun j x H _ h1 h2 => q.el j x H h1 h2⟩
theorem X2.mono (hO : a4P O) (h : s.Le t) (q : X2 es O s k cs hs l) : X2 es O t k cs hs l := ⟨q.len, fun j x H h0 h1 h2 => hO _ _ h _ _ _ (q.el j x H h0 h1 h2)⟩
theorem X2.put (q : X2 es O s k cs hs l) {f : Nat} {v : Value} (hf : f < es) (hl : k * es + f < cs.length) : X2 es O s k (b0e cs (k * es + f) v) hs l :=
  ⟨q.len, fun j x H h0 h1 h2 => by rw [a6C hf h0 hl]; exact q.el j x H h0 h1 h2⟩
theorem X2.close (q : X2 es O s k cs hs l) {vs : List Value} {H : HP} {y : α} (hd : (cs.drop (k * es)).take es = vs) (h : O s vs H y) : W7 es O s cs (hs.set k H) (l.set k y) := by
  refine ⟨by simp [q.len], fun j z G h1 h2 => ?_⟩
  rw [b3N] at h1 h2
  by_cases hj : k = j
  · subst hj
    simp only [if_true] at h1 h2
    split at h1
    · split at h2
      · simp at h1 h2; subst h1; subst h2; rw [hd]; exact h
      · cases h2
    · cases h1
  · rw [if_neg hj] at h1 h2; exact q.el j z G (Ne.symm hj) h1 h2
theorem W7.tail {x : α} {H : HP} (q : W7 es O s cs (H :: hs) (x :: l)) : W7 es O s (cs.drop es) hs l := by
  refine ⟨by have := q.len; simpa using this, fun k y G h1 h2 => ?_⟩
  have h := q.el (k + 1) y G (by simpa using h1) (by simpa using h2)
  rw [List.drop_drop, show es + k * es = (k + 1) * es by rw [b3p]; omega]
  exact h
end
structure a0o where
  cs : List Value
  hs : List HP
def M5 (T es : Nat) (a : Option Addr) (c n : Nat) (d : a0o) : HP := L5 [B2 T es a c n d.cs, L5 d.hs]
structure HEv {α : Type} (es : Nat) (O : Ob α) (s : Sg) (d : a0o) (l : List α) : Prop where
  len : d.cs.length = l.length * es
  link : W7 es O s d.cs d.hs l
section
variable {α : Type} {es T k : Nat} {O : Ob α} {s t : Sg} {d : a0o} {l : List α} {w : World} {R : List HP} {a : Option Addr} {c n : Nat}
theorem HEv.mono (hO : a4P O) (h : s.Le t) (q : HEv es O s d l) : HEv es O t d l := ⟨q.len, q.link.mono hO h⟩
theorem HEv.nil : HEv es O s ⟨[], []⟩ ([] : List α) := ⟨by simp, W7.nil⟩
theorem HEv.ev (q : HEv es O s d l) : Ev es (RX es : Rd α) s d.cs l := RX.ev q.len
theorem HEv.at (q : HEv es O s d l) {x : α} (hy : l[k]? = some x) : ∃ H, d.hs[k]? = some H ∧ O s ((d.cs.drop (k * es)).take es) H x := by
  obtain ⟨H, h1, h2⟩ := q.link.at hy rfl
  exact ⟨H, h1, h2⟩
theorem HEv.fits (q : HEv es O s d l) {x : α} (hy : l[k]? = some x) {f : Nat} (hf : f < es) : k * es + f < d.cs.length := by
  have hk := (b2t.1 hy).1
  have h2 := b2x es (b3k hk)
  rw [b3p] at h2
  rw [q.len]; omega
theorem HEv.snoc (q : HEv es O s d l) {vs : List Value} {H : HP} {x : α} {r : List α} (hr : l ++ [x] = r) (hv : vs.length = es) (h : O s vs H x) : HEv es O s ⟨d.cs ++ vs, d.hs ++ [H]⟩ r := by
  subst hr
  exact ⟨by simp [q.len, hv, b3p], q.link.snoc q.len hv h⟩
theorem HEv.close {cs vs : List Value} {hs : List HP} {H : HP} {y : α} (q : X2 es O s k cs hs l) (hl : cs.length = l.length * es) (hd : (cs.drop (k * es)).take es = vs) (h : O s vs H y) : HEv es O s ⟨cs, hs.set k H⟩ (l.set k y) :=
  ⟨by simp [hl], q.close hd h⟩
theorem St.hotNil (hS : St w s R) (T es : Nat) : St w s (M5 T es none 0 0 ⟨[], []⟩ :: R) := by
  have h1 : St w s (B2 T es none 0 0 [] :: L5 [] :: R) := (hS.oNil).vecNil T es
  exact St.satClose (ps := [B2 T es none 0 0 [], L5 []]) h1
theorem St.hotOpen (hS : St w s R) (i : Nat) (hr : R[i]? = some (M5 T es a c n d)) : St w s (B2 T es a c n d.cs :: L5 d.hs :: R.eraseIdx i) := St.satOpen (ps := [B2 T es a c n d.cs, L5 d.hs]) (hS.front i hr)
theorem St.hotClose {cs : List Value} {hs : List HP} (hS : St w s (B2 T es a c n cs :: L5 hs :: R)) : St w s (M5 T es a c n ⟨cs, hs⟩ :: R) := St.satClose (ps := [B2 T es a c n cs, L5 hs]) hS
theorem St.hotSees (hS : St w s R) (i : Nat) (hr : R[i]? = some (M5 T es a c n d)) {vs : List Value} (hd : (d.cs.drop (k * es)).take es = vs) {m : Nat} (_hl : vs.length = m) : a0M w (ab a) (ao a + k * es) vs := by
  have h0 := hS.hotOpen i hr
  refine h0.vecSees 0 rfl (k * es) vs ?_
  intro j u hj
  rw [← hd, b2H] at hj
  split at hj
  · rwa [b2P] at hj
  · cases hj
end
end Go.Fp
