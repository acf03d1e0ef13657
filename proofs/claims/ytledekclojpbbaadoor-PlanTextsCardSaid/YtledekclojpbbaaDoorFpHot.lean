/- Elements of a slice of the call's own that hold slices of the call's own: what each of them holds is one part of memory. No condition. -/
import Derived.Test.YtledekclojpbbaaDoorFpObj
import Derived.Test.YtledekclojpbbaaDoorFpPlc
namespace Go.Fp
open Go

/-- so many cells, whatever they hold -/
def RX {α : Type} (n : Nat) : Rd α := fun _ cs _ => cs.length = n
theorem RX.mono {α : Type} {n : Nat} : Rmono (RX n : Rd α) := fun _ _ _ _ _ h => h
theorem RX.one {α : Type} {n : Nat} : ∀ (s : Sg) (cs : List Value) (x : α), (RX n : Rd α) s cs x → cs.length = n := fun _ _ _ h => h
theorem RX.ev {α : Type} {es : Nat} {s : Sg} {cs : List Value} {l : List α} (h : cs.length = l.length * es) : Ev es (RX es : Rd α) s cs l := ⟨h, fun k x hk => by
  have hk' := (List.getElem?_eq_some_iff.1 hk).1
  have h2 := Nat.mul_le_mul_right es (Nat.succ_le_of_lt hk')
  rw [Nat.succ_mul] at h2
  show ((cs.drop (k * es)).take es).length = es
  rw [List.length_take, List.length_drop]
  omega⟩
/-- one cell of an element's, another value -/
abbrev putc (cs : List Value) (p : Nat) (v : Value) : List Value := cs.take p ++ [v] ++ cs.drop (p + 1)
theorem putc_set {cs : List Value} {p : Nat} {v : Value} (h : p < cs.length) : putc cs p v = cs.set p v := by
  unfold putc
  rw [List.set_eq_take_append_cons_drop, if_pos h]
  simp
theorem putc_len {cs : List Value} {p : Nat} {v : Value} (h : p < cs.length) : (putc cs p v).length = cs.length := by rw [putc_set h, List.length_set]
theorem el_other {cs : List Value} {k j f es : Nat} {v : Value} (hf : f < es) (hj : j ≠ k) (hl : k * es + f < cs.length) : ((putc cs (k * es + f) v).drop (j * es)).take es = (cs.drop (j * es)).take es := by
  rw [putc_set hl]
  apply List.ext_getElem?
  intro i
  rw [List.getElem?_take, List.getElem?_take]
  split
  · rename_i hi
    rw [List.getElem?_drop, List.getElem?_drop, List.getElem?_set]
    rw [if_neg ?_]
    intro e
    rcases Nat.lt_or_ge j k with h | h
    · have := Nat.mul_le_mul_right es (Nat.succ_le_of_lt h); rw [Nat.succ_mul] at this; omega
    · have := Nat.mul_le_mul_right es (Nat.succ_le_of_lt (Nat.lt_of_le_of_ne h (Ne.symm hj))); rw [Nat.succ_mul] at this; omega
  · rfl
theorem el_put {cs vs : List Value} {k f es : Nat} {v : Value} (hd : (cs.drop (k * es)).take es = vs) (hf : f < es) (hl : k * es + f < cs.length) : ((putc cs (k * es + f) v).drop (k * es)).take es = vs.set f v := by
  subst hd
  rw [putc_set hl]
  apply List.ext_getElem?
  intro i
  rw [List.getElem?_take, List.getElem?_set, List.getElem?_drop, List.getElem?_set]
  by_cases hi : i < es
  · rw [if_pos hi]
    by_cases hfi : f = i
    · subst hfi
      rw [if_pos rfl, if_pos rfl, if_pos hl, if_pos (by rw [List.length_take, List.length_drop]; omega)]
    · rw [if_neg hfi, if_neg (by omega), List.getElem?_take, if_pos hi, List.getElem?_drop]
  · rw [if_neg hi, if_neg (by omega), List.getElem?_take, if_neg hi]

/-- all elements but the one at k -/
structure OLinkH {α : Type} (es : Nat) (O : Ob α) (s : Sg) (k : Nat) (cs : List Value) (hs : List HP) (l : List α) : Prop where
  len : hs.length = l.length
  el : ∀ j x H, j ≠ k → l[j]? = some x → hs[j]? = some H → O s ((cs.drop (j * es)).take es) H x
section
variable {α : Type} {es k : Nat} {O : Ob α} {s t : Sg} {cs : List Value} {hs : List HP} {l : List α}
theorem OLink.hole (q : OLink es O s cs hs l) (k : Nat) : OLinkH es O s k cs hs l := ⟨q.len, fun j x H _ h1 h2 => q.el j x H h1 h2⟩
theorem OLinkH.mono (hO : Omono O) (h : s.Le t) (q : OLinkH es O s k cs hs l) : OLinkH es O t k cs hs l := ⟨q.len, fun j x H h0 h1 h2 => hO _ _ h _ _ _ (q.el j x H h0 h1 h2)⟩
theorem OLinkH.put (q : OLinkH es O s k cs hs l) {f : Nat} {v : Value} (hf : f < es) (hl : k * es + f < cs.length) : OLinkH es O s k (putc cs (k * es + f) v) hs l :=
  ⟨q.len, fun j x H h0 h1 h2 => by rw [el_other hf h0 hl]; exact q.el j x H h0 h1 h2⟩
theorem OLinkH.close (q : OLinkH es O s k cs hs l) {vs : List Value} {H : HP} {y : α} (hd : (cs.drop (k * es)).take es = vs) (h : O s vs H y) : OLink es O s cs (hs.set k H) (l.set k y) := by
  refine ⟨by simp [q.len], fun j z G h1 h2 => ?_⟩
  rw [List.getElem?_set] at h1 h2
  by_cases hj : k = j
  · subst hj
    simp only [if_true] at h1 h2
    split at h1
    · split at h2
      · simp at h1 h2; subst h1; subst h2; rw [hd]; exact h
      · cases h2
    · cases h1
  · rw [if_neg hj] at h1 h2; exact q.el j z G (Ne.symm hj) h1 h2
theorem OLink.tail {x : α} {H : HP} (q : OLink es O s cs (H :: hs) (x :: l)) : OLink es O s (cs.drop es) hs l := by
  refine ⟨by have := q.len; simpa using this, fun k y G h1 h2 => ?_⟩
  have h := q.el (k + 1) y G (by simpa using h1) (by simpa using h2)
  rw [List.drop_drop, show es + k * es = (k + 1) * es by rw [Nat.succ_mul]; omega]
  exact h
theorem OLink.at1 {x : α} {H : HP} (q : OLink es O s cs (H :: hs) (x :: l)) : O s (cs.take es) H x := by
  have h := q.el 0 x H rfl rfl
  simpa using h
end
/-- what can lay an element to rest -/
def Calms {α : Type} (O : Ob α) (Rr : Rd α) : Prop := ∀ (s : Sg) (w : World) (R : List HP) (cs : List Value) (H : HP) (x : α), O s cs H x → St w s (H :: R) → ∃ t, s.Le t ∧ St w t R ∧ Rr t cs x
theorem OLink.calm {α : Type} {es : Nat} {O : Ob α} {Rr : Rd α} (hO : Omono O) (hR : Rmono Rr) (hc : Calms O Rr) : ∀ (hs : List HP) (cs : List Value) (l : List α) {s : Sg} {w : World} {R : List HP}, OLink es O s cs hs l → cs.length = l.length * es → St w s (allC hs :: R) →
    ∃ t, s.Le t ∧ St w t R ∧ Ev es Rr t cs l
  | [], cs, [], s, w, R, q, hl, hS => ⟨s, Sg.Le.refl s, hS.tail, by
      have : cs = [] := List.eq_nil_of_length_eq_zero (by simpa using hl)
      subst this; exact Ev.nil⟩
  | [], cs, x :: l, s, w, R, q, hl, hS => by have := q.len; simp at this
  | H :: hs, cs, [], s, w, R, q, hl, hS => by have := q.len; simp at this
  | H :: hs, cs, x :: l, s, w, R, q, hl, hS => by
    have h1 : St w s (H :: allC hs :: R) := hS.map fun h q => Sat.flat (Sat.head (fun h q => Sat.two q) q)
    obtain ⟨t, h2, h3, h4⟩ := hc _ _ _ _ _ _ q.at1 h1
    simp only [List.length_cons, Nat.succ_mul] at hl
    obtain ⟨u, h5, h6, h7⟩ := OLink.calm hO hR hc hs (cs.drop es) l (q.tail.mono hO h2) (by rw [List.length_drop]; omega) h3
    refine ⟨u, h2.trans h5, h6, ?_⟩
    have e : cs.take es ++ cs.drop es = cs := List.take_append_drop es cs
    rw [← e]
    exact Ev.cons (hR _ _ h5 _ _ h4) (by rw [List.length_take]; omega) h7
/-- the cells of such a slice, and what each element holds -/
structure HotD where
  cs : List Value
  hs : List HP
def hotC (T es : Nat) (a : Option Addr) (c n : Nat) (d : HotD) : HP := allC [vecC T es a c n d.cs, allC d.hs]
structure HEv {α : Type} (es : Nat) (O : Ob α) (s : Sg) (d : HotD) (l : List α) : Prop where
  len : d.cs.length = l.length * es
  link : OLink es O s d.cs d.hs l
section
variable {α : Type} {es T k : Nat} {O : Ob α} {s t : Sg} {d : HotD} {l : List α} {w : World} {R : List HP} {a : Option Addr} {c n : Nat}
theorem HEv.mono (hO : Omono O) (h : s.Le t) (q : HEv es O s d l) : HEv es O t d l := ⟨q.len, q.link.mono hO h⟩
theorem HEv.nil : HEv es O s ⟨[], []⟩ ([] : List α) := ⟨by simp, OLink.nil⟩
theorem HEv.ev (q : HEv es O s d l) : Ev es (RX es : Rd α) s d.cs l := RX.ev q.len
theorem HEv.at (q : HEv es O s d l) {x : α} (hy : l[k]? = some x) : ∃ H, d.hs[k]? = some H ∧ O s ((d.cs.drop (k * es)).take es) H x := by
  obtain ⟨H, h1, h2⟩ := q.link.at hy rfl
  exact ⟨H, h1, h2⟩
theorem HEv.fits (q : HEv es O s d l) {x : α} (hy : l[k]? = some x) {f : Nat} (hf : f < es) : k * es + f < d.cs.length := by
  have hk := (List.getElem?_eq_some_iff.1 hy).1
  have h2 := Nat.mul_le_mul_right es (Nat.succ_le_of_lt hk)
  rw [Nat.succ_mul] at h2
  rw [q.len]; omega
theorem HEv.snoc (q : HEv es O s d l) {vs : List Value} {H : HP} {x : α} {r : List α} (hr : l ++ [x] = r) (hv : vs.length = es) (h : O s vs H x) : HEv es O s ⟨d.cs ++ vs, d.hs ++ [H]⟩ r := by
  subst hr
  exact ⟨by simp [q.len, hv, Nat.succ_mul], q.link.snoc q.len hv h⟩
theorem HEv.close {cs vs : List Value} {hs : List HP} {H : HP} {y : α} (q : OLinkH es O s k cs hs l) (hl : cs.length = l.length * es) (hd : (cs.drop (k * es)).take es = vs) (h : O s vs H y) : HEv es O s ⟨cs, hs.set k H⟩ (l.set k y) :=
  ⟨by simp [hl], q.close hd h⟩
theorem St.hotNil (hS : St w s R) (T es : Nat) : St w s (hotC T es none 0 0 ⟨[], []⟩ :: R) := by
  have h1 : St w s (vecC T es none 0 0 [] :: allC [] :: R) := (hS.oNil).vecNil T es
  exact St.satClose (ps := [vecC T es none 0 0 [], allC []]) h1
theorem St.hotOpen (hS : St w s R) (i : Nat) (hr : R[i]? = some (hotC T es a c n d)) : St w s (vecC T es a c n d.cs :: allC d.hs :: R.eraseIdx i) := St.satOpen (ps := [vecC T es a c n d.cs, allC d.hs]) (hS.front i hr)
theorem St.hotClose {cs : List Value} {hs : List HP} (hS : St w s (vecC T es a c n cs :: allC hs :: R)) : St w s (hotC T es a c n ⟨cs, hs⟩ :: R) := St.satClose (ps := [vecC T es a c n cs, allC hs]) hS
theorem el_get {cs vs : List Value} {f : Nat} {v : Value} (hd : (cs.drop (k * es)).take es = vs) (hv : vs[f]? = some v) : cs[k * es + f]? = some v := by
  subst hd
  rw [List.getElem?_take] at hv
  split at hv
  · rwa [List.getElem?_drop] at hv
  · cases hv
theorem St.hotSees (hS : St w s R) (i : Nat) (hr : R[i]? = some (hotC T es a c n d)) {vs : List Value} (hd : (d.cs.drop (k * es)).take es = vs) {m : Nat} (_hl : vs.length = m) : Sees w (ab a) (ao a + k * es) vs := by
  have h0 := hS.hotOpen i hr
  refine h0.vecSees 0 rfl (k * es) vs ?_
  intro j u hj
  rw [← hd, List.getElem?_take] at hj
  split at hj
  · rwa [List.getElem?_drop] at hj
  · cases hj
/-- all of it laid to rest -/
theorem St.fixH {Rr : Rd α} (hO : Omono O) (hR : Rmono Rr) (hc : Calms O Rr) (i : Nat) (hS : St w s R) (hr : R[i]? = some (hotC T es a c n d)) (q : HEv es O s d l) (hn : l.length = n) :
    ∃ t, s.Le t ∧ St w t (R.eraseIdx i) ∧ Sl es Rr t a c l := by
  have h0 := hS.hotOpen i hr
  obtain ⟨t, h1, h2, h3⟩ := OLink.calm hO hR hc d.hs d.cs l q.link q.len (h0.front 1 rfl)
  obtain ⟨u, h4, h5, h6⟩ := St.fixD hR 0 h2 rfl h3 hn
  exact ⟨u, h1.trans h4, h5, h6⟩
end
end Go.Fp
