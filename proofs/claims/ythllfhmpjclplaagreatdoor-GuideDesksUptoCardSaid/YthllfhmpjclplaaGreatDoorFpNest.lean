/- Slices of slices of the call's own: the outer one and each inner one lie in memory of the call's own. No condition. -/
import Derived.Test.YthllfhmpjclplaaGreatDoorFpArr
open List renaming replicate → b2N, getElem?_append_left → b2G, getElem?_append_right → b2D, getElem?_eq_none → b3g
namespace Go.Fp
open Go
structure In where
  a : Option Addr
  c : Nat
  n : Nat
  cs : List Value
def In.cell (d : In) : Value := .slice d.a d.n d.c
def In.hp (T es : Nat) (d : In) : HP := B2 T es d.a d.c d.n d.cs
def a3b : In := ⟨none, 0, 0, []⟩
def a2X (T es : Nat) (ds : List In) : HP := fun h => Sat (ds.map (In.hp T es)) h
structure NEv {α : Type} (es : Nat) (R : Rd α) (s : Sg) (ds : List In) (l : List (List α)) : Prop where
  len : ds.length = l.length
  el : ∀ (k : Nat) (d : In) (x : List α), ds[k]? = some d → l[k]? = some x → Ev es R s d.cs x ∧ x.length = d.n
section
variable {α : Type} {es : Nat} {Rr : Rd α} {s t : Sg} {ds : List In} {l : List (List α)}
theorem NEv.mono (hR : O7 Rr) (h : s.Le t) (q : NEv es Rr s ds l) : NEv es Rr t ds l := ⟨q.len, fun k d x h1 h2 => ⟨(q.el k d x h1 h2).1.mono hR h, (q.el k d x h1 h2).2⟩⟩
theorem NEv.nil : NEv es Rr s [] [] := ⟨rfl, fun k d x h1 _ => by simp at h1⟩
theorem NEv.rep (m : Nat) : NEv es Rr s (b2N m a3b) (b2N m []) := by
  refine ⟨by simp, fun k d x h1 h2 => ?_⟩
  rw [List.getElem?_replicate] at h1 h2
  split at h1
  · simp at h1; simp [*] at h2; subst h1; subst h2; exact ⟨Ev.nil, rfl⟩
  · cases h1
theorem NEv.at (q : NEv es Rr s ds l) {k : Nat} {x : List α} (h : l[k]? = some x) : ∃ a c cs, ds[k]? = some ⟨a, c, x.length, cs⟩ ∧ Ev es Rr s cs x := by
  have hk : k < ds.length := by rw [q.len]; exact (List.getElem?_eq_some_iff.1 h).1
  have hd : ds[k]? = some ds[k] := List.getElem?_eq_getElem hk
  obtain ⟨h1, h2⟩ := q.el k _ x hd h
  refine ⟨ds[k].a, ds[k].c, ds[k].cs, ?_, h1⟩
  rw [hd, h2]
theorem NEv.set (q : NEv es Rr s ds l) {k : Nat} {d : In} {x : List α} (h : Ev es Rr s d.cs x) (hn : x.length = d.n) : NEv es Rr s (ds.set k d) (l.set k x) := by
  refine ⟨by simp [q.len], fun j d' x' h1 h2 => ?_⟩
  rw [List.getElem?_set] at h1 h2
  by_cases hj : k = j
  · subst hj
    simp only [if_true] at h1 h2
    split at h1
    · split at h2
      · simp at h1 h2; subst h1; subst h2; exact ⟨h, hn⟩
      · cases h2
    · cases h1
  · rw [if_neg hj] at h1 h2; exact q.el j d' x' h1 h2
theorem NEv.snoc (q : NEv es Rr s ds l) {d : In} {x : List α} (h : Ev es Rr s d.cs x) (hn : x.length = d.n) : NEv es Rr s (ds ++ [d]) (l ++ [x]) := by
  refine ⟨by simp [q.len], fun j d' x' h1 h2 => ?_⟩
  have hl := q.len
  rcases Nat.lt_or_ge j ds.length with hj | hj
  · rw [b2G hj] at h1
    rw [b2G (by omega)] at h2
    exact q.el j d' x' h1 h2
  · rw [b2D hj] at h1
    rw [b2D (by omega)] at h2
    have e : j - l.length = j - ds.length := by omega
    rw [e] at h2
    rcases Nat.eq_zero_or_pos (j - ds.length) with h0 | h0
    · rw [h0] at h1 h2; simp at h1 h2; subst h1; subst h2; exact ⟨h, hn⟩
    · rw [b3g (by simp; omega)] at h1; cases h1
theorem NEv.take (q : NEv es Rr s ds l) (m : Nat) : NEv es Rr s (ds.take m) (l.take m) := by
  refine ⟨by simp [q.len], fun j d' x' h1 h2 => ?_⟩
  rw [List.getElem?_take] at h1 h2
  split at h1
  · simp [*] at h2; exact q.el j d' x' h1 h2
  · cases h1
end
theorem Sat.flat {p q : HP} {rs : List HP} {h : Hp} (k : Sat ((fun h => Sat [p, q] h) :: rs) h) : Sat (p :: q :: rs) h := by
  obtain ⟨h1, h2, ⟨h3, h4, a, ⟨h5, h6, b, _, c1, _⟩, d1, d2⟩, e, f1, f2⟩ := k
  refine ⟨h3, fun x => match h5 x with | some o => some o | none => h2 x, a, ⟨h5, h2, b, e, ?_, ?_⟩, ?_, ?_⟩
  · intro x o hx
    refine ⟨by simp [hx], ?_⟩
    have := d2 x o (c1 x o hx).1
    exact (f1 x o this).2
  · intro x o hx
    cases h : h5 x with
    | none => simpa [h] using hx
    | some o' =>
      have h7 := (f1 x o' (d2 x o' (c1 x o' h).1)).2
      rw [hx] at h7; cases h7
  · intro x o hx
    refine ⟨(f1 x o (d1 x o hx).1).1, ?_⟩
    cases h : h5 x with
    | none => simpa [h] using (f1 x o (d1 x o hx).1).2
    | some o' => have := (d1 x o hx).2; rw [(c1 x o' h).1] at this; cases this
  · intro x o hx
    cases h : h5 x with
    | none => simp [h] at hx; exact f2 x o hx
    | some o' => simp [h] at hx; subst hx; exact (f1 x o' (d2 x o' (c1 x o' h).1)).1
theorem Sat.unflat {p q : HP} {rs : List HP} {h : Hp} (k : Sat (p :: q :: rs) h) : Sat ((fun h => Sat [p, q] h) :: rs) h := by
  obtain ⟨h1, h2, a, ⟨h3, h4, b, e, c1, c2⟩, d1, d2⟩ := k
  refine ⟨fun x => match h1 x with | some o => some o | none => h3 x, h4, ⟨h1, h3, a, ⟨h3, fun _ => none, b, trivial, fun x o hx => ⟨hx, rfl⟩, fun x o hx => by cases hx⟩, ?_, ?_⟩, e, ?_, ?_⟩
  · intro x o hx
    refine ⟨by simp [hx], ?_⟩
    cases h : h3 x with
    | none => rfl
    | some o' => have := (d1 x o hx).2; rw [(c1 x o' h).1] at this; cases this
  · intro x o hx
    cases h : h1 x with
    | none => simpa [h] using hx
    | some o' => have := (d1 x o' h).2; rw [(c1 x o hx).1] at this; cases this
  · intro x o hx
    cases h : h1 x with
    | none =>
      simp [h] at hx
      exact ⟨d2 x o (c1 x o hx).1, (c1 x o hx).2⟩
    | some o' =>
      simp [h] at hx; subst hx
      refine ⟨(d1 x o' h).1, ?_⟩
      cases h4' : h4 x with
      | none => rfl
      | some o2 => have := (d1 x o' h).2; rw [c2 x o2 h4'] at this; cases this
  · intro x o hx
    exact d2 x o (c2 x o hx)
section
variable {w : World} {s : Sg} {R : List HP} {T Ti es : Nat} {a : Option Addr} {c n : Nat} {ds : List In}
theorem a0j {R : List HP} {i : Nat} {r r' : HP} (hr : R[i]? = some r) : (R.set i r')[i]? = some r' ∧ (R.set i r').eraseIdx i = R.eraseIdx i := by
  have hlt : i < R.length := by
    rcases Nat.lt_or_ge i R.length with h | h
    · exact h
    · rw [b3g h] at hr; cases hr
  exact ⟨by simp [hlt], by rw [List.eraseIdx_set_eq]⟩
theorem St.lendIns {α : Type} {Rr : Rd α} (hR : O7 Rr) : ∀ (ds : List In) (l : List (List α)) {s : Sg} {w : World} {R : List HP}, St w s (a2X Ti es ds :: R) → NEv es Rr s ds l →
    ∃ t, s.Le t ∧ St w t R ∧ (∀ (k : Nat) (d : In) (x : List α), ds[k]? = some d → l[k]? = some x → Sl es Rr t d.a d.c x ∧ x.length = d.n) ∧ ∀ w' R2, St w' t R2 → St w' s (a2X Ti es ds :: R2)
  | [], l, s, w, R, hS, hN => ⟨s, Sg.Le.refl s, hS.tail, fun k d x h => by simp at h, fun w' R2 h => h.map fun h q => ⟨fun _ => none, h, trivial, q, (fun b o k => by cases k), fun _ _ k => k⟩⟩
  | d :: ds, [], s, w, R, hS, hN => by have := hN.len; simp at this
  | d :: ds, x :: l, s, w, R, hS, hN => by
    have hd := hN.el 0 d x rfl rfl
    have hN' : NEv es Rr s ds l := ⟨by have := hN.len; simpa using this, fun k d x h1 h2 => hN.el (k + 1) d x (by simpa using h1) (by simpa using h2)⟩
    have h1 : St w s (In.hp Ti es d :: a2X Ti es ds :: R) := by
      refine hS.map fun h q => ?_
      refine Sat.flat (Sat.head (fun h q => ?_) q)
      obtain ⟨g1, g2, r1, r2, r3, r4⟩ := q
      exact ⟨g1, g2, r1, ⟨g2, fun _ => none, r2, trivial, fun b o hx => ⟨hx, rfl⟩, fun b o hx => by cases hx⟩, r3, r4⟩
    obtain ⟨t1, l1, hS1, hs1, bk1⟩ := St.lendV hR 0 h1 rfl hd.1 hd.2
    simp only [List.eraseIdx_cons_zero] at hS1
    obtain ⟨t2, l2, hS2, hs2, bk2⟩ := St.lendIns hR ds l hS1 (hN'.mono hR l1)
    refine ⟨t2, l1.trans l2, hS2, ?_, ?_⟩
    · intro k d' x' h2 h3
      cases k with
      | zero => simp at h2 h3; subst h2; subst h3; exact ⟨hs1.mono hR l2, hd.2⟩
      | succ k => exact hs2 k d' x' (by simpa using h2) (by simpa using h3)
    · intro w' R2 h
      refine (bk1 w' _ (bk2 w' R2 h)).map fun h q => ?_
      have q1 := Sat.unflat q
      refine Sat.head (fun h q => ?_) q1
      obtain ⟨g1, g2, r1, ⟨g3, g4, t1, _, t3, _⟩, r3, r4⟩ := q
      exact ⟨g1, g3, r1, t1, fun b o hx => ⟨(r3 b o hx).1, by
        cases h3 : g3 b with
        | none => rfl
        | some o' => have := (t3 b o' h3).1; rw [(r3 b o hx).2] at this; cases this⟩, fun b o hx => r4 b o (t3 b o hx).1⟩
end
section
variable {P : Program} {K : Kt} {a : Act} {w : World} {n : Nat} {E : Env} {ops : Array Oper} {rest : List Oper} {d : Option Tmp} {ty : TypeId} {pos : String} {aft : Array Edge} {g : Option (Nat × Bool)} {s : Sg} {R : List HP}
variable {α : Type} {Rr : Rd α}
theorem NEv.taken {ds : List In} {l r : List (List α)} {m : Int} {es : Nat} (q : NEv es Rr s ds l) (h : r = l.take m.toNat) : NEv es Rr s (ds.take m.toNat) r := by subst h; exact q.take _
end
end Go.Fp
