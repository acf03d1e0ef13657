/- Slices of slices of the call's own: the outer one and each inner one lie in memory of the call's own. No condition. -/
import Derived.Test.YteeeklfggbfenaaFpArr
namespace Go.Fp
open Go

/-- an inner slice -/
structure In where
  a : Option Addr
  c : Nat
  n : Nat
  cs : List Value
def In.cell (d : In) : Value := .slice d.a d.n d.c
def In.hp (T es : Nat) (d : In) : HP := vecC T es d.a d.c d.n d.cs
def nilIn : In := ⟨none, 0, 0, []⟩

def insC (T es : Nat) (ds : List In) : HP := fun h => Sat (ds.map (In.hp T es)) h
def nestC (T Ti es : Nat) (a : Option Addr) (c n : Nat) (ds : List In) : HP := fun h => Sat [vecC T 1 a c n (ds.map In.cell), insC Ti es ds] h
/-- the same, without its inner slice k -/
def nestH (T Ti es : Nat) (a : Option Addr) (c n : Nat) (ds : List In) (k : Nat) : HP := fun h => Sat [vecC T 1 a c n (ds.map In.cell), insC Ti es (ds.eraseIdx k)] h

structure NEv {α : Type} (es : Nat) (R : Rd α) (s : Sg) (ds : List In) (l : List (List α)) : Prop where
  len : ds.length = l.length
  el : ∀ (k : Nat) (d : In) (x : List α), ds[k]? = some d → l[k]? = some x → Ev es R s d.cs x ∧ x.length = d.n

section
variable {α : Type} {es : Nat} {Rr : Rd α} {s t : Sg} {ds : List In} {l : List (List α)}

theorem NEv.mono (hR : Rmono Rr) (h : s.Le t) (q : NEv es Rr s ds l) : NEv es Rr t ds l := ⟨q.len, fun k d x h1 h2 => ⟨(q.el k d x h1 h2).1.mono hR h, (q.el k d x h1 h2).2⟩⟩
theorem NEv.nil : NEv es Rr s [] [] := ⟨rfl, fun k d x h1 _ => by simp at h1⟩
theorem NEv.rep (m : Nat) : NEv es Rr s (List.replicate m nilIn) (List.replicate m []) := by
  refine ⟨by simp, fun k d x h1 h2 => ?_⟩
  rw [List.getElem?_replicate] at h1 h2
  split at h1
  · simp at h1; simp [*] at h2; subst h1; subst h2; exact ⟨Ev.nil, rfl⟩
  · cases h1
theorem NEv.at (q : NEv es Rr s ds l) {k : Nat} {x : List α} (h : l[k]? = some x) : ∃ a c cs, ds[k]? = some ⟨a, c, x.length, cs⟩ ∧ Ev es Rr s cs x := by
  have hk : k < ds.length := by rw [q.len]; exact (List.getElem?_eq_some_iff.1 h).1
  have hd : ds[k]? = some ds[k] := List.getElem?_eq_getElem hk
  obtain ⟨h1, h2⟩ := q.el k _ x hd h
  refine ⟨ds[k].a, ds[k].c, ds[k].cs, ?_, h1⟩
  rw [hd, h2]
theorem NEv.set (q : NEv es Rr s ds l) {k : Nat} {d : In} {x : List α} (h : Ev es Rr s d.cs x) (hn : x.length = d.n) : NEv es Rr s (ds.set k d) (l.set k x) := by
  refine ⟨by simp [q.len], fun j d' x' h1 h2 => ?_⟩
  rw [List.getElem?_set] at h1 h2
  by_cases hj : k = j
  · subst hj
    simp only [if_true] at h1 h2
    split at h1
    · split at h2
      · simp at h1 h2; subst h1; subst h2; exact ⟨h, hn⟩
      · cases h2
    · cases h1
  · rw [if_neg hj] at h1 h2; exact q.el j d' x' h1 h2
theorem NEv.snoc (q : NEv es Rr s ds l) {d : In} {x : List α} (h : Ev es Rr s d.cs x) (hn : x.length = d.n) : NEv es Rr s (ds ++ [d]) (l ++ [x]) := by
  refine ⟨by simp [q.len], fun j d' x' h1 h2 => ?_⟩
  have hl := q.len
  rcases Nat.lt_or_ge j ds.length with hj | hj
  · rw [List.getElem?_append_left hj] at h1
    rw [List.getElem?_append_left (by omega)] at h2
    exact q.el j d' x' h1 h2
  · rw [List.getElem?_append_right hj] at h1
    rw [List.getElem?_append_right (by omega)] at h2
    have e : j - l.length = j - ds.length := by omega
    rw [e] at h2
    rcases Nat.eq_zero_or_pos (j - ds.length) with h0 | h0
    · rw [h0] at h1 h2; simp at h1 h2; subst h1; subst h2; exact ⟨h, hn⟩
    · rw [List.getElem?_eq_none (by simp; omega)] at h1; cases h1
theorem NEv.take (q : NEv es Rr s ds l) (m : Nat) : NEv es Rr s (ds.take m) (l.take m) := by
  refine ⟨by simp [q.len], fun j d' x' h1 h2 => ?_⟩
  rw [List.getElem?_take] at h1 h2
  split at h1
  · simp [*] at h2; exact q.el j d' x' h1 h2
  · cases h1
end

theorem Sat.flat {p q : HP} {rs : List HP} {h : Hp} (k : Sat ((fun h => Sat [p, q] h) :: rs) h) : Sat (p :: q :: rs) h := by
  obtain ⟨h1, h2, ⟨h3, h4, a, ⟨h5, h6, b, _, c1, _⟩, d1, d2⟩, e, f1, f2⟩ := k
  refine ⟨h3, fun x => match h5 x with | some o => some o | none => h2 x, a, ⟨h5, h2, b, e, ?_, ?_⟩, ?_, ?_⟩
  · intro x o hx
    refine ⟨by simp [hx], ?_⟩
    have := d2 x o (c1 x o hx).1
    exact (f1 x o this).2
  · intro x o hx
    cases h : h5 x with
    | none => simpa [h] using hx
    | some o' =>
      have h7 := (f1 x o' (d2 x o' (c1 x o' h).1)).2
      rw [hx] at h7; cases h7
  · intro x o hx
    refine ⟨(f1 x o (d1 x o hx).1).1, ?_⟩
    cases h : h5 x with
    | none => simpa [h] using (f1 x o (d1 x o hx).1).2
    | some o' => have := (d1 x o hx).2; rw [(c1 x o' h).1] at this; cases this
  · intro x o hx
    cases h : h5 x with
    | none => simp [h] at hx; exact f2 x o hx
    | some o' => simp [h] at hx; subst hx; exact (f1 x o' (d2 x o' (c1 x o' h).1)).1

theorem Sat.unflat {p q : HP} {rs : List HP} {h : Hp} (k : Sat (p :: q :: rs) h) : Sat ((fun h => Sat [p, q] h) :: rs) h := by
  obtain ⟨h1, h2, a, ⟨h3, h4, b, e, c1, c2⟩, d1, d2⟩ := k
  refine ⟨fun x => match h1 x with | some o => some o | none => h3 x, h4, ⟨h1, h3, a, ⟨h3, fun _ => none, b, trivial, fun x o hx => ⟨hx, rfl⟩, fun x o hx => by cases hx⟩, ?_, ?_⟩, e, ?_, ?_⟩
  · intro x o hx
    refine ⟨by simp [hx], ?_⟩
    cases h : h3 x with
    | none => rfl
    | some o' => have := (d1 x o hx).2; rw [(c1 x o' h).1] at this; cases this
  · intro x o hx
    cases h : h1 x with
    | none => simpa [h] using hx
    | some o' => have := (d1 x o' h).2; rw [(c1 x o hx).1] at this; cases this
  · intro x o hx
    cases h : h1 x with
    | none =>
      simp [h] at hx
      exact ⟨d2 x o (c1 x o hx).1, (c1 x o hx).2⟩
    | some o' =>
      simp [h] at hx; subst hx
      refine ⟨(d1 x o' h).1, ?_⟩
      cases h4' : h4 x with
      | none => rfl
      | some o2 => have := (d1 x o' h).2; rw [c2 x o2 h4'] at this; cases this
  · intro x o hx
    exact d2 x o (c2 x o hx)

section
variable {w : World} {s : Sg} {R : List HP} {T Ti es : Nat} {a : Option Addr} {c n : Nat} {ds : List In}

theorem St.nSplit (hS : St w s R) (i : Nat) (hr : R[i]? = some (nestC T Ti es a c n ds)) : St w s (vecC T 1 a c n (ds.map In.cell) :: insC Ti es ds :: R.eraseIdx i) :=
  (hS.front i hr).map fun _ q => Sat.flat q
theorem St.hSplit {k : Nat} (hS : St w s R) (i : Nat) (hr : R[i]? = some (nestH T Ti es a c n ds k)) : St w s (vecC T 1 a c n (ds.map In.cell) :: insC Ti es (ds.eraseIdx k) :: R.eraseIdx i) :=
  (hS.front i hr).map fun _ q => Sat.flat q

theorem set_at {R : List HP} {i : Nat} {r r' : HP} (hr : R[i]? = some r) : (R.set i r')[i]? = some r' ∧ (R.set i r').eraseIdx i = R.eraseIdx i := by
  have hlt : i < R.length := by
    rcases Nat.lt_or_ge i R.length with h | h
    · exact h
    · rw [List.getElem?_eq_none h] at hr; cases hr
  exact ⟨by simp [hlt], by rw [List.eraseIdx_set_eq]⟩

theorem St.nJoin {r : HP} (i : Nat) (hr : R[i]? = some r) (hS : St w s (vecC T 1 a c n (ds.map In.cell) :: insC Ti es ds :: R.eraseIdx i)) : St w s (R.set i (nestC T Ti es a c n ds)) := by
  have h1 : St w s (nestC T Ti es a c n ds :: R.eraseIdx i) := hS.map fun _ q => Sat.unflat q
  obtain ⟨e1, e2⟩ := set_at (r' := nestC T Ti es a c n ds) hr
  rw [← e2] at h1
  exact St.unfront i e1 h1

theorem map_eraseIdx {α β : Type} (f : α → β) : ∀ (l : List α) (k : Nat), (l.eraseIdx k).map f = (l.map f).eraseIdx k
  | [], k => by simp
  | x :: l, 0 => by simp
  | x :: l, k + 1 => by simp [map_eraseIdx f l k]

theorem insC_out {k : Nat} {d : In} {h : Hp} (q : insC Ti es ds h) (hd : ds[k]? = some d) : Sat (In.hp Ti es d :: (ds.eraseIdx k).map (In.hp Ti es)) h := by
  have h1 : (ds.map (In.hp Ti es))[k]? = some (In.hp Ti es d) := by simp [hd]
  rw [map_eraseIdx]
  exact Sat.perm (by
    clear q hd
    generalize ds.map (In.hp Ti es) = rs at h1
    induction rs generalizing k with
    | nil => simp at h1
    | cons x l ih =>
      cases k with
      | zero => simp at h1; subst h1; exact List.Perm.refl _
      | succ k => simp at h1; simp only [List.eraseIdx_cons_succ]; exact ((ih h1).cons x).trans (List.Perm.swap _ _ _)) q

theorem insC_in {k : Nat} {d : In} {h : Hp} (hk : k < ds.length) (q : Sat (In.hp Ti es d :: (ds.eraseIdx k).map (In.hp Ti es)) h) : insC Ti es (ds.set k d) h := by
  have h1 : ((ds.set k d).map (In.hp Ti es))[k]? = some (In.hp Ti es d) := by simp [hk]
  have h2 : (ds.eraseIdx k).map (In.hp Ti es) = ((ds.set k d).map (In.hp Ti es)).eraseIdx k := by rw [← map_eraseIdx, List.eraseIdx_set_eq]
  rw [h2] at q
  exact Sat.perm (by
    clear q h2
    generalize (ds.set k d).map (In.hp Ti es) = rs at h1
    clear hk
    induction rs generalizing k with
    | nil => simp at h1
    | cons x l ih =>
      cases k with
      | zero => simp at h1; subst h1; exact List.Perm.refl _
      | succ k => simp at h1; simp only [List.eraseIdx_cons_succ]; exact (List.Perm.swap _ _ _).trans ((ih h1).cons x)) q

/-- an inner slice is taken out -/
theorem St.borrow (hS : St w s R) (i : Nat) (hr : R[i]? = some (nestC T Ti es a c n ds)) {k : Nat} {d : In} (hd : ds[k]? = some d) : St w s (vecC Ti es d.a d.c d.n d.cs :: R.set i (nestH T Ti es a c n ds k)) := by
  have h1 := hS.nSplit i hr
  have h2 : St w s (In.hp Ti es d :: nestH T Ti es a c n ds k :: R.eraseIdx i) := by
    refine h1.map fun h q => ?_
    have q1 : Sat (insC Ti es ds :: vecC T 1 a c n (ds.map In.cell) :: R.eraseIdx i) h := q.swap
    obtain ⟨h1, h2, p1, p2, p3, p4⟩ := q1
    have p1' := insC_out p1 hd
    have q2 : Sat ((fun h => Sat [In.hp Ti es d, insC Ti es (ds.eraseIdx k)] h) :: vecC T 1 a c n (ds.map In.cell) :: R.eraseIdx i) h := by
      refine ⟨h1, h2, ?_, p2, p3, p4⟩
      obtain ⟨g1, g2, r1, r2, r3, r4⟩ := p1'
      exact ⟨g1, g2, r1, ⟨g2, fun _ => none, r2, trivial, fun x o hx => ⟨hx, rfl⟩, fun x o hx => by cases hx⟩, r3, r4⟩
    have q3 := Sat.flat q2
    refine Sat.under (fun h q => ?_) q3
    exact Sat.unflat q.swap
  obtain ⟨e1, e2⟩ := set_at (r' := nestH T Ti es a c n ds k) hr
  have h3 : St w s (nestH T Ti es a c n ds k :: In.hp Ti es d :: R.eraseIdx i) := h2.swap
  have e3 : (vecC Ti es d.a d.c d.n d.cs :: R.set i (nestH T Ti es a c n ds k))[i + 1]? = some (nestH T Ti es a c n ds k) := by simpa using e1
  refine St.unfront (i + 1) e3 ?_
  simp only [List.eraseIdx_cons_succ]
  rw [e2]
  exact h3

theorem St.borrowM (hS : St w s R) (i : Nat) (hr : R[i]? = some (nestC T Ti es a c n ds)) {k : Nat} {a' : Option Addr} {c' m : Nat} {cs : List Value} (hd : ds[k]? = some ⟨a', c', m, cs⟩) : St w s (vecC Ti es a' c' m cs :: R.set i (nestH T Ti es a c n ds k)) := hS.borrow i hr hd

/-- it is put back; the outer slice has its header already -/
theorem St.putBack {k : Nat} {d : In} (i : Nat) (hk : k < ds.length) (hS : St w s (In.hp Ti es d :: R)) (hr : R[i]? = some (nestH T Ti es a c n ds k)) (hd : (ds.set k d).map In.cell = ds.map In.cell) :
    St w s (R.set i (nestC T Ti es a c n (ds.set k d))) := by
  have e3 : (In.hp Ti es d :: R)[i + 1]? = some (nestH T Ti es a c n ds k) := by simpa using hr
  have h1 := hS.hSplit (i + 1) e3
  simp only [List.eraseIdx_cons_succ] at h1
  refine St.nJoin i hr ?_
  rw [hd]
  refine h1.map fun h q => Sat.under (fun h q => ?_) q
  have q1 : Sat (In.hp Ti es d :: insC Ti es (ds.eraseIdx k) :: R.eraseIdx i) h := q.swap
  have q2 := Sat.unflat q1
  refine Sat.head (fun h q => ?_) q2
  refine insC_in hk ?_
  obtain ⟨g1, g2, r1, ⟨g3, g4, t1, _, t3, _⟩, r3, r4⟩ := q
  exact ⟨g1, g3, r1, t1, fun b o hx => ⟨(r3 b o hx).1, by
    cases h3 : g3 b with
    | none => rfl
    | some o' => have := (t3 b o' h3).1; rw [(r3 b o hx).2] at this; cases this⟩, fun b o hx => r4 b o (t3 b o hx).1⟩

theorem St.giveBack {k m : Nat} {a' : Option Addr} {c' : Nat} {cs cs' : List Value} (i : Nat) (hS : St w s (vecC Ti es a' c' m cs' :: R)) (hr : R[i]? = some (nestH T Ti es a c n ds k)) (hd : ds[k]? = some ⟨a', c', m, cs⟩) :
    St w s (R.set i (nestC T Ti es a c n (ds.set k ⟨a', c', m, cs'⟩))) := by
  have hk := (List.getElem?_eq_some_iff.1 hd).1
  refine St.putBack i hk hS hr ?_
  apply List.ext_getElem?
  intro j
  rw [List.getElem?_map, List.getElem?_map, List.getElem?_set]
  by_cases hj : k = j
  · subst hj; simp [hk]; rw [List.getElem?_eq_getElem hk] at hd; have := Option.some.inj hd; rw [this]; rfl
  · rw [if_neg hj]

theorem St.giveBack0 {k m : Nat} {a' : Option Addr} {c' : Nat} {cs : List Value} (i : Nat) (hS : St w s (vecC Ti es a' c' m cs :: R)) (hr : R[i]? = some (nestH T Ti es a c n ds k)) (hd : ds[k]? = some ⟨a', c', m, cs⟩) :
    St w s (R.set i (nestC T Ti es a c n ds)) := by
  have h := St.giveBack i hS hr hd
  have hk := (List.getElem?_eq_some_iff.1 hd).1
  have e : ds.set k ⟨a', c', m, cs⟩ = ds := by
    apply List.ext_getElem?
    intro j
    rw [List.getElem?_set]
    by_cases hj : k = j
    · subst hj; simp [hk]; rw [List.getElem?_eq_getElem hk] at hd; exact (Option.some.inj hd).symm
    · rw [if_neg hj]
  rwa [e] at h

theorem St.nAok (hS : St w s R) (i : Nat) (hr : R[i]? = some (nestC T Ti es a c n ds)) {k : Nat} (hk : k < n) : aok a := (hS.nSplit i hr).vecAok 0 rfl hk
theorem St.hAok {j : Nat} (hS : St w s R) (i : Nat) (hr : R[i]? = some (nestH T Ti es a c n ds j)) {k : Nat} (hk : k < n) : aok a := (hS.hSplit i hr).vecAok 0 rfl hk
theorem St.nCap (hS : St w s R) (i : Nat) (hr : R[i]? = some (nestC T Ti es a c n ds)) : n ≤ c ∧ c ≤ maxLen := (hS.nSplit i hr).vecCap 0 rfl
theorem St.nLen (hS : St w s R) (i : Nat) (hr : R[i]? = some (nestC T Ti es a c n ds)) : ds.length = n := by
  have := ((hS.nSplit i hr).vec 0 rfl).1; simpa using this
/-- the header of an inner slice, read -/
theorem St.nSees (hS : St w s R) (i : Nat) (hr : R[i]? = some (nestC T Ti es a c n ds)) {k : Nat} {d : In} (hd : ds[k]? = some d) : Sees w (ab a) (ao a + k * 1) [d.cell] := by
  refine (hS.nSplit i hr).vecSees 0 rfl (k * 1) [d.cell] ?_
  intro j v hj
  cases j with
  | zero => simp at hj; subst hj; simp [hd]
  | succ j => simp at hj
/-- an inner slice's elements, read -/
theorem St.nnSees (hS : St w s R) (i : Nat) (hr : R[i]? = some (nestC T Ti es a c n ds)) {k : Nat} {d : In} (hd : ds[k]? = some d) (p : Nat) (vs : List Value) (hv : ∀ j v, vs[j]? = some v → d.cs[p + j]? = some v) : Sees w (ab d.a) (ao d.a + p) vs :=
  (hS.borrow i hr hd).vecSees 0 rfl p vs hv
theorem St.nnAok (hS : St w s R) (i : Nat) (hr : R[i]? = some (nestC T Ti es a c n ds)) {k : Nat} {d : In} (hd : ds[k]? = some d) {j : Nat} (hj : j < d.n) : aok d.a := (hS.borrow i hr hd).vecAok 0 rfl hj

theorem St.nestNil (hS : St w s R) (T Ti es : Nat) : St w s (nestC T Ti es none 0 0 [] :: R) := by
  have h1 : St w s (insC Ti es [] :: R) := hS.map fun h q => ⟨fun _ => none, h, trivial, q, (fun b o k => by cases k), fun _ _ k => k⟩
  exact (h1.vecNil T 1).map fun _ q => Sat.unflat q

theorem rep_nil (T es : Nat) : ∀ (m : Nat) (h : Hp), insC T es (List.replicate m nilIn) h
  | 0, _ => trivial
  | m + 1, h => ⟨fun _ => none, h, ⟨by simp [nilIn], .inl ⟨rfl, rfl, rfl⟩⟩, rep_nil T es m h, (fun b o k => by cases k), fun _ _ k => k⟩

/-- make([][]T, m) -/
theorem St.nestRep {m : Nat} (hS : St w s (vecC T 1 a c m (List.replicate m (.slice none 0 0)) :: R)) : St w s (nestC T Ti es a c m (List.replicate m nilIn) :: R) := by
  have e : (List.replicate m nilIn).map In.cell = List.replicate m (.slice none 0 0) := by simp [In.cell, nilIn]
  rw [← e] at hS
  refine hS.map fun h q => Sat.unflat (Sat.under (fun h q => ?_) q)
  exact ⟨fun _ => none, h, rep_nil Ti es m _, q, (fun b o k => by cases k), fun _ _ k => k⟩

theorem insC_take {h : Hp} (m : Nat) (q : insC Ti es ds h) : insC Ti es (ds.take m) h := by
  refine Sat.sub ?_ q
  rw [List.map_take]
  exact List.take_sublist _ _

theorem St.nTake (hS : St w s R) (i : Nat) (hr : R[i]? = some (nestC T Ti es a c n ds)) {m : Nat} (hm : m ≤ n) : St w s (R.set i (nestC T Ti es a c m (ds.take m))) := by
  refine St.nJoin i hr ?_
  have h1 := (hS.nSplit i hr).vecTake 0 rfl hm
  simp only [List.set_cons_zero, Nat.mul_one, ← List.map_take] at h1
  exact h1.map fun h q => Sat.under (fun h q => Sat.head (fun h q => insC_take m q) q) q

/-- all inner slices lent, then the outer one -/
theorem St.lendIns {α : Type} {Rr : Rd α} (hR : Rmono Rr) : ∀ (ds : List In) (l : List (List α)) {s : Sg} {w : World} {R : List HP}, St w s (insC Ti es ds :: R) → NEv es Rr s ds l →
    ∃ t, s.Le t ∧ St w t R ∧ (∀ (k : Nat) (d : In) (x : List α), ds[k]? = some d → l[k]? = some x → Sl es Rr t d.a d.c x ∧ x.length = d.n) ∧ ∀ w' R2, St w' t R2 → St w' s (insC Ti es ds :: R2)
  | [], l, s, w, R, hS, hN => ⟨s, Sg.Le.refl s, hS.tail, fun k d x h => by simp at h, fun w' R2 h => h.map fun h q => ⟨fun _ => none, h, trivial, q, (fun b o k => by cases k), fun _ _ k => k⟩⟩
  | d :: ds, [], s, w, R, hS, hN => by have := hN.len; simp at this
  | d :: ds, x :: l, s, w, R, hS, hN => by
    have hd := hN.el 0 d x rfl rfl
    have hN' : NEv es Rr s ds l := ⟨by have := hN.len; simpa using this, fun k d x h1 h2 => hN.el (k + 1) d x (by simpa using h1) (by simpa using h2)⟩
    have h1 : St w s (In.hp Ti es d :: insC Ti es ds :: R) := by
      refine hS.map fun h q => ?_
      refine Sat.flat (Sat.head (fun h q => ?_) q)
      obtain ⟨g1, g2, r1, r2, r3, r4⟩ := q
      exact ⟨g1, g2, r1, ⟨g2, fun _ => none, r2, trivial, fun b o hx => ⟨hx, rfl⟩, fun b o hx => by cases hx⟩, r3, r4⟩
    obtain ⟨t1, l1, hS1, hs1, bk1⟩ := St.lendV hR 0 h1 rfl hd.1 hd.2
    simp only [List.eraseIdx_cons_zero] at hS1
    obtain ⟨t2, l2, hS2, hs2, bk2⟩ := St.lendIns hR ds l hS1 (hN'.mono hR l1)
    refine ⟨t2, l1.trans l2, hS2, ?_, ?_⟩
    · intro k d' x' h2 h3
      cases k with
      | zero => simp at h2 h3; subst h2; subst h3; exact ⟨hs1.mono hR l2, hd.2⟩
      | succ k => exact hs2 k d' x' (by simpa using h2) (by simpa using h3)
    · intro w' R2 h
      refine (bk1 w' _ (bk2 w' R2 h)).map fun h q => ?_
      have q1 := Sat.unflat q
      refine Sat.head (fun h q => ?_) q1
      obtain ⟨g1, g2, r1, ⟨g3, g4, t1, _, t3, _⟩, r3, r4⟩ := q
      exact ⟨g1, g3, r1, t1, fun b o hx => ⟨(r3 b o hx).1, by
        cases h3 : g3 b with
        | none => rfl
        | some o' => have := (t3 b o' h3).1; rw [(r3 b o hx).2] at this; cases this⟩, fun b o hx => r4 b o (t3 b o hx).1⟩

theorem St.lendN {α : Type} {Rr : Rd α} (hR : Rmono Rr) {l : List (List α)} (i : Nat) (hS : St w s R) (hr : R[i]? = some (nestC T Ti es a c n ds)) (hv : NEv es Rr s ds l) (hn : l.length = n) :
    ∃ t, s.Le t ∧ St w t (R.eraseIdx i) ∧ Sl 1 (RL es Rr) t a c l ∧ ∀ w' R2, St w' t R2 → St w' s (nestC T Ti es a c n ds :: R2) := by
  have h1 := (hS.nSplit i hr).swap
  obtain ⟨t1, l1, hS1, hs1, bk1⟩ := St.lendIns hR ds l h1 hv
  have hev : Ev 1 (RL es Rr) t1 (ds.map In.cell) l := by
    refine ⟨by simp [hv.len], ?_⟩
    intro k x hk
    have hk' : k < ds.length := by rw [hv.len]; exact (List.getElem?_eq_some_iff.1 hk).1
    obtain ⟨q1, q2⟩ := hs1 k ds[k] x (List.getElem?_eq_getElem hk') hk
    refine ⟨ds[k].a, ds[k].c, ?_, q1⟩
    rw [q2]
    have e : ((ds.map In.cell).drop (k * 1)).take 1 = [(ds[k]).cell] := by
      rw [Nat.mul_one, List.drop_eq_getElem_cons (by simpa using hk')]; simp
    rw [e]; rfl
  obtain ⟨t2, l2, hS2, hs2, bk2⟩ := St.lendV (RL.mono hR) 0 hS1 rfl hev hn
  simp only [List.eraseIdx_cons_zero] at hS2
  refine ⟨t2, l1.trans l2, hS2, hs2, fun w' R2 h => ?_⟩
  exact ((bk1 w' _ (bk2 w' R2 h)).swap).map fun _ q => Sat.unflat q

theorem St.fixN {α : Type} {Rr : Rd α} (hR : Rmono Rr) {l : List (List α)} (i : Nat) (hS : St w s R) (hr : R[i]? = some (nestC T Ti es a c n ds)) (hv : NEv es Rr s ds l) (hn : l.length = n) :
    ∃ t, s.Le t ∧ St w t (R.eraseIdx i) ∧ Sl 1 (RL es Rr) t a c l := by
  obtain ⟨t, h1, h2, h3, _⟩ := St.lendN hR i hS hr hv hn
  exact ⟨t, h1, h2, h3⟩
end

section
variable {P : Program} {K : Kt} {a : Act} {w : World} {n : Nat} {E : Env} {ops : Array Oper} {rest : List Oper} {d : Option Tmp} {ty : TypeId} {pos : String} {aft : Array Edge} {g : Option (Nat × Bool)} {s : Sg} {R : List HP}

/-- store of an inner slice that has been taken out, or made anew, at place k -/
theorem WL.storeN (hE : Rep a n E) {t T Ti es c m k : Nat} {sa a' : Option Addr} {c' n' : Nat} {cs' : List Value} {ds : List In} (hS : St w s (vecC Ti es a' c' n' cs' :: R)) (i : Nat) (hr : R[i]? = some (nestH T Ti es sa c m ds k)) {x y : Operand}
    (hg : Region.wanted ⟨d, .store t x y, ty, pos, aft, g⟩ (yielded ops a.tmps) = true) (hx : E.ev x = some (.pointer (some ⟨ab sa, ao sa + k * 1, none⟩))) (hy : E.ev y = some (.slice a' n' c')) (ht : tyOk P t false 1 = true)
    (hk : k < m) (hd : dstOk d n = true)
    (q : ∀ a w, Rep a n (E.put d undef) → St w s (R.set i (nestC T Ti es sa c m (ds.set k ⟨a', c', n', cs'⟩))) → WL P ops K rest a w) : WL P ops K (⟨d, .store t x y, ty, pos, aft, g⟩ :: rest) a w := by
  have e3 : (vecC Ti es a' c' n' cs' :: R)[i + 1]? = some (nestH T Ti es sa c m ds k) := by simpa using hr
  have h1 := hS.hSplit (i + 1) e3
  simp only [List.eraseIdx_cons_succ] at h1
  have hlen : ds.length = m := by have := (h1.vec 0 rfl).1; simpa using this
  refine WL.storeV (p := k * 1) (vs := [.slice a' n' c']) (agg := false) hE h1 0 rfl hg hx hy rfl ht rfl (by simp; omega) (by omega) hd ?_
  intro a w hE2 hS2
  refine q a w hE2 (St.nJoin i hr ?_)
  simp only [List.set_cons_zero] at hS2
  have ec : (ds.map In.cell).take (k * 1) ++ [Value.slice a' n' c'] ++ (ds.map In.cell).drop (k * 1 + [Value.slice a' n' c'].length) = (ds.set k ⟨a', c', n', cs'⟩).map In.cell := by
    rw [List.map_set, List.set_eq_take_append_cons_drop]
    simp [hlen, hk, In.cell]
  rw [ec] at hS2
  refine hS2.map fun h q => Sat.under (fun h q => ?_) q
  have q1 : Sat (In.hp Ti es ⟨a', c', n', cs'⟩ :: insC Ti es (ds.eraseIdx k) :: R.eraseIdx i) h := q.swap
  have q2 := Sat.unflat q1
  refine Sat.head (fun h q => ?_) q2
  refine insC_in (by omega) ?_
  obtain ⟨g1, g2, r1, ⟨g3, g4, t1, _, t3, _⟩, r3, r4⟩ := q
  exact ⟨g1, g3, r1, t1, fun b o hx => ⟨(r3 b o hx).1, by
    cases h3 : g3 b with
    | none => rfl
    | some o' => have := (t3 b o' h3).1; rw [(r3 b o hx).2] at this; cases this⟩, fun b o hx => r4 b o (t3 b o hx).1⟩

/-- append of one inner slice, which comes along -/
theorem WL.appN (hE : Rep a n E) {b' T' c0 : Nat} {fr : Nat × Nat} {t T Ti es c k : Nat} {sa a' : Option Addr} {c' n' : Nat} {cs' : List Value} {ds : List In}
    (hS : St w s (pt b' (.cells [Value.slice a' n' c'].toArray T' fr) :: vecC Ti es a' c' n' cs' :: R)) (i : Nat) (hr : R[i]? = some (nestC T Ti es sa c k ds)) {x y : Operand}
    (hg : Region.wanted ⟨d, .call ⟨.builtin .append, #[x, y], #[t, t]⟩, ty, pos, aft, g⟩ (yielded ops a.tmps) = true) (hx : E.ev x = some (.slice sa k c)) (hy : E.ev y = some (.slice (some ⟨b', 0, none⟩) 1 c0)) (ht : apOk P t T 1 = true)
    (hb : k + 1 < 4294967296) (hd : dstOk d n = true)
    (q : ∀ a2 c2 a w, Rep a n (E.put d (.slice a2 (k + 1) c2)) → St w s (R.set i (nestC T Ti es a2 c2 (k + 1) (ds ++ [⟨a', c', n', cs'⟩]))) → WL P ops K rest a w) : WL P ops K (⟨d, .call ⟨.builtin .append, #[x, y], #[t, t]⟩, ty, pos, aft, g⟩ :: rest) a w := by
  have e3 : (pt b' (.cells [Value.slice a' n' c'].toArray T' fr) :: vecC Ti es a' c' n' cs' :: R)[i + 2]? = some (nestC T Ti es sa c k ds) := by simpa using hr
  have h1 := hS.nSplit (i + 2) e3
  simp only [List.eraseIdx_cons_succ] at h1
  have h2 : St w s (pt b' (.cells [Value.slice a' n' c'].toArray T' fr) :: vecC T 1 sa c k (ds.map In.cell) :: insC Ti es ds :: vecC Ti es a' c' n' cs' :: R.eraseIdx i) := h1.third
  refine WL.app hE h2 0 hg hx hy rfl ht rfl rfl rfl hb hd ?_
  intro a2 c2 a w hE2 hS2
  refine q a2 c2 a w hE2 (St.nJoin i hr ?_)
  simp only [List.set_cons_zero] at hS2
  have ec : ds.map In.cell ++ [Value.slice a' n' c'] = (ds ++ [(⟨a', c', n', cs'⟩ : In)]).map In.cell := by simp [In.cell]
  rw [ec] at hS2
  refine hS2.map fun h q => Sat.under (fun h q => ?_) q
  have q2 := Sat.unflat q
  refine Sat.head (fun h q => ?_) q2
  unfold insC
  refine Sat.perm (List.perm_append_comm (l₁ := [(⟨a', c', n', cs'⟩ : In)]) |>.map _) ?_
  obtain ⟨g1, g2, r1, ⟨g3, g4, t1, _, t3, _⟩, r3, r4⟩ := Sat.swap q
  exact ⟨g1, g3, r1, t1, fun b o hx => ⟨(r3 b o hx).1, by
    cases h3 : g3 b with
    | none => rfl
    | some o' => have := (t3 b o' h3).1; rw [(r3 b o hx).2] at this; cases this⟩, fun b o hx => r4 b o (t3 b o hx).1⟩

variable {α : Type} {Rr : Rd α}

theorem WL.storeND (hE : Rep a n E) {t T Ti es c m k : Nat} {sa a' : Option Addr} {c' n' : Nat} {cs' : List Value} {ds : List In} {l r : List (List α)} {x' : List α} {ix : Int} (hS : St w s (vecC Ti es a' c' n' cs' :: R)) (i : Nat) (hr : R[i]? = some (nestH T Ti es sa c m ds k)) {x y : Operand}
    (hg : Region.wanted ⟨d, .store t x y, ty, pos, aft, g⟩ (yielded ops a.tmps) = true) (hx : E.ev x = some (.pointer (some ⟨ab sa, ao sa + k * 1, none⟩))) (hy : E.ev y = some (.slice a' n' c')) (ht : tyOk P t false 1 = true)
    (hv : NEv es Rr s ds l) (hn : l.length = m) (hik : ix = (k : Int)) (hs : sx l ix x' = some r) (hv' : Ev es Rr s cs' x') (hn' : x'.length = n') (hd : dstOk d n = true)
    (q : ∀ ds2 a w, NEv es Rr s ds2 r → r.length = m → Rep a n (E.put d undef) → St w s (R.set i (nestC T Ti es sa c m ds2)) → WL P ops K rest a w) : WL P ops K (⟨d, .store t x y, ty, pos, aft, g⟩ :: rest) a w := by
  obtain ⟨h1, h2, rfl⟩ := sx_some hs
  subst hik
  simp only [Int.toNat_natCast] at h2 q
  refine WL.storeN hE hS i hr hg hx hy ht (by omega) hd ?_
  intro a w hE2 hS2
  exact q _ a w (hv.set (d := ⟨a', c', n', cs'⟩) hv' hn') (by simpa using hn) hE2 hS2

theorem WL.appND (hE : Rep a n E) {b' T' c0 : Nat} {fr : Nat × Nat} {t T Ti es c k : Nat} {sa a' : Option Addr} {c' n' : Nat} {cs' : List Value} {ds : List In} {l r : List (List α)} {x' : List α}
    (hS : St w s (pt b' (.cells [Value.slice a' n' c'].toArray T' fr) :: vecC Ti es a' c' n' cs' :: R)) (i : Nat) (hr : R[i]? = some (nestC T Ti es sa c k ds)) {x y : Operand}
    (hg : Region.wanted ⟨d, .call ⟨.builtin .append, #[x, y], #[t, t]⟩, ty, pos, aft, g⟩ (yielded ops a.tmps) = true) (hx : E.ev x = some (.slice sa k c)) (hy : E.ev y = some (.slice (some ⟨b', 0, none⟩) 1 c0)) (ht : apOk P t T 1 = true)
    (hv : NEv es Rr s ds l) (hn : l.length = k) (hv' : Ev es Rr s cs' x') (hn' : x'.length = n') (hb : apd l [x'] = some r) (hd : dstOk d n = true)
    (q : ∀ a2 c2 ds2 a w, NEv es Rr s ds2 r → Rep a n (E.put d (.slice a2 r.length c2)) → St w s (R.set i (nestC T Ti es a2 c2 r.length ds2)) → WL P ops K rest a w) : WL P ops K (⟨d, .call ⟨.builtin .append, #[x, y], #[t, t]⟩, ty, pos, aft, g⟩ :: rest) a w := by
  obtain ⟨h1, rfl⟩ := apd_some hb
  have e : (l ++ [x']).length = k + 1 := by simp [hn]
  refine WL.appN hE hS i hr hg hx hy ht (by simp at h1; omega) hd ?_
  intro a2 c2 a w hE2 hS2
  rw [← e] at hE2 hS2
  exact q a2 c2 _ a w (hv.snoc (d := ⟨a', c', n', cs'⟩) hv' hn') hE2 hS2

theorem WL.mkND (hE : Rep a n E) (hS : St w s R) {t e Ti es : Nat} {x y : Operand} {m : Int} {r : List (List α)} (hg : Region.wanted ⟨d, .makeSlice t x y, ty, pos, aft, g⟩ (yielded ops a.tmps) = true)
    (hx : E.ev x = some (.int .i64 m)) (hy : E.ev y = some (.int .i64 m)) (ht : apOk P t e 1 = true) (hz : (P.info? e).bind (fun i => i.zero.map fun z => z.cells.toList) = some [.slice none 0 0]) (hm : mks m ([] : List α) = some r) (hd : dstOk d n = true)
    (q : ∀ b ds a w, NEv es Rr s ds r → Rep a n (E.put d (.slice (some ⟨b, 0, none⟩) r.length r.length)) → St w s (nestC e Ti es (some ⟨b, 0, none⟩) r.length r.length ds :: R) → WL P ops K rest a w) :
    WL P ops K (⟨d, .makeSlice t x y, ty, pos, aft, g⟩ :: rest) a w := by
  obtain ⟨h0, h1, rfl⟩ := mks_some hm
  refine WL.mk hE hS hg hx hy ht hz h0 h1 hd ?_
  intro b a w hE2 hS2
  have eq1 : m.toNat = (List.replicate m.toNat ([] : List α)).length := by simp
  refine q b (List.replicate m.toNat nilIn) a w (NEv.rep _) ?_ ?_
  · rw [← eq1]; exact hE2
  · rw [← eq1]; exact St.nestRep hS2

theorem NEv.taken {ds : List In} {l r : List (List α)} {m : Int} {es : Nat} (q : NEv es Rr s ds l) (h : r = l.take m.toNat) : NEv es Rr s (ds.take m.toNat) r := by subst h; exact q.take _

end
end Go.Fp
