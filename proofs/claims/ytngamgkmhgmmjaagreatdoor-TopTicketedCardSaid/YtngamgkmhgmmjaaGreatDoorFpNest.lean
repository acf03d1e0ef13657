/- Slices of slices of the call's own: the outer one and each inner one lie in memory of the call's own. No condition. -/
import Derived.Test.YtngamgkmhgmmjaaGreatDoorFpArr
namespace Go.Fp
open Go

/-- an inner slice -/
structure In where
  a : Option Addr
  c : Nat
  n : Nat
  cs : List Value
def In.cell (d : In) : Value := .slice d.a d.n d.c
def In.hp (T es : Nat) (d : In) : HP := vecC T es d.a d.c d.n d.cs
def nilIn : In := ⟨none, 0, 0, []⟩

structure NEv {α : Type} (es : Nat) (R : Rd α) (s : Sg) (ds : List In) (l : List (List α)) : Prop where
  len : ds.length = l.length
  el : ∀ (k : Nat) (d : In) (x : List α), ds[k]? = some d → l[k]? = some x → Ev es R s d.cs x ∧ x.length = d.n

section
variable {α : Type} {es : Nat} {Rr : Rd α} {s t : Sg} {ds : List In} {l : List (List α)}

theorem NEv.mono (hR : Rmono Rr) (h : s.Le t) (q : NEv es Rr s ds l) : NEv es Rr t ds l := ⟨q.len, fun k d x h1 h2 => ⟨(q.el k d x h1 h2).1.mono hR h, (q.el k d x h1 h2).2⟩⟩
theorem NEv.nil : NEv es Rr s [] [] := ⟨rfl, fun k d x h1 _ => by simp at h1⟩
theorem NEv.rep (m : Nat) : NEv es Rr s (List.replicate m nilIn) (List.replicate m []) := by
  refine ⟨by simp, fun k d x h1 h2 => ?_⟩
  rw [List.getElem?_replicate] at h1 h2
  split at h1
  · simp at h1; simp [*] at h2; subst h1; subst h2; exact ⟨Ev.nil, rfl⟩
  · cases h1
theorem NEv.at (q : NEv es Rr s ds l) {k : Nat} {x : List α} (h : l[k]? = some x) : ∃ a c cs, ds[k]? = some ⟨a, c, x.length, cs⟩ ∧ Ev es Rr s cs x := by
  have hk : k < ds.length := by rw [q.len]; exact (List.getElem?_eq_some_iff.1 h).1
  have hd : ds[k]? = some ds[k] := List.getElem?_eq_getElem hk
  obtain ⟨h1, h2⟩ := q.el k _ x hd h
  refine ⟨ds[k].a, ds[k].c, ds[k].cs, ?_, h1⟩
  rw [hd, h2]
theorem NEv.set (q : NEv es Rr s ds l) {k : Nat} {d : In} {x : List α} (h : Ev es Rr s d.cs x) (hn : x.length = d.n) : NEv es Rr s (ds.set k d) (l.set k x) := by
  refine ⟨by simp [q.len], fun j d' x' h1 h2 => ?_⟩
  rw [List.getElem?_set] at h1 h2
  by_cases hj : k = j
  · subst hj
    simp only [if_true] at h1 h2
    split at h1
    · split at h2
      · simp at h1 h2; subst h1; subst h2; exact ⟨h, hn⟩
      · cases h2
    · cases h1
  · rw [if_neg hj] at h1 h2; exact q.el j d' x' h1 h2
theorem NEv.take (q : NEv es Rr s ds l) (m : Nat) : NEv es Rr s (ds.take m) (l.take m) := by
  refine ⟨by simp [q.len], fun j d' x' h1 h2 => ?_⟩
  rw [List.getElem?_take] at h1 h2
  split at h1
  · simp [*] at h2; exact q.el j d' x' h1 h2
  · cases h1
end

theorem Sat.flat {p q : HP} {rs : List HP} {h : Hp} (k : Sat ((fun h => Sat [p, q] h) :: rs) h) : Sat (p :: q :: rs) h := by
  obtain ⟨h1, h2, ⟨h3, h4, a, ⟨h5, h6, b, _, c1, _⟩, d1, d2⟩, e, f1, f2⟩ := k
  refine ⟨h3, fun x => match h5 x with | some o => some o | none => h2 x, a, ⟨h5, h2, b, e, ?_, ?_⟩, ?_, ?_⟩
  · intro x o hx
    refine ⟨by simp [hx], ?_⟩
    have := d2 x o (c1 x o hx).1
    exact (f1 x o this).2
  · intro x o hx
    cases h : h5 x with
    | none => simpa [h] using hx
    | some o' =>
      have h7 := (f1 x o' (d2 x o' (c1 x o' h).1)).2
      rw [hx] at h7; cases h7
  · intro x o hx
    refine ⟨(f1 x o (d1 x o hx).1).1, ?_⟩
    cases h : h5 x with
    | none => simpa [h] using (f1 x o (d1 x o hx).1).2
    | some o' => have := (d1 x o hx).2; rw [(c1 x o' h).1] at this; cases this
  · intro x o hx
    cases h : h5 x with
    | none => simp [h] at hx; exact f2 x o hx
    | some o' => simp [h] at hx; subst hx; exact (f1 x o' (d2 x o' (c1 x o' h).1)).1

theorem Sat.unflat {p q : HP} {rs : List HP} {h : Hp} (k : Sat (p :: q :: rs) h) : Sat ((fun h => Sat [p, q] h) :: rs) h := by
  obtain ⟨h1, h2, a, ⟨h3, h4, b, e, c1, c2⟩, d1, d2⟩ := k
  refine ⟨fun x => match h1 x with | some o => some o | none => h3 x, h4, ⟨h1, h3, a, ⟨h3, fun _ => none, b, trivial, fun x o hx => ⟨hx, rfl⟩, fun x o hx => by cases hx⟩, ?_, ?_⟩, e, ?_, ?_⟩
  · intro x o hx
    refine ⟨by simp [hx], ?_⟩
    cases h : h3 x with
    | none => rfl
    | some o' => have := (d1 x o hx).2; rw [(c1 x o' h).1] at this; cases this
  · intro x o hx
    cases h : h1 x with
    | none => simpa [h] using hx
    | some o' => have := (d1 x o' h).2; rw [(c1 x o hx).1] at this; cases this
  · intro x o hx
    cases h : h1 x with
    | none =>
      simp [h] at hx
      exact ⟨d2 x o (c1 x o hx).1, (c1 x o hx).2⟩
    | some o' =>
      simp [h] at hx; subst hx
      refine ⟨(d1 x o' h).1, ?_⟩
      cases h4' : h4 x with
      | none => rfl
      | some o2 => have := (d1 x o' h).2; rw [c2 x o2 h4'] at this; cases this
  · intro x o hx
    exact d2 x o (c2 x o hx)

section
variable {w : World} {s : Sg} {R : List HP} {T Ti es : Nat} {a : Option Addr} {c n : Nat} {ds : List In}

theorem set_at {R : List HP} {i : Nat} {r r' : HP} (hr : R[i]? = some r) : (R.set i r')[i]? = some r' ∧ (R.set i r').eraseIdx i = R.eraseIdx i := by
  have hlt : i < R.length := by
    rcases Nat.lt_or_ge i R.length with h | h
    · exact h
    · rw [List.getElem?_eq_none h] at hr; cases hr
  exact ⟨by simp [hlt], by rw [List.eraseIdx_set_eq]⟩

end

section
variable {P : Program} {K : Kt} {a : Act} {w : World} {n : Nat} {E : Env} {ops : Array Oper} {rest : List Oper} {d : Option Tmp} {ty : TypeId} {pos : String} {aft : Array Edge} {g : Option (Nat × Bool)} {s : Sg} {R : List HP}

variable {α : Type} {Rr : Rd α}

theorem NEv.taken {ds : List In} {l r : List (List α)} {m : Int} {es : Nat} (q : NEv es Rr s ds l) (h : r = l.take m.toNat) : NEv es Rr s (ds.take m.toNat) r := by subst h; exact q.take _

end
end Go.Fp
