/- Ranges over maps of the call's own, in whatever order. No condition. -/
import Derived.Test.YthllfhmpjclplaaGreatDoorFpLend
import Derived.Test.YthllfhmpjclplaaGreatDoorFpDel
import Derived.Maps.RangeRun
open List renaming mem_map → b3f, pairwise_iff_getElem → b4d, range → b3F, nodup_range → b4K, mem_filter → b2F
open Array renaming getElem?_eq_some_iff → b3a
namespace Go.Fp
open Go
structure a1c {κ ν : Type} (fk : κ → Value) (fv : ν → Value) (l done : List (κ × ν)) (es : Array MapEntry) (clock : Nat) (seen : Array Nat) (c0 : Nat) (ix : List Nat) : Prop where
  ents : es.toList.map (fun e => (e.key, e.val)) = ents fk fv l
  st : Q7 es clock
  low : c0 = clock
  nodup : ix.Nodup
  done : ix.map (fun i => l[i]?) = done.map some
  seen : seen.toList = ix.map (fun i => ((es[i]?).map (·.born)).getD 0)
section
variable {w : World} {s : Sg} {R : List HP} {κ ν : Type} {fk : κ → Value} {fv : ν → Value} {l done : List (κ × ν)} {b r : Nat}
namespace a1c
variable {es : Array MapEntry} {clock : Nat} {seen : Array Nat} {c0 : Nat} {ix : List Nat}
theorem len (F : a1c fk fv l done es clock seen c0 ix) : es.size = l.length := by
  have := congrArg List.length F.ents; simpa [Fp.ents] using this
theorem at' (F : a1c fk fv l done es clock seen c0 ix) {j : Nat} {e : MapEntry} (h : es[j]? = some e) : ∃ p, l[j]? = some p ∧ e.key = fk p.1 ∧ e.val = fv p.2 := by
  have h1 := congrArg (fun q : List (Value × Value) => q[j]?) F.ents
  have h2 : es.toList[j]? = some e := by simpa using h
  simp only [List.getElem?_map, h2, Option.map_some, Fp.ents] at h1
  cases h3 : l[j]? with
  | none => rw [h3] at h1; cases h1
  | some p =>
    rw [h3] at h1
    simp only [Option.map_some, Option.some.injEq, Prod.mk.injEq] at h1
    exact ⟨p, rfl, h1.1, h1.2⟩
theorem ixLt (F : a1c fk fv l done es clock seen c0 ix) {i : Nat} (h : i ∈ ix) : i < l.length := by
  have h1 : l[i]? ∈ ix.map (fun i => l[i]?) := b3f.2 ⟨i, h, rfl⟩
  rw [F.done] at h1
  obtain ⟨p, _, h2⟩ := b3f.1 h1
  exact (List.getElem?_eq_some_iff.1 h2.symm).1
theorem bornInj (F : a1c fk fv l done es clock seen c0 ix) {i j : Nat} {e e' : MapEntry} (h : es[i]? = some e) (h' : es[j]? = some e') (hb : e.born = e'.born) : i = j := by
  have h1 := F.st.1
  have hi : i < (es.toList.map (·.born)).length := by have := (b3a.1 h).1; simpa using this
  have hj : j < (es.toList.map (·.born)).length := by have := (b3a.1 h').1; simpa using this
  have e1 : (es.toList.map (·.born))[i] = e.born := by
    obtain ⟨q, rfl⟩ := b3a.1 h; simp
  have e2 : (es.toList.map (·.born))[j] = e'.born := by
    obtain ⟨q, rfl⟩ := b3a.1 h'; simp
  rcases Nat.lt_trichotomy i j with c | c | c
  · exact absurd (by rw [e1, e2, hb]) ((b4d.1 h1) i j hi hj c)
  · exact c
  · exact absurd (by rw [e1, e2, hb]) ((b4d.1 h1) j i hj hi c)
theorem seenIff (F : a1c fk fv l done es clock seen c0 ix) {j : Nat} {e : MapEntry} (h : es[j]? = some e) : seen.contains e.born = true ↔ j ∈ ix := by
  rw [Array.contains_iff_mem, ← Array.mem_toList_iff, F.seen, b3f]
  constructor
  · rintro ⟨i, hi, hb⟩
    have h1 : i < es.size := by rw [F.len]; exact F.ixLt hi
    have h2 : es[i]? = some es[i] := Array.getElem?_eq_getElem h1
    rw [h2] at hb
    have := F.bornInj h2 h (by simpa using hb)
    rwa [← this]
  · intro hj
    exact ⟨j, hj, by rw [h]; rfl⟩
theorem start (hents : es.toList.map (fun e => (e.key, e.val)) = Fp.ents fk fv l) (hst : Q7 es clock) : a1c fk fv l [] es clock #[] clock [] :=
  ⟨hents, hst, rfl, List.nodup_nil, rfl, rfl⟩
theorem split (F : a1c fk fv l done es clock seen c0 ix) : ∃ left, l.Perm (done ++ left) ∧ left.length + done.length = l.length := by
  have h1 : (ix ++ (b3F l.length).filter (fun i => !ix.contains i)).Perm (b3F l.length) := by
    refine (List.perm_ext_iff_of_nodup ?_ b4K).2 fun i => ?_
    · rw [List.nodup_append]
      refine ⟨F.nodup, b4K.sublist List.filter_sublist, ?_⟩
      intro a ha b hb e
      subst e
      have := (b2F.1 hb).2
      simp [ha] at this
    · rw [List.mem_append, b2F, List.mem_range]
      constructor
      · rintro (q | q)
        · exact F.ixLt q
        · exact q.1
      · intro q
        by_cases c : i ∈ ix
        · exact .inl c
        · exact .inr ⟨q, by simpa using c⟩
  have h2 := (h1.map (fun i => l[i]?)).filterMap id
  rw [List.map_append, F.done, List.filterMap_append] at h2
  have e1 : (done.map some).filterMap id = done := by clear h2 h1 F; induction done with | nil => rfl | cons a r ih => simp
  have e2 : ((b3F l.length).map (fun i => l[i]?)).filterMap id = l := by
    have : (b3F l.length).map (fun i => l[i]?) = l.map some := by
      apply List.ext_getElem?
      intro i
      by_cases c : i < l.length
      · simp [c]
      · simp [c]
    rw [this]
    clear this h2 h1 F e1
    induction l with | nil => rfl | cons a r ih => simp
  rw [e1, e2] at h2
  refine ⟨_, h2.symm, ?_⟩
  have := h2.length_eq
  rw [List.length_append] at this
  omega
end a1c
end
section
variable {P : Program} {K : Kt} {a : Act} {w : World} {n : Nat} {E : Env} {ops : Array Oper} {rest : List Oper} {d : Option Tmp} {ty : TypeId} {pos : String} {aft : Array Edge} {g : Option (Nat × Bool)} {s : Sg} {R : List HP}
variable {κ ν : Type} {fk : κ → Value} {fv : ν → Value}
end
end Go.Fp
