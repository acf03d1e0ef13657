/- Ranges over maps of the call's own, in whatever order. No condition. -/
import Derived.Test.YtfdifpegldailaaGreatDoorFpMore
import Derived.Maps.RangeRun
namespace Go.Fp
open Go
structure IterF {κ ν : Type} (fk : κ → Value) (fv : ν → Value) (l done : List (κ × ν)) (es : Array MapEntry) (clock : Nat) (seen : Array Nat) (c0 : Nat) (ix : List Nat) : Prop where
  ents : es.toList.map (fun e => (e.key, e.val)) = ents fk fv l
  st : stamped es clock
  low : c0 = clock
  nodup : ix.Nodup
  done : ix.map (fun i => l[i]?) = done.map some
  seen : seen.toList = ix.map (fun i => ((es[i]?).map (·.born)).getD 0)
section
variable {w : World} {s : Sg} {R : List HP} {κ ν : Type} {fk : κ → Value} {fv : ν → Value} {l done : List (κ × ν)} {b r : Nat}
namespace IterF
variable {es : Array MapEntry} {clock : Nat} {seen : Array Nat} {c0 : Nat} {ix : List Nat}
theorem len (F : IterF fk fv l done es clock seen c0 ix) : es.size = l.length := by
  have := congrArg List.length F.ents; simpa [Fp.ents] using this
theorem ixLt (F : IterF fk fv l done es clock seen c0 ix) {i : Nat} (h : i ∈ ix) : i < l.length := by
  have h1 : l[i]? ∈ ix.map (fun i => l[i]?) := List.mem_map.2 ⟨i, h, rfl⟩
  rw [F.done] at h1
  obtain ⟨p, _, h2⟩ := List.mem_map.1 h1
  exact (List.getElem?_eq_some_iff.1 h2.symm).1
theorem start (hents : es.toList.map (fun e => (e.key, e.val)) = Fp.ents fk fv l) (hst : stamped es clock) : IterF fk fv l [] es clock #[] clock [] :=
  ⟨hents, hst, rfl, List.nodup_nil, rfl, rfl⟩
theorem split (F : IterF fk fv l done es clock seen c0 ix) : ∃ left, l.Perm (done ++ left) ∧ left.length + done.length = l.length := by
  have h1 : (ix ++ (List.range l.length).filter (fun i => !ix.contains i)).Perm (List.range l.length) := by
    refine (List.perm_ext_iff_of_nodup ?_ List.nodup_range).2 fun i => ?_
    · rw [List.nodup_append]
      refine ⟨F.nodup, List.nodup_range.sublist List.filter_sublist, ?_⟩
      intro a ha b hb e
      subst e
      have := (List.mem_filter.1 hb).2
      simp [ha] at this
    · rw [List.mem_append, List.mem_filter, List.mem_range]
      constructor
      · rintro (q | q)
        · exact F.ixLt q
        · exact q.1
      · intro q
        by_cases c : i ∈ ix
        · exact .inl c
        · exact .inr ⟨q, by simpa using c⟩
  have h2 := (h1.map (fun i => l[i]?)).filterMap id
  rw [List.map_append, F.done, List.filterMap_append] at h2
  have e1 : (done.map some).filterMap id = done := by clear h2 h1 F; induction done with | nil => rfl | cons a r ih => simp
  have e2 : ((List.range l.length).map (fun i => l[i]?)).filterMap id = l := by
    have : (List.range l.length).map (fun i => l[i]?) = l.map some := by
      apply List.ext_getElem?
      intro i
      by_cases c : i < l.length
      · simp [c]
      · simp [c]
    rw [this]
    clear this h2 h1 F e1
    induction l with | nil => rfl | cons a r ih => simp
  rw [e1, e2] at h2
  refine ⟨_, h2.symm, ?_⟩
  have := h2.length_eq
  rw [List.length_append] at this
  omega
end IterF
end
section
variable {P : Program} {K : Kt} {a : Act} {w : World} {n : Nat} {E : Env} {ops : Array Oper} {rest : List Oper} {d : Option Tmp} {ty : TypeId} {pos : String} {aft : Array Edge} {g : Option (Nat × Bool)} {s : Sg} {R : List HP}
variable {κ ν : Type} {fk : κ → Value} {fv : ν → Value}
end
end Go.Fp
