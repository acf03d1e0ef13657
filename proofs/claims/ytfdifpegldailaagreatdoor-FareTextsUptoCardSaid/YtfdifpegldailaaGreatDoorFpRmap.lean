/- Ranges over maps of the call's own, in whatever order. No condition. -/
import Derived.Test.YtfdifpegldailaaGreatDoorFpMore
import Derived.Maps.RangeRun
namespace Go.Fp
open Go

/-- what an iterator over a map knows: ix: the entries that have come, by their places -/
structure IterF {κ ν : Type} (fk : κ → Value) (fv : ν → Value) (l done : List (κ × ν)) (es : Array MapEntry) (clock : Nat) (seen : Array Nat) (c0 : Nat) (ix : List Nat) : Prop where
  ents : es.toList.map (fun e => (e.key, e.val)) = ents fk fv l
  st : stamped es clock
  low : c0 = clock
  nodup : ix.Nodup
  done : ix.map (fun i => l[i]?) = done.map some
  seen : seen.toList = ix.map (fun i => ((es[i]?).map (·.born)).getD 0)

/-- a range over the map b under way: what has come so far, in this order -/
def iterC {κ ν : Type} (fk : κ → Value) (fv : ν → Value) (b r : Nat) (l done : List (κ × ν)) : HP := fun h =>
  ∃ es clock seen c0 ix, IterF fk fv l done es clock seen c0 ix ∧ Sat [pt b (.map es clock), pt r (.mapIter (some b) clock seen c0)] h

section
variable {w : World} {s : Sg} {R : List HP} {κ ν : Type} {fk : κ → Value} {fv : ν → Value} {l done : List (κ × ν)} {b r : Nat}

theorem St.iterOpen (hS : St w s (iterC fk fv b r l done :: R)) : ∃ es clock seen c0 ix, IterF fk fv l done es clock seen c0 ix ∧ St w s (pt b (.map es clock) :: pt r (.mapIter (some b) clock seen c0) :: R) := by
  obtain ⟨h, ⟨h1, h2, ⟨es, clock, seen, c0, ix, F, q⟩, a2, a3, a4⟩, e⟩ := hS.own
  exact ⟨es, clock, seen, c0, ix, F, hS.sub, ⟨h, Sat.flat ⟨h1, h2, q, a2, a3, a4⟩, e⟩, hS.os, hS.out⟩
theorem St.iterClose {es : Array MapEntry} {clock : Nat} {seen : Array Nat} {c0 : Nat} {ix : List Nat} (F : IterF fk fv l done es clock seen c0 ix) (hS : St w s (pt b (.map es clock) :: pt r (.mapIter (some b) clock seen c0) :: R)) : St w s (iterC fk fv b r l done :: R) :=
  St.head (hS.map fun _ q => Sat.unflat q) fun h q => ⟨es, clock, seen, c0, ix, F, q⟩

namespace IterF
variable {es : Array MapEntry} {clock : Nat} {seen : Array Nat} {c0 : Nat} {ix : List Nat}
theorem len (F : IterF fk fv l done es clock seen c0 ix) : es.size = l.length := by
  have := congrArg List.length F.ents; simpa [Fp.ents] using this
theorem at' (F : IterF fk fv l done es clock seen c0 ix) {j : Nat} {e : MapEntry} (h : es[j]? = some e) : ∃ p, l[j]? = some p ∧ e.key = fk p.1 ∧ e.val = fv p.2 := by
  have h1 := congrArg (fun q : List (Value × Value) => q[j]?) F.ents
  have h2 : es.toList[j]? = some e := by simpa using h
  simp only [List.getElem?_map, h2, Option.map_some, Fp.ents] at h1
  cases h3 : l[j]? with
  | none => rw [h3] at h1; cases h1
  | some p =>
    rw [h3] at h1
    simp only [Option.map_some, Option.some.injEq, Prod.mk.injEq] at h1
    exact ⟨p, rfl, h1.1, h1.2⟩
theorem ixLt (F : IterF fk fv l done es clock seen c0 ix) {i : Nat} (h : i ∈ ix) : i < l.length := by
  have h1 : l[i]? ∈ ix.map (fun i => l[i]?) := List.mem_map.2 ⟨i, h, rfl⟩
  rw [F.done] at h1
  obtain ⟨p, _, h2⟩ := List.mem_map.1 h1
  exact (List.getElem?_eq_some_iff.1 h2.symm).1
theorem bornInj (F : IterF fk fv l done es clock seen c0 ix) {i j : Nat} {e e' : MapEntry} (h : es[i]? = some e) (h' : es[j]? = some e') (hb : e.born = e'.born) : i = j := by
  have h1 := F.st.1
  have hi : i < (es.toList.map (·.born)).length := by have := (Array.getElem?_eq_some_iff.1 h).1; simpa using this
  have hj : j < (es.toList.map (·.born)).length := by have := (Array.getElem?_eq_some_iff.1 h').1; simpa using this
  have e1 : (es.toList.map (·.born))[i] = e.born := by
    obtain ⟨q, rfl⟩ := Array.getElem?_eq_some_iff.1 h; simp
  have e2 : (es.toList.map (·.born))[j] = e'.born := by
    obtain ⟨q, rfl⟩ := Array.getElem?_eq_some_iff.1 h'; simp
  rcases Nat.lt_trichotomy i j with c | c | c
  · exact absurd (by rw [e1, e2, hb]) ((List.pairwise_iff_getElem.1 h1) i j hi hj c)
  · exact c
  · exact absurd (by rw [e1, e2, hb]) ((List.pairwise_iff_getElem.1 h1) j i hj hi c)
theorem seenIff (F : IterF fk fv l done es clock seen c0 ix) {j : Nat} {e : MapEntry} (h : es[j]? = some e) : seen.contains e.born = true ↔ j ∈ ix := by
  rw [Array.contains_iff_mem, ← Array.mem_toList_iff, F.seen, List.mem_map]
  constructor
  · rintro ⟨i, hi, hb⟩
    have h1 : i < es.size := by rw [F.len]; exact F.ixLt hi
    have h2 : es[i]? = some es[i] := Array.getElem?_eq_getElem h1
    rw [h2] at hb
    have := F.bornInj h2 h (by simpa using hb)
    rwa [← this]
  · intro hj
    exact ⟨j, hj, by rw [h]; rfl⟩
theorem start (hents : es.toList.map (fun e => (e.key, e.val)) = Fp.ents fk fv l) (hst : stamped es clock) : IterF fk fv l [] es clock #[] clock [] :=
  ⟨hents, hst, rfl, List.nodup_nil, rfl, rfl⟩
theorem allCame (F : IterF fk fv l done es clock seen c0 ix) (h : ∀ j, j < l.length → j ∈ ix) : l.Perm done := by
  have h1 : ix.Perm (List.range l.length) := (List.perm_ext_iff_of_nodup F.nodup List.nodup_range).2 fun i => ⟨fun q => List.mem_range.2 (F.ixLt q), fun q => h i (List.mem_range.1 q)⟩
  have h2 := (h1.map (fun i => l[i]?)).filterMap id
  rw [F.done] at h2
  have e1 : (done.map some).filterMap id = done := by induction done with | nil => rfl | cons a r ih => simp
  have e2 : ((List.range l.length).map (fun i => l[i]?)).filterMap id = l := by
    have : (List.range l.length).map (fun i => l[i]?) = l.map some := by
      apply List.ext_getElem?
      intro i
      by_cases c : i < l.length
      · simp [c]
      · simp [c]
    rw [this]
    clear this h2 h1 h F e1
    induction l with | nil => rfl | cons a r ih => simp
  rw [e1, e2] at h2
  exact h2.symm
theorem split (F : IterF fk fv l done es clock seen c0 ix) : ∃ left, l.Perm (done ++ left) ∧ left.length + done.length = l.length := by
  have h1 : (ix ++ (List.range l.length).filter (fun i => !ix.contains i)).Perm (List.range l.length) := by
    refine (List.perm_ext_iff_of_nodup ?_ List.nodup_range).2 fun i => ?_
    · rw [List.nodup_append]
      refine ⟨F.nodup, List.nodup_range.sublist List.filter_sublist, ?_⟩
      intro a ha b hb e
      subst e
      have := (List.mem_filter.1 hb).2
      simp [ha] at this
    · rw [List.mem_append, List.mem_filter, List.mem_range]
      constructor
      · rintro (q | q)
        · exact F.ixLt q
        · exact q.1
      · intro q
        by_cases c : i ∈ ix
        · exact .inl c
        · exact .inr ⟨q, by simpa using c⟩
  have h2 := (h1.map (fun i => l[i]?)).filterMap id
  rw [List.map_append, F.done, List.filterMap_append] at h2
  have e1 : (done.map some).filterMap id = done := by clear h2 h1 F; induction done with | nil => rfl | cons a r ih => simp
  have e2 : ((List.range l.length).map (fun i => l[i]?)).filterMap id = l := by
    have : (List.range l.length).map (fun i => l[i]?) = l.map some := by
      apply List.ext_getElem?
      intro i
      by_cases c : i < l.length
      · simp [c]
      · simp [c]
    rw [this]
    clear this h2 h1 F e1
    induction l with | nil => rfl | cons a r ih => simp
  rw [e1, e2] at h2
  refine ⟨_, h2.symm, ?_⟩
  have := h2.length_eq
  rw [List.length_append] at this
  omega
end IterF
end

section
variable {P : Program} {K : Kt} {a : Act} {w : World} {n : Nat} {E : Env} {ops : Array Oper} {rest : List Oper} {d : Option Tmp} {ty : TypeId} {pos : String} {aft : Array Edge} {g : Option (Nat × Bool)} {s : Sg} {R : List HP}
variable {κ ν : Type} {fk : κ → Value} {fv : ν → Value}

/-- the range begins -/
theorem WL.rangeM (hE : Rep a n E) (hS : St w s R) (i : Nat) {t kt vt : TypeId} {x : Operand} {b : Nat} {l : List (κ × ν)} (hr : R[i]? = some (mapC fk fv b l)) (hx : E.ev x = some (.map (some b))) (ht : P.underlying t = some (.map kt vt))
    (hg : Region.wanted ⟨d, .range t x, ty, pos, aft, g⟩ (yielded ops a.tmps) = true) (hd : dstOk d n = true)
    (q : ∀ r a w, Rep a n (E.put d (.pointer (some ⟨r, 0, none⟩))) → St w s (R.set i (iterC fk fv b r l [])) → WL P ops K rest a w) : WL P ops K (⟨d, .range t x, ty, pos, aft, g⟩ :: rest) a w := by
  obtain ⟨es, clock, hb, hes, hS2, hst⟩ := hS.mapAt i hr
  have h1 := (hS2.alloc (.mapIter (some b) clock #[] clock)).swap
  have h2 := h1.iterClose (IterF.start hes hst)
  obtain ⟨e1, e2⟩ := set_at (r' := iterC fk fv b w.heap.size l []) hr
  rw [← e2] at h2
  refine WL.step (w' := w.alloc (.mapIter (some b) clock #[] clock)) hg ?_ (q w.heap.size _ _ (hE.puts hd _) (St.unfront i e1 h2))
  simp only [execOp, hE.ev hx]
  simp [run_range_map w t kt vt b es clock ht hb, Result.andThen]

/-- the next entry, whichever -/
theorem WL.nextM (hE : Rep a n E) (hS : St w s R) (i : Nat) {x : Operand} {b r : Nat} {l done : List (κ × ν)} (hr : R[i]? = some (iterC fk fv b r l done)) (hx : E.ev x = some (.pointer (some ⟨r, 0, none⟩)))
    (hg : Region.wanted ⟨d, .next x false, ty, pos, aft, g⟩ (yielded ops a.tmps) = true) (hd : dstOk d n = true)
    (q1 : l.Perm done → ∀ a, Rep a n (E.put d (.tuple #[.bool false])) → WL P ops K rest a w)
    (q2 : ∀ (p : κ × ν) left a w, l.Perm (done ++ p :: left) → Rep a n (E.put d (.tuple #[.bool true, fk p.1, fv p.2])) → St w s (R.set i (iterC fk fv b r l (done ++ [p]))) → WL P ops K rest a w) : WL P ops K (⟨d, .next x false, ty, pos, aft, g⟩ :: rest) a w := by
  obtain ⟨es, clock, seen, c0, ix, F, hS2⟩ := (hS.front i hr).iterOpen
  have hb := hS2.at
  have hi := hS2.swap.at
  rcases run_next_at (P := P) w ty r b clock c0 seen es clock hi hb F.st.2 (Nat.le_of_eq F.low.symm) with ⟨h0, hrun⟩ | ⟨e, he, w1, hw1, hrun⟩
  · refine WL.step (w' := w) hg ?_ (q1 (F.allCame ?_) _ (hE.puts hd _))
    · simp only [execOp, hE.ev hx]
      simp [hrun, Result.andThen]
    · intro j hj
      have hj' : j < es.size := by rw [F.len]; exact hj
      have h1 : es[j]? = some es[j] := Array.getElem?_eq_getElem hj'
      cases c : seen.contains es[j].born with
      | true => exact (F.seenIff h1).1 c
      | false =>
        exfalso
        have : es[j] ∈ leftOf es seen := by unfold leftOf; rw [Array.mem_filter]; exact ⟨Array.getElem_mem hj', by rw [c]; rfl⟩
        have h3 := Array.size_pos_of_mem this
        omega
  · have hm : e ∈ leftOf es seen := by simpa using he
    unfold leftOf at hm
    rw [Array.mem_filter] at hm
    obtain ⟨hm1, hm2⟩ := hm
    obtain ⟨j, hj, hje⟩ := Array.getElem_of_mem hm1
    have h1 : es[j]? = some e := by rw [Array.getElem?_eq_getElem hj, hje]
    obtain ⟨p, hp, hk, hv⟩ := F.at' h1
    have hnot : j ∉ ix := fun c => by
      have := (F.seenIff h1).2 c
      rw [this] at hm2; cases hm2
    have F' : IterF fk fv l (done ++ [p]) es clock (seen.push e.born) clock (ix ++ [j]) := by
      refine ⟨F.ents, F.st, rfl, ?_, ?_, ?_⟩
      · rw [List.nodup_append]
        exact ⟨F.nodup, by simp, fun a ha b hb e => by simp at hb; subst hb; subst e; exact hnot ha⟩
      · rw [List.map_append, F.done, List.map_append]; simp [hp]
      · rw [Array.toList_push, F.seen, List.map_append]; simp [h1]
    have hS3 : St w1 s (pt r (.mapIter (some b) clock seen c0) :: pt b (.map es clock) :: R.eraseIdx i) := by
      rcases hw1 with rfl | rfl
      · exact hS2.swap
      · exact hS2.swap.drew
    have hr1 : w1.heap[r]? = some (.mapIter (some b) clock seen c0) := hS3.at
    have hS4 : St (ChangeMaps.setBlock w1 r (.mapIter (some b) clock (seen.push e.born) clock)) s (pt r (.mapIter (some b) clock (seen.push e.born) clock) :: pt b (.map es clock) :: R.eraseIdx i) := by
      refine hS3.put ?_ ?_ rfl rfl
      · have := (Array.getElem?_eq_some_iff.1 hr1).1
        simp [ChangeMaps.setBlock, this]
      · intro k hk
        simp [ChangeMaps.setBlock, Ne.symm hk]
    have hS5 := hS4.swap.iterClose F'
    obtain ⟨e1, e2⟩ := set_at (r' := iterC fk fv b r l (done ++ [p])) hr
    rw [← e2] at hS5
    obtain ⟨left, hl, _⟩ := F'.split
    refine WL.step (w' := ChangeMaps.setBlock w1 r (.mapIter (some b) clock (seen.push e.born) clock)) hg ?_ (q2 p left _ _ (by simpa using hl) (hE.puts hd _) (St.unfront i e1 hS5))
    simp only [execOp, hE.ev hx]
    simp [hrun, Result.andThen, hk, hv]

/-- the entry that has come -/
theorem Gives.entryM (hE : Rep a n E) (i : Nat) {x : Operand} {b r : Nat} {l done : List (κ × ν)} {p : κ × ν} (hr : R[i]? = some (iterC fk fv b r l (done ++ [p]))) (hx : E.ev x = some (.pointer (some ⟨r, 0, none⟩))) :
    Gives P (fun w => St w s R) a ⟨d, .entry x, ty, pos, aft, g⟩ (.tuple #[fk p.1, fv p.2]) := by
  intro w hS
  obtain ⟨es, clock, seen, c0, ix, F, hS2⟩ := (hS.front i hr).iterOpen
  have hb := hS2.at
  have hi := hS2.swap.at
  obtain ⟨ix0, j, rfl⟩ : ∃ ix0 j, ix = ix0 ++ [j] := by
    have h1 := congrArg List.length F.done
    simp at h1
    have hne : ix ≠ [] := by intro e; subst e; simp at h1
    exact ⟨ix.dropLast, ix.getLast hne, (List.dropLast_concat_getLast hne).symm⟩
  have h1 := F.done
  rw [List.map_append, List.map_append] at h1
  have h2 := List.append_inj_right' h1 rfl
  simp only [List.map_cons, List.map_nil, List.cons.injEq, and_true] at h2
  have hj : j < es.size := by rw [F.len]; exact (List.getElem?_eq_some_iff.1 h2).1
  have h3 : es[j]? = some es[j] := Array.getElem?_eq_getElem hj
  obtain ⟨p', hp', hk, hv⟩ := F.at' h3
  rw [h2] at hp'
  injection hp' with hp'
  subst hp'
  have hs := F.seen
  rw [List.map_append] at hs
  have hs2 : seen = (ix0.map fun i => ((es[i]?).map (·.born)).getD 0).toArray.push es[j].born := by
    apply Array.toList_inj.1
    rw [hs]; simp [h3]
  rw [hs2, F.low] at hi
  have := run_entry_at (P := P) w r b clock _ es clock es[j] hi hb (by simp) F.st.1
  simp only [execOp, hE.ev hx]
  simp [this, Result.andThen, hk, hv]
end
end Go.Fp
