/- Ranges over maps of the call's own, told by places; mirrors that take an oracle. No condition. -/
import Derived.Test.YthllfhmpjclplaaGreatDoorFpOrc
import Derived.Test.YthllfhmpjclplaaGreatDoorFpMapV
open List renaming getElem?_eq_some_iff → b2t, range → b3F, mem_range → b5a, nodup_range → b4K, filter_sublist → b4S, mem_filter → b2F, map_append → b3b
open Array renaming getElem?_eq_getElem → b2O
namespace Go.Fp
open Go
def Y4 {κ ν : Type} (fk : κ → Value) (fv : ν → Value) (b r : Nat) (l : List (κ × ν)) (ix : List Nat) : HP := fun h =>
  ∃ done es clock seen c0, a1c fk fv l done es clock seen c0 ix ∧ Sat [pt b (.map es clock), pt r (.mapIter (some b) clock seen c0)] h
section
variable {w : World} {s : Sg} {R : List HP} {κ ν : Type} {fk : κ → Value} {fv : ν → Value} {l : List (κ × ν)} {ix : List Nat} {b r : Nat}
theorem St.iOpen (hS : St w s (Y4 fk fv b r l ix :: R)) : ∃ done es clock seen c0, a1c fk fv l done es clock seen c0 ix ∧ St w s (pt b (.map es clock) :: pt r (.mapIter (some b) clock seen c0) :: R) := by
  obtain ⟨h, ⟨h1, h2, ⟨done, es, clock, seen, c0, F, q⟩, a2, a3, a4⟩, e⟩ := hS.own
  exact ⟨done, es, clock, seen, c0, F, hS.sub, ⟨h, Sat.flat ⟨h1, h2, q, a2, a3, a4⟩, e⟩, hS.os, hS.out⟩
theorem St.iClose {done : List (κ × ν)} {es : Array MapEntry} {clock : Nat} {seen : Array Nat} {c0 : Nat} (F : a1c fk fv l done es clock seen c0 ix) (hS : St w s (pt b (.map es clock) :: pt r (.mapIter (some b) clock seen c0) :: R)) : St w s (Y4 fk fv b r l ix :: R) :=
  St.head (hS.map fun _ q => Sat.unflat q) fun h q => ⟨done, es, clock, seen, c0, F, q⟩
theorem St.iDone (hS : St w s R) (i : Nat) (hr : R[i]? = some (Y4 fk fv b r l ix)) : St w s (R.set i (L0 fk fv b l)) := by
  obtain ⟨done, es, clock, seen, c0, F, hS2⟩ := (hS.front i hr).iOpen
  have h1 : St w s (L0 fk fv b l :: R.eraseIdx i) := hS2.swap.tail.head fun h hh => ⟨es, clock, hh, F.ents, F.st⟩
  obtain ⟨e1, e2⟩ := a0j (r' := L0 fk fv b l) hr
  rw [← e2] at h1
  exact St.unfront i e1 h1
theorem St.mapsBack {bs : List Nat} {ms : List (List (κ × ν))} {k : Nat} {m : List (κ × ν)} (hS : St w s (L0 fk fv b m :: N3 fk fv (bs.eraseIdx k) (ms.eraseIdx k) :: R)) (hk : ms[k]? = some m) (hb : bs[k]? = some b) : St w s (N3 fk fv bs ms :: R) := by
  refine hS.map fun h q => ?_
  have h1 := q.mapsGive hb (b2t.1 hk).1
  obtain ⟨h2, h3⟩ := b2t.1 hk
  rwa [← h3, List.set_getElem_self] at h1
end
def a7d {α : Type} (ix : List Nat) (l : List α) : List α := ((b3F l.length).filter fun i => !ix.contains i).filterMap fun i => l[i]?
theorem a4q {α : Type} (l : List α) : a7d [] l = l := by
  unfold a7d
  have e : (b3F l.length).filter (fun i => !([] : List Nat).contains i) = b3F l.length := by rw [List.filter_eq_self]; intro a _; rfl
  rw [e]
  have h : ∀ (q : List α), (b3F q.length).filterMap (fun i => q[i]?) = q := by
    intro q
    have h1 : (b3F q.length).filterMap (fun i => q[i]?) = ((b3F q.length).map (fun i => q[i]?)).filterMap id := by rw [List.filterMap_map]; rfl
    have h2 : (b3F q.length).map (fun i => q[i]?) = q.map some := by
      apply List.ext_getElem?
      intro i
      by_cases c : i < q.length
      · simp [c]
      · simp [c]
    rw [h1, h2, List.filterMap_map]
    simp
  exact h l
theorem a4x {α : Type} {ix : List Nat} {l : List α} (h : ∀ j, j < l.length → j ∈ ix) : a7d ix l = [] := by
  unfold a7d
  have : (b3F l.length).filter (fun i => !ix.contains i) = [] := by
    rw [List.filter_eq_nil_iff]
    intro a ha
    have := h a (b5a.1 ha)
    simpa using this
  rw [this]; rfl
theorem a3d {α : Type} {ix : List Nat} {l : List α} {j : Nat} {y : α} (hy : l[j]? = some y) (hj : j ∉ ix) : (a7d ix l).Perm (y :: a7d (ix ++ [j]) l) := by
  unfold a7d
  have hlt := (b2t.1 hy).1
  have h1 : ((b3F l.length).filter fun i => !ix.contains i).Perm (j :: (b3F l.length).filter fun i => !(ix ++ [j]).contains i) := by
    have hn : ((b3F l.length).filter fun i => !ix.contains i).Nodup := b4K.sublist b4S
    have hn2 : (j :: (b3F l.length).filter fun i => !(ix ++ [j]).contains i).Nodup := by
      rw [List.nodup_cons]
      refine ⟨?_, b4K.sublist b4S⟩
      intro h
      have := (b2F.1 h).2
      simp at this
    refine (List.perm_ext_iff_of_nodup hn hn2).2 fun i => ?_
    rw [List.mem_cons, b2F, b2F, b5a]
    by_cases c : i = j
    · subst c; simp [hlt, hj]
    · simp [c]
  have h2 := h1.filterMap fun i => l[i]?
  rwa [List.filterMap_cons, hy] at h2
section
variable {P : Program} {K : Kt} {a : Act} {w : World} {n : Nat} {E : Env} {ops : Array Oper} {rest : List Oper} {d : Option Tmp} {ty : TypeId} {pos : String} {aft : Array Edge} {g : Option (Nat × Bool)} {s : Sg} {R : List HP}
variable {κ ν : Type} {fk : κ → Value} {fv : ν → Value}
theorem WL.rangeI (hE : Rep a n E) (hS : St w s R) (i : Nat) {t kt vt : TypeId} {x : Operand} {b : Nat} {l : List (κ × ν)} (hr : R[i]? = some (L0 fk fv b l)) (hx : E.ev x = some (.map (some b))) (ht : P.underlying t = some (.map kt vt))
    (hg : Region.wanted ⟨d, .range t x, ty, pos, aft, g⟩ (yielded ops a.tmps) = true) (hd : J5 d n = true)
    (q : ∀ r a w, Rep a n (E.put d (.pointer (some ⟨r, 0, none⟩))) → St w s (R.set i (Y4 fk fv b r l [])) → WL P ops K rest a w) : WL P ops K (⟨d, .range t x, ty, pos, aft, g⟩ :: rest) a w := by
  obtain ⟨es, clock, hb, hes, hS2, hst⟩ := hS.mapAt i hr
  have h1 := (hS2.alloc (.mapIter (some b) clock #[] clock)).swap
  have h2 := h1.iClose (a1c.start hes hst)
  obtain ⟨e1, e2⟩ := a0j (r' := Y4 fk fv b w.heap.size l []) hr
  rw [← e2] at h2
  refine WL.step (w' := w.alloc (.mapIter (some b) clock #[] clock)) hg ?_ (q w.heap.size _ _ (hE.puts hd _) (St.unfront i e1 h2))
  simp only [execOp, hE.ev hx]
  simp [run_range_map w t kt vt b es clock ht hb, Result.andThen]
theorem WL.nextI (hE : Rep a n E) (hS : St w s R) (i : Nat) {x : Operand} {b r : Nat} {l : List (κ × ν)} {ix : List Nat} (hr : R[i]? = some (Y4 fk fv b r l ix)) (hx : E.ev x = some (.pointer (some ⟨r, 0, none⟩)))
    (hg : Region.wanted ⟨d, .next x false, ty, pos, aft, g⟩ (yielded ops a.tmps) = true) (hd : J5 d n = true)
    (q1 : (∀ j, j < l.length → j ∈ ix) → ∀ a, Rep a n (E.put d (.tuple #[.bool false])) → WL P ops K rest a w)
    (q2 : ∀ (j : Nat) (p : κ × ν) a w, l[j]? = some p → j ∉ ix → Rep a n (E.put d (.tuple #[.bool true, fk p.1, fv p.2])) → St w s (R.set i (Y4 fk fv b r l (ix ++ [j]))) → WL P ops K rest a w) : WL P ops K (⟨d, .next x false, ty, pos, aft, g⟩ :: rest) a w := by
  obtain ⟨done, es, clock, seen, c0, F, hS2⟩ := (hS.front i hr).iOpen
  have hb := hS2.at
  have hi := hS2.swap.at
  rcases run_next_at (P := P) w ty r b clock c0 seen es clock hi hb F.st.2 (Nat.le_of_eq F.low.symm) with ⟨h0, hrun⟩ | ⟨e, he, w1, hw1, hrun⟩
  · refine WL.step (w' := w) hg ?_ (q1 ?_ _ (hE.puts hd _))
    · simp only [execOp, hE.ev hx]
      simp [hrun, Result.andThen]
    · intro j hj
      have hj' : j < es.size := by rw [F.len]; exact hj
      have h1 : es[j]? = some es[j] := b2O hj'
      cases c : seen.contains es[j].born with
      | true => exact (F.seenIff h1).1 c
      | false =>
        exfalso
        have : es[j] ∈ leftOf es seen := by unfold leftOf; rw [Array.mem_filter]; exact ⟨Array.getElem_mem hj', by rw [c]; rfl⟩
        have h3 := Array.size_pos_of_mem this
        omega
  · have hm : e ∈ leftOf es seen := by simpa using he
    unfold leftOf at hm
    rw [Array.mem_filter] at hm
    obtain ⟨hm1, hm2⟩ := hm
    obtain ⟨j, hj, hje⟩ := Array.getElem_of_mem hm1
    have h1 : es[j]? = some e := by rw [b2O hj, hje]
    obtain ⟨p, hp, hk, hv⟩ := F.at' h1
    have hnot : j ∉ ix := fun c => by
      have := (F.seenIff h1).2 c
      rw [this] at hm2; cases hm2
    have F' : a1c fk fv l (done ++ [p]) es clock (seen.push e.born) clock (ix ++ [j]) := by
      refine ⟨F.ents, F.st, rfl, ?_, ?_, ?_⟩
      · rw [List.nodup_append]
        exact ⟨F.nodup, by simp, fun a ha b hb e => by simp at hb; subst hb; subst e; exact hnot ha⟩
      · rw [b3b, F.done, b3b]; simp [hp]
      · rw [Array.toList_push, F.seen, b3b]; simp [h1]
    have hS3 : St w1 s (pt r (.mapIter (some b) clock seen c0) :: pt b (.map es clock) :: R.eraseIdx i) := by
      rcases hw1 with rfl | rfl
      · exact hS2.swap
      · exact hS2.swap.drew
    have hr1 : w1.heap[r]? = some (.mapIter (some b) clock seen c0) := hS3.at
    have hS4 : St (ChangeMaps.setBlock w1 r (.mapIter (some b) clock (seen.push e.born) clock)) s (pt r (.mapIter (some b) clock (seen.push e.born) clock) :: pt b (.map es clock) :: R.eraseIdx i) := by
      refine hS3.put ?_ ?_ rfl rfl
      · have := (Array.getElem?_eq_some_iff.1 hr1).1
        simp [ChangeMaps.setBlock, this]
      · intro k hk
        simp [ChangeMaps.setBlock, Ne.symm hk]
    have hS5 := hS4.swap.iClose F'
    obtain ⟨e1, e2⟩ := a0j (r' := Y4 fk fv b r l (ix ++ [j])) hr
    rw [← e2] at hS5
    refine WL.step (w' := ChangeMaps.setBlock w1 r (.mapIter (some b) clock (seen.push e.born) clock)) hg ?_ (q2 j p _ _ hp hnot (hE.puts hd _) (St.unfront i e1 hS5))
    simp only [execOp, hE.ev hx]
    simp [hrun, Result.andThen, hk, hv]
theorem A6.entryI (hE : Rep a n E) (i : Nat) {x : Operand} {b r j : Nat} {l : List (κ × ν)} {ix : List Nat} {p : κ × ν} (hr : R[i]? = some (Y4 fk fv b r l (ix ++ [j]))) (hp : l[j]? = some p) (hx : E.ev x = some (.pointer (some ⟨r, 0, none⟩))) :
    A6 P (fun w => St w s R) a ⟨d, .entry x, ty, pos, aft, g⟩ (.tuple #[fk p.1, fv p.2]) := by
  intro w hS
  obtain ⟨done, es, clock, seen, c0, F, hS2⟩ := (hS.front i hr).iOpen
  have hb := hS2.at
  have hi := hS2.swap.at
  have hj : j < es.size := by rw [F.len]; exact (b2t.1 hp).1
  have h3 : es[j]? = some es[j] := b2O hj
  obtain ⟨p', hp', hk, hv⟩ := F.at' h3
  rw [hp] at hp'
  injection hp' with hp'
  subst hp'
  have hs := F.seen
  rw [b3b] at hs
  have hs2 : seen = (ix.map fun i => ((es[i]?).map (·.born)).getD 0).toArray.push es[j].born := by
    apply Array.toList_inj.1
    rw [hs]; simp [h3]
  rw [hs2, F.low] at hi
  have := run_entry_at (P := P) w r b clock _ es clock es[j] hi hb (by simp) F.st.1
  simp only [execOp, hE.ev hx]
  simp [this, Result.andThen, hk, hv]
end
end Go.Fp
