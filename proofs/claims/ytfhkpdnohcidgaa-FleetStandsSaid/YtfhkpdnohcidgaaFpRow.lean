/- Rows of the call's own that were laid to rest, taken back and sorted in their places: each row's block is young (not in u) and not frozen; no two rows share a value. No condition. -/
import Derived.Test.YtfhkpdnohcidgaaFpSort
import Derived.Test.YtfhkpdnohcidgaaFpCalm
namespace Go.Fp
open Go

/-- a row that stays, in a block that u does not know -/
structure SlF (u s : Sg) (a : Option Addr) (c : Nat) (l : List Int) : Prop where
  sl : Sl 1 (RI .i64) s a c l
  fr : ∀ b o, a = some ⟨b, o, none⟩ → u.h b = none ∧ ∃ cur T, s.h b = some (.cells cur T (0, 0))

theorem SlF.mono {u s t : Sg} (h : s.Le t) {a : Option Addr} {c : Nat} {l : List Int} (q : SlF u s a c l) : SlF u t a c l :=
  ⟨Sl.mono RI.mono h q.sl, fun b o e => by obtain ⟨h1, cur, T, h2⟩ := q.fr b o e; exact ⟨h1, cur, T, h.h _ _ h2⟩⟩

def RF (u : Sg) : Rd (List Int) := fun s cs l => ∃ a c, cs = [.slice a l.length c] ∧ SlF u s a c l
theorem RF.mono {u : Sg} : Rmono (RF u) := by
  rintro s t h cs l ⟨a, c, e, q⟩
  exact ⟨a, c, e, q.mono h⟩
theorem RF.one {u : Sg} : Rone (RF u) := by rintro s cs x ⟨a, c, rfl, _⟩; rfl
theorem RF.rl {u s : Sg} {cs : List Value} {l : List Int} (h : RF u s cs l) : RL 1 (RI .i64) s cs l := by
  obtain ⟨a, c, e, q⟩ := h
  exact ⟨a, c, e, q.sl⟩
theorem SlF.ofNone {u s : Sg} {c : Nat} {l : List Int} (q : Sl 1 (RI .i64) s none c l) : SlF u s none c l := ⟨q, fun b o e => by cases e⟩

theorem Ev.to {α : Type} {es : Nat} {R R' : Rd α} {s : Sg} {cs : List Value} {l : List α} (k : ∀ cs x, R s cs x → R' s cs x) (q : Ev es R s cs l) : Ev es R' s cs l := ⟨q.len, fun i x h => k _ _ (q.el i x h)⟩
theorem Sl.to {α : Type} {es : Nat} {R R' : Rd α} {s : Sg} {a : Option Addr} {c : Nat} {l : List α} (k : ∀ cs x, R s cs x → R' s cs x) (q : Sl es R s a c l) : Sl es R' s a c l :=
  ⟨q.len, q.cap, q.ok, fun i x h => by obtain ⟨cs, h1, h2, h3⟩ := q.el i x h; exact ⟨cs, h1, h2, k _ _ h3⟩⟩

section
variable {w : World} {s u : Sg} {R : List HP}

theorem Sg.young (h : u.Le s) {b : Nat} (q : s.h b = none) : u.h b = none := by
  cases e : u.h b with
  | none => rfl
  | some o => rw [h.h b o e] at q; cases q

/-- a row laid to rest: young -/
theorem St.fixF {T : Nat} (hu : u.Le s) {a : Option Addr} {c n : Nat} {cs : List Value} {l : List Int} (i : Nat) (hS : St w s R) (hr : R[i]? = some (vecC T 1 a c n cs)) (hv : Ev 1 (RI .i64) s cs l) (hn : l.length = n) :
    ∃ t, s.Le t ∧ St w t (R.eraseIdx i) ∧ SlF u t a c l := by
  subst hn
  have hf := hS.front i hr
  rcases (hf.vec 0 rfl) with ⟨hl, ⟨h0, hn, hc⟩ | ⟨b, o, cur, e1, e2, e3, e4, e5, e6, h⟩⟩
  · subst h0; subst hc
    have : l = [] := List.eq_nil_of_length_eq_zero hn
    subst this
    exact ⟨s, Sg.Le.refl s, hf.tail, SlF.ofNone Sl.nil⟩
  · subst e1
    have hsb : s.h b = none := by
      obtain ⟨hh, ⟨h1, h2, a1, _, a3, _⟩, e⟩ := h.own
      exact (e b _ (a3 b _ a1).1).2
    obtain ⟨h1, h2⟩ := h.fix
    have hcs := hv.ints
    refine ⟨_, h2, h1, ⟨⟨e3, e4, .inl ⟨b, o, rfl⟩, ?_⟩, ?_⟩⟩
    · intro k x hk
      refine ⟨[.int .i64 x], rfl, ⟨cur, T, (0, 0), by simp [Sg.add, ab], ?_⟩, rfl⟩
      intro j v hj
      cases j with
      | succ j => simp at hj
      | zero =>
        simp at hj; subst hj
        have hk' : k < l.length := (List.getElem?_eq_some_iff.1 hk).1
        have : cs[k]? = some (.int .i64 x) := by rw [hcs, List.getElem?_map, hk]; rfl
        rw [← e6, List.getElem?_take] at this
        split at this
        · rw [List.getElem?_drop] at this; simpa [ao, Nat.add_assoc] using this
        · cases this
    · intro b' o' e
      cases e
      exact ⟨Sg.young hu hsb, cur, T, by simp [Sg.add]⟩

/-- all inner slices of a grid laid to rest: young -/
theorem St.fixIns {Ti : Nat} : ∀ (ds : List In) (l : List (List Int)) {s : Sg} {w : World} {R : List HP}, u.Le s → St w s (insC Ti 1 ds :: R) → NEv 1 (RI .i64) s ds l →
    ∃ t, s.Le t ∧ St w t R ∧ (∀ (k : Nat) (d : In) (x : List Int), ds[k]? = some d → l[k]? = some x → SlF u t d.a d.c x ∧ x.length = d.n)
  | [], l, s, w, R, hu, hS, hN => ⟨s, Sg.Le.refl s, hS.tail, fun k d x h => by simp at h⟩
  | d :: ds, [], s, w, R, hu, hS, hN => by have := hN.len; simp at this
  | d :: ds, x :: l, s, w, R, hu, hS, hN => by
    have hd := hN.el 0 d x rfl rfl
    have hN' : NEv 1 (RI .i64) s ds l := ⟨by have := hN.len; simpa using this, fun k d x h1 h2 => hN.el (k + 1) d x (by simpa using h1) (by simpa using h2)⟩
    have h1 : St w s (In.hp Ti 1 d :: insC Ti 1 ds :: R) := by
      refine hS.map fun h q => ?_
      refine Sat.flat (Sat.head (fun h q => ?_) q)
      obtain ⟨g1, g2, r1, r2, r3, r4⟩ := q
      exact ⟨g1, g2, r1, ⟨g2, fun _ => none, r2, trivial, fun b o hx => ⟨hx, rfl⟩, fun b o hx => by cases hx⟩, r3, r4⟩
    obtain ⟨t1, l1, hS1, hs1⟩ := St.fixF hu 0 h1 rfl hd.1 hd.2
    simp only [List.eraseIdx_cons_zero] at hS1
    obtain ⟨t2, l2, hS2, hs2⟩ := St.fixIns ds l (hu.trans l1) hS1 (hN'.mono RI.mono l1)
    refine ⟨t2, l1.trans l2, hS2, ?_⟩
    intro k d' x' h2 h3
    cases k with
    | zero => simp at h2 h3; subst h2; subst h3; exact ⟨hs1.mono l2, hd.2⟩
    | succ k => exact hs2 k d' x' (by simpa using h2) (by simpa using h3)

theorem St.calmF {T Ti : Nat} {a : Option Addr} {c n : Nat} {ds : List In} (hu : u.Le s) {l : List (List Int)} (i : Nat) (hS : St w s R) (hr : R[i]? = some (nestC T Ti 1 a c n ds)) (hv : NEv 1 (RI .i64) s ds l) :
    ∃ t, s.Le t ∧ St w t (vecC T 1 a c n (ds.map In.cell) :: R.eraseIdx i) ∧ Ev 1 (RF u) t (ds.map In.cell) l := by
  have h1 := (hS.nSplit i hr).swap
  obtain ⟨t1, l1, hS1, hs1⟩ := St.fixIns ds l hu h1 hv
  refine ⟨t1, l1, hS1, ⟨by simp [hv.len], ?_⟩⟩
  intro k x hk
  have hk' : k < ds.length := by rw [hv.len]; exact (List.getElem?_eq_some_iff.1 hk).1
  obtain ⟨q1, q2⟩ := hs1 k ds[k] x (List.getElem?_eq_getElem hk') hk
  refine ⟨ds[k].a, ds[k].c, ?_, q1⟩
  rw [q2]
  have e : ((ds.map In.cell).drop (k * 1)).take 1 = [(ds[k]).cell] := by
    rw [Nat.mul_one, List.drop_eq_getElem_cons (by simpa using hk')]; simp
  rw [e]; rfl

/-! ## The sort of a row that stays -/

/-- no block b -/
def Sg.cut (s : Sg) (b : Nat) : Sg := { s with h := fun x => if x = b then none else s.h x }
theorem Sg.cut_add {s : Sg} {b : Nat} {o : Obj} (h : s.h b = some o) : (s.cut b).add b o = s := by
  cases s with
  | mk h' os out =>
    simp only [Sg.cut, Sg.add, Sg.mk.injEq, and_true]
    funext x
    by_cases e : x = b
    · subst e; simp; exact h.symm
    · simp [e]

theorem St.putPt {os : Array Obj} {q b o e : Nat} {cur : Array Value} {r : List Int} (h : St w s (pt b (.cells cur e (0, 0)) :: R)) :
    St (Sort.grow (Sort.putRow (Value.int .i64) (Sort.ahead w q) b o r.toArray) os) s (pt b (.cells (Sort.putCells (Value.int .i64) o r.toArray cur) e (0, 0)) :: R) := by
  have e2 := h.at
  have hb : b < w.heap.size := by
    rcases Nat.lt_or_ge b w.heap.size with hl | hg
    · exact hl
    · rw [Array.getElem?_eq_none hg] at e2; cases e2
  have h1 : St (Sort.putRow (Value.int .i64) (Sort.ahead w q) b o r.toArray) s (pt b (.cells (Sort.putCells (Value.int .i64) o r.toArray cur) e (0, 0)) :: R) := by
    refine h.put (o' := .cells (Sort.putCells (Value.int .i64) o r.toArray cur) e (0, 0)) ?_ ?_ rfl rfl
    · simp [Sort.putRow, Sort.mapBlock, Sort.ahead, Array.getElem?_modify, e2, Sort.onCells]
    · intro k hk
      simp [Sort.putRow, Sort.mapBlock, Sort.ahead, Array.getElem?_modify, Ne.symm hk]
  refine h1.grown (w' := Sort.grow _ os) ⟨rfl, rfl, rfl, by simp [Sort.grow], fun k hk => ?_⟩
  simp only [Sort.grow]
  rw [Array.getElem?_append_left hk]

theorem putCells_at {cur : Array Value} {o k : Nat} {r : List Int} {v : Value} (h : cur[k]? = some v) :
    (Sort.putCells (Value.int .i64) o r.toArray cur)[k]? = some (if o ≤ k ∧ k < o + r.length then .int .i64 (r[k - o]?.getD 0) else v) := by
  unfold Sort.putCells
  rw [Array.getElem?_mapIdx, h]
  simp only [Option.map_some, Option.some.injEq, List.size_toArray]
  by_cases c : o ≤ k ∧ k < o + r.length
  · simp only [c, and_self, if_true]
    have : k - o < r.length := by omega
    rw [getElem!_pos r.toArray (k - o) (by simpa using this), List.getElem?_eq_getElem this]
    simp
  · simp only [c, if_false]

/-- what a row is after its sort -/
structure Sorted (u s t : Sg) (b o : Nat) (x : List Int) : Prop where
  le : u.Le t
  keep : ∀ b' off cs, s.At b' off cs → (∀ v ∈ cs, ∀ i ∈ x, v ≠ .int .i64 i) → t.At b' off cs
  row : ∀ k i, (isort x)[k]? = some i → t.At b (o + k) [.int .i64 i]
  cold : ∀ b', (∃ cur T, s.h b' = some (.cells cur T (0, 0))) → ∃ cur T, t.h b' = some (.cells cur T (0, 0))

/-- a young row, taken back and told to the sort -/
theorem St.rowBack (hS : St w s R) (hu : u.Le s) {b o c : Nat} {x : List Int} (h : SlF u s (some ⟨b, o, none⟩) c x) :
    Sort.Holds (Value.int .i64) w b o x.toArray ∧ b < w.heap.size ∧
    ∀ os q, ∃ t, St (Sort.grow (Sort.putRow (Value.int .i64) (Sort.ahead w q) b o (isort x).toArray) os) t R ∧ Sorted u s t b o x := by
  obtain ⟨hub, cur, T, hb⟩ := h.fr b o rfl
  have hwb := hS.sub b _ hb
  have hcell : ∀ k i, x[k]? = some i → cur[o + k]? = some (.int .i64 i) := by
    intro k i hk
    obtain ⟨cs, h1, ⟨c2, T2, fr2, h2, h3⟩, h4⟩ := h.sl.el k i hk
    have h4' : cs = [Value.int .i64 i] := h4
    subst h4'
    have h2' : s.h b = some (.cells c2 T2 fr2) := h2
    rw [hb] at h2'
    injection h2' with h2'
    injection h2' with e1 e2 e3
    subst e1
    have := h3 0 _ rfl
    simpa [ao] using this
  refine ⟨?_, ?_, ?_⟩
  · intro j hj
    have hj' : j < x.length := by simpa using hj
    have h1 := hcell j x[j] (List.getElem?_eq_getElem hj')
    refine ⟨?_, by simp [World.frozen?, hwb]⟩
    have h2 : x.toArray[j]! = x[j] := by rw [getElem!_pos x.toArray j (by simpa using hj')]; simp
    rw [h2]
    simp [World.cell?, hwb, h1]
  · rcases Nat.lt_or_ge b w.heap.size with hl | hg
    · exact hl
    · rw [Array.getElem?_eq_none hg] at hwb; cases hwb
  · intro os q
    have e := Sg.cut_add hb
    have hS' : St w ((s.cut b).add b (.cells cur T (0, 0))) R := by rw [e]; exact hS
    have h1 := Sg.add_back (s := s.cut b) (by simp [Sg.cut]) hS'
    have h2 := (h1.putPt (os := os) (q := q) (o := o) (r := isort x)).fix.1
    refine ⟨_, h2, ?_, ?_, ?_, ?_⟩
    · refine ⟨?_, hu.os, hu.out⟩
      intro b' o' hb'
      have hne : b' ≠ b := by intro h; subst h; rw [hub] at hb'; cases hb'
      simp [Sg.add, Sg.cut, hne]
      exact hu.h b' o' hb'
    · intro b' off cs hat hv
      obtain ⟨c', T', fr', h3, h4⟩ := hat
      by_cases hbb : b' = b
      · subst hbb
        rw [hb] at h3
        injection h3 with h3
        injection h3 with e1 e2 e3
        subst e1
        refine ⟨Sort.putCells (Value.int .i64) o (isort x).toArray cur, T, (0, 0), by simp [Sg.add], ?_⟩
        intro j v hj
        have h5 := h4 j v hj
        rw [putCells_at h5]
        rw [if_neg]
        intro hw
        rw [isort_length] at hw
        have h6 := hcell (off + j - o) x[off + j - o] (List.getElem?_eq_getElem (by omega))
        rw [show o + (off + j - o) = off + j by omega, h5] at h6
        injection h6 with h6
        exact hv v (List.mem_of_getElem? hj) _ (List.getElem_mem (by omega)) h6
      · refine ⟨c', T', fr', by simp [Sg.add, Sg.cut, hbb]; exact h3, h4⟩
    · intro k i hk
      refine ⟨Sort.putCells (Value.int .i64) o (isort x).toArray cur, T, (0, 0), by simp [Sg.add], ?_⟩
      intro j v hj
      cases j with
      | succ j => simp at hj
      | zero =>
        simp at hj; subst hj
        have hk' : k < x.length := by rw [← isort_length]; exact (List.getElem?_eq_some_iff.1 hk).1
        have h5 := hcell k x[k] (List.getElem?_eq_getElem hk')
        rw [Nat.add_zero, putCells_at h5, if_pos (by rw [isort_length]; omega), show o + k - o = k by omega, hk]
        rfl
    · intro b' ⟨c', T', h3⟩
      by_cases hbb : b' = b
      · subst hbb; exact ⟨Sort.putCells (Value.int .i64) o (isort x).toArray cur, T, by simp [Sg.add]⟩
      · exact ⟨c', T', by simp [Sg.add, Sg.cut, hbb]; exact h3⟩

/-- slices of ints that share no value with the row stay as they are -/
theorem Sorted.other {t : Sg} {b o : Nat} {x : List Int} (q : Sorted u s t b o x) {a : Option Addr} {c : Nat} {l : List Int} (h : Sl 1 (RI .i64) s a c l) (hd : ∀ i ∈ l, i ∉ x) : Sl 1 (RI .i64) t a c l := by
  refine ⟨h.len, h.cap, h.ok, ?_⟩
  intro k i hk
  obtain ⟨cs, h1, h2, h3⟩ := h.el k i hk
  have h3' : cs = [Value.int .i64 i] := h3
  subst h3'
  refine ⟨_, rfl, q.keep _ _ _ h2 ?_, rfl⟩
  intro v hv j hj e
  simp at hv; subst hv
  injection e with _ e
  subst e
  exact hd _ (List.mem_of_getElem? hk) hj
theorem Sorted.otherF {t : Sg} {b o : Nat} {x : List Int} (q : Sorted u s t b o x) {a : Option Addr} {c : Nat} {l : List Int} (h : SlF u s a c l) (hd : ∀ i ∈ l, i ∉ x) : SlF u t a c l :=
  ⟨q.other h.sl hd, fun b' o' e => ⟨(h.fr b' o' e).1, q.cold b' (h.fr b' o' e).2⟩⟩
theorem Sorted.self {t : Sg} {b o : Nat} {x : List Int} (q : Sorted u s t b o x) {c : Nat} (h : SlF u s (some ⟨b, o, none⟩) c x) : SlF u t (some ⟨b, o, none⟩) c (isort x) := by
  refine ⟨⟨by rw [isort_length]; exact h.sl.len, h.sl.cap, h.sl.ok, ?_⟩, fun b' o' e => ⟨(h.fr b' o' e).1, q.cold b' (h.fr b' o' e).2⟩⟩
  intro k i hk
  exact ⟨[.int .i64 i], rfl, by have := q.row k i hk; simpa [ab, ao] using this, rfl⟩

/-- rows that share no value -/
def Parted (l : List (List Int)) : Prop := ∀ (i j : Nat) (x y : List Int), l[i]? = some x → l[j]? = some y → i ≠ j → ∀ v ∈ x, v ∉ y

theorem Sorted.rows {t : Sg} {b o : Nat} {x : List Int} (q : Sorted u s t b o x) {a : Option Addr} {c cr k : Nat} {l : List (List Int)} (h : Sl 1 (RF u) s a c l) (hk : l[k]? = some x)
    (hrow : SlF u s (some ⟨b, o, none⟩) cr x) (hat : s.At (ab a) (ao a + k) [.slice (some ⟨b, o, none⟩) x.length cr]) (hp : Parted l) : Sl 1 (RF u) t a c (l.set k (isort x)) := by
  refine ⟨by rw [List.length_set]; exact h.len, h.cap, h.ok, ?_⟩
  intro j y hj
  rw [List.getElem?_set] at hj
  have noint : ∀ (a' : Option Addr) (n c' : Nat), ∀ v ∈ [Value.slice a' n c'], ∀ i ∈ x, v ≠ .int .i64 i := by
    intro a' n c' v hv i _ e
    simp at hv; subst hv; cases e
  split at hj
  · rename_i e
    subst e
    split at hj
    · simp at hj; subst hj
      refine ⟨[.slice (some ⟨b, o, none⟩) (isort x).length cr], rfl, ?_, _, cr, rfl, q.self hrow⟩
      rw [Nat.mul_one, isort_length]
      exact q.keep _ _ _ hat (noint _ _ _)
    · cases hj
  · rename_i hne
    obtain ⟨cs, h1, h2, a', c', rfl, h4⟩ := h.el j y hj
    exact ⟨_, h1, q.keep _ _ _ h2 (noint _ _ _), a', c', rfl, q.otherF h4 (fun i hi => hp j k y x hj hk (Ne.symm hne) i hi)⟩

/-- the first k rows sorted -/
def partS (k : Nat) (l : List (List Int)) : List (List Int) := (l.take k).map isort ++ l.drop k
theorem partS_zero (l : List (List Int)) : partS 0 l = l := by simp [partS]
theorem partS_all (l : List (List Int)) {k : Nat} (h : l.length ≤ k) : partS k l = l.map isort := by simp [partS, List.take_of_length_le h, List.drop_eq_nil_of_le h]
theorem partS_length (k : Nat) (l : List (List Int)) : (partS k l).length = l.length := by simp [partS]; omega
theorem partS_at {l : List (List Int)} {k : Nat} {x : List Int} (h : l[k]? = some x) : (partS k l)[k]? = some x := by
  have hk : k < l.length := (List.getElem?_eq_some_iff.1 h).1
  unfold partS
  rw [List.getElem?_append_right (by simp only [List.length_map, List.length_take]; omega), List.getElem?_drop]
  simp only [List.length_map, List.length_take, Nat.min_eq_left (Nat.le_of_lt hk), Nat.sub_self, Nat.add_zero]
  exact h
theorem partS_get (l : List (List Int)) (k j : Nat) {x : List Int} (h : (partS k l)[j]? = some x) : ∃ y, l[j]? = some y ∧ ∀ v, v ∈ x ↔ v ∈ y := by
  unfold partS at h
  by_cases hj : j < k
  · by_cases hl : j < l.length
    · rw [List.getElem?_append_left (by simp; omega), List.getElem?_map, List.getElem?_take, if_pos hj, List.getElem?_eq_getElem hl] at h
      simp at h; subst h
      exact ⟨_, List.getElem?_eq_getElem hl, fun v => by simp [isort, List.mem_mergeSort]⟩
    · have : (partS k l)[j]? = none := List.getElem?_eq_none (by rw [partS_length]; omega)
      unfold partS at this
      rw [this] at h; cases h
  · by_cases hl : k ≤ l.length
    · rw [List.getElem?_append_right (by simp; omega), List.getElem?_drop] at h
      simp only [List.length_map, List.length_take, Nat.min_eq_left hl] at h
      rw [show k + (j - k) = j by omega] at h
      exact ⟨x, h, fun v => Iff.rfl⟩
    · have : (partS k l)[j]? = none := List.getElem?_eq_none (by rw [partS_length]; omega)
      unfold partS at this
      rw [this] at h; cases h
theorem partS_set {l : List (List Int)} {k : Nat} {x : List Int} (h : l[k]? = some x) : (partS k l).set k (isort x) = partS (k + 1) l := by
  have hk : k < l.length := (List.getElem?_eq_some_iff.1 h).1
  have e : l.drop k = x :: l.drop (k + 1) := by
    rw [List.drop_eq_getElem_cons hk]; rw [List.getElem?_eq_getElem hk] at h; simp at h; rw [h]
  have e2 : l.take (k + 1) = l.take k ++ [x] := by rw [List.take_add_one, h]; rfl
  unfold partS
  rw [e, e2, List.set_append_right _ _ (by simp; omega)]
  simp [Nat.min_eq_left (Nat.le_of_lt hk)]

/-- the rows sorted, each; they share no value with one another nor with o -/
def srtRows (l : List (List Int)) (o : List Int) : Option (List (List Int)) := if (l.flatten ++ o).Nodup ∧ l.all (fun x => decide (x.length < 4294967296)) = true then some (l.map isort) else none
theorem srtRows_some {l r : List (List Int)} {o : List Int} (h : srtRows l o = some r) : r = l.map isort ∧ Parted l ∧ (∀ x ∈ l, ∀ i ∈ o, i ∉ x) ∧ ∀ x ∈ l, x.length < 4294967296 := by
  unfold srtRows at h
  split at h
  · rename_i h1
    simp at h
    obtain ⟨h2, h3⟩ := h1
    have h4 := List.nodup_append.1 h2
    have h5 := List.pairwise_flatten.1 h4.1
    refine ⟨h.symm, ?_, ?_, ?_⟩
    · intro i j x y hi hj hne v hvx hvy
      have h6 := List.pairwise_iff_getElem.1 h5.2
      have hi' := (List.getElem?_eq_some_iff.1 hi)
      have hj' := (List.getElem?_eq_some_iff.1 hj)
      obtain ⟨i1, i2⟩ := hi'
      obtain ⟨j1, j2⟩ := hj'
      rcases Nat.lt_or_gt_of_ne hne with h7 | h7
      · exact h6 i j i1 j1 h7 v (by rw [i2]; exact hvx) v (by rw [j2]; exact hvy) rfl
      · exact h6 j i j1 i1 h7 v (by rw [j2]; exact hvy) v (by rw [i2]; exact hvx) rfl
    · intro x hx i hi hix
      exact h4.2.2 i (List.mem_flatten.2 ⟨x, hx, hix⟩) i hi rfl
    · intro x hx
      have := List.all_eq_true.1 h3 x hx
      simpa using this
  · cases h
theorem Parted.part {l : List (List Int)} (h : Parted l) (k : Nat) : Parted (partS k l) := by
  intro i j x y hi hj hne v hvx hvy
  obtain ⟨x', h1, h2⟩ := partS_get l k i hi
  obtain ⟨y', h3, h4⟩ := partS_get l k j hj
  exact h i j x' y' h1 h3 hne v ((h2 v).1 hvx) ((h4 v).1 hvy)
end
end Go.Fp
