/- MendBests: the mirror of the law is true of all graphs. -/
import Derived.Test.YtfioafdipipcaaaMendBestsM
import Derived.Test.YtfioafdipipcaaaFpPlain
import Derived.KernelRfl
namespace Go.Fp
/-! least times that arcs permit -/
abbrev Tm := Nat → Int
def nd (i : Int) : Nat := i.toNat
structure ArcOk (n : Nat) (a : MendArc) : Prop where
  f0 : 0 ≤ a.From
  f1 : a.From < n
  t0 : 0 ≤ a.To
  t1 : a.To < n
  ne : a.From ≠ a.To
  l0 : -28800 ≤ a.Len
  l1 : a.Len ≤ 28800
def Feas (E : List MendArc) (T : Tm) : Prop := ∀ a ∈ E, T (nd a.From) + a.Len ≤ T (nd a.To)
structure Sol (n : Nat) (E : List MendArc) (S T : Tm) : Prop where
  ge : ∀ v, v < n → S v ≤ T v
  feas : Feas E T
structure Least (n : Nat) (E : List MendArc) (S L : Tm) : Prop extends Sol n E S L where
  le : ∀ T, Sol n E S T → ∀ v, v < n → L v ≤ T v

section
variable {n : Nat} {E : List MendArc} {S L : Tm}
/-- nodes that could all be lowered are none -/
theorem Least.shift (h : Least n E S L) (P : Nat → Prop) (room : ∀ v, v < n → P v → S v < L v)
    (slack : ∀ a ∈ E, ¬ P (nd a.From) → P (nd a.To) → L (nd a.From) + a.Len < L (nd a.To)) : ∀ v, v < n → ¬ P v := by
  classical
  intro v hv hp
  have hs : Sol n E S (fun v => if P v then L v - 1 else L v) := by
    refine ⟨fun u hu => ?_, fun a ha => ?_⟩
    · by_cases c : P u
      · have := room u hu c; simp only [if_pos c]; omega
      · simp only [if_neg c]; exact h.ge u hu
    · have h1 := h.feas a ha
      have h2 := slack a ha
      by_cases c : P (nd a.From) <;> by_cases d : P (nd a.To)
      · simp only [if_pos c, if_pos d]; omega
      · simp only [if_pos c, if_neg d]; omega
      · have := h2 c d; simp only [if_neg c, if_pos d]; omega
      · simp only [if_neg c, if_neg d]; omega
  have := h.le _ hs v hv
  simp only [if_pos hp] at this
  omega
/-- least times from a later start -/
theorem Least.later (h : Least n E S L) {S' : Tm} (h1 : ∀ v, v < n → S v ≤ S' v) (h2 : ∀ v, v < n → S' v ≤ L v) : Least n E S' L :=
  ⟨⟨h2, h.feas⟩, fun T hT v hv => h.le T ⟨fun u hu => Int.le_trans (h1 u hu) (hT.ge u hu), hT.feas⟩ v hv⟩

/-- a sum over the nodes below -/
def below (M : Nat → Int) (L : Tm) (th : Int) : Nat → Int
  | 0 => 0
  | m + 1 => below M L th m + (if L m < th then M m else 0)
theorem below_mono {M : Nat → Int} (hM : ∀ v, 0 ≤ M v) (L : Tm) {a b : Int} (h : a ≤ b) : ∀ m, below M L a m ≤ below M L b m
  | 0 => Int.le_refl _
  | m + 1 => by
    have := below_mono hM L h m
    have := hM m
    simp only [below]
    split <;> split <;> omega
theorem below_step {M : Nat → Int} (hM : ∀ v, 0 ≤ M v) (L : Tm) {a b : Int} {u : Nat} (h1 : a ≤ L u) (h2 : L u < b) : ∀ m, u < m → below M L a m + M u ≤ below M L b m
  | 0, h => absurd h (Nat.not_lt_zero _)
  | m + 1, h => by
    have := hM m
    simp only [below]
    by_cases c : u = m
    · subst c
      have := below_mono hM L (a := a) (b := b) (by omega) u
      rw [if_neg (by omega), if_pos h2]; omega
    · have := below_step hM L h1 h2 m (by omega)
      split <;> split <;> omega
theorem below_all {M : Nat → Int} (hM : ∀ v, 0 ≤ M v) (L : Tm) (th : Int) : ∀ m, below M L th m ≤ ((List.range m).map M).sum
  | 0 => by simp [below]
  | m + 1 => by
    have := below_all hM L th m
    have := hM m
    simp only [below, List.range_succ, List.map_append, List.map_cons, List.map_nil, List.sum_append, List.sum_cons, List.sum_nil]
    split <;> omega
/-- how late the least times are -/
theorem Least.bound (h : Least n E S L) (hE : ∀ a ∈ E, ArcOk n a) {B : Int} (hB : ∀ v, v < n → S v ≤ B) {M : Nat → Int} (hM : ∀ v, 0 ≤ M v) (hA : ∀ a ∈ E, a.Len ≤ M (nd a.From)) :
    ∀ v, v < n → L v ≤ B + below M L (L v) n := by
  have key : ∀ (k : Nat) (v : Nat), v < n → L v ≤ B + k → L v ≤ B + below M L (L v) n := by
    intro k
    induction k with
    | zero =>
      intro v hv hk
      have := below_mono hM L (a := L v) (b := L v) (Int.le_refl _) n
      have h0 : ∀ m, 0 ≤ below M L (L v) m := by
        intro m
        induction m with
        | zero => exact Int.le_refl _
        | succ m ih => have := hM m; simp only [below]; split <;> omega
      have := h0 n
      omega
    | succ k ih =>
      intro v hv hk
      rcases Int.lt_or_le (B + below M L (L v) n) (L v) with c | c
      · exfalso
        have h0 : ∀ m, 0 ≤ below M L (L v) m := by
          intro m
          induction m with
          | zero => exact Int.le_refl _
          | succ m ih => have := hM m; simp only [below]; split <;> omega
        refine h.shift (fun u => L v ≤ L u) (fun u hu hp => by have := hB u hu; have := h0 n; omega) ?_ v hv (Int.le_refl _)
        intro a ha hf ht
        have oa := hE a ha
        have hu : nd a.From < n := by have := oa.f0; have := oa.f1; unfold nd; omega
        have hf' : L (nd a.From) < L v := by omega
        have e1 := ih (nd a.From) hu (by omega)
        have e2 := below_step hM L (a := L (nd a.From)) (b := L v) (u := nd a.From) (Int.le_refl _) hf' n hu
        have e3 := hA a ha
        omega
      · exact c
  intro v hv
  exact key (L v - B).toNat v hv (by omega)

/-- from whom, in at most k steps, the least time of a node comes -/
def Lay (n : Nat) (E : List MendArc) (S L : Tm) : Nat → Nat → Prop
  | 0, v => L v = S v
  | k + 1, v => Lay n E S L k v ∨ ∃ a ∈ E, nd a.To = v ∧ Lay n E S L k (nd a.From) ∧ L (nd a.From) + a.Len = L v
theorem Lay.up {k v : Nat} (h : Lay n E S L k v) : Lay n E S L (k + 1) v := .inl h
theorem Lay.le {k j v : Nat} (h : Lay n E S L k v) (hk : k ≤ j) : Lay n E S L j v := by
  induction hk with
  | refl => exact h
  | step _ ih => exact ih.up
theorem Least.lay_closed (h : Least n E S L) (hE : ∀ a ∈ E, ArcOk n a) {k : Nat} (hc : ∀ v, v < n → Lay n E S L (k + 1) v → Lay n E S L k v) : ∀ v, v < n → Lay n E S L k v := by
  intro v hv
  refine Classical.byContradiction fun hn => ?_
  refine h.shift (fun u => u < n ∧ ¬ Lay n E S L k u) ?_ ?_ v hv ⟨hv, hn⟩
  · intro u hu hp
    have h1 := h.ge u hu
    rcases Int.lt_or_eq_of_le h1 with c | c
    · exact c
    · exact absurd (Lay.le (k := 0) (show L u = S u by omega) (Nat.zero_le k)) hp.2
  · intro a ha hf ht
    have oa := hE a ha
    have hu : nd a.From < n := by have := oa.f0; have := oa.f1; unfold nd; omega
    have h1 := h.feas a ha
    rcases Int.lt_or_eq_of_le h1 with c | c
    · exact c
    · exfalso
      have hl : Lay n E S L k (nd a.From) := Classical.byContradiction fun q => hf ⟨hu, q⟩
      exact ht.2 (hc _ ht.1 (.inr ⟨a, ha, rfl, hl, c⟩))
/-- how many of the first m nodes have a property -/
noncomputable def count (P : Nat → Prop) : Nat → Nat
  | 0 => 0
  | m + 1 => open Classical in count P m + (if P m then 1 else 0)
theorem count_mono {P Q : Nat → Prop} : ∀ m, (∀ v, v < m → P v → Q v) → count P m ≤ count Q m
  | 0, _ => Nat.le_refl _
  | m + 1, h => by
    have h1 := count_mono m (fun v hv => h v (by omega))
    have h2 := h m (by omega)
    simp only [count]
    by_cases c : P m
    · rw [if_pos c, if_pos (h2 c)]; omega
    · rw [if_neg c]; split <;> omega
theorem count_lt {P Q : Nat → Prop} {u : Nat} (hp : ¬ P u) (hq : Q u) : ∀ m, u < m → (∀ v, v < m → P v → Q v) → count P m < count Q m
  | 0, h, _ => absurd h (Nat.not_lt_zero _)
  | m + 1, hu, h => by
    have h2 := h m (by omega)
    simp only [count]
    by_cases e : u = m
    · subst e
      have := count_mono u (fun v hv => h v (by omega))
      rw [if_neg hp, if_pos hq]; omega
    · have := count_lt hp hq m (by omega) (fun v hv => h v (by omega))
      by_cases c : P m
      · rw [if_pos c, if_pos (h2 c)]; omega
      · rw [if_neg c]; split <;> omega
theorem count_le (P : Nat → Prop) : ∀ m, count P m ≤ m
  | 0 => Nat.le_refl _
  | m + 1 => by have := count_le P m; simp only [count]; split <;> omega
theorem count_all {P : Nat → Prop} : ∀ m, count P m = m → ∀ v, v < m → P v
  | 0, _, v, hv => absurd hv (Nat.not_lt_zero _)
  | m + 1, h, v, hv => by
    have h1 := count_le P m
    simp only [count] at h
    by_cases c : P m
    · rw [if_pos c] at h
      by_cases e : v = m
      · subst e; exact c
      · exact count_all m (by omega) v (by omega)
    · rw [if_neg c] at h; omega
/-- all nodes' least times come in at most n steps -/
theorem Least.lay_all (h : Least n E S L) (hE : ∀ a ∈ E, ArcOk n a) : ∀ v, v < n → Lay n E S L n v := by
  have key : ∀ k, k ≤ count (Lay n E S L k) n ∨ ∀ v, v < n → Lay n E S L k v := by
    intro k
    induction k with
    | zero => exact .inl (Nat.zero_le _)
    | succ k ih =>
      rcases ih with ih | ih
      · by_cases c : ∀ v, v < n → Lay n E S L (k + 1) v → Lay n E S L k v
        · exact .inr fun v hv => (h.lay_closed hE c v hv).up
        · refine .inl ?_
          have : ∃ v, v < n ∧ Lay n E S L (k + 1) v ∧ ¬ Lay n E S L k v := by
            refine Classical.byContradiction fun q => c fun v hv h1 => Classical.byContradiction fun h2 => q ⟨v, hv, h1, h2⟩
          obtain ⟨v, hv, h1, h2⟩ := this
          have := count_lt h2 h1 n hv (fun v _ => Lay.up)
          omega
      · exact .inr fun v hv => (ih v hv).up
  rcases key n with c | c
  · have := count_le (Lay n E S L n) n
    exact count_all n (by omega)
  · exact c
end

/-- where there are times, there are least ones -/
theorem Sol.least {n : Nat} {E : List MendArc} {S T : Tm} (h : Sol n E S T) (hE : ∀ a ∈ E, ArcOk n a) : ∃ L, Least n E S L := by
  classical
  have ex : ∀ v, v < n → ∃ m : Int, (∃ T, Sol n E S T ∧ T v = m) ∧ ∀ T, Sol n E S T → m ≤ T v := by
    intro v hv
    have key : ∀ (k : Nat) (T : Tm), Sol n E S T → T v ≤ S v + k → ∃ m : Int, (∃ T, Sol n E S T ∧ T v = m) ∧ ∀ T, Sol n E S T → m ≤ T v := by
      intro k
      induction k with
      | zero =>
        intro T hT hk
        refine ⟨T v, ⟨T, hT, rfl⟩, fun T' hT' => ?_⟩
        have := hT'.ge v hv
        omega
      | succ k ih =>
        intro T hT hk
        by_cases c : ∃ T', Sol n E S T' ∧ T' v < T v
        · obtain ⟨T', h1, h2⟩ := c
          exact ih T' h1 (by omega)
        · refine ⟨T v, ⟨T, hT, rfl⟩, fun T' hT' => ?_⟩
          rcases Int.lt_or_le (T' v) (T v) with q | q
          · exact absurd ⟨T', hT', q⟩ c
          · exact q
    exact key (T v - S v).toNat T h (by have := h.ge v hv; omega)
  refine ⟨fun v => if hv : v < n then (ex v hv).choose else 0, ⟨fun v hv => ?_, fun a ha => ?_⟩, fun T' hT' v hv => ?_⟩
  · simp only [dif_pos hv]
    obtain ⟨T', h1, h2⟩ := (ex v hv).choose_spec.1
    rw [← h2]; exact h1.ge v hv
  · have oa := hE a ha
    have hf : nd a.From < n := by have := oa.f0; have := oa.f1; unfold nd; omega
    have ht : nd a.To < n := by have := oa.t0; have := oa.t1; unfold nd; omega
    simp only [dif_pos hf, dif_pos ht]
    obtain ⟨T', h1, h2⟩ := (ex _ ht).choose_spec.1
    have h3 := (ex _ hf).choose_spec.2 T' h1
    have h4 := h1.feas a ha
    omega
  · simp only [dif_pos hv]
    exact (ex v hv).choose_spec.2 T' hT'
/-! one arc tried -/
def tm (t : List Int) : Tm := fun v => (t[v]?).getD 0
theorem tm_get {t : List Int} {v : Nat} (h : v < t.length) : tm t v = t[v] := by simp [tm, h]
theorem gx_tm {t : List Int} {i : Int} (h0 : 0 ≤ i) (h1 : i < t.length) : gx t i = some (tm t (nd i)) := by
  have h : i.toNat < t.length := by omega
  rw [gx_toNat h0 h]; simp [tm, nd, h]
theorem tm_set {t : List Int} {u v : Nat} {x : Int} (h : u < t.length) : tm (t.set u x) v = if v = u then x else tm t v := by
  unfold tm
  by_cases c : v = u
  · subst c; rw [if_pos rfl, List.getElem?_set_self h]; rfl
  · rw [if_neg c, List.getElem?_set_ne (fun e => c e.symm)]
structure S5 where
  w : List Bool
  rz : List Int
  t : List Int
  q : List Int
  ok : Bool
def wt (w : List Bool) (v : Nat) : Bool := (w[v]?).getD false
theorem wt_set {w : List Bool} {u v : Nat} {x : Bool} (h : u < w.length) : wt (w.set u x) v = if v = u then x else wt w v := by
  unfold wt
  by_cases c : v = u
  · subst c; rw [if_pos rfl, List.getElem?_set_self h]; rfl
  · rw [if_neg c, List.getElem?_set_ne (fun e => c e.symm)]
def tryS (last : List Int) (a : MendArc) (s : S5) : S5 :=
  if tm s.t (nd a.From) + a.Len ≤ tm s.t (nd a.To) then s else
  ⟨if wt s.w (nd a.To) then s.w else s.w.set (nd a.To) true, s.rz.set (nd a.To) (tm s.rz (nd a.To) + 1), s.t.set (nd a.To) (tm s.t (nd a.From) + a.Len),
    if wt s.w (nd a.To) then s.q else s.q ++ [a.To],
    s.ok && (decide (tm last (nd a.To) < 0) || decide (tm s.t (nd a.From) + a.Len ≤ tm last (nd a.To))) && decide (tm s.t (nd a.From) + a.Len ≤ 1099511627776) && decide (tm s.rz (nd a.To) + 1 ≤ 65536)⟩
structure Wf (n : Nat) (s : S5) : Prop where
  lw : s.w.length = n
  lr : s.rz.length = n
  lt : s.t.length = n
  qin : ∀ i ∈ s.q, 0 ≤ i ∧ i < n
  dup : s.q.Nodup
  wq : ∀ i : Int, 0 ≤ i → i < n → (wt s.w (nd i) = true ↔ i ∈ s.q)
structure Bnd (n : Nat) (s : S5) (Bt Br : Int) : Prop where
  t0 : ∀ v, v < n → 0 ≤ tm s.t v
  t1 : ∀ v, v < n → tm s.t v ≤ Bt
  r0 : ∀ v, v < n → 0 ≤ tm s.rz v
  r1 : ∀ v, v < n → tm s.rz v ≤ Br

/-- different nodes' sum is no more than all nodes' -/
theorem nodup_sum (f : Nat → Nat) : ∀ (n : Nat) (q : List Int), q.Nodup → (∀ i ∈ q, 0 ≤ i ∧ i < n) → (q.map fun i => f (nd i)).sum ≤ ((List.range n).map f).sum
  | 0, q, _, h => by
    have : q = [] := by
      cases q with
      | nil => rfl
      | cons i q => have := h i (by simp); omega
    subst this; simp
  | n + 1, q, hd, h => by
    by_cases c : (n : Int) ∈ q
    · obtain ⟨s1, s2, rfl⟩ := List.append_of_mem c
      have hd2 : (s1 ++ s2).Nodup := by
        rw [List.nodup_append] at hd ⊢
        refine ⟨hd.1, (List.nodup_cons.1 hd.2.1).2, fun a ha b hb => hd.2.2 a ha b (List.mem_cons_of_mem _ hb)⟩
      have hn1 : ∀ i ∈ s1 ++ s2, i ≠ (n : Int) := by
        intro i hi e
        subst e
        rw [List.nodup_append] at hd
        rcases List.mem_append.1 hi with hi | hi
        · exact hd.2.2 _ hi _ (List.mem_cons_self ..) rfl
        · exact (List.nodup_cons.1 hd.2.1).1 hi
      have ih := nodup_sum f n (s1 ++ s2) hd2 (fun i hi => by
        have h1 := hn1 i hi
        have h2 := h i (by rcases List.mem_append.1 hi with hi | hi <;> simp [hi])
        omega)
      simp only [List.map_append, List.map_cons, List.sum_append, List.sum_cons, List.range_succ, List.map_nil, List.sum_nil] at ih ⊢
      have e : nd (n : Int) = n := by simp [nd]
      rw [e]; omega
    · have ih := nodup_sum f n q hd (fun i hi => by
        have h2 := h i hi
        have : i ≠ (n : Int) := fun e => c (e ▸ hi)
        omega)
      simp only [List.range_succ, List.map_append, List.map_cons, List.map_nil, List.sum_append, List.sum_cons, List.sum_nil]
      omega
theorem sum_const (c : Nat) : ∀ n, ((List.range n).map fun _ => c).sum = n * c
  | 0 => by simp
  | n + 1 => by simp only [List.range_succ, List.map_append, List.map_cons, List.map_nil, List.sum_append, List.sum_cons, List.sum_nil, sum_const c n, Nat.add_mul]; omega
theorem nodup_len {n : Nat} {q : List Int} (hd : q.Nodup) (h : ∀ i ∈ q, 0 ≤ i ∧ i < n) : q.length ≤ n := by
  have := nodup_sum (fun _ => 1) n q hd h
  have e : ∀ q : List Int, (q.map fun _ => 1).sum = q.length := by
    intro q
    induction q with
    | nil => rfl
    | cons a q ih => simp only [List.map_cons, List.sum_cons, List.length_cons, ih]; omega
  rw [sum_const, e] at this
  omega

theorem arc_nd {n : Nat} {a : MendArc} (h : ArcOk n a) : nd a.From < n ∧ nd a.To < n ∧ nd a.From ≠ nd a.To := by
  have := h.f0; have := h.f1; have := h.t0; have := h.t1; have := h.ne
  unfold nd; omega

theorem try_mirror {n : Nat} (hn : n ≤ 24) {last : List Int} (hl : last.length = n) {a : MendArc} (ha : ArcOk n a) {s : S5} (hw : Wf n s) {Bt Br : Int} (hb : Bnd n s Bt Br) (hBt : Bt ≤ 1000000000000000) (hBr : Br ≤ 1000000000000000) (outs : List (List MendArc)) :
    MendSolverwith_1_v1 a s.rz s.ok s.w s.q (MendSolver.mk s.t last outs) = some ((tryS last a s).rz, (tryS last a s).w, (tryS last a s).t, (tryS last a s).ok, (tryS last a s).q) := by
  obtain ⟨d1, d2, d3⟩ := arc_nd ha
  have a0 := ha.f0; have a1 := ha.f1; have a2 := ha.t0; have a3 := ha.t1; have l0 := ha.l0; have l1 := ha.l1
  have lw := hw.lw; have lr := hw.lr; have lt := hw.lt
  have t0 := hb.t0 _ d1; have t1 := hb.t1 _ d1; have r0 := hb.r0 _ d2; have r1 := hb.r1 _ d2
  have hq := nodup_len hw.dup hw.qin
  unfold MendSolverwith_1_v1 tryS
  simp only
  rw [gx_tm a0 (by omega)]
  simp only [Option.bind_some]
  rw [gx_tm a2 (by omega)]
  simp only [Option.bind_some]
  rw [w64_id (x := tm s.t (nd a.From) + a.Len) (by omega)]
  by_cases c : tm s.t (nd a.From) + a.Len ≤ tm s.t (nd a.To)
  · rw [if_pos (by simpa using c), if_pos c]
  rw [if_neg (by simpa using c), if_neg c]
  rw [ix_in a2 (by omega), sx_in a2 (by omega)]
  simp only [Option.bind_some]
  rw [gx_tm a2 (by omega)]
  simp only [Option.bind_some]
  rw [ix_in a2 (by omega), sx_in a2 (by omega), w64_id (x := tm s.rz (nd a.To) + 1) (by omega)]
  simp only [Option.bind_some]
  rw [gx_tm (t := last) a2 (by omega)]
  have hg : gx (s.rz.set a.To.toNat (tm s.rz (nd a.To) + 1)) a.To = some (tm s.rz (nd a.To) + 1) := by
    rw [gx_tm a2 (by simp; omega), tm_set (by unfold nd at d2; omega), if_pos (by rfl)]
  rw [hg]
  simp only [Option.bind_some]
  have hgw : gx s.w a.To = some (wt s.w (nd a.To)) := by
    have h : a.To.toNat < s.w.length := by omega
    rw [gx_toNat a2 h]; simp [wt, nd, h]
  rw [hgw, ix_in a2 (by omega), sx_in a2 (by omega), apd_lt (by simp; omega)]
  have hnd : a.To.toNat = nd a.To := rfl
  simp only [Option.bind_some, hnd]
  generalize tm s.t (nd a.From) + a.Len = t'
  generalize tm last (nd a.To) = z
  generalize tm s.rz (nd a.To) + 1 = r
  cases s.ok <;> cases wt s.w (nd a.To) <;> by_cases c1 : z < 0 <;> by_cases c2 : t' ≤ 1099511627776 <;> by_cases c3 : t' ≤ z <;> simp [c1, c2, c3]

section
variable {n : Nat} {last : List Int} {a : MendArc} {s : S5}
/-- the arc raised its end, or nothing happened -/
theorem try_cases (last : List Int) (a : MendArc) (s : S5) : tryS last a s = s ∧ tm s.t (nd a.From) + a.Len ≤ tm s.t (nd a.To) ∨
    tm s.t (nd a.To) < tm s.t (nd a.From) + a.Len ∧ (tryS last a s).t = s.t.set (nd a.To) (tm s.t (nd a.From) + a.Len) ∧ (tryS last a s).rz = s.rz.set (nd a.To) (tm s.rz (nd a.To) + 1) ∧
      (tryS last a s).w = (if wt s.w (nd a.To) then s.w else s.w.set (nd a.To) true) ∧ (tryS last a s).q = (if wt s.w (nd a.To) then s.q else s.q ++ [a.To]) ∧
      (tryS last a s).ok = (s.ok && (decide (tm last (nd a.To) < 0) || decide (tm s.t (nd a.From) + a.Len ≤ tm last (nd a.To))) && decide (tm s.t (nd a.From) + a.Len ≤ 1099511627776) && decide (tm s.rz (nd a.To) + 1 ≤ 65536)) := by
  unfold tryS
  by_cases c : tm s.t (nd a.From) + a.Len ≤ tm s.t (nd a.To)
  · rw [if_pos c]; exact .inl ⟨rfl, c⟩
  · rw [if_neg c]; exact .inr ⟨by omega, rfl, rfl, rfl, rfl, rfl⟩
theorem try_wf (ha : ArcOk n a) (hw : Wf n s) : Wf n (tryS last a s) := by
  obtain ⟨d1, d2, d3⟩ := arc_nd ha
  rcases try_cases last a s with ⟨e, _⟩ | ⟨_, et, er, ew, eq, _⟩
  · rw [e]; exact hw
  · have hto := hw.wq a.To ha.t0 ha.t1
    refine ⟨?_, ?_, ?_, ?_, ?_, ?_⟩
    · rw [ew]; split
      · exact hw.lw
      · rw [List.length_set]; exact hw.lw
    · rw [er, List.length_set]; exact hw.lr
    · rw [et, List.length_set]; exact hw.lt
    · rw [eq]; intro i hi
      split at hi
      · exact hw.qin i hi
      · rcases List.mem_append.1 hi with hi | hi
        · exact hw.qin i hi
        · simp at hi; subst hi; exact ⟨ha.t0, ha.t1⟩
    · rw [eq]; split
      · exact hw.dup
      · rename_i c
        rw [List.nodup_append]
        refine ⟨hw.dup, by simp, fun x hx y hy => ?_⟩
        simp at hy; subst hy
        intro e; subst e
        exact c (hto.2 hx)
    · intro i h0 h1
      rw [ew, eq]
      split
      · exact hw.wq i h0 h1
      · rw [wt_set (by rw [hw.lw]; exact d2)]
        by_cases c : nd i = nd a.To
        · have : i = a.To := by have := ha.t0; unfold nd at c; omega
          subst this
          simp
        · have : i ≠ a.To := fun e => c (by rw [e])
          rw [if_neg c, hw.wq i h0 h1]
          simp [this]
theorem try_bnd (ha : ArcOk n a) (hw : Wf n s) {Bt Br : Int} (hb : Bnd n s Bt Br) : Bnd n (tryS last a s) (Bt + 28800) (Br + 1) := by
  obtain ⟨d1, d2, d3⟩ := arc_nd ha
  have l1 := ha.l1
  rcases try_cases last a s with ⟨e, _⟩ | ⟨h, et, er, _, _, _⟩
  · rw [e]; exact ⟨hb.t0, fun v hv => by have := hb.t1 v hv; omega, hb.r0, fun v hv => by have := hb.r1 v hv; omega⟩
  · have f1 := hb.t1 _ d1
    have f2 := hb.t0 _ d2
    refine ⟨?_, ?_, ?_, ?_⟩ <;> intro v hv
    · rw [et, tm_set (by rw [hw.lt]; exact d2)]; have := hb.t0 v hv; split <;> omega
    · rw [et, tm_set (by rw [hw.lt]; exact d2)]; have := hb.t1 v hv; split <;> omega
    · rw [er, tm_set (by rw [hw.lr]; exact d2)]; have := hb.r0 v hv; split
      · rename_i e; subst e; omega
      · omega
    · rw [er, tm_set (by rw [hw.lr]; exact d2)]; have := hb.r1 v hv; split
      · rename_i e; subst e; omega
      · omega
theorem try_t_mono (ha : ArcOk n a) (hw : Wf n s) (v : Nat) : tm s.t v ≤ tm (tryS last a s).t v := by
  obtain ⟨d1, d2, d3⟩ := arc_nd ha
  rcases try_cases last a s with ⟨e, _⟩ | ⟨h, et, _⟩
  · rw [e]; exact Int.le_refl _
  · rw [et, tm_set (by rw [hw.lt]; exact d2)]
    split
    · rename_i e; subst e; omega
    · exact Int.le_refl _
theorem try_wt_mono (ha : ArcOk n a) (hw : Wf n s) (v : Nat) (h : wt s.w v = true) : wt (tryS last a s).w v = true := by
  obtain ⟨d1, d2, d3⟩ := arc_nd ha
  rcases try_cases last a s with ⟨e, _⟩ | ⟨_, _, _, ew, _⟩
  · rw [e]; exact h
  · rw [ew]
    split
    · exact h
    · rw [wt_set (by rw [hw.lw]; exact d2)]
      split
      · rfl
      · exact h
def sat (s : S5) (a : MendArc) : Prop := tm s.t (nd a.From) + a.Len ≤ tm s.t (nd a.To)
theorem try_sat (ha : ArcOk n a) (hw : Wf n s) : sat (tryS last a s) a := by
  obtain ⟨d1, d2, d3⟩ := arc_nd ha
  unfold sat
  rcases try_cases last a s with ⟨e, h⟩ | ⟨h, et, _⟩
  · rw [e]; exact h
  · rw [et, tm_set (by rw [hw.lt]; exact d2), tm_set (by rw [hw.lt]; exact d2), if_neg d3, if_pos rfl]
    exact Int.le_refl _
theorem try_other (ha : ArcOk n a) (hw : Wf n s) {b : MendArc} (h : sat s b ∨ wt s.w (nd b.From) = true) : sat (tryS last a s) b ∨ wt (tryS last a s).w (nd b.From) = true := by
  obtain ⟨d1, d2, d3⟩ := arc_nd ha
  rcases h with h | h
  · rcases try_cases last a s with ⟨e, _⟩ | ⟨hr, et, _, ew, _⟩
    · rw [e]; exact .inl h
    · by_cases c : nd b.From = nd a.To
      · refine .inr ?_
        rw [ew, c]
        by_cases k : wt s.w (nd a.To) = true
        · rw [if_pos k]; exact k
        · rw [if_neg k, wt_set (by rw [hw.lw]; exact d2), if_pos rfl]
      · refine .inl ?_
        unfold sat at h ⊢
        have := try_t_mono (last := last) ha hw (nd b.To)
        have e : tm (tryS last a s).t (nd b.From) = tm s.t (nd b.From) := by rw [et, tm_set (by rw [hw.lt]; exact d2), if_neg c]
        rw [e]; omega
  · exact .inr (try_wt_mono ha hw _ h)
theorem try_le (ha : ArcOk n a) (hw : Wf n s) {T : Tm} (hT : T (nd a.From) + a.Len ≤ T (nd a.To)) (h : ∀ v, v < n → tm s.t v ≤ T v) : ∀ v, v < n → tm (tryS last a s).t v ≤ T v := by
  obtain ⟨d1, d2, d3⟩ := arc_nd ha
  intro v hv
  rcases try_cases last a s with ⟨e, _⟩ | ⟨hr, et, _⟩
  · rw [e]; exact h v hv
  · rw [et, tm_set (by rw [hw.lt]; exact d2)]
    split
    · rename_i e; subst e; have := h _ d1; omega
    · exact h v hv
def LastOk (n : Nat) (last : List Int) (T : Tm) : Prop := ∀ v, v < n → tm last v < 0 ∨ T v ≤ tm last v
/-- what ok says -/
def Jk (n : Nat) (last : List Int) (s : S5) : Prop := s.ok = true → (∀ v, v < n → tm s.t v ≤ 1099511627776 ∧ tm s.rz v ≤ 65536) ∧ LastOk n last (tm s.t)
theorem try_jk (ha : ArcOk n a) (hw : Wf n s) (h : Jk n last s) : Jk n last (tryS last a s) := by
  obtain ⟨d1, d2, d3⟩ := arc_nd ha
  intro hok
  rcases try_cases last a s with ⟨e, _⟩ | ⟨hr, et, er, _, _, eo⟩
  · rw [e] at hok ⊢; exact h hok
  · rw [eo] at hok
    simp only [Bool.and_eq_true, Bool.or_eq_true, decide_eq_true_eq] at hok
    obtain ⟨⟨⟨k1, k2⟩, k3⟩, k4⟩ := hok
    obtain ⟨j1, j2⟩ := h k1
    refine ⟨fun v hv => ?_, fun v hv => ?_⟩
    · rw [et, er, tm_set (by rw [hw.lt]; exact d2), tm_set (by rw [hw.lr]; exact d2)]
      have := j1 v hv
      split
      · exact ⟨k3, k4⟩
      · exact this
    · rw [et, tm_set (by rw [hw.lt]; exact d2)]
      split
      · rename_i e; subst e; exact k2
      · exact j2 v hv
theorem sum_set : ∀ (l : List Int) (i : Nat) (x : Int), i < l.length → (l.set i x).sum = l.sum - tm l i + x
  | [], i, x, h => absurd h (Nat.not_lt_zero _)
  | y :: l, 0, x, _ => by simp [tm]; omega
  | y :: l, i + 1, x, h => by
    have := sum_set l i x (by simpa using h)
    have e : tm (y :: l) (i + 1) = tm l i := by simp [tm]
    simp only [List.set_cons_succ, List.sum_cons, this, e]; omega
theorem try_sum (ha : ArcOk n a) (hw : Wf n s) : s.rz.sum ≤ (tryS last a s).rz.sum ∧ ((tryS last a s).q.length : Int) - s.q.length ≤ (tryS last a s).rz.sum - s.rz.sum := by
  obtain ⟨d1, d2, d3⟩ := arc_nd ha
  rcases try_cases last a s with ⟨e, _⟩ | ⟨hr, _, er, _, eq, _⟩
  · rw [e]; omega
  · rw [er, eq, sum_set _ _ _ (by rw [hw.lr]; exact d2)]
    split
    · omega
    · simp; omega
/-- arcs tried in turn -/
def tryL (last : List Int) (l : List MendArc) (s : S5) : S5 := l.foldl (fun s a => tryS last a s) s
theorem tryL_cons (last : List Int) (a : MendArc) (l : List MendArc) (s : S5) : tryL last (a :: l) s = tryL last l (tryS last a s) := rfl
theorem loop4_mirror (hn : n ≤ 24) (hl : last.length = n) (y0 : MendSolver) (hy : y0.last = last) (outs : List (List MendArc)) : ∀ (l : List MendArc) (s : S5) (Bt Br : Int), (∀ a ∈ l, ArcOk n a) → Wf n s → Bnd n s Bt Br → Bt + 28800 * l.length ≤ 1000000000000000 → Br + l.length ≤ 1000000000000000 →
    MendSolverwith_v1.loop4 y0 outs l s.w s.rz s.t s.q s.ok = some ((tryL last l s).w, (tryL last l s).rz, (tryL last l s).t, (tryL last l s).q, (tryL last l s).ok)
  | [], s, _, _, _, _, _, _, _ => rfl
  | a :: l, s, Bt, Br, ha, hw, hb, h1, h2 => by
    simp only [List.length_cons, Int.natCast_add, Int.natCast_one] at h1 h2
    have h0 := ha a (List.mem_cons_self ..)
    rw [MendSolverwith_v1.loop4, hy, try_mirror hn hl h0 hw hb (by omega) (by omega)]
    simp only [Option.bind_some]
    rw [tryL_cons]
    exact loop4_mirror hn hl y0 hy outs l _ (Bt + 28800) (Br + 1) (fun b hb => ha b (List.mem_cons_of_mem _ hb)) (try_wf h0 hw) (try_bnd h0 hw hb) (by omega) (by omega)
theorem loop2_4 (y0 : MendSolver) (outs : List (List MendArc)) : ∀ (l : List MendArc) (w : List Bool) (rz t q : List Int) (ok : Bool), MendSolverwith_v1.loop2 y0 outs l w rz t q ok = MendSolverwith_v1.loop4 y0 outs l w rz t q ok
  | [], _, _, _, _, _ => rfl
  | a :: l, w, rz, t, q, ok => by rw [MendSolverwith_v1.loop2, MendSolverwith_v1.loop4]; congr 1; funext z; exact loop2_4 y0 outs l _ _ _ _ _
/-- what holds for all arcs in turn -/
theorem tryL_ind {P : S5 → Prop} : ∀ (l : List MendArc) (s : S5), (∀ a ∈ l, ∀ s, P s → P (tryS last a s)) → P s → P (tryL last l s)
  | [], _, _, h => h
  | a :: l, s, k, h => tryL_ind l _ (fun b hb => k b (List.mem_cons_of_mem _ hb)) (k a (List.mem_cons_self ..) s h)
end
/-! the queue -/
def od (E : List MendArc) (u : Nat) : Nat := (E.filter fun a => nd a.From == u).length
theorem sum_add (f g : Nat → Nat) : ∀ n, ((List.range n).map fun u => f u + g u).sum = ((List.range n).map f).sum + ((List.range n).map g).sum
  | 0 => by simp
  | n + 1 => by simp only [List.range_succ, List.map_append, List.map_cons, List.map_nil, List.sum_append, List.sum_cons, List.sum_nil, sum_add f g n]; omega
theorem sum_one (x : Nat) : ∀ n, ((List.range n).map fun u => if x = u then 1 else 0).sum ≤ 1 ∧ (n ≤ x → ((List.range n).map fun u => if x = u then 1 else 0).sum = 0)
  | 0 => by simp
  | n + 1 => by
    obtain ⟨h1, h2⟩ := sum_one x n
    simp only [List.range_succ, List.map_append, List.map_cons, List.map_nil, List.sum_append, List.sum_cons, List.sum_nil]
    by_cases c : x = n
    · have := h2 (by omega)
      rw [if_pos c]
      exact ⟨by omega, fun k => by omega⟩
    · rw [if_neg c]
      exact ⟨by omega, fun k => by have := h2 (by omega); omega⟩
theorem od_all (n : Nat) : ∀ E : List MendArc, ((List.range n).map (od E)).sum ≤ E.length
  | [] => by
    have : ∀ n, ((List.range n).map (od [])).sum = 0 := by
      intro n
      induction n with
      | zero => rfl
      | succ n ih => simp only [List.range_succ, List.map_append, List.map_cons, List.map_nil, List.sum_append, List.sum_cons, List.sum_nil, ih]; rfl
    rw [this]; exact Nat.zero_le _
  | a :: E => by
    have h1 := od_all n E
    have h2 := (sum_one (nd a.From) n).1
    have e : (od (a :: E)) = fun u => od E u + (if nd a.From = u then 1 else 0) := by
      funext u
      unfold od
      by_cases c : nd a.From = u
      · have : (nd a.From == u) = true := by simpa using c
        rw [List.filter_cons, if_pos this, if_pos c]; rfl
      · have : (nd a.From == u) = false := by simpa using c
        rw [List.filter_cons, this, if_neg c]; rfl
    rw [e, sum_add, List.length_cons]; omega

section
variable {n : Nat} {E : List MendArc} {S : Tm} {last : List Int}
structure Inv (n : Nat) (E : List MendArc) (S : Tm) (last : List Int) (s : S5) : Prop where
  wf : Wf n s
  ge : ∀ v, v < n → S v ≤ tm s.t v
  le : ∀ T, Sol n E S T → ∀ v, v < n → tm s.t v ≤ T v
  jk : Jk n last s
  t0 : ∀ v, v < n → 0 ≤ tm s.t v
  r0 : ∀ v, v < n → 0 ≤ tm s.rz v
theorem Inv.step {s : S5} {a : MendArc} (h : Inv n E S last s) (ha : ArcOk n a) (hm : a ∈ E) : Inv n E S last (tryS last a s) := by
  refine ⟨try_wf ha h.wf, fun v hv => Int.le_trans (h.ge v hv) (try_t_mono ha h.wf v), fun T hT => try_le ha h.wf (hT.feas a hm) (h.le T hT), try_jk ha h.wf h.jk, fun v hv => Int.le_trans (h.t0 v hv) (try_t_mono ha h.wf v), fun v hv => ?_⟩
  obtain ⟨d1, d2, d3⟩ := arc_nd ha
  have := h.r0 v hv
  rcases try_cases last a s with ⟨e, _⟩ | ⟨_, _, er, _⟩
  · rw [e]; exact this
  · rw [er, tm_set (by rw [h.wf.lr]; exact d2)]
    split
    · rename_i e; subst e; omega
    · exact this
theorem Inv.steps {s : S5} (l : List MendArc) (hl : ∀ a ∈ l, ArcOk n a ∧ a ∈ E) (h : Inv n E S last s) : Inv n E S last (tryL last l s) :=
  tryL_ind l s (fun a ha _ hs => hs.step (hl a ha).1 (hl a ha).2) h
def Wait (E l : List MendArc) (s : S5) : Prop := ∀ a ∈ E, (sat s a ∨ wt s.w (nd a.From) = true) ∨ a ∈ l
theorem Wait.steps : ∀ (l : List MendArc) (s : S5), (∀ a ∈ l, ArcOk n a ∧ a ∈ E) → Wf n s → Wait E l s → Wait E [] (tryL last l s)
  | [], _, _, _, h => h
  | a :: l, s, hl, hw, h => by
    have h0 := hl a (List.mem_cons_self ..)
    refine Wait.steps l _ (fun b hb => hl b (List.mem_cons_of_mem _ hb)) (try_wf h0.1 hw) fun b hb => ?_
    rcases h b hb with k | k
    · exact .inl (try_other h0.1 hw k)
    · rcases List.mem_cons.1 k with rfl | k
      · exact .inl (.inl (try_sat h0.1 hw))
      · exact .inr k
theorem sum_steps (l : List MendArc) (hl : ∀ a ∈ l, ArcOk n a) {s : S5} (hw : Wf n s) : s.rz.sum ≤ (tryL last l s).rz.sum ∧ ((tryL last l s).q.length : Int) - s.q.length ≤ (tryL last l s).rz.sum - s.rz.sum := by
  induction l generalizing s with
  | nil => exact ⟨Int.le_refl _, by show (s.q.length : Int) - s.q.length ≤ s.rz.sum - s.rz.sum; omega⟩
  | cons a l ih =>
    have h0 := hl a (List.mem_cons_self ..)
    obtain ⟨e1, e2⟩ := try_sum (last := last) h0 hw
    obtain ⟨e3, e4⟩ := ih (fun b hb => hl b (List.mem_cons_of_mem _ hb)) (try_wf (last := last) h0 hw)
    rw [tryL_cons]
    omega

def Good (n : Nat) (E : List MendArc) (S : Tm) (last : List Int) (L : Tm) : Prop := Least n E S L ∧ LastOk n last L
/-- a round of the queue under way -/
structure PM (n : Nat) (E : List MendArc) (S L : Tm) (k : Nat) (rem nw : List Int) (m : Nat) (s : S5) : Prop where
  ok : s.ok = true
  q : s.q = rem ++ nw
  fin : ∀ v, v < n → Lay n E S L k v → tm s.t v = L v
  new : ∀ i ∈ nw, ¬ Lay n E S L k (nd i)
  few : ∀ v, v < n → tm s.rz v + ((rem.map fun i => od E (nd i)).sum : Nat) + m ≤ ((k + 2) * E.length : Nat)
theorem PM.step {L : Tm} {k : Nat} {rem nw : List Int} {m : Nat} {s : S5} {a : MendArc} (h : PM n E S L k rem nw (m + 1) s) (hw : Wf n s) (ha : ArcOk n a) (hL : L (nd a.From) + a.Len ≤ L (nd a.To))
    (ht : ∀ v, v < n → tm s.t v ≤ L v) (hlast : LastOk n last L) (hbig : ∀ v, v < n → L v ≤ 1099511627776) (hA : (k + 2) * E.length ≤ 65536) : ∃ nw', PM n E S L k rem nw' m (tryS last a s) := by
  obtain ⟨d1, d2, d3⟩ := arc_nd ha
  have hfew := h.few
  rcases try_cases last a s with ⟨e, _⟩ | ⟨hr, et, er, ew, eq, eo⟩
  · refine ⟨nw, ?_⟩
    rw [e]
    exact ⟨h.ok, h.q, h.fin, h.new, fun v hv => by have := hfew v hv; omega⟩
  · have t1 := ht _ d1
    have hlt : tm s.t (nd a.To) < L (nd a.To) := by omega
    have hnl : ¬ Lay n E S L k (nd a.To) := fun c => by have := h.fin _ d2 c; omega
    have hok : (tryS last a s).ok = true := by
      rw [eo, h.ok]
      have k1 : tm last (nd a.To) < 0 ∨ tm s.t (nd a.From) + a.Len ≤ tm last (nd a.To) := by
        rcases hlast _ d2 with c | c
        · exact .inl c
        · exact .inr (by omega)
      have k2 := hbig _ d2
      have k3 := hfew _ d2
      simp only [Bool.true_and, Bool.and_eq_true, Bool.or_eq_true, decide_eq_true_eq]
      exact ⟨⟨k1, by omega⟩, by omega⟩
    have hfin : ∀ v, v < n → Lay n E S L k v → tm (tryS last a s).t v = L v := by
      intro v hv c
      have hne : v ≠ nd a.To := by intro e; subst e; exact hnl c
      rw [et, tm_set (by rw [hw.lt]; exact d2), if_neg hne]
      exact h.fin v hv c
    have hfew' : ∀ v, v < n → tm (tryS last a s).rz v + ((rem.map fun i => od E (nd i)).sum : Nat) + m ≤ ((k + 2) * E.length : Nat) := by
      intro v hv
      have := hfew v hv
      rw [er, tm_set (by rw [hw.lr]; exact d2)]
      split
      · rename_i e; subst e; omega
      · omega
    by_cases c : wt s.w (nd a.To) = true
    · exact ⟨nw, hok, by rw [eq, if_pos c]; exact h.q, hfin, h.new, hfew'⟩
    · refine ⟨nw ++ [a.To], hok, by rw [eq, if_neg c, h.q, List.append_assoc], hfin, fun i hi => ?_, hfew'⟩
      rcases List.mem_append.1 hi with hi | hi
      · exact h.new i hi
      · simp at hi; subst hi; exact hnl
theorem PM.steps {L : Tm} {k : Nat} {rem : List Int} (hL : Feas E L) (hlast : LastOk n last L) (hbig : ∀ v, v < n → L v ≤ 1099511627776) (hA : (k + 2) * E.length ≤ 65536) :
    ∀ (l : List MendArc) (nw : List Int) (s : S5), (∀ a ∈ l, ArcOk n a ∧ a ∈ E) → Wf n s → (∀ v, v < n → tm s.t v ≤ L v) → PM n E S L k rem nw l.length s → ∃ nw', PM n E S L k rem nw' 0 (tryL last l s)
  | [], nw, s, _, _, _, h => ⟨nw, h⟩
  | a :: l, nw, s, hl, hw, ht, h => by
    have h0 := hl a (List.mem_cons_self ..)
    obtain ⟨nw', h'⟩ := h.step hw h0.1 (hL a h0.2) ht hlast hbig hA
    exact PM.steps hL hlast hbig hA l nw' _ (fun b hb => hl b (List.mem_cons_of_mem _ hb)) (try_wf h0.1 hw) (try_le h0.1 hw (hL a h0.2) ht) h'
/-- the next round -/
theorem PM.next {L : Tm} {k : Nat} {nw : List Int} {s : S5} (hg : Least n E S L) (hE : ∀ a ∈ E, ArcOk n a) (h : PM n E S L k [] nw 0 s) (hi : Inv n E S last s) (hw : Wait E [] s) : PM n E S L (k + 1) nw [] 0 s := by
  refine ⟨h.ok, by rw [h.q]; simp, fun v hv c => ?_, fun i hi => (by cases hi), fun v hv => ?_⟩
  · rcases c with c | ⟨a, ha, rfl, hl, e⟩
    · exact h.fin v hv c
    · have oa := hE a ha
      obtain ⟨d1, d2, d3⟩ := arc_nd oa
      have ef := h.fin _ d1 hl
      have hle := hi.le L hg.toSol _ d2
      rcases hw a ha with (k1 | k1) | k1
      · unfold sat at k1; omega
      · exfalso
        have := (hi.wf.wq a.From oa.f0 oa.f1).1 k1
        rw [h.q] at this
        exact h.new a.From (by simpa using this) hl
      · cases k1
  · have h1 := h.few v hv
    have h2 : (nw.map fun i => od E (nd i)).sum ≤ E.length := by
      have hq : s.q = nw := by rw [h.q]; rfl
      exact Nat.le_trans (nodup_sum (od E) n nw (hq ▸ hi.wf.dup) (hq ▸ hi.wf.qin)) (od_all n E)
    have e : (k + 1 + 2) * E.length = (k + 2) * E.length + E.length := by rw [show k + 1 + 2 = (k + 2) + 1 by omega, Nat.add_mul (k + 2) 1, Nat.one_mul]
    rw [e]
    simp only [List.map_nil, List.sum_nil] at h1
    omega

theorem sum_bound {B : Int} : ∀ (l : List Int), (∀ v, v < l.length → tm l v ≤ B) → l.sum ≤ l.length * B
  | [], _ => by simp
  | x :: l, h => by
    have h0 := h 0 (by simp)
    have ih := sum_bound l (fun v hv => by have := h (v + 1) (by simpa using hv); simpa [tm] using this)
    have e : tm (x :: l) 0 = x := by simp [tm]
    rw [e] at h0
    simp only [List.sum_cons, List.length_cons, Int.natCast_add, Int.natCast_one, Int.add_mul, Int.one_mul]
    omega

def popS (s : S5) (i : Int) (q : List Int) : S5 := { s with w := s.w.set (nd i) false, q := q }
theorem pop_wf {s : S5} {i : Int} {q : List Int} (hw : Wf n s) (hq : s.q = i :: q) : Wf n (popS s i q) := by
  have h0 := hw.qin i (by rw [hq]; simp)
  have hd := hw.dup
  rw [hq] at hd
  have hnd : nd i < n := by unfold nd; omega
  refine ⟨by simp [popS, hw.lw], hw.lr, hw.lt, fun j hj => hw.qin j (by rw [hq]; exact List.mem_cons_of_mem _ hj), (List.nodup_cons.1 hd).2, fun j j0 j1 => ?_⟩
  show wt (s.w.set (nd i) false) (nd j) = true ↔ j ∈ q
  rw [wt_set (by rw [hw.lw]; exact hnd)]
  by_cases c : nd j = nd i
  · have : j = i := by unfold nd at c; omega
    subst this
    simp [(List.nodup_cons.1 hd).1]
  · have : j ≠ i := fun e => c (by rw [e])
    rw [if_neg c, hw.wq j j0 j1, hq]
    simp [this]

def OutsOk (n : Nat) (E : List MendArc) (outs : List (List MendArc)) : Prop := outs.length = n ∧ ∀ v, v < n → outs[v]? = some (E.filter fun a => nd a.From == v)

/-- the queue's loop -/
theorem loop3_run (hn : n ≤ 24) (hl : last.length = n) (hE : ∀ a ∈ E, ArcOk n a) (hA : E.length ≤ 2500) (y0 : MendSolver) (hy : y0.last = last) {outs : List (List MendArc)} (ho : OutsOk n E outs) (bound : Int)
    (hbound : ∀ L, Good n E S last L → ∀ v, v < n → L v ≤ bound ∧ L v ≤ 1099511627776) :
    ∀ (N : Nat) (s : S5), Inv n E S last s → Wait E [] s → (s.ok = true → (n : Int) * 65536 - s.rz.sum + s.q.length + 2 ≤ N) → 1 ≤ N →
      (∀ L, Good n E S last L → ∃ k rem nw, k ≤ n ∧ PM n E S L k rem nw 0 s) →
      (MendSolverwith_v1.loop3 y0 outs bound N s.w s.rz s.t s.q s.ok = some (.ret (none, false)) ∧ ¬ ∃ L, Good n E S last L) ∨
      ∃ s', MendSolverwith_v1.loop3 y0 outs bound N s.w s.rz s.t s.q s.ok = some (.next (s'.w, s'.rz, s'.t, s'.q, s'.ok)) ∧ Inv n E S last s' ∧ ((s'.ok = true ∧ ∀ a ∈ E, sat s' a) ∨ (s'.ok = false ∧ ¬ ∃ L, Good n E S last L)) := by
  intro N
  induction N with
  | zero => intro s _ _ _ h1; omega
  | succ N ih =>
    intro s hi hw hN _ hP
    rw [MendSolverwith_v1.loop3]
    simp only [bnd]
    cases hok : s.ok with
    | false =>
      refine .inr ⟨s, ?_, hi, .inr ⟨hok, fun ⟨L, hL⟩ => ?_⟩⟩
      · rw [hok]; simp
      · obtain ⟨k, rem, nw, _, h⟩ := hP L hL
        rw [h.ok] at hok; cases hok
    | true =>
      cases hq : s.q with
      | nil =>
        refine .inr ⟨s, ?_, hi, .inl ⟨hok, fun a ha => ?_⟩⟩
        · rw [hok, hq]; simp
        · rcases hw a ha with (k1 | k1) | k1
          · exact k1
          · have oa := hE a ha
            have := (hi.wf.wq a.From oa.f0 oa.f1).1 k1
            rw [hq] at this; cases this
          · cases k1
      | cons i q =>
        have h0 := hi.wf.qin i (by rw [hq]; simp)
        have hv : nd i < n := by unfold nd; omega
        have lw := hi.wf.lw; have lt := hi.wf.lt
        have hql := nodup_len hi.wf.dup hi.wf.qin
        rw [if_pos (by simp)]
        rw [gx_zero]
        simp only [List.getElem?_cons_zero, Option.bind_some]
        rw [cutl_in (by omega) (by simp; omega) (by simp)]
        simp only [Option.bind_some]
        have hcut : (List.take ((i :: q).length : Int).toNat (i :: q)).drop (1 : Int).toNat = q := by simp
        rw [hcut, ix_in h0.1 (by omega), sx_in h0.1 (by omega)]
        simp only [Option.bind_some]
        rw [gx_tm h0.1 (by omega)]
        simp only [Option.bind_some]
        by_cases hb : tm s.t (nd i) > bound
        · rw [if_pos (by simpa using hb)]
          refine .inl ⟨rfl, fun ⟨L, hL⟩ => ?_⟩
          have := hi.le L hL.1.toSol _ hv
          have := (hbound L hL _ hv).1
          omega
        · rw [if_neg (by simpa using hb)]
          have hg : gx outs i = some (E.filter fun a => nd a.From == nd i) := by
            have h : i.toNat < outs.length := by rw [ho.1]; exact hv
            rw [gx_toNat h0.1 h]
            have := ho.2 (nd i) hv
            unfold nd at this ⊢
            rw [List.getElem?_eq_getElem h] at this
            exact this
          rw [hg]
          simp only [Option.bind_some]
          have hlE : ∀ a ∈ (E.filter fun a => nd a.From == nd i), ArcOk n a ∧ a ∈ E := fun a ha => ⟨hE a (List.mem_filter.1 ha).1, (List.mem_filter.1 ha).1⟩
          have hlen : (E.filter fun a => nd a.From == nd i).length ≤ E.length := List.length_filter_le ..
          have hj := hi.jk hok
          have wf1 := pop_wf hi.wf hq
          have inv1 : Inv n E S last (popS s i q) := ⟨wf1, hi.ge, hi.le, hi.jk, hi.t0, hi.r0⟩
          have bn1 : Bnd n (popS s i q) 1099511627776 65536 := ⟨hi.t0, fun v hv => (hj.1 v hv).1, hi.r0, fun v hv => (hj.1 v hv).2⟩
          have e4 := loop4_mirror hn hl y0 hy outs (E.filter fun a => nd a.From == nd i) (popS s i q) 1099511627776 65536 (fun a ha => (hlE a ha).1) wf1 bn1 (by omega) (by omega)
          have hset : s.w.set i.toNat false = (popS s i q).w := rfl
          rw [hset]
          have e4' : MendSolverwith_v1.loop4 y0 outs (E.filter fun a => nd a.From == nd i) (popS s i q).w s.rz s.t q true = MendSolverwith_v1.loop4 y0 outs (E.filter fun a => nd a.From == nd i) (popS s i q).w (popS s i q).rz (popS s i q).t (popS s i q).q (popS s i q).ok := by
            show _ = MendSolverwith_v1.loop4 y0 outs _ _ s.rz s.t q s.ok
            rw [hok]
          rw [e4', e4]
          simp only [Option.bind_some]
          have inv2 := inv1.steps _ hlE
          have wait1 : Wait E (E.filter fun a => nd a.From == nd i) (popS s i q) := by
            intro a ha
            by_cases c : nd a.From = nd i
            · exact .inr (List.mem_filter.2 ⟨ha, by simpa using c⟩)
            · rcases hw a ha with (k1 | k1) | k1
              · exact .inl (.inl k1)
              · refine .inl (.inr ?_)
                show wt (s.w.set (nd i) false) (nd a.From) = true
                rw [wt_set (by omega), if_neg c]; exact k1
              · cases k1
          have wait2 := Wait.steps (last := last) _ _ hlE wf1 wait1
          have sums := sum_steps (last := last) (E.filter fun a => nd a.From == nd i) (fun a ha => (hlE a ha).1) wf1
          have hN' := hN hok
          have hsum := sum_bound s.rz (B := 65536) (fun v hv => (hj.1 v (by rw [← hi.wf.lr]; exact hv)).2)
          rw [hi.wf.lr] at hsum
          have hpq : (popS s i q).q = q := rfl
          have hprz : (popS s i q).rz = s.rz := rfl
          rw [hpq, hprz] at sums
          rw [hq] at hN'
          simp only [List.length_cons, Int.natCast_add, Int.natCast_one] at hN'
          refine ih _ inv2 wait2 (fun _ => by omega) (by omega) fun L hL => ?_
          obtain ⟨k, rem, nw, hk, h⟩ := hP L hL
          have hbig := fun v hv => (hbound L hL v hv).2
          -- the round under way begins with i
          have hround : ∃ k rem nw, k ≤ n ∧ PM n E S L k (i :: rem) nw 0 s := by
            cases rem with
            | cons j rem =>
              have : j = i := by have := h.q; rw [hq] at this; simp at this; exact this.1.symm
              subst this
              exact ⟨k, rem, nw, hk, h⟩
            | nil =>
              have hkn : k < n := by
                refine Classical.byContradiction fun c => ?_
                have hall := hL.1.lay_all hE
                have hqn : s.q = nw := by rw [h.q]; rfl
                exact h.new i (by rw [← hqn, hq]; simp) ((hall (nd i) hv).le (by omega))
              have h2 := h.next hL.1 hE hi hw
              have hqn : nw = i :: q := by have := h.q; rw [hq] at this; simpa using this.symm
              subst hqn
              exact ⟨k + 1, q, [], by omega, h2⟩
          obtain ⟨k, rem, nw, hk, h⟩ := hround
          have hq2 : q = rem ++ nw := by have := h.q; rw [hq] at this; simpa using this
          have hkA : (k + 2) * E.length ≤ 65536 := Nat.le_trans (Nat.mul_le_mul (show k + 2 ≤ 26 by omega) hA) (by decide)
          have hpm : PM n E S L k rem nw (E.filter fun a => nd a.From == nd i).length (popS s i q) := by
            refine ⟨hok, hq2, h.fin, h.new, fun v hv => ?_⟩
            have := h.few v hv
            simp only [List.map_cons, List.sum_cons] at this
            show tm s.rz v + ((rem.map fun i => od E (nd i)).sum : Nat) + (od E (nd i) : Nat) ≤ _
            omega
          obtain ⟨nw', h'⟩ := PM.steps hL.1.feas hL.2 hbig hkA _ nw (popS s i q) hlE wf1 (fun v hv => hi.le L hL.1.toSol v hv) hpm
          exact ⟨k, rem, nw', hk, h'⟩
end
/-! a solver with further arcs -/
theorem clone_int (v : List Int) (h : v.length < 4294967296) : SlicesCloneLint v = some v := by
  unfold SlicesCloneLint
  rw [apd_lt (a := []) (b := v) (by simpa using h)]
  simp
theorem clone_arc (v : List MendArc) (h : v.length < 4294967296) : SlicesCloneLmendArc v = some v := by
  unfold SlicesCloneLmendArc
  rw [apd_lt (a := []) (b := v) (by simpa using h)]
  simp
theorem clone_arcs1 (v : List (List MendArc)) (h : v.length < 4294967296) : SlicesCloneLLmendArc_v1 v = some v := by
  unfold SlicesCloneLLmendArc_v1
  rw [apd_lt (a := []) (b := v) (by simpa using h)]
  simp
theorem clone_arcs (v : List (List MendArc)) (h : v.length < 4294967296) : SlicesCloneLLmendArc v = some v := by
  unfold SlicesCloneLLmendArc
  rw [apd_lt (a := []) (b := v) (by simpa using h)]
  simp
theorem outs_loop {n : Nat} (hn : n ≤ 24) : ∀ (l : List MendArc) (E : List MendArc) (outs : List (List MendArc)), OutsOk n E outs → (∀ a ∈ l, ArcOk n a) → E.length + l.length ≤ 2500 →
    ∃ outs', MendSolverwith_v1.loop1 l outs = some outs' ∧ OutsOk n (E ++ l) outs'
  | [], E, outs, h, _, _ => ⟨outs, rfl, by simpa using h⟩
  | a :: l, E, outs, h, ha, hl => by
    simp only [List.length_cons] at hl
    have oa := ha a (List.mem_cons_self ..)
    obtain ⟨d1, d2, d3⟩ := arc_nd oa
    have f0 := oa.f0
    have hlen := h.1
    have hg : gx outs a.From = some (E.filter fun b => nd b.From == nd a.From) := by
      have hh : a.From.toNat < outs.length := by rw [hlen]; exact d1
      rw [gx_toNat f0 hh]
      have := h.2 (nd a.From) d1
      unfold nd at this ⊢
      rw [List.getElem?_eq_getElem hh] at this
      exact this
    have hfl : (E.filter fun b => nd b.From == nd a.From).length ≤ E.length := List.length_filter_le ..
    have hfi : a.From < (outs.length : Int) := by rw [hlen]; exact oa.f1
    rw [MendSolverwith_v1.loop1, hg]
    simp only [Option.bind_some]
    rw [clone_arc _ (by omega)]
    simp only [Option.bind_some]
    rw [apd_lt (by simp; omega)]
    simp only [Option.bind_some]
    rw [ix_in f0 hfi, sx_in f0 hfi]
    simp only [Option.bind_some]
    have ho : OutsOk n (E ++ [a]) (outs.set a.From.toNat (E.filter (fun b => nd b.From == nd a.From) ++ [a])) := by
      refine ⟨by simp [hlen], fun v hv => ?_⟩
      by_cases c : v = nd a.From
      · subst c
        have : a.From.toNat < outs.length := by rw [hlen]; exact d1
        rw [show nd a.From = a.From.toNat from rfl, List.getElem?_set_self this, List.filter_append]
        simp [nd]
      · rw [show a.From.toNat = nd a.From from rfl, List.getElem?_set_ne (fun e => c e.symm), h.2 v hv, List.filter_append]
        have : (nd a.From == v) = false := by simpa using fun e => c e.symm
        simp [this]
    obtain ⟨outs', e1, e2⟩ := outs_loop hn l (E ++ [a]) _ ho (fun b hb => ha b (List.mem_cons_of_mem _ hb)) (by simp; omega)
    exact ⟨outs', e1, by simpa using e2⟩

def mlen (l : List MendArc) : Int := l.foldl (fun m a => mx m a.Len) 0
theorem mx_le (a b : Int) : a ≤ mx a b ∧ b ≤ mx a b := by unfold mx; split <;> omega
theorem mx_eq (a b : Int) : mx a b = a ∨ mx a b = b := by unfold mx; split <;> omega
theorem fold_len : ∀ (l : List MendArc) (m : Int), m ≤ l.foldl (fun m a => mx m a.Len) m ∧ (∀ a ∈ l, a.Len ≤ l.foldl (fun m a => mx m a.Len) m) ∧ (∀ B, m ≤ B → (∀ a ∈ l, a.Len ≤ B) → l.foldl (fun m a => mx m a.Len) m ≤ B)
  | [], m => ⟨Int.le_refl _, fun a ha => (by cases ha), fun B h _ => h⟩
  | a :: l, m => by
    obtain ⟨h1, h2, h3⟩ := fold_len l (mx m a.Len)
    obtain ⟨k1, k2⟩ := mx_le m a.Len
    refine ⟨Int.le_trans k1 h1, fun b hb => ?_, fun B hB hl => h3 B ?_ (fun b hb => hl b (List.mem_cons_of_mem _ hb))⟩
    · rcases List.mem_cons.1 hb with rfl | hb
      · exact Int.le_trans k2 h1
      · exact h2 b hb
    · rcases mx_eq m a.Len with e | e
      · rw [e]; exact hB
      · rw [e]; exact hl a (List.mem_cons_self ..)
theorem len_loop : ∀ (l : List MendArc) (m : Int), MendSolverbound_v1.loop2 l m = l.foldl (fun m a => mx m a.Len) m
  | [], m => rfl
  | a :: l, m => by rw [MendSolverbound_v1.loop2, len_loop l]; rfl
theorem great_loop : ∀ (l : List Int) (m : Int), Mendgreatestint.loop1 l m = l.foldl mx m
  | [], m => rfl
  | a :: l, m => by rw [Mendgreatestint.loop1, great_loop l]; rfl
theorem fold_mx : ∀ (l : List Int) (m : Int), m ≤ l.foldl mx m ∧ (∀ v, v < l.length → tm l v ≤ l.foldl mx m) ∧ (∀ B, m ≤ B → (∀ v, v < l.length → tm l v ≤ B) → l.foldl mx m ≤ B)
  | [], m => ⟨Int.le_refl _, fun v hv => absurd hv (Nat.not_lt_zero _), fun B h _ => h⟩
  | a :: l, m => by
    obtain ⟨h1, h2, h3⟩ := fold_mx l (mx m a)
    obtain ⟨k1, k2⟩ := mx_le m a
    refine ⟨Int.le_trans k1 h1, fun v hv => ?_, fun B hB hl => h3 B ?_ (fun v hv => ?_)⟩
    · cases v with
      | zero => exact Int.le_trans k2 h1
      | succ v =>
        have := h2 v (by simpa using hv)
        simpa [tm] using this
    · rcases mx_eq m a with e | e
      · rw [e]; exact hB
      · rw [e]; have := hl 0 (by simp); simpa [tm] using this
    · have := hl (v + 1) (by simpa using hv); simpa [tm] using this

section
variable {n : Nat} {last : List Int}
theorem bound_loop {E : List MendArc} (hE : ∀ a ∈ E, ArcOk n a) (y : MendSolver) (ho : OutsOk n E y.outs) : ∀ (rest k : Nat) (q : Int), rest + k = n → 0 ≤ q → q ≤ 10000000000000 - 28800 * rest →
    ∃ r : Int, MendSolverbound_v1.loop1 y rest k q = some r ∧ q + (((List.range n).map fun v => mlen (E.filter fun a => nd a.From == v)).drop k).sum = r := by
  intro rest
  induction rest with
  | zero =>
    intro k q h _ _
    exact ⟨q, rfl, by rw [List.drop_eq_nil_of_le (by simp; omega)]; simp⟩
  | succ rest ih =>
    intro k q h h0 h1
    have hk : k < n := by omega
    have hg : gx y.outs ((k : Nat) : Int) = some (E.filter fun a => nd a.From == k) := by rw [gx_nat]; exact ho.2 k hk
    rw [MendSolverbound_v1.loop1, hg]
    simp only [Option.bind_some, bnd]
    rw [len_loop]
    have hm : (List.foldl (fun m (a : MendArc) => mx m a.Len) 0 (E.filter fun a => nd a.From == k)) = mlen (E.filter fun a => nd a.From == k) := rfl
    rw [hm]
    obtain ⟨m1, _, m3⟩ := fold_len (E.filter fun a => nd a.From == k) 0
    rw [hm] at m1 m3
    have m4 := m3 28800 (by omega) (fun a ha => (hE a (List.mem_filter.1 ha).1).l1)
    simp only [Int.natCast_add, Int.natCast_one] at h1
    rw [w64_id (by omega)]
    obtain ⟨r, e1, e2⟩ := ih (k + 1) (q + mlen (E.filter fun a => nd a.From == k)) (by omega) (by omega) (by omega)
    refine ⟨r, e1, ?_⟩
    rw [← e2, List.drop_eq_getElem_cons (show k < ((List.range n).map fun v => mlen (E.filter fun a => nd a.From == v)).length by simpa using hk)]
    simp only [List.sum_cons, List.getElem_map, List.getElem_range]
    omega

/-- what a solver is -/
structure SInv (n : Nat) (E : List MendArc) (ready last : List Int) (s : MendSolver) : Prop where
  lasts : s.last = last
  len : s.times.length = n
  out : OutsOk n E s.outs
  good : Good n E (tm ready) last (tm s.times)
structure RdOk (n : Nat) (ready last : List Int) : Prop where
  n24 : n ≤ 24
  lr : ready.length = n
  ll : last.length = n
  r0 : ∀ v, v < n → 0 ≤ tm ready v
  r1 : ∀ v, v < n → tm ready v ≤ 28800
theorem Least.small {E : List MendArc} {ready L : _} (hr : RdOk n ready last) (hE : ∀ a ∈ E, ArcOk n a) (h : Least n E (tm ready) L) : ∀ v, v < n → 0 ≤ L v ∧ L v ≤ 720000 := by
  intro v hv
  have h1 := h.bound hE (B := 28800) hr.r1 (M := fun _ => 28800) (fun _ => by omega) (fun a ha => (hE a ha).l1) v hv
  have h2 := below_all (M := fun _ => 28800) (fun _ => by omega) L (L v) n
  have h3 : ∀ n : Nat, ((List.range n).map fun _ => (28800 : Int)).sum = n * 28800 := by
    intro n
    induction n with
    | zero => simp
    | succ n ih => simp only [List.range_succ, List.map_append, List.map_cons, List.map_nil, List.sum_append, List.sum_cons, List.sum_nil, ih]; omega
  rw [h3] at h2
  have := hr.n24
  have := h.ge v hv
  have := hr.r0 v hv
  omega
theorem good_moves {E l : List MendArc} {ready : List Int} {t L : Tm} (h : Least n E (tm ready) t) : Good n (E ++ l) (tm ready) last L ↔ Good n (E ++ l) t last L := by
  have sub : ∀ S T, Sol n (E ++ l) S T → Sol n E S T := fun S T hT => ⟨hT.ge, fun a ha => hT.feas a (List.mem_append_left _ ha)⟩
  constructor
  · rintro ⟨h1, h2⟩
    exact ⟨h1.later h.ge (h.le L (sub _ _ h1.toSol)), h2⟩
  · rintro ⟨h1, h2⟩
    refine ⟨⟨⟨fun v hv => Int.le_trans (h.ge v hv) (h1.ge v hv), h1.feas⟩, fun T hT v hv => ?_⟩, h2⟩
    exact h1.le T ⟨h.le T (sub _ _ hT), hT.feas⟩ v hv
theorem with_run {E l : List MendArc} {ready : List Int} (hr : RdOk n ready last) {s : MendSolver} (hs : SInv n E ready last s) (hE : ∀ a ∈ E, ArcOk n a) (hl : ∀ a ∈ l, ArcOk n a) (hlen : E.length + l.length ≤ 2500) {fu : Nat} (hf : 1600000 ≤ fu) :
    ∃ z, MendSolverwith_v1 fu l s = some z ∧ ((z.2 = true ∧ ∃ s', z.1 = some s' ∧ SInv n (E ++ l) ready last s') ∨ (z.2 = false ∧ ¬ ∃ L, Good n (E ++ l) (tm ready) last L)) := by
  have n24 := hr.n24
  have hE2 : ∀ a ∈ E ++ l, ArcOk n a := fun a ha => (List.mem_append.1 ha).elim (hE a) (hl a)
  have hgood := fun L => good_moves (l := l) (last := last) (L := L) hs.good.1
  have hsm := Least.small hr hE hs.good.1
  obtain ⟨outs', o1, o2⟩ := outs_loop n24 l E s.outs hs.out hl hlen
  have hl1 := hs.len
  unfold MendSolverwith_v1
  rw [clone_int _ (by omega)]
  rw [Option.bind_some]
  have hol := hs.out.1
  have hq : s.outs.length < 4294967296 := by omega
  have hc := clone_arcs1 s.outs hq
  rw [hc]
  rw [Option.bind_some]
  rw [o1]
  rw [Option.bind_some]
  rw [mks_in (by omega), hl1]
  rw [Option.bind_some]
  rw [mks_in (by omega), Option.bind_some]
  let s0 : S5 := ⟨List.replicate n false, List.replicate n 0, s.times, [], true⟩
  have hrep : ∀ v, tm (List.replicate n (0 : Int)) v = 0 := by
    intro v; unfold tm; rw [List.getElem?_replicate]; split <;> rfl
  have hrepw : ∀ v, wt (List.replicate n false) v = false := by
    intro v; unfold wt; rw [List.getElem?_replicate]; split <;> rfl
  have wf0 : Wf n s0 := ⟨by simp [s0], by simp [s0], hl1, fun i hi => (by cases hi), List.nodup_nil, fun i _ _ => by show wt (List.replicate n false) (nd i) = true ↔ i ∈ []; rw [hrepw]; simp⟩
  have inv0 : Inv n (E ++ l) (tm s.times) last s0 := by
    refine ⟨wf0, fun v _ => Int.le_refl _, fun T hT => hT.ge, fun _ => ⟨fun v hv => ?_, hs.good.2⟩, fun v hv => (hsm v hv).1, fun v _ => ?_⟩
    · have := (hsm v hv).2
      refine ⟨?_, ?_⟩
      · show tm s.times v ≤ _; omega
      · show tm (List.replicate n (0 : Int)) v ≤ _; rw [hrep]; omega
    · show 0 ≤ tm (List.replicate n (0 : Int)) v; rw [hrep]; exact Int.le_refl _
  have hlE : ∀ a ∈ l, ArcOk n a ∧ a ∈ E ++ l := fun a ha => ⟨hl a ha, List.mem_append_right _ ha⟩
  have wait0 : Wait (E ++ l) l s0 := fun a ha => (List.mem_append.1 ha).elim (fun h => .inl (.inl (hs.good.1.feas a h))) .inr
  have bn0 : Bnd n s0 720000 0 := ⟨fun v hv => (hsm v hv).1, fun v hv => (hsm v hv).2, fun v _ => by show 0 ≤ tm (List.replicate n (0 : Int)) v; rw [hrep]; exact Int.le_refl _, fun v _ => by show tm (List.replicate n (0 : Int)) v ≤ 0; rw [hrep]; exact Int.le_refl _⟩
  have e2 := loop4_mirror n24 hr.ll s hs.lasts outs' l s0 720000 0 hl wf0 bn0 (by omega) (by omega)
  rw [loop2_4]
  have e2' : MendSolverwith_v1.loop4 s outs' l (List.replicate n false) (List.replicate n 0) s.times [] true = _ := e2
  rw [e2', Option.bind_some]
  dsimp only
  have inv1 := inv0.steps l hlE
  have wait1 := Wait.steps (last := last) l s0 hlE wf0 wait0
  have bn1 : ∀ v, v < n → tm (tryL last l s0).t v ≤ 720000 + 28800 * l.length := by
    have : ∀ (l : List MendArc) (s : S5) (Bt Br : Int), (∀ a ∈ l, ArcOk n a) → Wf n s → Bnd n s Bt Br → ∀ v, v < n → tm (tryL last l s).t v ≤ Bt + 28800 * l.length := by
      intro l
      induction l with
      | nil => intro s Bt Br _ _ hb v hv; have := hb.t1 v hv; simpa [tryL] using this
      | cons a l ih =>
        intro s Bt Br ha hw hb v hv
        have h0 := ha a (List.mem_cons_self ..)
        have := ih _ _ _ (fun b hb => ha b (List.mem_cons_of_mem _ hb)) (try_wf (last := last) h0 hw) (try_bnd h0 hw hb) v hv
        rw [tryL_cons]
        simp only [List.length_cons, Int.natCast_add, Int.natCast_one]
        omega
    exact this l s0 720000 0 hl wf0 bn0
  -- the bound
  have hB : ∃ B : Int, MendSolverbound_v1 (MendSolver.mk (tryL last l s0).t s.last outs') = some B ∧ ∀ L, Good n (E ++ l) (tm s.times) last L → ∀ v, v < n → L v ≤ B ∧ L v ≤ 1099511627776 := by
    unfold MendSolverbound_v1
    have hgr : Mendgreatestint 0 (tryL last l s0).t = (tryL last l s0).t.foldl mx 0 := by unfold Mendgreatestint bnd; rw [great_loop]
    simp only [hgr]
    obtain ⟨g1, g2, g3⟩ := fold_mx (tryL last l s0).t 0
    have lt1 := inv1.wf.lt
    have g4 := g3 (720000 + 28800 * l.length) (by omega) (fun v hv => bn1 v (by rw [← lt1]; exact hv))
    obtain ⟨r, r1, r2⟩ := bound_loop hE2 (MendSolver.mk (tryL last l s0).t s.last outs') o2 n 0 _ (by omega) g1 (by omega)
    rw [o2.1, r1]
    refine ⟨r, rfl, fun L hL v hv => ?_⟩
    have hL' := (hgood L).2 hL
    have hls := Least.small hr hE2 hL'.1 v hv
    refine ⟨?_, by omega⟩
    have hlater : Least n (E ++ l) (tm (tryL last l s0).t) L := hL.1.later inv1.ge (inv1.le L hL.1.toSol)
    have hb := hlater.bound hE2 (B := (tryL last l s0).t.foldl mx 0) (fun u hu => g2 u (by rw [lt1]; exact hu)) (M := fun v => mlen ((E ++ l).filter fun a => nd a.From == v)) (fun v => (fold_len _ 0).1) (fun a ha => by
      have := (fold_len ((E ++ l).filter fun b => nd b.From == nd a.From) 0).2.1 a (List.mem_filter.2 ⟨ha, by simp⟩)
      exact this) v hv
    have hb2 := below_all (M := fun v => mlen ((E ++ l).filter fun a => nd a.From == v)) (fun v => (fold_len _ 0).1) L (L v) n
    simp only [List.drop_zero] at r2
    omega
  obtain ⟨B, b1, b2⟩ := hB
  rw [b1]
  rw [Option.bind_some]
  have hpass : ∀ L, Good n (E ++ l) (tm s.times) last L → ∃ k rem nw, k ≤ n ∧ PM n (E ++ l) (tm s.times) L k rem nw 0 (tryL last l s0) := by
    intro L hL
    have hpm : PM n (E ++ l) (tm s.times) L 0 [] [] l.length s0 := by
      refine ⟨rfl, rfl, fun v _ h => h.symm, fun i hi => (by cases hi), fun v _ => ?_⟩
      have : tm s0.rz v = 0 := hrep v
      rw [this, List.length_append]
      simp
      omega
    obtain ⟨nw', h⟩ := PM.steps hL.1.feas hL.2 (fun v hv => (b2 L hL v hv).2) (by rw [List.length_append]; omega) l [] s0 hlE wf0 (fun v hv => hL.1.ge v hv) hpm
    exact ⟨0, [], nw', by omega, h⟩
  have hsum0 : (0 : Int) ≤ (tryL last l s0).rz.sum ∧ ((tryL last l s0).q.length : Int) ≤ (tryL last l s0).rz.sum := by
    have := sum_steps (last := last) l hl wf0
    have hz : s0.rz.sum = 0 := by show (List.replicate n (0 : Int)).sum = 0; simp
    have hq : s0.q.length = 0 := rfl
    rw [hz, hq] at this
    omega
  rcases loop3_run n24 hr.ll hE2 (by rw [List.length_append]; omega) s hs.lasts o2 B b2 fu (tryL last l s0) inv1 wait1 (fun _ => by omega) (by omega) hpass with ⟨e, hno⟩ | ⟨s', e, hi, hres⟩
  · rw [e]
    exact ⟨_, rfl, .inr ⟨rfl, fun ⟨L, hL⟩ => hno ⟨L, (hgood L).1 hL⟩⟩⟩
  · rw [e]
    refine ⟨_, rfl, ?_⟩
    rcases hres with ⟨h1, h2⟩ | ⟨h1, h2⟩
    · refine .inl ⟨h1, _, rfl, hs.lasts, hi.wf.lt, o2, (hgood _).2 ⟨⟨⟨hi.ge, h2⟩, hi.le⟩, (hi.jk h1).2⟩⟩
    · exact .inr ⟨h1, fun ⟨L, hL⟩ => h2 ⟨L, (hgood L).1 hL⟩⟩
end
theorem mwithin (x a b : Int) : Mendwithin x a b = decide (a ≤ x ∧ x ≤ b) := by
  unfold Mendwithin bnd
  by_cases h : a ≤ x <;> simp [h]
theorem rwithin (x a b : Int) : Fishref2within x a b = decide (a ≤ x ∧ x ≤ b) := by
  unfold Fishref2within bnd
  by_cases h : a ≤ x <;> simp [h]
/-- what is wrong with an arc -/
def arcF (n : Int) (a : MendArc) : Int :=
  if 0 ≤ a.From ∧ a.From < n ∧ 0 ≤ a.To ∧ a.To < n then (if a.From = a.To then 1 else if -28800 ≤ a.Len ∧ a.Len ≤ 28800 then 0 else 2) else 3
theorem arc_m (n : Nat) (hn : n ≤ 9223372036854775807) (a : MendArc) (k : Out Int Unit) :
    (bnd ((if !(Mendwithin a.From 0 (w64 (((n : Nat) : Int) - 1))) then true else !(Mendwithin a.To 0 (w64 (((n : Nat) : Int) - 1)))) : Bool) fun q73 => (if q73 then (.ret 3) else (if (a.From == a.To) then (.ret 1) else (if !(Mendwithin a.Len (-28800) 28800) then (.ret 2) else k))))
      = (if arcF n a != 0 then .ret (arcF n a) else k) := by
  rw [w64_id (by omega)]
  simp only [mwithin, bnd]
  by_cases h1 : 0 ≤ a.From ∧ a.From < n ∧ 0 ≤ a.To ∧ a.To < n
  · have e1 : decide (0 ≤ a.From ∧ a.From ≤ (n : Int) - 1) = true := by simp; omega
    have e2 : decide (0 ≤ a.To ∧ a.To ≤ (n : Int) - 1) = true := by simp; omega
    have e3 : arcF n a = (if a.From = a.To then 1 else if -28800 ≤ a.Len ∧ a.Len ≤ 28800 then 0 else 2) := if_pos h1
    simp only [e1, e2, e3]
    by_cases h2 : a.From = a.To <;> by_cases h3 : -28800 ≤ a.Len ∧ a.Len ≤ 28800 <;> simp [h2, h3]
  · have e1 : (if (!decide (0 ≤ a.From ∧ a.From ≤ (n : Int) - 1)) = true then true else !decide (0 ≤ a.To ∧ a.To ≤ (n : Int) - 1)) = true := by
      by_cases h4 : 0 ≤ a.From ∧ a.From ≤ (n : Int) - 1 <;> by_cases h5 : 0 ≤ a.To ∧ a.To ≤ (n : Int) - 1
      · exfalso; omega
      all_goals simp [h4, h5]
    have e3 : arcF n a = 3 := if_neg h1
    simp only [e1, e3]; rfl
theorem arc_r (n : Int) (a : MendArc) : Fishref2arcFault a n = arcF n a := by
  unfold Fishref2arcFault bnd arcF
  simp only [rwithin]
  by_cases h1 : 0 ≤ a.From ∧ a.From < n ∧ 0 ≤ a.To ∧ a.To < n
  · have : (if decide (a.From < 0) = true then true else if decide (a.From ≥ n) = true then true else if decide (a.To < 0) = true then true else decide (a.To ≥ n)) = false := by
      have := h1.1; have := h1.2.1; have := h1.2.2.1; have := h1.2.2.2
      simp; omega
    simp only [this, h1]
    by_cases h2 : a.From = a.To <;> by_cases h3 : -28800 ≤ a.Len ∧ a.Len ≤ 28800 <;> simp [h2, h3]
  · have : (if decide (a.From < 0) = true then true else if decide (a.From ≥ n) = true then true else if decide (a.To < 0) = true then true else decide (a.To ≥ n)) = true := by
      simp; omega
    rw [this, if_neg h1]; rfl
/-- what is wrong with arcs -/
def arcsF (n : Int) : List MendArc → Out Int Unit
  | [] => .next ()
  | a :: l => if arcF n a != 0 then .ret (arcF n a) else arcsF n l
theorem arcs_m (x : MendGraph) (hn : x.Ready.length ≤ 9223372036854775807) : ∀ l, MendcheckArcs.loop1 x l = arcsF x.Ready.length l
  | [] => rfl
  | a :: l => by rw [MendcheckArcs.loop1, arc_m _ hn, arcs_m x hn l, arcsF]
theorem arcs_r2 (x : MendGraph) : ∀ l, Fishref2GraphFault.loop2 x l = arcsF x.Ready.length l
  | [] => rfl
  | a :: l => by rw [Fishref2GraphFault.loop2, arc_r, arcs_r2 x l, arcsF]
theorem arcs_r5 (x : MendGraph) : ∀ l, Fishref2GraphFault.loop5 x l = arcsF x.Ready.length l
  | [] => rfl
  | a :: l => by rw [Fishref2GraphFault.loop5, arc_r, arcs_r5 x l, arcsF]
theorem arcsF_ne {n : Int} : ∀ {l : List MendArc} {r : Int}, arcsF n l = .ret r → r ≠ 0
  | a :: l, r, h => by
    unfold arcsF at h
    by_cases h1 : arcF n a != 0
    · rw [if_pos h1] at h; injection h with h; subst h; simpa using h1
    · rw [if_neg h1] at h; exact arcsF_ne h
theorem checkArcs_m (x : MendGraph) (hn : x.Ready.length ≤ 9223372036854775807) (l : List MendArc) : MendcheckArcs x l = (match arcsF x.Ready.length l with | .ret r => r | .next () => 0) := by
  unfold MendcheckArcs bnd; rw [arcs_m x hn]; rfl
theorem checkArcs_if {β : Type} (x : MendGraph) (hn : x.Ready.length ≤ 9223372036854775807) (l : List MendArc) (f : Int → β) (k : β) :
    (if ((MendcheckArcs x l) != 0) then f (MendcheckArcs x l) else k) = (match arcsF x.Ready.length l with | .ret r => f r | .next () => k) := by
  rw [checkArcs_m x hn]
  cases h : arcsF x.Ready.length l with
  | ret r => have := arcsF_ne h; simp [this]
  | next u => cases u; rfl
theorem ways_eq (x : MendGraph) (hn : x.Ready.length ≤ 9223372036854775807) : ∀ l, MendCheckGraph.loop3 x l = Fishref2GraphFault.loop4 x l
  | [] => rfl
  | w :: l => by
    rw [MendCheckGraph.loop3, Fishref2GraphFault.loop4, checkArcs_if x hn w (fun r => (.ret r : Out Int Unit)), ways_eq x hn l, arcs_r5]
    rfl
theorem choices_eq (x : MendGraph) (hn : x.Ready.length ≤ 9223372036854775807) : ∀ l, MendCheckGraph.loop2 x l = Fishref2GraphFault.loop3 x l
  | [] => rfl
  | c :: l => by
    rw [MendCheckGraph.loop2, Fishref2GraphFault.loop3, ways_eq x hn, choices_eq x hn l]
theorem nodes_eq (x : MendGraph) : ∀ l k, MendCheckGraph.loop1 x l k = Fishref2GraphFault.loop1 x l k
  | [], _ => rfl
  | c :: l, k => by
    rw [MendCheckGraph.loop1, Fishref2GraphFault.loop1]
    simp only [mwithin, rwithin, nodes_eq x l]
theorem graph_eq (x : MendGraph) (hn : x.Ready.length ≤ 9223372036854775807) : MendCheckGraph x = Fishref2GraphFault x := by
  unfold MendCheckGraph Fishref2GraphFault
  simp only [nodes_eq, choices_eq x hn, checkArcs_if x hn x.Arcs (fun r => some r), arcs_r2, bnd]
  rfl
/-- there is an answer -/
theorem nodes_tot (x : MendGraph) (h1 : x.Last.length = x.Ready.length) (h2 : x.Due.length = x.Ready.length) : ∀ l k, k + l.length = x.Ready.length → Tot (Fishref2GraphFault.loop1 x l k)
  | [], _, _ => Tot.some _
  | c :: l, k, h => by
    rw [Fishref2GraphFault.loop1]
    simp only [List.length_cons] at h
    refine Tot.bind ?_ fun z _ => ?_
    · refine Tot.ite (fun _ => Tot.some _) fun _ => ?_
      rw [gx_at (by omega)]
      refine Tot.ite (fun _ => Tot.some _) fun _ => ?_
      rw [gx_at (by omega)]; exact Tot.some _
    · exact Tot.ite (fun _ => Tot.some _) fun _ => nodes_tot x h1 h2 l (k + 1) (by omega)
theorem graph_tot (x : MendGraph) : Tot (Fishref2GraphFault x) := by
  unfold Fishref2GraphFault
  refine Tot.bnd (Tot.ite (fun _ => Tot.some _) fun _ => ?_)
  unfold bnd
  refine Tot.ite (fun _ => Tot.some _) fun hq => ?_
  have h1 : x.Last.length = x.Ready.length := by
    by_cases h : x.Last.length = x.Ready.length
    · exact h
    · have : ((x.Last.length : Int) != (x.Ready.length : Int)) = true := by simp; omega
      rw [this] at hq; simp at hq
  have h2 : x.Due.length = x.Ready.length := by
    by_cases h : x.Due.length = x.Ready.length
    · exact h
    · rw [h1] at hq
      have : ((x.Due.length : Int) != (x.Ready.length : Int)) = true := by simp; omega
      rw [this] at hq; simp at hq
  obtain ⟨z, hz⟩ := nodes_tot x h1 h2 x.Ready 0 (by simp)
  rw [hz]
  cases z with
  | ret r => exact Tot.some _
  | next u =>
    show Tot (match Fishref2GraphFault.loop2 x x.Arcs with | .ret r => some r | .next () => _)
    cases Fishref2GraphFault.loop2 x x.Arcs with
    | ret r => exact Tot.some _
    | next u =>
      show Tot (match Fishref2GraphFault.loop3 x x.Choices with | .ret r => some r | .next () => some 0)
      cases Fishref2GraphFault.loop3 x x.Choices with
      | ret r => exact Tot.some _
      | next u => exact Tot.some _
/-! a sound graph, a sound pick -/
structure GOk (x : MendGraph) : Prop where
  n24 : x.Ready.length ≤ 24
  arcs : x.Arcs.length ≤ 250
  chs : x.Choices.length ≤ 300
  last : x.Last.length = x.Ready.length
  due : x.Due.length = x.Ready.length
  ready : ∀ c ∈ x.Ready, 0 ≤ c ∧ c ≤ 28800
  dues : ∀ v, v < x.Due.length → -1 ≤ tm x.Due v ∧ tm x.Due v ≤ 28800
  arcOk : ∀ a ∈ x.Arcs, ArcOk x.Ready.length a
  ways : ∀ c ∈ x.Choices, c.Ways.length ≤ 3 ∧ ∀ w ∈ c.Ways, w.length ≤ 4 ∧ ∀ a ∈ w, ArcOk x.Ready.length a
theorem arcF_ok {n : Nat} {a : MendArc} (h : arcF n a = 0) : ArcOk n a := by
  unfold arcF at h
  split at h
  · rename_i h1
    split at h
    · cases h
    · rename_i h2
      split at h
      · rename_i h3
        exact ⟨h1.1, h1.2.1, h1.2.2.1, h1.2.2.2, h2, h3.1, h3.2⟩
      · cases h
  · cases h
theorem arcsF_ok {n : Nat} : ∀ (l : List MendArc), arcsF n l = .next () → ∀ a ∈ l, ArcOk n a
  | [], _, a, ha => by cases ha
  | b :: l, h, a, ha => by
    unfold arcsF at h
    by_cases c : arcF n b != 0
    · rw [if_pos c] at h; cases h
    · rw [if_neg c] at h
      rcases List.mem_cons.1 ha with rfl | ha
      · exact arcF_ok (by simpa using c)
      · exact arcsF_ok l h a ha
theorem ways_ok (x : MendGraph) : ∀ (l : List (List MendArc)), Fishref2GraphFault.loop4 x l = .next () → ∀ w ∈ l, w.length ≤ 4 ∧ ∀ a ∈ w, ArcOk x.Ready.length a
  | [], _, a, ha => by cases ha
  | b :: l, h, w, hw => by
    rw [Fishref2GraphFault.loop4, arcs_r5] at h
    by_cases c : (b.length : Int) > 4
    · simp [c] at h
    · rw [if_neg (by simpa using c)] at h
      unfold bnd at h
      cases hq : arcsF x.Ready.length b with
      | ret r => rw [hq] at h; cases h
      | next u =>
        cases u
        rw [hq] at h
        rcases List.mem_cons.1 hw with rfl | hw
        · exact ⟨by omega, arcsF_ok _ hq⟩
        · exact ways_ok x l h w hw
theorem choices_ok (x : MendGraph) : ∀ (l : List MendChoice), Fishref2GraphFault.loop3 x l = .next () → ∀ c ∈ l, c.Ways.length ≤ 3 ∧ ∀ w ∈ c.Ways, w.length ≤ 4 ∧ ∀ a ∈ w, ArcOk x.Ready.length a
  | [], _, a, ha => by cases ha
  | b :: l, h, w, hw => by
    rw [Fishref2GraphFault.loop3] at h
    by_cases c : (b.Ways.length : Int) > 3
    · simp [c] at h
    · rw [if_neg (by simpa using c)] at h
      unfold bnd at h
      cases hq : Fishref2GraphFault.loop4 x b.Ways with
      | ret r => rw [hq] at h; cases h
      | next u =>
        cases u
        rw [hq] at h
        rcases List.mem_cons.1 hw with rfl | hw
        · exact ⟨by omega, ways_ok x _ hq⟩
        · exact choices_ok x l h w hw
theorem nodes_ok (x : MendGraph) (h1 : x.Last.length = x.Ready.length) (h2 : x.Due.length = x.Ready.length) : ∀ l k, k + l.length = x.Ready.length → Fishref2GraphFault.loop1 x l k = some (.next ()) → (∀ c ∈ l, 0 ≤ c ∧ c ≤ 28800) ∧ ∀ v, k ≤ v → v < x.Due.length → -1 ≤ tm x.Due v ∧ tm x.Due v ≤ 28800
  | [], k, hk, _ => ⟨fun a ha => (by cases ha), fun v v1 v2 => by simp at hk; omega⟩
  | b :: l, k, hk, h => by
    simp only [List.length_cons] at hk
    rw [Fishref2GraphFault.loop1, gx_at (show k < x.Last.length by omega), gx_at (show k < x.Due.length by omega)] at h
    simp only [rwithin, Option.bind_some] at h
    have td := tm_get (t := x.Due) (show k < x.Due.length by omega)
    rw [← td] at h
    by_cases d : 0 ≤ b ∧ b ≤ 28800
    · rw [if_neg (by rw [decide_eq_true d]; simp)] at h
      by_cases d2 : -1 ≤ x.Last[k] ∧ x.Last[k] ≤ 28800
      · rw [if_neg (by rw [decide_eq_true d2]; simp)] at h
        by_cases d3 : -1 ≤ tm x.Due k ∧ tm x.Due k ≤ 28800
        · rw [decide_eq_true d3] at h
          obtain ⟨i1, i2⟩ := nodes_ok x h1 h2 l (k + 1) (by omega) h
          refine ⟨fun c hc => ?_, fun v v1 v2 => ?_⟩
          · rcases List.mem_cons.1 hc with rfl | hc
            · exact d
            · exact i1 c hc
          · by_cases e : v = k
            · subst e; exact d3
            · exact i2 v (by omega) v2
        · rw [decide_eq_false d3] at h; cases h
      · rw [if_pos (by rw [decide_eq_false d2]; rfl)] at h; cases h
    · rw [if_pos (by rw [decide_eq_false d]; rfl)] at h
      cases h
theorem graph_ok {x : MendGraph} (h : Fishref2GraphFault x = some 0) : GOk x := by
  unfold Fishref2GraphFault at h
  simp only [bnd] at h
  by_cases c : (if decide ((x.Ready.length : Int) > 24) then true else (if decide ((x.Arcs.length : Int) > 250) then true else decide ((x.Choices.length : Int) > 300))) = true
  · rw [if_pos c] at h; cases h
  rw [if_neg c] at h
  by_cases d : (if ((x.Last.length : Int) != (x.Ready.length : Int)) then true else ((x.Due.length : Int) != (x.Ready.length : Int))) = true
  · rw [if_pos d] at h; cases h
  rw [if_neg d] at h
  have c1 : ¬ (x.Ready.length : Int) > 24 := fun e => c (by simp [e])
  have c2 : ¬ (x.Arcs.length : Int) > 250 := fun e => c (by simp [e])
  have c3 : ¬ (x.Choices.length : Int) > 300 := fun e => c (by simp [e])
  have d1 : x.Last.length = x.Ready.length := by
    refine Classical.byContradiction fun e => d ?_
    have : ((x.Last.length : Int) != (x.Ready.length : Int)) = true := by simp; omega
    rw [this]; rfl
  have d2 : x.Due.length = x.Ready.length := by
    refine Classical.byContradiction fun e => d ?_
    have : ((x.Due.length : Int) != (x.Ready.length : Int)) = true := by simp; omega
    rw [this]; split <;> rfl
  cases hn : Fishref2GraphFault.loop1 x x.Ready 0 with
  | none => rw [hn] at h; cases h
  | some z =>
    cases z with
    | ret r =>
      obtain ⟨z, hz⟩ := nodes_tot x d1 d2 x.Ready 0 (by simp)
      rw [hn] at h
      exfalso
      have : ∀ l k, Fishref2GraphFault.loop1 x l k = some (.ret r) → r = 2 := by
        intro l
        induction l with
        | nil => intro k h; cases h
        | cons a l ih =>
          intro k h
          rw [Fishref2GraphFault.loop1] at h
          revert h
          generalize (if (!Fishref2within a 0 28800) = true then some true else _ : Option Bool) = q
          intro h
          cases q with
          | none => cases h
          | some q => cases q with
            | true => injection h with h; injection h with h; exact h.symm
            | false => exact ih _ h
      have := this _ _ hn
      subst this
      cases h
    | next u =>
      rw [hn] at h
      simp only [Option.bind_some, arcs_r2] at h
      cases ha : arcsF x.Ready.length x.Arcs with
      | ret r =>
        rw [ha] at h
        injection h with h
        exact absurd h (arcsF_ne ha)
      | next u =>
        cases u
        rw [ha] at h
        cases hc : Fishref2GraphFault.loop3 x x.Choices with
        | ret r =>
          exfalso
          rw [hc] at h
          injection h with h
          subst h
          have w4 : ∀ l, Fishref2GraphFault.loop4 x l ≠ .ret 0 := by
            intro l
            induction l with
            | nil => intro h; cases h
            | cons a l ih =>
              intro h
              rw [Fishref2GraphFault.loop4, arcs_r5] at h
              split at h
              · cases h
              · unfold bnd at h
                cases hq : arcsF x.Ready.length a with
                | ret r => rw [hq] at h; injection h with h; exact arcsF_ne hq h
                | next u => cases u; rw [hq] at h; exact ih h
          have w3 : ∀ l, Fishref2GraphFault.loop3 x l ≠ .ret 0 := by
            intro l
            induction l with
            | nil => intro h; cases h
            | cons a l ih =>
              intro h
              rw [Fishref2GraphFault.loop3] at h
              split at h
              · cases h
              · unfold bnd at h
                cases hq : Fishref2GraphFault.loop4 x a.Ways with
                | ret r => rw [hq] at h; injection h with h; subst h; exact w4 _ hq
                | next u => cases u; rw [hq] at h; exact ih h
          exact w3 _ hc
        | next u =>
          cases u
          obtain ⟨n1, n2⟩ := nodes_ok x d1 d2 x.Ready 0 (by simp) hn
          exact ⟨by omega, by omega, by omega, d1, d2, n1, fun v hv => n2 v (Nat.zero_le _) hv, arcsF_ok _ ha, choices_ok x _ hc⟩

def PickOk : List MendChoice → List Int → Prop
  | [], [] => True
  | c :: cs, q :: p => (0 ≤ q ∧ q ≤ c.Ways.length) ∧ PickOk cs p
  | _, _ => False
def wayOf (c : MendChoice) (q : Int) : List MendArc := if q > 0 then (c.Ways[(q - 1).toNat]?).getD [] else []
def wayArcs : List MendChoice → List Int → List MendArc
  | c :: cs, q :: p => wayOf c q ++ wayArcs cs p
  | _, _ => []
/-! start and picked -/
theorem w_loop1 : ∀ (l : List MendArc) (q : List (List MendArc)), MendSolverwith.loop1 l q = MendSolverwith_v1.loop1 l q := by
  intro l
  induction l with
  | nil => intro q; rfl
  | cons a l ih => intro q; simp only [MendSolverwith.loop1, MendSolverwith_v1.loop1, ih]
theorem w_loop2 (s : MendSolver) (o : List (List MendArc)) : ∀ (l : List MendArc) (a : List Bool) (b c d : List Int) (e : Bool), MendSolverwith.loop2 s o l a b c d e = MendSolverwith_v1.loop2 s o l a b c d e := by
  intro l
  induction l with
  | nil => intros; rfl
  | cons x l ih => intros; simp only [MendSolverwith.loop2, MendSolverwith_v1.loop2, ih]
theorem w_loop4 (s : MendSolver) (o : List (List MendArc)) : ∀ (l : List MendArc) (a : List Bool) (b c d : List Int) (e : Bool), MendSolverwith.loop4 s o l a b c d e = MendSolverwith_v1.loop4 s o l a b c d e := by
  intro l
  induction l with
  | nil => intros; rfl
  | cons x l ih => intros; simp only [MendSolverwith.loop4, MendSolverwith_v1.loop4, ih]
theorem w_loop3 (s : MendSolver) (o : List (List MendArc)) (bd : Int) : ∀ (fu : Nat) (a : List Bool) (b c d : List Int) (e : Bool), MendSolverwith.loop3 s o bd fu a b c d e = MendSolverwith_v1.loop3 s o bd fu a b c d e := by
  intro fu
  induction fu with
  | zero => intros; rfl
  | succ fu ih =>
    intros
    simp only [MendSolverwith.loop3, MendSolverwith_v1.loop3, w_loop4]
    have : ∀ (a : List Bool) (b c d : List Int) (e : Bool), MendSolverwith.loop3 s o bd fu a b c d e = MendSolverwith_v1.loop3 s o bd fu a b c d e := ih
    simp only [this]
theorem w_all (fu : Nat) (s : MendSolver) (l : List MendArc) : MendSolverwith fu (some s) l = MendSolverwith_v1 fu l s := by
  unfold MendSolverwith MendSolverwith_v1
  rw [Option.bind_some]
  have : SlicesCloneLLmendArc = SlicesCloneLLmendArc_v1 := rfl
  rw [this]
  have e1 : MendSolverwith.loop1 = MendSolverwith_v1.loop1 := by funext l q; exact w_loop1 l q
  have e2 : MendSolverwith.loop2 = MendSolverwith_v1.loop2 := by funext s o l a b c d e; exact w_loop2 s o l a b c d e
  have e3 : MendSolverwith.loop3 = MendSolverwith_v1.loop3 := by funext s o bd fu a b c d e; exact w_loop3 s o bd fu a b c d e
  rw [e1, e2, e3]

theorem Good.sub {n : Nat} {E l : List MendArc} {S L : Tm} {last : List Int} (h : Good n (E ++ l) S last L) (hE : ∀ a ∈ E, ArcOk n a) : ∃ L', Good n E S last L' := by
  have hs : Sol n E S L := ⟨h.1.ge, fun a ha => h.1.feas a (List.mem_append_left _ ha)⟩
  obtain ⟨L', h'⟩ := hs.least hE
  exact ⟨L', h', fun v hv => (h.2 v hv).imp id fun q => Int.le_trans (h'.le L hs v hv) q⟩
/-- a solver, or word that there is none -/
def PInv (n : Nat) (E : List MendArc) (ready last : List Int) (o : Option MendSolver) (ok : Bool) : Prop :=
  (ok = true ∧ ∃ s, o = some s ∧ SInv n E ready last s) ∨ (ok = false ∧ ¬ ∃ L, Good n E (tm ready) last L)
theorem PInv.sub {n : Nat} {E l : List MendArc} {ready last : List Int} {o : Option MendSolver} (h : PInv n E ready last o false) (hE : ∀ a ∈ E, ArcOk n a) : PInv n (E ++ l) ready last o false := by
  rcases h with ⟨h, _⟩ | ⟨_, h⟩
  · cases h
  · exact .inr ⟨rfl, fun ⟨L, hL⟩ => h (hL.sub hE)⟩
theorem with_p {n : Nat} {E l : List MendArc} {ready last : List Int} (hr : RdOk (last := last) n ready) {o : Option MendSolver} (hs : PInv n E ready last o true) (hE : ∀ a ∈ E, ArcOk n a) (hl : ∀ a ∈ l, ArcOk n a) (hlen : E.length + l.length ≤ 2500) {fu : Nat} (hf : 1600000 ≤ fu) :
    ∃ o' ok', MendSolverwith fu o l = some (o', ok') ∧ PInv n (E ++ l) ready last o' ok' := by
  rcases hs with ⟨_, s, rfl, hs⟩ | ⟨h, _⟩
  · obtain ⟨⟨o', ok'⟩, h1, h2⟩ := with_run hr hs hE hl hlen hf
    exact ⟨o', ok', by rw [w_all, h1], h2⟩
  · cases h
theorem start_loop (x : MendGraph) (hl : x.Last.length = x.Ready.length) : ∀ (rest k : Nat), rest + k = x.Ready.length →
    (Mendstart.loop1 x x.Ready rest k = some (.next ()) ∧ ∀ v, k ≤ v → v < x.Ready.length → tm x.Last v < 0 ∨ tm x.Ready v ≤ tm x.Last v) ∨
    (Mendstart.loop1 x x.Ready rest k = some (.ret (none, false)) ∧ ∃ v, v < x.Ready.length ∧ ¬ (tm x.Last v < 0 ∨ tm x.Ready v ≤ tm x.Last v)) := by
  intro rest
  induction rest with
  | zero => intro k h; exact .inl ⟨rfl, fun v h1 h2 => by omega⟩
  | succ rest ih =>
    intro k h
    rw [Mendstart.loop1, gx_at (show k < x.Ready.length by omega), gx_at (show k < x.Last.length by omega)]
    simp only [Option.bind_some]
    have t1 := tm_get (t := x.Ready) (show k < x.Ready.length by omega)
    have t2 := tm_get (t := x.Last) (show k < x.Last.length by omega)
    rw [← t1, ← t2]
    by_cases c : tm x.Last k < 0 ∨ tm x.Ready k ≤ tm x.Last k
    · have : (if decide (tm x.Last k ≥ 0) = true then some (decide (tm x.Ready k > tm x.Last k)) else some false) = some false := by
        rcases c with c | c
        · rw [if_neg (by simp; omega)]
        · split
          · rw [decide_eq_false (by omega)]
          · rfl
      rw [this]
      simp only [Option.bind_some, Bool.false_eq_true, if_false]
      rcases ih (k + 1) (by omega) with ⟨i1, i2⟩ | ⟨i1, i2⟩
      · refine .inl ⟨i1, fun v h1 h2 => ?_⟩
        by_cases e : v = k
        · subst e; exact c
        · exact i2 v (by omega) h2
      · exact .inr ⟨i1, i2⟩
    · have : (if decide (tm x.Last k ≥ 0) = true then some (decide (tm x.Ready k > tm x.Last k)) else some false) = some true := by
        rw [if_pos (by simp; omega), decide_eq_true (by omega)]
      rw [this]
      simp only [Option.bind_some, if_true]
      exact .inr ⟨trivial, k, by omega, c⟩
theorem GOk.rd {x : MendGraph} (h : GOk x) : RdOk (last := x.Last) x.Ready.length x.Ready := by
  have key : ∀ v, v < x.Ready.length → 0 ≤ tm x.Ready v ∧ tm x.Ready v ≤ 28800 := by
    intro v hv
    rw [tm_get hv]
    exact h.ready _ (List.getElem_mem hv)
  exact ⟨h.n24, rfl, h.last, fun v hv => (key v hv).1, fun v hv => (key v hv).2⟩
theorem start_run {x : MendGraph} (h : GOk x) {fu : Nat} (hf : 1600000 ≤ fu) : ∃ o ok, Mendstart fu x = some (o, ok) ∧ PInv x.Ready.length x.Arcs x.Ready x.Last o ok := by
  have n24 := h.n24
  have ha := h.arcs
  unfold Mendstart
  rw [clone_int _ (by omega), Option.bind_some, mks_in (by omega), Option.bind_some]
  rcases start_loop x h.last x.Ready.length 0 (by omega) with ⟨e, hok⟩ | ⟨e, v, hv, hbad⟩
  · rw [e]
    have s0 : SInv x.Ready.length [] x.Ready x.Last (MendSolver.mk x.Ready x.Last (List.replicate x.Ready.length [])) := by
      refine ⟨rfl, rfl, ⟨by simp, fun v hv => ?_⟩, ⟨⟨fun v _ => Int.le_refl _, fun a ha => (by cases ha)⟩, fun T hT => hT.ge⟩, fun v hv => hok v (Nat.zero_le _) hv⟩
      show (List.replicate x.Ready.length [])[v]? = _
      rw [List.getElem?_replicate, if_pos hv]; rfl
    obtain ⟨⟨o', ok'⟩, h1, h2⟩ := with_run h.rd s0 (fun a ha => by cases ha) h.arcOk (by simp; omega) hf
    refine ⟨o', ok', ?_, h2⟩
    rw [Option.bind_some]
    dsimp only
    rw [h1, Option.bind_some]
  · rw [e]
    refine ⟨none, false, rfl, .inr ⟨rfl, fun ⟨L, hL⟩ => hbad ?_⟩⟩
    rcases hL.2 v hv with q | q
    · exact .inl q
    · exact .inr (Int.le_trans (hL.1.ge v hv) q)
theorem wayOf_ok {n : Nat} {c : MendChoice} {q : Int} (hc : ∀ w ∈ c.Ways, w.length ≤ 4 ∧ ∀ a ∈ w, ArcOk n a) : (wayOf c q).length ≤ 4 ∧ ∀ a ∈ wayOf c q, ArcOk n a := by
  unfold wayOf
  split
  · cases h : c.Ways[(q - 1).toNat]? with
    | none => exact ⟨by simp, fun a ha => by simp at ha⟩
    | some w => exact hc w (List.mem_of_getElem? h)
  · exact ⟨by simp, fun a ha => by cases ha⟩
theorem wayArcs_ok {n : Nat} : ∀ (cs : List MendChoice) (p : List Int), (∀ c ∈ cs, ∀ w ∈ c.Ways, w.length ≤ 4 ∧ ∀ a ∈ w, ArcOk n a) → (wayArcs cs p).length ≤ 4 * cs.length ∧ ∀ a ∈ wayArcs cs p, ArcOk n a
  | [], p, _ => by refine ⟨?_, fun a ha => ?_⟩ <;> simp [wayArcs] at *
  | c :: cs, [], _ => by refine ⟨?_, fun a ha => ?_⟩ <;> simp [wayArcs] at *
  | c :: cs, q :: p, h => by
    obtain ⟨h1, h2⟩ := wayOf_ok (q := q) (h c (List.mem_cons_self ..))
    obtain ⟨i1, i2⟩ := wayArcs_ok cs p (fun c hc => h c (List.mem_cons_of_mem _ hc))
    rw [wayArcs]
    refine ⟨by simp only [List.length_append, List.length_cons]; omega, fun a ha => ?_⟩
    rcases List.mem_append.1 ha with ha | ha
    · exact h2 a ha
    · exact i2 a ha
theorem way_get {x : MendGraph} (h : GOk x) {k : Nat} {c : MendChoice} {cs : List MendChoice} (hd : x.Choices.drop k = c :: cs) {q : Int} (hq : q > 0) (hq2 : q ≤ c.Ways.length) :
    gx x.Choices ((k : Nat) : Int) = some c ∧ gx c.Ways (w64 (q - 1)) = some (wayOf c q) := by
  have hk : k < x.Choices.length := by
    rcases Nat.lt_or_ge k x.Choices.length with e | e
    · exact e
    · rw [List.drop_eq_nil_of_le e] at hd; cases hd
  rw [List.drop_eq_getElem_cons hk] at hd
  injection hd with hd _
  have hc := (h.ways c (by rw [← hd]; exact List.getElem_mem hk)).1
  refine ⟨by rw [gx_at hk, hd], ?_⟩
  rw [w64_id (by omega), gx_toNat (by omega) (by omega)]
  unfold wayOf
  rw [if_pos hq, List.getElem?_eq_getElem (by omega)]
  rfl
theorem picked_loop {x : MendGraph} (h : GOk x) {fu : Nat} (hf : 1600000 ≤ fu) : ∀ (p : List Int) (k : Nat) (cs : List MendChoice) (E : List MendArc) (o : Option MendSolver) (ok : Bool), x.Choices.drop k = cs → PickOk cs p → (∀ a ∈ E, ArcOk x.Ready.length a) → E.length + 4 * cs.length ≤ 2500 → PInv x.Ready.length E x.Ready x.Last o ok →
    ∃ o' ok', Mendpicked.loop1 x fu p k o ok = some (o', ok') ∧ PInv x.Ready.length (E ++ wayArcs cs p) x.Ready x.Last o' ok'
  | [], k, cs, E, o, ok, hd, hp, hE, hl, hi => by
    cases cs with
    | nil => exact ⟨o, ok, rfl, by simpa [wayArcs] using hi⟩
    | cons c cs => exact absurd hp (by simp [PickOk])
  | q :: p, k, [], E, o, ok, hd, hp, hE, hl, hi => absurd hp (by simp [PickOk])
  | q :: p, k, c :: cs, E, o, ok, hd, hp, hE, hl, hi => by
    obtain ⟨⟨q0, q1⟩, hp⟩ := hp
    simp only [List.length_cons] at hl
    have hd' : x.Choices.drop (k + 1) = cs := by rw [← List.drop_drop, hd]; rfl
    have hcm : c ∈ x.Choices := List.mem_of_mem_drop (by rw [hd]; exact List.mem_cons_self ..)
    obtain ⟨w1, w2⟩ := wayOf_ok (q := q) (h.ways c hcm).2
    have hE2 : ∀ a ∈ E ++ wayOf c q, ArcOk x.Ready.length a := fun a ha => (List.mem_append.1 ha).elim (hE a) (w2 a)
    have hl2 : (E ++ wayOf c q).length + 4 * cs.length ≤ 2500 := by rw [List.length_append]; omega
    rw [Mendpicked.loop1]
    simp only [bnd, wayArcs]
    cases ok with
    | false =>
      simp only [Bool.false_eq_true, if_false, Option.bind_some]
      obtain ⟨o', ok', e1, e2⟩ := picked_loop h hf p (k + 1) cs (E ++ wayOf c q) o false hd' hp hE2 hl2 (hi.sub hE)
      exact ⟨o', ok', e1, by simpa using e2⟩
    | true =>
      by_cases c0 : q > 0
      · obtain ⟨g1, g2⟩ := way_get h hd c0 q1
        obtain ⟨o1, ok1, e1, e2⟩ := with_p h.rd hi hE w2 (by omega) hf
        simp only [c0, decide_true, if_true, g1, g2, e1, Option.bind_some]
        obtain ⟨o', ok', f1, f2⟩ := picked_loop h hf p (k + 1) cs (E ++ wayOf c q) o1 ok1 hd' hp hE2 hl2 e2
        exact ⟨o', ok', f1, by simpa using f2⟩
      · have : wayOf c q = [] := if_neg c0
        rw [this] at hE2 hl2 ⊢
        simp only [List.append_nil] at hE2 hl2
        simp only [c0, decide_false, Bool.false_eq_true, if_true, if_false, Option.bind_some]
        obtain ⟨o', ok', f1, f2⟩ := picked_loop h hf p (k + 1) cs E o true hd' hp hE2 hl2 hi
        exact ⟨o', ok', f1, by simpa using f2⟩
theorem picked_run {x : MendGraph} (h : GOk x) {p : List Int} (hp : PickOk x.Choices p) {fu : Nat} (hf : 1600000 ≤ fu) :
    ∃ o ok, Mendpicked fu x p = some (o, ok) ∧ PInv x.Ready.length (x.Arcs ++ wayArcs x.Choices p) x.Ready x.Last o ok := by
  obtain ⟨o, ok, e1, e2⟩ := start_run h hf
  have ha := h.arcs
  have hc := h.chs
  obtain ⟨o', ok', f1, f2⟩ := picked_loop h hf p 0 x.Choices x.Arcs o ok rfl hp h.arcOk (by omega) e2
  refine ⟨o', ok', ?_, f2⟩
  unfold Mendpicked
  rw [e1, Option.bind_some, f1]
  rfl
/-! times by rounds -/
def relA (a : MendArc) (z : Bool × List Int) : Bool × List Int :=
  if tm z.2 (nd a.From) + a.Len > tm z.2 (nd a.To) then (true, z.2.set (nd a.To) (tm z.2 (nd a.From) + a.Len)) else z
def relL (l : List MendArc) (z : Bool × List Int) : Bool × List Int := l.foldl (fun z a => relA a z) z
section
variable {n : Nat}
theorem relA_tm {a : MendArc} (ha : ArcOk n a) {z : Bool × List Int} (hz : z.2.length = n) (v : Nat) :
    tm (relA a z).2 v = if v = nd a.To ∧ tm z.2 (nd a.From) + a.Len > tm z.2 (nd a.To) then tm z.2 (nd a.From) + a.Len else tm z.2 v := by
  obtain ⟨d1, d2, d3⟩ := arc_nd ha
  unfold relA
  by_cases c : tm z.2 (nd a.From) + a.Len > tm z.2 (nd a.To)
  · rw [if_pos c, tm_set (by rw [hz]; exact d2)]
    by_cases e : v = nd a.To
    · rw [if_pos e, if_pos ⟨e, c⟩]
    · rw [if_neg e, if_neg (fun h => e h.1)]
  · rw [if_neg c, if_neg (fun h => c h.2)]
theorem relA_len (a : MendArc) (z : Bool × List Int) : (relA a z).2.length = z.2.length := by
  unfold relA; split
  · simp
  · rfl
theorem relL_len : ∀ (l : List MendArc) (z : Bool × List Int), (relL l z).2.length = z.2.length
  | [], z => rfl
  | a :: l, z => by rw [show relL (a :: l) z = relL l (relA a z) from rfl, relL_len l, relA_len]
theorem relA_mono {a : MendArc} (ha : ArcOk n a) {z : Bool × List Int} (hz : z.2.length = n) (v : Nat) : tm z.2 v ≤ tm (relA a z).2 v := by
  rw [relA_tm ha hz]
  split
  · rename_i h; rw [h.1]; omega
  · exact Int.le_refl _
theorem relL_mono : ∀ (l : List MendArc) (z : Bool × List Int), (∀ a ∈ l, ArcOk n a) → z.2.length = n → ∀ v, tm z.2 v ≤ tm (relL l z).2 v
  | [], z, _, _, v => Int.le_refl _
  | a :: l, z, h, hz, v => Int.le_trans (relA_mono (h a (List.mem_cons_self ..)) hz v) (relL_mono l (relA a z) (fun b hb => h b (List.mem_cons_of_mem _ hb)) (by rw [relA_len]; exact hz) v)
theorem relL_le {T : Tm} : ∀ (l : List MendArc) (z : Bool × List Int), (∀ a ∈ l, ArcOk n a ∧ T (nd a.From) + a.Len ≤ T (nd a.To)) → z.2.length = n → (∀ v, v < n → tm z.2 v ≤ T v) → ∀ v, v < n → tm (relL l z).2 v ≤ T v
  | [], z, _, _, h, v, hv => h v hv
  | a :: l, z, h, hz, hT, v, hv => by
    refine relL_le l (relA a z) (fun b hb => h b (List.mem_cons_of_mem _ hb)) (by rw [relA_len]; exact hz) (fun u hu => ?_) v hv
    obtain ⟨ha, hf⟩ := h a (List.mem_cons_self ..)
    obtain ⟨d1, d2, d3⟩ := arc_nd ha
    rw [relA_tm ha hz]
    split
    · rename_i q; rw [q.1]; have := hT _ d1; omega
    · exact hT u hu
theorem relL_ub : ∀ (l : List MendArc) (z : Bool × List Int) (B : Int), (∀ a ∈ l, ArcOk n a) → z.2.length = n → (∀ v, v < n → tm z.2 v ≤ B) → ∀ v, v < n → tm (relL l z).2 v ≤ B + 28800 * l.length
  | [], z, B, _, _, h, v, hv => by have := h v hv; show tm z.2 v ≤ B + 28800 * ((0 : Nat) : Int); omega
  | a :: l, z, B, h, hz, hT, v, hv => by
    have ha := h a (List.mem_cons_self ..)
    obtain ⟨d1, d2, d3⟩ := arc_nd ha
    have := relL_ub l (relA a z) (B + 28800) (fun b hb => h b (List.mem_cons_of_mem _ hb)) (by rw [relA_len]; exact hz) (fun u hu => by
      rw [relA_tm ha hz]
      have := hT u hu
      have := hT _ d1
      have := ha.l1
      split <;> omega) v hv
    simp only [List.length_cons, Int.natCast_add, Int.natCast_one]
    exact Int.le_trans this (by omega)
/-- nothing changed: everything holds -/
theorem relL_true : ∀ (l : List MendArc) (z : Bool × List Int), z.1 = true → (relL l z).1 = true
  | [], z, h => h
  | a :: l, z, h => relL_true l (relA a z) (by unfold relA; split <;> simp [h])
theorem relL_same : ∀ (l : List MendArc) (z : Bool × List Int), (relL l z).1 = false → relL l z = z ∧ ∀ a ∈ l, tm z.2 (nd a.From) + a.Len ≤ tm z.2 (nd a.To)
  | [], z, h => ⟨rfl, fun a ha => by cases ha⟩
  | a :: l, z, h => by
    have e : relA a z = z ∧ tm z.2 (nd a.From) + a.Len ≤ tm z.2 (nd a.To) := by
      by_cases c : tm z.2 (nd a.From) + a.Len > tm z.2 (nd a.To)
      · exfalso
        have := relL_true l (relA a z) (by unfold relA; rw [if_pos c])
        rw [show relL (a :: l) z = relL l (relA a z) from rfl, this] at h
        cases h
      · exact ⟨by unfold relA; rw [if_neg c], by omega⟩
    rw [show relL (a :: l) z = relL l (relA a z) from rfl, e.1] at h ⊢
    obtain ⟨i1, i2⟩ := relL_same l z h
    refine ⟨i1, fun b hb => ?_⟩
    rcases List.mem_cons.1 hb with rfl | hb
    · exact e.2
    · exact i2 b hb
/-- a tight arc from a final node makes a final node -/
theorem relL_push {L : Tm} : ∀ (l : List MendArc) (z : Bool × List Int), (∀ a ∈ l, ArcOk n a ∧ L (nd a.From) + a.Len ≤ L (nd a.To)) → z.2.length = n → (∀ v, v < n → tm z.2 v ≤ L v) →
    ∀ a ∈ l, tm z.2 (nd a.From) = L (nd a.From) → L (nd a.From) + a.Len = L (nd a.To) → tm (relL l z).2 (nd a.To) = L (nd a.To)
  | [], z, _, _, _, a, ha, _, _ => by cases ha
  | b :: l, z, h, hz, hT, a, ha, h1, h2 => by
    have ob := (h b (List.mem_cons_self ..)).1
    have hz' : (relA b z).2.length = n := by rw [relA_len]; exact hz
    have hl : ∀ a ∈ l, ArcOk n a ∧ L (nd a.From) + a.Len ≤ L (nd a.To) := fun b hb => h b (List.mem_cons_of_mem _ hb)
    have hT' : ∀ v, v < n → tm (relA b z).2 v ≤ L v := relL_le [b] z (fun c hc => by rw [List.mem_singleton.1 hc]; exact h b (List.mem_cons_self ..)) hz hT
    have oa := (h a ha).1
    obtain ⟨d1, d2, d3⟩ := arc_nd oa
    rcases List.mem_cons.1 ha with rfl | ha
    · have k1 : tm (relA a z).2 (nd a.To) = L (nd a.To) := by
        have := hT' _ d2
        have := hT _ d2
        rw [relA_tm oa hz] at *
        split at * <;> omega
      have k2 := relL_mono l (relA a z) (fun b hb => (hl b hb).1) hz' (nd a.To)
      have k3 := relL_le l (relA a z) hl hz' hT' _ d2
      show tm (relL l (relA a z)).2 (nd a.To) = _
      omega
    · refine relL_push l (relA b z) hl hz' hT' a ha ?_ h2
      have k1 := relA_mono ob hz (nd a.From)
      have k2 := hT' _ d1
      omega
theorem times_loop3 {E : List MendArc} (hE : ∀ a ∈ E, ArcOk n a) : ∀ (rest k : Nat) (z : Bool × List Int) (B : Int), rest + k = E.length → z.2.length = n → (∀ v, v < n → 0 ≤ tm z.2 v) → (∀ v, v < n → tm z.2 v ≤ B) → B + 28800 * rest ≤ 1000000000000 →
    Fishref2TimesOf.loop3 E rest k z.1 z.2 = some (relL (E.drop k) z) := by
  intro rest
  induction rest with
  | zero =>
    intro k z B h _ _ _ _
    rw [List.drop_eq_nil_of_le (by omega)]
    rfl
  | succ rest ih =>
    intro k z B h hz h0 hB hs
    have hk : k < E.length := by omega
    have oa := hE _ (List.getElem_mem hk)
    obtain ⟨d1, d2, d3⟩ := arc_nd oa
    have f0 := oa.f0
    have f1 := oa.f1
    have t0 := oa.t0
    have t1 := oa.t1
    have l0 := oa.l0
    have l1 := oa.l1
    have b1 := hB _ d1
    have b2 := h0 _ d1
    have b3 := h0 _ d2
    simp only [Int.natCast_add, Int.natCast_one] at hs
    have hnext : Fishref2TimesOf.loop3 E rest (k + 1) (relA E[k] z).1 (relA E[k] z).2 = some (relL (E.drop k) z) := by
      rw [ih (k + 1) (relA E[k] z) (B + 28800) (by omega) (by rw [relA_len]; exact hz) (fun v hv => Int.le_trans (h0 v hv) (relA_mono oa hz v)) (fun v hv => by
        rw [relA_tm oa hz]
        have := hB v hv
        split <;> omega) (by omega), List.drop_eq_getElem_cons hk]
      rfl
    rw [Fishref2TimesOf.loop3, gx_at hk]
    simp only [Option.bind_some]
    rw [gx_tm f0 (by rw [hz]; exact f1)]
    simp only [Option.bind_some]
    rw [gx_tm t0 (by rw [hz]; exact t1)]
    simp only [Option.bind_some]
    rw [w64_id (by omega)]
    by_cases c : tm z.2 (nd E[k].From) + E[k].Len > tm z.2 (nd E[k].To)
    · rw [if_pos (by simpa using c), ix_in t0 (by rw [hz]; exact t1), sx_in t0 (by rw [hz]; exact t1)]
      have e : relA E[k] z = (true, z.2.set (nd E[k].To) (tm z.2 (nd E[k].From) + E[k].Len)) := if_pos c
      rw [e] at hnext
      exact hnext
    · rw [if_neg (by simpa using c)]
      have e : relA E[k] z = z := if_neg c
      rw [e] at hnext
      exact hnext
theorem times_loop2 {E : List MendArc} (hE : ∀ a ∈ E, ArcOk n a) (hlen : E.length ≤ 2500) (n24 : n ≤ 24) {ready : List Int} (hrl : ready.length = n) (hr : ∀ v, v < n → 0 ≤ tm ready v) : ∀ (m i : Nat) (t : List Int), i + m = n + 3 → 1 ≤ m → t.length = n →
    (∀ v, v < n → tm ready v ≤ tm t v) → (∀ T, Sol n E (tm ready) T → ∀ v, v < n → tm t v ≤ T v) → (∀ v, v < n → tm t v ≤ 28800 + 72000000 * i) →
    (∀ L, Least n E (tm ready) L → ∀ v, v < n → Lay n E (tm ready) L i v → tm t v = L v) → (i = n + 2 → ¬ ∃ L, Least n E (tm ready) L) → i < n + 2 →
    ∀ fu, m ≤ fu →
    (∃ t' i', Fishref2TimesOf.loop2 E ready fu ((i : Nat) : Int) t = some (.next (i', t')) ∧ t'.length = n ∧ Least n E (tm ready) (tm t')) ∨
    (Fishref2TimesOf.loop2 E ready fu ((i : Nat) : Int) t = some (.ret ([], false)) ∧ ¬ ∃ L, Least n E (tm ready) L) := by
  intro m
  induction m with
  | zero => intro i t _ h; omega
  | succ m ih =>
    intro i t him _ ht hge hle hub hlay hnone hi fu hfu
    obtain ⟨fu, rfl⟩ : ∃ f, fu = f + 1 := ⟨fu - 1, by omega⟩
    have h0 : ∀ v, v < n → 0 ≤ tm t v := fun v hv => Int.le_trans (hr v hv) (hge v hv)
    rw [Fishref2TimesOf.loop2, times_loop3 hE E.length 0 (false, t) (28800 + 72000000 * i) rfl ht h0 hub (by omega)]
    simp only [Option.bind_some, List.drop_zero]
    have hz' : (relL E (false, t)).2.length = n := by rw [relL_len]; exact ht
    cases hc : (relL E (false, t)).1 with
    | false =>
      obtain ⟨e1, e2⟩ := relL_same E (false, t) hc
      refine .inl ⟨t, (i : Int), ?_, ht, ⟨⟨hge, e2⟩, hle⟩⟩
      rw [e1]
      rfl
    | true =>
      have hmono := relL_mono E (false, t) hE ht
      have hle' : ∀ T, Sol n E (tm ready) T → ∀ v, v < n → tm (relL E (false, t)).2 v ≤ T v := fun T hT => relL_le E (false, t) (fun a ha => ⟨hE a ha, hT.feas a ha⟩) ht (hle T hT)
      simp only [Bool.not_true, Bool.false_eq_true, if_false]
      by_cases c : i = n + 1
      · have : decide ((i : Int) > ((ready.length : Nat) : Int)) = true := by rw [hrl]; simp; omega
        rw [this, if_pos rfl]
        refine .inr ⟨rfl, fun ⟨L, hL⟩ => ?_⟩
        -- all are final, so nothing changes
        have fin : ∀ v, v < n → tm t v = L v := fun v hv => hlay L hL v hv ((hL.lay_all hE v hv).le (by omega))
        have key : ∀ (l : List MendArc), (∀ a ∈ l, a ∈ E) → relL l (false, t) = (false, t) := by
          intro l
          induction l with
          | nil => intro _; rfl
          | cons a l ihl =>
            intro hl
            have ha := hl a (List.mem_cons_self ..)
            obtain ⟨d1, d2, d3⟩ := arc_nd (hE a ha)
            have e : relA a (false, t) = (false, t) := by
              unfold relA
              rw [if_neg]
              have := hL.feas a ha
              rw [fin _ d1, fin _ d2]
              omega
            rw [show relL (a :: l) (false, t) = relL l (relA a (false, t)) from rfl, e]
            exact ihl fun b hb => hl b (List.mem_cons_of_mem _ hb)
        rw [key E (fun a ha => ha)] at hc
        cases hc
      · by_cases cn : (i : Int) > ((ready.length : Nat) : Int)
        · rw [hrl] at cn; omega
        rw [decide_eq_false cn]
        simp only [Bool.false_eq_true, if_false]
        rw [w64_id (by omega)]
        have := ih (i + 1) (relL E (false, t)).2 (by omega) (by omega) hz' (fun v hv => Int.le_trans (hge v hv) (hmono v)) hle' (fun v hv => by
          have := relL_ub E (false, t) (28800 + 72000000 * i) hE ht hub v hv
          simp only [Int.natCast_add, Int.natCast_one]
          omega) (fun L hL v hv hlv => by
          have hLs := hL.toSol
          rcases hlv with hlv | ⟨a, ha, rfl, hla, htight⟩
          · have k1 := hlay L hL v hv hlv
            have k2 := hmono v
            have k3 := hle' L hLs v hv
            simp only at k2
            omega
          · obtain ⟨d1, d2, d3⟩ := arc_nd (hE a ha)
            exact relL_push E (false, t) (fun a ha => ⟨hE a ha, hL.feas a ha⟩) ht (hle L hLs) a ha (hlay L hL _ d1 hla) htight) (by omega) (by omega) fu (by omega)
        simpa only [Int.natCast_add, Int.natCast_one] using this
end
theorem times_arcs {x : MendGraph} (h : GOk x) : ∀ (p : List Int) (k : Nat) (cs : List MendChoice) (E : List MendArc), x.Choices.drop k = cs → PickOk cs p → E.length + 4 * cs.length ≤ 2500 → Fishref2TimesOf.loop1 x p k E = some (E ++ wayArcs cs p)
  | [], k, cs, E, hd, hp, hl => by
    cases cs with
    | nil => simp [Fishref2TimesOf.loop1, wayArcs]
    | cons c cs => exact absurd hp (by simp [PickOk])
  | q :: p, k, [], E, hd, hp, hl => absurd hp (by simp [PickOk])
  | q :: p, k, c :: cs, E, hd, hp, hl => by
    obtain ⟨⟨q0, q1⟩, hp⟩ := hp
    simp only [List.length_cons] at hl
    have hd' : x.Choices.drop (k + 1) = cs := by rw [← List.drop_drop, hd]; rfl
    have hcm : c ∈ x.Choices := List.mem_of_mem_drop (by rw [hd]; exact List.mem_cons_self ..)
    obtain ⟨w1, w2⟩ := wayOf_ok (q := q) (h.ways c hcm).2
    rw [Fishref2TimesOf.loop1, wayArcs]
    by_cases c0 : q > 0
    · obtain ⟨g1, g2⟩ := way_get h hd c0 q1
      simp only [c0, decide_true, if_true, g1, g2, Option.bind_some]
      rw [apd_lt (by omega)]
      simp only [Option.bind_some]
      rw [times_arcs h p (k + 1) cs _ hd' hp (by rw [List.length_append]; omega), List.append_assoc]
    · have : wayOf c q = [] := if_neg c0
      simp only [c0, decide_false, Bool.false_eq_true, if_false, Option.bind_some, this, List.nil_append]
      exact times_arcs h p (k + 1) cs E hd' hp (by omega)
theorem times_loop4 (x : MendGraph) (t : List Int) (hl : x.Last.length = x.Ready.length) (ht : t.length = x.Ready.length) : ∀ (rest k : Nat), rest + k = x.Ready.length →
    (Fishref2TimesOf.loop4 x t rest k = some (.next ()) ∧ ∀ v, k ≤ v → v < x.Ready.length → tm x.Last v < 0 ∨ tm t v ≤ tm x.Last v) ∨
    (Fishref2TimesOf.loop4 x t rest k = some (.ret ([], false)) ∧ ∃ v, v < x.Ready.length ∧ ¬ (tm x.Last v < 0 ∨ tm t v ≤ tm x.Last v)) := by
  intro rest
  induction rest with
  | zero => intro k h; exact .inl ⟨rfl, fun v h1 h2 => by omega⟩
  | succ rest ih =>
    intro k h
    rw [Fishref2TimesOf.loop4, gx_at (show k < t.length by omega), gx_at (show k < x.Last.length by omega)]
    simp only [Option.bind_some]
    have t1 := tm_get (t := t) (show k < t.length by omega)
    have t2 := tm_get (t := x.Last) (show k < x.Last.length by omega)
    rw [← t1, ← t2]
    by_cases c : tm x.Last k < 0 ∨ tm t k ≤ tm x.Last k
    · have : (if decide (tm x.Last k ≥ 0) = true then some (decide (tm t k > tm x.Last k)) else some false) = some false := by
        rcases c with c | c
        · rw [if_neg (by simp; omega)]
        · split
          · rw [decide_eq_false (by omega)]
          · rfl
      rw [this]
      simp only [Option.bind_some, Bool.false_eq_true, if_false]
      rcases ih (k + 1) (by omega) with ⟨i1, i2⟩ | ⟨i1, i2⟩
      · refine .inl ⟨i1, fun v h1 h2 => ?_⟩
        by_cases e : v = k
        · subst e; exact c
        · exact i2 v (by omega) h2
      · exact .inr ⟨i1, i2⟩
    · have : (if decide (tm x.Last k ≥ 0) = true then some (decide (tm t k > tm x.Last k)) else some false) = some true := by
        rw [if_pos (by simp; omega), decide_eq_true (by omega)]
      rw [this]
      simp only [Option.bind_some, if_true]
      exact .inr ⟨trivial, k, by omega, c⟩
/-- the times asked for -/
theorem times_run {x : MendGraph} (h : GOk x) {p : List Int} (hp : PickOk x.Choices p) {fu : Nat} (hf : 1600000 ≤ fu) :
    (∃ t, Fishref2TimesOf fu x p = some (t, true) ∧ t.length = x.Ready.length ∧ Good x.Ready.length (x.Arcs ++ wayArcs x.Choices p) (tm x.Ready) x.Last (tm t)) ∨
    (Fishref2TimesOf fu x p = some ([], false) ∧ ¬ ∃ L, Good x.Ready.length (x.Arcs ++ wayArcs x.Choices p) (tm x.Ready) x.Last L) := by
  have ha := h.arcs
  have hc := h.chs
  have n24 := h.n24
  obtain ⟨w1, w2⟩ := wayArcs_ok (n := x.Ready.length) x.Choices p (fun c hc => (h.ways c hc).2)
  have hE : ∀ a ∈ x.Arcs ++ wayArcs x.Choices p, ArcOk x.Ready.length a := fun a ha => (List.mem_append.1 ha).elim (h.arcOk a) (w2 a)
  unfold Fishref2TimesOf
  rw [clone_arc _ (by omega), Option.bind_some, times_arcs h p 0 x.Choices x.Arcs rfl hp (by omega), Option.bind_some, clone_int _ (by omega), Option.bind_some]
  have hr := h.rd
  rcases times_loop2 hE (by rw [List.length_append]; omega) n24 rfl hr.r0 (x.Ready.length + 3) 0 x.Ready (by omega) (by omega) rfl (fun v _ => Int.le_refl _) (fun T hT => hT.ge) (fun v hv => by have := hr.r1 v hv; simpa using this) (fun L _ v _ hlv => Eq.symm hlv) (fun e => by omega) (by omega) fu (by omega) with ⟨t, i, e, ht, hL⟩ | ⟨e, hno⟩
  · have e' : Fishref2TimesOf.loop2 (x.Arcs ++ wayArcs x.Choices p) x.Ready fu 0 x.Ready = some (.next (i, t)) := e
    rw [e', Option.bind_some]
    dsimp only
    rcases times_loop4 x t h.last ht x.Ready.length 0 (by omega) with ⟨f, hok⟩ | ⟨f, v, hv, hbad⟩
    · rw [f, Option.bind_some]
      exact .inl ⟨t, rfl, ht, hL, fun v hv => hok v (Nat.zero_le _) hv⟩
    · rw [f, Option.bind_some]
      refine .inr ⟨rfl, fun ⟨L, hL'⟩ => hbad ?_⟩
      rcases hL'.2 v hv with q | q
      · exact .inl q
      · exact .inr (Int.le_trans (hL.le L hL'.1.toSol v hv) q)
  · have e' : Fishref2TimesOf.loop2 (x.Arcs ++ wayArcs x.Choices p) x.Ready fu 0 x.Ready = some (.ret ([], false)) := e
    rw [e', Option.bind_some]
    exact .inr ⟨rfl, fun ⟨L, hL⟩ => hno ⟨L, hL.1⟩⟩
/-! delays -/
theorem delay_loop (x : MendGraph) (t : List Int) : ∀ (l : List Int) (k : Nat) (m : List Int) (q : Int), x.Due.drop k = m → t.drop k = l → m.length = l.length →
    Menddelay.loop1 t m k q = Fishref2DelayOf.loop1 x l k q ∧ Tot (Fishref2DelayOf.loop1 x l k q)
  | [], k, m, q, hm, hl, he => by
    cases m with
    | nil => exact ⟨rfl, Tot.some _⟩
    | cons a m => cases he
  | c :: l, k, [], q, hm, hl, he => by cases he
  | c :: l, k, d :: m, q, hm, hl, he => by
    have hk : k < t.length := by
      rcases Nat.lt_or_ge k t.length with e | e
      · exact e
      · rw [List.drop_eq_nil_of_le e] at hl; cases hl
    have hk2 : k < x.Due.length := by
      rcases Nat.lt_or_ge k x.Due.length with e | e
      · exact e
      · rw [List.drop_eq_nil_of_le e] at hm; cases hm
    rw [List.drop_eq_getElem_cons hk] at hl
    rw [List.drop_eq_getElem_cons hk2] at hm
    injection hl with h1 h2
    injection hm with h3 h4
    rw [Menddelay.loop1, Fishref2DelayOf.loop1, gx_at hk, gx_at hk2, h1, h3]
    have ih := fun q => delay_loop x t l (k + 1) m q h4 h2 (by simpa using he)
    by_cases c0 : d ≥ 0
    · simp only [c0, decide_true, if_true, Option.bind_some]
      exact ih _
    · simp only [c0, decide_false, Bool.false_eq_true, if_false, Option.bind_some]
      exact ih _
theorem delay_eq (x : MendGraph) (t : List Int) (h : x.Due.length = t.length) : Menddelay x t = Fishref2DelayOf x t ∧ Tot (Fishref2DelayOf x t) := by
  obtain ⟨e1, e2⟩ := delay_loop x t t 0 x.Due 0 rfl rfl h
  unfold Menddelay Fishref2DelayOf
  rw [e1]
  obtain ⟨z, hz⟩ := e2
  rw [hz]
  exact ⟨rfl, Tot.some _⟩
theorem seq_self (l : List Int) : SlicesEqualLint l l = some true := by
  unfold SlicesEqualLint
  have key : ∀ (m : List Int) (k : Nat), l.drop k = m → SlicesEqualLint.loop1 l m k = some (.next ()) := by
    intro m
    induction m with
    | nil => intro k _; rfl
    | cons a m ih =>
      intro k h
      have hk : k < l.length := by
        rcases Nat.lt_or_ge k l.length with e | e
        · exact e
        · rw [List.drop_eq_nil_of_le e] at h; cases h
      rw [List.drop_eq_getElem_cons hk] at h
      injection h with h1 h2
      rw [SlicesEqualLint.loop1, gx_at hk, h1]
      simp only [Option.bind_some, bne_self_eq_false, Bool.false_eq_true, if_false]
      exact ih _ h2
  rw [key l 0 rfl]
  simp
theorem good_one {n : Nat} {E : List MendArc} {S : Tm} {last a b : List Int} (ha : a.length = n) (hb : b.length = n) (h1 : Good n E S last (tm a)) (h2 : Good n E S last (tm b)) : a = b := by
  refine List.ext_getElem (by omega) fun v h3 h4 => ?_
  rw [← tm_get h3, ← tm_get h4]
  have := h1.1.le _ h2.1.toSol v (by omega)
  have := h2.1.le _ h1.1.toSol v (by omega)
  omega
/-! from pick to pick -/
theorem Good.perm {n : Nat} {E E' : List MendArc} {S L : Tm} {last : List Int} (h : E.Perm E') (g : Good n E S last L) : Good n E' S last L := by
  have hm : ∀ a, a ∈ E ↔ a ∈ E' := fun a => h.mem_iff
  exact ⟨⟨⟨g.1.ge, fun a ha => g.1.feas a ((hm a).2 ha)⟩, fun T hT => g.1.le T ⟨hT.ge, fun a ha => hT.feas a ((hm a).1 ha)⟩⟩, g.2⟩
theorem PickOk.len : ∀ {cs : List MendChoice} {p : List Int}, PickOk cs p → p.length = cs.length
  | [], [], _ => rfl
  | [], q :: p, h => absurd h (by simp [PickOk])
  | c :: cs, [], h => absurd h (by simp [PickOk])
  | c :: cs, q :: p, h => by simp only [List.length_cons]; rw [PickOk.len h.2]
theorem PickOk.set : ∀ {cs : List MendChoice} {p : List Int} {k : Nat} {c : MendChoice} {q : Int}, PickOk cs p → cs[k]? = some c → 0 ≤ q → q ≤ c.Ways.length → PickOk cs (p.set k q)
  | [], p, k, c, q, _, h, _, _ => by simp at h
  | c :: cs, [], k, _, q, h, _, _, _ => absurd h (by simp [PickOk])
  | c :: cs, a :: p, 0, d, q, h, hk, h0, h1 => by
    simp only [List.getElem?_cons_zero, Option.some.injEq] at hk
    subst hk
    exact ⟨⟨h0, h1⟩, h.2⟩
  | c :: cs, a :: p, k + 1, d, q, h, hk, h0, h1 => by
    simp only [List.getElem?_cons_succ] at hk
    exact ⟨h.1, PickOk.set h.2 hk h0 h1⟩
theorem PickOk.zeros : ∀ (cs : List MendChoice), PickOk cs (List.replicate cs.length 0) ∧ wayArcs cs (List.replicate cs.length 0) = []
  | [] => ⟨trivial, rfl⟩
  | c :: cs => by
    obtain ⟨h1, h2⟩ := PickOk.zeros cs
    refine ⟨⟨⟨Int.le_refl _, by omega⟩, h1⟩, ?_⟩
    show wayOf c 0 ++ wayArcs cs (List.replicate cs.length 0) = []
    rw [h2]; rfl
theorem wayArcs_set : ∀ (cs : List MendChoice) (p : List Int) (k : Nat) (c : MendChoice) (q : Int), p[k]? = some 0 → cs[k]? = some c → (wayArcs cs (p.set k q)).Perm (wayArcs cs p ++ wayOf c q)
  | [], p, k, c, q, _, h => by simp at h
  | c :: cs, [], k, d, q, h, _ => by simp at h
  | c :: cs, a :: p, 0, d, q, h0, hk => by
    simp only [List.getElem?_cons_zero, Option.some.injEq] at hk h0
    subst hk; subst h0
    show (wayOf c q ++ wayArcs cs p).Perm (wayOf c 0 ++ wayArcs cs p ++ wayOf c q)
    have : wayOf c 0 = [] := rfl
    rw [this, List.nil_append]
    exact List.perm_append_comm
  | c :: cs, a :: p, k + 1, d, q, h0, hk => by
    simp only [List.getElem?_cons_succ] at hk h0
    show (wayOf c a ++ wayArcs cs (p.set k q)).Perm (wayOf c a ++ wayArcs cs p ++ wayOf d q)
    rw [List.append_assoc]
    exact (wayArcs_set cs p k d q h0 hk).append_left _
def Std (x : MendGraph) (p : List Int) (o : Option MendSolver) : Prop := ∃ s, o = some s ∧ ∃ E : List MendArc, E.Perm (x.Arcs ++ wayArcs x.Choices p) ∧ SInv x.Ready.length E x.Ready x.Last s
/-- the solver and the given times say the same -/
def Ans (x : MendGraph) (fu : Nat) (p : List Int) (o : Option MendSolver) (ok : Bool) : Prop :=
  (ok = true ∧ ∃ s, o = some s ∧ Std x p o ∧ Fishref2TimesOf fu x p = some (s.times, true) ∧ s.times.length = x.Ready.length) ∨ (ok = false ∧ Fishref2TimesOf fu x p = some ([], false))
theorem pinv_ans {x : MendGraph} (h : GOk x) {p : List Int} (hp : PickOk x.Choices p) {E : List MendArc} (hE : E.Perm (x.Arcs ++ wayArcs x.Choices p)) {o : Option MendSolver} {ok : Bool} (hi : PInv x.Ready.length E x.Ready x.Last o ok) {fu : Nat} (hf : 1600000 ≤ fu) : Ans x fu p o ok := by
  rcases times_run h hp hf with ⟨t', f1, f2, f3⟩ | ⟨f1, f2⟩
  · rcases hi with ⟨rfl, s, rfl, hs⟩ | ⟨_, hno⟩
    · have := good_one hs.len f2 (hs.good.perm hE) f3
      exact .inl ⟨rfl, s, rfl, ⟨s, rfl, E, hE, hs⟩, by rw [f1, this], hs.len⟩
    · exact absurd ⟨_, f3.perm hE.symm⟩ hno
  · rcases hi with ⟨rfl, s, rfl, hs⟩ | ⟨rfl, hno⟩
    · exact absurd ⟨_, hs.good.perm hE⟩ f2
    · exact .inr ⟨rfl, f1⟩
theorem start_ans {x : MendGraph} (h : GOk x) {fu : Nat} (hf : 1600000 ≤ fu) : ∃ o ok, Mendstart fu x = some (o, ok) ∧ Ans x fu (List.replicate x.Choices.length 0) o ok := by
  obtain ⟨o, ok, e1, e2⟩ := start_run h hf
  obtain ⟨z1, z2⟩ := PickOk.zeros x.Choices
  exact ⟨o, ok, e1, pinv_ans h z1 (by rw [z2, List.append_nil]) e2 hf⟩
theorem step_run {x : MendGraph} (h : GOk x) {p : List Int} (hp : PickOk x.Choices p) {o : Option MendSolver} (hs : Std x p o) {k : Nat} {c : MendChoice} (hk : x.Choices[k]? = some c) (h0 : p[k]? = some 0) {j : Nat} {w : List MendArc} (hw : c.Ways[j]? = some w) {fu : Nat} (hf : 1600000 ≤ fu) :
    ∃ o' ok', MendSolverwith fu o w = some (o', ok') ∧ PickOk x.Choices (p.set k ((j + 1 : Nat) : Int)) ∧ Ans x fu (p.set k ((j + 1 : Nat) : Int)) o' ok' := by
  obtain ⟨s, rfl, E, hE, hi⟩ := hs
  have hj : j < c.Ways.length := by
    rcases Nat.lt_or_ge j c.Ways.length with e | e
    · exact e
    · rw [List.getElem?_eq_none e] at hw; cases hw
  have hcm : c ∈ x.Choices := List.mem_of_getElem? hk
  have hwm : w ∈ c.Ways := List.mem_of_getElem? hw
  have hwo : wayOf c ((j + 1 : Nat) : Int) = w := by
    unfold wayOf
    rw [if_pos (by omega), show (((j + 1 : Nat) : Int) - 1).toNat = j by omega, hw]; rfl
  obtain ⟨a1, a2⟩ := wayArcs_ok (n := x.Ready.length) x.Choices p (fun c hc => (h.ways c hc).2)
  obtain ⟨w1, w2⟩ := (h.ways c hcm).2 w hwm
  have ha := h.arcs
  have hc := h.chs
  have hlen := hE.length_eq
  rw [List.length_append] at hlen
  have hEo : ∀ a ∈ E, ArcOk x.Ready.length a := fun a hm => (List.mem_append.1 (hE.mem_iff.1 hm)).elim (h.arcOk a) (a2 a)
  obtain ⟨o', ok', e1, e2⟩ := with_p h.rd (.inl ⟨rfl, s, rfl, hi⟩) hEo w2 (by omega) hf
  have hp' : PickOk x.Choices (p.set k ((j + 1 : Nat) : Int)) := hp.set hk (by omega) (by omega)
  refine ⟨o', ok', e1, hp', pinv_ans h hp' ?_ e2 hf⟩
  have := wayArcs_set x.Choices p k c ((j + 1 : Nat) : Int) h0 hk
  rw [hwo] at this
  refine (hE.append_right w).trans ?_
  rw [List.append_assoc]
  exact this.symm.append_left _
theorem delay_of {x : MendGraph} (h : GOk x) {t : List Int} (ht : t.length = x.Ready.length) : ∃ d, Menddelay x t = some d ∧ Fishref2DelayOf x t = some d := by
  obtain ⟨e1, d, e2⟩ := delay_eq x t (by rw [h.due, ht])
  exact ⟨d, by rw [e1, e2], e2⟩
/-! forced picks -/
def Fz (x : MendGraph) (p : List Int) : Prop := ∃ L, Good x.Ready.length (x.Arcs ++ wayArcs x.Choices p) (tm x.Ready) x.Last L
def Sub : List Int → List Int → Prop
  | [], [] => True
  | a :: p, b :: q => (a = 0 ∨ a = b) ∧ Sub p q
  | _, _ => False
theorem Sub.refl : ∀ p, Sub p p
  | [] => trivial
  | a :: p => ⟨.inr rfl, Sub.refl p⟩
theorem Sub.len : ∀ {p q}, Sub p q → p.length = q.length
  | [], [], _ => rfl
  | [], b :: q, h => absurd h (by simp [Sub])
  | a :: p, [], h => absurd h (by simp [Sub])
  | a :: p, b :: q, h => by simp only [List.length_cons]; rw [Sub.len h.2]
theorem Sub.anti : ∀ {p q}, Sub p q → Sub q p → p = q
  | [], [], _, _ => rfl
  | [], b :: q, h, _ => absurd h (by simp [Sub])
  | a :: p, [], h, _ => absurd h (by simp [Sub])
  | a :: p, b :: q, h, k => by
    rw [Sub.anti h.2 k.2]
    have : a = b := by
      rcases h.1 with e | e
      · rcases k.1 with f | f
        · omega
        · omega
      · exact e
    rw [this]
theorem Sub.both : ∀ {p q : List Int} {k : Nat} {v : Int}, Sub p q → Sub (p.set k v) (q.set k v)
  | [], [], _, _, _ => by simp [Sub]
  | [], b :: q, _, _, h => absurd h (by simp [Sub])
  | a :: p, [], _, _, h => absurd h (by simp [Sub])
  | a :: p, b :: q, 0, v, h => ⟨.inr rfl, h.2⟩
  | a :: p, b :: q, k + 1, v, h => ⟨h.1, Sub.both h.2⟩
theorem Sub.left : ∀ {p q : List Int} {k : Nat} {v : Int}, Sub p q → q[k]? = some v → Sub (p.set k v) q
  | [], [], _, _, _, h => by simp at h
  | [], b :: q, _, _, h, _ => absurd h (by simp [Sub])
  | a :: p, [], _, _, h, _ => absurd h (by simp [Sub])
  | a :: p, b :: q, 0, v, h, e => by
    simp only [List.getElem?_cons_zero, Option.some.injEq] at e
    exact ⟨.inr e.symm, h.2⟩
  | a :: p, b :: q, k + 1, v, h, e => by
    simp only [List.getElem?_cons_succ] at e
    exact ⟨h.1, Sub.left h.2 e⟩
theorem Sub.right : ∀ {p q : List Int} {k : Nat} {v : Int}, Sub p q → q[k]? = some 0 → Sub p (q.set k v)
  | [], [], _, _, _, h => by simp at h
  | [], b :: q, _, _, h, _ => absurd h (by simp [Sub])
  | a :: p, [], _, _, h, _ => absurd h (by simp [Sub])
  | a :: p, b :: q, 0, v, h, e => by
    simp only [List.getElem?_cons_zero, Option.some.injEq] at e
    refine ⟨.inl ?_, h.2⟩
    rcases h.1 with f | f <;> omega
  | a :: p, b :: q, k + 1, v, h, e => by
    simp only [List.getElem?_cons_succ] at e
    exact ⟨h.1, Sub.right h.2 e⟩
theorem wayArcs_sub : ∀ (cs : List MendChoice) {p q : List Int}, Sub p q → ∀ a ∈ wayArcs cs p, a ∈ wayArcs cs q
  | [], p, q, _, a, ha => by simp [wayArcs] at ha
  | c :: cs, [], q, _, a, ha => by simp [wayArcs] at ha
  | c :: cs, u :: p, [], h, a, ha => absurd h (by simp [Sub])
  | c :: cs, u :: p, v :: q, h, a, ha => by
    rw [wayArcs] at ha ⊢
    rcases List.mem_append.1 ha with ha | ha
    · rcases h.1 with e | e
      · subst e; cases ha
      · subst e; exact List.mem_append_left _ ha
    · exact List.mem_append_right _ (wayArcs_sub cs h.2 a ha)
theorem Good.sub' {n : Nat} {E E' : List MendArc} {S L : Tm} {last : List Int} (h : Good n E' S last L) (hm : ∀ a ∈ E, a ∈ E') (hE : ∀ a ∈ E, ArcOk n a) : ∃ L', Good n E S last L' := by
  have hs : Sol n E S L := ⟨h.1.ge, fun a ha => h.1.feas a (hm a ha)⟩
  obtain ⟨L', h'⟩ := hs.least hE
  exact ⟨L', h', fun v hv => (h.2 v hv).imp id fun q => Int.le_trans (h'.le L hs v hv) q⟩
theorem Fz.sub {x : MendGraph} (h : GOk x) {p q : List Int} (hs : Sub p q) : Fz x q → Fz x p := by
  rintro ⟨L, hL⟩
  obtain ⟨w1, w2⟩ := wayArcs_ok (n := x.Ready.length) x.Choices p (fun c hc => (h.ways c hc).2)
  refine hL.sub' (fun a ha => ?_) (fun a ha => (List.mem_append.1 ha).elim (h.arcOk a) (w2 a))
  rcases List.mem_append.1 ha with ha | ha
  · exact List.mem_append_left _ ha
  · exact List.mem_append_right _ (wayArcs_sub _ hs a ha)
theorem PickOk.get : ∀ {cs : List MendChoice} {p : List Int} {k : Nat} {c : MendChoice} {v : Int}, PickOk cs p → cs[k]? = some c → p[k]? = some v → 0 ≤ v ∧ v ≤ c.Ways.length
  | [], p, k, c, v, _, h, _ => by simp at h
  | c :: cs, [], k, _, v, h, _, _ => absurd h (by simp [PickOk])
  | c :: cs, a :: p, 0, d, v, h, hk, hv => by
    simp only [List.getElem?_cons_zero, Option.some.injEq] at hk hv
    subst hk; subst hv
    exact h.1
  | c :: cs, a :: p, k + 1, d, v, h, hk, hv => by
    simp only [List.getElem?_cons_succ] at hk hv
    exact PickOk.get h.2 hk hv

def nx (p : List Int) (k i : Nat) : List Int := p.set k ((i + 1 : Nat) : Int)
def Forced1 (x : MendGraph) (p : List Int) (k j : Nat) : Prop := ∃ c, x.Choices[k]? = some c ∧ p[k]? = some 0 ∧ j < c.Ways.length ∧ Fz x (nx p k j) ∧ ∀ i, i < c.Ways.length → i ≠ j → ¬ Fz x (nx p k i)
inductive Reach (x : MendGraph) (p0 : List Int) : List Int → Prop
  | refl : Reach x p0 p0
  | step {p : List Int} {k j : Nat} : Reach x p0 p → Forced1 x p k j → Reach x p0 (nx p k j)
def Two (x : MendGraph) (F : List Int) (k : Nat) : Prop := ∀ c, x.Choices[k]? = some c → F[k]? = some 0 → ∃ i j, i < c.Ways.length ∧ j < c.Ways.length ∧ i ≠ j ∧ Fz x (nx F k i) ∧ Fz x (nx F k j)
structure Final (x : MendGraph) (F : List Int) : Prop where
  ok : PickOk x.Choices F
  two : ∀ k, Two x F k
def Failed (x : MendGraph) (p : List Int) : Prop := ∃ k c, x.Choices[k]? = some c ∧ p[k]? = some 0 ∧ ∀ i, i < c.Ways.length → ¬ Fz x (nx p k i)
theorem final_way {x : MendGraph} (h : GOk x) {F p : List Int} (hF : Final x F) (hz : Fz x F) (hs : Sub p F) {k : Nat} {c : MendChoice} (hc : x.Choices[k]? = some c) (h0 : p[k]? = some 0) :
    (∃ i, i < c.Ways.length ∧ Fz x (nx p k i) ∧ F[k]? = some ((i + 1 : Nat) : Int)) ∨ (∃ i j, i < c.Ways.length ∧ j < c.Ways.length ∧ i ≠ j ∧ Fz x (nx p k i) ∧ Fz x (nx p k j)) := by
  have hl := hs.len
  have hk : k < F.length := by
    rcases Nat.lt_or_ge k p.length with e | e
    · omega
    · rw [List.getElem?_eq_none e] at h0; cases h0
  have hv := List.getElem?_eq_getElem hk
  obtain ⟨v0, v1⟩ := hF.ok.get hc hv
  by_cases e : F[k] = 0
  · rw [e] at hv
    obtain ⟨i, j, i1, j1, ne, z1, z2⟩ := hF.two k c hc hv
    exact .inr ⟨i, j, i1, j1, ne, Fz.sub h hs.both z1, Fz.sub h hs.both z2⟩
  · have : F[k] = (((F[k].toNat - 1) + 1 : Nat) : Int) := by omega
    rw [this] at hv
    exact .inl ⟨F[k].toNat - 1, by omega, Fz.sub h (hs.left hv) hz, hv⟩
theorem reach_sub {x : MendGraph} (h : GOk x) {F p0 p : List Int} (hF : Final x F) (hz : Fz x F) (hs : Sub p0 F) (hr : Reach x p0 p) : Sub p F := by
  induction hr with
  | refl => exact hs
  | step _ hf ih =>
    obtain ⟨c, hc, h0, hj, z, no⟩ := hf
    rcases final_way h hF hz ih hc h0 with ⟨i, hi, zi, hv⟩ | ⟨i, j, i1, j1, ne, z1, z2⟩
    · rename_i p k j _
      by_cases e : i = j
      · subst e; exact ih.left hv
      · exact absurd zi (no i hi e)
    · rename_i p k j' _
      by_cases e : i = j'
      · exact absurd z2 (no j j1 (fun q => ne (by rw [e, q])))
      · exact absurd z1 (no i i1 e)
theorem not_failed {x : MendGraph} (h : GOk x) {F p : List Int} (hF : Final x F) (hz : Fz x F) (hs : Sub p F) : ¬ Failed x p := by
  rintro ⟨k, c, hc, h0, no⟩
  rcases final_way h hF hz hs hc h0 with ⟨i, hi, zi, _⟩ | ⟨i, j, i1, j1, ne, z1, z2⟩
  · exact no i hi zi
  · exact no i i1 z1
theorem sub_reach {x : MendGraph} {p0 p : List Int} (hr : Reach x p0 p) : Sub p0 p := by
  induction hr with
  | refl => exact Sub.refl _
  | step _ hf ih => obtain ⟨c, hc, h0, _⟩ := hf; exact ih.right h0
theorem final_one {x : MendGraph} (h : GOk x) {p0 F G : List Int} (h1 : Reach x p0 F) (h2 : Reach x p0 G) (f : Final x F) (g : Final x G) (zf : Fz x F) (zg : Fz x G) : F = G :=
  Sub.anti (reach_sub h g zg (sub_reach h2) h1) (reach_sub h f zf (sub_reach h1) h2)
theorem final_failed {x : MendGraph} (h : GOk x) {p0 F p : List Int} (h1 : Reach x p0 F) (h2 : Reach x p0 p) (f : Final x F) (zf : Fz x F) : ¬ Failed x p :=
  not_failed h f zf (reach_sub h f zf (sub_reach h1) h2)
def zc : List Int → Nat
  | [] => 0
  | a :: p => (if a = 0 then 1 else 0) + zc p
theorem zc_set : ∀ (p : List Int) (k : Nat) (v : Int), p[k]? = some 0 → v ≠ 0 → zc (p.set k v) + 1 = zc p
  | [], k, v, h, _ => by simp at h
  | a :: p, 0, v, h, hv => by
    simp only [List.getElem?_cons_zero, Option.some.injEq] at h
    simp only [List.set_cons_zero, zc, if_neg hv, if_pos h]; omega
  | a :: p, k + 1, v, h, hv => by
    simp only [List.getElem?_cons_succ] at h
    have := zc_set p k v h hv
    simp only [List.set_cons_succ, zc]; omega
theorem zc_le : ∀ p : List Int, zc p ≤ p.length
  | [] => Nat.le_refl _
  | a :: p => by have := zc_le p; simp only [zc, List.length_cons]; split <;> omega
/-- how many of the first are so -/
def Cnt3 (G : Nat → Prop) (j c : Nat) (idx : Int) : Prop :=
  (c = 0 ∧ ∀ i, i < j → ¬ G i) ∨ (c = 1 ∧ ∃ i, i < j ∧ idx = ((i + 1 : Nat) : Int) ∧ G i ∧ ∀ i', i' < j → i' ≠ i → ¬ G i') ∨ (2 ≤ c ∧ ∃ i i', i < j ∧ i' < j ∧ i ≠ i' ∧ G i ∧ G i')
theorem Cnt3.yes {G : Nat → Prop} {j c : Nat} {idx : Int} (h : Cnt3 G j c idx) (g : G j) : Cnt3 G (j + 1) (c + 1) ((j + 1 : Nat) : Int) := by
  rcases h with ⟨rfl, no⟩ | ⟨rfl, i, hi, _, gi, _⟩ | ⟨hc, i, i', h1, h2, ne, g1, g2⟩
  · refine .inr (.inl ⟨rfl, j, by omega, rfl, g, fun i' h1 h2 => no i' (by omega)⟩)
  · exact .inr (.inr ⟨by omega, i, j, by omega, by omega, by omega, gi, g⟩)
  · exact .inr (.inr ⟨by omega, i, i', by omega, by omega, ne, g1, g2⟩)
theorem Cnt3.no {G : Nat → Prop} {j c : Nat} {idx : Int} (h : Cnt3 G j c idx) (g : ¬ G j) : Cnt3 G (j + 1) c idx := by
  have cs : ∀ i, i < j + 1 → i < j ∨ i = j := fun i hi => by omega
  rcases h with ⟨rfl, no⟩ | ⟨rfl, i, hi, e, gi, no⟩ | ⟨hc, i, i', h1, h2, ne, g1, g2⟩
  · exact .inl ⟨rfl, fun i hi => (cs i hi).elim (no i) (fun e => e ▸ g)⟩
  · exact .inr (.inl ⟨rfl, i, by omega, e, gi, fun i' hi' ne => (cs i' hi').elim (fun q => no i' q ne) (fun e => e ▸ g)⟩)
  · exact .inr (.inr ⟨hc, i, i', by omega, by omega, ne, g1, g2⟩)
theorem fz_times {x : MendGraph} (h : GOk x) {p : List Int} (hp : PickOk x.Choices p) {fu : Nat} (hf : 1600000 ≤ fu) :
    (∃ t, Fishref2TimesOf fu x p = some (t, true) ∧ t.length = x.Ready.length ∧ Fz x p) ∨ (Fishref2TimesOf fu x p = some ([], false) ∧ ¬ Fz x p) := by
  rcases times_run h hp hf with ⟨t', f1, f2, f3⟩ | ⟨f1, f2⟩
  · exact .inl ⟨t', f1, f2, _, f3⟩
  · exact .inr ⟨f1, f2⟩
theorem Std.fz {x : MendGraph} {p : List Int} {o : Option MendSolver} (h : Std x p o) : Fz x p := by
  obtain ⟨s, _, E, hE, hi⟩ := h
  exact ⟨_, hi.good.perm hE⟩
section
variable {x : MendGraph} {fu : Nat}
theorem forced_loop3 (h : GOk x) (hf : 1600000 ≤ fu) {p : List Int} (hp : PickOk x.Choices p) {o : Option MendSolver} (hs : Std x p o) {k : Nat} {c : MendChoice} (hk : x.Choices[k]? = some c) (h0 : p[k]? = some 0) :
    ∀ (ws : List (List MendArc)) (j : Nat) (idx : Int) (cnt : Nat) (s : Option MendSolver), c.Ways.drop j = ws → j ≤ c.Ways.length → cnt ≤ j → Cnt3 (fun i => Fz x (nx p k i)) j cnt idx → (cnt = 0 ∨ ∃ i : Nat, idx = ((i + 1 : Nat) : Int) ∧ Std x (nx p k i) s) →
    ∃ idx' cnt' s', Mendforced.loop3 fu o ws j idx ((cnt : Nat) : Int) s = some (idx', ((cnt' : Nat) : Int), s') ∧ Cnt3 (fun i => Fz x (nx p k i)) c.Ways.length cnt' idx' ∧ (cnt' = 0 ∨ ∃ i : Nat, idx' = ((i + 1 : Nat) : Int) ∧ Std x (nx p k i) s') := by
  intro ws
  have hc3 := (h.ways c (List.mem_of_getElem? hk)).1
  induction ws with
  | nil =>
    intro j idx cnt s hd hjl hcj hc hso
    have hj : c.Ways.length ≤ j := by
      rcases Nat.lt_or_ge j c.Ways.length with e | e
      · rw [List.drop_eq_getElem_cons e] at hd; cases hd
      · exact e
    have e : j = c.Ways.length := by omega
    rw [e] at hc
    exact ⟨idx, cnt, s, rfl, hc, hso⟩
  | cons w ws ih =>
    intro j idx cnt s hd hjl hcj hc hso
    have hj : j < c.Ways.length := by
      rcases Nat.lt_or_ge j c.Ways.length with e | e
      · exact e
      · rw [List.drop_eq_nil_of_le e] at hd; cases hd
    rw [List.drop_eq_getElem_cons hj] at hd
    injection hd with hd1 hd2
    have hw : c.Ways[j]? = some w := by rw [List.getElem?_eq_getElem hj, hd1]
    obtain ⟨o', ok', e1, e2, e3⟩ := step_run h hp hs hk h0 hw hf
    rw [Mendforced.loop3, e1]
    simp only [Option.bind_some]
    rcases e3 with ⟨rfl, s1, rfl, hst, ht, hlen⟩ | ⟨rfl, ht⟩
    · simp only [if_true, bnd]
      rw [w64_id (by omega)]
      exact ih (j + 1) _ (cnt + 1) (some s1) hd2 (by omega) (by omega) (hc.yes hst.fz) (.inr ⟨j, rfl, hst⟩)
    · simp only [Bool.false_eq_true, if_false, bnd]
      refine ih (j + 1) idx cnt s hd2 (by omega) (by omega) (hc.no ?_) hso
      rcases fz_times h e2 hf with ⟨t, q, _⟩ | ⟨_, q⟩
      · rw [ht] at q; injection q with q; injection q with _ q; cases q
      · exact q
theorem dropC {α : Type} {l : List α} {k : Nat} {c : α} {cs : List α} (h : l.drop k = c :: cs) : k < l.length ∧ l[k]? = some c ∧ l.drop (k + 1) = cs := by
  have hk : k < l.length := by
    rcases Nat.lt_or_ge k l.length with e | e
    · exact e
    · rw [List.drop_eq_nil_of_le e] at h; cases h
  rw [List.drop_eq_getElem_cons hk] at h
  injection h with h1 h2
  exact ⟨hk, by rw [List.getElem?_eq_getElem hk, h1], h2⟩
theorem dropN {α : Type} {l : List α} {k : Nat} (h : l.drop k = []) : l.length ≤ k := by
  rcases Nat.lt_or_ge k l.length with e | e
  · rw [List.drop_eq_getElem_cons e] at h; cases h
  · exact e
theorem forced_loop2 (h : GOk x) (hf : 1600000 ≤ fu) {p0 p1 : List Int} : ∀ (cs : List MendChoice) (k : Nat) (o : Option MendSolver) (ch : Bool) (p : List Int), x.Choices.drop k = cs → k ≤ x.Choices.length → PickOk x.Choices p → Std x p o → Reach x p0 p → (ch = false → p = p1 ∧ ∀ i, i < k → Two x p1 i) → (ch = true → zc p < zc p1) → zc p ≤ zc p1 →
    (Mendforced.loop2 fu cs k o ch p = some (.ret ([], none, false)) ∧ ∃ q, Reach x p0 q ∧ Failed x q) ∨
    (∃ o' ch' p', Mendforced.loop2 fu cs k o ch p = some (.next (o', ch', p')) ∧ PickOk x.Choices p' ∧ Std x p' o' ∧ Reach x p0 p' ∧ (ch' = false → p' = p1 ∧ ∀ i, Two x p1 i) ∧ (ch' = true → zc p' < zc p1)) := by
  intro cs
  induction cs with
  | nil =>
    intro k o ch p hd hkl hp hs hr hch hz _
    refine .inr ⟨o, ch, p, rfl, hp, hs, hr, fun e => ⟨(hch e).1, fun i => ?_⟩, hz⟩
    have := dropN hd
    by_cases c : i < k
    · exact (hch e).2 i c
    · intro c hc
      rw [List.getElem?_eq_none (by omega)] at hc
      cases hc
  | cons c cs ih =>
    intro k o ch p hd hkl hp hs hr hch hz hzl
    obtain ⟨hk, hck, hd2⟩ := dropC hd
    have hlen := hp.len
    have hkp : k < p.length := by omega
    have hv := List.getElem?_eq_getElem hkp
    obtain ⟨v0, v1⟩ := hp.get hck hv
    rw [Mendforced.loop2, gx_at hkp]
    simp only [Option.bind_some]
    by_cases cv : p[k] > 0
    · simp only [cv, decide_true, if_true]
      refine ih (k + 1) o ch p hd2 (by omega) hp hs hr (fun e => ⟨(hch e).1, fun i hi => ?_⟩) hz hzl
      by_cases e2 : i = k
      · subst e2
        intro c' _ h0
        rw [← (hch e).1, hv] at h0
        injection h0 with h0
        omega
      · exact (hch e).2 i (by omega)
    · have hv0 : p[k] = 0 := by omega
      rw [hv0] at hv
      simp only [cv, decide_false, Bool.false_eq_true, if_false]
      obtain ⟨idx, cnt, s', e1, e2, e3⟩ := forced_loop3 h hf hp hs hck hv c.Ways 0 0 0 none rfl (by omega) (by omega) (.inl ⟨rfl, fun i hi => absurd hi (Nat.not_lt_zero _)⟩) (.inl rfl)
      have e1' : Mendforced.loop3 fu o c.Ways 0 0 0 none = some (idx, ((cnt : Nat) : Int), s') := e1
      rw [e1']
      simp only [Option.bind_some]
      rcases e2 with ⟨rfl, no⟩ | ⟨rfl, i, hi, rfl, gi, no⟩ | ⟨hcnt, i, i', h1, h2, ne, g1, g2⟩
      · exact .inl ⟨rfl, p, hr, k, c, hck, hv, no⟩
      · have q0 : (((1 : Nat) : Int) == 0) = false := rfl
        have q1 : (((1 : Nat) : Int) == 1) = true := rfl
        simp only [q0, q1, Bool.false_eq_true, if_false, if_true]
        rw [ix_in (by omega) (by omega), sx_in (by omega) (by omega)]
        simp only [Option.bind_some, Int.toNat_natCast]
        have hst : Std x (nx p k i) s' := by
          rcases e3 with e3 | ⟨i2, e4, e5⟩
          · cases e3
          · have : i2 = i := by omega
            subst this; exact e5
        have hzs := zc_set p k ((i + 1 : Nat) : Int) hv (by omega)
        exact ih (k + 1) s' true (nx p k i) hd2 (by omega) (hp.set hck (by omega) (by omega)) hst (hr.step ⟨c, hck, hv, hi, gi, no⟩) (fun e => by cases e) (fun _ => by unfold nx; omega) (by unfold nx; omega)
      · have q0 : (((cnt : Nat) : Int) == 0) = false := by simp; omega
        have q1 : (((cnt : Nat) : Int) == 1) = false := by simp; omega
        simp only [q0, q1, Bool.false_eq_true, if_false, Option.bind_some]
        refine ih (k + 1) o ch p hd2 (by omega) hp hs hr (fun e => ⟨(hch e).1, fun u hu => ?_⟩) hz hzl
        by_cases e2 : u = k
        · subst e2
          intro c' hc' _
          rw [hck] at hc'
          injection hc' with hc'
          subst hc'
          rw [← (hch e).1]
          exact ⟨i, i', h1, h2, ne, g1, g2⟩
        · exact (hch e).2 u (by omega)
theorem forced_loop1 (h : GOk x) (hf : 1600000 ≤ fu) {p0 : List Int} : ∀ (m : Nat) (o : Option MendSolver) (p : List Int), PickOk x.Choices p → Std x p o → Reach x p0 p → zc p + 2 ≤ m →
    (Mendforced.loop1 x fu m o true p = some (.ret ([], none, false)) ∧ ∃ q, Reach x p0 q ∧ Failed x q) ∨
    (∃ o' F, Mendforced.loop1 x fu m o true p = some (.next (o', false, F)) ∧ Std x F o' ∧ Reach x p0 F ∧ Final x F) := by
  intro m
  induction m with
  | zero => intro o p _ _ _ h; omega
  | succ m ih =>
    intro o p hp hs hr hm
    rw [Mendforced.loop1]
    simp only [if_true]
    rcases forced_loop2 h hf (p1 := p) x.Choices 0 o false p rfl (by omega) hp hs hr (fun _ => ⟨rfl, fun i hi => absurd hi (Nat.not_lt_zero _)⟩) (fun e => by cases e) (Nat.le_refl _) with ⟨e, q⟩ | ⟨o', ch', p', e, g1, g2, g3, g4, g5⟩
    · rw [e]; exact .inl ⟨rfl, q⟩
    · rw [e]
      simp only [Option.bind_some]
      cases ch' with
      | true => exact ih o' p' g1 g2 g3 (by have := g5 rfl; omega)
      | false =>
        obtain ⟨rfl, two⟩ := g4 rfl
        refine .inr ⟨o', p', ?_, g2, g3, g1, two⟩
        obtain ⟨m, rfl⟩ : ∃ k, m = k + 1 := ⟨m - 1, by omega⟩
        rfl
theorem Cnt3.any {G : Nat → Prop} {j c : Nat} {a b : Int} (h : Cnt3 G j c a) (hc : 2 ≤ c) : Cnt3 G j c b := by
  rcases h with ⟨rfl, _⟩ | ⟨rfl, _⟩ | h
  · omega
  · omega
  · exact .inr (.inr h)
theorem set_same {p : List Int} {k : Nat} {v : Int} (h : p[k]? = some v) : p.set k v = p := by
  refine List.ext_getElem? fun i => ?_
  by_cases e : i = k
  · subst e
    have : i < p.length := by
      rcases Nat.lt_or_ge i p.length with e | e
      · exact e
      · rw [List.getElem?_eq_none e] at h; cases h
    rw [List.getElem?_set_self this, h]
  · rw [List.getElem?_set_ne (fun q => e q.symm)]
theorem refforced_loop3 (h : GOk x) (hf : 1600000 ≤ fu) {p : List Int} (hp : PickOk x.Choices p) {k : Nat} {c : MendChoice} (hk : x.Choices[k]? = some c) (h0 : p[k]? = some 0) :
    ∀ (ws : List (List MendArc)) (j : Nat) (l : List Int) (u : Int), c.Ways.drop j = ws → j ≤ c.Ways.length → l.length ≤ j → Cnt3 (fun i => Fz x (nx p k i)) j l.length (l.headD 0) →
    ∃ l' u', Fishref2ForcedOf.loop3 x fu k ws j l (p.set k u) = some (l', p.set k u') ∧ Cnt3 (fun i => Fz x (nx p k i)) c.Ways.length l'.length (l'.headD 0) := by
  have hkl : k < p.length := by
    rcases Nat.lt_or_ge k p.length with e | e
    · exact e
    · rw [List.getElem?_eq_none e] at h0; cases h0
  have hc3 := (h.ways c (List.mem_of_getElem? hk)).1
  intro ws
  induction ws with
  | nil =>
    intro j l u hd hjl hl hc
    have e : j = c.Ways.length := by have := dropN hd; omega
    rw [e] at hc
    exact ⟨l, u, rfl, hc⟩
  | cons w ws ih =>
    intro j l u hd hjl hl hc
    obtain ⟨hj, hw, hd2⟩ := dropC hd
    rw [Fishref2ForcedOf.loop3, ix_in (by omega) (by simp; omega), sx_in (by omega) (by simp; omega)]
    simp only [Option.bind_some, Int.toNat_natCast, List.set_set]
    have hp' : PickOk x.Choices (nx p k j) := hp.set hk (by omega) (by omega)
    have hn : p.set k ((j + 1 : Nat) : Int) = nx p k j := rfl
    rw [hn]
    rcases fz_times h hp' hf with ⟨t, e1, _, e2⟩ | ⟨e1, e2⟩
    · rw [e1]
      simp only [Option.bind_some, if_true]
      rw [apd_lt (by simp; omega)]
      simp only [Option.bind_some]
      refine ih (j + 1) (l ++ [((j + 1 : Nat) : Int)]) _ hd2 (by omega) (by simp; omega) ?_
      have := hc.yes e2
      rw [List.length_append, List.length_singleton]
      cases l with
      | nil => exact this
      | cons a l => exact this.any (by simp)
    · rw [e1]
      simp only [Option.bind_some, Bool.false_eq_true, if_false]
      exact ih (j + 1) l _ hd2 (by omega) (by omega) (hc.no e2)
theorem refforced_loop2 (h : GOk x) (hf : 1600000 ≤ fu) {p0 p : List Int} (hp : PickOk x.Choices p) (hr : Reach x p0 p) : ∀ (cs : List MendChoice) (k : Nat), x.Choices.drop k = cs → k ≤ x.Choices.length → (∀ i, i < k → Two x p i) →
    (Fishref2ForcedOf.loop2 x fu cs k false p = some (.ret ([], false)) ∧ ∃ q, Reach x p0 q ∧ Failed x q) ∨
    (∃ p', Fishref2ForcedOf.loop2 x fu cs k false p = some (.next (true, p')) ∧ PickOk x.Choices p' ∧ Reach x p0 p' ∧ zc p' < zc p) ∨
    (Fishref2ForcedOf.loop2 x fu cs k false p = some (.next (false, p)) ∧ ∀ i, Two x p i) := by
  intro cs
  induction cs with
  | nil =>
    intro k hd hkl ht
    refine .inr (.inr ⟨rfl, fun i => ?_⟩)
    have := dropN hd
    by_cases c : i < k
    · exact ht i c
    · intro c hc
      rw [List.getElem?_eq_none (by omega)] at hc
      cases hc
  | cons c cs ih =>
    intro k hd hkl ht
    obtain ⟨hk, hck, hd2⟩ := dropC hd
    have hlen := hp.len
    have hkp : k < p.length := by omega
    have hv := List.getElem?_eq_getElem hkp
    obtain ⟨v0, v1⟩ := hp.get hck hv
    rw [Fishref2ForcedOf.loop2, gx_at hkp]
    simp only [Option.bind_some]
    by_cases cv : p[k] > 0
    · simp only [cv, decide_true, if_true]
      refine ih (k + 1) hd2 (by omega) (fun i hi => ?_)
      by_cases e2 : i = k
      · subst e2
        intro c' _ h0
        rw [hv] at h0
        injection h0 with h0
        omega
      · exact ht i (by omega)
    · have hv0 : p[k] = 0 := by omega
      rw [hv0] at hv
      simp only [cv, decide_false, Bool.false_eq_true, if_false]
      obtain ⟨l, u, e1, e2⟩ := refforced_loop3 h hf hp hck hv c.Ways 0 [] 0 rfl (by omega) (by simp) (.inl ⟨rfl, fun i hi => absurd hi (Nat.not_lt_zero _)⟩)
      rw [set_same hv] at e1
      rw [e1]
      simp only [Option.bind_some]
      rw [ix_in (by omega) (by simp; omega), sx_in (by omega) (by simp; omega)]
      simp only [Option.bind_some, Int.toNat_natCast, List.set_set, set_same hv]
      rcases e2 with ⟨hcnt, no⟩ | ⟨hcnt, i, hi, hidx, gi, no⟩ | ⟨hcnt, i, i', h1, h2, ne, g1, g2⟩
      · rw [hcnt]
        exact .inl ⟨rfl, p, hr, k, c, hck, hv, no⟩
      · have q0 : (((l.length : Nat) : Int) == 0) = false := beq_eq_false_iff_ne.2 (by omega)
        have q1 : (((l.length : Nat) : Int) == 1) = true := by simp; omega
        simp only [q0, q1, Bool.false_eq_true, if_false, if_true]
        obtain ⟨a, rfl⟩ : ∃ a, l = [a] := List.length_eq_one_iff.1 hcnt
        have ha : a = ((i + 1 : Nat) : Int) := hidx
        subst ha
        rw [gx_zero]
        simp only [List.getElem?_cons_zero, Option.bind_some]
        rw [ix_in (by omega) (by omega), sx_in (by omega) (by omega)]
        simp only [Option.bind_some, Int.toNat_natCast]
        have hzs := zc_set p k ((i + 1 : Nat) : Int) hv (by omega)
        exact .inr (.inl ⟨nx p k i, rfl, hp.set hck (by omega) (by omega), hr.step ⟨c, hck, hv, hi, gi, no⟩, by unfold nx; omega⟩)
      · have q0 : (((l.length : Nat) : Int) == 0) = false := beq_eq_false_iff_ne.2 (by omega)
        have q1 : (((l.length : Nat) : Int) == 1) = false := beq_eq_false_iff_ne.2 (by omega)
        simp only [q0, q1, Bool.false_eq_true, if_false]
        refine ih (k + 1) hd2 (by omega) (fun u hu => ?_)
        by_cases e2 : u = k
        · subst e2
          intro c' hc' _
          rw [hck] at hc'
          injection hc' with hc'
          subst hc'
          exact ⟨i, i', h1, h2, ne, g1, g2⟩
        · exact ht u (by omega)
theorem refforced_loop1 (h : GOk x) (hf : 1600000 ≤ fu) {p0 : List Int} : ∀ (m : Nat) (p : List Int), PickOk x.Choices p → Reach x p0 p → zc p + 2 ≤ m →
    (Fishref2ForcedOf.loop1 x fu m true p = some (.ret ([], false)) ∧ ∃ q, Reach x p0 q ∧ Failed x q) ∨
    (∃ F, Fishref2ForcedOf.loop1 x fu m true p = some (.next (false, F)) ∧ Reach x p0 F ∧ Final x F) := by
  intro m
  induction m with
  | zero => intro p _ _ h; omega
  | succ m ih =>
    intro p hp hr hm
    rw [Fishref2ForcedOf.loop1]
    simp only [if_true]
    rcases refforced_loop2 h hf hp hr x.Choices 0 rfl (by omega) (fun i hi => absurd hi (Nat.not_lt_zero _)) with ⟨e, q⟩ | ⟨p', e, g1, g3, g5⟩ | ⟨e, two⟩
    · rw [e]; exact .inl ⟨rfl, q⟩
    · rw [e]
      simp only [Option.bind_some]
      exact ih p' g1 g3 (by omega)
    · rw [e]
      simp only [Option.bind_some]
      refine .inr ⟨p, ?_, hr, hp, two⟩
      obtain ⟨m, rfl⟩ : ∃ k, m = k + 1 := ⟨m - 1, by omega⟩
      rfl
theorem fz_reach {p0 p : List Int} (hr : Reach x p0 p) (hz : Fz x p0) : Fz x p := by
  cases hr with
  | refl => exact hz
  | step _ hf => obtain ⟨c, _, _, _, z, _⟩ := hf; exact z
/-- both find the same forced picks -/
theorem forced_run (h : GOk x) (hf : 1600000 ≤ fu) {p : List Int} (hp : PickOk x.Choices p) :
    (∃ o F, Mendforced fu x p = some (F, o, true) ∧ Fishref2ForcedOf fu x p = some (F, true) ∧ PickOk x.Choices F ∧ Std x F o ∧ Sub p F ∧ Final x F) ∨ (Mendforced fu x p = some ([], none, false) ∧ Fishref2ForcedOf fu x p = some ([], false) ∧ ∀ F, Sub p F → Final x F → ¬ Fz x F) := by
  obtain ⟨o, ok, e1, e2⟩ := picked_run h hp hf
  have hl := hp.len
  have hc := h.chs
  have hz := zc_le p
  unfold Mendforced Fishref2ForcedOf
  rw [e1, clone_int _ (by omega)]
  simp only [Option.bind_some]
  rcases pinv_ans h hp (List.Perm.refl _) e2 hf with ⟨rfl, s, rfl, hst, ht, _⟩ | ⟨rfl, ht⟩
  · rw [ht]
    simp only [Bool.not_true, Bool.false_eq_true, if_false, Option.bind_some]
    rcases forced_loop1 h hf (p0 := p) fu (some s) p hp hst .refl (by omega) with ⟨f1, q, q1, q2⟩ | ⟨o', F, f1, f2, f3, f4⟩
    · rcases refforced_loop1 h hf (p0 := p) fu p hp .refl (by omega) with ⟨g1, _⟩ | ⟨F, g1, g2, g3⟩
      · rw [f1, g1]
        exact .inr ⟨rfl, rfl, fun F hs hF hz => not_failed h hF hz (reach_sub h hF hz hs q1) q2⟩
      · exact absurd q2 (final_failed h g2 q1 g3 (fz_reach g2 hst.fz))
    · rcases refforced_loop1 h hf (p0 := p) fu p hp .refl (by omega) with ⟨g1, q, q1, q2⟩ | ⟨G, g1, g2, g3⟩
      · exact absurd q2 (final_failed h f3 q1 f4 f2.fz)
      · rw [f1, g1]
        have := final_one h f3 g2 f4 g3 f2.fz (fz_reach g2 hst.fz)
        subst this
        exact .inl ⟨o', F, rfl, rfl, f4.ok, f2, sub_reach f3, f4⟩
  · rw [ht]
    refine .inr ⟨rfl, rfl, fun F hs hF hz => ?_⟩
    have := Fz.sub h hs hz
    rcases fz_times h hp hf with ⟨t, q, _⟩ | ⟨_, q⟩
    · rw [ht] at q; injection q with q; injection q with _ q; cases q
    · exact q this
end
/-! the best pick -/
def dsum : List Int → List Int → Int
  | d :: ds, a :: l => (if d ≥ 0 then mx 0 (a - d) else 0) + dsum ds l
  | _, _ => 0
theorem mx0 (a : Int) : 0 ≤ mx 0 a ∧ a ≤ mx 0 a ∧ (mx 0 a = 0 ∨ mx 0 a = a) := by unfold mx; split <;> omega
theorem tm_succ (a : Int) (l : List Int) (v : Nat) : tm (a :: l) (v + 1) = tm l v := by simp [tm]
theorem tm_zero (a : Int) (l : List Int) : tm (a :: l) 0 = a := by simp [tm]
theorem dsum_bd : ∀ (ds l : List Int), (∀ v, v < l.length → 0 ≤ tm l v ∧ tm l v ≤ 720000) → 0 ≤ dsum ds l ∧ dsum ds l ≤ 720000 * l.length
  | [], l, _ => by simp only [dsum]; omega
  | d :: ds, [], _ => by simp [dsum]
  | d :: ds, a :: l, h => by
    obtain ⟨i1, i2⟩ := dsum_bd ds l (fun v hv => by have := h (v + 1) (by simp; omega); rwa [tm_succ] at this)
    have h0 := h 0 (by simp)
    rw [tm_zero] at h0
    obtain ⟨m1, m2, m3⟩ := mx0 (a - d)
    simp only [dsum, List.length_cons, Int.natCast_add, Int.natCast_one]
    split <;> omega
theorem dsum_mono : ∀ (ds l m : List Int), l.length = m.length → (∀ v, v < l.length → tm l v ≤ tm m v) → dsum ds l ≤ dsum ds m
  | [], l, m, _, _ => by simp [dsum]
  | d :: ds, [], m, h, _ => by
    cases m with
    | nil => exact Int.le_refl _
    | cons b m => cases h
  | d :: ds, a :: l, [], h, _ => by cases h
  | d :: ds, a :: l, b :: m, hl, h => by
    have ih := dsum_mono ds l m (by simpa using hl) (fun v hv => by have := h (v + 1) (by simp; omega); rwa [tm_succ, tm_succ] at this)
    have h0 := h 0 (by simp)
    rw [tm_zero, tm_zero] at h0
    obtain ⟨m1, m2, m3⟩ := mx0 (a - d)
    obtain ⟨k1, k2, k3⟩ := mx0 (b - d)
    simp only [dsum]
    split <;> omega
theorem delay_loop_sum (x : MendGraph) : ∀ (l : List Int) (k : Nat) (m : List Int) (q : Int), x.Due.drop k = m → m.length = l.length → (∀ v, v < m.length → -1 ≤ tm m v ∧ tm m v ≤ 28800) → (∀ v, v < l.length → 0 ≤ tm l v ∧ tm l v ≤ 720000) → 0 ≤ q → q + 720000 * l.length ≤ 1000000000 →
    Fishref2DelayOf.loop1 x l k q = some (q + dsum m l)
  | [], k, m, q, hm, he, _, _, _, _ => by
    cases m with
    | nil => simp [Fishref2DelayOf.loop1, dsum]
    | cons a m => cases he
  | a :: l, k, [], q, hm, he, _, _, _, _ => by cases he
  | a :: l, k, d :: m, q, hm, he, hd, hl, q0, q1 => by
    have hk : k < x.Due.length := by
      rcases Nat.lt_or_ge k x.Due.length with e | e
      · exact e
      · rw [List.drop_eq_nil_of_le e] at hm; cases hm
    rw [List.drop_eq_getElem_cons hk] at hm
    injection hm with h3 h4
    have a0 := hl 0 (by simp)
    have d0 := hd 0 (by simp)
    rw [tm_zero] at a0 d0
    obtain ⟨m1, m2, m3⟩ := mx0 (a - d)
    simp only [List.length_cons, Int.natCast_add, Int.natCast_one] at q1
    have ih := fun q => delay_loop_sum x l (k + 1) m q h4 (by simpa using he) (fun v hv => by have := hd (v + 1) (by simp; omega); rwa [tm_succ] at this) (fun v hv => by have := hl (v + 1) (by simp; omega); rwa [tm_succ] at this)
    rw [Fishref2DelayOf.loop1, gx_at hk, h3]
    simp only [dsum, Option.bind_some]
    by_cases c0 : d ≥ 0
    · simp only [c0, decide_true, if_true, Option.bind_some]
      rw [w64_id (x := a - d) (by omega), w64_id (x := q + mx 0 (a - d)) (by omega), ih _ (by omega) (by omega)]
      congr 1
      omega
    · simp only [c0, decide_false, Bool.false_eq_true, if_false, Option.bind_some]
      rw [ih _ (by omega) (by omega)]
      congr 1
      omega
theorem delay_sum {x : MendGraph} (h : GOk x) {t : List Int} (ht : t.length = x.Ready.length) (hs : ∀ v, v < x.Ready.length → 0 ≤ tm t v ∧ tm t v ≤ 720000) : Menddelay x t = some (dsum x.Due t) ∧ Fishref2DelayOf x t = some (dsum x.Due t) ∧ 0 ≤ dsum x.Due t := by
  have n24 := h.n24
  have hd := h.due
  have key := delay_loop_sum x t 0 x.Due 0 rfl (by omega) h.dues (by rw [ht]; exact hs) (by omega) (by omega)
  have k2 : Fishref2DelayOf x t = some (dsum x.Due t) := by
    unfold Fishref2DelayOf
    rw [key, Option.bind_some, Int.zero_add]
  have := (delay_eq x t (by omega)).1
  exact ⟨by rw [this, k2], k2, (dsum_bd x.Due t (by rw [ht]; exact hs)).1⟩

/-- the open choices -/
def opn (F : List Int) : Nat → Nat → List Int
  | 0, _ => []
  | r + 1, k => (if tm F k = 0 then [((k : Nat) : Int)] else []) ++ opn F r (k + 1)
theorem opn_len (F : List Int) : ∀ r k, (opn F r k).length ≤ r
  | 0, _ => Nat.le_refl _
  | r + 1, k => by
    have := opn_len F r (k + 1)
    rw [opn, List.length_append]
    split <;> simp <;> omega
theorem opn_mem (F : List Int) : ∀ r k, ∀ i ∈ opn F r k, ∃ j : Nat, i = (j : Int) ∧ k ≤ j ∧ j < k + r ∧ tm F j = 0
  | 0, k, i, h => by cases h
  | r + 1, k, i, h => by
    rw [opn] at h
    rcases List.mem_append.1 h with h | h
    · split at h
      · rw [List.mem_singleton] at h
        exact ⟨k, h, Nat.le_refl _, by omega, by assumption⟩
      · cases h
    · obtain ⟨j, e, j1, j2, j3⟩ := opn_mem F r (k + 1) i h
      exact ⟨j, e, by omega, by omega, j3⟩
theorem opn_nodup (F : List Int) : ∀ r k, (opn F r k).Nodup
  | 0, _ => List.nodup_nil
  | r + 1, k => by
    have ih := opn_nodup F r (k + 1)
    rw [opn]
    split
    · rw [List.singleton_append, List.nodup_cons]
      refine ⟨fun h => ?_, ih⟩
      obtain ⟨j, e, j1, _⟩ := opn_mem F r (k + 1) _ h
      omega
    · exact ih
theorem open_m (q : (List Int) × (Option MendSolver) × Bool) : ∀ (r k : Nat) (l : List Int), r + k = q.1.length → l.length + r < 4294967296 → MendBest.loop1 q r k l = some (l ++ opn q.1 r k)
  | 0, k, l, _, _ => by simp [MendBest.loop1, opn]
  | r + 1, k, l, h, hl => by
    have hk : k < q.1.length := by omega
    rw [MendBest.loop1, gx_at hk, opn]
    simp only [Option.bind_some]
    rw [← tm_get hk]
    by_cases c : tm q.1 k = 0
    · rw [if_pos (by simpa using c), apd_lt (by simp; omega), if_pos c]
      simp only [Option.bind_some]
      rw [open_m q r (k + 1) _ (by omega) (by simp; omega)]
      simp
    · rw [if_neg (by simpa using c), if_neg c]
      simp only [Option.bind_some]
      rw [open_m q r (k + 1) _ (by omega) (by omega)]
      simp
theorem open_r (q : (List Int) × Bool) : ∀ (r k : Nat) (l : List Int), r + k = q.1.length → l.length + r < 4294967296 → Fishref2BestOf.loop1 q r k l = some (l ++ opn q.1 r k)
  | 0, k, l, _, _ => by simp [Fishref2BestOf.loop1, opn]
  | r + 1, k, l, h, hl => by
    have hk : k < q.1.length := by omega
    rw [Fishref2BestOf.loop1, gx_at hk, opn]
    simp only [Option.bind_some]
    rw [← tm_get hk]
    by_cases c : tm q.1 k = 0
    · rw [if_pos (by simpa using c), apd_lt (by simp; omega), if_pos c]
      simp only [Option.bind_some]
      rw [open_r q r (k + 1) _ (by omega) (by simp; omega)]
      simp
    · rw [if_neg (by simpa using c), if_neg c]
      simp only [Option.bind_some]
      rw [open_r q r (k + 1) _ (by omega) (by omega)]
      simp

/-- the times of a pick, all small -/
def Tms (x : MendGraph) (p t : List Int) : Prop := t.length = x.Ready.length ∧ Good x.Ready.length (x.Arcs ++ wayArcs x.Choices p) (tm x.Ready) x.Last (tm t)
theorem Tms.small {x : MendGraph} (h : GOk x) {p t : List Int} (ht : Tms x p t) : ∀ v, v < x.Ready.length → 0 ≤ tm t v ∧ tm t v ≤ 720000 := by
  obtain ⟨w1, w2⟩ := wayArcs_ok (n := x.Ready.length) x.Choices p (fun c hc => (h.ways c hc).2)
  exact Least.small h.rd (fun a ha => (List.mem_append.1 ha).elim (h.arcOk a) (w2 a)) ht.2.1
theorem Tms.mono {x : MendGraph} {p q t u : List Int} (hs : Sub p q) (ht : Tms x p t) (hu : Tms x q u) : dsum x.Due t ≤ dsum x.Due u := by
  refine dsum_mono _ _ _ (by rw [ht.1, hu.1]) fun v hv => ?_
  refine ht.2.1.le _ ⟨hu.2.1.ge, fun a ha => hu.2.1.feas a ?_⟩ v (by rw [← ht.1]; exact hv)
  rcases List.mem_append.1 ha with ha | ha
  · exact List.mem_append_left _ ha
  · exact List.mem_append_right _ (wayArcs_sub _ hs a ha)
theorem tms_times {x : MendGraph} (h : GOk x) {p : List Int} (hp : PickOk x.Choices p) {fu : Nat} (hf : 1600000 ≤ fu) :
    (∃ t, Fishref2TimesOf fu x p = some (t, true) ∧ Tms x p t) ∨ (Fishref2TimesOf fu x p = some ([], false) ∧ ¬ Fz x p) := by
  rcases times_run h hp hf with ⟨t', f1, f2, f3⟩ | ⟨f1, f2⟩
  · exact .inl ⟨t', f1, f2, f3⟩
  · exact .inr ⟨f1, f2⟩
section
variable {x : MendGraph} {opens : List Int}
/-- what a node of the search knows -/
structure Node (x : MendGraph) (opens : List Int) (d : Nat) (p : List Int) : Prop where
  ok : PickOk x.Choices p
  zero : ∀ i, d ≤ i → (hi : i < opens.length) → ∃ k : Nat, opens[i] = (k : Int) ∧ p[k]? = some 0
theorem Node.next (hn : opens.Nodup) {d : Nat} {p : List Int} (h : Node x opens d p) (hd : d < opens.length) : ∃ (k : Nat) (c : MendChoice), opens[d] = (k : Int) ∧ p[k]? = some 0 ∧ k < p.length ∧ x.Choices[k]? = some c ∧ ∀ j, j < c.Ways.length → Node x opens (d + 1) (nx p k j) := by
  obtain ⟨k, e, h0⟩ := h.zero d (Nat.le_refl _) hd
  have hk : k < p.length := by
    rcases Nat.lt_or_ge k p.length with e | e
    · exact e
    · rw [List.getElem?_eq_none e] at h0; cases h0
  have hc : k < x.Choices.length := by rw [← h.ok.len]; exact hk
  refine ⟨k, x.Choices[k], e, h0, hk, List.getElem?_eq_getElem hc, fun j hj => ⟨h.ok.set (List.getElem?_eq_getElem hc) (by omega) (by omega), fun i hi hil => ?_⟩⟩
  obtain ⟨k', e', h0'⟩ := h.zero i (by omega) hil
  have ne : k' ≠ k := by
    intro q
    have : opens[i] = opens[d] := by rw [e', e, q]
    exact (List.pairwise_iff_getElem.1 hn) d i hd hil (by omega) this.symm
  exact ⟨k', e', by unfold nx; rw [List.getElem?_set_ne (fun q => ne q.symm)]; exact h0'⟩
/-- no better time is there: the search leaves all as it is -/
theorem ref_idle (h : GOk x) (hn : opens.Nodup) (ho : opens.length ≤ 10) {p t rp rt : List Int} {b : Int} (ht : Tms x p t) (hb : b ≤ dsum x.Due t) (hrp : rp ≠ []) (hrt : Fishref2DelayOf x rt = some b) : ∀ (m d fu : Nat) (p' : List Int), m + d = opens.length → 1600000 + m + 1 ≤ fu → Node x opens d p' → Sub p p' →
    Fishref2BestOf_1_v1 fu ((d : Nat) : Int) x p' opens rp rt = some (p', rp, rt) := by
  intro m
  induction m with
  | zero =>
    intro d fu p' hd hf hnd hs
    obtain ⟨fu, rfl⟩ : ∃ f, fu = f + 1 := ⟨fu - 1, by omega⟩
    rw [Fishref2BestOf_1_v1]
    rcases tms_times h hnd.ok (fu := fu) (by omega) with ⟨u, e, hu⟩ | ⟨e, _⟩
    · have hde : (((d : Nat) : Int) == ((opens.length : Nat) : Int)) = true := beq_iff_eq.2 (by omega)
      have he : rp.isEmpty = false := by cases rp with | nil => exact absurd rfl hrp | cons a l => rfl
      have hm := Tms.mono hs ht hu
      obtain ⟨_, g2, _⟩ := delay_sum h hu.1 (hu.small h)
      rw [e]
      simp only [Option.bind_some, Bool.not_true, Bool.false_eq_true, if_false, hde, if_true, he, g2, hrt]
      rw [decide_eq_false (by omega)]
      simp
    · rw [e]; rfl
  | succ m ih =>
    intro d fu p' hd hf hnd hs
    obtain ⟨fu, rfl⟩ : ∃ f, fu = f + 1 := ⟨fu - 1, by omega⟩
    rw [Fishref2BestOf_1_v1]
    rcases tms_times h hnd.ok (fu := fu) (by omega) with ⟨u, e, hu⟩ | ⟨e, _⟩
    · have hde : (((d : Nat) : Int) == ((opens.length : Nat) : Int)) = false := beq_eq_false_iff_ne.2 (by omega)
      have hdl : d < opens.length := by omega
      obtain ⟨k, c, ek, h0, hk, hck, hnext⟩ := hnd.next hn hdl
      have hkc : k < x.Choices.length := by rw [← hnd.ok.len]; exact hk
      have hcc : x.Choices[k] = c := by rw [List.getElem?_eq_getElem hkc] at hck; injection hck
      have hgo : gx opens ((d : Nat) : Int) = some ((k : Nat) : Int) := by rw [gx_at hdl, ek]
      have loop : ∀ (ws : List (List MendArc)) (j : Nat) (u : Int), c.Ways.drop j = ws → ∃ u', Fishref2BestOf_1_v1.loop1 ((d : Nat) : Int) x opens (Fishref2BestOf_1_v1 fu) ws j (p'.set k u) rp rt = some (p'.set k u', rp, rt) := by
        intro ws
        induction ws with
        | nil => intro j u _; exact ⟨u, rfl⟩
        | cons w ws ihw =>
          intro j u hdw
          obtain ⟨hj, _, hd2⟩ := dropC hdw
          have hw : w64 (((d : Nat) : Int) + 1) = ((d + 1 : Nat) : Int) := by
            rw [w64_id]
            · simp
            · omega
          rw [Fishref2BestOf_1_v1.loop1, hgo]
          simp only [Option.bind_some]
          rw [ix_in (by omega) (by simp; omega), sx_in (by omega) (by simp; omega)]
          simp only [Option.bind_some, Int.toNat_natCast, List.set_set]
          rw [hw, show p'.set k ((j + 1 : Nat) : Int) = nx p' k j from rfl, ih (d + 1) fu (nx p' k j) (by omega) (by omega) (hnext j hj) (hs.right h0)]
          exact ihw (j + 1) _ hd2
      obtain ⟨u', lp⟩ := loop c.Ways 0 0 rfl
      rw [set_same h0] at lp
      rw [e]
      simp only [Option.bind_some, Bool.not_true, Bool.false_eq_true, if_false, hde]
      rw [hgo]
      simp only [Option.bind_some]
      rw [gx_at hkc, hcc]
      simp only [Option.bind_some]
      rw [lp]
      simp only [Option.bind_some]
      rw [ix_in (by omega) (by simp; omega), sx_in (by omega) (by simp; omega)]
      simp only [Option.bind_some, Int.toNat_natCast, List.set_set, set_same h0]
    · rw [e]; rfl
/-- the best so far, told twice -/
def Bst (x : MendGraph) (b : Int) (bp bt rp rt : List Int) : Prop :=
  (b < 0 ∧ bp = [] ∧ bt = [] ∧ rp = [] ∧ rt = []) ∨ (0 ≤ b ∧ bp = rp ∧ bt = rt ∧ rp ≠ [] ∧ Fishref2DelayOf x rt = some b)
theorem Std.tms {p : List Int} {o : Option MendSolver} (h : Std x p o) : ∃ s, o = some s ∧ Tms x p s.times := by
  obtain ⟨s, e, E, hE, hi⟩ := h
  exact ⟨s, e, hi.len, hi.good.perm hE⟩
theorem tms_one {p t : List Int} (h : GOk x) (hp : PickOk x.Choices p) (ht : Tms x p t) {fu : Nat} (hf : 1600000 ≤ fu) : Fishref2TimesOf fu x p = some (t, true) := by
  rcases tms_times h hp hf with ⟨u, e, hu⟩ | ⟨_, q⟩
  · rw [e, good_one ht.1 hu.1 ht.2 hu.2]
  · exact absurd ⟨_, ht.2⟩ q
theorem best_run (h : GOk x) (hn : opens.Nodup) (ho : opens.length ≤ 10) (hne : x.Choices ≠ []) : ∀ (m d fu : Nat) (p : List Int) (o : Option MendSolver) (b : Int) (bp bt rp rt : List Int), m + d = opens.length → 1600000 + m + 1 ≤ fu → Node x opens d p → Std x p o → Bst x b bp bt rp rt →
    ∃ b' bp' bt' rp' rt', MendBest_1_v1 fu ((d : Nat) : Int) o x b opens p bp bt = some (p, b', bp', bt') ∧ Fishref2BestOf_1_v1 fu ((d : Nat) : Int) x p opens rp rt = some (p, rp', rt') ∧ Bst x b' bp' bt' rp' rt' := by
  intro m
  induction m with
  | zero =>
    intro d fu p o b bp bt rp rt hd hf hnd hs hb
    obtain ⟨fu, rfl⟩ : ∃ f, fu = f + 1 := ⟨fu - 1, by omega⟩
    obtain ⟨s, rfl, ht⟩ := hs.tms
    obtain ⟨g1, g2, g3⟩ := delay_sum h ht.1 (ht.small h)
    have hde : (((d : Nat) : Int) == ((opens.length : Nat) : Int)) = true := beq_iff_eq.2 (by omega)
    have hpl := hnd.ok.len
    have hch := h.chs
    have hpn : p ≠ [] := by
      intro e
      rw [e] at hpl
      exact hne (List.length_eq_zero_iff.1 hpl.symm)
    have hnz : nz p = some () := by
      unfold nz
      cases p with
      | nil => exact absurd rfl hpn
      | cons a l => rfl
    rw [MendBest_1_v1, Fishref2BestOf_1_v1, tms_one h hnd.ok ht (by omega)]
    simp only [Option.bind_some, g1, g2, bnd, Bool.not_true, Bool.false_eq_true, if_false, hde, if_true]
    rcases hb with ⟨b0, rfl, rfl, rfl, rfl⟩ | ⟨b0, rfl, rfl, hrp, hrt⟩
    · rw [show (if decide (b ≥ 0) = true then decide (dsum x.Due s.times ≥ b) else false) = false by rw [if_neg (by simp; omega)], clone_int _ (by omega)]
      simp only [Bool.false_eq_true, if_false, Option.bind_some, List.isEmpty_nil, if_true, hnz]
      exact ⟨_, _, _, _, _, rfl, rfl, .inr ⟨g3, rfl, rfl, hpn, g2⟩⟩
    · have he : bp.isEmpty = false := by cases bp with | nil => exact absurd rfl hrp | cons a l => rfl
      have hb1 : decide (b ≥ 0) = true := decide_eq_true b0
      simp only [he, hb1, if_true, Bool.false_eq_true, if_false, hrt, Option.bind_some]
      by_cases c : dsum x.Due s.times < b
      · rw [decide_eq_true c, decide_eq_false (show ¬ dsum x.Due s.times ≥ b by omega), clone_int _ (by omega)]
        simp only [Bool.false_eq_true, if_false, Option.bind_some, if_true, hnz]
        exact ⟨_, _, _, _, _, rfl, rfl, .inr ⟨g3, rfl, rfl, hpn, g2⟩⟩
      · rw [decide_eq_false c, decide_eq_true (show dsum x.Due s.times ≥ b by omega)]
        simp only [Bool.false_eq_true, if_false, Option.bind_some, if_true]
        exact ⟨_, _, _, _, _, rfl, rfl, .inr ⟨b0, rfl, rfl, hrp, hrt⟩⟩
  | succ m ih =>
    intro d fu p o b bp bt rp rt hd hf hnd hs hb
    obtain ⟨s, rfl, ht⟩ := hs.tms
    obtain ⟨g1, g2, g3⟩ := delay_sum h ht.1 (ht.small h)
    by_cases prune : 0 ≤ b ∧ b ≤ dsum x.Due s.times
    · -- nothing better below
      rcases hb with ⟨b0, _⟩ | ⟨b0, rfl, rfl, hrp, hrt⟩
      · omega
      have idle := ref_idle h hn ho ht prune.2 hrp hrt (m + 1) d fu p hd hf hnd (Sub.refl p)
      obtain ⟨fu, rfl⟩ : ∃ f, fu = f + 1 := ⟨fu - 1, by omega⟩
      rw [idle, MendBest_1_v1]
      simp only [Option.bind_some, g1, bnd]
      rw [decide_eq_true (show b ≥ 0 from b0), if_pos rfl, decide_eq_true (show dsum x.Due s.times ≥ b from prune.2), if_pos rfl]
      exact ⟨_, _, _, _, _, rfl, rfl, .inr ⟨b0, rfl, rfl, hrp, hrt⟩⟩
    · obtain ⟨fu, rfl⟩ : ∃ f, fu = f + 1 := ⟨fu - 1, by omega⟩
      have hde : (((d : Nat) : Int) == ((opens.length : Nat) : Int)) = false := beq_eq_false_iff_ne.2 (by omega)
      have hdl : d < opens.length := by omega
      obtain ⟨k, c, ek, h0, hk, hck, hnext⟩ := hnd.next hn hdl
      have hkc : k < x.Choices.length := by rw [← hnd.ok.len]; exact hk
      have hcc : x.Choices[k] = c := by rw [List.getElem?_eq_getElem hkc] at hck; injection hck
      have hgo : gx opens ((d : Nat) : Int) = some ((k : Nat) : Int) := by rw [gx_at hdl, ek]
      have hnp : (if decide (b ≥ 0) = true then decide (dsum x.Due s.times ≥ b) else false) = false := by
        by_cases q : b ≥ 0
        · rw [if_pos (by simpa using q), decide_eq_false (by omega)]
        · rw [if_neg (by simpa using q)]
      have hw : w64 (((d : Nat) : Int) + 1) = ((d + 1 : Nat) : Int) := by
        rw [w64_id (by omega)]; simp
      have loop : ∀ (ws : List (List MendArc)) (j : Nat) (u v : Int) (b : Int) (bp bt rp rt : List Int), c.Ways.drop j = ws → Bst x b bp bt rp rt →
          ∃ u' v' b' bp' bt' rp' rt', MendBest_1_v1.loop1 ((d : Nat) : Int) (some s) x opens fu (MendBest_1_v1 fu) ((k : Nat) : Int) ws j (p.set k u) b bp bt = some (p.set k u', b', bp', bt') ∧
            Fishref2BestOf_1_v1.loop1 ((d : Nat) : Int) x opens (Fishref2BestOf_1_v1 fu) ws j (p.set k v) rp rt = some (p.set k v', rp', rt') ∧ Bst x b' bp' bt' rp' rt' := by
        intro ws
        induction ws with
        | nil => intro j u v b bp bt rp rt _ hb; exact ⟨u, v, b, bp, bt, rp, rt, rfl, rfl, hb⟩
        | cons w ws ihw =>
          intro j u v b bp bt rp rt hdw hb
          obtain ⟨hj, hjw, hd2⟩ := dropC hdw
          obtain ⟨o', ok', e1, e2, e3⟩ := step_run h hnd.ok hs hck h0 hjw (fu := fu) (by omega)
          rw [MendBest_1_v1.loop1, Fishref2BestOf_1_v1.loop1, hgo, e1]
          simp only [Option.bind_some]
          rw [ix_in (by omega) (by simp; omega), sx_in (by omega) (by simp; omega), ix_in (by omega) (by simp; omega), sx_in (by omega) (by simp; omega)]
          simp only [Option.bind_some, Int.toNat_natCast, List.set_set]
          rw [hw, show p.set k ((j + 1 : Nat) : Int) = nx p k j from rfl]
          rcases e3 with ⟨rfl, s1, rfl, hst, _, _⟩ | ⟨rfl, hno⟩
          · obtain ⟨b', bp', bt', rp', rt', f1, f2, f3⟩ := ih (d + 1) fu (nx p k j) (some s1) b bp bt rp rt (by omega) (by omega) (hnext j hj) hst hb
            simp only [if_true]
            rw [f1, f2]
            simp only [Option.bind_some]
            exact ihw (j + 1) _ _ b' bp' bt' rp' rt' hd2 f3
          · have hskip : Fishref2BestOf_1_v1 fu ((d + 1 : Nat) : Int) x (nx p k j) opens rp rt = some (nx p k j, rp, rt) := by
              obtain ⟨fu, rfl⟩ : ∃ f, fu = f + 1 := ⟨fu - 1, by omega⟩
              rw [Fishref2BestOf_1_v1]
              rcases tms_times h e2 (fu := fu) (by omega) with ⟨u, q, hu⟩ | ⟨q, _⟩
              · rcases tms_times h e2 (fu := fu + 1) (by omega) with ⟨u2, q2, hu2⟩ | ⟨q2, q3⟩
                · rw [hno] at q2; injection q2 with q2; injection q2 with _ q2; cases q2
                · exact absurd ⟨_, hu.2⟩ q3
              · rw [show nx p k j = p.set k ((j + 1 : Nat) : Int) from rfl, q]; rfl
            simp only [Bool.false_eq_true, if_false, Option.bind_some]
            rw [hskip]
            simp only [Option.bind_some]
            exact ihw (j + 1) _ _ b bp bt rp rt hd2 hb
      obtain ⟨u', v', b', bp', bt', rp', rt', l1, l2, l3⟩ := loop c.Ways 0 0 0 b bp bt rp rt rfl hb
      rw [set_same h0] at l1 l2
      rw [MendBest_1_v1, Fishref2BestOf_1_v1, tms_one h hnd.ok ht (by omega)]
      simp only [Option.bind_some, g1, bnd, Bool.not_true, Bool.false_eq_true, if_false, hde, hnp]
      rw [hgo]
      simp only [Option.bind_some]
      rw [gx_at hkc, hcc]
      simp only [Option.bind_some]
      rw [l1, l2]
      simp only [Option.bind_some]
      rw [ix_in (by omega) (by simp; omega), sx_in (by omega) (by simp; omega), ix_in (by omega) (by simp; omega), sx_in (by omega) (by simp; omega)]
      simp only [Option.bind_some, Int.toNat_natCast, List.set_set, set_same h0]
      exact ⟨b', bp', bt', rp', rt', rfl, rfl, l3⟩
end
theorem graphs_true (n : Nat) : Fishlaw2graphs (n + 60) = some true := by kernel_rfl
theorem best_all {x : MendGraph} (h : GOk x) {fu : Nat} (hf : 1600060 ≤ fu) (hg : MendCheckGraph x = some 0) : ∃ a b e, MendBest fu x = some (a, b, e) ∧ Fishref2BestOf fu x = some (a, b, e) := by
  have hch := h.chs
  obtain ⟨z1, z2⟩ := PickOk.zeros x.Choices
  unfold MendBest Fishref2BestOf
  rw [hg, mks_in (by omega)]
  simp only [Option.bind_some, show ((0 : Int) != 0) = false from rfl, Bool.false_eq_true, if_false]
  rcases forced_run h (fu := fu) (by omega) z1 with ⟨o, F, e1, e2, e3, e4, _, _⟩ | ⟨e1, e2, _⟩
  · rw [e1, e2]
    have hl := e3.len
    have o1 := open_m (F, o, true) F.length 0 [] (by simp) (by simp; omega)
    have o2 := open_r (F, true) F.length 0 [] (by simp) (by simp; omega)
    simp only [List.nil_append] at o1 o2
    simp only [Option.bind_some, Bool.not_true, Bool.false_eq_true, if_false, o1, o2]
    generalize ho : opn F F.length 0 = opens
    have hnd : opens.Nodup := by rw [← ho]; exact opn_nodup _ _ _
    have hnode : Node x opens 0 F := by
      refine ⟨e3, fun i _ hi => ?_⟩
      obtain ⟨j, ej, _, j2, j3⟩ := opn_mem F F.length 0 opens[i] (by rw [ho]; exact List.getElem_mem hi)
      refine ⟨j, ej, ?_⟩
      have hj : j < F.length := by omega
      rw [List.getElem?_eq_getElem hj, ← tm_get hj, j3]
    by_cases c : ((opens.length : Nat) : Int) > 10
    · rw [decide_eq_true c]
      exact ⟨_, _, _, rfl, rfl⟩
    · rw [decide_eq_false c, clone_int _ (by omega)]
      simp only [Bool.false_eq_true, if_false, Option.bind_some]
      by_cases hne : x.Choices = []
      · have hF : F = [] := List.length_eq_zero_iff.1 (by rw [hl, hne]; rfl)
        have hop : opens = [] := by rw [← ho, hF]; rfl
        obtain ⟨s, rfl, ht⟩ := e4.tms
        obtain ⟨g1, g2, g3⟩ := delay_sum h ht.1 (ht.small h)
        rw [show (((x.Choices.length : Nat) : Int) == 0) = true by rw [hne]; rfl, tms_one h e3 ht (by omega)]
        obtain ⟨fu, rfl⟩ : ∃ f, fu = f + 1 := ⟨fu - 1, by omega⟩
        rw [MendBest_1_v1, hop]
        simp only [Option.bind_some, g1, bnd]
        rw [show (if decide ((-1 : Int) ≥ 0) = true then decide (dsum x.Due s.times ≥ -1) else false) = false from rfl]
        simp only [Bool.false_eq_true, if_false]
        rw [show ((0 : Int) == ((([] : List Int).length : Nat) : Int)) = true from rfl, clone_int _ (by omega)]
        simp only [if_true, Option.bind_some]
        rw [decide_eq_false (by omega), hF]
        exact ⟨_, _, _, rfl, rfl⟩
      · have hx : (((x.Choices.length : Nat) : Int) == 0) = false := beq_eq_false_iff_ne.2 (by
          have : x.Choices.length ≠ 0 := fun e => hne (List.length_eq_zero_iff.1 e)
          omega)
        have hb : ∃ b' bp' bt' rp' rt', MendBest_1_v1 fu 0 o x (-1) opens F [] [] = some (F, b', bp', bt') ∧ Fishref2BestOf_1_v1 fu 0 x F opens [] [] = some (F, rp', rt') ∧ Bst x b' bp' bt' rp' rt' :=
          best_run h hnd (by omega) hne opens.length 0 fu F o (-1) [] [] [] [] (by omega) (by omega) hnode e4 (.inl ⟨by omega, rfl, rfl, rfl, rfl⟩)
        obtain ⟨b', bp', bt', rp', rt', f1, f2, f3⟩ := hb
        rw [f1, hx]
        simp only [Bool.false_eq_true, if_false, Option.bind_some, f2]
        rcases f3 with ⟨b0, rfl, rfl, rfl, rfl⟩ | ⟨b0, rfl, rfl, hrp, _⟩
        · rw [decide_eq_true b0]
          exact ⟨_, _, _, rfl, rfl⟩
        · have he : bp'.isEmpty = false := by cases bp' with | nil => exact absurd rfl hrp | cons a l => rfl
          rw [decide_eq_false (show ¬ b' < 0 by omega), he]
          exact ⟨_, _, _, rfl, rfl⟩
  · rw [e1, e2]
    exact ⟨_, _, _, rfl, rfl⟩
theorem MendBests_law (x : MendGraph) (hn : x.Ready.length ≤ 9223372036854775807) (_ : x.Last.length ≤ 9223372036854775807) (_ : x.Due.length ≤ 9223372036854775807) (_ : x.Arcs.length ≤ 9223372036854775807) (_ : x.Choices.length ≤ 9223372036854775807) : ∃ fu, Fishlaw2MendBests fu x = some true := by
  refine ⟨1600000 + 60, ?_⟩
  have hfu : 1600060 ≤ 1600000 + 60 := by omega
  have hg := graphs_true 1600000
  generalize 1600000 + 60 = fu at hfu hg
  obtain ⟨g, hgf⟩ := graph_tot x
  have hgm : MendCheckGraph x = some g := by rw [graph_eq x hn, hgf]
  unfold Fishlaw2MendBests
  by_cases c : g = 0
  · subst c
    obtain ⟨a, b, e, e1, e2⟩ := best_all (graph_ok hgf) hfu hgm
    rw [e1, e2, hgf]
    simp [hg, seq_self]
  · have c1 : (g != 0) = true := by simpa using c
    have hb : MendBest fu x = some ([], [], g) := by
      unfold MendBest
      rw [hgm]
      simp [c]
    rw [hb, hgf]
    simp [c, hg, w64_id]
end Go.Fp
