/- MendSpreads: the mirror of the law is true of all rounds, delays and periods. -/
import Derived.Test.YtfioafdipipcaaaMendSpreadsM
import Derived.Test.YtfioafdipipcaaaFpPlain
import Derived.KernelRfl
namespace Go.Fp
/-! times in lists -/
abbrev Tm := Nat → Int
def nd (i : Int) : Nat := i.toNat
def tm (t : List Int) : Tm := fun v => (t[v]?).getD 0
theorem tm_get {t : List Int} {v : Nat} (h : v < t.length) : tm t v = t[v] := by simp [tm, h]
theorem gx_tm {t : List Int} {i : Int} (h0 : 0 ≤ i) (h1 : i < t.length) : gx t i = some (tm t (nd i)) := by
  have h : i.toNat < t.length := by omega
  rw [gx_toNat h0 h]; simp [tm, nd, h]
theorem tm_set {t : List Int} {u v : Nat} {x : Int} (h : u < t.length) : tm (t.set u x) v = if v = u then x else tm t v := by
  unfold tm
  by_cases c : v = u
  · subst c; rw [if_pos rfl, List.getElem?_set_self h]; rfl
  · rw [if_neg c, List.getElem?_set_ne (fun e => c e.symm)]
def bt (w : List Bool) (v : Nat) : Bool := (w[v]?).getD false
theorem bt_get {t : List Bool} {v : Nat} (h : v < t.length) : bt t v = t[v] := by simp [bt, h]
theorem gx_bt {t : List Bool} {i : Int} (h0 : 0 ≤ i) (h1 : i < t.length) : gx t i = some (bt t (nd i)) := by
  have h : i.toNat < t.length := by omega
  rw [gx_toNat h0 h]; simp [bt, nd, h]
theorem bt_set {t : List Bool} {u v : Nat} {x : Bool} (h : u < t.length) : bt (t.set u x) v = if v = u then x else bt t v := by
  unfold bt
  by_cases c : v = u
  · subst c; rw [if_pos rfl, List.getElem?_set_self h]; rfl
  · rw [if_neg c, List.getElem?_set_ne (fun e => c e.symm)]
/-- how many of the first m nodes have a property -/
noncomputable def count (P : Nat → Prop) : Nat → Nat
  | 0 => 0
  | m + 1 => open Classical in count P m + (if P m then 1 else 0)
theorem count_mono {P Q : Nat → Prop} : ∀ m, (∀ v, v < m → P v → Q v) → count P m ≤ count Q m
  | 0, _ => Nat.le_refl _
  | m + 1, h => by
    have h1 := count_mono m (fun v hv => h v (by omega))
    have h2 := h m (by omega)
    simp only [count]
    by_cases c : P m
    · rw [if_pos c, if_pos (h2 c)]; omega
    · rw [if_neg c]; split <;> omega
theorem count_lt {P Q : Nat → Prop} {u : Nat} (hp : ¬ P u) (hq : Q u) : ∀ m, u < m → (∀ v, v < m → P v → Q v) → count P m < count Q m
  | 0, h, _ => absurd h (Nat.not_lt_zero _)
  | m + 1, hu, h => by
    have h2 := h m (by omega)
    simp only [count]
    by_cases e : u = m
    · subst e
      have := count_mono u (fun v hv => h v (by omega))
      rw [if_neg hp, if_pos hq]; omega
    · have := count_lt hp hq m (by omega) (fun v hv => h v (by omega))
      by_cases c : P m
      · rw [if_pos c, if_pos (h2 c)]; omega
      · rw [if_neg c]; split <;> omega
theorem count_le (P : Nat → Prop) : ∀ m, count P m ≤ m
  | 0 => Nat.le_refl _
  | m + 1 => by have := count_le P m; simp only [count]; split <;> omega
theorem count_all {P : Nat → Prop} : ∀ m, count P m = m → ∀ v, v < m → P v
  | 0, _, v, hv => absurd hv (Nat.not_lt_zero _)
  | m + 1, h, v, hv => by
    have h1 := count_le P m
    simp only [count] at h
    by_cases c : P m
    · rw [if_pos c] at h
      by_cases e : v = m
      · subst e; exact c
      · exact count_all m (by omega) v (by omega)
    · rw [if_neg c] at h; omega
/-! sound rounds -/
theorem rw_eq : Fishref2within = Mendwithin := rfl
theorem slack_eq : Fishref2SlackOf = MendRoundslack := rfl
theorem mwithin (x a b : Int) : Mendwithin x a b = decide (a ≤ x ∧ x ≤ b) := by
  unfold Mendwithin bnd
  by_cases h : a ≤ x <;> simp [h]
def sl (x : MendRound) (l : MendLink) : Int := tm x.Plan (nd l.To) - tm x.Plan (nd l.From) + l.Back * x.Period - l.Len
structure LkOk (x : MendRound) (l : MendLink) : Prop where
  f0 : 0 ≤ l.From
  f1 : l.From < x.Plan.length
  t0 : 0 ≤ l.To
  t1 : l.To < x.Plan.length
  n0 : 0 ≤ l.Len
  n1 : l.Len ≤ 28800
  b0 : 0 ≤ l.Back
  b1 : l.Back ≤ 3
  s0 : 0 ≤ sl x l
  s1 : sl x l ≤ 20000
structure ROk (x : MendRound) : Prop where
  p0 : 1 ≤ x.Period
  p1 : x.Period ≤ 3600
  n0 : 1 ≤ x.Plan.length
  n1 : x.Plan.length ≤ 8
  k1 : x.Links.length ≤ 24
  plan : ∀ v, v < x.Plan.length → 0 ≤ tm x.Plan v ∧ tm x.Plan v ≤ x.Period - 1
  links : ∀ l ∈ x.Links, LkOk x l
theorem slack_some {x : MendRound} {l : MendLink} (hp0 : 1 ≤ x.Period) (hp1 : x.Period ≤ 3600) (hpl : ∀ v, v < x.Plan.length → 0 ≤ tm x.Plan v ∧ tm x.Plan v ≤ x.Period - 1) (f0 : 0 ≤ l.From) (f1 : l.From < x.Plan.length) (t0 : 0 ≤ l.To) (t1 : l.To < x.Plan.length) (n0 : 0 ≤ l.Len) (n1 : l.Len ≤ 28800) (b0 : 0 ≤ l.Back) (b1 : l.Back ≤ 3) :
    MendRoundslack x l = some (sl x l) ∧ sl x l ≤ 20000 := by
  have h1 : 0 ≤ l.Back * x.Period := Int.mul_nonneg b0 (by omega)
  have h2 : l.Back * x.Period ≤ 3 * 3600 := Int.mul_le_mul b1 hp1 (by omega) (by omega)
  obtain ⟨a1, a2⟩ := hpl (nd l.To) (by unfold nd; omega)
  obtain ⟨c1, c2⟩ := hpl (nd l.From) (by unfold nd; omega)
  unfold MendRoundslack sl
  rw [gx_tm t0 t1, gx_tm f0 f1]
  simp only [Option.bind_some]
  rw [w64_id (x := tm x.Plan (nd l.To) - tm x.Plan (nd l.From)) (by omega), w64_id (x := l.Back * x.Period) (by omega), w64_id (x := tm x.Plan (nd l.To) - tm x.Plan (nd l.From) + l.Back * x.Period) (by omega), w64_id (by omega)]
  exact ⟨rfl, by omega⟩
theorem plan_eq (x : MendRound) : ∀ l, Fishref2RoundFault.loop1 x l = MendCheckRound.loop1 x l
  | [] => rfl
  | a :: l => by rw [Fishref2RoundFault.loop1, MendCheckRound.loop1, plan_eq x l, rw_eq]
theorem links_eq (x : MendRound) (hn : x.Plan.length ≤ 8) : ∀ l, Fishref2RoundFault.loop2 x l = MendCheckRound.loop2 x l
  | [] => rfl
  | a :: l => by
    rw [Fishref2RoundFault.loop2, MendCheckRound.loop2, links_eq x hn l, rw_eq, slack_eq, w64_id (by omega)]
    have : (if decide (a.From < 0) = true then true else if decide (a.From ≥ (x.Plan.length : Int)) = true then true else if decide (a.To < 0) = true then true else decide (a.To ≥ (x.Plan.length : Int)))
        = (if (!Mendwithin a.From 0 ((x.Plan.length : Int) - 1)) = true then true else !Mendwithin a.To 0 ((x.Plan.length : Int) - 1)) := by
      rw [mwithin, mwithin]
      by_cases h1 : 0 ≤ a.From ∧ a.From ≤ (x.Plan.length : Int) - 1
      · rw [decide_eq_true h1]
        have e1 : ¬ a.From < 0 := by omega
        have e2 : ¬ a.From ≥ (x.Plan.length : Int) := by omega
        simp only [e1, e2, decide_false, Bool.false_eq_true, if_false, Bool.not_true]
        by_cases h2 : 0 ≤ a.To ∧ a.To ≤ (x.Plan.length : Int) - 1
        · rw [decide_eq_true h2]
          have e1 : ¬ a.To < 0 := by omega
          have e2 : ¬ a.To ≥ (x.Plan.length : Int) := by omega
          simp [e1, e2]
        · rw [decide_eq_false h2]
          by_cases e1 : a.To < 0
          · simp [e1]
          · have e2 : a.To ≥ (x.Plan.length : Int) := by omega
            simp [e2]
      · rw [decide_eq_false h1]
        by_cases e1 : a.From < 0
        · simp [e1]
        · have e2 : a.From ≥ (x.Plan.length : Int) := by omega
          simp [e2]
    rw [this]
theorem plan_ok (x : MendRound) (hp : x.Period ≤ 3600) (hp0 : 1 ≤ x.Period) : ∀ l, (MendCheckRound.loop1 x l = .ret 2) ∨ (MendCheckRound.loop1 x l = .next () ∧ ∀ v, v < l.length → 0 ≤ tm l v ∧ tm l v ≤ x.Period - 1)
  | [] => .inr ⟨rfl, fun v hv => absurd hv (Nat.not_lt_zero _)⟩
  | a :: l => by
    rw [MendCheckRound.loop1, mwithin, w64_id (by omega)]
    by_cases h : 0 ≤ a ∧ a ≤ x.Period - 1
    · rw [decide_eq_true h]
      rcases plan_ok x hp hp0 l with e | ⟨e, i⟩
      · exact .inl e
      · refine .inr ⟨e, fun v hv => ?_⟩
        cases v with
        | zero => simpa [tm] using h
        | succ v => have := i v (by simpa using hv); simpa [tm] using this
    · rw [decide_eq_false h]
      exact .inl rfl
theorem links_ok {x : MendRound} (hp0 : 1 ≤ x.Period) (hp1 : x.Period ≤ 3600) (hn : x.Plan.length ≤ 8) (hpl : ∀ v, v < x.Plan.length → 0 ≤ tm x.Plan v ∧ tm x.Plan v ≤ x.Period - 1) : ∀ ls, (∃ r, MendCheckRound.loop2 x ls = some (.ret r) ∧ r ≠ 0) ∨ (MendCheckRound.loop2 x ls = some (.next ()) ∧ ∀ l ∈ ls, LkOk x l)
  | [] => .inr ⟨rfl, fun l hl => by cases hl⟩
  | a :: l => by
    rw [MendCheckRound.loop2, mwithin, mwithin, mwithin, mwithin, w64_id (by omega)]
    simp only [bnd]
    by_cases h1 : 0 ≤ a.From ∧ a.From ≤ (x.Plan.length : Int) - 1
    · by_cases h2 : 0 ≤ a.To ∧ a.To ≤ (x.Plan.length : Int) - 1
      · by_cases h3 : 0 ≤ a.Len ∧ a.Len ≤ 28800
        · by_cases h4 : 0 ≤ a.Back ∧ a.Back ≤ 3
          · obtain ⟨s1, s2⟩ := slack_some (l := a) hp0 hp1 hpl h1.1 (by omega) h2.1 (by omega) h3.1 h3.2 h4.1 h4.2
            rw [decide_eq_true h1, decide_eq_true h2, decide_eq_true h3, decide_eq_true h4, s1]
            simp only [Bool.not_true, Bool.false_eq_true, if_false, Option.bind_some]
            by_cases h5 : sl x a < 0
            · rw [decide_eq_true h5]
              exact .inl ⟨13, rfl, by omega⟩
            · rw [decide_eq_false h5]
              simp only [Bool.false_eq_true, if_false]
              rcases links_ok hp0 hp1 hn hpl l with e | ⟨e, i⟩
              · exact .inl e
              · refine .inr ⟨e, fun b hb => ?_⟩
                rcases List.mem_cons.1 hb with rfl | hb
                · exact ⟨h1.1, by omega, h2.1, by omega, h3.1, h3.2, h4.1, h4.2, by omega, s2⟩
                · exact i b hb
          · rw [decide_eq_true h1, decide_eq_true h2, decide_eq_true h3, decide_eq_false h4]
            exact .inl ⟨2, rfl, by omega⟩
        · rw [decide_eq_true h1, decide_eq_true h2, decide_eq_false h3]
          exact .inl ⟨2, rfl, by omega⟩
      · rw [decide_eq_true h1, decide_eq_false h2]
        exact .inl ⟨3, rfl, by omega⟩
    · rw [decide_eq_false h1]
      exact .inl ⟨3, rfl, by omega⟩

/-! rings of links with Back 0 -/
def Zf (x : MendRound) : Prop := ∃ h : Nat → Int, ∀ l ∈ x.Links, l.Back = 0 → h (nd l.From) < h (nd l.To)
/-- the first of an order, step by step -/
def Py (x : MendRound) : Nat → Nat → Prop
  | 0, _ => False
  | i + 1, v => ∀ l ∈ x.Links, l.Back = 0 → nd l.To = v → Py x i (nd l.From)
theorem Py.up (x : MendRound) : ∀ i v, Py x i v → Py x (i + 1) v
  | 0, _, h => h.elim
  | i + 1, _, h => fun l hl hb ht => Py.up x i _ (h l hl hb ht)
theorem py_all {x : MendRound} (hx : ROk x) (hz : Zf x) : ∀ v, v < x.Plan.length → Py x x.Plan.length v := by
  classical
  obtain ⟨h, hh⟩ := hz
  -- a step with nothing new has all
  have stuck : ∀ i, (∀ v, v < x.Plan.length → Py x (i + 1) v → Py x i v) → ∀ v, v < x.Plan.length → Py x i v := by
    intro i hc v hv
    have key : ∀ (k : Nat) (v : Nat), v < x.Plan.length → (∀ u, u < x.Plan.length → h v - h u ≤ k) → Py x i v := by
      intro k
      induction k with
      | zero =>
        intro v hv hk
        refine hc v hv fun l hl hb ht => ?_
        have hl' := hx.links l hl
        have f0 := hl'.f0
        have f1 := hl'.f1
        have := hh l hl hb
        have := hk (nd l.From) (by unfold nd; omega)
        rw [ht] at *
        omega
      | succ k ih =>
        intro v hv hk
        refine hc v hv fun l hl hb ht => ?_
        have hl' := hx.links l hl
        have f0 := hl'.f0
        have f1 := hl'.f1
        have h1 := hh l hl hb
        rw [ht] at h1
        refine ih (nd l.From) (by unfold nd; omega) fun u hu => ?_
        have := hk u hu
        omega
    have lo : ∃ m : Int, ∀ u, u < x.Plan.length → m ≤ h u := by
      have : ∀ n : Nat, ∃ m : Int, ∀ u, u < n → m ≤ h u := by
        intro n
        induction n with
        | zero => exact ⟨0, fun u hu => absurd hu (Nat.not_lt_zero _)⟩
        | succ n ih =>
          obtain ⟨m, hm⟩ := ih
          refine ⟨min m (h n), fun u hu => ?_⟩
          by_cases e : u = n
          · subst e; omega
          · have := hm u (by omega); omega
      exact this _
    obtain ⟨m, hm⟩ := lo
    exact key (h v - m).toNat v hv fun u hu => by have := hm u hu; omega
  have grow : ∀ i, i ≤ count (Py x i) x.Plan.length ∨ ∀ v, v < x.Plan.length → Py x i v := by
    intro i
    induction i with
    | zero => exact .inl (Nat.zero_le _)
    | succ i ih =>
      by_cases c : ∀ v, v < x.Plan.length → Py x (i + 1) v → Py x i v
      · exact .inr fun v hv => Py.up x i v (stuck i c v hv)
      · rcases ih with ih | ih
        · left
          have : ∃ v, v < x.Plan.length ∧ Py x (i + 1) v ∧ ¬ Py x i v := by
            refine Classical.byContradiction fun q => c fun v hv hp => Classical.byContradiction fun q2 => q ⟨v, hv, hp, q2⟩
          obtain ⟨v, hv, h1, h2⟩ := this
          have := count_lt (P := Py x i) (Q := Py x (i + 1)) h2 h1 x.Plan.length hv (fun v _ => Py.up x i v)
          omega
        · exact .inr fun v hv => Py.up x i v (ih v hv)
  rcases grow x.Plan.length with c | c
  · have := count_le (Py x x.Plan.length) x.Plan.length
    exact count_all x.Plan.length (by omega)
  · exact c
/-! rings: two ways to see one -/
def relZ (l : MendLink) (z : Bool × List Int) : Bool × List Int :=
  if l.Back = 0 ∧ tm z.2 (nd l.To) ≤ tm z.2 (nd l.From) then (true, z.2.set (nd l.To) (tm z.2 (nd l.From) + 1)) else z
def relZL (ls : List MendLink) (z : Bool × List Int) : Bool × List Int := ls.foldl (fun z l => relZ l z) z
theorem relZ_len (l : MendLink) (z : Bool × List Int) : (relZ l z).2.length = z.2.length := by
  unfold relZ; split
  · simp
  · rfl
theorem relZL_len : ∀ (ls : List MendLink) (z : Bool × List Int), (relZL ls z).2.length = z.2.length
  | [], z => rfl
  | l :: ls, z => by rw [show relZL (l :: ls) z = relZL ls (relZ l z) from rfl, relZL_len ls, relZ_len]
theorem LkOk.nd {x : MendRound} {l : MendLink} (h : LkOk x l) : Go.Fp.nd l.From < x.Plan.length ∧ Go.Fp.nd l.To < x.Plan.length := by
  have := h.f0; have := h.f1; have := h.t0; have := h.t1
  unfold Go.Fp.nd; omega
section
variable {x : MendRound}
theorem relZ_tm {l : MendLink} (hl : LkOk x l) {z : Bool × List Int} (hz : z.2.length = x.Plan.length) (v : Nat) :
    tm (relZ l z).2 v = if v = nd l.To ∧ l.Back = 0 ∧ tm z.2 (nd l.To) ≤ tm z.2 (nd l.From) then tm z.2 (nd l.From) + 1 else tm z.2 v := by
  unfold relZ
  by_cases c : l.Back = 0 ∧ tm z.2 (nd l.To) ≤ tm z.2 (nd l.From)
  · rw [if_pos c, tm_set (by rw [hz]; exact hl.nd.2)]
    by_cases e : v = nd l.To
    · rw [if_pos e, if_pos ⟨e, c⟩]
    · rw [if_neg e, if_neg (fun h => e h.1)]
  · rw [if_neg c, if_neg (fun h => c h.2)]
theorem relZ_mono {l : MendLink} (hl : LkOk x l) {z : Bool × List Int} (hz : z.2.length = x.Plan.length) (v : Nat) : tm z.2 v ≤ tm (relZ l z).2 v := by
  rw [relZ_tm hl hz]
  split
  · rename_i h; rw [h.1]; omega
  · exact Int.le_refl _
theorem relZL_mono : ∀ (ls : List MendLink) (z : Bool × List Int), (∀ l ∈ ls, LkOk x l) → z.2.length = x.Plan.length → ∀ v, tm z.2 v ≤ tm (relZL ls z).2 v
  | [], _, _, _, _ => Int.le_refl _
  | l :: ls, z, h, hz, v => Int.le_trans (relZ_mono (h l (List.mem_cons_self ..)) hz v) (relZL_mono ls (relZ l z) (fun b hb => h b (List.mem_cons_of_mem _ hb)) (by rw [relZ_len]; exact hz) v)
theorem relZL_ub : ∀ (ls : List MendLink) (z : Bool × List Int) (B : Int), (∀ l ∈ ls, LkOk x l) → z.2.length = x.Plan.length → (∀ v, v < x.Plan.length → tm z.2 v ≤ B) → ∀ v, v < x.Plan.length → tm (relZL ls z).2 v ≤ B + ls.length
  | [], z, B, _, _, h, v, hv => by have := h v hv; show tm z.2 v ≤ B + ((0 : Nat) : Int); omega
  | l :: ls, z, B, h, hz, hB, v, hv => by
    have hl := h l (List.mem_cons_self ..)
    have := relZL_ub ls (relZ l z) (B + 1) (fun b hb => h b (List.mem_cons_of_mem _ hb)) (by rw [relZ_len]; exact hz) (fun u hu => by
      rw [relZ_tm hl hz]
      have := hB u hu
      have := hB _ hl.nd.1
      split <;> omega) v hv
    simp only [List.length_cons, Int.natCast_add, Int.natCast_one]
    exact Int.le_trans this (by omega)
theorem relZL_true : ∀ (ls : List MendLink) (z : Bool × List Int), z.1 = true → (relZL ls z).1 = true
  | [], _, h => h
  | l :: ls, z, h => relZL_true ls (relZ l z) (by unfold relZ; split <;> simp [h])
theorem relZL_same : ∀ (ls : List MendLink) (z : Bool × List Int), (relZL ls z).1 = false → ∀ l ∈ ls, l.Back = 0 → tm z.2 (nd l.From) < tm z.2 (nd l.To)
  | [], _, _, l, hl, _ => by cases hl
  | b :: ls, z, h, l, hl, hb => by
    have e : relZ b z = z ∧ ¬ (b.Back = 0 ∧ tm z.2 (nd b.To) ≤ tm z.2 (nd b.From)) := by
      by_cases c : b.Back = 0 ∧ tm z.2 (nd b.To) ≤ tm z.2 (nd b.From)
      · exfalso
        have := relZL_true ls (relZ b z) (by unfold relZ; rw [if_pos c])
        rw [show relZL (b :: ls) z = relZL ls (relZ b z) from rfl, this] at h
        cases h
      · exact ⟨by unfold relZ; rw [if_neg c], c⟩
    rw [show relZL (b :: ls) z = relZL ls (relZ b z) from rfl, e.1] at h
    rcases List.mem_cons.1 hl with rfl | hl
    · have := e.2
      have : ¬ tm z.2 (nd l.To) ≤ tm z.2 (nd l.From) := fun q => this ⟨hb, q⟩
      omega
    · exact relZL_same ls z h l hl hb
theorem relZL_none : ∀ (ls : List MendLink) (z : Bool × List Int), (∀ l ∈ ls, l.Back = 0 → tm z.2 (nd l.From) < tm z.2 (nd l.To)) → relZL ls z = z
  | [], _, _ => rfl
  | l :: ls, z, h => by
    have e : relZ l z = z := by
      unfold relZ
      rw [if_neg]
      rintro ⟨h1, h2⟩
      have := h l (List.mem_cons_self ..) h1
      omega
    rw [show relZL (l :: ls) z = relZL ls (relZ l z) from rfl, e]
    exact relZL_none ls z fun b hb => h b (List.mem_cons_of_mem _ hb)
/-- the first of the order stand still -/
def Still (x : MendRound) (i : Nat) (t : List Int) : Prop := ∀ v, Py x i v → ∀ l ∈ x.Links, l.Back = 0 → nd l.To = v → tm t (nd l.From) < tm t v
theorem still_from {i : Nat} {l : MendLink} (hl : l ∈ x.Links) (hb : l.Back = 0) (h : Py x (i + 1) (nd l.To)) : Py x i (nd l.From) := h l hl hb rfl
theorem pass_still (hx : ROk x) {i : Nat} : ∀ (ls : List MendLink) (z : Bool × List Int), (∀ l ∈ ls, l ∈ x.Links) → z.2.length = x.Plan.length → Still x i z.2 →
    (∀ v, Py x i v → tm (relZL ls z).2 v = tm z.2 v) ∧ ∀ l ∈ ls, l.Back = 0 → Py x i (nd l.From) → tm (relZL ls z).2 (nd l.From) < tm (relZL ls z).2 (nd l.To)
  | [], z, _, _, _ => ⟨fun v _ => rfl, fun l hl => by cases hl⟩
  | b :: ls, z, h, hz, hs => by
    have hb := h b (List.mem_cons_self ..)
    have ob := hx.links b hb
    have hz' : (relZ b z).2.length = x.Plan.length := by rw [relZ_len]; exact hz
    have same : ∀ v, Py x i v → tm (relZ b z).2 v = tm z.2 v := by
      intro v hv
      rw [relZ_tm ob hz, if_neg]
      rintro ⟨e, h1, h2⟩
      have := hs v hv b hb h1 e.symm
      rw [e] at this
      omega
    have hs' : Still x i (relZ b z).2 := by
      intro v hv l hl hb' ht
      rw [same v hv]
      cases i with
      | zero => exact hv.elim
      | succ i =>
        have hf := Py.up x i _ (hv l hl hb' ht)
        rw [same _ hf]
        exact hs v hv l hl hb' ht
    obtain ⟨i1, i2⟩ := pass_still hx ls (relZ b z) (fun c hc => h c (List.mem_cons_of_mem _ hc)) hz' hs'
    refine ⟨fun v hv => by rw [show relZL (b :: ls) z = relZL ls (relZ b z) from rfl, i1 v hv, same v hv], fun l hl hlb hp => ?_⟩
    rw [show relZL (b :: ls) z = relZL ls (relZ b z) from rfl]
    rcases List.mem_cons.1 hl with rfl | hl
    · have k1 : tm (relZ l z).2 (nd l.From) < tm (relZ l z).2 (nd l.To) := by
        rw [same _ hp, relZ_tm ob hz]
        by_cases c : nd l.To = nd l.To ∧ l.Back = 0 ∧ tm z.2 (nd l.To) ≤ tm z.2 (nd l.From)
        · rw [if_pos c]; omega
        · rw [if_neg c]
          have : ¬ tm z.2 (nd l.To) ≤ tm z.2 (nd l.From) := fun q => c ⟨rfl, hlb, q⟩
          omega
      rw [i1 _ hp]
      have := relZL_mono ls (relZ l z) (fun c hc => hx.links c (h c (List.mem_cons_of_mem _ hc))) hz' (nd l.To)
      omega
    · exact i2 l hl hlb hp
theorem ring_loop3 (hx : ROk x) : ∀ (ls : List MendLink) (z : Bool × List Int) (B : Int), (∀ l ∈ ls, LkOk x l) → z.2.length = x.Plan.length → (∀ v, v < x.Plan.length → 0 ≤ tm z.2 v) → (∀ v, v < x.Plan.length → tm z.2 v ≤ B) → B + ls.length ≤ 1000000 →
    MendRoundring.loop3 ls z.1 z.2 = some (relZL ls z)
  | [], _, _, _, _, _, _, _ => rfl
  | l :: ls, z, B, h, hz, h0, hB, hs => by
    have ol := h l (List.mem_cons_self ..)
    obtain ⟨d1, d2⟩ := ol.nd
    have f0 := ol.f0
    have f1 := ol.f1
    have t0 := ol.t0
    have t1 := ol.t1
    have b1 := hB _ d1
    have b2 := h0 _ d1
    simp only [List.length_cons, Int.natCast_add, Int.natCast_one] at hs
    have hnext := ring_loop3 hx ls (relZ l z) (B + 1) (fun c hc => h c (List.mem_cons_of_mem _ hc)) (by rw [relZ_len]; exact hz) (fun v hv => Int.le_trans (h0 v hv) (relZ_mono ol hz v)) (fun v hv => by
      rw [relZ_tm ol hz]
      have := hB v hv
      split <;> omega) (by omega)
    rw [MendRoundring.loop3, gx_tm f0 (by rw [hz]; exact f1), gx_tm t0 (by rw [hz]; exact t1)]
    simp only [Option.bind_some]
    by_cases c : l.Back = 0 ∧ tm z.2 (nd l.To) ≤ tm z.2 (nd l.From)
    · have e : relZ l z = (true, z.2.set (nd l.To) (tm z.2 (nd l.From) + 1)) := if_pos c
      rw [if_pos (by simpa using c.1), decide_eq_true c.2]
      simp only [Option.bind_some, if_true]
      rw [w64_id (by omega), ix_in t0 (by rw [hz]; exact t1), sx_in t0 (by rw [hz]; exact t1)]
      simp only [Option.bind_some]
      rw [e] at hnext
      rw [show relZL (l :: ls) z = relZL ls (relZ l z) from rfl, e]
      exact hnext
    · have e : relZ l z = z := if_neg c
      have e2 : (if (l.Back == 0) = true then some (decide (tm z.2 (nd l.To) ≤ tm z.2 (nd l.From))) else some false) = some false := by
        by_cases c1 : l.Back = 0
        · rw [if_pos (by simpa using c1), decide_eq_false (fun q => c ⟨c1, q⟩)]
        · rw [if_neg (by simpa using c1)]
      rw [e2]
      simp only [Option.bind_some, Bool.false_eq_true, if_false]
      rw [e] at hnext
      rw [show relZL (l :: ls) z = relZL ls (relZ l z) from rfl, e]
      exact hnext
theorem ring_loop2 (hx : ROk x) : ∀ (m i : Nat) (t : List Int), i + m = x.Plan.length + 2 → 1 ≤ m → t.length = x.Plan.length → (∀ v, v < x.Plan.length → 0 ≤ tm t v) → (∀ v, v < x.Plan.length → tm t v ≤ 24 * i) → Still x i t → (i = x.Plan.length + 1 → ¬ Zf x) → ∀ fu, m ≤ fu →
    (MendRoundring.loop2 x fu ((i : Nat) : Int) t = some (.ret false) ∧ Zf x) ∨ (∃ a b, MendRoundring.loop2 x fu ((i : Nat) : Int) t = some (.next (a, b)) ∧ ¬ Zf x) := by
  intro m
  have n1 := hx.n1
  have k1 := hx.k1
  induction m with
  | zero => intro i t _ h; omega
  | succ m ih =>
    intro i t him _ ht h0 hB hs hno fu hfu
    obtain ⟨fu, rfl⟩ : ∃ f, fu = f + 1 := ⟨fu - 1, by omega⟩
    rw [MendRoundring.loop2, w64_id (by omega)]
    by_cases c : i = x.Plan.length + 1
    · rw [if_neg (by simp; omega)]
      exact .inr ⟨_, _, rfl, hno c⟩
    · rw [if_pos (by simp; omega), ring_loop3 hx x.Links (false, t) (24 * i) hx.links ht h0 hB (by omega)]
      simp only [Option.bind_some]
      obtain ⟨p1, p2⟩ := pass_still hx (i := i) x.Links (false, t) (fun l hl => hl) ht hs
      have hmono := relZL_mono x.Links (false, t) hx.links ht
      cases hc : (relZL x.Links (false, t)).1 with
      | false =>
        left
        exact ⟨rfl, tm t, relZL_same x.Links (false, t) hc⟩
      | true =>
        simp only [Bool.not_true, Bool.false_eq_true, if_false]
        rw [w64_id (by omega)]
        have := ih (i + 1) (relZL x.Links (false, t)).2 (by omega) (by omega) (by rw [relZL_len]; exact ht) (fun v hv => Int.le_trans (h0 v hv) (hmono v)) (fun v hv => by
          have := relZL_ub x.Links (false, t) (24 * i) hx.links ht hB v hv
          simp only [Int.natCast_add, Int.natCast_one]
          omega) (fun v hv l hl hb hto => by
            rw [← hto]
            exact p2 l hl hb (hv l hl hb hto)) (fun e hz => by
            have hi : i = x.Plan.length := by omega
            have all := py_all hx hz
            have : relZL x.Links (false, t) = (false, t) := relZL_none x.Links (false, t) fun l hl hb => by
              have := hs (nd l.To) (by rw [hi]; exact all _ (hx.links l hl).nd.2) l hl hb rfl
              exact this
            rw [this] at hc
            cases hc) fu (by omega)
        simpa only [Int.natCast_add, Int.natCast_one] using this
theorem ring_run (hx : ROk x) {fu : Nat} (hf : 20 ≤ fu) : ∃ b, MendRoundring fu x = some b ∧ (b = false ↔ Zf x) := by
  have n1 := hx.n1
  unfold MendRoundring
  rw [mks_in (by omega)]
  simp only [Option.bind_some]
  have hrep : ∀ v, tm (List.replicate x.Plan.length (0 : Int)) v = 0 := by
    intro v; unfold tm; rw [List.getElem?_replicate]; split <;> rfl
  have h := ring_loop2 hx (x.Plan.length + 2) 0 (List.replicate x.Plan.length 0) (by omega) (by omega) (by simp) (fun v _ => by rw [hrep]; omega) (fun v _ => by rw [hrep]; omega) (fun v hv => hv.elim) (fun e => by omega) fu (by omega)
  rcases h with ⟨e, hz⟩ | ⟨a, b, e, hz⟩
  · have e' : MendRoundring.loop2 x fu 0 (List.replicate x.Plan.length 0) = some (.ret false) := e
    rw [e']
    exact ⟨false, rfl, fun _ => hz, fun _ => rfl⟩
  · have e' : MendRoundring.loop2 x fu 0 (List.replicate x.Plan.length 0) = some (.next (a, b)) := e
    rw [e']
    exact ⟨true, rfl, fun q => (by cases q), fun q => absurd q hz⟩

/-! the other way: events taken away -/
def frees (w : List Bool) (k : Nat) (ls : List MendLink) : Bool := ls.all fun l => decide (l.Back > 0) || (l.To != ((k : Nat) : Int)) || bt w (nd l.From)
theorem free_loop {w : List Bool} (hw : w.length = x.Plan.length) (k : Nat) : ∀ (ls : List MendLink) (q : Bool), (∀ l ∈ ls, LkOk x l) → Fishref2RoundFault.loop5 w k ls q = some (q && frees w k ls)
  | [], q, _ => by simp [Fishref2RoundFault.loop5, frees]
  | l :: ls, q, h => by
    have ol := h l (List.mem_cons_self ..)
    have ih := fun q => free_loop hw k ls q (fun c hc => h c (List.mem_cons_of_mem _ hc))
    rw [Fishref2RoundFault.loop5, gx_bt ol.f0 (by rw [hw]; exact ol.f1)]
    have hf : frees w k (l :: ls) = ((decide (l.Back > 0) || (l.To != ((k : Nat) : Int)) || bt w (nd l.From)) && frees w k ls) := by simp [frees]
    cases q with
    | false => simp only [Bool.false_eq_true, if_false, Option.bind_some, ih, Bool.false_and]
    | true =>
      simp only [if_true, Option.bind_some]
      rw [hf]
      by_cases c1 : l.Back > 0
      · simp only [c1, decide_true, if_true, Option.bind_some, ih, Bool.true_or, Bool.true_and]
      · by_cases c2 : (l.To != ((k : Nat) : Int)) = true
        · simp only [c1, c2, decide_false, Bool.false_eq_true, if_false, if_true, Option.bind_some, ih, Bool.true_or, Bool.false_or, Bool.true_and]
        · have c2' : (l.To != ((k : Nat) : Int)) = false := by simpa using c2
          simp only [c1, c2', decide_false, Bool.false_eq_true, if_false, Option.bind_some, ih, Bool.false_or, Bool.true_and]
theorem frees_iff {w : List Bool} {k : Nat} {ls : List MendLink} : frees w k ls = true ↔ ∀ l ∈ ls, l.Back > 0 ∨ l.To ≠ ((k : Nat) : Int) ∨ bt w (nd l.From) = true := by
  simp [frees, List.all_eq_true, or_assoc]
/-- those that are away came away in an order -/
def Away (x : MendRound) (w : List Bool) : Prop := ∃ (h : Nat → Int) (B : Int), (∀ v, bt w v = true → h v < B) ∧ ∀ l ∈ x.Links, l.Back = 0 → bt w (nd l.To) = true → bt w (nd l.From) = true ∧ h (nd l.From) < h (nd l.To)
theorem away_loop4 (hx : ROk x) {i : Nat} : ∀ (ps : List Int) (k : Nat) (w : List Bool), k + ps.length = x.Plan.length → w.length = x.Plan.length → Away x w → (∀ v, v < x.Plan.length → Py x i v → bt w v = true) → (∀ v, v < k → Py x (i + 1) v → bt w v = true) →
    ∃ w', Fishref2RoundFault.loop4 x ps k w = some w' ∧ w'.length = x.Plan.length ∧ Away x w' ∧ ∀ v, v < x.Plan.length → Py x (i + 1) v → bt w' v = true
  | [], k, w, hk, hw, ha, _, h2 => ⟨w, rfl, hw, ha, fun v hv => h2 v (by simp at hk; omega)⟩
  | p :: ps, k, w, hk, hw, ha, h1, h2 => by
    simp only [List.length_cons] at hk
    have hkw : k < w.length := by omega
    have hkw' : ((k : Nat) : Int) < (w.length : Int) := by omega
    rw [Fishref2RoundFault.loop4, free_loop hw k x.Links true hx.links, gx_at hkw, ← bt_get hkw]
    simp only [Option.bind_some, Bool.true_and]
    rw [ix_in (by omega) hkw', sx_in (by omega) hkw', sx_in (by omega) hkw']
    simp only [Option.bind_some, Int.toNat_natCast]
    by_cases c : bt w k = true
    · simp only [c, if_true, Option.bind_some]
      have hsame : ∀ v, bt (w.set k true) v = bt w v := by
        intro v
        rw [bt_set hkw]
        split
        · rename_i e; rw [e, c]
        · rfl
      refine away_loop4 hx ps (k + 1) (w.set k true) (by omega) (by simpa using hw) ?_ (fun v hv hp => by rw [hsame]; exact h1 v hv hp) (fun v hv hp => ?_)
      · obtain ⟨h, B, a1, a2⟩ := ha
        exact ⟨h, B, fun v hv => a1 v (by rwa [hsame] at hv), fun l hl hb ht => by rw [hsame] at ht ⊢; exact a2 l hl hb ht⟩
      · rw [hsame]
        by_cases e : v = k
        · subst e; exact c
        · exact h2 v (by omega) hp
    · have c' : bt w k = false := by simpa using c
      simp only [c', Bool.false_eq_true, if_false, Option.bind_some]
      cases hf : frees w k x.Links with
      | false =>
        have hsame : ∀ v, bt (w.set k false) v = bt w v := by
          intro v
          rw [bt_set hkw]
          split
          · rename_i e; rw [e, c']
          · rfl
        refine away_loop4 hx ps (k + 1) (w.set k false) (by omega) (by simpa using hw) ?_ (fun v hv hp => by rw [hsame]; exact h1 v hv hp) (fun v hv hp => ?_)
        · obtain ⟨h, B, a1, a2⟩ := ha
          exact ⟨h, B, fun v hv => a1 v (by rwa [hsame] at hv), fun l hl hb ht => by rw [hsame] at ht ⊢; exact a2 l hl hb ht⟩
        · rw [hsame]
          by_cases e : v = k
          · exfalso
            subst e
            have : frees w v x.Links = true := frees_iff.2 fun l hl => by
              have ol := hx.links l hl
              by_cases q1 : l.Back > 0
              · exact .inl q1
              · by_cases q2 : l.To = ((v : Nat) : Int)
                · have hb : l.Back = 0 := by have := ol.b0; omega
                  exact .inr (.inr (h1 _ ol.nd.1 (hp l hl hb (by unfold nd; omega))))
                · exact .inr (.inl q2)
            rw [this] at hf
            cases hf
          · exact h2 v (by omega) hp
      | true =>
        have hset : ∀ v, bt (w.set k true) v = if v = k then true else bt w v := fun v => bt_set hkw
        refine away_loop4 hx ps (k + 1) (w.set k true) (by omega) (by simpa using hw) ?_ (fun v hv hp => by
          rw [hset]; split
          · rfl
          · exact h1 v hv hp) (fun v hv hp => ?_)
        · obtain ⟨h, B, a1, a2⟩ := ha
          refine ⟨fun v => if v = k then B else h v, B + 1, fun v hv => ?_, fun l hl hb ht => ?_⟩
          · rw [hset] at hv
            by_cases e : v = k
            · simp only [if_pos e]; omega
            · rw [if_neg e] at hv
              simp only [if_neg e]
              have := a1 v hv
              omega
          · have ol := hx.links l hl
            rw [hset] at ht ⊢
            by_cases e : nd l.To = k
            · have hfr : bt w (nd l.From) = true := by
                rcases frees_iff.1 hf l hl with q | q | q
                · omega
                · exact absurd (by have := ol.t0; unfold nd at e; omega) q
                · exact q
              have ne : nd l.From ≠ k := fun q => by rw [q, c'] at hfr; cases hfr
              simp only [if_pos e, if_neg ne]
              exact ⟨hfr, a1 _ hfr⟩
            · rw [if_neg e] at ht
              obtain ⟨b1, b2⟩ := a2 l hl hb ht
              have ne : nd l.From ≠ k := fun q => by rw [q, c'] at b1; cases b1
              simp only [if_neg e, if_neg ne]
              exact ⟨b1, b2⟩
        · rw [hset]
          by_cases e : v = k
          · rw [if_pos e]
          · rw [if_neg e]; exact h2 v (by omega) hp
theorem away_loop3 (hx : ROk x) : ∀ (ps : List Int) (i : Nat) (w : List Bool), w.length = x.Plan.length → Away x w → (∀ v, v < x.Plan.length → Py x i v → bt w v = true) →
    ∃ w', Fishref2RoundFault.loop3 x ps w = some w' ∧ w'.length = x.Plan.length ∧ Away x w' ∧ ∀ v, v < x.Plan.length → Py x (i + ps.length) v → bt w' v = true
  | [], i, w, hw, ha, h => ⟨w, rfl, hw, ha, h⟩
  | p :: ps, i, w, hw, ha, h => by
    obtain ⟨w1, e1, a1, a2, a3⟩ := away_loop4 hx (i := i) x.Plan 0 w (by omega) hw ha h (fun v hv => absurd hv (Nat.not_lt_zero _))
    obtain ⟨w', f1, f2, f3, f4⟩ := away_loop3 hx ps (i + 1) w1 a1 a2 a3
    rw [Fishref2RoundFault.loop3, e1]
    refine ⟨w', f1, f2, f3, fun v hv hp => f4 v hv ?_⟩
    rw [List.length_cons] at hp
    rw [show i + 1 + ps.length = i + (ps.length + 1) by omega]
    exact hp
theorem has_false : ∀ (w : List Bool) (k : Nat), (SlicesIndexLbool.loop1 false w k = .next () ∧ ∀ v, v < w.length → bt w v = true) ∨ (∃ j : Nat, SlicesIndexLbool.loop1 false w k = .ret (j : Int) ∧ ∃ v, v < w.length ∧ bt w v = false)
  | [], _ => .inl ⟨rfl, fun v hv => absurd hv (Nat.not_lt_zero _)⟩
  | false :: w, k => .inr ⟨k, rfl, 0, by simp, rfl⟩
  | true :: w, k => by
    rw [SlicesIndexLbool.loop1]
    rcases has_false w (k + 1) with ⟨e, h⟩ | ⟨j, e, v, hv, h⟩
    · refine .inl ⟨e, fun v hv => ?_⟩
      cases v with
      | zero => rfl
      | succ v => have := h v (by simpa using hv); simpa [bt] using this
    · exact .inr ⟨j, e, v + 1, by simpa using hv, by simpa [bt] using h⟩
theorem away_run (hx : ROk x) : ∃ w, ((mks ((x.Plan.length : Nat) : Int) (false : Bool)).bind fun q => Fishref2RoundFault.loop3 x x.Plan q) = some w ∧ (SlicesContainsLbool w false = false ↔ Zf x) := by
  have n1 := hx.n1
  rw [mks_in (by omega), Option.bind_some]
  have hrep : ∀ v, bt (List.replicate x.Plan.length false) v = false := by
    intro v; unfold bt; rw [List.getElem?_replicate]; split <;> rfl
  obtain ⟨w, e, h1, h2, h3⟩ := away_loop3 hx x.Plan 0 (List.replicate x.Plan.length false) (by simp) ⟨fun _ => 0, 0, fun v hv => (by rw [hrep] at hv; cases hv), fun l _ _ ht => (by rw [hrep] at ht; cases ht)⟩ (fun v _ hp => hp.elim)
  refine ⟨w, e, ?_⟩
  unfold SlicesContainsLbool SlicesIndexLbool bnd
  rcases has_false w 0 with ⟨q, all⟩ | ⟨j, q, v, hv, no⟩
  · rw [q]
    refine ⟨fun _ => ?_, fun _ => rfl⟩
    obtain ⟨h, B, _, a2⟩ := h2
    exact ⟨h, fun l hl hb => (a2 l hl hb (all _ (by rw [h1]; exact (hx.links l hl).nd.2))).2⟩
  · rw [q]
    have hj : decide (((j : Nat) : Int) ≥ 0) = true := decide_eq_true (by omega)
    refine ⟨fun q => (by rw [hj] at q; cases q), fun hz => ?_⟩
    have := h3 v (by omega) (by rw [Nat.zero_add]; exact py_all hx hz v (by omega))
    rw [no] at this
    cases this
end
/-- both say the same of a round -/
theorem round_eq (x : MendRound) {fu : Nat} (hf : 20 ≤ fu) : MendCheckRound fu x = Fishref2RoundFault x ∧ ∃ r, Fishref2RoundFault x = some r ∧ (r = 0 → ROk x) := by
  unfold MendCheckRound Fishref2RoundFault
  rw [rw_eq]
  simp only [mwithin, bnd]
  by_cases c1 : 1 ≤ x.Period ∧ x.Period ≤ 3600
  · rw [decide_eq_true c1]
    simp only [Bool.not_true, Bool.false_eq_true, if_false]
    by_cases c2 : 1 ≤ (x.Plan.length : Int) ∧ (x.Plan.length : Int) ≤ 8
    · rw [decide_eq_true c2]
      simp only [Bool.not_true, Bool.false_eq_true, if_false]
      by_cases c3 : (x.Links.length : Int) > 24
      · rw [decide_eq_true c3]
        simp only [if_true]
        exact ⟨trivial, 4, rfl, fun e => by cases e⟩
      · rw [decide_eq_false c3]
        simp only [Bool.false_eq_true, if_false, plan_eq, links_eq x (by omega)]
        have hp := plan_ok x c1.2 c1.1 x.Plan
        have hl := fun hpl => links_ok (x := x) c1.1 c1.2 (by omega) hpl x.Links
        have hr := fun hx : ROk x => ring_run hx hf
        have ha := fun hx : ROk x => away_run hx
        generalize MendCheckRound.loop1 x x.Plan = P at *
        generalize MendCheckRound.loop2 x x.Links = L at *
        generalize MendRoundring fu x = R at *
        generalize mks ((x.Plan.length : Nat) : Int) (false : Bool) = M at *
        generalize Fishref2RoundFault.loop3 x x.Plan = G at *
        rcases hp with rfl | ⟨rfl, hpl⟩
        · dsimp only
          exact ⟨rfl, 2, rfl, fun e => by cases e⟩
        · rcases hl hpl with ⟨r, rfl, hr⟩ | ⟨rfl, hl2⟩
          · simp only [Option.bind_some]
            exact ⟨trivial, r, rfl, fun e => absurd e hr⟩
          · have hx : ROk x := ⟨c1.1, c1.2, by omega, by omega, by omega, hpl, hl2⟩
            obtain ⟨b, rfl, hb2⟩ := hr hx
            obtain ⟨w, hw, hw2⟩ := ha hx
            have : b = SlicesContainsLbool w false := by
              cases b with
              | false => exact (hw2.2 (hb2.1 rfl)).symm
              | true =>
                cases q : SlicesContainsLbool w false with
                | false => exact absurd (hb2.2 (hw2.1 q)) (by simp)
                | true => rfl
            have e3 : (M.bind fun x116 => (G x116).bind fun q133 => if SlicesContainsLbool q133 false = true then some 5 else some (0 : Int)) = (if b = true then some 5 else some 0) := by
              rw [← Option.bind_assoc, hw, Option.bind_some, this]
            simp only [Option.bind_some, e3]
            exact ⟨trivial, (if b = true then 5 else 0), (by split <;> rfl), fun _ => hx⟩
    · rw [decide_eq_false c2]
      simp only [Bool.not_false, if_true]
      exact ⟨trivial, 4, rfl, fun e => by cases e⟩
  · rw [decide_eq_false c1]
    simp only [Bool.not_false, if_true]
    exact ⟨trivial, 2, rfl, fun e => by cases e⟩
/-! delays, period by period -/
theorem slice_sum_set : ∀ (l : List Int) (i : Nat) (x : Int), i < l.length → (l.set i x).sum = l.sum - tm l i + x
  | [], i, x, h => absurd h (Nat.not_lt_zero _)
  | a :: l, 0, x, _ => by simp [tm]; omega
  | a :: l, i + 1, x, h => by
    have := slice_sum_set l i x (by simpa using h)
    simp only [List.set_cons_succ, List.sum_cons, this]
    have : tm (a :: l) (i + 1) = tm l i := by simp [tm]
    rw [this]; omega
def row (g : List (List Int)) (k : Nat) : List Int := (g[k]?).getD []
def gv (g : List (List Int)) (k v : Nat) : Int := tm (row g k) v
def gsum (g : List (List Int)) : Int := (g.map List.sum).sum
theorem row_set {g : List (List Int)} {k j : Nat} {r : List Int} (h : k < g.length) : row (g.set k r) j = if j = k then r else row g j := by
  unfold row
  by_cases c : j = k
  · subst c; rw [if_pos rfl, List.getElem?_set_self h]; rfl
  · rw [if_neg c, List.getElem?_set_ne (fun e => c e.symm)]
theorem gx_row {g : List (List Int)} {i : Int} (h0 : 0 ≤ i) (h1 : i < g.length) : gx g i = some (row g (nd i)) := by
  have h : i.toNat < g.length := by omega
  rw [gx_toNat h0 h]; simp [row, nd, h]
theorem gx_rowN {g : List (List Int)} {k : Nat} (h : k < g.length) : gx g ((k : Nat) : Int) = some (row g k) := by
  rw [gx_at h]; simp [row, h]
theorem gv_set {g : List (List Int)} {k v : Nat} {a : Int} (h : k < g.length) (hv : v < (row g k).length) (j u : Nat) : gv (g.set k ((row g k).set v a)) j u = if j = k ∧ u = v then a else gv g j u := by
  unfold gv
  rw [row_set h]
  by_cases c : j = k
  · subst c
    rw [if_pos rfl, tm_set hv]
    by_cases e : u = v
    · rw [if_pos e, if_pos ⟨rfl, e⟩]
    · rw [if_neg e, if_neg (fun q => e q.2)]
  · rw [if_neg c, if_neg (fun q => c q.1)]
theorem gsum_set : ∀ (g : List (List Int)) (k : Nat) (r : List Int), k < g.length → gsum (g.set k r) = gsum g - (row g k).sum + r.sum
  | [], k, r, h => absurd h (Nat.not_lt_zero _)
  | a :: g, 0, r, _ => by simp [gsum, row]; omega
  | a :: g, k + 1, r, h => by
    have := gsum_set g k r (by simpa using h)
    unfold gsum at this ⊢
    simp only [List.set_cons_succ, List.map_cons, List.sum_cons, this]
    have : row (a :: g) (k + 1) = row g k := by simp [row]
    rw [this]; omega
def Shape (n : Nat) (g : List (List Int)) (R : Nat) : Prop := g.length = R ∧ ∀ k, k < R → (row g k).length = n
def ini (l : List MendFirst) (k v : Nat) : Int := l.foldl (fun m f => if f.Period = ((k : Nat) : Int) ∧ nd f.Event = v then mx m f.Secs else m) 0
structure FOk (x : MendRound) (f : MendFirst) : Prop where
  e0 : 0 ≤ f.Event
  e1 : f.Event < x.Plan.length
  p0 : 0 ≤ f.Period
  p1 : f.Period < 60
  s0 : 0 ≤ f.Secs
  s1 : f.Secs ≤ 28800
theorem mx2 (a b : Int) : a ≤ mx a b ∧ (mx a b = a ∨ mx a b = b) := by unfold mx; split <;> omega
theorem ini_bd {x : MendRound} {k v : Nat} : ∀ (l : List MendFirst) (m : Int), (∀ f ∈ l, FOk x f) → 0 ≤ m → m ≤ 28800 →
    0 ≤ l.foldl (fun m f => if f.Period = ((k : Nat) : Int) ∧ nd f.Event = v then mx m f.Secs else m) m ∧ l.foldl (fun m f => if f.Period = ((k : Nat) : Int) ∧ nd f.Event = v then mx m f.Secs else m) m ≤ 28800
  | [], m, _, h0, h1 => ⟨h0, h1⟩
  | f :: l, m, h, h0, h1 => by
    have hf := h f (List.mem_cons_self ..)
    have s0 := hf.s0
    have s1 := hf.s1
    obtain ⟨m1, m2⟩ := mx2 m f.Secs
    simp only [List.foldl_cons]
    refine ini_bd l _ (fun b hb => h b (List.mem_cons_of_mem _ hb)) ?_ ?_
    · split <;> omega
    · split <;> omega
structure SolD (x : MendRound) (l : List MendFirst) (P : Nat) (S : Nat → Nat → Int) : Prop where
  ge : ∀ k, k < P → ∀ v, v < x.Plan.length → ini l k v ≤ S k v
  feas : ∀ k, k < P → ∀ a ∈ x.Links, nd a.Back ≤ k → S (k - nd a.Back) (nd a.From) - sl x a ≤ S k (nd a.To)
theorem sol_const {x : MendRound} (hx : ROk x) {l : List MendFirst} (hl : ∀ f ∈ l, FOk x f) (P : Nat) : SolD x l P (fun _ _ => 28800) :=
  ⟨fun k _ v _ => (ini_bd l 0 hl (by omega) (by omega)).2, fun k _ a ha _ => by have := (hx.links a ha).s0; omega⟩
structure GI (x : MendRound) (l : List MendFirst) (P R : Nat) (g : List (List Int)) : Prop where
  shape : Shape x.Plan.length g R
  ge : ∀ k, k < R → ∀ v, v < x.Plan.length → ini l k v ≤ gv g k v
  le : ∀ S, SolD x l P S → ∀ k, k < R → ∀ v, v < x.Plan.length → gv g k v ≤ S k v
theorem GI.bd {x : MendRound} (hx : ROk x) {l : List MendFirst} (hl : ∀ f ∈ l, FOk x f) {P R : Nat} {g : List (List Int)} (h : GI x l P R g) : ∀ k, k < R → ∀ v, v < x.Plan.length → 0 ≤ gv g k v ∧ gv g k v ≤ 28800 := by
  intro k hk v hv
  exact ⟨Int.le_trans (ini_bd l 0 hl (by omega) (by omega)).1 (h.ge k hk v hv), h.le _ (sol_const hx hl P) k hk v hv⟩
def relG (x : MendRound) (k : Nat) (a : MendLink) (z : Bool × List (List Int)) : Bool × List (List Int) :=
  if nd a.Back ≤ k ∧ gv z.2 (k - nd a.Back) (nd a.From) - sl x a > gv z.2 k (nd a.To) then (true, z.2.set k ((row z.2 k).set (nd a.To) (gv z.2 (k - nd a.Back) (nd a.From) - sl x a))) else z
def rowP (x : MendRound) (k : Nat) (ls : List MendLink) (z : Bool × List (List Int)) : Bool × List (List Int) := ls.foldl (fun z a => relG x k a z) z
section
variable {x : MendRound} {l : List MendFirst} {P R : Nat}
theorem relG_gi {k : Nat} (hk : k < R) (hR : R ≤ P) {a : MendLink} (ha : a ∈ x.Links) (hx : ROk x) {z : Bool × List (List Int)} (h : GI x l P R z.2) : GI x l P R (relG x k a z).2 ∧ gsum z.2 ≤ gsum (relG x k a z).2 ∧ (∀ j, j < k → row (relG x k a z).2 j = row z.2 j) := by
  obtain ⟨d1, d2⟩ := (hx.links a ha).nd
  have hkl : k < z.2.length := by rw [h.shape.1]; exact hk
  have hrl := h.shape.2 k hk
  unfold relG
  by_cases c : nd a.Back ≤ k ∧ gv z.2 (k - nd a.Back) (nd a.From) - sl x a > gv z.2 k (nd a.To)
  · rw [if_pos c]
    have hset := gv_set (a := gv z.2 (k - nd a.Back) (nd a.From) - sl x a) hkl (show nd a.To < (row z.2 k).length by rw [hrl]; exact d2)
    refine ⟨⟨⟨by simpa using h.shape.1, fun j hj => ?_⟩, fun j hj v hv => ?_, fun S hS j hj v hv => ?_⟩, ?_, fun j hj => ?_⟩
    · show (row (z.2.set k _) j).length = _
      rw [row_set hkl]
      split
      · simpa using hrl
      · exact h.shape.2 j hj
    · show _ ≤ gv (z.2.set k _) j v
      rw [hset]
      have := h.ge j hj v hv
      split
      · rename_i e; rw [e.1, e.2] at this ⊢; omega
      · exact this
    · show gv (z.2.set k _) j v ≤ _
      rw [hset]
      split
      · rename_i e
        rw [e.1, e.2]
        have h1 := hS.feas k (by omega) a ha c.1
        have h2 := h.le S hS (k - nd a.Back) (by omega) _ d1
        omega
      · exact h.le S hS j hj v hv
    · show _ ≤ gsum (z.2.set k _)
      rw [gsum_set _ _ _ hkl, slice_sum_set _ _ _ (by rw [hrl]; exact d2)]
      have : gv z.2 k (nd a.To) = tm (row z.2 k) (nd a.To) := rfl
      omega
    · show row (z.2.set k _) j = _
      rw [row_set hkl, if_neg (by omega)]
  · rw [if_neg c]
    exact ⟨h, Int.le_refl _, fun _ _ => rfl⟩
theorem rowP_gi {k : Nat} (hk : k < R) (hR : R ≤ P) (hx : ROk x) : ∀ (ls : List MendLink) (z : Bool × List (List Int)), (∀ a ∈ ls, a ∈ x.Links) → GI x l P R z.2 → GI x l P R (rowP x k ls z).2 ∧ gsum z.2 ≤ gsum (rowP x k ls z).2 ∧ (∀ j, j < k → row (rowP x k ls z).2 j = row z.2 j)
  | [], z, _, h => ⟨h, Int.le_refl _, fun _ _ => rfl⟩
  | a :: ls, z, hl, h => by
    obtain ⟨h1, h2, h3⟩ := relG_gi hk hR (hl a (List.mem_cons_self ..)) hx h
    obtain ⟨i1, i2, i3⟩ := rowP_gi hk hR hx ls (relG x k a z) (fun b hb => hl b (List.mem_cons_of_mem _ hb)) h1
    exact ⟨i1, Int.le_trans h2 i2, fun j hj => (i3 j hj).trans (h3 j hj)⟩
theorem rowP_true {k : Nat} : ∀ (ls : List MendLink) (z : Bool × List (List Int)), z.1 = true → (rowP x k ls z).1 = true
  | [], _, h => h
  | a :: ls, z, h => rowP_true ls (relG x k a z) (by unfold relG; split <;> simp [h])
def RowOk (x : MendRound) (g : List (List Int)) (k : Nat) (ls : List MendLink) : Prop := ∀ a ∈ ls, nd a.Back ≤ k → gv g (k - nd a.Back) (nd a.From) - sl x a ≤ gv g k (nd a.To)
theorem rowP_same {k : Nat} : ∀ (ls : List MendLink) (z : Bool × List (List Int)), (rowP x k ls z).1 = false → rowP x k ls z = z ∧ RowOk x z.2 k ls
  | [], z, _ => ⟨rfl, fun a ha => by cases ha⟩
  | b :: ls, z, h => by
    have e : relG x k b z = z ∧ ¬ (nd b.Back ≤ k ∧ gv z.2 (k - nd b.Back) (nd b.From) - sl x b > gv z.2 k (nd b.To)) := by
      by_cases c : nd b.Back ≤ k ∧ gv z.2 (k - nd b.Back) (nd b.From) - sl x b > gv z.2 k (nd b.To)
      · exfalso
        have := rowP_true (x := x) (k := k) ls (relG x k b z) (by unfold relG; rw [if_pos c])
        rw [show rowP x k (b :: ls) z = rowP x k ls (relG x k b z) from rfl, this] at h
        cases h
      · exact ⟨by unfold relG; rw [if_neg c], c⟩
    rw [show rowP x k (b :: ls) z = rowP x k ls (relG x k b z) from rfl, e.1] at h ⊢
    obtain ⟨i1, i2⟩ := rowP_same ls z h
    refine ⟨i1, fun a ha hb => ?_⟩
    rcases List.mem_cons.1 ha with rfl | ha
    · have := e.2
      refine Classical.byContradiction fun q => this ⟨hb, by omega⟩
    · exact i2 a ha hb
theorem rowP_grow {k : Nat} (hk : k < R) (hR : R ≤ P) (hx : ROk x) : ∀ (ls : List MendLink) (z : Bool × List (List Int)), (∀ a ∈ ls, a ∈ x.Links) → GI x l P R z.2 → z.1 = false → (rowP x k ls z).1 = true → gsum z.2 + 1 ≤ gsum (rowP x k ls z).2
  | [], z, _, _, h, h2 => by rw [show rowP x k [] z = z from rfl, h] at h2; cases h2
  | a :: ls, z, hl, h, hz, ht => by
    have ha := hl a (List.mem_cons_self ..)
    obtain ⟨h1, h2, h3⟩ := relG_gi hk hR ha hx h
    obtain ⟨i1, i2, i3⟩ := rowP_gi hk hR hx ls (relG x k a z) (fun b hb => hl b (List.mem_cons_of_mem _ hb)) h1
    rw [show rowP x k (a :: ls) z = rowP x k ls (relG x k a z) from rfl] at ht ⊢
    obtain ⟨d1, d2⟩ := (hx.links a ha).nd
    have hkl : k < z.2.length := by rw [h.shape.1]; exact hk
    have hrl := h.shape.2 k hk
    by_cases c : nd a.Back ≤ k ∧ gv z.2 (k - nd a.Back) (nd a.From) - sl x a > gv z.2 k (nd a.To)
    · have e : relG x k a z = (true, z.2.set k ((row z.2 k).set (nd a.To) (gv z.2 (k - nd a.Back) (nd a.From) - sl x a))) := if_pos c
      have : gsum z.2 + 1 ≤ gsum (relG x k a z).2 := by
        rw [e]
        show _ ≤ gsum (z.2.set k _)
        rw [gsum_set _ _ _ hkl, slice_sum_set _ _ _ (by rw [hrl]; exact d2)]
        have : gv z.2 k (nd a.To) = tm (row z.2 k) (nd a.To) := rfl
        omega
      omega
    · have e : relG x k a z = z := if_neg c
      rw [e] at ht ⊢
      exact rowP_grow hk hR hx ls z (fun b hb => hl b (List.mem_cons_of_mem _ hb)) h hz ht
theorem sum_le (B : Int) : ∀ (r : List Int), (∀ v, v < r.length → tm r v ≤ B) → r.sum ≤ r.length * B
  | [], _ => by simp
  | a :: r, h => by
    have i := sum_le B r (fun v hv => by have := h (v + 1) (by simpa using hv); simpa [tm] using this)
    have h0 := h 0 (by simp)
    simp only [tm, List.getElem?_cons_zero, Option.getD_some] at h0
    simp only [List.sum_cons, List.length_cons, Int.natCast_add, Int.natCast_one, Int.add_mul, Int.one_mul]
    omega
theorem gsum_le : ∀ (g : List (List Int)), (∀ k, k < g.length → (row g k).sum ≤ 230400) → gsum g ≤ 230400 * g.length
  | [], _ => by simp [gsum]
  | a :: g, h => by
    have i := gsum_le g (fun k hk => by have := h (k + 1) (by simpa using hk); simpa [row] using this)
    have h0 := h 0 (by simp)
    simp only [row, List.getElem?_cons_zero, Option.getD_some] at h0
    unfold gsum at i ⊢
    simp only [List.map_cons, List.sum_cons, List.length_cons, Int.natCast_add, Int.natCast_one]
    omega
theorem GI.sum (hx : ROk x) (hl : ∀ f ∈ l, FOk x f) (hP : P ≤ 60) (hR : R ≤ P) {g : List (List Int)} (h : GI x l P R g) : gsum g ≤ 13824000 := by
  have n1 := hx.n1
  have := gsum_le g fun k hk => by
    rw [h.shape.1] at hk
    have := sum_le 28800 (row g k) fun v hv => by rw [h.shape.2 k hk] at hv; exact (h.bd hx hl k hk v hv).2
    rw [h.shape.2 k hk] at this
    have : (x.Plan.length : Int) * 28800 ≤ 8 * 28800 := Int.mul_le_mul_of_nonneg_right (by omega) (by omega)
    omega
  rw [h.shape.1] at this
  omega
theorem link_slack (hx : ROk x) {a : MendLink} (ha : a ∈ x.Links) : MendRoundslack x a = some (sl x a) := by
  have h := hx.links a ha
  exact (slack_some hx.p0 hx.p1 hx.plan h.f0 h.f1 h.t0 h.t1 h.n0 h.n1 h.b0 h.b1).1
/-- one row, as the reference goes over it -/
theorem ref_loop5 (hx : ROk x) (hl : ∀ f ∈ l, FOk x f) {k : Nat} (hk : k < R) (hR : R ≤ P) (hP : P ≤ 60) : ∀ (ls : List MendLink) (z : Bool × List (List Int)), (∀ a ∈ ls, a ∈ x.Links) → GI x l P R z.2 → Fishref2SpreadOf.loop5 x k ls z.1 z.2 = some (rowP x k ls z)
  | [], z, _, _ => rfl
  | a :: ls, z, h, hg => by
    have ha := h a (List.mem_cons_self ..)
    have oa := hx.links a ha
    obtain ⟨d1, d2⟩ := oa.nd
    have f0 := oa.f0
    have f1 := oa.f1
    have t0 := oa.t0
    have t1 := oa.t1
    have b0 := oa.b0
    have s0 := oa.s0
    have s1 := oa.s1
    have hgl := hg.shape.1
    have hnext := ref_loop5 hx hl hk hR hP ls (relG x k a z) (fun b hb => h b (List.mem_cons_of_mem _ hb)) (relG_gi hk hR ha hx hg).1
    rw [show rowP x k (a :: ls) z = rowP x k ls (relG x k a z) from rfl, Fishref2SpreadOf.loop5]
    by_cases c : nd a.Back ≤ k
    · have hnb : ((nd a.Back : Nat) : Int) = a.Back := by unfold nd; omega
      have hkb : w64 (((k : Nat) : Int) - a.Back) = ((k - nd a.Back : Nat) : Int) := by rw [w64_id (by omega)]; omega
      have hkj : k - nd a.Back < R := by omega
      obtain ⟨v0, v1⟩ := hg.bd hx hl (k - nd a.Back) hkj _ d1
      rw [if_neg (by simp; omega), hkb, gx_rowN (show k - nd a.Back < z.2.length by omega)]
      simp only [Option.bind_some]
      rw [gx_tm f0 (by rw [hg.shape.2 _ hkj]; exact f1), slack_eq, link_slack hx ha, gx_rowN (show k < z.2.length by omega)]
      simp only [Option.bind_some]
      rw [gx_tm t0 (by rw [hg.shape.2 _ hk]; exact t1)]
      simp only [Option.bind_some]
      have e1 : tm (row z.2 (k - nd a.Back)) (nd a.From) = gv z.2 (k - nd a.Back) (nd a.From) := rfl
      have e2 : tm (row z.2 k) (nd a.To) = gv z.2 k (nd a.To) := rfl
      rw [e1, e2, w64_id (by omega)]
      by_cases q : gv z.2 (k - nd a.Back) (nd a.From) - sl x a > gv z.2 k (nd a.To)
      · have e : relG x k a z = (true, z.2.set k ((row z.2 k).set (nd a.To) (gv z.2 (k - nd a.Back) (nd a.From) - sl x a))) := if_pos ⟨c, q⟩
        rw [if_pos (by simpa using q), ix_in t0 (by rw [hg.shape.2 _ hk]; exact t1), sx_in t0 (by rw [hg.shape.2 _ hk]; exact t1)]
        simp only [Option.bind_some, Int.toNat_natCast]
        rw [e] at hnext ⊢
        exact hnext
      · have e : relG x k a z = z := if_neg (fun u => q u.2)
        rw [if_neg (by simpa using q)]
        simp only [Option.bind_some]
        rw [e] at hnext ⊢
        exact hnext
    · have e : relG x k a z = z := if_neg (fun u => c u.1)
      rw [if_pos (by unfold nd at c; simp; omega)]
      rw [e] at hnext ⊢
      exact hnext
/-- all rows, one after the other -/
def sweep (x : MendRound) : Nat → Nat → Bool × List (List Int) → Bool × List (List Int)
  | 0, _, z => z
  | m + 1, k, z => sweep x m (k + 1) (rowP x k x.Links z)
theorem ref_loop4 (hx : ROk x) (hl : ∀ f ∈ l, FOk x f) (hP : P ≤ 60) : ∀ (m k : Nat) (z : Bool × List (List Int)), m + k = P → GI x l P P z.2 → Fishref2SpreadOf.loop4 x m k z.1 z.2 = some (sweep x m k z) ∧ GI x l P P (sweep x m k z).2 ∧ gsum z.2 ≤ gsum (sweep x m k z).2
  | 0, k, z, _, h => ⟨rfl, h, Int.le_refl _⟩
  | m + 1, k, z, hm, h => by
    have hk : k < P := by omega
    obtain ⟨g1, g2, _⟩ := rowP_gi hk (Nat.le_refl P) hx x.Links z (fun a ha => ha) h
    obtain ⟨i1, i2, i3⟩ := ref_loop4 hx hl hP m (k + 1) (rowP x k x.Links z) (by omega) g1
    rw [Fishref2SpreadOf.loop4, ref_loop5 hx hl hk (Nat.le_refl P) hP x.Links z (fun a ha => ha) h]
    exact ⟨i1, i2, Int.le_trans g2 i3⟩
theorem sweep_true : ∀ (m k : Nat) (z : Bool × List (List Int)), z.1 = true → (sweep x m k z).1 = true
  | 0, _, _, h => h
  | m + 1, k, z, h => sweep_true m (k + 1) _ (rowP_true x.Links z h)
theorem sweep_same : ∀ (m k : Nat) (z : Bool × List (List Int)), (sweep x m k z).1 = false → sweep x m k z = z ∧ ∀ j, k ≤ j → j < k + m → RowOk x z.2 j x.Links
  | 0, k, z, _ => ⟨rfl, fun j h1 h2 => by omega⟩
  | m + 1, k, z, h => by
    have hf : (rowP x k x.Links z).1 = false := by
      cases q : (rowP x k x.Links z).1 with
      | false => rfl
      | true =>
        have := sweep_true (x := x) m (k + 1) _ q
        rw [show sweep x (m + 1) k z = sweep x m (k + 1) (rowP x k x.Links z) from rfl, this] at h
        cases h
    obtain ⟨e, ok⟩ := rowP_same x.Links z hf
    rw [show sweep x (m + 1) k z = sweep x m (k + 1) (rowP x k x.Links z) from rfl, e] at h ⊢
    obtain ⟨i1, i2⟩ := sweep_same m (k + 1) z h
    refine ⟨i1, fun j h1 h2 => ?_⟩
    by_cases c : j = k
    · subst c; exact ok
    · exact i2 j (by omega) (by omega)
theorem sweep_grow (hx : ROk x) : ∀ (m k : Nat) (z : Bool × List (List Int)), m + k = P → GI x l P P z.2 → z.1 = false → (sweep x m k z).1 = true → gsum z.2 + 1 ≤ gsum (sweep x m k z).2
  | 0, k, z, _, _, h, h2 => by rw [show sweep x 0 k z = z from rfl, h] at h2; cases h2
  | m + 1, k, z, hm, hg, h, h2 => by
    have hk : k < P := by omega
    obtain ⟨g1, g2, _⟩ := rowP_gi hk (Nat.le_refl P) hx x.Links z (fun a ha => ha) hg
    have mono : ∀ (m k : Nat) (z : Bool × List (List Int)), m + k = P → GI x l P P z.2 → gsum z.2 ≤ gsum (sweep x m k z).2 := by
      intro m
      induction m with
      | zero => intro k z _ _; exact Int.le_refl _
      | succ m ih =>
        intro k z hm h
        obtain ⟨g1, g2, _⟩ := rowP_gi (show k < P by omega) (Nat.le_refl P) hx x.Links z (fun a ha => ha) h
        exact Int.le_trans g2 (ih (k + 1) _ (by omega) g1)
    rw [show sweep x (m + 1) k z = sweep x m (k + 1) (rowP x k x.Links z) from rfl] at h2 ⊢
    cases q : (rowP x k x.Links z).1 with
    | true =>
      have := rowP_grow hk (Nat.le_refl P) hx x.Links z (fun a ha => ha) hg h q
      have := mono m (k + 1) _ (by omega) g1
      omega
    | false =>
      have := sweep_grow hx m (k + 1) _ (by omega) g1 q h2
      omega
/-- the least delays -/
structure Fin (x : MendRound) (l : List MendFirst) (P : Nat) (g : List (List Int)) : Prop where
  gi : GI x l P P g
  ok : ∀ k, k < P → RowOk x g k x.Links
theorem Fin.one {g h : List (List Int)} (a : Fin x l P g) (b : Fin x l P h) : g = h := by
  have sol : ∀ {g : List (List Int)}, Fin x l P g → SolD x l P (gv g) := fun f => ⟨f.gi.ge, fun k hk a ha hb => f.ok k hk a ha hb⟩
  refine List.ext_getElem (by rw [a.gi.shape.1, b.gi.shape.1]) fun k h1 h2 => ?_
  have hk : k < P := by rw [← a.gi.shape.1]; exact h1
  have r1 : row g k = g[k] := by simp [row, h1]
  have r2 : row h k = h[k] := by simp [row, h2]
  rw [← r1, ← r2]
  refine List.ext_getElem (by rw [a.gi.shape.2 k hk, b.gi.shape.2 k hk]) fun v h3 h4 => ?_
  rw [← tm_get h3, ← tm_get h4]
  have hv : v < x.Plan.length := by rw [← a.gi.shape.2 k hk]; exact h3
  have i1 : gv g k v ≤ gv h k v := a.gi.le _ (sol b) k hk v hv
  have i2 : gv h k v ≤ gv g k v := b.gi.le _ (sol a) k hk v hv
  show gv g k v = gv h k v
  omega
theorem ref_loop3 (hx : ROk x) (hl : ∀ f ∈ l, FOk x f) (hP : P ≤ 60) {w : List (List Int)} (hw : w.length = P) : ∀ (m : Nat) (g : List (List Int)), GI x l P P g → 13824000 - gsum g + 2 ≤ m →
    ∃ b g', Fishref2SpreadOf.loop3 x w m true g = some (b, g') ∧ Fin x l P g' := by
  intro m
  induction m with
  | zero => intro g hg hm; have := hg.sum hx hl hP (Nat.le_refl P); omega
  | succ m ih =>
    intro g hg hm
    obtain ⟨e, i2, _⟩ := ref_loop4 hx hl hP P 0 (false, g) rfl hg
    have hs := hg.sum hx hl hP (Nat.le_refl P)
    have e' : Fishref2SpreadOf.loop4 x w.length 0 false g = some (sweep x P 0 (false, g)) := by rw [hw]; exact e
    rw [Fishref2SpreadOf.loop3, if_pos rfl, e']
    simp only [Option.bind_some]
    cases q : (sweep x P 0 (false, g)).1 with
    | true =>
      have := sweep_grow hx P 0 (false, g) rfl hg rfl q
      have hs2 := i2.sum hx hl hP (Nat.le_refl P)
      exact ih _ i2 (by simp only at this; omega)
    | false =>
      obtain ⟨e2, ok⟩ := sweep_same P 0 (false, g) q
      obtain ⟨m, rfl⟩ : ∃ k, m = k + 1 := ⟨m - 1, by omega⟩
      rw [Fishref2SpreadOf.loop3, if_neg (by simp), e2]
      exact ⟨false, g, rfl, hg, fun k hk => ok k (Nat.zero_le _) (by omega)⟩
theorem ref_rows (hx : ROk x) : ∀ (m k : Nat) (g : List (List Int)), m + k = P → g.length = P → (∀ j, j < k → row g j = List.replicate x.Plan.length 0) →
    ∃ g', Fishref2SpreadOf.loop1 x m k g = some g' ∧ g'.length = P ∧ ∀ j, j < P → row g' j = List.replicate x.Plan.length 0
  | 0, k, g, hm, hg, h => ⟨g, rfl, hg, fun j hj => h j (by omega)⟩
  | m + 1, k, g, hm, hg, h => by
    have n1 := hx.n1
    have hk : k < g.length := by omega
    rw [Fishref2SpreadOf.loop1, mks_in (by omega)]
    simp only [Option.bind_some]
    rw [ix_in (by omega) (by omega), sx_in (by omega) (by omega)]
    simp only [Option.bind_some, Int.toNat_natCast]
    refine ref_rows hx m (k + 1) _ (by omega) (by simpa using hg) fun j hj => ?_
    rw [row_set hk]
    split
    · rfl
    · exact h j (by omega)
/-- the delays that are told, on a grid -/
theorem ref_firsts (hx : ROk x) (P : Nat) : ∀ (l : List MendFirst) (g : List (List Int)), (∀ f ∈ l, FOk x f) → Shape x.Plan.length g P →
    ∃ g', Fishref2SpreadOf.loop2 ((P : Nat) : Int) l g = some g' ∧ Shape x.Plan.length g' P ∧ ∀ k, k < P → ∀ v, v < x.Plan.length → gv g' k v = l.foldl (fun m f => if f.Period = ((k : Nat) : Int) ∧ nd f.Event = v then mx m f.Secs else m) (gv g k v)
  | [], g, _, h => ⟨g, rfl, h, fun _ _ _ _ => rfl⟩
  | f :: l, g, hf, h => by
    have of := hf f (List.mem_cons_self ..)
    have e0 := of.e0
    have e1 := of.e1
    have p0 := of.p0
    have hfl : ∀ b ∈ l, FOk x b := fun b hb => hf b (List.mem_cons_of_mem _ hb)
    have hev : nd f.Event < x.Plan.length := by unfold nd; omega
    rw [Fishref2SpreadOf.loop2]
    by_cases c : f.Period < ((P : Nat) : Int)
    · have hp : nd f.Period < P := by unfold nd; omega
      have hgl := h.1
      have hrow := h.2 _ hp
      have hgr : gx g f.Period = some (row g (nd f.Period)) := gx_row p0 (by omega)
      rw [if_pos (by simpa using c), hgr]
      simp only [Option.bind_some]
      rw [gx_tm e0 (by rw [hrow]; exact e1), ix_in e0 (by rw [hrow]; exact e1)]
      simp only [Option.bind_some]
      rw [sx_in e0 (by rw [hrow]; exact e1)]
      simp only [Option.bind_some]
      have hset := fun a => gv_set (g := g) (k := nd f.Period) (v := nd f.Event) (a := a) (by omega) (by rw [hrow]; exact hev)
      obtain ⟨g', q1, q2, q3⟩ := ref_firsts hx P l (g.set (nd f.Period) ((row g (nd f.Period)).set (nd f.Event) (mx (tm (row g (nd f.Period)) (nd f.Event)) f.Secs))) hfl ⟨by simpa using hgl, fun j hj => by
        rw [row_set (by omega)]
        split
        · simpa using hrow
        · exact h.2 j hj⟩
      refine ⟨g', q1, q2, fun k hk v hv => ?_⟩
      rw [q3 k hk v hv, hset, List.foldl_cons]
      congr 1
      by_cases e : k = nd f.Period ∧ v = nd f.Event
      · rw [if_pos e, if_pos ⟨by rw [e.1]; unfold nd; omega, e.2.symm⟩, e.1, e.2]
        rfl
      · rw [if_neg e, if_neg (fun q => e ⟨by rw [q.1]; simp [nd], q.2.symm⟩)]
    · rw [if_neg (by simpa using c)]
      simp only [Option.bind_some]
      obtain ⟨g', q1, q2, q3⟩ := ref_firsts hx P l g hfl h
      refine ⟨g', q1, q2, fun k hk v hv => ?_⟩
      rw [q3 k hk v hv, List.foldl_cons]
      congr 1
      rw [if_neg]
      rintro ⟨e, _⟩
      omega
theorem ref_spread (hx : ROk x) (hl : ∀ f ∈ l, FOk x f) (hP : P ≤ 60) {fu : Nat} (hf : 13824002 ≤ fu) : ∃ g, Fishref2SpreadOf fu x l ((P : Nat) : Int) = some g ∧ Fin x l P g := by
  unfold Fishref2SpreadOf
  rw [mks_in (by omega)]
  simp only [Option.bind_some]
  obtain ⟨g1, e1, h1, h2⟩ := ref_rows (P := P) hx P 0 (List.replicate P []) (by omega) (by simp) (fun j hj => absurd hj (Nat.not_lt_zero _))
  have e1' : Fishref2SpreadOf.loop1 x (List.replicate P ([] : List Int)).length 0 (List.replicate P []) = some g1 := by rw [List.length_replicate]; exact e1
  rw [e1']
  simp only [Option.bind_some]
  have hz : ∀ k, k < P → ∀ v, gv g1 k v = 0 := by
    intro k hk v
    unfold gv tm
    rw [h2 k hk, List.getElem?_replicate]
    split <;> rfl
  obtain ⟨g2, e2, s2, v2⟩ := ref_firsts hx P l g1 hl ⟨h1, fun k hk => by rw [h2 k hk]; simp⟩
  rw [e2]
  simp only [Option.bind_some]
  have hv : ∀ k, k < P → ∀ v, v < x.Plan.length → gv g2 k v = ini l k v := fun k hk v hv => by rw [v2 k hk v hv, hz k hk]; rfl
  have gi : GI x l P P g2 := ⟨s2, fun k hk v hv' => by rw [hv k hk v hv']; exact Int.le_refl _, fun S hS k hk v hv' => by rw [hv k hk v hv']; exact hS.ge k hk v hv'⟩
  have hpos : 0 ≤ gsum g2 := by
    have : ∀ g : List (List Int), (∀ k, k < g.length → 0 ≤ (row g k).sum) → 0 ≤ gsum g := by
      intro g
      induction g with
      | nil => intro _; simp [gsum]
      | cons a g ih =>
        intro h
        have i := ih fun k hk => by have := h (k + 1) (by simpa using hk); simpa [row] using this
        have h0 := h 0 (by simp)
        simp only [row, List.getElem?_cons_zero, Option.getD_some] at h0
        unfold gsum at i ⊢
        simp only [List.map_cons, List.sum_cons]
        omega
    refine this g2 fun k hk => ?_
    rw [s2.1] at hk
    have pos : ∀ r : List Int, (∀ v, v < r.length → 0 ≤ tm r v) → 0 ≤ r.sum := by
      intro r
      induction r with
      | nil => intro _; simp
      | cons a r ih =>
        intro h
        have i := ih fun v hv => by have := h (v + 1) (by simpa using hv); simpa [tm] using this
        have h0 := h 0 (by simp)
        simp only [tm, List.getElem?_cons_zero, Option.getD_some] at h0
        simp only [List.sum_cons]
        omega
    refine pos _ fun v hv' => ?_
    rw [s2.2 k hk] at hv'
    exact (gi.bd hx hl k hk v hv').1
  obtain ⟨b, g3, e3, f3⟩ := ref_loop3 hx hl hP (w := List.replicate P []) (by simp) fu g2 gi (by omega)
  rw [e3]
  exact ⟨g3, rfl, f3⟩
/-! the program's way: one period, then the next -/
theorem row_app {g : List (List Int)} {r : List Int} {j : Nat} : row (g ++ [r]) j = if j = g.length then r else row g j := by
  unfold row
  by_cases c : j < g.length
  · rw [List.getElem?_append_left c, if_neg (by omega)]
  · rw [List.getElem?_append_right (by omega)]
    by_cases e : j = g.length
    · rw [if_pos e, show j - g.length = 0 by omega]; rfl
    · rw [if_neg e]
      have h1 : ([r] : List (List Int))[j - g.length]? = none := List.getElem?_eq_none (by simp; omega)
      rw [h1, List.getElem?_eq_none (by omega)]
theorem set_app {g : List (List Int)} {r s : List Int} : (g ++ [r]).set g.length s = g ++ [s] := by simp
/-- the periods ahead, the last one first -/
def Bf (out before : List (List Int)) : Prop := before.length = min out.length 3 ∧ ∀ i, i < before.length → before[i]? = some (row out (out.length - 1 - i))
theorem follow_loop2 (hx : ROk x) (hl : ∀ f ∈ l, FOk x f) {out before : List (List Int)} (hR : out.length + 1 ≤ P) (hP : P ≤ 60) (hb : Bf out before) : ∀ (ls : List MendLink) (ch : Bool) (now : List Int), (∀ a ∈ ls, a ∈ x.Links) → GI x l P (out.length + 1) (out ++ [now]) →
    ∃ ch' now', MendRoundfollow.loop2 x before ls ch now = some (ch', now') ∧ rowP x out.length ls (ch, out ++ [now]) = (ch', out ++ [now'])
  | [], ch, now, _, _ => ⟨ch, now, rfl, rfl⟩
  | a :: ls, ch, now, h, hg => by
    have ha := h a (List.mem_cons_self ..)
    have oa := hx.links a ha
    obtain ⟨d1, d2⟩ := oa.nd
    have f0 := oa.f0
    have f1 := oa.f1
    have t0 := oa.t0
    have t1 := oa.t1
    have b0 := oa.b0
    have b1 := oa.b1
    have s0 := oa.s0
    have s1 := oa.s1
    have hk : out.length < out.length + 1 := by omega
    have hrow : row (out ++ [now]) out.length = now := by rw [row_app, if_pos rfl]
    have hnl : now.length = x.Plan.length := by rw [← hrow]; exact hg.shape.2 _ hk
    have hg' := (relG_gi hk hR ha hx (z := (ch, out ++ [now])) hg).1
    have hto : gv (out ++ [now]) out.length (nd a.To) = tm now (nd a.To) := by unfold gv; rw [hrow]
    obtain ⟨hbl, hbr⟩ := hb
    -- what one link does
    have key : ∀ d : Int, nd a.Back ≤ out.length → gv (out ++ [now]) (out.length - nd a.Back) (nd a.From) = d →
        ∃ ch' now', (((if decide ((w64 (d - sl x a)) > tm now (nd a.To)) = true then ((ix now a.To).bind fun _ => ((sx now a.To (w64 (d - sl x a))).bind fun x152 => some (true, x152))) else some (ch, now)) : Option (Bool × (List Int))).bind fun q135 => MendRoundfollow.loop2 x before ls q135.1 q135.2) = some (ch', now') ∧ rowP x out.length (a :: ls) (ch, out ++ [now]) = (ch', out ++ [now']) := by
      intro d hbk hd
      obtain ⟨v0, v1⟩ := hg.bd hx hl (out.length - nd a.Back) (by omega) _ d1
      rw [hd] at v0 v1
      rw [w64_id (by omega), show rowP x out.length (a :: ls) (ch, out ++ [now]) = rowP x out.length ls (relG x out.length a (ch, out ++ [now])) from rfl]
      by_cases q : d - sl x a > tm now (nd a.To)
      · have e : relG x out.length a (ch, out ++ [now]) = (true, out ++ [now.set (nd a.To) (d - sl x a)]) := by
          unfold relG
          simp only [hd, hto, hrow]
          rw [if_pos ⟨hbk, q⟩, set_app]
        rw [if_pos (by simpa using q), ix_in t0 (by rw [hnl]; exact t1), sx_in t0 (by rw [hnl]; exact t1)]
        simp only [Option.bind_some]
        rw [e] at hg' ⊢
        exact follow_loop2 hx hl hR hP ⟨hbl, hbr⟩ ls true (now.set (nd a.To) (d - sl x a)) (fun b hb => h b (List.mem_cons_of_mem _ hb)) hg'
      · have e : relG x out.length a (ch, out ++ [now]) = (ch, out ++ [now]) := by
          unfold relG
          simp only [hd, hto]
          rw [if_neg (fun u => q u.2)]
        rw [if_neg (by simpa using q)]
        simp only [Option.bind_some]
        rw [e]
        exact follow_loop2 hx hl hR hP ⟨hbl, hbr⟩ ls ch now (fun b hb => h b (List.mem_cons_of_mem _ hb)) hg
    rw [MendRoundfollow.loop2]
    by_cases cb : a.Back > 0
    · rw [if_pos (by simpa using cb)]
      by_cases cl : a.Back > (before.length : Int)
      · rw [if_pos (by simpa using cl)]
        have e : relG x out.length a (ch, out ++ [now]) = (ch, out ++ [now]) := by
          unfold relG
          rw [if_neg]
          rintro ⟨u, _⟩
          unfold nd at u
          omega
        rw [show rowP x out.length (a :: ls) (ch, out ++ [now]) = rowP x out.length ls (relG x out.length a (ch, out ++ [now])) from rfl, e]
        exact follow_loop2 hx hl hR hP ⟨hbl, hbr⟩ ls ch now (fun b hb => h b (List.mem_cons_of_mem _ hb)) hg
      · rw [if_neg (by simpa using cl), w64_id (by omega)]
        have hi : nd a.Back - 1 < before.length := by unfold nd; omega
        have hbk : nd a.Back ≤ out.length := by unfold nd; omega
        have hbi : a.Back - 1 = ((nd a.Back - 1 : Nat) : Int) := by unfold nd; omega
        have hgb : gx before (a.Back - 1) = some (row out (out.length - nd a.Back)) := by
          rw [hbi, gx_nat, hbr _ hi, show out.length - 1 - (nd a.Back - 1) = out.length - nd a.Back by unfold nd; omega]
        have hnb : 1 ≤ nd a.Back := by unfold nd; omega
        have hro : row (out ++ [now]) (out.length - nd a.Back) = row out (out.length - nd a.Back) := by rw [row_app, if_neg (by omega)]
        have hrl : (row out (out.length - nd a.Back)).length = x.Plan.length := by rw [← hro]; exact hg.shape.2 _ (by omega)
        rw [hgb]
        simp only [Option.bind_some]
        rw [gx_tm f0 (by rw [hrl]; exact f1), link_slack hx ha, gx_tm t0 (by rw [hnl]; exact t1)]
        simp only [Option.bind_some]
        exact key _ hbk (by unfold gv; rw [hro])
    · have hb0 : nd a.Back = 0 := by unfold nd; omega
      rw [if_neg (by simpa using cb), gx_tm f0 (by rw [hnl]; exact f1), link_slack hx ha, gx_tm t0 (by rw [hnl]; exact t1)]
      simp only [Option.bind_some]
      exact key _ (by omega) (by rw [hb0, Nat.sub_zero]; unfold gv; rw [hrow])
theorem follow_loop1 (hx : ROk x) (hl : ∀ f ∈ l, FOk x f) {out before : List (List Int)} (hR : out.length + 1 ≤ P) (hP : P ≤ 60) (hb : Bf out before) : ∀ (m : Nat) (now : List Int), GI x l P (out.length + 1) (out ++ [now]) → 13824000 - gsum (out ++ [now]) + 2 ≤ m →
    ∃ b now', MendRoundfollow.loop1 x before m true now = some (b, now') ∧ GI x l P (out.length + 1) (out ++ [now']) ∧ RowOk x (out ++ [now']) out.length x.Links := by
  intro m
  induction m with
  | zero => intro now hg hm; have := hg.sum hx hl hP hR; omega
  | succ m ih =>
    intro now hg hm
    have hk : out.length < out.length + 1 := by omega
    obtain ⟨ch', now', e1, e2⟩ := follow_loop2 hx hl hR hP hb x.Links false now (fun a ha => ha) hg
    have hg2 := (rowP_gi hk hR hx x.Links (false, out ++ [now]) (fun a ha => ha) hg).1
    rw [e2] at hg2
    have hs := hg.sum hx hl hP hR
    have hs2 := hg2.sum hx hl hP hR
    rw [MendRoundfollow.loop1, if_pos rfl, e1]
    simp only [Option.bind_some]
    cases ch' with
    | true =>
      have := rowP_grow hk hR hx x.Links (false, out ++ [now]) (fun a ha => ha) hg rfl (by rw [e2])
      rw [e2] at this
      exact ih now' hg2 (by simp only at this hs2; omega)
    | false =>
      obtain ⟨e3, ok⟩ := rowP_same x.Links (false, out ++ [now]) (by rw [e2])
      rw [e2] at e3
      injection e3 with _ e3
      have hn : now' = now := by
        have := List.append_cancel_left e3
        injection this
      obtain ⟨m, rfl⟩ : ∃ k, m = k + 1 := ⟨m - 1, by omega⟩
      refine ⟨false, now', rfl, hg2, ?_⟩
      rw [hn]; exact ok
theorem now_loop (hx : ROk x) (k : Nat) : ∀ (l : List MendFirst) (now : List Int), (∀ f ∈ l, FOk x f) → now.length = x.Plan.length →
    ∃ now', MendSpread.loop4 ((k : Nat) : Int) l now = some now' ∧ now'.length = x.Plan.length ∧ ∀ v, tm now' v = l.foldl (fun m f => if f.Period = ((k : Nat) : Int) ∧ nd f.Event = v then mx m f.Secs else m) (tm now v)
  | [], now, _, h => ⟨now, rfl, h, fun _ => rfl⟩
  | f :: l, now, hf, h => by
    have of := hf f (List.mem_cons_self ..)
    have e0 := of.e0
    have e1 := of.e1
    have hfl : ∀ b ∈ l, FOk x b := fun b hb => hf b (List.mem_cons_of_mem _ hb)
    have hev : nd f.Event < now.length := by unfold nd; omega
    rw [MendSpread.loop4]
    by_cases c : f.Period = ((k : Nat) : Int)
    · rw [if_pos (by simpa using c), gx_tm e0 (by rw [h]; exact e1), ix_in e0 (by rw [h]; exact e1)]
      simp only [Option.bind_some]
      rw [sx_in e0 (by rw [h]; exact e1)]
      simp only [Option.bind_some]
      obtain ⟨now', q1, q2, q3⟩ := now_loop hx k l (now.set (nd f.Event) (mx (tm now (nd f.Event)) f.Secs)) hfl (by simpa using h)
      refine ⟨now', q1, q2, fun v => ?_⟩
      rw [q3 v, tm_set hev, List.foldl_cons]
      congr 1
      by_cases e : v = nd f.Event
      · rw [if_pos e, if_pos ⟨c, e.symm⟩, e]
      · rw [if_neg e, if_neg (fun q => e q.2.symm)]
    · rw [if_neg (by simpa using c)]
      simp only [Option.bind_some]
      obtain ⟨now', q1, q2, q3⟩ := now_loop hx k l now hfl h
      refine ⟨now', q1, q2, fun v => ?_⟩
      rw [q3 v, List.foldl_cons, if_neg (fun q => c q.1)]
theorem bf_next {out before : List (List Int)} {r : List Int} (hb : Bf out before) : Bf (out ++ [r]) ([r] ++ before.take (min before.length 2)) := by
  obtain ⟨h1, h2⟩ := hb
  refine ⟨by simp; omega, fun i hi => ?_⟩
  simp only [List.length_append, List.length_singleton, List.length_take] at hi ⊢
  cases i with
  | zero =>
    rw [row_app, if_pos (by omega)]
    rfl
  | succ i =>
    rw [row_app, if_neg (by omega)]
    simp only [List.singleton_append, List.getElem?_cons_succ]
    rw [List.getElem?_take, if_pos (by omega), h2 i (by omega)]
    congr 2
    omega
theorem spread_loop3 (hx : ROk x) (hl : ∀ f ∈ l, FOk x f) (hP : P ≤ 60) {fu : Nat} (hf : 13824002 ≤ fu) : ∀ (m : Nat) (out before : List (List Int)) (fm : Nat), m + out.length = P → m + 1 ≤ fm → GI x l P out.length out → (∀ k, k < out.length → RowOk x out k x.Links) → Bf out before →
    ∃ g a b, MendSpread.loop3 x l ((P : Nat) : Int) fu fm out before ((out.length : Nat) : Int) = some (g, a, b) ∧ Fin x l P g := by
  intro m
  have n1 := hx.n1
  induction m with
  | zero =>
    intro out before fm hm hfm hg hok hb
    obtain ⟨fm, rfl⟩ : ∃ k, fm = k + 1 := ⟨fm - 1, by omega⟩
    rw [MendSpread.loop3, if_neg (by simp; omega)]
    have : out.length = P := by omega
    refine ⟨out, _, _, rfl, ?_, ?_⟩
    · rw [this] at hg; exact hg
    · rw [this] at hok; exact hok
  | succ m ih =>
    intro out before fm hm hfm hg hok hb
    obtain ⟨fm, rfl⟩ : ∃ k, fm = k + 1 := ⟨fm - 1, by omega⟩
    have hR : out.length + 1 ≤ P := by omega
    rw [MendSpread.loop3, if_pos (by simp; omega), mks_in (by omega)]
    simp only [Option.bind_some]
    obtain ⟨now, q1, q2, q3⟩ := now_loop hx out.length l (List.replicate x.Plan.length 0) hl (by simp)
    rw [q1]
    simp only [Option.bind_some]
    have hz : ∀ v, tm (List.replicate x.Plan.length (0 : Int)) v = 0 := by
      intro v; unfold tm; rw [List.getElem?_replicate]; split <;> rfl
    have hv : ∀ v, tm now v = ini l out.length v := fun v => by rw [q3 v, hz]; rfl
    have gv_old : ∀ r j v, j < out.length → gv (out ++ [r]) j v = gv out j v := fun r j v hj => by unfold gv; rw [row_app, if_neg (by omega)]
    have gv_new : ∀ r v, gv (out ++ [r]) out.length v = tm r v := fun r v => by unfold gv; rw [row_app, if_pos rfl]
    have hgi : GI x l P (out.length + 1) (out ++ [now]) := by
      refine ⟨⟨by simp, fun k hk => ?_⟩, fun k hk v hv' => ?_, fun S hS k hk v hv' => ?_⟩
      · rw [row_app]
        split
        · exact q2
        · exact hg.shape.2 k (by omega)
      · by_cases c : k = out.length
        · rw [c, gv_new, hv]; exact Int.le_refl _
        · rw [gv_old _ _ _ (by omega)]; exact hg.ge k (by omega) v hv'
      · by_cases c : k = out.length
        · rw [c, gv_new, hv]; exact hS.ge _ (by omega) v hv'
        · rw [gv_old _ _ _ (by omega)]; exact hg.le S hS k (by omega) v hv'
    have hpos : 0 ≤ gsum (out ++ [now]) := by
      have pos : ∀ r : List Int, (∀ v, v < r.length → 0 ≤ tm r v) → 0 ≤ r.sum := by
        intro r
        induction r with
        | nil => intro _; simp
        | cons a r ih =>
          intro h
          have i := ih fun v hv => by have := h (v + 1) (by simpa using hv); simpa [tm] using this
          have h0 := h 0 (by simp)
          simp only [tm, List.getElem?_cons_zero, Option.getD_some] at h0
          simp only [List.sum_cons]
          omega
      have : ∀ g : List (List Int), (∀ k, k < g.length → 0 ≤ (row g k).sum) → 0 ≤ gsum g := by
        intro g
        induction g with
        | nil => intro _; simp [gsum]
        | cons a g ih =>
          intro h
          have i := ih fun k hk => by have := h (k + 1) (by simpa using hk); simpa [row] using this
          have h0 := h 0 (by simp)
          simp only [row, List.getElem?_cons_zero, Option.getD_some] at h0
          unfold gsum at i ⊢
          simp only [List.map_cons, List.sum_cons]
          omega
      refine this _ fun k hk => pos _ fun v hv' => ?_
      rw [hgi.shape.1] at hk
      rw [hgi.shape.2 k hk] at hv'
      exact (hgi.bd hx hl k hk v hv').1
    obtain ⟨b, now', e1, e2, e3⟩ := follow_loop1 hx hl hR hP hb fu now hgi (by omega)
    have hfo : MendRoundfollow fu x now before = some now' := by
      unfold MendRoundfollow
      have : SlicesCloneLint now = some now := by
        unfold SlicesCloneLint
        rw [apd_lt (a := []) (b := now) (by simp; omega)]
        simp
      rw [this, Option.bind_some, e1]
      rfl
    have hbl := hb.1
    have hmn : mn (before.length : Int) 2 = ((min before.length 2 : Nat) : Int) := by unfold mn; split <;> omega
    rw [hfo]
    simp only [Option.bind_some]
    rw [apd_lt (by simp; omega)]
    simp only [Option.bind_some]
    rw [hmn, cutl_in (by omega) (by omega) (by omega)]
    simp only [Option.bind_some, Int.toNat_natCast]
    rw [apd_lt (by simp; omega)]
    simp only [Option.bind_some]
    rw [w64_id (by omega)]
    have := ih (out ++ [now']) ([now'] ++ before.take (min before.length 2)) fm (by simp; omega) (by omega) (by simpa using e2) (fun k hk => ?_) (bf_next hb)
    · simpa using this
    · simp only [List.length_append, List.length_singleton] at hk
      by_cases c : k = out.length
      · rw [c]; exact e3
      · intro a ha hbk
        rw [gv_old _ _ _ (by omega), gv_old _ _ _ (by omega)]
        exact hok k (by omega) a ha hbk
end
theorem seq_self (l : List Int) : SlicesEqualLint l l = some true := by
  unfold SlicesEqualLint
  have key : ∀ (m : List Int) (k : Nat), l.drop k = m → SlicesEqualLint.loop1 l m k = some (.next ()) := by
    intro m
    induction m with
    | nil => intro k _; rfl
    | cons a m ih =>
      intro k h
      have hk : k < l.length := by
        rcases Nat.lt_or_ge k l.length with e | e
        · exact e
        · rw [List.drop_eq_nil_of_le e] at h; cases h
      rw [List.drop_eq_getElem_cons hk] at h
      injection h with h1 h2
      rw [SlicesEqualLint.loop1, gx_at hk, h1]
      simp only [Option.bind_some, bne_self_eq_false, Bool.false_eq_true, if_false]
      exact ih _ h2
  rw [key l 0 rfl]
  simp
theorem rounds_true (n : Nat) : Fishlaw2rounds (n + 60) = some true := by kernel_rfl

theorem lists_self (g : List (List Int)) : Fishlaw2lists g g = some true := by
  unfold Fishlaw2lists SlicesEqualFuncLLint_v1
  have key : ∀ (m : List (List Int)) (k : Nat), g.drop k = m → SlicesEqualFuncLLint_v1.loop1 g m k = some (.next ()) := by
    intro m
    induction m with
    | nil => intro k _; rfl
    | cons a m ih =>
      intro k h
      have hk : k < g.length := by
        rcases Nat.lt_or_ge k g.length with e | e
        · exact e
        · rw [List.drop_eq_nil_of_le e] at h; cases h
      rw [List.drop_eq_getElem_cons hk] at h
      injection h with h1 h2
      rw [SlicesEqualFuncLLint_v1.loop1, gx_at hk, h1]
      simp only [Option.bind_some, seq_self, Bool.not_true, Bool.false_eq_true, if_false]
      exact ih _ h2
  rw [key g 0 rfl]
  simp
theorem firsts_loop (x : MendRound) (hn : x.Plan.length ≤ 8) : ∀ l : List MendFirst,
    (∃ r, MendSpread.loop1 x l = .ret ([], r) ∧ Fishlaw2firstsFault.loop1 x l = .ret r ∧ r ≠ 0) ∨ (MendSpread.loop1 x l = .next () ∧ Fishlaw2firstsFault.loop1 x l = .next () ∧ ∀ f ∈ l, FOk x f)
  | [] => .inr ⟨rfl, rfl, fun f hf => by cases hf⟩
  | f :: l => by
    rw [MendSpread.loop1, Fishlaw2firstsFault.loop1, mwithin, mwithin, mwithin, w64_id (by omega)]
    simp only [bnd]
    by_cases h1 : 0 ≤ f.Event ∧ f.Event ≤ (x.Plan.length : Int) - 1
    · have e1 : ¬ f.Event < 0 := by omega
      have e2 : ¬ f.Event ≥ (x.Plan.length : Int) := by omega
      rw [decide_eq_true h1]
      simp only [e1, e2, decide_false, Bool.not_true, Bool.false_eq_true, if_false]
      by_cases h2 : 0 ≤ f.Period ∧ f.Period ≤ 59
      · have e3 : ¬ f.Period < 0 := by omega
        have e4 : ¬ f.Period ≥ 60 := by omega
        rw [decide_eq_true h2]
        simp only [e3, e4, decide_false, Bool.not_true, Bool.false_eq_true, if_false]
        by_cases h3 : 0 ≤ f.Secs ∧ f.Secs ≤ 28800
        · have e5 : ¬ f.Secs < 0 := by omega
          have e6 : ¬ f.Secs > 28800 := by omega
          rw [decide_eq_true h3]
          simp only [e5, e6, decide_false, Bool.not_true, Bool.false_eq_true, if_false]
          rcases firsts_loop x hn l with h | ⟨a1, a2, a3⟩
          · exact .inl h
          · refine .inr ⟨a1, a2, fun b hb => ?_⟩
            rcases List.mem_cons.1 hb with rfl | hb
            · exact ⟨h1.1, by omega, h2.1, by omega, h3.1, h3.2⟩
            · exact a3 b hb
        · have e5 : (if decide (f.Secs < 0) = true then true else decide (f.Secs > 28800)) = true := by
            by_cases q : f.Secs < 0
            · simp [q]
            · have : f.Secs > 28800 := by omega
              simp [this]
          rw [decide_eq_false h3, e5]
          simp only [Bool.not_false, if_true]
          exact .inl ⟨2, rfl, rfl, by omega⟩
      · have e3 : (if decide (f.Period < 0) = true then true else if decide (f.Period ≥ 60) = true then true else if decide (f.Secs < 0) = true then true else decide (f.Secs > 28800)) = true := by
          by_cases q : f.Period < 0
          · simp [q]
          · have : f.Period ≥ 60 := by omega
            simp [this]
        rw [decide_eq_false h2, e3]
        simp only [Bool.not_false, if_true]
        exact .inl ⟨2, rfl, rfl, by omega⟩
    · have e1 : (if decide (f.Event < 0) = true then true else decide (f.Event ≥ (x.Plan.length : Int))) = true := by
        by_cases q : f.Event < 0
        · simp [q]
        · have : f.Event ≥ (x.Plan.length : Int) := by omega
          simp [this]
      rw [decide_eq_false h1, e1]
      simp only [Bool.not_false, if_true]
      exact .inl ⟨3, rfl, rfl, by omega⟩
theorem spread_all (x : MendRound) (l : List MendFirst) (n : Int) {fu : Nat} (hf : 13824062 ≤ fu) : ∃ r g, MendSpread fu x l n = some (g, if r = 0 then Fishlaw2firstsFault x l n else r) ∧ Fishref2RoundFault x = some r ∧ (r ≠ 0 → g = []) ∧ (r = 0 → Fishlaw2firstsFault x l n ≠ 0 → g = []) ∧ (r = 0 → Fishlaw2firstsFault x l n = 0 → Fishref2SpreadOf fu x l n = some g) := by
  obtain ⟨e, r, hr, hok⟩ := round_eq x (fu := fu) (by omega)
  unfold MendSpread
  rw [e, hr]
  simp only [Option.bind_some, mwithin, bnd]
  by_cases c : r = 0
  · subst c
    have hx := hok rfl
    have hloop := firsts_loop x hx.n1 l
    simp only [show ((0 : Int) != 0) = false from rfl, Bool.false_eq_true, if_false]
    unfold Fishlaw2firstsFault
    simp only [bnd]
    by_cases h1 : 0 ≤ n ∧ n ≤ 60
    · have e1 : ¬ n < 0 := by omega
      have e2 : ¬ n > 60 := by omega
      rw [decide_eq_true h1]
      simp only [e1, e2, decide_false, Bool.not_true, Bool.false_eq_true, if_false]
      by_cases h2 : (l.length : Int) > 20
      · rw [decide_eq_true h2]
        simp only [if_true]
        exact ⟨0, [], by simp, rfl, fun _ => rfl, fun _ _ => rfl, fun _ q => by cases q⟩
      · rw [decide_eq_false h2]
        simp only [Bool.false_eq_true, if_false]
        rcases hloop with ⟨r, a1, a2, a3⟩ | ⟨a1, a2, a3⟩
        · rw [a1, a2]
          exact ⟨0, [], by simp, rfl, fun _ => rfl, fun _ _ => rfl, fun _ q => absurd q a3⟩
        · rw [a1, a2]
          obtain ⟨P, rfl⟩ : ∃ P : Nat, n = (P : Int) := ⟨n.toNat, by omega⟩
          obtain ⟨g, q1, q2⟩ := ref_spread hx a3 (P := P) (by omega) (fu := fu) (by omega)
          have hm := spread_loop3 hx a3 (P := P) (by omega) (fu := fu) (by omega) P [] [] fu (by simp) (by omega) ⟨⟨rfl, fun k hk => absurd hk (Nat.not_lt_zero _)⟩, fun k hk => absurd hk (Nat.not_lt_zero _), fun _ _ k hk => absurd hk (Nat.not_lt_zero _)⟩ (fun k hk => absurd hk (Nat.not_lt_zero _)) ⟨rfl, fun i hi => absurd hi (Nat.not_lt_zero _)⟩
          obtain ⟨g', a, b, m1, m2⟩ := hm
          have m1' : MendSpread.loop3 x l ((P : Nat) : Int) fu fu [] [] 0 = some (g', a, b) := m1
          rw [m1']
          have : g' = g := m2.one q2
          subst this
          exact ⟨0, g', by simp, rfl, fun q => absurd rfl q, fun _ q => absurd rfl q, fun _ _ => q1⟩
    · have e1 : (if decide (n < 0) = true then true else decide (n > 60)) = true := by
        by_cases q : n < 0
        · simp [q]
        · have : n > 60 := by omega
          simp [this]
      rw [decide_eq_false h1, e1]
      simp only [Bool.not_false, if_true]
      exact ⟨0, [], by simp, rfl, fun _ => rfl, fun _ _ => rfl, fun _ q => by cases q⟩
  · have c1 : (r != 0) = true := by simpa using c
    rw [c1]
    simp only [if_true]
    exact ⟨r, [], by rw [if_neg c], rfl, fun _ => rfl, fun q => absurd q c, fun q => absurd q c⟩
theorem MendSpreads_law (x : MendRound) (l : List MendFirst) (n : Int) (_ : x.Plan.length ≤ 9223372036854775807) (_ : x.Links.length ≤ 9223372036854775807) (_ : l.length ≤ 9223372036854775807) (_ : -9223372036854775808 ≤ n ∧ n ≤ 9223372036854775807) : ∃ fu, Fishlaw2MendSpreads fu x l n = some true := by
  refine ⟨13824002 + 60, ?_⟩
  have hfu : 13824062 ≤ 13824002 + 60 := by omega
  have hg := rounds_true 13824002
  generalize 13824002 + 60 = fu at hfu hg
  obtain ⟨r, g, e1, e2, e3, e4, e5⟩ := spread_all x l n hfu
  unfold Fishlaw2MendSpreads
  rw [e1, e2]
  simp only [Option.bind_some, hg, bnd]
  by_cases c : r = 0
  · subst c
    simp only [show ((0 : Int) == 0) = true from rfl, if_true]
    by_cases d : Fishlaw2firstsFault x l n = 0
    · rw [d, e5 rfl d]
      simp [lists_self]
    · have d1 : (Fishlaw2firstsFault x l n != 0) = true := by simpa using d
      rw [d1, e4 rfl d]
      simp
  · have c1 : (r == 0) = false := by simpa using c
    have c2 : (r != 0) = true := by simpa using c
    simp only [c1, Bool.false_eq_true, if_false, c2, if_true, if_neg c, e3 c]
    simp
end Go.Fp
