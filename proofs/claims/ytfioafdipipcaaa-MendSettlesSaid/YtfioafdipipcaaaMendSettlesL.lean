/- MendSettles: the mirror of the law is true of all rounds and delays. -/
import Derived.Test.YtfioafdipipcaaaMendSettlesM
import Derived.Test.YtfioafdipipcaaaFpPlain
import Derived.KernelRfl
namespace Go.Fp
/-! times in lists -/
abbrev Tm := Nat → Int
def nd (i : Int) : Nat := i.toNat
def tm (t : List Int) : Tm := fun v => (t[v]?).getD 0
theorem tm_get {t : List Int} {v : Nat} (h : v < t.length) : tm t v = t[v] := by simp [tm, h]
theorem gx_tm {t : List Int} {i : Int} (h0 : 0 ≤ i) (h1 : i < t.length) : gx t i = some (tm t (nd i)) := by
  have h : i.toNat < t.length := by omega
  rw [gx_toNat h0 h]; simp [tm, nd, h]
theorem tm_set {t : List Int} {u v : Nat} {x : Int} (h : u < t.length) : tm (t.set u x) v = if v = u then x else tm t v := by
  unfold tm
  by_cases c : v = u
  · subst c; rw [if_pos rfl, List.getElem?_set_self h]; rfl
  · rw [if_neg c, List.getElem?_set_ne (fun e => c e.symm)]
def bt (w : List Bool) (v : Nat) : Bool := (w[v]?).getD false
theorem bt_get {t : List Bool} {v : Nat} (h : v < t.length) : bt t v = t[v] := by simp [bt, h]
theorem gx_bt {t : List Bool} {i : Int} (h0 : 0 ≤ i) (h1 : i < t.length) : gx t i = some (bt t (nd i)) := by
  have h : i.toNat < t.length := by omega
  rw [gx_toNat h0 h]; simp [bt, nd, h]
theorem bt_set {t : List Bool} {u v : Nat} {x : Bool} (h : u < t.length) : bt (t.set u x) v = if v = u then x else bt t v := by
  unfold bt
  by_cases c : v = u
  · subst c; rw [if_pos rfl, List.getElem?_set_self h]; rfl
  · rw [if_neg c, List.getElem?_set_ne (fun e => c e.symm)]
/-- how many of the first m nodes have a property -/
noncomputable def count (P : Nat → Prop) : Nat → Nat
  | 0 => 0
  | m + 1 => open Classical in count P m + (if P m then 1 else 0)
theorem count_mono {P Q : Nat → Prop} : ∀ m, (∀ v, v < m → P v → Q v) → count P m ≤ count Q m
  | 0, _ => Nat.le_refl _
  | m + 1, h => by
    have h1 := count_mono m (fun v hv => h v (by omega))
    have h2 := h m (by omega)
    simp only [count]
    by_cases c : P m
    · rw [if_pos c, if_pos (h2 c)]; omega
    · rw [if_neg c]; split <;> omega
theorem count_lt {P Q : Nat → Prop} {u : Nat} (hp : ¬ P u) (hq : Q u) : ∀ m, u < m → (∀ v, v < m → P v → Q v) → count P m < count Q m
  | 0, h, _ => absurd h (Nat.not_lt_zero _)
  | m + 1, hu, h => by
    have h2 := h m (by omega)
    simp only [count]
    by_cases e : u = m
    · subst e
      have := count_mono u (fun v hv => h v (by omega))
      rw [if_neg hp, if_pos hq]; omega
    · have := count_lt hp hq m (by omega) (fun v hv => h v (by omega))
      by_cases c : P m
      · rw [if_pos c, if_pos (h2 c)]; omega
      · rw [if_neg c]; split <;> omega
theorem count_le (P : Nat → Prop) : ∀ m, count P m ≤ m
  | 0 => Nat.le_refl _
  | m + 1 => by have := count_le P m; simp only [count]; split <;> omega
theorem count_all {P : Nat → Prop} : ∀ m, count P m = m → ∀ v, v < m → P v
  | 0, _, v, hv => absurd hv (Nat.not_lt_zero _)
  | m + 1, h, v, hv => by
    have h1 := count_le P m
    simp only [count] at h
    by_cases c : P m
    · rw [if_pos c] at h
      by_cases e : v = m
      · subst e; exact c
      · exact count_all m (by omega) v (by omega)
    · rw [if_neg c] at h; omega
/-! sound rounds -/
theorem rw_eq : Fishref2within = Mendwithin := rfl
theorem slack_eq : Fishref2SlackOf = MendRoundslack := rfl
theorem mwithin (x a b : Int) : Mendwithin x a b = decide (a ≤ x ∧ x ≤ b) := by
  unfold Mendwithin bnd
  by_cases h : a ≤ x <;> simp [h]
def sl (x : MendRound) (l : MendLink) : Int := tm x.Plan (nd l.To) - tm x.Plan (nd l.From) + l.Back * x.Period - l.Len
structure LkOk (x : MendRound) (l : MendLink) : Prop where
  f0 : 0 ≤ l.From
  f1 : l.From < x.Plan.length
  t0 : 0 ≤ l.To
  t1 : l.To < x.Plan.length
  n0 : 0 ≤ l.Len
  n1 : l.Len ≤ 28800
  b0 : 0 ≤ l.Back
  b1 : l.Back ≤ 3
  s0 : 0 ≤ sl x l
  s1 : sl x l ≤ 20000
structure ROk (x : MendRound) : Prop where
  p0 : 1 ≤ x.Period
  p1 : x.Period ≤ 3600
  n0 : 1 ≤ x.Plan.length
  n1 : x.Plan.length ≤ 8
  k1 : x.Links.length ≤ 24
  plan : ∀ v, v < x.Plan.length → 0 ≤ tm x.Plan v ∧ tm x.Plan v ≤ x.Period - 1
  links : ∀ l ∈ x.Links, LkOk x l
theorem slack_some {x : MendRound} {l : MendLink} (hp0 : 1 ≤ x.Period) (hp1 : x.Period ≤ 3600) (hpl : ∀ v, v < x.Plan.length → 0 ≤ tm x.Plan v ∧ tm x.Plan v ≤ x.Period - 1) (f0 : 0 ≤ l.From) (f1 : l.From < x.Plan.length) (t0 : 0 ≤ l.To) (t1 : l.To < x.Plan.length) (n0 : 0 ≤ l.Len) (n1 : l.Len ≤ 28800) (b0 : 0 ≤ l.Back) (b1 : l.Back ≤ 3) :
    MendRoundslack x l = some (sl x l) ∧ sl x l ≤ 20000 := by
  have h1 : 0 ≤ l.Back * x.Period := Int.mul_nonneg b0 (by omega)
  have h2 : l.Back * x.Period ≤ 3 * 3600 := Int.mul_le_mul b1 hp1 (by omega) (by omega)
  obtain ⟨a1, a2⟩ := hpl (nd l.To) (by unfold nd; omega)
  obtain ⟨c1, c2⟩ := hpl (nd l.From) (by unfold nd; omega)
  unfold MendRoundslack sl
  rw [gx_tm t0 t1, gx_tm f0 f1]
  simp only [Option.bind_some]
  rw [w64_id (x := tm x.Plan (nd l.To) - tm x.Plan (nd l.From)) (by omega), w64_id (x := l.Back * x.Period) (by omega), w64_id (x := tm x.Plan (nd l.To) - tm x.Plan (nd l.From) + l.Back * x.Period) (by omega), w64_id (by omega)]
  exact ⟨rfl, by omega⟩
theorem plan_eq (x : MendRound) : ∀ l, Fishref2RoundFault.loop1 x l = MendCheckRound.loop1 x l
  | [] => rfl
  | a :: l => by rw [Fishref2RoundFault.loop1, MendCheckRound.loop1, plan_eq x l, rw_eq]
theorem links_eq (x : MendRound) (hn : x.Plan.length ≤ 8) : ∀ l, Fishref2RoundFault.loop2 x l = MendCheckRound.loop2 x l
  | [] => rfl
  | a :: l => by
    rw [Fishref2RoundFault.loop2, MendCheckRound.loop2, links_eq x hn l, rw_eq, slack_eq, w64_id (by omega)]
    have : (if decide (a.From < 0) = true then true else if decide (a.From ≥ (x.Plan.length : Int)) = true then true else if decide (a.To < 0) = true then true else decide (a.To ≥ (x.Plan.length : Int)))
        = (if (!Mendwithin a.From 0 ((x.Plan.length : Int) - 1)) = true then true else !Mendwithin a.To 0 ((x.Plan.length : Int) - 1)) := by
      rw [mwithin, mwithin]
      by_cases h1 : 0 ≤ a.From ∧ a.From ≤ (x.Plan.length : Int) - 1
      · rw [decide_eq_true h1]
        have e1 : ¬ a.From < 0 := by omega
        have e2 : ¬ a.From ≥ (x.Plan.length : Int) := by omega
        simp only [e1, e2, decide_false, Bool.false_eq_true, if_false, Bool.not_true]
        by_cases h2 : 0 ≤ a.To ∧ a.To ≤ (x.Plan.length : Int) - 1
        · rw [decide_eq_true h2]
          have e1 : ¬ a.To < 0 := by omega
          have e2 : ¬ a.To ≥ (x.Plan.length : Int) := by omega
          simp [e1, e2]
        · rw [decide_eq_false h2]
          by_cases e1 : a.To < 0
          · simp [e1]
          · have e2 : a.To ≥ (x.Plan.length : Int) := by omega
            simp [e2]
      · rw [decide_eq_false h1]
        by_cases e1 : a.From < 0
        · simp [e1]
        · have e2 : a.From ≥ (x.Plan.length : Int) := by omega
          simp [e2]
    rw [this]
theorem plan_ok (x : MendRound) (hp : x.Period ≤ 3600) (hp0 : 1 ≤ x.Period) : ∀ l, (MendCheckRound.loop1 x l = .ret 2) ∨ (MendCheckRound.loop1 x l = .next () ∧ ∀ v, v < l.length → 0 ≤ tm l v ∧ tm l v ≤ x.Period - 1)
  | [] => .inr ⟨rfl, fun v hv => absurd hv (Nat.not_lt_zero _)⟩
  | a :: l => by
    rw [MendCheckRound.loop1, mwithin, w64_id (by omega)]
    by_cases h : 0 ≤ a ∧ a ≤ x.Period - 1
    · rw [decide_eq_true h]
      rcases plan_ok x hp hp0 l with e | ⟨e, i⟩
      · exact .inl e
      · refine .inr ⟨e, fun v hv => ?_⟩
        cases v with
        | zero => simpa [tm] using h
        | succ v => have := i v (by simpa using hv); simpa [tm] using this
    · rw [decide_eq_false h]
      exact .inl rfl
theorem links_ok {x : MendRound} (hp0 : 1 ≤ x.Period) (hp1 : x.Period ≤ 3600) (hn : x.Plan.length ≤ 8) (hpl : ∀ v, v < x.Plan.length → 0 ≤ tm x.Plan v ∧ tm x.Plan v ≤ x.Period - 1) : ∀ ls, (∃ r, MendCheckRound.loop2 x ls = some (.ret r) ∧ r ≠ 0) ∨ (MendCheckRound.loop2 x ls = some (.next ()) ∧ ∀ l ∈ ls, LkOk x l)
  | [] => .inr ⟨rfl, fun l hl => by cases hl⟩
  | a :: l => by
    rw [MendCheckRound.loop2, mwithin, mwithin, mwithin, mwithin, w64_id (by omega)]
    simp only [bnd]
    by_cases h1 : 0 ≤ a.From ∧ a.From ≤ (x.Plan.length : Int) - 1
    · by_cases h2 : 0 ≤ a.To ∧ a.To ≤ (x.Plan.length : Int) - 1
      · by_cases h3 : 0 ≤ a.Len ∧ a.Len ≤ 28800
        · by_cases h4 : 0 ≤ a.Back ∧ a.Back ≤ 3
          · obtain ⟨s1, s2⟩ := slack_some (l := a) hp0 hp1 hpl h1.1 (by omega) h2.1 (by omega) h3.1 h3.2 h4.1 h4.2
            rw [decide_eq_true h1, decide_eq_true h2, decide_eq_true h3, decide_eq_true h4, s1]
            simp only [Bool.not_true, Bool.false_eq_true, if_false, Option.bind_some]
            by_cases h5 : sl x a < 0
            · rw [decide_eq_true h5]
              exact .inl ⟨13, rfl, by omega⟩
            · rw [decide_eq_false h5]
              simp only [Bool.false_eq_true, if_false]
              rcases links_ok hp0 hp1 hn hpl l with e | ⟨e, i⟩
              · exact .inl e
              · refine .inr ⟨e, fun b hb => ?_⟩
                rcases List.mem_cons.1 hb with rfl | hb
                · exact ⟨h1.1, by omega, h2.1, by omega, h3.1, h3.2, h4.1, h4.2, by omega, s2⟩
                · exact i b hb
          · rw [decide_eq_true h1, decide_eq_true h2, decide_eq_true h3, decide_eq_false h4]
            exact .inl ⟨2, rfl, by omega⟩
        · rw [decide_eq_true h1, decide_eq_true h2, decide_eq_false h3]
          exact .inl ⟨2, rfl, by omega⟩
      · rw [decide_eq_true h1, decide_eq_false h2]
        exact .inl ⟨3, rfl, by omega⟩
    · rw [decide_eq_false h1]
      exact .inl ⟨3, rfl, by omega⟩

/-! rings of links with Back 0 -/
def Zf (x : MendRound) : Prop := ∃ h : Nat → Int, ∀ l ∈ x.Links, l.Back = 0 → h (nd l.From) < h (nd l.To)
/-- the first of an order, step by step -/
def Py (x : MendRound) : Nat → Nat → Prop
  | 0, _ => False
  | i + 1, v => ∀ l ∈ x.Links, l.Back = 0 → nd l.To = v → Py x i (nd l.From)
theorem Py.up (x : MendRound) : ∀ i v, Py x i v → Py x (i + 1) v
  | 0, _, h => h.elim
  | i + 1, _, h => fun l hl hb ht => Py.up x i _ (h l hl hb ht)
theorem py_all {x : MendRound} (hx : ROk x) (hz : Zf x) : ∀ v, v < x.Plan.length → Py x x.Plan.length v := by
  classical
  obtain ⟨h, hh⟩ := hz
  -- a step with nothing new has all
  have stuck : ∀ i, (∀ v, v < x.Plan.length → Py x (i + 1) v → Py x i v) → ∀ v, v < x.Plan.length → Py x i v := by
    intro i hc v hv
    have key : ∀ (k : Nat) (v : Nat), v < x.Plan.length → (∀ u, u < x.Plan.length → h v - h u ≤ k) → Py x i v := by
      intro k
      induction k with
      | zero =>
        intro v hv hk
        refine hc v hv fun l hl hb ht => ?_
        have hl' := hx.links l hl
        have f0 := hl'.f0
        have f1 := hl'.f1
        have := hh l hl hb
        have := hk (nd l.From) (by unfold nd; omega)
        rw [ht] at *
        omega
      | succ k ih =>
        intro v hv hk
        refine hc v hv fun l hl hb ht => ?_
        have hl' := hx.links l hl
        have f0 := hl'.f0
        have f1 := hl'.f1
        have h1 := hh l hl hb
        rw [ht] at h1
        refine ih (nd l.From) (by unfold nd; omega) fun u hu => ?_
        have := hk u hu
        omega
    have lo : ∃ m : Int, ∀ u, u < x.Plan.length → m ≤ h u := by
      have : ∀ n : Nat, ∃ m : Int, ∀ u, u < n → m ≤ h u := by
        intro n
        induction n with
        | zero => exact ⟨0, fun u hu => absurd hu (Nat.not_lt_zero _)⟩
        | succ n ih =>
          obtain ⟨m, hm⟩ := ih
          refine ⟨min m (h n), fun u hu => ?_⟩
          by_cases e : u = n
          · subst e; omega
          · have := hm u (by omega); omega
      exact this _
    obtain ⟨m, hm⟩ := lo
    exact key (h v - m).toNat v hv fun u hu => by have := hm u hu; omega
  have grow : ∀ i, i ≤ count (Py x i) x.Plan.length ∨ ∀ v, v < x.Plan.length → Py x i v := by
    intro i
    induction i with
    | zero => exact .inl (Nat.zero_le _)
    | succ i ih =>
      by_cases c : ∀ v, v < x.Plan.length → Py x (i + 1) v → Py x i v
      · exact .inr fun v hv => Py.up x i v (stuck i c v hv)
      · rcases ih with ih | ih
        · left
          have : ∃ v, v < x.Plan.length ∧ Py x (i + 1) v ∧ ¬ Py x i v := by
            refine Classical.byContradiction fun q => c fun v hv hp => Classical.byContradiction fun q2 => q ⟨v, hv, hp, q2⟩
          obtain ⟨v, hv, h1, h2⟩ := this
          have := count_lt (P := Py x i) (Q := Py x (i + 1)) h2 h1 x.Plan.length hv (fun v _ => Py.up x i v)
          omega
        · exact .inr fun v hv => Py.up x i v (ih v hv)
  rcases grow x.Plan.length with c | c
  · have := count_le (Py x x.Plan.length) x.Plan.length
    exact count_all x.Plan.length (by omega)
  · exact c
/-! rings: two ways to see one -/
def relZ (l : MendLink) (z : Bool × List Int) : Bool × List Int :=
  if l.Back = 0 ∧ tm z.2 (nd l.To) ≤ tm z.2 (nd l.From) then (true, z.2.set (nd l.To) (tm z.2 (nd l.From) + 1)) else z
def relZL (ls : List MendLink) (z : Bool × List Int) : Bool × List Int := ls.foldl (fun z l => relZ l z) z
theorem relZ_len (l : MendLink) (z : Bool × List Int) : (relZ l z).2.length = z.2.length := by
  unfold relZ; split
  · simp
  · rfl
theorem relZL_len : ∀ (ls : List MendLink) (z : Bool × List Int), (relZL ls z).2.length = z.2.length
  | [], z => rfl
  | l :: ls, z => by rw [show relZL (l :: ls) z = relZL ls (relZ l z) from rfl, relZL_len ls, relZ_len]
theorem LkOk.nd {x : MendRound} {l : MendLink} (h : LkOk x l) : Go.Fp.nd l.From < x.Plan.length ∧ Go.Fp.nd l.To < x.Plan.length := by
  have := h.f0; have := h.f1; have := h.t0; have := h.t1
  unfold Go.Fp.nd; omega
section
variable {x : MendRound}
theorem relZ_tm {l : MendLink} (hl : LkOk x l) {z : Bool × List Int} (hz : z.2.length = x.Plan.length) (v : Nat) :
    tm (relZ l z).2 v = if v = nd l.To ∧ l.Back = 0 ∧ tm z.2 (nd l.To) ≤ tm z.2 (nd l.From) then tm z.2 (nd l.From) + 1 else tm z.2 v := by
  unfold relZ
  by_cases c : l.Back = 0 ∧ tm z.2 (nd l.To) ≤ tm z.2 (nd l.From)
  · rw [if_pos c, tm_set (by rw [hz]; exact hl.nd.2)]
    by_cases e : v = nd l.To
    · rw [if_pos e, if_pos ⟨e, c⟩]
    · rw [if_neg e, if_neg (fun h => e h.1)]
  · rw [if_neg c, if_neg (fun h => c h.2)]
theorem relZ_mono {l : MendLink} (hl : LkOk x l) {z : Bool × List Int} (hz : z.2.length = x.Plan.length) (v : Nat) : tm z.2 v ≤ tm (relZ l z).2 v := by
  rw [relZ_tm hl hz]
  split
  · rename_i h; rw [h.1]; omega
  · exact Int.le_refl _
theorem relZL_mono : ∀ (ls : List MendLink) (z : Bool × List Int), (∀ l ∈ ls, LkOk x l) → z.2.length = x.Plan.length → ∀ v, tm z.2 v ≤ tm (relZL ls z).2 v
  | [], _, _, _, _ => Int.le_refl _
  | l :: ls, z, h, hz, v => Int.le_trans (relZ_mono (h l (List.mem_cons_self ..)) hz v) (relZL_mono ls (relZ l z) (fun b hb => h b (List.mem_cons_of_mem _ hb)) (by rw [relZ_len]; exact hz) v)
theorem relZL_ub : ∀ (ls : List MendLink) (z : Bool × List Int) (B : Int), (∀ l ∈ ls, LkOk x l) → z.2.length = x.Plan.length → (∀ v, v < x.Plan.length → tm z.2 v ≤ B) → ∀ v, v < x.Plan.length → tm (relZL ls z).2 v ≤ B + ls.length
  | [], z, B, _, _, h, v, hv => by have := h v hv; show tm z.2 v ≤ B + ((0 : Nat) : Int); omega
  | l :: ls, z, B, h, hz, hB, v, hv => by
    have hl := h l (List.mem_cons_self ..)
    have := relZL_ub ls (relZ l z) (B + 1) (fun b hb => h b (List.mem_cons_of_mem _ hb)) (by rw [relZ_len]; exact hz) (fun u hu => by
      rw [relZ_tm hl hz]
      have := hB u hu
      have := hB _ hl.nd.1
      split <;> omega) v hv
    simp only [List.length_cons, Int.natCast_add, Int.natCast_one]
    exact Int.le_trans this (by omega)
theorem relZL_true : ∀ (ls : List MendLink) (z : Bool × List Int), z.1 = true → (relZL ls z).1 = true
  | [], _, h => h
  | l :: ls, z, h => relZL_true ls (relZ l z) (by unfold relZ; split <;> simp [h])
theorem relZL_same : ∀ (ls : List MendLink) (z : Bool × List Int), (relZL ls z).1 = false → ∀ l ∈ ls, l.Back = 0 → tm z.2 (nd l.From) < tm z.2 (nd l.To)
  | [], _, _, l, hl, _ => by cases hl
  | b :: ls, z, h, l, hl, hb => by
    have e : relZ b z = z ∧ ¬ (b.Back = 0 ∧ tm z.2 (nd b.To) ≤ tm z.2 (nd b.From)) := by
      by_cases c : b.Back = 0 ∧ tm z.2 (nd b.To) ≤ tm z.2 (nd b.From)
      · exfalso
        have := relZL_true ls (relZ b z) (by unfold relZ; rw [if_pos c])
        rw [show relZL (b :: ls) z = relZL ls (relZ b z) from rfl, this] at h
        cases h
      · exact ⟨by unfold relZ; rw [if_neg c], c⟩
    rw [show relZL (b :: ls) z = relZL ls (relZ b z) from rfl, e.1] at h
    rcases List.mem_cons.1 hl with rfl | hl
    · have := e.2
      have : ¬ tm z.2 (nd l.To) ≤ tm z.2 (nd l.From) := fun q => this ⟨hb, q⟩
      omega
    · exact relZL_same ls z h l hl hb
theorem relZL_none : ∀ (ls : List MendLink) (z : Bool × List Int), (∀ l ∈ ls, l.Back = 0 → tm z.2 (nd l.From) < tm z.2 (nd l.To)) → relZL ls z = z
  | [], _, _ => rfl
  | l :: ls, z, h => by
    have e : relZ l z = z := by
      unfold relZ
      rw [if_neg]
      rintro ⟨h1, h2⟩
      have := h l (List.mem_cons_self ..) h1
      omega
    rw [show relZL (l :: ls) z = relZL ls (relZ l z) from rfl, e]
    exact relZL_none ls z fun b hb => h b (List.mem_cons_of_mem _ hb)
/-- the first of the order stand still -/
def Still (x : MendRound) (i : Nat) (t : List Int) : Prop := ∀ v, Py x i v → ∀ l ∈ x.Links, l.Back = 0 → nd l.To = v → tm t (nd l.From) < tm t v
theorem still_from {i : Nat} {l : MendLink} (hl : l ∈ x.Links) (hb : l.Back = 0) (h : Py x (i + 1) (nd l.To)) : Py x i (nd l.From) := h l hl hb rfl
theorem pass_still (hx : ROk x) {i : Nat} : ∀ (ls : List MendLink) (z : Bool × List Int), (∀ l ∈ ls, l ∈ x.Links) → z.2.length = x.Plan.length → Still x i z.2 →
    (∀ v, Py x i v → tm (relZL ls z).2 v = tm z.2 v) ∧ ∀ l ∈ ls, l.Back = 0 → Py x i (nd l.From) → tm (relZL ls z).2 (nd l.From) < tm (relZL ls z).2 (nd l.To)
  | [], z, _, _, _ => ⟨fun v _ => rfl, fun l hl => by cases hl⟩
  | b :: ls, z, h, hz, hs => by
    have hb := h b (List.mem_cons_self ..)
    have ob := hx.links b hb
    have hz' : (relZ b z).2.length = x.Plan.length := by rw [relZ_len]; exact hz
    have same : ∀ v, Py x i v → tm (relZ b z).2 v = tm z.2 v := by
      intro v hv
      rw [relZ_tm ob hz, if_neg]
      rintro ⟨e, h1, h2⟩
      have := hs v hv b hb h1 e.symm
      rw [e] at this
      omega
    have hs' : Still x i (relZ b z).2 := by
      intro v hv l hl hb' ht
      rw [same v hv]
      cases i with
      | zero => exact hv.elim
      | succ i =>
        have hf := Py.up x i _ (hv l hl hb' ht)
        rw [same _ hf]
        exact hs v hv l hl hb' ht
    obtain ⟨i1, i2⟩ := pass_still hx ls (relZ b z) (fun c hc => h c (List.mem_cons_of_mem _ hc)) hz' hs'
    refine ⟨fun v hv => by rw [show relZL (b :: ls) z = relZL ls (relZ b z) from rfl, i1 v hv, same v hv], fun l hl hlb hp => ?_⟩
    rw [show relZL (b :: ls) z = relZL ls (relZ b z) from rfl]
    rcases List.mem_cons.1 hl with rfl | hl
    · have k1 : tm (relZ l z).2 (nd l.From) < tm (relZ l z).2 (nd l.To) := by
        rw [same _ hp, relZ_tm ob hz]
        by_cases c : nd l.To = nd l.To ∧ l.Back = 0 ∧ tm z.2 (nd l.To) ≤ tm z.2 (nd l.From)
        · rw [if_pos c]; omega
        · rw [if_neg c]
          have : ¬ tm z.2 (nd l.To) ≤ tm z.2 (nd l.From) := fun q => c ⟨rfl, hlb, q⟩
          omega
      rw [i1 _ hp]
      have := relZL_mono ls (relZ l z) (fun c hc => hx.links c (h c (List.mem_cons_of_mem _ hc))) hz' (nd l.To)
      omega
    · exact i2 l hl hlb hp
theorem ring_loop3 (hx : ROk x) : ∀ (ls : List MendLink) (z : Bool × List Int) (B : Int), (∀ l ∈ ls, LkOk x l) → z.2.length = x.Plan.length → (∀ v, v < x.Plan.length → 0 ≤ tm z.2 v) → (∀ v, v < x.Plan.length → tm z.2 v ≤ B) → B + ls.length ≤ 1000000 →
    MendRoundring.loop3 ls z.1 z.2 = some (relZL ls z)
  | [], _, _, _, _, _, _, _ => rfl
  | l :: ls, z, B, h, hz, h0, hB, hs => by
    have ol := h l (List.mem_cons_self ..)
    obtain ⟨d1, d2⟩ := ol.nd
    have f0 := ol.f0
    have f1 := ol.f1
    have t0 := ol.t0
    have t1 := ol.t1
    have b1 := hB _ d1
    have b2 := h0 _ d1
    simp only [List.length_cons, Int.natCast_add, Int.natCast_one] at hs
    have hnext := ring_loop3 hx ls (relZ l z) (B + 1) (fun c hc => h c (List.mem_cons_of_mem _ hc)) (by rw [relZ_len]; exact hz) (fun v hv => Int.le_trans (h0 v hv) (relZ_mono ol hz v)) (fun v hv => by
      rw [relZ_tm ol hz]
      have := hB v hv
      split <;> omega) (by omega)
    rw [MendRoundring.loop3, gx_tm f0 (by rw [hz]; exact f1), gx_tm t0 (by rw [hz]; exact t1)]
    simp only [Option.bind_some]
    by_cases c : l.Back = 0 ∧ tm z.2 (nd l.To) ≤ tm z.2 (nd l.From)
    · have e : relZ l z = (true, z.2.set (nd l.To) (tm z.2 (nd l.From) + 1)) := if_pos c
      rw [if_pos (by simpa using c.1), decide_eq_true c.2]
      simp only [Option.bind_some, if_true]
      rw [w64_id (by omega), ix_in t0 (by rw [hz]; exact t1), sx_in t0 (by rw [hz]; exact t1)]
      simp only [Option.bind_some]
      rw [e] at hnext
      rw [show relZL (l :: ls) z = relZL ls (relZ l z) from rfl, e]
      exact hnext
    · have e : relZ l z = z := if_neg c
      have e2 : (if (l.Back == 0) = true then some (decide (tm z.2 (nd l.To) ≤ tm z.2 (nd l.From))) else some false) = some false := by
        by_cases c1 : l.Back = 0
        · rw [if_pos (by simpa using c1), decide_eq_false (fun q => c ⟨c1, q⟩)]
        · rw [if_neg (by simpa using c1)]
      rw [e2]
      simp only [Option.bind_some, Bool.false_eq_true, if_false]
      rw [e] at hnext
      rw [show relZL (l :: ls) z = relZL ls (relZ l z) from rfl, e]
      exact hnext
theorem ring_loop2 (hx : ROk x) : ∀ (m i : Nat) (t : List Int), i + m = x.Plan.length + 2 → 1 ≤ m → t.length = x.Plan.length → (∀ v, v < x.Plan.length → 0 ≤ tm t v) → (∀ v, v < x.Plan.length → tm t v ≤ 24 * i) → Still x i t → (i = x.Plan.length + 1 → ¬ Zf x) → ∀ fu, m ≤ fu →
    (MendRoundring.loop2 x fu ((i : Nat) : Int) t = some (.ret false) ∧ Zf x) ∨ (∃ a b, MendRoundring.loop2 x fu ((i : Nat) : Int) t = some (.next (a, b)) ∧ ¬ Zf x) := by
  intro m
  have n1 := hx.n1
  have k1 := hx.k1
  induction m with
  | zero => intro i t _ h; omega
  | succ m ih =>
    intro i t him _ ht h0 hB hs hno fu hfu
    obtain ⟨fu, rfl⟩ : ∃ f, fu = f + 1 := ⟨fu - 1, by omega⟩
    rw [MendRoundring.loop2, w64_id (by omega)]
    by_cases c : i = x.Plan.length + 1
    · rw [if_neg (by simp; omega)]
      exact .inr ⟨_, _, rfl, hno c⟩
    · rw [if_pos (by simp; omega), ring_loop3 hx x.Links (false, t) (24 * i) hx.links ht h0 hB (by omega)]
      simp only [Option.bind_some]
      obtain ⟨p1, p2⟩ := pass_still hx (i := i) x.Links (false, t) (fun l hl => hl) ht hs
      have hmono := relZL_mono x.Links (false, t) hx.links ht
      cases hc : (relZL x.Links (false, t)).1 with
      | false =>
        left
        exact ⟨rfl, tm t, relZL_same x.Links (false, t) hc⟩
      | true =>
        simp only [Bool.not_true, Bool.false_eq_true, if_false]
        rw [w64_id (by omega)]
        have := ih (i + 1) (relZL x.Links (false, t)).2 (by omega) (by omega) (by rw [relZL_len]; exact ht) (fun v hv => Int.le_trans (h0 v hv) (hmono v)) (fun v hv => by
          have := relZL_ub x.Links (false, t) (24 * i) hx.links ht hB v hv
          simp only [Int.natCast_add, Int.natCast_one]
          omega) (fun v hv l hl hb hto => by
            rw [← hto]
            exact p2 l hl hb (hv l hl hb hto)) (fun e hz => by
            have hi : i = x.Plan.length := by omega
            have all := py_all hx hz
            have : relZL x.Links (false, t) = (false, t) := relZL_none x.Links (false, t) fun l hl hb => by
              have := hs (nd l.To) (by rw [hi]; exact all _ (hx.links l hl).nd.2) l hl hb rfl
              exact this
            rw [this] at hc
            cases hc) fu (by omega)
        simpa only [Int.natCast_add, Int.natCast_one] using this
theorem ring_run (hx : ROk x) {fu : Nat} (hf : 20 ≤ fu) : ∃ b, MendRoundring fu x = some b ∧ (b = false ↔ Zf x) := by
  have n1 := hx.n1
  unfold MendRoundring
  rw [mks_in (by omega)]
  simp only [Option.bind_some]
  have hrep : ∀ v, tm (List.replicate x.Plan.length (0 : Int)) v = 0 := by
    intro v; unfold tm; rw [List.getElem?_replicate]; split <;> rfl
  have h := ring_loop2 hx (x.Plan.length + 2) 0 (List.replicate x.Plan.length 0) (by omega) (by omega) (by simp) (fun v _ => by rw [hrep]; omega) (fun v _ => by rw [hrep]; omega) (fun v hv => hv.elim) (fun e => by omega) fu (by omega)
  rcases h with ⟨e, hz⟩ | ⟨a, b, e, hz⟩
  · have e' : MendRoundring.loop2 x fu 0 (List.replicate x.Plan.length 0) = some (.ret false) := e
    rw [e']
    exact ⟨false, rfl, fun _ => hz, fun _ => rfl⟩
  · have e' : MendRoundring.loop2 x fu 0 (List.replicate x.Plan.length 0) = some (.next (a, b)) := e
    rw [e']
    exact ⟨true, rfl, fun q => (by cases q), fun q => absurd q hz⟩

/-! the other way: events taken away -/
def frees (w : List Bool) (k : Nat) (ls : List MendLink) : Bool := ls.all fun l => decide (l.Back > 0) || (l.To != ((k : Nat) : Int)) || bt w (nd l.From)
theorem free_loop {w : List Bool} (hw : w.length = x.Plan.length) (k : Nat) : ∀ (ls : List MendLink) (q : Bool), (∀ l ∈ ls, LkOk x l) → Fishref2RoundFault.loop5 w k ls q = some (q && frees w k ls)
  | [], q, _ => by simp [Fishref2RoundFault.loop5, frees]
  | l :: ls, q, h => by
    have ol := h l (List.mem_cons_self ..)
    have ih := fun q => free_loop hw k ls q (fun c hc => h c (List.mem_cons_of_mem _ hc))
    rw [Fishref2RoundFault.loop5, gx_bt ol.f0 (by rw [hw]; exact ol.f1)]
    have hf : frees w k (l :: ls) = ((decide (l.Back > 0) || (l.To != ((k : Nat) : Int)) || bt w (nd l.From)) && frees w k ls) := by simp [frees]
    cases q with
    | false => simp only [Bool.false_eq_true, if_false, Option.bind_some, ih, Bool.false_and]
    | true =>
      simp only [if_true, Option.bind_some]
      rw [hf]
      by_cases c1 : l.Back > 0
      · simp only [c1, decide_true, if_true, Option.bind_some, ih, Bool.true_or, Bool.true_and]
      · by_cases c2 : (l.To != ((k : Nat) : Int)) = true
        · simp only [c1, c2, decide_false, Bool.false_eq_true, if_false, if_true, Option.bind_some, ih, Bool.true_or, Bool.false_or, Bool.true_and]
        · have c2' : (l.To != ((k : Nat) : Int)) = false := by simpa using c2
          simp only [c1, c2', decide_false, Bool.false_eq_true, if_false, Option.bind_some, ih, Bool.false_or, Bool.true_and]
theorem frees_iff {w : List Bool} {k : Nat} {ls : List MendLink} : frees w k ls = true ↔ ∀ l ∈ ls, l.Back > 0 ∨ l.To ≠ ((k : Nat) : Int) ∨ bt w (nd l.From) = true := by
  simp [frees, List.all_eq_true, or_assoc]
/-- those that are away came away in an order -/
def Away (x : MendRound) (w : List Bool) : Prop := ∃ (h : Nat → Int) (B : Int), (∀ v, bt w v = true → h v < B) ∧ ∀ l ∈ x.Links, l.Back = 0 → bt w (nd l.To) = true → bt w (nd l.From) = true ∧ h (nd l.From) < h (nd l.To)
theorem away_loop4 (hx : ROk x) {i : Nat} : ∀ (ps : List Int) (k : Nat) (w : List Bool), k + ps.length = x.Plan.length → w.length = x.Plan.length → Away x w → (∀ v, v < x.Plan.length → Py x i v → bt w v = true) → (∀ v, v < k → Py x (i + 1) v → bt w v = true) →
    ∃ w', Fishref2RoundFault.loop4 x ps k w = some w' ∧ w'.length = x.Plan.length ∧ Away x w' ∧ ∀ v, v < x.Plan.length → Py x (i + 1) v → bt w' v = true
  | [], k, w, hk, hw, ha, _, h2 => ⟨w, rfl, hw, ha, fun v hv => h2 v (by simp at hk; omega)⟩
  | p :: ps, k, w, hk, hw, ha, h1, h2 => by
    simp only [List.length_cons] at hk
    have hkw : k < w.length := by omega
    have hkw' : ((k : Nat) : Int) < (w.length : Int) := by omega
    rw [Fishref2RoundFault.loop4, free_loop hw k x.Links true hx.links, gx_at hkw, ← bt_get hkw]
    simp only [Option.bind_some, Bool.true_and]
    rw [ix_in (by omega) hkw', sx_in (by omega) hkw', sx_in (by omega) hkw']
    simp only [Option.bind_some, Int.toNat_natCast]
    by_cases c : bt w k = true
    · simp only [c, if_true, Option.bind_some]
      have hsame : ∀ v, bt (w.set k true) v = bt w v := by
        intro v
        rw [bt_set hkw]
        split
        · rename_i e; rw [e, c]
        · rfl
      refine away_loop4 hx ps (k + 1) (w.set k true) (by omega) (by simpa using hw) ?_ (fun v hv hp => by rw [hsame]; exact h1 v hv hp) (fun v hv hp => ?_)
      · obtain ⟨h, B, a1, a2⟩ := ha
        exact ⟨h, B, fun v hv => a1 v (by rwa [hsame] at hv), fun l hl hb ht => by rw [hsame] at ht ⊢; exact a2 l hl hb ht⟩
      · rw [hsame]
        by_cases e : v = k
        · subst e; exact c
        · exact h2 v (by omega) hp
    · have c' : bt w k = false := by simpa using c
      simp only [c', Bool.false_eq_true, if_false, Option.bind_some]
      cases hf : frees w k x.Links with
      | false =>
        have hsame : ∀ v, bt (w.set k false) v = bt w v := by
          intro v
          rw [bt_set hkw]
          split
          · rename_i e; rw [e, c']
          · rfl
        refine away_loop4 hx ps (k + 1) (w.set k false) (by omega) (by simpa using hw) ?_ (fun v hv hp => by rw [hsame]; exact h1 v hv hp) (fun v hv hp => ?_)
        · obtain ⟨h, B, a1, a2⟩ := ha
          exact ⟨h, B, fun v hv => a1 v (by rwa [hsame] at hv), fun l hl hb ht => by rw [hsame] at ht ⊢; exact a2 l hl hb ht⟩
        · rw [hsame]
          by_cases e : v = k
          · exfalso
            subst e
            have : frees w v x.Links = true := frees_iff.2 fun l hl => by
              have ol := hx.links l hl
              by_cases q1 : l.Back > 0
              · exact .inl q1
              · by_cases q2 : l.To = ((v : Nat) : Int)
                · have hb : l.Back = 0 := by have := ol.b0; omega
                  exact .inr (.inr (h1 _ ol.nd.1 (hp l hl hb (by unfold nd; omega))))
                · exact .inr (.inl q2)
            rw [this] at hf
            cases hf
          · exact h2 v (by omega) hp
      | true =>
        have hset : ∀ v, bt (w.set k true) v = if v = k then true else bt w v := fun v => bt_set hkw
        refine away_loop4 hx ps (k + 1) (w.set k true) (by omega) (by simpa using hw) ?_ (fun v hv hp => by
          rw [hset]; split
          · rfl
          · exact h1 v hv hp) (fun v hv hp => ?_)
        · obtain ⟨h, B, a1, a2⟩ := ha
          refine ⟨fun v => if v = k then B else h v, B + 1, fun v hv => ?_, fun l hl hb ht => ?_⟩
          · rw [hset] at hv
            by_cases e : v = k
            · simp only [if_pos e]; omega
            · rw [if_neg e] at hv
              simp only [if_neg e]
              have := a1 v hv
              omega
          · have ol := hx.links l hl
            rw [hset] at ht ⊢
            by_cases e : nd l.To = k
            · have hfr : bt w (nd l.From) = true := by
                rcases frees_iff.1 hf l hl with q | q | q
                · omega
                · exact absurd (by have := ol.t0; unfold nd at e; omega) q
                · exact q
              have ne : nd l.From ≠ k := fun q => by rw [q, c'] at hfr; cases hfr
              simp only [if_pos e, if_neg ne]
              exact ⟨hfr, a1 _ hfr⟩
            · rw [if_neg e] at ht
              obtain ⟨b1, b2⟩ := a2 l hl hb ht
              have ne : nd l.From ≠ k := fun q => by rw [q, c'] at b1; cases b1
              simp only [if_neg e, if_neg ne]
              exact ⟨b1, b2⟩
        · rw [hset]
          by_cases e : v = k
          · rw [if_pos e]
          · rw [if_neg e]; exact h2 v (by omega) hp
theorem away_loop3 (hx : ROk x) : ∀ (ps : List Int) (i : Nat) (w : List Bool), w.length = x.Plan.length → Away x w → (∀ v, v < x.Plan.length → Py x i v → bt w v = true) →
    ∃ w', Fishref2RoundFault.loop3 x ps w = some w' ∧ w'.length = x.Plan.length ∧ Away x w' ∧ ∀ v, v < x.Plan.length → Py x (i + ps.length) v → bt w' v = true
  | [], i, w, hw, ha, h => ⟨w, rfl, hw, ha, h⟩
  | p :: ps, i, w, hw, ha, h => by
    obtain ⟨w1, e1, a1, a2, a3⟩ := away_loop4 hx (i := i) x.Plan 0 w (by omega) hw ha h (fun v hv => absurd hv (Nat.not_lt_zero _))
    obtain ⟨w', f1, f2, f3, f4⟩ := away_loop3 hx ps (i + 1) w1 a1 a2 a3
    rw [Fishref2RoundFault.loop3, e1]
    refine ⟨w', f1, f2, f3, fun v hv hp => f4 v hv ?_⟩
    rw [List.length_cons] at hp
    rw [show i + 1 + ps.length = i + (ps.length + 1) by omega]
    exact hp
theorem has_false : ∀ (w : List Bool) (k : Nat), (SlicesIndexLbool.loop1 false w k = .next () ∧ ∀ v, v < w.length → bt w v = true) ∨ (∃ j : Nat, SlicesIndexLbool.loop1 false w k = .ret (j : Int) ∧ ∃ v, v < w.length ∧ bt w v = false)
  | [], _ => .inl ⟨rfl, fun v hv => absurd hv (Nat.not_lt_zero _)⟩
  | false :: w, k => .inr ⟨k, rfl, 0, by simp, rfl⟩
  | true :: w, k => by
    rw [SlicesIndexLbool.loop1]
    rcases has_false w (k + 1) with ⟨e, h⟩ | ⟨j, e, v, hv, h⟩
    · refine .inl ⟨e, fun v hv => ?_⟩
      cases v with
      | zero => rfl
      | succ v => have := h v (by simpa using hv); simpa [bt] using this
    · exact .inr ⟨j, e, v + 1, by simpa using hv, by simpa [bt] using h⟩
theorem away_run (hx : ROk x) : ∃ w, ((mks ((x.Plan.length : Nat) : Int) (false : Bool)).bind fun q => Fishref2RoundFault.loop3 x x.Plan q) = some w ∧ (SlicesContainsLbool w false = false ↔ Zf x) := by
  have n1 := hx.n1
  rw [mks_in (by omega), Option.bind_some]
  have hrep : ∀ v, bt (List.replicate x.Plan.length false) v = false := by
    intro v; unfold bt; rw [List.getElem?_replicate]; split <;> rfl
  obtain ⟨w, e, h1, h2, h3⟩ := away_loop3 hx x.Plan 0 (List.replicate x.Plan.length false) (by simp) ⟨fun _ => 0, 0, fun v hv => (by rw [hrep] at hv; cases hv), fun l _ _ ht => (by rw [hrep] at ht; cases ht)⟩ (fun v _ hp => hp.elim)
  refine ⟨w, e, ?_⟩
  unfold SlicesContainsLbool SlicesIndexLbool bnd
  rcases has_false w 0 with ⟨q, all⟩ | ⟨j, q, v, hv, no⟩
  · rw [q]
    refine ⟨fun _ => ?_, fun _ => rfl⟩
    obtain ⟨h, B, _, a2⟩ := h2
    exact ⟨h, fun l hl hb => (a2 l hl hb (all _ (by rw [h1]; exact (hx.links l hl).nd.2))).2⟩
  · rw [q]
    have hj : decide (((j : Nat) : Int) ≥ 0) = true := decide_eq_true (by omega)
    refine ⟨fun q => (by rw [hj] at q; cases q), fun hz => ?_⟩
    have := h3 v (by omega) (by rw [Nat.zero_add]; exact py_all hx hz v (by omega))
    rw [no] at this
    cases this
end
/-- both say the same of a round -/
theorem round_eqz (x : MendRound) {fu : Nat} (hf : 20 ≤ fu) : MendCheckRound fu x = Fishref2RoundFault x ∧ ∃ r, Fishref2RoundFault x = some r ∧ (r = 0 → ROk x ∧ Zf x) := by
  unfold MendCheckRound Fishref2RoundFault
  rw [rw_eq]
  simp only [mwithin, bnd]
  by_cases c1 : 1 ≤ x.Period ∧ x.Period ≤ 3600
  · rw [decide_eq_true c1]
    simp only [Bool.not_true, Bool.false_eq_true, if_false]
    by_cases c2 : 1 ≤ (x.Plan.length : Int) ∧ (x.Plan.length : Int) ≤ 8
    · rw [decide_eq_true c2]
      simp only [Bool.not_true, Bool.false_eq_true, if_false]
      by_cases c3 : (x.Links.length : Int) > 24
      · rw [decide_eq_true c3]
        simp only [if_true]
        exact ⟨trivial, 4, rfl, fun e => by cases e⟩
      · rw [decide_eq_false c3]
        simp only [Bool.false_eq_true, if_false, plan_eq, links_eq x (by omega)]
        have hp := plan_ok x c1.2 c1.1 x.Plan
        have hl := fun hpl => links_ok (x := x) c1.1 c1.2 (by omega) hpl x.Links
        have hr := fun hx : ROk x => ring_run hx hf
        have ha := fun hx : ROk x => away_run hx
        generalize MendCheckRound.loop1 x x.Plan = P at *
        generalize MendCheckRound.loop2 x x.Links = L at *
        generalize MendRoundring fu x = R at *
        generalize mks ((x.Plan.length : Nat) : Int) (false : Bool) = M at *
        generalize Fishref2RoundFault.loop3 x x.Plan = G at *
        rcases hp with rfl | ⟨rfl, hpl⟩
        · dsimp only
          exact ⟨rfl, 2, rfl, fun e => by cases e⟩
        · rcases hl hpl with ⟨r, rfl, hr⟩ | ⟨rfl, hl2⟩
          · simp only [Option.bind_some]
            exact ⟨trivial, r, rfl, fun e => absurd e hr⟩
          · have hx : ROk x := ⟨c1.1, c1.2, by omega, by omega, by omega, hpl, hl2⟩
            obtain ⟨b, rfl, hb2⟩ := hr hx
            obtain ⟨w, hw, hw2⟩ := ha hx
            have : b = SlicesContainsLbool w false := by
              cases b with
              | false => exact (hw2.2 (hb2.1 rfl)).symm
              | true =>
                cases q : SlicesContainsLbool w false with
                | false => exact absurd (hb2.2 (hw2.1 q)) (by simp)
                | true => rfl
            have e3 : (M.bind fun x116 => (G x116).bind fun q133 => if SlicesContainsLbool q133 false = true then some 5 else some (0 : Int)) = (if b = true then some 5 else some 0) := by
              rw [← Option.bind_assoc, hw, Option.bind_some, this]
            simp only [Option.bind_some, e3]
            exact ⟨trivial, (if b = true then 5 else 0), (by split <;> rfl), fun e => ⟨hx, hb2.1 (by cases b with | false => rfl | true => exact absurd e (by decide))⟩⟩
    · rw [decide_eq_false c2]
      simp only [Bool.not_false, if_true]
      exact ⟨trivial, 4, rfl, fun e => by cases e⟩
  · rw [decide_eq_false c1]
    simp only [Bool.not_false, if_true]
    exact ⟨trivial, 2, rfl, fun e => by cases e⟩
theorem round_eq (x : MendRound) {fu : Nat} (hf : 20 ≤ fu) : MendCheckRound fu x = Fishref2RoundFault x ∧ ∃ r, Fishref2RoundFault x = some r ∧ (r = 0 → ROk x) := by
  obtain ⟨h1, r, h2, h3⟩ := round_eqz x hf
  exact ⟨h1, r, h2, fun e => (h3 e).1⟩
/-! tables -/
def row (g : List (List Int)) (k : Nat) : List Int := (g[k]?).getD []
def gv (g : List (List Int)) (k v : Nat) : Int := tm (row g k) v
theorem row_set {g : List (List Int)} {k j : Nat} {r : List Int} (h : k < g.length) : row (g.set k r) j = if j = k then r else row g j := by
  unfold row
  by_cases c : j = k
  · subst c; rw [if_pos rfl, List.getElem?_set_self h]; rfl
  · rw [if_neg c, List.getElem?_set_ne (fun e => c e.symm)]
theorem gx_row {g : List (List Int)} {i : Int} (h0 : 0 ≤ i) (h1 : i < g.length) : gx g i = some (row g (nd i)) := by
  have h : i.toNat < g.length := by omega
  rw [gx_toNat h0 h]; simp [row, nd, h]
theorem gx_rowN {g : List (List Int)} {k : Nat} (h : k < g.length) : gx g ((k : Nat) : Int) = some (row g k) := by
  rw [gx_at h]; simp [row, h]
theorem gv_set {g : List (List Int)} {k v : Nat} {a : Int} (h : k < g.length) (hv : v < (row g k).length) (j u : Nat) : gv (g.set k ((row g k).set v a)) j u = if j = k ∧ u = v then a else gv g j u := by
  unfold gv
  rw [row_set h]
  by_cases c : j = k
  · subst c
    rw [if_pos rfl, tm_set hv]
    by_cases e : u = v
    · rw [if_pos e, if_pos ⟨rfl, e⟩]
    · rw [if_neg e, if_neg (fun q => e q.2)]
  · rw [if_neg c, if_neg (fun q => c q.1)]
theorem set_tm {r : List Int} {v : Nat} : r.set v (tm r v) = r := by
  refine List.ext_getElem? fun i => ?_
  by_cases e : i = v
  · subst e
    rcases Nat.lt_or_ge i r.length with h | h
    · rw [List.getElem?_set_self h, tm_get h, List.getElem?_eq_getElem h]
    · rw [List.getElem?_eq_none (by simpa using h), List.getElem?_eq_none h]
  · rw [List.getElem?_set_ne (fun q => e q.symm)]
theorem set_row {g : List (List Int)} {k : Nat} : g.set k (row g k) = g := by
  refine List.ext_getElem? fun i => ?_
  by_cases e : i = k
  · subst e
    rcases Nat.lt_or_ge i g.length with h | h
    · rw [List.getElem?_set_self h, List.getElem?_eq_getElem h]; simp [row, h]
    · rw [List.getElem?_eq_none (by simpa using h), List.getElem?_eq_none h]
  · rw [List.getElem?_set_ne (fun q => e q.symm)]
theorem drop_row {b : List (List Int)} {k : Nat} (h : k < b.length) : b.drop k = row b k :: b.drop (k + 1) := by
  rw [List.drop_eq_getElem_cons h]; simp [row, h]
theorem list_tm {a b : List Int} (hl : a.length = b.length) (h : ∀ v, v < a.length → tm a v = tm b v) : a = b := by
  refine List.ext_getElem hl fun v h1 h2 => ?_
  rw [← tm_get h1, ← tm_get h2]; exact h v h1
/-! ways along links, and rings -/
def lk (L : List MendLink) (i : Nat) : MendLink := (L[i]?).getD ⟨0, 0, 0, 0⟩
theorem lk_get {L : List MendLink} {i : Nat} (h : i < L.length) : lk L i = L[i] := by simp [lk, h]
def Wk (L : List MendLink) : Int → Int → List Nat → Prop
  | a, b, [] => a = b
  | a, b, i :: is => i < L.length ∧ (lk L i).From = a ∧ Wk L (lk L i).To b is
def sL (L : List MendLink) : List Nat → Int
  | [] => 0
  | i :: is => (lk L i).Len + sL L is
def sB (L : List MendLink) : List Nat → Int
  | [] => 0
  | i :: is => (lk L i).Back + sB L is
def src (L : List MendLink) (is : List Nat) : List Int := is.map fun i => (lk L i).From
section
variable {L : List MendLink}
theorem sL_app : ∀ p q : List Nat, sL L (p ++ q) = sL L p + sL L q
  | [], q => by simp [sL]
  | i :: p, q => by simp only [List.cons_append, sL, sL_app p q]; omega
theorem sB_app : ∀ p q : List Nat, sB L (p ++ q) = sB L p + sB L q
  | [], q => by simp [sB]
  | i :: p, q => by simp only [List.cons_append, sB, sB_app p q]; omega
theorem Wk.app : ∀ {p : List Nat} {a b c : Int} {q : List Nat}, Wk L a b p → Wk L b c q → Wk L a c (p ++ q)
  | [], a, b, c, q, h, k => by cases h; exact k
  | i :: p, a, b, c, q, h, k => ⟨h.1, h.2.1, h.2.2.app k⟩
theorem Wk.split : ∀ {p : List Nat} {a c : Int} {q : List Nat}, Wk L a c (p ++ q) → ∃ b, Wk L a b p ∧ Wk L b c q
  | [], a, c, q, h => ⟨a, rfl, h⟩
  | i :: p, a, c, q, h => by
    obtain ⟨b, h1, h2⟩ := Wk.split (p := p) h.2.2
    exact ⟨b, ⟨h.1, h.2.1, h1⟩, h2⟩
theorem Wk.head {a b : Int} {i : Nat} {is : List Nat} (h : Wk L a b (i :: is)) : (lk L i).From = a := h.2.1
end
structure RIn (x : MendRound) : Prop where
  ok : ROk x
  zf : Zf x
def Rng (L : List MendLink) (r : List Nat) : Prop := r ≠ [] ∧ (src L r).Nodup ∧ ∃ v, Wk L v v r
section
variable {x : MendRound}
theorem RIn.lk (h : RIn x) {i : Nat} (hi : i < x.Links.length) : LkOk x (lk x.Links i) := by rw [lk_get hi]; exact h.ok.links _ (List.getElem_mem hi)
theorem RIn.sums (h : RIn x) : ∀ {is : List Nat} {a b : Int}, Wk x.Links a b is → 0 ≤ sL x.Links is ∧ sL x.Links is ≤ 28800 * is.length ∧ 0 ≤ sB x.Links is ∧ sB x.Links is ≤ 3 * is.length
  | [], _, _, _ => by simp [sL, sB]
  | i :: is, a, b, w => by
    obtain ⟨h1, h2, h3, h4⟩ := h.sums w.2.2
    have k := h.lk w.1
    have k1 := k.n0; have k2 := k.n1; have k3 := k.b0; have k4 := k.b1
    simp only [sL, sB, List.length_cons, Int.natCast_add, Int.natCast_one]
    omega
theorem RIn.rise (h : RIn x) : ∃ f : Nat → Int, ∀ (is : List Nat) (a b : Int), Wk x.Links a b is → sB x.Links is = 0 → f (nd a) + is.length ≤ f (nd b) := by
  obtain ⟨f, hf⟩ := h.zf
  refine ⟨f, ?_⟩
  intro is
  induction is with
  | nil => intro a b w _; cases w; simp
  | cons i is ih =>
    intro a b w hs
    have k := h.lk w.1
    have k3 := k.b0
    have s := (h.sums w.2.2).2.2.1
    simp only [sB] at hs
    have := ih _ _ w.2.2 (by omega)
    have h2 := hf (Go.Fp.lk x.Links i) (by rw [lk_get w.1]; exact List.getElem_mem w.1) (by omega)
    rw [w.2.1] at h2
    simp only [List.length_cons, Int.natCast_add, Int.natCast_one]
    omega
theorem RIn.pos (h : RIn x) {is : List Nat} {v : Int} (w : Wk x.Links v v is) (hne : is ≠ []) : 0 < sB x.Links is := by
  obtain ⟨f, hf⟩ := h.rise
  have s := (h.sums w).2.2.1
  rcases Int.lt_or_eq_of_le s with s | s
  · exact s
  · have := hf is v v w s.symm
    have : 0 < is.length := List.length_pos_iff.2 hne
    omega
theorem not_nodup {l : List Int} (h : ¬ l.Nodup) : ∃ i j, i < j ∧ ∃ hj : j < l.length, ∃ hi : i < l.length, l[i] = l[j] := by
  refine Classical.byContradiction fun q => h ?_
  rw [List.nodup_iff_pairwise_ne, List.pairwise_iff_getElem]
  intro i j hi hj hij e
  exact q ⟨i, j, hij, hj, hi, e⟩
/-- what holds of rings holds of closed ways -/
theorem closed_rings {L : List MendLink} {A B : Int} (H : ∀ r, Rng L r → sL L r * B ≤ A * sB L r) : ∀ (n : Nat) (v : Int) (is : List Nat), is.length ≤ n → is ≠ [] → Wk L v v is → sL L is * B ≤ A * sB L is ∧ ∃ r, Rng L r
  | 0, v, is, hn, hne, _ => absurd (List.length_pos_iff.2 hne) (by omega)
  | n + 1, v, is, hn, hne, w => by
    by_cases c : (src L is).Nodup
    · exact ⟨H is ⟨hne, c, v, w⟩, is, hne, c, v, w⟩
    · obtain ⟨i, j, hij, hj, hi, e⟩ := not_nodup c
      have hl : (src L is).length = is.length := by simp [src]
      have e1 : is = is.take i ++ ((is.drop i).take (j - i) ++ is.drop j) := by
        conv => lhs; rw [← List.take_append_drop i is, ← List.take_append_drop (j - i) (is.drop i)]
        rw [List.drop_drop]; congr 3; omega
      have d1 : is.drop i = is[i]'(by omega) :: is.drop (i + 1) := List.drop_eq_getElem_cons (by omega)
      have d2 : is.drop j = is[j]'(by omega) :: is.drop (j + 1) := List.drop_eq_getElem_cons (by omega)
      have w' := w
      rw [e1] at w'
      obtain ⟨u, w1, w2⟩ := Wk.split w'
      obtain ⟨t, w3, w4⟩ := Wk.split w2
      have hu : (lk L (is[i]'(by omega))).From = u := by
        have : (is.drop i).take (j - i) = is[i]'(by omega) :: (is.drop (i + 1)).take (j - i - 1) := by
          rw [d1, List.take_cons (by omega)]
        rw [this] at w3
        exact w3.2.1
      have ht : (lk L (is[j]'(by omega))).From = t := by rw [d2] at w4; exact w4.2.1
      have : u = t := by rw [← hu, ← ht]; simpa [src] using e
      subst this
      have l1 : ((is.drop i).take (j - i)).length = j - i := by simp; omega
      have l2 : (is.take i ++ is.drop j).length = i + (is.length - j) := by simp; omega
      obtain ⟨r1, _⟩ := closed_rings H n u ((is.drop i).take (j - i)) (by omega) (fun q => by rw [q] at l1; simp at l1; omega) w3
      obtain ⟨r2, r3⟩ := closed_rings H n v (is.take i ++ is.drop j) (by omega) (fun q => by rw [q] at l2; simp at l2; omega) (w1.app w4)
      refine ⟨?_, r3⟩
      rw [e1, sL_app, sB_app, sL_app, sB_app]
      rw [sL_app, sB_app] at r2
      rw [Int.add_mul, Int.add_mul, Int.mul_add, Int.mul_add]
      rw [Int.add_mul, Int.mul_add] at r2
      omega
theorem min_at : ∀ (l : List Int), l ≠ [] → ∃ i, ∃ hi : i < l.length, ∀ a ∈ l, l[i] ≤ a
  | [a], _ => ⟨0, by simp, by simp⟩
  | a :: b :: l, _ => by
    obtain ⟨i, hi, h⟩ := min_at (b :: l) (by simp)
    by_cases c : a ≤ (b :: l)[i]
    · refine ⟨0, by simp, fun z hz => ?_⟩
      rcases List.mem_cons.1 hz with rfl | hz
      · simp
      · exact Int.le_trans c (h z hz)
    · refine ⟨i + 1, by simpa using hi, fun z hz => ?_⟩
      rcases List.mem_cons.1 hz with rfl | hz
      · simp only [List.getElem_cons_succ]; omega
      · simpa using h z hz
/-- a ring, from its least event on -/
theorem ring_least {L : List MendLink} {r : List Nat} (h : Rng L r) : ∃ (s : List Nat) (f : Int), s ≠ [] ∧ (src L s).Nodup ∧ Wk L f f s ∧ (∀ a ∈ src L s, f ≤ a) ∧ sL L s = sL L r ∧ sB L s = sB L r ∧ s.length = r.length := by
  obtain ⟨h1, h2, v, h3⟩ := h
  obtain ⟨i, hi, hm⟩ := min_at (src L r) (by simpa [src] using h1)
  have hl : (src L r).length = r.length := by simp [src]
  have e := List.take_append_drop i r
  have w := h3
  rw [← e] at w
  obtain ⟨u, w1, w2⟩ := Wk.split w
  have d1 : r.drop i = r[i]'(by omega) :: r.drop (i + 1) := List.drop_eq_getElem_cons (by omega)
  have hu : (src L r)[i] = u := by rw [d1] at w2; rw [← w2.2.1]; simp [src]
  have hp : (src L (r.drop i ++ r.take i)).Perm (src L r) := by
    conv => rhs; rw [← e]
    simp only [src, List.map_append]
    exact List.perm_append_comm
  refine ⟨r.drop i ++ r.take i, u, ?_, hp.nodup_iff.2 h2, w2.app w1, ?_, ?_, ?_, ?_⟩
  · intro q
    rw [d1] at q
    cases q
  · intro a ha
    rw [← hu]
    exact hm a (hp.mem_iff.1 ha)
  · conv => rhs; rw [← e]
    rw [sL_app, sL_app]; omega
  · conv => rhs; rw [← e]
    rw [sB_app, sB_app]; omega
  · simp; omega
/-- what is left of a ring from first, being at at, when S is taken -/
def Ext (L : List MendLink) (first : Int) : (Int → Prop) → Int → List Nat → Prop
  | _, _, [] => False
  | S, at', i :: q => i < L.length ∧ (lk L i).From = at' ∧ ((q = [] ∧ (lk L i).To = first) ∨ (first < (lk L i).To ∧ ¬ S (lk L i).To ∧ Ext L first (fun v => S v ∨ v = (lk L i).To) (lk L i).To q))
theorem ring_ext {L : List MendLink} {first : Int} : ∀ (q : List Nat) (S : Int → Prop) (a : Int), q ≠ [] → Wk L a first q → (src L q).Nodup → (∀ v ∈ src L q.tail, first < v ∧ ¬ S v) → Ext L first S a q
  | [], _, _, h, _, _, _ => absurd rfl h
  | [i], S, a, _, w, _, _ => ⟨w.1, w.2.1, .inl ⟨rfl, w.2.2⟩⟩
  | i :: j :: q, S, a, _, w, hn, hs => by
    have hj : (lk L j).From = (lk L i).To := w.2.2.2.1
    have h0 := hs (lk L j).From (by simp [src])
    rw [hj] at h0
    have hn2 : (src L (j :: q)).Nodup := (List.nodup_cons.1 hn).2
    refine ⟨w.1, w.2.1, .inr ⟨h0.1, h0.2, ring_ext (j :: q) _ _ (by simp) w.2.2 hn2 fun v hv => ?_⟩⟩
    have hv' : v ∈ src L q := hv
    have hx := hs v (by simp only [List.tail_cons, src, List.map_cons, List.mem_cons]; exact .inr hv')
    refine ⟨hx.1, ?_⟩
    rintro (h | h)
    · exact hx.2 h
    · have hn3 := (List.nodup_cons.1 hn2).1
      have hn4 : (lk L j).From ∉ src L q := hn3
      rw [hj, ← h] at hn4
      exact hn4 hv'
/-- which candidates are not greater -/
def Bt (best : List Int) (back long f b : Int) : Prop := best ≠ [] ∧ f * back ≤ long * b
theorem frac_le {f b A B A' B' : Int} (hB : 0 < B) (hb : 0 ≤ b) (hB' : 0 ≤ B') (h : f * B ≤ A * b) (k : A * B' ≤ A' * B) : f * B' ≤ A' * b := by
  have h1 : f * B * B' ≤ A * b * B' := Int.mul_le_mul_of_nonneg_right h hB'
  have h2 : A * B' * b ≤ A' * B * b := Int.mul_le_mul_of_nonneg_right k hb
  have e1 : f * B * B' = f * B' * B := by rw [Int.mul_assoc, Int.mul_comm B B', ← Int.mul_assoc]
  have e2 : A * b * B' = A * B' * b := by rw [Int.mul_assoc, Int.mul_comm b B', ← Int.mul_assoc]
  have e3 : A' * B * b = A' * b * B := by rw [Int.mul_assoc, Int.mul_comm B b, ← Int.mul_assoc]
  exact Int.le_of_mul_le_mul_right (by omega : f * B' * B ≤ A' * b * B) hB
def un : List Bool → Nat
  | [] => 0
  | b :: l => (if b then 0 else 1) + un l
theorem un_set : ∀ (l : List Bool) (k : Nat), k < l.length → bt l k = false → un (l.set k true) + 1 = un l
  | [], k, h, _ => absurd h (Nat.not_lt_zero _)
  | b :: l, 0, _, h => by simp [bt] at h; subst h; simp [un]; omega
  | b :: l, k + 1, h, q => by
    have := un_set l k (by simpa using h) (by simpa [bt] using q)
    simp only [List.set_cons_succ, un]; omega
theorem un_rep : ∀ n : Nat, un (List.replicate n false) = n
  | 0 => rfl
  | n + 1 => by rw [List.replicate_succ, un, un_rep n]; simp; omega
theorem set_bt {r : List Bool} {v : Nat} (h : bt r v = false) : r.set v false = r := by
  refine List.ext_getElem? fun i => ?_
  by_cases e : i = v
  · subst e
    rcases Nat.lt_or_ge i r.length with h' | h'
    · rw [List.getElem?_set_self h', List.getElem?_eq_getElem h']; rw [bt_get h'] at h; rw [h]
    · rw [List.getElem?_eq_none (by simpa using h'), List.getElem?_eq_none h']
  · rw [List.getElem?_set_ne (fun q => e q.symm)]
def ints (l : List Nat) : List Int := l.map fun (i : Nat) => (i : Int)
theorem clone_ints (l : List Int) (h : l.length < 4294967296) : SlicesCloneLint l = some l := by
  unfold SlicesCloneLint; rw [apd_lt (by simpa using h)]; simp
/-- the best ring so far -/
structure Bs (x : MendRound) (best : List Int) (back long : Int) : Prop where
  ring : best = [] ∨ ∃ r, best = ints r ∧ Rng x.Links r ∧ r.length ≤ 9 ∧ back = sB x.Links r ∧ long = sL x.Links r
theorem Bs.pos (hx : RIn x) {best : List Int} {back long : Int} (h : Bs x best back long) (hb : best ≠ []) : 0 < back ∧ back ≤ 27 ∧ 0 ≤ long ∧ long ≤ 259200 := by
  rcases h.ring with h | ⟨r, rfl, ⟨h1, _, v, h3⟩, h4, rfl, rfl⟩
  · exact absurd h hb
  · have := hx.pos h3 h1
    have := hx.sums h3
    omega
/-- what a search does to the best -/
structure Up (x : MendRound) (b : List Int × Int × Int) (b' : List Int × Int × Int) : Prop where
  bs : Bs x b'.1 b'.2.1 b'.2.2
  up : ∀ f k, 0 ≤ k → Bt b.1 b.2.1 b.2.2 f k → Bt b'.1 b'.2.1 b'.2.2 f k
theorem Up.trans {a b c : List Int × Int × Int} (h : Up x a b) (k : Up x b c) : Up x a c := ⟨k.bs, fun f q hq z => k.up f q hq (h.up f q hq z)⟩
theorem small_mul {a b : Int} (h0 : 0 ≤ a) (h1 : a ≤ 1000000) (h2 : 0 ≤ b) (h3 : b ≤ 1000) : 0 ≤ a * b ∧ a * b ≤ 1000000000 := by
  refine ⟨Int.mul_nonneg h0 h2, ?_⟩
  have : a * b ≤ 1000000 * 1000 := Int.mul_le_mul h1 h3 h2 (by omega)
  omega
theorem ext_mono (hx : RIn x) (first : Int) : ∀ (q : List Nat) (S S' : Int → Prop) (a : Int), (∀ v, 0 ≤ v → S' v → S v) → Ext x.Links first S a q → Ext x.Links first S' a q
  | [], _, _, _, _, h => h.elim
  | i :: q, S, S', a, hs, h => by
    refine ⟨h.1, h.2.1, ?_⟩
    rcases h.2.2 with h2 | ⟨h2, h3, h4⟩
    · exact .inl h2
    · refine .inr ⟨h2, fun h5 => h3 (hs _ (hx.lk h.1).t0 h5), ext_mono hx first q _ _ _ (fun v v0 hv => ?_) h4⟩
      rcases hv with hv | hv
      · exact .inl (hs v v0 hv)
      · exact .inr hv
theorem grow_run (hx : RIn x) (first : Int) : ∀ (fu : Nat) (is : List Nat) (a : Int) (seen : List Bool) (b : List Int × Int × Int), 0 ≤ first → 0 ≤ a → a < x.Plan.length → seen.length = x.Plan.length → Wk x.Links first a is → (src x.Links is ++ [a]).Nodup → (∀ v ∈ src x.Links is ++ [a], v = first ∨ bt seen (nd v) = true) → is.length + un seen ≤ x.Plan.length → un seen < fu → bt seen (nd first) = false → Bs x b.1 b.2.1 b.2.2 →
    ∃ b', MendRoundmean_1_v1 fu first a seen (ints is) (sL x.Links is) (sB x.Links is) x b.1 b.2.1 b.2.2 = some (seen, b') ∧ Up x b b' ∧ ∀ q, Ext x.Links first (fun v => bt seen (nd v) = true) a q → Bt b'.1 b'.2.1 b'.2.2 (sL x.Links is + sL x.Links q) (sB x.Links is + sB x.Links q) := by
  intro fu
  induction fu with
  | zero => intro is a seen b _ _ _ _ _ _ _ _ h; exact absurd h (Nat.not_lt_zero _)
  | succ fu ihf =>
    intro is a seen b f0 a0 a1 hsl hw hnd hvs hm hf hsf hbs
    have n8 := hx.ok.n1
    have k24 := hx.ok.k1
    obtain ⟨s1, s2, s3, s4⟩ := hx.sums hw
    have key : ∀ (ls : List MendLink) (k : Nat) (b : List Int × Int × Int), x.Links.drop k = ls → Bs x b.1 b.2.1 b.2.2 →
        ∃ b', MendRoundmean_1_v1.loop1 first a (ints is) (sL x.Links is) (sB x.Links is) x (MendRoundmean_1_v1 fu) ls k seen b.1 b.2.1 b.2.2 = some (seen, b') ∧ Up x b b' ∧
          ∀ i q, k ≤ i → Ext x.Links first (fun v => bt seen (nd v) = true) a (i :: q) → Bt b'.1 b'.2.1 b'.2.2 (sL x.Links is + sL x.Links (i :: q)) (sB x.Links is + sB x.Links (i :: q)) := by
      intro ls
      induction ls with
      | nil =>
        intro k b hd hb
        refine ⟨b, rfl, ⟨hb, fun _ _ _ h => h⟩, fun i q hi he => ?_⟩
        have := List.drop_eq_nil_iff.1 hd
        have := he.1
        omega
      | cons l ls ih =>
        intro k b hd hb
        have hk : k < x.Links.length := by
          rcases Nat.lt_or_ge k x.Links.length with e | e
          · exact e
          · rw [List.drop_eq_nil_of_le e] at hd; cases hd
        have hd2 := hd
        rw [List.drop_eq_getElem_cons hk] at hd2
        injection hd2 with hd3 hd4
        have hlk : lk x.Links k = l := by rw [lk_get hk, hd3]
        have ok := hx.lk hk
        rw [hlk] at ok
        have t0 := ok.t0; have t1 := ok.t1; have n0 := ok.n0; have n1 := ok.n1; have b0 := ok.b0; have b1 := ok.b1
        -- a step that changes the best to c and then goes on
        have go : ∀ c : List Int × Int × Int, Up x b c → (∀ q, Ext x.Links first (fun v => bt seen (nd v) = true) a (k :: q) → Bt c.1 c.2.1 c.2.2 (sL x.Links is + sL x.Links (k :: q)) (sB x.Links is + sB x.Links (k :: q))) →
            ∃ b', MendRoundmean_1_v1.loop1 first a (ints is) (sL x.Links is) (sB x.Links is) x (MendRoundmean_1_v1 fu) ls (k + 1) seen c.1 c.2.1 c.2.2 = some (seen, b') ∧ Up x b b' ∧
              ∀ i q, k ≤ i → Ext x.Links first (fun v => bt seen (nd v) = true) a (i :: q) → Bt b'.1 b'.2.1 b'.2.2 (sL x.Links is + sL x.Links (i :: q)) (sB x.Links is + sB x.Links (i :: q)) := by
          intro c hc hq
          obtain ⟨b', e1, e2, e3⟩ := ih (k + 1) c hd4 hc.bs
          refine ⟨b', e1, hc.trans e2, fun i q hi he => ?_⟩
          rcases Nat.eq_or_lt_of_le hi with e | e
          · subst e
            refine e2.up _ _ ?_ (hq q he)
            have : 0 ≤ sB x.Links (k :: q) := by
              clear hq e3
              have : ∀ (q : List Nat) (S : Int → Prop) (a : Int), Ext x.Links first S a q → 0 ≤ sB x.Links q := by
                intro q
                induction q with
                | nil => intro S a h; exact h.elim
                | cons j q ih =>
                  intro S a h
                  have := (hx.lk h.1).b0
                  simp only [sB]
                  rcases h.2.2 with ⟨rfl, _⟩ | ⟨_, _, h⟩
                  · simp only [sB]; omega
                  · have := ih _ _ h; omega
              exact this _ _ _ he
            omega
          · exact e3 i q (by omega) he
        rw [MendRoundmean_1_v1.loop1]
        simp only [bnd]
        by_cases c1 : l.From = a ∧ first ≤ l.To
        · have e1 : (if (l.From != a) = true then true else decide (l.To < first)) = false := by
            rw [if_neg (by simpa using c1.1)]
            simp only [decide_eq_false_iff_not]; omega
          rw [e1]
          simp only [Bool.false_eq_true, if_false]
          by_cases c2 : l.To = first
          · rw [if_pos (by simpa using c2)]
            rw [w64_id (x := sL x.Links is + l.Len) (by omega), w64_id (x := sB x.Links is + l.Back) (by omega)]
            have hcand : ∀ q, Ext x.Links first (fun v => bt seen (nd v) = true) a (k :: q) → q = [] := by
              intro q he
              rcases he.2.2 with ⟨h, _⟩ | ⟨h, _⟩
              · exact h
              · rw [hlk] at h; omega
            have hring : Rng x.Links (is ++ [k]) := by
              refine ⟨by simp, ?_, first, hw.app ⟨hk, by rw [hlk]; exact c1.1, by rw [hlk]; exact c2⟩⟩
              rw [src, List.map_append]
              have e : (List.map (fun i => (lk x.Links i).From) [k]) = [a] := by simp [hlk, c1.1]
              rw [e]; exact hnd
            have hlen : (ints is).length ≤ 8 := by simp [ints]; omega
            have e4 : sL x.Links (is ++ [k]) = sL x.Links is + l.Len := by rw [sL_app]; simp [sL, hlk]
            have e5 : sB x.Links (is ++ [k]) = sB x.Links is + l.Back := by rw [sB_app]; simp [sB, hlk]
            have hpos := hx.pos hring.2.2.choose_spec hring.1
            rw [e5] at hpos
            by_cases c3 : b.1 = [] ∨ (sL x.Links is + l.Len) * b.2.1 > b.2.2 * (sB x.Links is + l.Back)
            · have e6 : (if b.1.isEmpty = true then true else decide (w64 ((sL x.Links is + l.Len) * b.2.1) > w64 (b.2.2 * (sB x.Links is + l.Back)))) = true := by
                by_cases c4 : b.1 = []
                · rw [c4]; rfl
                · obtain ⟨p1, p2, p3, p4⟩ := hb.pos hx c4
                  have m1 := small_mul (a := sL x.Links is + l.Len) (b := b.2.1) (by omega) (by omega) (by omega) (by omega)
                  have m2 := small_mul (a := b.2.2) (b := sB x.Links is + l.Back) (by omega) (by omega) (by omega) (by omega)
                  rw [if_neg (by simpa using c4), w64_id (by omega), w64_id (by omega)]
                  rcases c3 with c3 | c3
                  · exact absurd c3 c4
                  · exact decide_eq_true c3
              rw [e6]
              simp only [if_true]
              rw [clone_ints _ (by omega)]
              simp only [Option.bind_some]
              rw [apd_lt (by simp; omega)]
              simp only [Option.bind_some]
              rw [show nz (ints is ++ [((k : Nat) : Int)]) = some () by unfold nz; simp]
              simp only [Option.bind_some]
              refine go (ints is ++ [((k : Nat) : Int)], sB x.Links is + l.Back, sL x.Links is + l.Len) ⟨⟨.inr ⟨is ++ [k], by simp [ints], hring, ?_, e5.symm, e4.symm⟩⟩, ?_⟩ ?_
              · simp only [List.length_append, List.length_singleton]; omega
              · intro f t ht hbt
                refine ⟨by simp, ?_⟩
                have p := hb.pos hx hbt.1
                rcases c3 with c3 | c3
                · exact absurd c3 hbt.1
                · exact frac_le (A := b.2.2) (B := b.2.1) p.1 ht (by dsimp only; omega) hbt.2 (by dsimp only; omega)
              · intro q he
                rw [hcand q he]
                refine ⟨by simp, ?_⟩
                simp only [sL, sB, hlk, Int.add_zero]
                exact Int.le_refl _
            · have c4 : b.1 ≠ [] := fun h => c3 (.inl h)
              have c5 : (sL x.Links is + l.Len) * b.2.1 ≤ b.2.2 * (sB x.Links is + l.Back) := by
                rcases Int.lt_or_le (b.2.2 * (sB x.Links is + l.Back)) ((sL x.Links is + l.Len) * b.2.1) with h | h
                · exact absurd (.inr h) c3
                · exact h
              obtain ⟨p1, p2, p3, p4⟩ := hb.pos hx c4
              have m1 := small_mul (a := sL x.Links is + l.Len) (b := b.2.1) (by omega) (by omega) (by omega) (by omega)
              have m2 := small_mul (a := b.2.2) (b := sB x.Links is + l.Back) (by omega) (by omega) (by omega) (by omega)
              rw [if_neg (show ¬ b.1.isEmpty = true by simpa using c4), w64_id (by omega), w64_id (by omega), decide_eq_false (by omega)]
              simp only [Bool.false_eq_true, if_false, Option.bind_some]
              refine go b ⟨hb, fun _ _ _ h => h⟩ fun q he => ?_
              rw [hcand q he]
              refine ⟨c4, ?_⟩
              simp only [sL, sB, hlk, Int.add_zero]
              exact c5
          · rw [if_neg (by simpa using c2), gx_bt (by omega) (by omega)]
            simp only [Option.bind_some]
            by_cases c3 : bt seen (nd l.To) = true
            · rw [c3]
              simp only [Bool.not_true, Bool.false_eq_true, if_false, Option.bind_some]
              refine go b ⟨hb, fun _ _ _ h => h⟩ fun q he => ?_
              rcases he.2.2 with ⟨_, h⟩ | ⟨_, h, _⟩
              · rw [hlk] at h; exact absurd h c2
              · rw [hlk] at h; exact absurd c3 h
            · have c3' : bt seen (nd l.To) = false := by simpa using c3
              have hnt : nd l.To < seen.length := by unfold nd; omega
              have hu := un_set seen (nd l.To) hnt c3'
              rw [c3']
              simp only [Bool.not_false, if_true]
              rw [ix_in (by omega) (by omega), sx_in (by omega) (by omega)]
              simp only [Option.bind_some]
              rw [apd_lt (by simp [ints]; omega)]
              simp only [Option.bind_some]
              rw [w64_id (x := sL x.Links is + l.Len) (by omega), w64_id (x := sB x.Links is + l.Back) (by omega)]
              have e4 : sL x.Links (is ++ [k]) = sL x.Links is + l.Len := by rw [sL_app]; simp [sL, hlk]
              have e5 : sB x.Links (is ++ [k]) = sB x.Links is + l.Back := by rw [sB_app]; simp [sB, hlk]
              have e6 : src x.Links (is ++ [k]) = src x.Links is ++ [a] := by simp [src, hlk, c1.1]
              have hbs2 : ∀ v, bt (seen.set (nd l.To) true) v = true ↔ (v = nd l.To ∨ bt seen v = true) := by
                intro v; rw [bt_set hnt]; by_cases q : v = nd l.To <;> simp [q]
              obtain ⟨b', r1, r2, r3⟩ := ihf (is ++ [k]) l.To (seen.set (nd l.To) true) b f0 (by omega) (by omega) (by simpa using hsl)
                (hw.app ⟨hk, by rw [hlk]; exact c1.1, by rw [hlk]; rfl⟩)
                (by
                  rw [e6, List.nodup_append]
                  refine ⟨hnd, by simp, fun v hv u hu2 e => ?_⟩
                  rw [List.mem_singleton] at hu2
                  subst hu2; subst e
                  rcases hvs _ hv with q | q
                  · exact c2 q
                  · exact c3 q)
                (by
                  intro v hv
                  rw [e6] at hv
                  rw [hbs2]
                  rcases List.mem_append.1 hv with hv | hv
                  · rcases hvs v hv with q | q
                    · exact .inl q
                    · exact .inr (.inr q)
                  · rw [List.mem_singleton] at hv; subst hv; exact .inr (.inl rfl))
                (by simp only [List.length_append, List.length_singleton]; omega) (by omega)
                (by
                  rw [bt_set hnt, if_neg (by unfold nd; omega)]; exact hsf) hb
              rw [e4, e5, show ints (is ++ [k]) = ints is ++ [((k : Nat) : Int)] by simp [ints]] at r1
              rw [show (l.To).toNat = nd l.To from rfl, r1]
              simp only [Option.bind_some]
              rw [ix_in (by omega) (by simp; omega), sx_in (by omega) (by simp; omega)]
              simp only [Option.bind_some]
              rw [show (l.To).toNat = nd l.To from rfl, List.set_set, set_bt c3']
              refine go b' r2 fun q he => ?_
              rcases he.2.2 with ⟨_, h⟩ | ⟨_, _, h⟩
              · rw [hlk] at h; exact absurd h c2
              · rw [hlk] at h
                have h' : Ext x.Links first (fun v => bt (seen.set (nd l.To) true) (nd v) = true) l.To q := by
                  refine ext_mono hx first q _ _ l.To (fun v v0 hv => ?_) h
                  rw [hbs2] at hv
                  rcases hv with hv | hv
                  · exact .inr (by unfold nd at hv; omega)
                  · exact .inl hv
                have := r3 q h'
                rw [e4, e5] at this
                simp only [sL, sB, hlk]
                rw [← Int.add_assoc, ← Int.add_assoc]
                exact this
        · have e1 : (if (l.From != a) = true then true else decide (l.To < first)) = true := by
            by_cases q : l.From = a
            · rw [if_neg (by simpa using q)]
              simp only [decide_eq_true_eq]
              rcases Int.lt_or_le l.To first with h | h
              · exact h
              · exact absurd ⟨q, h⟩ c1
            · rw [if_pos (by simpa using q)]
          rw [e1]
          simp only [if_true]
          refine go b ⟨hb, fun _ _ _ h => h⟩ fun q he => ?_
          exfalso
          refine c1 ⟨by rw [← hlk]; exact he.2.1, ?_⟩
          rcases he.2.2 with ⟨_, h⟩ | ⟨h, _⟩
          · rw [hlk] at h; omega
          · rw [hlk] at h; omega
    rw [MendRoundmean_1_v1]
    obtain ⟨b', e1, e2, e3⟩ := key x.Links 0 b rfl hbs
    rw [e1]
    refine ⟨b', rfl, e2, fun q he => ?_⟩
    cases q with
    | nil => exact he.elim
    | cons i q => exact e3 i q (Nat.zero_le _) he
end
/-! the greatest mean, found in two ways -/
section
variable {x : MendRound}
theorem nodup_len : ∀ (n : Nat) (l : List Nat), l.Nodup → (∀ a ∈ l, a < n) → l.length ≤ n
  | 0, l, _, h => by
    cases l with
    | nil => exact Nat.le_refl _
    | cons a l => exact absurd (h a (by simp)) (Nat.not_lt_zero _)
  | n + 1, l, hn, h => by
    have ih := nodup_len n (l.erase n) (hn.erase n) (fun a ha => by
      have h1 := (hn.mem_erase_iff).1 ha
      have := h a h1.2
      have := h1.1
      omega)
    rw [List.length_erase] at ih
    split at ih <;> omega
theorem RIn.ringlen (hx : RIn x) {r : List Nat} {v : Int} (hn : (src x.Links r).Nodup) (hw : Wk x.Links v v r) : r.length ≤ x.Plan.length := by
  have hmem : ∀ (is : List Nat) (a b : Int), Wk x.Links a b is → ∀ i ∈ is, i < x.Links.length := by
    intro is
    induction is with
    | nil => intro a b _ i hi; cases hi
    | cons j is ih =>
      intro a b w i hi
      rcases List.mem_cons.1 hi with rfl | hi
      · exact w.1
      · exact ih _ _ w.2.2 i hi
  have h1 : ((src x.Links r).map nd).Nodup := by
    rw [List.nodup_iff_pairwise_ne, List.pairwise_map]
    refine (List.nodup_iff_pairwise_ne.1 hn).imp_of_mem ?_
    intro a b ha hb hab e
    have pos : ∀ c ∈ src x.Links r, 0 ≤ c := by
      intro c hc
      rw [src, List.mem_map] at hc
      obtain ⟨i, hi, rfl⟩ := hc
      exact (hx.lk (hmem r v v hw i hi)).f0
    have := pos a ha
    have := pos b hb
    unfold nd at e; omega
  have h2 := nodup_len x.Plan.length _ h1 (by
    intro a ha
    rw [List.mem_map] at ha
    obtain ⟨c, hc, rfl⟩ := ha
    rw [src, List.mem_map] at hc
    obtain ⟨i, hi, rfl⟩ := hc
    have ok := hx.lk (hmem r v v hw i hi)
    have := ok.f0; have := ok.f1
    unfold nd; omega)
  simpa [src] using h2
/-- the program's way -/
theorem mean_loop (hx : RIn x) {fu : Nat} (hf : 9 ≤ fu) : ∀ (ps : List Int) (k : Nat) (b : List Int × Int × Int), k + ps.length = x.Plan.length → Bs x b.1 b.2.1 b.2.2 →
    ∃ b', MendRoundmean.loop1 x fu ps k b.2.2 b.2.1 b.1 = some (b'.2.2, b'.2.1, b'.1) ∧ Up x b b' ∧ ∀ (s : List Nat) (f : Int), (k : Int) ≤ f → f < x.Plan.length → s ≠ [] → (src x.Links s).Nodup → Wk x.Links f f s → (∀ a ∈ src x.Links s, f ≤ a) → Bt b'.1 b'.2.1 b'.2.2 (sL x.Links s) (sB x.Links s)
  | [], k, b, hk, hb => ⟨b, rfl, ⟨hb, fun _ _ _ h => h⟩, fun s f h1 h2 => by simp at hk; omega⟩
  | p :: ps, k, b, hk, hb => by
    simp only [List.length_cons] at hk
    have n8 := hx.ok.n1
    rw [MendRoundmean.loop1, mks_in (by omega)]
    simp only [Option.bind_some]
    have hrep : ∀ v, bt (List.replicate x.Plan.length false) v = false := by
      intro v; unfold bt
      rcases Nat.lt_or_ge v x.Plan.length with h | h
      · rw [List.getElem?_replicate]; simp [h]
      · rw [List.getElem?_eq_none (by simpa using h)]; rfl
    obtain ⟨c, e1, e2, e3⟩ := grow_run hx ((k : Nat) : Int) fu [] ((k : Nat) : Int) (List.replicate x.Plan.length false) b (by omega) (by omega) (by omega) (by simp) rfl (by simp [src]) (by intro v hv; simp [src] at hv; exact .inl hv)
      (by rw [un_rep]; simp) (by rw [un_rep]; omega) (hrep _) hb
    have e1' : MendRoundmean_1_v1 fu ((k : Nat) : Int) ((k : Nat) : Int) (List.replicate x.Plan.length false) [] 0 0 x b.1 b.2.1 b.2.2 = some (List.replicate x.Plan.length false, c) := e1
    rw [e1']
    simp only [Option.bind_some]
    obtain ⟨b', f1, f2, f3⟩ := mean_loop hx hf ps (k + 1) c (by omega) e2.bs
    refine ⟨b', f1, e2.trans f2, fun s f h1 h2 hs hn hw hm => ?_⟩
    by_cases hkf : f = (k : Int)
    · subst hkf
      have hext : Ext x.Links ((k : Nat) : Int) (fun v => bt (List.replicate x.Plan.length false) (nd v) = true) ((k : Nat) : Int) s := by
        refine ring_ext s _ _ hs hw hn fun v hv => ⟨?_, by rw [hrep]; simp⟩
        cases s with
        | nil => exact absurd rfl hs
        | cons i s =>
          have h4 := hm v (by simp only [src, List.map_cons, List.mem_cons]; exact .inr hv)
          have h5 := (List.nodup_cons.1 hn).1
          have h6 : (lk x.Links i).From = ((k : Nat) : Int) := hw.2.1
          rcases Int.lt_or_eq_of_le h4 with h | h
          · exact h
          · have hv' : v ∈ src x.Links s := hv
            exact absurd (show (lk x.Links i).From ∈ src x.Links s by rw [h6, h]; exact hv') h5
      have hb2 := e3 s hext
      simp only [sL, sB, Int.zero_add] at hb2
      exact f2.up _ _ (hx.sums hw).2.2.1 hb2
    · exact f3 s f (by omega) h2 hs hn hw hm
/-- what mean finds -/
theorem mean_run (hx : RIn x) {fu : Nat} (hf : 9 ≤ fu) : ∃ long back best, MendRoundmean fu x = some (long, back, best) ∧ Bs x best back long ∧ ∀ r, Rng x.Links r → Bt best back long (sL x.Links r) (sB x.Links r) := by
  obtain ⟨b', e1, e2, e3⟩ := mean_loop hx hf x.Plan 0 ([], 0, 0) (by simp) ⟨.inl rfl⟩
  refine ⟨b'.2.2, b'.2.1, b'.1, ?_, e2.bs, fun r hr => ?_⟩
  · unfold MendRoundmean
    have e1' : MendRoundmean.loop1 x fu x.Plan 0 0 0 [] = some (b'.2.2, b'.2.1, b'.1) := e1
    rw [e1']
    rfl
  · obtain ⟨s, f, h1, h2, h3, h4, h5, h6, h7⟩ := ring_least hr
    rw [← h5, ← h6]
    have hf0 : 0 ≤ f ∧ f < x.Plan.length := by
      cases s with
      | nil => exact absurd rfl h1
      | cons i s => rw [← h3.2.1]; exact ⟨(hx.lk h3.1).f0, (hx.lk h3.1).f1⟩
    exact e3 s f hf0.1 hf0.2 h1 h2 h3 h4

/-! the reference's way: the greatest Len for each Back, step by step -/
structure Far (x : MendRound) (start k : Nat) (g : List (List Int)) : Prop where
  sh : g.length = x.Plan.length
  sr : ∀ v, v < x.Plan.length → (row g v).length = 3 * x.Plan.length + 1
  sound : ∀ v u, v < x.Plan.length → u < 3 * x.Plan.length + 1 → gv g v u = -1 ∨ ∃ is, Wk x.Links (start : Int) (v : Int) is ∧ is.length = k ∧ sL x.Links is = gv g v u ∧ sB x.Links is = (u : Int)
  full : ∀ v is, v < x.Plan.length → Wk x.Links (start : Int) (v : Int) is → is.length = k → sL x.Links is ≤ gv g v (nd (sB x.Links is))
/-- the next table, under way -/
structure Nx (x : MendRound) (start k : Nat) (g : List (List Int)) : Prop where
  sh : g.length = x.Plan.length
  sr : ∀ v, v < x.Plan.length → (row g v).length = 3 * x.Plan.length + 1
  sound : ∀ v u, v < x.Plan.length → u < 3 * x.Plan.length + 1 → gv g v u = -1 ∨ ∃ is, Wk x.Links (start : Int) (v : Int) is ∧ is.length = k ∧ sL x.Links is = gv g v u ∧ sB x.Links is = (u : Int)
theorem mx_le (a b : Int) : a ≤ mx a b ∧ b ≤ mx a b ∧ (mx a b = a ∨ mx a b = b) := by unfold mx; split <;> omega
theorem Wk.snoc {L : List MendLink} {a b : Int} {is : List Nat} {i : Nat} (h : Wk L a b is) (hi : i < L.length) (hf : (lk L i).From = b) : Wk L a (lk L i).To (is ++ [i]) := h.app ⟨hi, hf, rfl⟩
theorem nx_loop7 (hx : RIn x) {start k : Nat} (hk : k < x.Plan.length) {g : List (List Int)} (hg : Far x start k g) {i : Nat} (hi : i < x.Links.length) : ∀ (m : Nat) (b : Nat) (fu : Nat) (h : List (List Int)), b + m = 3 * x.Plan.length + 1 - nd (lk x.Links i).Back → m < fu → Nx x start (k + 1) h →
    ∃ q h', Fishref2MeanOf.loop7 x g (lk x.Links i) fu ((b : Nat) : Int) h = some (q, h') ∧ Nx x start (k + 1) h' ∧ (∀ v u, v < x.Plan.length → gv h v u ≤ gv h' v u) ∧
      ∀ c, b ≤ c → c < 3 * x.Plan.length + 1 - nd (lk x.Links i).Back → 0 ≤ gv g (nd (lk x.Links i).From) c → gv g (nd (lk x.Links i).From) c + (lk x.Links i).Len ≤ gv h' (nd (lk x.Links i).To) (c + nd (lk x.Links i).Back)
  | 0, b, fu, h, hb, hf, hn => by
    have n8 := hx.ok.n1
    have ok := hx.lk hi
    have b0 := ok.b0; have b1 := ok.b1
    obtain ⟨fu, rfl⟩ : ∃ f, fu = f + 1 := ⟨fu - 1, by omega⟩
    refine ⟨((b : Nat) : Int), h, ?_, hn, fun _ _ _ => Int.le_refl _, fun c h1 h2 => by omega⟩
    rw [Fishref2MeanOf.loop7]
    rw [w64_id (x := ((x.Plan).length : Int) * 3) (by omega), w64_id (x := ((x.Plan).length : Int) * 3 + 1) (by omega), w64_id (by omega)]
    rw [decide_eq_false (by unfold nd at hb; omega)]
    rfl
  | m + 1, b, fu, h, hb, hf, hn => by
    have n8 := hx.ok.n1
    have ok := hx.lk hi
    have b0 := ok.b0; have b1 := ok.b1; have t0 := ok.t0; have t1 := ok.t1; have f0 := ok.f0; have f1 := ok.f1; have l0 := ok.n0; have l1 := ok.n1
    obtain ⟨fu, rfl⟩ : ∃ f, fu = f + 1 := ⟨fu - 1, by omega⟩
    have hT : nd (lk x.Links i).To < x.Plan.length := by unfold nd; omega
    have hF : nd (lk x.Links i).From < x.Plan.length := by unfold nd; omega
    have hB : ((nd (lk x.Links i).Back : Nat) : Int) = (lk x.Links i).Back := by unfold nd; omega
    have hbl : b < 3 * x.Plan.length + 1 := by omega
    have hrl := hg.sr _ hF
    have hrt := hn.sr _ hT
    have hgl := hg.sh
    have hnl := hn.sh
    rw [Fishref2MeanOf.loop7]
    rw [w64_id (x := ((x.Plan).length : Int) * 3) (by omega), w64_id (x := ((x.Plan).length : Int) * 3 + 1) (by omega), w64_id (x := ((x.Plan).length : Int) * 3 + 1 - (lk x.Links i).Back) (by omega)]
    rw [decide_eq_true (by omega)]
    simp only [if_true]
    rw [gx_row f0 (by omega)]
    simp only [Option.bind_some]
    rw [gx_tm (by omega) (by omega)]
    simp only [Option.bind_some]
    have ef : tm (row g (nd (lk x.Links i).From)) (nd ((b : Nat) : Int)) = gv g (nd (lk x.Links i).From) b := rfl
    rw [ef, w64_id (x := ((b : Nat) : Int) + 1) (by omega)]
    have eb : ((b : Nat) : Int) + 1 = ((b + 1 : Nat) : Int) := by omega
    rw [eb]
    by_cases c : gv g (nd (lk x.Links i).From) b ≥ 0
    · rw [decide_eq_true c]
      simp only [if_true]
      rw [gx_row t0 (by omega)]
      simp only [Option.bind_some]
      rw [w64_id (x := ((b : Nat) : Int) + (lk x.Links i).Back) (by omega)]
      have eu : ((b : Nat) : Int) + (lk x.Links i).Back = ((b + nd (lk x.Links i).Back : Nat) : Int) := by omega
      have hul : b + nd (lk x.Links i).Back < 3 * x.Plan.length + 1 := by omega
      rw [eu, gx_tm (by omega) (by omega)]
      simp only [Option.bind_some]
      rw [ix_in (by omega) (by omega)]
      simp only [Option.bind_some]
      rw [sx_in (by omega) (by omega)]
      simp only [Option.bind_some]
      obtain ⟨is, w1, w2, w3, w4⟩ := (hg.sound _ b hF hbl).resolve_left (by omega)
      obtain ⟨s1, s2, s3, s4⟩ := hx.sums w1
      rw [w64_id (x := gv g (nd (lk x.Links i).From) b + (lk x.Links i).Len) (by omega)]
      have ew : tm (row h (nd (lk x.Links i).To)) (nd ((b + nd (lk x.Links i).Back : Nat) : Int)) = gv h (nd (lk x.Links i).To) (b + nd (lk x.Links i).Back) := rfl
      rw [ew]
      have ev : ((b + nd (lk x.Links i).Back : Nat) : Int).toNat = b + nd (lk x.Links i).Back := by omega
      rw [ev, show ((lk x.Links i).To).toNat = nd (lk x.Links i).To from rfl]
      have hset := gv_set (g := h) (k := nd (lk x.Links i).To) (v := b + nd (lk x.Links i).Back) (a := mx (gv h (nd (lk x.Links i).To) (b + nd (lk x.Links i).Back)) (gv g (nd (lk x.Links i).From) b + (lk x.Links i).Len)) (by omega) (by omega)
      obtain ⟨m1, m2, m3⟩ := mx_le (gv h (nd (lk x.Links i).To) (b + nd (lk x.Links i).Back)) (gv g (nd (lk x.Links i).From) b + (lk x.Links i).Len)
      generalize hM : mx (gv h (nd (lk x.Links i).To) (b + nd (lk x.Links i).Back)) (gv g (nd (lk x.Links i).From) b + (lk x.Links i).Len) = M at hset m1 m2 m3 ⊢
      have hn2 : Nx x start (k + 1) (h.set (nd (lk x.Links i).To) ((row h (nd (lk x.Links i).To)).set (b + nd (lk x.Links i).Back) M)) := by
        refine ⟨by simpa using hnl, fun v hv => ?_, fun v u hv hu => ?_⟩
        · rw [row_set (by omega)]
          by_cases e : v = nd (lk x.Links i).To
          · rw [if_pos e]; simpa using hrt
          · rw [if_neg e]; exact hn.sr v hv
        · rw [hset]
          by_cases e : v = nd (lk x.Links i).To ∧ u = b + nd (lk x.Links i).Back
          · rw [if_pos e]
            rcases m3 with m3 | m3
            · rw [m3, ← e.1, ← e.2]; exact hn.sound v u hv hu
            · right
              have hfv : (lk x.Links i).From = ((nd (lk x.Links i).From : Nat) : Int) := by unfold nd; omega
              have w := w1.snoc hi hfv
              have htv : (lk x.Links i).To = ((v : Nat) : Int) := by rw [e.1]; unfold nd; omega
              rw [htv] at w
              refine ⟨is ++ [i], w, by simp [w2], ?_, ?_⟩
              · rw [sL_app, m3, w3]; simp [sL]
              · rw [sB_app, w4, e.2]; simp only [sB]; omega
          · rw [if_neg e]; exact hn.sound v u hv hu
      obtain ⟨q, h', r1, r2, r3, r4⟩ := nx_loop7 hx hk hg hi m (b + 1) fu _ (by omega) (by omega) hn2
      refine ⟨q, h', r1, r2, fun v u hv => ?_, fun c h1 h2 h3 => ?_⟩
      · refine Int.le_trans ?_ (r3 v u hv)
        rw [hset]
        by_cases e : v = nd (lk x.Links i).To ∧ u = b + nd (lk x.Links i).Back
        · rw [if_pos e, e.1, e.2]; exact m1
        · rw [if_neg e]; exact Int.le_refl _
      · rcases Nat.eq_or_lt_of_le h1 with e | e
        · subst e
          refine Int.le_trans m2 (Int.le_trans ?_ (r3 _ _ hT))
          rw [hset, if_pos ⟨rfl, rfl⟩]
          exact Int.le_refl _
        · exact r4 c (by omega) h2 h3
    · rw [decide_eq_false c]
      simp only [Bool.false_eq_true, if_false, Option.bind_some]
      obtain ⟨q, h', r1, r2, r3, r4⟩ := nx_loop7 hx hk hg hi m (b + 1) fu h (by omega) (by omega) hn
      refine ⟨q, h', r1, r2, r3, fun c h1 h2 h3 => ?_⟩
      rcases Nat.eq_or_lt_of_le h1 with e | e
      · subst e; exact absurd h3 (by omega)
      · exact r4 c (by omega) h2 h3
theorem nx_loop5 (hx : RIn x) {start k : Nat} (hk : k < x.Plan.length) {g : List (List Int)} (hg : Far x start k g) {fu : Nat} (hf : 60 ≤ fu) : ∀ (ls : List MendLink) (i : Nat) (h : List (List Int)), x.Links.drop i = ls → Nx x start (k + 1) h →
    ∃ h', Fishref2MeanOf.loop5 x fu g ls h = some h' ∧ Nx x start (k + 1) h' ∧ (∀ v u, v < x.Plan.length → gv h v u ≤ gv h' v u) ∧
      ∀ j, i ≤ j → j < x.Links.length → ∀ c, c < 3 * x.Plan.length + 1 - nd (lk x.Links j).Back → 0 ≤ gv g (nd (lk x.Links j).From) c → gv g (nd (lk x.Links j).From) c + (lk x.Links j).Len ≤ gv h' (nd (lk x.Links j).To) (c + nd (lk x.Links j).Back)
  | [], i, h, hd, hn => ⟨h, rfl, hn, fun _ _ _ => Int.le_refl _, fun j h1 h2 => by have := List.drop_eq_nil_iff.1 hd; omega⟩
  | l :: ls, i, h, hd, hn => by
    have n8 := hx.ok.n1
    have hi : i < x.Links.length := by
      rcases Nat.lt_or_ge i x.Links.length with e | e
      · exact e
      · rw [List.drop_eq_nil_of_le e] at hd; cases hd
    have hd2 := hd
    rw [List.drop_eq_getElem_cons hi] at hd2
    injection hd2 with hd3 hd4
    have hlk : lk x.Links i = l := by rw [lk_get hi, hd3]
    have ok := hx.lk hi
    have b0 := ok.b0; have b1 := ok.b1
    obtain ⟨q, h1, r1, r2, r3, r4⟩ := nx_loop7 hx hk hg hi (3 * x.Plan.length + 1 - nd (lk x.Links i).Back) 0 fu h (by omega) (by omega) hn
    rw [hlk] at r1
    have r1' : Fishref2MeanOf.loop7 x g l fu 0 h = some (q, h1) := r1
    obtain ⟨h', s1, s2, s3, s4⟩ := nx_loop5 hx hk hg hf ls (i + 1) h1 hd4 r2
    refine ⟨h', ?_, s2, fun v u hv => Int.le_trans (r3 v u hv) (s3 v u hv), fun j h1 h2 c h3 h4 => ?_⟩
    · rw [Fishref2MeanOf.loop5, r1']; exact s1
    · rcases Nat.eq_or_lt_of_le h1 with e | e
      · subst e
        have ok := hx.lk hi
        have hT : nd (lk x.Links i).To < x.Plan.length := ok.nd.2
        exact Int.le_trans (r4 c (Nat.zero_le _) h3 h4) (s3 _ _ hT)
      · exact s4 j (by omega) h2 c h3 h4
theorem snoc_cases : ∀ (is : List Nat) (n : Nat), is.length = n + 1 → ∃ js i, is = js ++ [i] ∧ js.length = n := by
  intro is n h
  refine ⟨is.take n, is[n]'(by omega), ?_, by simp; omega⟩
  conv => lhs; rw [← List.take_append_drop n is]
  rw [List.drop_eq_getElem_cons (by omega), List.drop_eq_nil_of_le (by omega)]
theorem far_step (hx : RIn x) {start k : Nat} (hk : k < x.Plan.length) {g h' : List (List Int)} (hg : Far x start k g) (hn : Nx x start (k + 1) h')
    (hc : ∀ j, j < x.Links.length → ∀ c, c < 3 * x.Plan.length + 1 - nd (lk x.Links j).Back → 0 ≤ gv g (nd (lk x.Links j).From) c → gv g (nd (lk x.Links j).From) c + (lk x.Links j).Len ≤ gv h' (nd (lk x.Links j).To) (c + nd (lk x.Links j).Back)) : Far x start (k + 1) h' := by
  refine ⟨hn.sh, hn.sr, hn.sound, fun v is hv w hl => ?_⟩
  obtain ⟨js, i, rfl, hj⟩ := snoc_cases is k hl
  obtain ⟨u, w1, w2⟩ := Wk.split w
  have hi := w2.1
  have ok := hx.lk hi
  have b0 := ok.b0; have b1 := ok.b1
  have hT : (lk x.Links i).To = (v : Int) := w2.2.2
  have hu : u = ((nd (lk x.Links i).From : Nat) : Int) := by rw [← w2.2.1]; have := ok.f0; unfold nd; omega
  rw [hu] at w1
  obtain ⟨s1, s2, s3, s4⟩ := hx.sums w1
  have h1 := hg.full _ js ok.nd.1 w1 hj
  have h2 := hc i hi (nd (sB x.Links js)) (by unfold nd; omega) (by omega)
  have e1 : nd (lk x.Links i).To = v := by rw [hT]; simp [nd]
  have e2 : nd (sB x.Links (js ++ [i])) = nd (sB x.Links js) + nd (lk x.Links i).Back := by rw [sB_app]; simp only [sB]; unfold nd; omega
  rw [e1, ← e2] at h2
  rw [sL_app]
  simp only [sL]
  omega
theorem rep25 (m k : Nat) (h : k ≤ 25) : SlicesRepeatLint (m + 60) [(-1)] ((k : Nat) : Int) = some (List.replicate k (-1)) := by
  have h0 : SlicesRepeatLint (m + 60) [(-1)] 0 = some (List.replicate 0 (-1)) := by kernel_rfl
  have h1 : SlicesRepeatLint (m + 60) [(-1)] 1 = some (List.replicate 1 (-1)) := by kernel_rfl
  have h2 : SlicesRepeatLint (m + 60) [(-1)] 2 = some (List.replicate 2 (-1)) := by kernel_rfl
  have h3 : SlicesRepeatLint (m + 60) [(-1)] 3 = some (List.replicate 3 (-1)) := by kernel_rfl
  have h4 : SlicesRepeatLint (m + 60) [(-1)] 4 = some (List.replicate 4 (-1)) := by kernel_rfl
  have h5 : SlicesRepeatLint (m + 60) [(-1)] 5 = some (List.replicate 5 (-1)) := by kernel_rfl
  have h6 : SlicesRepeatLint (m + 60) [(-1)] 6 = some (List.replicate 6 (-1)) := by kernel_rfl
  have h7 : SlicesRepeatLint (m + 60) [(-1)] 7 = some (List.replicate 7 (-1)) := by kernel_rfl
  have h8 : SlicesRepeatLint (m + 60) [(-1)] 8 = some (List.replicate 8 (-1)) := by kernel_rfl
  have h9 : SlicesRepeatLint (m + 60) [(-1)] 9 = some (List.replicate 9 (-1)) := by kernel_rfl
  have h10 : SlicesRepeatLint (m + 60) [(-1)] 10 = some (List.replicate 10 (-1)) := by kernel_rfl
  have h11 : SlicesRepeatLint (m + 60) [(-1)] 11 = some (List.replicate 11 (-1)) := by kernel_rfl
  have h12 : SlicesRepeatLint (m + 60) [(-1)] 12 = some (List.replicate 12 (-1)) := by kernel_rfl
  have h13 : SlicesRepeatLint (m + 60) [(-1)] 13 = some (List.replicate 13 (-1)) := by kernel_rfl
  have h14 : SlicesRepeatLint (m + 60) [(-1)] 14 = some (List.replicate 14 (-1)) := by kernel_rfl
  have h15 : SlicesRepeatLint (m + 60) [(-1)] 15 = some (List.replicate 15 (-1)) := by kernel_rfl
  have h16 : SlicesRepeatLint (m + 60) [(-1)] 16 = some (List.replicate 16 (-1)) := by kernel_rfl
  have h17 : SlicesRepeatLint (m + 60) [(-1)] 17 = some (List.replicate 17 (-1)) := by kernel_rfl
  have h18 : SlicesRepeatLint (m + 60) [(-1)] 18 = some (List.replicate 18 (-1)) := by kernel_rfl
  have h19 : SlicesRepeatLint (m + 60) [(-1)] 19 = some (List.replicate 19 (-1)) := by kernel_rfl
  have h20 : SlicesRepeatLint (m + 60) [(-1)] 20 = some (List.replicate 20 (-1)) := by kernel_rfl
  have h21 : SlicesRepeatLint (m + 60) [(-1)] 21 = some (List.replicate 21 (-1)) := by kernel_rfl
  have h22 : SlicesRepeatLint (m + 60) [(-1)] 22 = some (List.replicate 22 (-1)) := by kernel_rfl
  have h23 : SlicesRepeatLint (m + 60) [(-1)] 23 = some (List.replicate 23 (-1)) := by kernel_rfl
  have h24 : SlicesRepeatLint (m + 60) [(-1)] 24 = some (List.replicate 24 (-1)) := by kernel_rfl
  have h25 : SlicesRepeatLint (m + 60) [(-1)] 25 = some (List.replicate 25 (-1)) := by kernel_rfl
  have hc : k = 0 ∨ k = 1 ∨ k = 2 ∨ k = 3 ∨ k = 4 ∨ k = 5 ∨ k = 6 ∨ k = 7 ∨ k = 8 ∨ k = 9 ∨ k = 10 ∨ k = 11 ∨ k = 12 ∨ k = 13 ∨ k = 14 ∨ k = 15 ∨ k = 16 ∨ k = 17 ∨ k = 18 ∨ k = 19 ∨ k = 20 ∨ k = 21 ∨ k = 22 ∨ k = 23 ∨ k = 24 ∨ k = 25 := by omega
  rcases hc with rfl | rfl | rfl | rfl | rfl | rfl | rfl | rfl | rfl | rfl | rfl | rfl | rfl | rfl | rfl | rfl | rfl | rfl | rfl | rfl | rfl | rfl | rfl | rfl | rfl | rfl
  · exact h0
  · exact h1
  · exact h2
  · exact h3
  · exact h4
  · exact h5
  · exact h6
  · exact h7
  · exact h8
  · exact h9
  · exact h10
  · exact h11
  · exact h12
  · exact h13
  · exact h14
  · exact h15
  · exact h16
  · exact h17
  · exact h18
  · exact h19
  · exact h20
  · exact h21
  · exact h22
  · exact h23
  · exact h24
  · exact h25
theorem rows_loop (hn : x.Plan.length ≤ 8) (fm : Nat) : ∀ (m k : Nat) (g : List (List Int)), m + k = x.Plan.length → g.length = x.Plan.length → (∀ j, j < k → row g j = List.replicate (3 * x.Plan.length + 1) (-1)) →
    ∃ g', Fishref2MeanOf.loop2 x (fm + 60) m k g = some g' ∧ Fishref2MeanOf.loop4 x (fm + 60) m k g = some g' ∧ g'.length = x.Plan.length ∧ ∀ j, j < x.Plan.length → row g' j = List.replicate (3 * x.Plan.length + 1) (-1)
  | 0, k, g, h1, h2, h3 => ⟨g, rfl, rfl, h2, fun j hj => h3 j (by omega)⟩
  | m + 1, k, g, h1, h2, h3 => by
    have e : ((x.Plan.length : Nat) : Int) * 3 + 1 = ((3 * x.Plan.length + 1 : Nat) : Int) := by omega
    obtain ⟨g', r1, r2, r3, r4⟩ := rows_loop hn fm m (k + 1) (g.set k (List.replicate (3 * x.Plan.length + 1) (-1))) (by omega) (by simpa using h2) (fun j hj => by
      rw [row_set (by omega)]
      by_cases c : j = k
      · rw [if_pos c]
      · rw [if_neg c]; exact h3 j (by omega))
    refine ⟨g', ?_, ?_, r3, r4⟩
    · rw [Fishref2MeanOf.loop2, w64_id (x := ((x.Plan).length : Int) * 3) (by omega), w64_id (x := ((x.Plan).length : Int) * 3 + 1) (by omega), e, rep25 _ _ (by omega)]
      simp only [Option.bind_some]
      rw [ix_in (by omega) (by omega), sx_in (by omega) (by omega)]
      exact r1
    · rw [Fishref2MeanOf.loop4, w64_id (x := ((x.Plan).length : Int) * 3) (by omega), w64_id (x := ((x.Plan).length : Int) * 3 + 1) (by omega), e, rep25 _ _ (by omega)]
      simp only [Option.bind_some]
      rw [ix_in (by omega) (by omega), sx_in (by omega) (by omega)]
      exact r2
theorem gv_rep {g : List (List Int)} {v u m : Nat} (h : row g v = List.replicate m (-1)) (hu : u < m) : gv g v u = -1 := by
  unfold gv tm; rw [h, List.getElem?_replicate, if_pos hu]; rfl
/-- the best mean so far -/
def Pq (x : MendRound) (z : Int × Int × Bool) : Prop := z.2.2 = true → ∃ (v : Int) (is : List Nat), is ≠ [] ∧ Wk x.Links v v is ∧ is.length ≤ 8 ∧ z.1 = sL x.Links is ∧ z.2.1 = sB x.Links is
def Dp (z : Int × Int × Bool) (f b : Int) : Prop := z.2.2 = true ∧ f * z.2.1 ≤ z.1 * b
def UpP (z z' : Int × Int × Bool) : Prop := ∀ f b, 0 ≤ b → Dp z f b → Dp z' f b
theorem Pq.pos (hx : RIn x) {z : Int × Int × Bool} (h : Pq x z) (ht : z.2.2 = true) : 0 < z.2.1 ∧ z.2.1 ≤ 24 ∧ 0 ≤ z.1 ∧ z.1 ≤ 230400 := by
  obtain ⟨v, is, h1, h2, h3, h4, h5⟩ := h ht
  have := hx.pos h2 h1
  have := hx.sums h2
  omega
theorem mo_loop8 (hx : RIn x) {start k : Nat} (hs : start < x.Plan.length) (hk : k < x.Plan.length) {g : List (List Int)} (hg : Far x start (k + 1) g) : ∀ (m u : Nat) (z : Int × Int × Bool), m + u = 3 * x.Plan.length + 1 → Pq x z →
    ∃ z', Fishref2MeanOf.loop8 (row g start) m u z.1 z.2.1 z.2.2 = some z' ∧ Pq x z' ∧ UpP z z' ∧ ∀ c, u ≤ c → c < 3 * x.Plan.length + 1 → 0 < c → 0 ≤ gv g start c → Dp z' (gv g start c) (c : Int)
  | 0, u, z, h, hz => ⟨z, rfl, hz, fun _ _ _ h => h, fun c h1 h2 => by omega⟩
  | m + 1, u, z, h, hz => by
    have n8 := hx.ok.n1
    have hr := hg.sr _ hs
    rw [Fishref2MeanOf.loop8, gx_tm (by omega) (by omega)]
    simp only [Option.bind_some, bnd]
    have ef : tm (row g start) (nd ((u : Nat) : Int)) = gv g start u := rfl
    rw [ef]
    by_cases c : 0 ≤ gv g start u ∧ 0 < u
    · obtain ⟨is, w1, w2, w3, w4⟩ := (hg.sound _ u hs (by omega)).resolve_left (by omega)
      obtain ⟨s1, s2, s3, s4⟩ := hx.sums w1
      rw [if_pos (decide_eq_true (show gv g start u ≥ 0 from c.1)), if_pos (decide_eq_true (by omega))]
      by_cases c2 : z.2.2 = false ∨ gv g start u * z.2.1 > z.1 * (u : Int)
      · have e : (if (!z.2.2) = true then true else decide (w64 (gv g start u * z.2.1) > w64 (z.1 * (u : Int)))) = true := by
          cases c3 : z.2.2 with
          | false => rfl
          | true =>
            have p := hz.pos hx c3
            have m1 := small_mul (a := gv g start u) (b := z.2.1) (by omega) (by omega) (by omega) (by omega)
            have m2 := small_mul (a := z.1) (b := (u : Int)) (by omega) (by omega) (by omega) (by omega)
            rw [w64_id (by omega), w64_id (by omega)]
            rcases c2 with c2 | c2
            · rw [c2] at c3; cases c3
            · rw [decide_eq_true c2]; rfl
        rw [e]
        simp only [if_true]
        have hp : Pq x (gv g start u, ((u : Nat) : Int), true) := fun _ => ⟨_, is, (by intro q; rw [q] at w2; simp at w2), w1, by omega, w3.symm, w4.symm⟩
        obtain ⟨z', r1, r2, r3, r4⟩ := mo_loop8 hx hs hk hg m (u + 1) (gv g start u, ((u : Nat) : Int), true) (by omega) hp
        have hup : UpP z (gv g start u, ((u : Nat) : Int), true) := by
          intro f b hb hd
          refine ⟨rfl, ?_⟩
          rcases c2 with c2 | c2
          · exact absurd hd.1 (by rw [c2]; simp)
          · exact frac_le (A := z.1) (B := z.2.1) (hz.pos hx hd.1).1 hb (by dsimp only; omega) hd.2 (by dsimp only; omega)
        refine ⟨z', r1, r2, fun f b hb hd => r3 f b hb (hup f b hb hd), fun c h1 h2 h3 h4 => ?_⟩
        rcases Nat.eq_or_lt_of_le h1 with e | e
        · subst e
          exact r3 _ _ (by omega) ⟨rfl, Int.le_refl _⟩
        · exact r4 c (by omega) h2 h3 h4
      · have c3 : z.2.2 = true := by cases q : z.2.2 with | true => rfl | false => exact absurd (.inl q) c2
        have c4 : gv g start u * z.2.1 ≤ z.1 * (u : Int) := by
          rcases Int.lt_or_le (z.1 * (u : Int)) (gv g start u * z.2.1) with q | q
          · exact absurd (.inr q) c2
          · exact q
        have p := hz.pos hx c3
        have m1 := small_mul (a := gv g start u) (b := z.2.1) (by omega) (by omega) (by omega) (by omega)
        have m2 := small_mul (a := z.1) (b := (u : Int)) (by omega) (by omega) (by omega) (by omega)
        have e : (if (!z.2.2) = true then true else decide (w64 (gv g start u * z.2.1) > w64 (z.1 * (u : Int)))) = false := by
          rw [c3, w64_id (by omega), w64_id (by omega), decide_eq_false (by omega)]; rfl
        rw [e]
        simp only [Bool.false_eq_true, if_false]
        obtain ⟨z', r1, r2, r3, r4⟩ := mo_loop8 hx hs hk hg m (u + 1) z (by omega) hz
        refine ⟨z', r1, r2, r3, fun c h1 h2 h3 h4 => ?_⟩
        rcases Nat.eq_or_lt_of_le h1 with e | e
        · subst e
          exact r3 _ _ (by omega) ⟨c3, c4⟩
        · exact r4 c (by omega) h2 h3 h4
    · have e : (if decide (gv g start u ≥ 0) = true then if decide (((u : Nat) : Int) > 0) = true then if (!z.2.2) = true then true else decide (w64 (gv g start u * z.2.1) > w64 (z.1 * (u : Int))) else false else false) = false := by
        by_cases q : gv g start u ≥ 0
        · have q2 : ¬ ((u : Nat) : Int) > 0 := by omega
          rw [decide_eq_true q, decide_eq_false q2]; rfl
        · rw [decide_eq_false q]; rfl
      rw [e]
      simp only [Bool.false_eq_true, if_false]
      obtain ⟨z', r1, r2, r3, r4⟩ := mo_loop8 hx hs hk hg m (u + 1) z (by omega) hz
      refine ⟨z', r1, r2, r3, fun c h1 h2 h3 h4 => ?_⟩
      rcases Nat.eq_or_lt_of_le h1 with e | e
      · subst e; omega
      · exact r4 c (by omega) h2 h3 h4
theorem mo_loop3 (hx : RIn x) {start : Nat} (hs : start < x.Plan.length) (fm : Nat) : ∀ (ps : List Int) (k : Nat) (g : List (List Int)) (z : Int × Int × Bool), k + ps.length = x.Plan.length → Far x start k g → Pq x z →
    ∃ z' g', Fishref2MeanOf.loop3 x (fm + 60) start ps z.1 z.2.1 z.2.2 g = some (z'.1, z'.2.1, z'.2.2, g') ∧ Pq x z' ∧ UpP z z' ∧ ∀ is, k < is.length → is.length ≤ x.Plan.length → Wk x.Links (start : Int) (start : Int) is → Dp z' (sL x.Links is) (sB x.Links is)
  | [], k, g, z, hk, hg, hz => ⟨z, g, rfl, hz, fun _ _ _ h => h, fun is h1 h2 => by simp at hk; omega⟩
  | p :: ps, k, g, z, hk, hg, hz => by
    simp only [List.length_cons] at hk
    have n8 := hx.ok.n1
    rw [Fishref2MeanOf.loop3, mks_in (by omega)]
    simp only [Option.bind_some, List.length_replicate]
    obtain ⟨g0, _, e1, e2, e3⟩ := rows_loop (x := x) n8 fm x.Plan.length 0 (List.replicate x.Plan.length ([] : List Int)) (by omega) (by simp) (fun j hj => absurd hj (Nat.not_lt_zero _))
    rw [e1]
    simp only [Option.bind_some]
    have hn0 : Nx x start (k + 1) g0 := ⟨e2, fun v hv => by rw [e3 v hv]; simp, fun v u hv hu => .inl (gv_rep (e3 v hv) hu)⟩
    obtain ⟨g1, r1, r2, _, r4⟩ := nx_loop5 hx (by omega) hg (fu := fm + 60) (by omega) x.Links 0 g0 rfl hn0
    rw [r1]
    simp only [Option.bind_some]
    have hg1 := far_step hx (by omega) hg r2 (fun j hj => r4 j (Nat.zero_le _) hj)
    have hl := hg1.sh
    rw [gx_rowN (by omega)]
    simp only [Option.bind_some]
    have hr := hg1.sr _ hs
    rw [hr]
    obtain ⟨z1, t1, t2, t3, t4⟩ := mo_loop8 hx hs (by omega) hg1 (3 * x.Plan.length + 1) 0 z (by omega) hz
    rw [t1]
    simp only [Option.bind_some]
    obtain ⟨z', g', u1, u2, u3, u4⟩ := mo_loop3 hx hs fm ps (k + 1) g1 z1 (by omega) hg1 t2
    refine ⟨z', g', u1, u2, fun f b hb hd => u3 f b hb (t3 f b hb hd), fun is h1 h2 hw => ?_⟩
    rcases Nat.lt_or_ge (k + 1) is.length with c | c
    · exact u4 is c h2 hw
    · have hl : is.length = k + 1 := by omega
      have hne : is ≠ [] := fun q => by rw [q] at hl; simp at hl
      have hp := hx.pos hw hne
      obtain ⟨s1, s2, s3, s4⟩ := hx.sums hw
      have hle := hg1.full start is hs hw hl
      have hcb : ((nd (sB x.Links is) : Nat) : Int) = sB x.Links is := by unfold nd; omega
      have hd := t4 (nd (sB x.Links is)) (Nat.zero_le _) (by omega) (by omega) (by omega)
      rw [hcb] at hd
      have q := t2.pos hx hd.1
      refine u3 _ _ s3 ⟨hd.1, Int.le_trans (Int.mul_le_mul_of_nonneg_right hle (by omega)) hd.2⟩
theorem mo_loop1 (hx : RIn x) (fm : Nat) : ∀ (ps : List Int) (k : Nat) (z : Int × Int × Bool), k + ps.length = x.Plan.length → Pq x z →
    ∃ z', Fishref2MeanOf.loop1 x (fm + 60) ps k z.1 z.2.1 z.2.2 = some z' ∧ Pq x z' ∧ UpP z z' ∧ ∀ (v : Nat) is, k ≤ v → v < x.Plan.length → is ≠ [] → is.length ≤ x.Plan.length → Wk x.Links (v : Int) (v : Int) is → Dp z' (sL x.Links is) (sB x.Links is)
  | [], k, z, hk, hz => ⟨z, rfl, hz, fun _ _ _ h => h, fun v is h1 h2 => by simp at hk; omega⟩
  | p :: ps, k, z, hk, hz => by
    simp only [List.length_cons] at hk
    have n8 := hx.ok.n1
    rw [Fishref2MeanOf.loop1, mks_in (by omega)]
    simp only [Option.bind_some, List.length_replicate]
    obtain ⟨g0, e1, _, e2, e3⟩ := rows_loop (x := x) n8 fm x.Plan.length 0 (List.replicate x.Plan.length ([] : List Int)) (by omega) (by simp) (fun j hj => absurd hj (Nat.not_lt_zero _))
    rw [e1]
    simp only [Option.bind_some]
    have hk' : k < x.Plan.length := by omega
    have hr := e3 k hk'
    rw [gx_rowN (by omega)]
    simp only [Option.bind_some]
    rw [ix_in (by omega) (by rw [hr]; simp; omega), sx_in (by omega) (by rw [hr]; simp; omega)]
    simp only [Option.bind_some]
    rw [show ((0 : Int)).toNat = 0 from rfl, show (((k : Nat) : Int)).toNat = k by omega]
    have hrl : (row g0 k).length = 3 * x.Plan.length + 1 := by rw [hr]; simp
    have hset := gv_set (g := g0) (k := k) (v := 0) (a := 0) (by omega) (by omega)
    have hg : Far x k 0 (g0.set k ((row g0 k).set 0 0)) := by
      refine ⟨by simpa using e2, fun v hv => ?_, fun v u hv hu => ?_, fun v is hv hw hl => ?_⟩
      · rw [row_set (by omega)]
        by_cases c : v = k
        · rw [if_pos c]; simpa using hrl
        · rw [if_neg c, e3 v hv]; simp
      · rw [hset]
        by_cases c : v = k ∧ u = 0
        · rw [if_pos c]
          right
          refine ⟨[], by rw [c.1]; rfl, rfl, rfl, by rw [c.2]; rfl⟩
        · rw [if_neg c]; exact .inl (gv_rep (e3 v hv) hu)
      · have h0 : is = [] := List.length_eq_zero_iff.1 hl
        subst h0
        have hvk : ((k : Nat) : Int) = (v : Int) := hw
        simp only [sL, sB]
        rw [hset, if_pos ⟨by omega, rfl⟩]
        exact Int.le_refl _
    obtain ⟨z1, g1, r1, r2, r3, r4⟩ := mo_loop3 hx hk' fm x.Plan 0 _ z (by omega) hg hz
    rw [r1]
    simp only [Option.bind_some]
    obtain ⟨z', u1, u2, u3, u4⟩ := mo_loop1 hx fm ps (k + 1) z1 (by omega) r2
    refine ⟨z', u1, u2, fun f b hb hd => u3 f b hb (r3 f b hb hd), fun v is h1 h2 h3 h4 hw => ?_⟩
    rcases Nat.eq_or_lt_of_le h1 with e | e
    · subst e
      exact u3 _ _ (hx.sums hw).2.2.1 (r4 is (List.length_pos_iff.2 h3) h4 hw)
    · exact u4 v is (by omega) h2 h3 h4 hw
end
/-! both means, and what they say -/
theorem tmod_nat (a b : Nat) : ((a : Nat) : Int).tmod ((b : Nat) : Int) = ((a % b : Nat) : Int) := rfl
theorem gcd_step (a b : Nat) : Nat.gcd b (a % b) = Nat.gcd a b := by rw [Nat.gcd_comm b, ← Nat.gcd_rec, Nat.gcd_comm]
theorem common_run : ∀ (fu a b : Nat), b < fu → Fishref2common fu ((a : Nat) : Int) ((b : Nat) : Int) = some ((Nat.gcd a b : Nat) : Int)
  | 0, _, _, h => absurd h (Nat.not_lt_zero _)
  | fu + 1, a, b, h => by
    rw [Fishref2common]
    by_cases c : b = 0
    · subst c
      simp
    · rw [if_neg (show ¬ (((b : Nat) : Int) == 0) = true by simpa using c)]
      unfold rm
      rw [if_neg (by omega)]
      simp only [Option.bind_some]
      have hlt : a % b < b := Nat.mod_lt _ (by omega)
      rw [tmod_nat, common_run fu b (a % b) (by omega), gcd_step]
      rfl
theorem lowest_same {a b c d : Nat} (hb : 0 < b) (hd : 0 < d) (h : a * d = c * b) : a / Nat.gcd a b = c / Nat.gcd c d ∧ b / Nat.gcd a b = d / Nat.gcd c d := by
  have g1 : 0 < Nat.gcd a b := Nat.gcd_pos_of_pos_right _ hb
  have g2 : 0 < Nat.gcd c d := Nat.gcd_pos_of_pos_right _ hd
  obtain ⟨a', ha⟩ := Nat.gcd_dvd_left a b
  obtain ⟨b', hb'⟩ := Nat.gcd_dvd_right a b
  obtain ⟨c', hc⟩ := Nat.gcd_dvd_left c d
  obtain ⟨d', hd'⟩ := Nat.gcd_dvd_right c d
  have ea : a / Nat.gcd a b = a' := by conv => lhs; arg 1; rw [ha]
                                       exact Nat.mul_div_cancel_left _ g1
  have eb : b / Nat.gcd a b = b' := by conv => lhs; arg 1; rw [hb']
                                       exact Nat.mul_div_cancel_left _ g1
  have ec : c / Nat.gcd c d = c' := by conv => lhs; arg 1; rw [hc]
                                       exact Nat.mul_div_cancel_left _ g2
  have ed : d / Nat.gcd c d = d' := by conv => lhs; arg 1; rw [hd']
                                       exact Nat.mul_div_cancel_left _ g2
  have co1 : Nat.Coprime a' b' := by rw [← ea, ← eb]; exact Nat.coprime_div_gcd_div_gcd g1
  have co2 : Nat.Coprime c' d' := by rw [← ec, ← ed]; exact Nat.coprime_div_gcd_div_gcd g2
  have h2 : a' * d' = c' * b' := by
    have h3 : (Nat.gcd a b * a') * (Nat.gcd c d * d') = (Nat.gcd c d * c') * (Nat.gcd a b * b') := by rw [← ha, ← hd', ← hc, ← hb']; exact h
    have h4 : (Nat.gcd a b * Nat.gcd c d) * (a' * d') = (Nat.gcd a b * Nat.gcd c d) * (c' * b') := by
      have e1 : (Nat.gcd a b * a') * (Nat.gcd c d * d') = (Nat.gcd a b * Nat.gcd c d) * (a' * d') := by ac_rfl
      have e2 : (Nat.gcd c d * c') * (Nat.gcd a b * b') = (Nat.gcd a b * Nat.gcd c d) * (c' * b') := by ac_rfl
      rw [← e1, ← e2]; exact h3
    exact Nat.eq_of_mul_eq_mul_left (Nat.mul_pos g1 g2) h4
  have d1 : a' ∣ c' := co1.dvd_of_dvd_mul_right (by rw [← h2]; exact Nat.dvd_mul_right _ _)
  have d2 : c' ∣ a' := co2.dvd_of_dvd_mul_right (by rw [h2]; exact Nat.dvd_mul_right _ _)
  have e1 : a' = c' := Nat.dvd_antisymm d1 d2
  have d3 : b' ∣ d' := co1.symm.dvd_of_dvd_mul_left (by rw [h2]; exact Nat.dvd_mul_left _ _)
  have d4 : d' ∣ b' := co2.symm.dvd_of_dvd_mul_left (by rw [← h2]; exact Nat.dvd_mul_left _ _)
  rw [ea, eb, ec, ed]
  exact ⟨e1, Nat.dvd_antisymm d3 d4⟩
theorem dv_nat {a g : Nat} (hg : 0 < g) (ha : a ≤ 1000000000) : dv ((a : Nat) : Int) ((g : Nat) : Int) = some ((a / g : Nat) : Int) := by
  unfold dv
  rw [if_neg (by omega)]
  have h : ((a : Nat) : Int).tdiv ((g : Nat) : Int) = ((a / g : Nat) : Int) := rfl
  have h2 : a / g ≤ a := Nat.div_le_self _ _
  rw [h, show IntKind.wrap .i64 ((a / g : Nat) : Int) = w64 ((a / g : Nat) : Int) from rfl]
  generalize a / g = d at h2 ⊢
  rw [w64_id (by omega)]
section
variable {x : MendRound}
/-- no ring, or the same greatest mean, found in two ways -/
theorem means_both (hx : RIn x) {fu : Nat} (hf : 1000000 ≤ fu) :
    (MendRoundmean fu x = some (0, 0, []) ∨ ∃ l b, MendRoundmean fu x = some (l, b, [])) ∧ (∀ r, ¬ Rng x.Links r) ∧ Fishref2MeanOf fu x = some (0, 0, false) ∨
    ∃ r v, ∃ A B : Nat, r ≠ [] ∧ r.length ≤ 9 ∧ (src x.Links r).Nodup ∧ Wk x.Links v v r ∧ (A : Int) = sL x.Links r ∧ (B : Int) = sB x.Links r ∧ 0 < B ∧ A ≤ 259200 ∧ B ≤ 27 ∧ MendRoundmean fu x = some ((A : Int), (B : Int), ints r) ∧
      Fishref2MeanOf fu x = some (((A / Nat.gcd A B : Nat) : Int), ((B / Nat.gcd A B : Nat) : Int), true) ∧ ∀ s, Rng x.Links s → sL x.Links s * (B : Int) ≤ (A : Int) * sB x.Links s := by
  obtain ⟨long, back, best, e1, e2, e3⟩ := mean_run hx (fu := fu) (by omega)
  obtain ⟨fm, rfl⟩ : ∃ fm, fu = fm + 60 := ⟨fu - 60, by omega⟩
  obtain ⟨z, f1, f2, _, f4⟩ := mo_loop1 hx fm x.Plan 0 (0, 0, false) (by simp) (fun h => by cases h)
  have f1' : Fishref2MeanOf.loop1 x (fm + 60) x.Plan 0 0 0 false = some z := f1
  unfold Fishref2MeanOf
  rw [f1']
  simp only [Option.bind_some]
  rcases e2.ring with hb | ⟨r, rfl, hr, hl, hB, hA⟩
  · left
    have hno : ∀ r, ¬ Rng x.Links r := fun r hr => (e3 r hr).1 hb
    subst hb
    refine ⟨.inr ⟨long, back, e1⟩, hno, ?_⟩
    have hz : z.2.2 = false := by
      cases q : z.2.2 with
      | false => rfl
      | true =>
        obtain ⟨v, is, h1, h2, _⟩ := f2 q
        obtain ⟨r, hr⟩ := (closed_rings (A := 0) (B := 0) (fun r _ => by simp) is.length v is (Nat.le_refl _) h1 h2).2
        exact absurd hr (hno r)
    rw [hz]
    rfl
  · right
    obtain ⟨hne, hnd, v, hw⟩ := hr
    have hrl := hx.ringlen hnd hw
    have hp := hx.pos hw hne
    obtain ⟨s1, s2, s3, s4⟩ := hx.sums hw
    have hv : 0 ≤ v ∧ v < x.Plan.length := by
      cases r with
      | nil => exact absurd rfl hne
      | cons i r => rw [← hw.2.1]; exact ⟨(hx.lk hw.1).f0, (hx.lk hw.1).f1⟩
    have hd := f4 (nd v) r (Nat.zero_le _) (by unfold nd; omega) hne hrl (by rw [show ((nd v : Nat) : Int) = v by unfold nd; omega]; exact hw)
    have hq := f2.pos hx hd.1
    have hup : z.1 * back ≤ long * z.2.1 := by
      obtain ⟨u, is, h1, h2, _, h4, h5⟩ := f2 hd.1
      rw [h4, h5]
      exact (closed_rings (A := long) (B := back) (fun s hs => (e3 s hs).2) is.length u is (Nat.le_refl _) h1 h2).1
    have hlo : long * z.2.1 ≤ z.1 * back := by rw [hA, hB]; exact hd.2
    have heq : long * z.2.1 = z.1 * back := by omega
    obtain ⟨A, hA'⟩ : ∃ A : Nat, (A : Int) = long := ⟨long.toNat, by omega⟩
    obtain ⟨B, hB'⟩ : ∃ B : Nat, (B : Int) = back := ⟨back.toNat, by omega⟩
    obtain ⟨p, hp'⟩ : ∃ p : Nat, (p : Int) = z.1 := ⟨z.1.toNat, by omega⟩
    obtain ⟨q, hq'⟩ : ∃ q : Nat, (q : Int) = z.2.1 := ⟨z.2.1.toNat, by omega⟩
    have hN : A * q = p * B := by
      rw [← hA', ← hB', ← hp', ← hq'] at heq
      exact_mod_cast heq
    obtain ⟨l1, l2⟩ := lowest_same (a := A) (b := B) (c := p) (d := q) (by omega) (by omega) hN
    refine ⟨r, v, A, B, hne, hl, hnd, hw, by omega, by omega, by omega, by omega, by omega, by rw [e1, hA', hB'], ?_, fun s hs => ?_⟩
    · rw [hd.1]
      simp only [Bool.not_true, Bool.false_eq_true, if_false]
      unfold Fishref2Lowest
      rw [← hp', ← hq', common_run _ q p (by omega), Nat.gcd_comm q p]
      simp only [Option.bind_some]
      have g2 : 0 < Nat.gcd p q := Nat.gcd_pos_of_pos_right _ (by omega)
      rw [dv_nat g2 (by omega), dv_nat g2 (by omega), l1, l2]
      rfl
    · rw [hA', hB']; exact (e3 s hs).2
end
/-! passes that are done again until nothing changes, or a number of times -/
section
variable {α : Type} (step : MendLink → α → α)
def pass (ls : List MendLink) (r : α) : α := ls.foldl (fun r l => step l r) r
def Stable (ls : List MendLink) (r : α) : Prop := ∀ l ∈ ls, step l r = r
def it (ls : List MendLink) : Nat → α → α
  | 0, r => r
  | k + 1, r => it ls k (pass step ls r)
variable {step}
theorem pass_stable : ∀ {ls : List MendLink} {r : α}, Stable step ls r → pass step ls r = r
  | [], _, _ => rfl
  | l :: ls, r, h => by
    have h1 := h l (by simp)
    show pass step ls (step l r) = r
    rw [h1]
    exact pass_stable fun l hl => h l (by simp [hl])
theorem it_stable {ls : List MendLink} {r : α} (h : Stable step ls r) : ∀ k, it step ls k r = r
  | 0 => rfl
  | k + 1 => by rw [it, pass_stable h, it_stable h k]
theorem it_succ {ls : List MendLink} : ∀ (k : Nat) (r : α), it step ls (k + 1) r = pass step ls (it step ls k r)
  | 0, _ => rfl
  | k + 1, r => by rw [it, it_succ k, it]
theorem it_inv {ls : List MendLink} {P : α → Prop} (hs : ∀ l ∈ ls, ∀ r, P r → P (step l r)) : ∀ (k : Nat) (r : α), P r → P (it step ls k r) := by
  have hp : ∀ (ms : List MendLink) (r : α), (∀ l ∈ ms, l ∈ ls) → P r → P (pass step ms r) := by
    intro ms
    induction ms with
    | nil => intro r _ h; exact h
    | cons l ms ih => intro r hm h; exact ih _ (fun a ha => hm a (by simp [ha])) (hs l (hm l (by simp)) r h)
  intro k
  induction k with
  | zero => intro r h; exact h
  | succ k ih => intro r h; exact ih _ (hp ls r (fun _ h => h) h)
theorem pass_inv {ls : List MendLink} {P : α → Prop} (hs : ∀ l ∈ ls, ∀ r, P r → P (step l r)) : ∀ (r : α), P r → P (pass step ls r) := fun r h => it_inv (ls := ls) (step := step) hs 1 r h
/-- a loop that goes through the links, and says whether something changed -/
def Flags (step : MendLink → α → α) (P : α → Prop) (ls0 : List MendLink) (F : List MendLink → Bool → α → Option (Bool × α)) : Prop :=
  ∀ (ls : List MendLink) (ch : Bool) (r : α), (∀ l ∈ ls, l ∈ ls0) → P r → ∃ c, F ls ch r = some (c, pass step ls r) ∧ (ch = true → c = true) ∧ (c = false → Stable step ls r) ∧ (Stable step ls r → c = ch)
/-- again and again, until nothing changes -/
theorem again_run {P : α → Prop} {ls : List MendLink} {F : List MendLink → Bool → α → Option (Bool × α)} (hF : Flags step P ls F) (hP : ∀ l ∈ ls, ∀ r, P r → P (step l r)) (W : Nat → Bool → α → Option (Bool × α))
    (hW0 : ∀ m r, W (m + 1) false r = some (false, r)) (hW1 : ∀ m r, W (m + 1) true r = (F ls false r).bind fun q => W m q.1 q.2) : ∀ (N : Nat) (r : α), P r → Stable step ls (it step ls N r) → ∀ m, N + 2 ≤ m → W m true r = some (false, it step ls N r)
  | N, r, hp, hs, 0, hm => absurd hm (by omega)
  | N, r, hp, hs, 1, hm => absurd hm (by omega)
  | N, r, hp, hs, m + 2, hm => by
    obtain ⟨c, e, _, h2, h3⟩ := hF ls false r (fun _ h => h) hp
    rw [hW1, e]
    simp only [Option.bind_some]
    cases c with
    | false =>
      have := h2 rfl
      rw [hW0, pass_stable this, it_stable this]
    | true =>
      cases N with
      | zero => exact absurd (h3 hs) (by simp)
      | succ N => rw [again_run hF hP W hW0 hW1 N _ (pass_inv hP r hp) hs (m + 1) (by omega), it]
end
/-! how late events may be: shortest ways -/
section
variable {x : MendRound}
def sS (x : MendRound) : List Nat → Int
  | [] => 0
  | i :: is => sl x (lk x.Links i) + sS x is
theorem sS_app : ∀ p q : List Nat, sS x (p ++ q) = sS x p + sS x q
  | [], q => by simp [sS]
  | i :: p, q => by simp only [List.cons_append, sS, sS_app p q]; omega
theorem RIn.slk (hx : RIn x) {i : Nat} (hi : i < x.Links.length) : 0 ≤ sl x (Fp.lk x.Links i) ∧ sl x (Fp.lk x.Links i) ≤ 20000 := ⟨(hx.lk hi).s0, (hx.lk hi).s1⟩
theorem RIn.sS (hx : RIn x) : ∀ {is : List Nat} {a b : Int}, Wk x.Links a b is → 0 ≤ sS x is ∧ sS x is ≤ 20000 * is.length
  | [], _, _, _ => by simp [Fp.sS]
  | i :: is, a, b, w => by
    have h1 := hx.sS w.2.2
    have h2 := hx.slk w.1
    simp only [Fp.sS, List.length_cons, Int.natCast_add, Int.natCast_one]
    omega
theorem wk_mem {L : List MendLink} : ∀ (is : List Nat) (a b : Int), Wk L a b is → ∀ i ∈ is, i < L.length
  | [], a, b, _, i, hi => by cases hi
  | j :: is, a, b, w, i, hi => by
    rcases List.mem_cons.1 hi with rfl | hi
    · exact w.1
    · exact wk_mem is _ _ w.2.2 i hi
/-- the events on a way -/
def vts (L : List MendLink) (is : List Nat) (b : Int) : List Int := src L is ++ [b]
theorem vts_split {L : List MendLink} {a b : Int} {is : List Nat} (w : Wk L a b is) {i : Nat} (hi : i ≤ is.length) : Wk L a ((vts L is b)[i]'(by simp [vts, src]; omega)) (is.take i) ∧ Wk L ((vts L is b)[i]'(by simp [vts, src]; omega)) b (is.drop i) := by
  have h := w
  rw [← List.take_append_drop i is] at h
  obtain ⟨u, w1, w2⟩ := Wk.split h
  have : (vts L is b)[i]'(by simp [vts, src]; omega) = u := by
    rcases Nat.lt_or_ge i is.length with c | c
    · have e : (vts L is b)[i]'(by simp [vts, src]; omega) = (lk L is[i]).From := by
        unfold vts; rw [List.getElem_append_left (by simp [src]; omega)]; simp [src]
      rw [List.drop_eq_getElem_cons c] at w2
      rw [e]; exact w2.2.1
    · have hi' : i = is.length := by omega
      subst hi'
      have e : (vts L is b)[is.length]'(by simp [vts, src]) = b := by
        unfold vts; rw [List.getElem_append_right (by simp [src])]; simp
      rw [List.drop_length] at w2
      rw [e]; exact w2.symm
  rw [this]
  exact ⟨w1, w2⟩
theorem RIn.vts (hx : RIn x) {is : List Nat} {a b : Int} (w : Wk x.Links a b is) (hb : 0 ≤ b ∧ b < x.Plan.length) : ∀ v ∈ vts x.Links is b, 0 ≤ v ∧ v < x.Plan.length := by
  intro v hv
  rcases List.mem_append.1 hv with hv | hv
  · rw [src, List.mem_map] at hv
    obtain ⟨i, hi, rfl⟩ := hv
    have := hx.lk (wk_mem _ _ _ w i hi)
    exact ⟨this.f0, this.f1⟩
  · rw [List.mem_singleton] at hv; subst hv; exact hb
theorem ints_len {n : Nat} {l : List Int} (hn : l.Nodup) (h : ∀ v ∈ l, 0 ≤ v ∧ v < (n : Int)) : l.length ≤ n := by
  have h1 : (l.map nd).Nodup := by
    rw [List.nodup_iff_pairwise_ne, List.pairwise_map]
    refine (List.nodup_iff_pairwise_ne.1 hn).imp_of_mem ?_
    intro a b ha hb hab e
    have := h a ha
    have := h b hb
    unfold nd at e; omega
  have h2 := nodup_len n _ h1 (by
    intro a ha
    rw [List.mem_map] at ha
    obtain ⟨c, hc, rfl⟩ := ha
    have := h c hc
    unfold nd; omega)
  simpa using h2
/-- a long way passes an event twice -/
theorem RIn.twice (hx : RIn x) {is : List Nat} {a b : Int} (w : Wk x.Links a b is) (hb : 0 ≤ b ∧ b < x.Plan.length) (hl : x.Plan.length ≤ is.length) :
    ∃ i j v, i < j ∧ j ≤ is.length ∧ Wk x.Links a v (is.take i) ∧ Wk x.Links v v ((is.drop i).take (j - i)) ∧ Wk x.Links v b (is.drop j) ∧ is = is.take i ++ ((is.drop i).take (j - i) ++ is.drop j) := by
  have hn : ¬ (Fp.vts x.Links is b).Nodup := by
    intro h
    have := ints_len h (hx.vts w hb)
    simp [Fp.vts, src] at this
    omega
  obtain ⟨i, j, hij, hj, hi, e⟩ := not_nodup hn
  have hlen : (Fp.vts x.Links is b).length = is.length + 1 := by simp [Fp.vts, src]
  obtain ⟨w1, w2⟩ := vts_split w (i := i) (by omega)
  obtain ⟨w3, w4⟩ := vts_split w (i := j) (by omega)
  have e1 : is.drop i = (is.drop i).take (j - i) ++ is.drop j := by
    conv => lhs; rw [← List.take_append_drop (j - i) (is.drop i)]
    rw [List.drop_drop]; congr 2; omega
  have w2' := w2
  rw [e1] at w2'
  obtain ⟨u, w5, w6⟩ := Wk.split w2'
  have hu : u = (Fp.vts x.Links is b)[j] := by
    have e2 : is.take j = is.take i ++ (is.drop i).take (j - i) := by
      have : j = i + (j - i) := by omega
      conv => lhs; rw [this, List.take_add]
    rw [e2] at w3
    obtain ⟨t, w7, w8⟩ := Wk.split w3
    have ends : ∀ (p : List Nat) (a b c : Int), Wk x.Links a b p → Wk x.Links a c p → b = c := by
      intro p
      induction p with
      | nil => intro a b c h k; exact h.symm.trans k
      | cons q p ih => intro a b c h k; exact ih _ _ _ h.2.2 k.2.2
    have := ends _ _ _ _ w1 w7
    subst this
    exact ends _ _ _ _ w5 w8
  rw [← e] at hu
  subst hu
  refine ⟨i, j, _, hij, by omega, w1, w5, w6, ?_⟩
  conv => lhs; rw [← List.take_append_drop i is, e1]
/-- each way has a short one that is not longer -/
theorem RIn.short (hx : RIn x) : ∀ (m : Nat) (is : List Nat) (a b : Int), is.length ≤ m → 0 ≤ b ∧ b < x.Plan.length → Wk x.Links a b is → ∃ js, Wk x.Links a b js ∧ js.length < x.Plan.length ∧ Fp.sS x js ≤ Fp.sS x is := by
  intro m
  induction m with
  | zero => intro is a b h hb w; exact ⟨is, w, by have := hx.ok.n0; omega, Int.le_refl _⟩
  | succ m ih =>
    intro is a b h hb w
    rcases Nat.lt_or_ge is.length x.Plan.length with c | c
    · exact ⟨is, w, c, Int.le_refl _⟩
    · obtain ⟨i, j, v, hij, hj, w1, w2, w3, e⟩ := hx.twice w hb c
      obtain ⟨js, k1, k2, k3⟩ := ih (is.take i ++ is.drop j) a b (by simp; omega) hb (w1.app w3)
      refine ⟨js, k1, k2, ?_⟩
      have := (hx.sS w2).1
      rw [e, sS_app, sS_app]
      rw [sS_app] at k3
      omega

/-- one link of a row -/
def stepR (x : MendRound) (l : MendLink) (r : List Int) : List Int :=
  if tm r (nd l.From) < 0 then r else if tm r (nd l.To) < 0 ∨ tm r (nd l.From) + sl x l < tm r (nd l.To) then r.set (nd l.To) (tm r (nd l.From) + sl x l) else r
/-- a row from event a: each place has the slack of a way, or none -/
structure RRow (x : MendRound) (a : Nat) (r : List Int) : Prop where
  len : r.length = x.Plan.length
  way : ∀ v, v < x.Plan.length → tm r v = -1 ∨ ∃ is, Wk x.Links (a : Int) (v : Int) is ∧ tm r v = sS x is
  small : ∀ v, v < x.Plan.length → tm r v ≤ 20000 * (count (fun v => 0 ≤ tm r v) x.Plan.length : Int)
  own : tm r a = 0
theorem RRow.nn (hx : RIn x) {a : Nat} {r : List Int} (h : RRow x a r) {v : Nat} (hv : v < x.Plan.length) : tm r v = -1 ∨ 0 ≤ tm r v := by
  rcases h.way v hv with q | ⟨is, w, q⟩
  · exact .inl q
  · have := (hx.sS w).1; exact .inr (by omega)
theorem RRow.bd {a : Nat} {r : List Int} (hx : RIn x) (h : RRow x a r) {v : Nat} (hv : v < x.Plan.length) : tm r v ≤ 160000 := by
  have h1 := h.small v hv
  have h2 := count_le (fun v => 0 ≤ tm r v) x.Plan.length
  have := hx.ok.n1
  omega
theorem stepR_row (hx : RIn x) {a : Nat} {l : MendLink} (hl : l ∈ x.Links) {r : List Int} (h : RRow x a r) : RRow x a (stepR x l r) := by
  have ok := hx.ok.links l hl
  have s0 := ok.s0
  have s1 := ok.s1
  unfold stepR
  split
  · exact h
  · rename_i c1
    split
    · rename_i c2
      have hT : nd l.To < r.length := by rw [h.len]; exact ok.nd.2
      have hF := ok.nd.1
      have hset : ∀ v, tm (r.set (nd l.To) (tm r (nd l.From) + sl x l)) v = if v = nd l.To then tm r (nd l.From) + sl x l else tm r v := fun v => tm_set hT
      have hna : nd l.To ≠ a := by
        intro e
        have := h.own
        rw [e, this] at c2
        omega
      refine ⟨by simpa using h.len, fun v hv => ?_, fun v hv => ?_, by rw [hset, if_neg (fun e => hna e.symm)]; exact h.own⟩
      · rw [hset]
        by_cases e : v = nd l.To
        · rw [if_pos e]
          right
          obtain ⟨is, w, q⟩ := (h.way _ hF).resolve_left (by omega)
          obtain ⟨i, hi, e2⟩ := List.getElem_of_mem hl
          have hlk : lk x.Links i = l := by rw [lk_get hi, e2]
          have hf0 := ok.f0
          have ht0 := ok.t0
          have w2 := w.snoc (i := i) hi (by rw [hlk]; unfold nd; omega)
          rw [hlk, show l.To = ((v : Nat) : Int) by rw [e]; unfold nd; omega] at w2
          refine ⟨is ++ [i], w2, ?_⟩
          rw [sS_app, q]; simp [sS, hlk]
        · rw [if_neg e]; exact h.way v hv
      · have hmono : ∀ v, v < x.Plan.length → 0 ≤ tm r v → 0 ≤ tm (r.set (nd l.To) (tm r (nd l.From) + sl x l)) v := by
          intro v _ q
          rw [hset]; split <;> omega
        have hle := count_mono (P := fun v => 0 ≤ tm r v) (Q := fun v => 0 ≤ tm (r.set (nd l.To) (tm r (nd l.From) + sl x l)) v) x.Plan.length hmono
        have hsm := h.small v hv
        have hsf := h.small _ hF
        have hst := h.small _ ok.nd.2
        rw [hset]
        by_cases e : v = nd l.To
        · rw [if_pos e]
          rcases c2 with c2 | c2
          · have hlt := count_lt (P := fun v => 0 ≤ tm r v) (Q := fun v => 0 ≤ tm (r.set (nd l.To) (tm r (nd l.From) + sl x l)) v) (u := nd l.To) (by show ¬ 0 ≤ tm r (nd l.To); omega) (by show 0 ≤ _; rw [hset, if_pos rfl]; omega) x.Plan.length ok.nd.2 hmono
            omega
          · omega
        · rw [if_neg e]; omega
    · exact h
/-- not greater -/
def Lr (x : MendRound) (r r' : List Int) : Prop := ∀ v, v < x.Plan.length → 0 ≤ tm r v → 0 ≤ tm r' v ∧ tm r' v ≤ tm r v
theorem Lr.trans {r r' r'' : List Int} (h : Lr x r r') (k : Lr x r' r'') : Lr x r r'' := fun v hv q => by
  have h1 := h v hv q
  have h2 := k v hv h1.1
  omega
theorem stepR_lr (hx : RIn x) {a : Nat} {l : MendLink} (hl : l ∈ x.Links) {r : List Int} (h : RRow x a r) : Lr x r (stepR x l r) ∧ (0 ≤ tm r (nd l.From) → 0 ≤ tm (stepR x l r) (nd l.To) ∧ tm (stepR x l r) (nd l.To) ≤ tm r (nd l.From) + sl x l) := by
  have ok := hx.ok.links l hl
  have s0 := ok.s0
  have hT : nd l.To < r.length := by rw [h.len]; exact ok.nd.2
  unfold stepR
  split
  · exact ⟨fun v _ q => ⟨q, Int.le_refl _⟩, fun q => by omega⟩
  · split
    · rename_i c1 c2
      refine ⟨fun v hv q => ?_, fun q => ?_⟩
      · rw [tm_set hT]
        split
        · rename_i e; rw [e] at q ⊢; omega
        · omega
      · rw [tm_set hT, if_pos rfl]; omega
    · rename_i c1 c2
      exact ⟨fun v _ q => ⟨q, Int.le_refl _⟩, fun q => by omega⟩
theorem passR_bf (hx : RIn x) {a : Nat} : ∀ (ls : List MendLink) (r : List Int), (∀ l ∈ ls, l ∈ x.Links) → RRow x a r → RRow x a (pass (stepR x) ls r) ∧ Lr x r (pass (stepR x) ls r) ∧
    ∀ l ∈ ls, 0 ≤ tm r (nd l.From) → 0 ≤ tm (pass (stepR x) ls r) (nd l.To) ∧ tm (pass (stepR x) ls r) (nd l.To) ≤ tm r (nd l.From) + sl x l
  | [], r, _, h => ⟨h, fun v _ q => ⟨q, Int.le_refl _⟩, fun l hl => by cases hl⟩
  | l :: ls, r, hm, h => by
    have hl := hm l (by simp)
    obtain ⟨i1, i2, i3⟩ := passR_bf hx ls (stepR x l r) (fun a ha => hm a (by simp [ha])) (stepR_row hx hl h)
    obtain ⟨j1, j2⟩ := stepR_lr hx hl h
    have e : pass (stepR x) (l :: ls) r = pass (stepR x) ls (stepR x l r) := rfl
    rw [e]
    refine ⟨i1, j1.trans i2, fun k hk hf => ?_⟩
    rcases List.mem_cons.1 hk with rfl | hk'
    · have h1 := j2 hf
      have h2 := i2 _ (hx.ok.links k hl).nd.2 h1.1
      omega
    · have h1 := j1 _ (hx.ok.links k (hm k hk)).nd.1 hf
      have h2 := i3 k hk' h1.1
      omega
/-- ways of so many links are seen -/
def Bf2 (x : MendRound) (a k : Nat) (r : List Int) : Prop := ∀ (is : List Nat) (b : Int), 0 ≤ b ∧ b < x.Plan.length → Wk x.Links (a : Int) b is → is.length ≤ k → 0 ≤ tm r (nd b) ∧ tm r (nd b) ≤ sS x is
theorem itR_bf (hx : RIn x) {a : Nat} : ∀ (m k : Nat) (r : List Int), RRow x a r → Bf2 x a k r → RRow x a (it (stepR x) x.Links m r) ∧ Bf2 x a (k + m) (it (stepR x) x.Links m r)
  | 0, k, r, h, hb => ⟨h, hb⟩
  | m + 1, k, r, h, hb => by
    obtain ⟨i1, i2, i3⟩ := passR_bf hx x.Links r (fun _ h => h) h
    have hb2 : Bf2 x a (k + 1) (pass (stepR x) x.Links r) := by
      intro is b hb1 w hl
      rcases Nat.lt_or_ge k is.length with c | c
      · obtain ⟨js, i, rfl, hj⟩ := snoc_cases is k (by omega)
        obtain ⟨u, w1, w2⟩ := Wk.split w
        have hi := w2.1
        have ok := hx.lk hi
        have hmem : lk x.Links i ∈ x.Links := by rw [lk_get hi]; exact List.getElem_mem hi
        have hu : u = (lk x.Links i).From := w2.2.1.symm
        have hbt : (lk x.Links i).To = b := w2.2.2
        subst hu
        have h1 := hb js _ ⟨ok.f0, ok.f1⟩ w1 (by omega)
        have h2 := i3 _ hmem h1.1
        rw [hbt] at h2
        rw [sS_app]
        simp only [sS]
        omega
      · have h1 := hb is b hb1 w c
        have h2 := i2 (nd b) (by unfold nd; omega) h1.1
        omega
    have := itR_bf hx m (k + 1) _ i1 hb2
    rw [it]
    rw [show k + (m + 1) = k + 1 + m by omega]
    exact this
theorem stableR (hx : RIn x) {a : Nat} {r : List Int} (h : RRow x a r) (hb : Bf2 x a x.Plan.length r) : Stable (stepR x) x.Links r := by
  intro l hl
  have ok := hx.ok.links l hl
  unfold stepR
  split
  · rfl
  · rename_i c1
    obtain ⟨is, w, q⟩ := (h.way _ ok.nd.1).resolve_left (by omega)
    obtain ⟨i, hi, e2⟩ := List.getElem_of_mem hl
    have hlk : lk x.Links i = l := by rw [lk_get hi, e2]
    have hf0 := ok.f0
    have w2 := w.snoc (i := i) hi (by rw [hlk]; unfold nd; omega)
    rw [hlk] at w2
    obtain ⟨js, w3, k1, k2⟩ := hx.short _ (is ++ [i]) _ _ (Nat.le_refl _) ⟨ok.t0, ok.t1⟩ w2
    have := hb js _ ⟨ok.t0, ok.t1⟩ w3 (by omega)
    rw [sS_app] at k2
    simp only [sS, hlk] at k2
    rw [if_neg (by omega)]
/-- the same in a table -/
def stepG (x : MendRound) (k : Nat) (l : MendLink) (g : List (List Int)) : List (List Int) := g.set k (stepR x l (row g k))
theorem passG (k : Nat) : ∀ (ls : List MendLink) (g : List (List Int)), k < g.length → pass (stepG x k) ls g = g.set k (pass (stepR x) ls (row g k))
  | [], g, _ => by show g = g.set k (row g k); rw [set_row]
  | l :: ls, g, h => by
    show pass (stepG x k) ls (stepG x k l g) = _
    rw [passG k ls _ (by simpa [stepG] using h)]
    unfold stepG
    rw [row_set h, if_pos rfl, List.set_set]
    rfl
theorem itG (k : Nat) : ∀ (m : Nat) (g : List (List Int)), k < g.length → it (stepG x k) x.Links m g = g.set k (it (stepR x) x.Links m (row g k))
  | 0, g, _ => by show g = g.set k (row g k); rw [set_row]
  | m + 1, g, h => by
    rw [it, passG k _ g h, itG k m _ (by simpa using h), row_set h, if_pos rfl, List.set_set]
    rfl
structure PG (x : MendRound) (k : Nat) (g : List (List Int)) : Prop where
  len : g.length = x.Plan.length
  row : RRow x k (row g k)
theorem stepG_pg (hx : RIn x) {k : Nat} (hk : k < x.Plan.length) {l : MendLink} (hl : l ∈ x.Links) {g : List (List Int)} (h : PG x k g) : PG x k (stepG x k l g) := by
  refine ⟨by simpa [stepG] using h.len, ?_⟩
  unfold stepG
  rw [row_set (by rw [h.len]; exact hk), if_pos rfl]
  exact stepR_row hx hl h.row
theorem set_ne {g : List (List Int)} {k : Nat} {r : List Int} (hk : k < g.length) (h : g.set k r = g) : r = row g k := by
  have : row (g.set k r) k = row g k := by rw [h]
  rw [row_set hk, if_pos rfl] at this
  exact this
/-- one link, as the code has it -/
theorem room_one (hx : RIn x) {k : Nat} (hk : k < x.Plan.length) {l : MendLink} (hl : l ∈ x.Links) {g : List (List Int)} (h : PG x k g) :
    (tm (row g k) (nd l.From) < 0 ∧ stepG x k l g = g) ∨ (0 ≤ tm (row g k) (nd l.From) ∧ w64 (tm (row g k) (nd l.From) + sl x l) = tm (row g k) (nd l.From) + sl x l ∧
      ((tm (row g k) (nd l.To) < 0 ∨ tm (row g k) (nd l.From) + sl x l < tm (row g k) (nd l.To)) ∧ stepG x k l g = g.set k ((row g k).set (nd l.To) (tm (row g k) (nd l.From) + sl x l)) ∧ stepG x k l g ≠ g ∨
       ¬ (tm (row g k) (nd l.To) < 0 ∨ tm (row g k) (nd l.From) + sl x l < tm (row g k) (nd l.To)) ∧ stepG x k l g = g)) := by
  have ok := hx.ok.links l hl
  have s0 := ok.s0
  have s1 := ok.s1
  have hk' : k < g.length := by rw [h.len]; exact hk
  by_cases c1 : tm (row g k) (nd l.From) < 0
  · left
    refine ⟨c1, ?_⟩
    unfold stepG stepR
    rw [if_pos c1, set_row]
  · right
    have hbd := h.row.bd hx ok.nd.1
    refine ⟨by omega, w64_id (by omega), ?_⟩
    by_cases c2 : tm (row g k) (nd l.To) < 0 ∨ tm (row g k) (nd l.From) + sl x l < tm (row g k) (nd l.To)
    · left
      have e : stepG x k l g = g.set k ((row g k).set (nd l.To) (tm (row g k) (nd l.From) + sl x l)) := by
        unfold stepG stepR; rw [if_neg c1, if_pos c2]
      refine ⟨c2, e, fun q => ?_⟩
      rw [e] at q
      have h1 := set_ne hk' q
      have h2 : tm ((row g k).set (nd l.To) (tm (row g k) (nd l.From) + sl x l)) (nd l.To) = tm (row g k) (nd l.To) := by rw [h1]
      rw [tm_set (by rw [h.row.len]; exact ok.nd.2), if_pos rfl] at h2
      omega
    · right
      refine ⟨c2, ?_⟩
      unfold stepG stepR
      rw [if_neg c1, if_neg c2, set_row]
theorem room_flags (hx : RIn x) {k : Nat} (hk : k < x.Plan.length) : Flags (stepG x k) (PG x k) x.Links (MendRoom.loop3 x k) := by
  intro ls
  induction ls with
  | nil => intro ch g _ _; exact ⟨ch, rfl, fun h => h, fun _ l hl => (by cases hl), fun _ => rfl⟩
  | cons l ls ih =>
    intro ch g hm h
    have hl := hm l (by simp)
    have ok := hx.ok.links l hl
    have hlen := h.row.len
    have hg := h.len
    have f0 := ok.f0; have f1 := ok.f1; have t0 := ok.t0; have t1 := ok.t1
    have hsl := (slack_some hx.ok.p0 hx.ok.p1 hx.ok.plan ok.f0 ok.f1 ok.t0 ok.t1 ok.n0 ok.n1 ok.b0 ok.b1).1
    rw [MendRoom.loop3, gx_rowN (by omega)]
    simp only [Option.bind_some]
    rw [gx_tm (t := row g k) f0 (by omega), gx_tm (t := row g k) t0 (by omega)]
    simp only [Option.bind_some]
    rw [hsl]
    simp only [Option.bind_some]
    have hpass : pass (stepG x k) (l :: ls) g = pass (stepG x k) ls (stepG x k l g) := rfl
    rw [hpass]
    have same : ∀ c : Bool, stepG x k l g = g → ∃ c', MendRoom.loop3 x k ls c g = some (c', pass (stepG x k) ls (stepG x k l g)) ∧ (c = true → c' = true) ∧ (c' = false → Stable (stepG x k) (l :: ls) g) ∧ (Stable (stepG x k) (l :: ls) g → c' = c) := by
      intro c e
      obtain ⟨c', i1, i2, i3, i4⟩ := ih c g (fun a ha => hm a (by simp [ha])) h
      rw [e]
      refine ⟨c', i1, i2, fun q a ha => ?_, fun q => i4 fun a ha => q a (by simp [ha])⟩
      rcases List.mem_cons.1 ha with rfl | ha
      · exact e
      · exact i3 q a ha
    rcases room_one hx hk hl h with ⟨c1, e⟩ | ⟨c1, ew, ⟨c2, e, hne⟩ | ⟨c2, e⟩⟩
    · rw [decide_eq_true c1]
      simp only [if_true]
      exact same ch e
    · rw [decide_eq_false (by omega)]
      simp only [Bool.false_eq_true, if_false]
      rw [ew]
      have eb : (if decide (tm (row g k) (nd l.To) < 0) = true then some true else some (decide (tm (row g k) (nd l.From) + sl x l < tm (row g k) (nd l.To)))) = some true := by
        by_cases q : tm (row g k) (nd l.To) < 0
        · rw [decide_eq_true q]; rfl
        · rw [decide_eq_false q, decide_eq_true (c2.resolve_left q)]; rfl
      rw [eb]
      simp only [Option.bind_some, if_true]
      rw [ix_in t0 (by omega), sx_in t0 (by omega)]
      simp only [Option.bind_some]
      rw [show (((k : Nat) : Int)).toNat = k by omega, show (l.To).toNat = nd l.To from rfl, ← e]
      obtain ⟨c', i1, i2, i3, i4⟩ := ih true _ (fun a ha => hm a (by simp [ha])) (stepG_pg hx hk hl h)
      refine ⟨c', i1, fun _ => i2 rfl, fun q => absurd (i2 rfl) (by rw [q]; simp), fun q => absurd (q l (by simp)) hne⟩
    · rw [decide_eq_false (by omega)]
      simp only [Bool.false_eq_true, if_false]
      rw [ew]
      have eb : (if decide (tm (row g k) (nd l.To) < 0) = true then some true else some (decide (tm (row g k) (nd l.From) + sl x l < tm (row g k) (nd l.To)))) = some false := by
        rw [decide_eq_false (fun q => c2 (.inl q)), decide_eq_false (fun q => c2 (.inr q))]; rfl
      rw [eb]
      simp only [Option.bind_some, Bool.false_eq_true, if_false]
      exact same ch e
theorem room_ref3 (hx : RIn x) {k : Nat} (hk : k < x.Plan.length) : ∀ (ls : List MendLink) (g : List (List Int)), (∀ l ∈ ls, l ∈ x.Links) → PG x k g → Fishref2RoomOf.loop3 x k ls g = some (pass (stepG x k) ls g)
  | [], g, _, _ => rfl
  | l :: ls, g, hm, h => by
    have hl := hm l (by simp)
    have ok := hx.ok.links l hl
    have hlen := h.row.len
    have hg := h.len
    have f0 := ok.f0; have f1 := ok.f1; have t0 := ok.t0; have t1 := ok.t1
    have hsl := (slack_some hx.ok.p0 hx.ok.p1 hx.ok.plan ok.f0 ok.f1 ok.t0 ok.t1 ok.n0 ok.n1 ok.b0 ok.b1).1
    have ih := room_ref3 hx hk ls (stepG x k l g) (fun a ha => hm a (by simp [ha])) (stepG_pg hx hk hl h)
    rw [Fishref2RoomOf.loop3, gx_rowN (by omega)]
    simp only [Option.bind_some]
    rw [gx_tm (t := row g k) f0 (by omega), gx_tm (t := row g k) t0 (by omega)]
    simp only [Option.bind_some]
    rw [slack_eq, hsl]
    simp only [Option.bind_some]
    show _ = some (pass (stepG x k) ls (stepG x k l g))
    rcases room_one hx hk hl h with ⟨c1, e⟩ | ⟨c1, ew, ⟨c2, e, hne⟩ | ⟨c2, e⟩⟩
    · rw [decide_eq_false (by omega)]
      simp only [Bool.false_eq_true, if_false, Option.bind_some]
      rw [e] at ih ⊢
      exact ih
    · rw [decide_eq_true (by omega)]
      simp only [if_true]
      rw [ew]
      have eb : (if decide (tm (row g k) (nd l.To) < 0) = true then some true else some (decide (tm (row g k) (nd l.From) + sl x l < tm (row g k) (nd l.To)))) = some true := by
        by_cases q : tm (row g k) (nd l.To) < 0
        · rw [decide_eq_true q]; rfl
        · rw [decide_eq_false q, decide_eq_true (c2.resolve_left q)]; rfl
      rw [eb]
      simp only [Option.bind_some, if_true]
      rw [ix_in t0 (by omega), sx_in t0 (by omega)]
      simp only [Option.bind_some]
      rw [show (((k : Nat) : Int)).toNat = k by omega, show (l.To).toNat = nd l.To from rfl, ← e]
      exact ih
    · rw [decide_eq_true (by omega)]
      simp only [if_true]
      rw [ew]
      have eb : (if decide (tm (row g k) (nd l.To) < 0) = true then some true else some (decide (tm (row g k) (nd l.From) + sl x l < tm (row g k) (nd l.To)))) = some false := by
        rw [decide_eq_false (fun q => c2 (.inl q)), decide_eq_false (fun q => c2 (.inr q))]; rfl
      rw [eb]
      simp only [Option.bind_some, Bool.false_eq_true, if_false]
      rw [e] at ih ⊢
      exact ih
theorem room_ref2 (hx : RIn x) {k : Nat} (hk : k < x.Plan.length) : ∀ (ps : List Int) (g : List (List Int)), PG x k g → Fishref2RoomOf.loop2 x k ps g = some (it (stepG x k) x.Links ps.length g)
  | [], g, _ => rfl
  | p :: ps, g, h => by
    rw [Fishref2RoomOf.loop2, room_ref3 hx hk x.Links g (fun _ h => h) h]
    simp only [Option.bind_some]
    rw [room_ref2 hx hk ps _ (pass_inv (fun l hl r hr => stepG_pg hx hk hl hr) g h)]
    rfl
theorem room_loop1 (hx : RIn x) (fm : Nat) : ∀ (m k : Nat) (g : List (List Int)), m + k = x.Plan.length → g.length = x.Plan.length → ∃ g', MendRoom.loop1 x (fm + 60) m k g = some g' ∧ Fishref2RoomOf.loop1 x (fm + 60) m k g = some g'
  | 0, k, g, _, _ => ⟨g, rfl, rfl⟩
  | m + 1, k, g, h, hg => by
    have n8 := hx.ok.n1
    have hk : k < x.Plan.length := by omega
    rw [MendRoom.loop1, Fishref2RoomOf.loop1, rep25 _ _ (by omega)]
    simp only [Option.bind_some]
    rw [ix_in (by omega) (by omega), sx_in (by omega) (by omega)]
    simp only [Option.bind_some]
    rw [show (((k : Nat) : Int)).toNat = k by omega]
    have e1 : gx (g.set k (List.replicate x.Plan.length (-1))) ((k : Nat) : Int) = some (List.replicate x.Plan.length (-1)) := by
      rw [gx_at (by simp; omega)]; simp
    rw [e1]
    simp only [Option.bind_some]
    rw [ix_in (by omega) (by simp; omega), sx_in (by omega) (by simp; omega)]
    simp only [Option.bind_some]
    rw [show (((k : Nat) : Int)).toNat = k by omega, List.set_set]
    have hr0 : ∀ v, v < x.Plan.length → tm ((List.replicate x.Plan.length (-1)).set k (0 : Int)) v = if v = k then 0 else -1 := by
      intro v hv
      rw [tm_set (by simp; omega)]
      by_cases e : v = k
      · rw [if_pos e, if_pos e]
      · rw [if_neg e, if_neg e]; unfold tm; rw [List.getElem?_replicate, if_pos hv]; rfl
    have hrow : RRow x k ((List.replicate x.Plan.length (-1)).set k (0 : Int)) := by
      refine ⟨by simp, fun v hv => ?_, fun v hv => ?_, by rw [hr0 k hk, if_pos rfl]⟩
      · rw [hr0 v hv]
        by_cases e : v = k
        · rw [if_pos e]; exact .inr ⟨[], by rw [e]; rfl, rfl⟩
        · rw [if_neg e]; exact .inl rfl
      · rw [hr0 v hv]; split <;> omega
    have hpg : PG x k (g.set k ((List.replicate x.Plan.length (-1)).set k (0 : Int))) := ⟨by simpa using hg, by rw [row_set (by omega), if_pos rfl]; exact hrow⟩
    have hb0 : Bf2 x k 0 ((List.replicate x.Plan.length (-1)).set k (0 : Int)) := by
      intro is b hb w hl
      have : is = [] := List.length_eq_zero_iff.1 (by omega)
      subst this
      have hkb : ((k : Nat) : Int) = b := w
      rw [hr0 (nd b) (by unfold nd; omega), if_pos (by unfold nd; omega)]
      simp [sS]
    have hst : Stable (stepG x k) x.Links (it (stepG x k) x.Links x.Plan.length (g.set k ((List.replicate x.Plan.length (-1)).set k (0 : Int)))) := by
      intro l hl
      obtain ⟨q1, q2⟩ := itR_bf hx x.Plan.length 0 _ hrow hb0
      rw [Nat.zero_add] at q2
      rw [itG k _ _ (by simp; omega), row_set (by omega), if_pos rfl, List.set_set]
      unfold stepG
      rw [row_set (by omega), if_pos rfl, List.set_set, stableR hx q1 q2 l hl]
    have hrun := again_run (room_flags hx hk) (fun l hl r hr => stepG_pg hx hk hl hr) (MendRoom.loop2 x k) (fun m r => rfl)
      (fun m r => by rw [MendRoom.loop2]; simp only [if_true]) x.Plan.length _ hpg hst (fm + 60) (by omega)
    rw [hrun, room_ref2 hx hk x.Plan _ hpg]
    simp only [Option.bind_some]
    refine room_loop1 hx fm m (k + 1) _ (by omega) ?_
    rw [itG k _ _ (by simp; omega)]
    simpa using hg
theorem room_run (hx : RIn x) (fm : Nat) (hc : MendCheckRound (fm + 60) x = some 0) : ∃ g, MendRoom (fm + 60) x = some (g, 0) ∧ Fishref2RoomOf (fm + 60) x = some g := by
  have n8 := hx.ok.n1
  obtain ⟨g', h1, h2⟩ := room_loop1 hx fm x.Plan.length 0 (List.replicate x.Plan.length []) (by omega) (by simp)
  unfold MendRoom Fishref2RoomOf
  rw [hc, mks_in (by omega)]
  simp only [Option.bind_some, List.length_replicate, bne_self_eq_false, Bool.false_eq_true, if_false]
  rw [h1, h2]
  exact ⟨g', rfl, rfl⟩
end
/-! delays that die down -/
section
variable {x : MendRound} {most : Int} {now : List (List Int)}
theorem row_app {g : List (List Int)} {r : List Int} {j : Nat} : row (g ++ [r]) j = if j = g.length then r else row g j := by
  unfold row
  by_cases c : j = g.length
  · subst c; simp
  · rw [if_neg c]
    rcases Nat.lt_or_ge j g.length with h | h
    · rw [List.getElem?_append_left h]
    · rw [List.getElem?_eq_none (by simp; omega), List.getElem?_eq_none h]
def Bf (out before : List (List Int)) : Prop := before.length = min out.length 3 ∧ ∀ i, i < before.length → before[i]? = some (row out (out.length - 1 - i))
theorem bf_next {out before : List (List Int)} {r : List Int} (hb : Bf out before) : Bf (out ++ [r]) ([r] ++ before.take (min before.length 2)) := by
  obtain ⟨h1, h2⟩ := hb
  refine ⟨by simp; omega, fun i hi => ?_⟩
  simp only [List.length_append, List.length_singleton, List.length_take] at hi ⊢
  rw [row_app]
  cases i with
  | zero => simp
  | succ i =>
    rw [if_neg (by omega), show out.length + 1 - 1 - (i + 1) = out.length - 1 - i by omega, ← h2 i (by omega)]
    simp only [List.singleton_append, List.getElem?_cons_succ, List.getElem?_take]
    rw [if_pos (by omega)]
structure NI (x : MendRound) (most : Int) (now : List (List Int)) : Prop where
  pos : 0 < now.length
  shape : ∀ j, j < now.length → (row now j).length = x.Plan.length
  bd : ∀ j, j < now.length → ∀ v, v < x.Plan.length → 0 ≤ gv now j v ∧ gv now j v ≤ most
  wit : ∀ j, j < now.length → ∀ v, v < x.Plan.length → gv now j v ≤ 0 ∨ ∃ u is, Wk x.Links u (v : Int) is ∧ sB x.Links is = (j : Int) ∧ gv now j v ≤ most - sS x is
structure PD (x : MendRound) (most : Int) (now : List (List Int)) (r : List Int) : Prop where
  len : r.length = x.Plan.length
  bd : ∀ v, v < x.Plan.length → 0 ≤ tm r v ∧ tm r v ≤ most
  wit : ∀ v, v < x.Plan.length → tm r v ≤ 0 ∨ ∃ u is, Wk x.Links u (v : Int) is ∧ sB x.Links is = (now.length : Int) ∧ tm r v ≤ most - sS x is
def hasC (now : List (List Int)) (l : MendLink) : Prop := l.Back = 0 ∨ nd l.Back ≤ now.length
instance (now : List (List Int)) (l : MendLink) : Decidable (hasC now l) := by unfold hasC; exact inferInstance
def cd (x : MendRound) (now : List (List Int)) (l : MendLink) (r : List Int) : Int := (if l.Back = 0 then tm r (nd l.From) else gv now (now.length - nd l.Back) (nd l.From)) - sl x l
def stepD (x : MendRound) (now : List (List Int)) (l : MendLink) (r : List Int) : List Int := if hasC now l ∧ cd x now l r > tm r (nd l.To) then r.set (nd l.To) (cd x now l r) else r
theorem cd_bd (hx : RIn x) (hn : NI x most now) {l : MendLink} (hl : l ∈ x.Links) {r : List Int} (h : PD x most now r) (hc : hasC now l) : -20000 ≤ cd x now l r ∧ cd x now l r ≤ most ∧ (cd x now l r ≤ 0 ∨ ∃ u is, Wk x.Links u (nd l.To : Int) is ∧ sB x.Links is = (now.length : Int) ∧ cd x now l r ≤ most - sS x is) := by
  have ok := hx.ok.links l hl
  have s0 := ok.s0; have s1 := ok.s1; have b0 := ok.b0; have f0 := ok.f0; have t0 := ok.t0
  obtain ⟨i, hi, e2⟩ := List.getElem_of_mem hl
  have hlk : lk x.Links i = l := by rw [lk_get hi, e2]
  have hto : (lk x.Links i).To = (nd l.To : Int) := by rw [hlk]; unfold nd; omega
  unfold cd
  by_cases c : l.Back = 0
  · rw [if_pos c]
    have h1 := h.bd _ ok.nd.1
    refine ⟨by omega, by omega, ?_⟩
    rcases h.wit _ ok.nd.1 with q | ⟨u, is, w, q1, q2⟩
    · left; omega
    · right
      have w2 := w.snoc (i := i) hi (by rw [hlk]; unfold nd; omega)
      rw [hto] at w2
      refine ⟨u, is ++ [i], w2, ?_, ?_⟩
      · rw [sB_app]; simp only [sB, hlk]; omega
      · rw [sS_app]; simp only [sS, hlk]; omega
  · rw [if_neg c]
    have hb : nd l.Back ≤ now.length := hc.resolve_left c
    have hj : now.length - nd l.Back < now.length := by have := hn.pos; unfold nd at hb ⊢; omega
    have h1 := hn.bd _ hj _ ok.nd.1
    refine ⟨by omega, by omega, ?_⟩
    rcases hn.wit _ hj _ ok.nd.1 with q | ⟨u, is, w, q1, q2⟩
    · left; omega
    · right
      have w2 := w.snoc (i := i) hi (by rw [hlk]; unfold nd; omega)
      rw [hto] at w2
      refine ⟨u, is ++ [i], w2, ?_, ?_⟩
      · rw [sB_app]; simp only [sB, hlk]; unfold nd at q1 hb; omega
      · rw [sS_app]; simp only [sS, hlk]; omega
theorem stepD_pd (hx : RIn x) (hn : NI x most now) {l : MendLink} (hl : l ∈ x.Links) {r : List Int} (h : PD x most now r) : PD x most now (stepD x now l r) := by
  have ok := hx.ok.links l hl
  unfold stepD
  split
  · rename_i c
    obtain ⟨c1, c2⟩ := c
    obtain ⟨d1, d2, d3⟩ := cd_bd hx hn hl h c1
    have h0 := (h.bd _ ok.nd.2).1
    have hT : nd l.To < r.length := by rw [h.len]; exact ok.nd.2
    refine ⟨by simpa using h.len, fun v hv => ?_, fun v hv => ?_⟩
    · rw [tm_set hT]; split
      · omega
      · exact h.bd v hv
    · rw [tm_set hT]; split
      · rename_i e
        rw [e]; exact d3
      · exact h.wit v hv
  · exact h
theorem stepD_le {l : MendLink} {r : List Int} (v : Nat) (hT : nd l.To < r.length) : tm r v ≤ tm (stepD x now l r) v := by
  unfold stepD
  split
  · rename_i c
    rw [tm_set hT]; split
    · rename_i e; rw [e]; omega
    · exact Int.le_refl _
  · exact Int.le_refl _
/-- what the first i stages have is done -/
def StD (x : MendRound) (now : List (List Int)) (i : Nat) (r : List Int) : Prop := ∀ l ∈ x.Links, Py x i (nd l.To) → hasC now l → cd x now l r ≤ tm r (nd l.To)
theorem cd_same {l : MendLink} {r r' : List Int} (h : l.Back = 0 → tm r' (nd l.From) = tm r (nd l.From)) : cd x now l r' = cd x now l r := by
  unfold cd
  by_cases c : l.Back = 0
  · rw [if_pos c, if_pos c, h c]
  · rw [if_neg c, if_neg c]
theorem py_from {i : Nat} {l : MendLink} (hl : l ∈ x.Links) (hb : l.Back = 0) (h : Py x i (nd l.To)) : Py x i (nd l.From) := by
  cases i with
  | zero => exact h.elim
  | succ i => exact Py.up x i _ (h l hl hb rfl)
theorem stepD_still (hx : RIn x) {i : Nat} {l : MendLink} (hl : l ∈ x.Links) {r : List Int} (hlen : r.length = x.Plan.length) (h : StD x now i r) : (∀ v, Py x i v → tm (stepD x now l r) v = tm r v) ∧ StD x now i (stepD x now l r) := by
  have ok := hx.ok.links l hl
  have hT : nd l.To < r.length := by rw [hlen]; exact ok.nd.2
  have h1 : ∀ v, Py x i v → tm (stepD x now l r) v = tm r v := by
    intro v hv
    unfold stepD
    split
    · rename_i c
      rw [tm_set hT]
      split
      · rename_i e
        rw [e] at hv
        have := h l hl hv c.1
        have := c.2
        omega
      · rfl
    · rfl
  refine ⟨h1, fun k hk hp hc => ?_⟩
  rw [h1 _ hp, cd_same (fun hb => h1 _ (py_from hk hb hp))]
  exact h k hk hp hc
theorem passD_still (hx : RIn x) (hn : NI x most now) {i : Nat} : ∀ (ls : List MendLink) (r : List Int), (∀ l ∈ ls, l ∈ x.Links) → PD x most now r → StD x now i r →
    (∀ v, Py x i v → tm (pass (stepD x now) ls r) v = tm r v) ∧ (∀ v, tm r v ≤ tm (pass (stepD x now) ls r) v) ∧ StD x now i (pass (stepD x now) ls r) ∧
      ∀ l ∈ ls, Py x (i + 1) (nd l.To) → hasC now l → cd x now l (pass (stepD x now) ls r) ≤ tm (pass (stepD x now) ls r) (nd l.To)
  | [], r, _, _, h => ⟨fun _ _ => rfl, fun _ => Int.le_refl _, h, fun l hl => by cases hl⟩
  | l :: ls, r, hm, hp, h => by
    have hl := hm l (by simp)
    have ok := hx.ok.links l hl
    have hT : nd l.To < r.length := by rw [hp.len]; exact ok.nd.2
    obtain ⟨a1, a2⟩ := stepD_still hx hl hp.len h
    obtain ⟨i1, i2, i3, i4⟩ := passD_still hx hn ls (stepD x now l r) (fun a ha => hm a (by simp [ha])) (stepD_pd hx hn hl hp) a2
    have e : pass (stepD x now) (l :: ls) r = pass (stepD x now) ls (stepD x now l r) := rfl
    rw [e]
    refine ⟨fun v hv => (i1 v hv).trans (a1 v hv), fun v => Int.le_trans (stepD_le v hT) (i2 v), i3, fun k hk hpy hc => ?_⟩
    rcases List.mem_cons.1 hk with rfl | hk'
    · have hfr : k.Back = 0 → tm (pass (stepD x now) ls (stepD x now k r)) (nd k.From) = tm r (nd k.From) := fun hb => (i1 _ (hpy k hl hb rfl)).trans (a1 _ (hpy k hl hb rfl))
      rw [cd_same hfr]
      refine Int.le_trans ?_ (i2 _)
      unfold stepD
      split
      · rw [tm_set hT, if_pos rfl]; exact Int.le_refl _
      · rename_i c
        rcases Int.lt_or_le (tm r (nd k.To)) (cd x now k r) with q | q
        · exact absurd ⟨hc, q⟩ c
        · exact q
    · exact i4 k hk' hpy hc
theorem itD_still (hx : RIn x) (hn : NI x most now) : ∀ (m i : Nat) (r : List Int), PD x most now r → StD x now i r → PD x most now (it (stepD x now) x.Links m r) ∧ StD x now (i + m) (it (stepD x now) x.Links m r)
  | 0, i, r, hp, h => ⟨hp, h⟩
  | m + 1, i, r, hp, h => by
    have hp2 : PD x most now (pass (stepD x now) x.Links r) := pass_inv (fun l hl r hr => stepD_pd hx hn hl hr) r hp
    have h2 := (passD_still hx hn x.Links r (fun _ h => h) hp h).2.2.2
    have := itD_still hx hn m (i + 1) _ hp2 h2
    rw [it, show i + (m + 1) = i + 1 + m by omega]
    exact this
/-- the row behind -/
def nextR (x : MendRound) (now : List (List Int)) : List Int := it (stepD x now) x.Links x.Plan.length (List.replicate x.Plan.length 0)
theorem pd_zero (_ : NI x most now) (h0 : 0 ≤ most) : PD x most now (List.replicate x.Plan.length 0) := by
  have e : ∀ v, v < x.Plan.length → tm (List.replicate x.Plan.length (0 : Int)) v = 0 := by
    intro v hv; unfold tm; rw [List.getElem?_replicate, if_pos hv]; rfl
  exact ⟨by simp, fun v hv => by rw [e v hv]; omega, fun v hv => .inl (by rw [e v hv]; omega)⟩
theorem next_ok (hx : RIn x) (hn : NI x most now) (h0 : 0 ≤ most) : PD x most now (nextR x now) ∧ Stable (stepD x now) x.Links (nextR x now) := by
  obtain ⟨h1, h2⟩ := itD_still hx hn x.Plan.length 0 _ (pd_zero hn h0) (fun l _ h => h.elim)
  refine ⟨h1, fun l hl => ?_⟩
  rw [Nat.zero_add] at h2
  have ok := hx.ok.links l hl
  have hpy := py_all hx.ok hx.zf _ ok.nd.2
  unfold stepD
  rw [if_neg]
  rintro ⟨c1, c2⟩
  have := h2 l hl hpy c1
  exact absurd c2 (by show ¬ cd x now l (nextR x now) > _; unfold nextR; omega)
theorem next_ni (hx : RIn x) (hn : NI x most now) (h0 : 0 ≤ most) : NI x most (now ++ [nextR x now]) := by
  have h := (next_ok hx hn h0).1
  have eg : ∀ j v, gv (now ++ [nextR x now]) j v = if j = now.length then tm (nextR x now) v else gv now j v := by
    intro j v; unfold gv; rw [row_app]; split <;> rfl
  refine ⟨by simp, fun j hj => ?_, fun j hj v hv => ?_, fun j hj v hv => ?_⟩
  · rw [row_app]
    simp only [List.length_append, List.length_singleton] at hj
    split
    · exact h.len
    · exact hn.shape j (by omega)
  · rw [eg]
    simp only [List.length_append, List.length_singleton] at hj
    split
    · exact h.bd v hv
    · exact hn.bd j (by omega) v hv
  · rw [eg]
    simp only [List.length_append, List.length_singleton] at hj
    split
    · rename_i e; rw [e]; exact h.wit v hv
    · exact hn.wit j (by omega) v hv
theorem stepD_ne {l : MendLink} {r : List Int} (hT : nd l.To < r.length) (hc : hasC now l) (h : cd x now l r > tm r (nd l.To)) : stepD x now l r = r.set (nd l.To) (cd x now l r) ∧ stepD x now l r ≠ r := by
  have e : stepD x now l r = r.set (nd l.To) (cd x now l r) := by unfold stepD; rw [if_pos ⟨hc, h⟩]
  refine ⟨e, fun q => ?_⟩
  have : tm (stepD x now l r) (nd l.To) = tm r (nd l.To) := by rw [q]
  rw [e, tm_set hT, if_pos rfl] at this
  omega
/-- the program's pass -/
theorem follow_flags (hx : RIn x) (hn : NI x most now) (hm : most ≤ 28800) {before : List (List Int)} (hb : Bf now before) : Flags (stepD x now) (PD x most now) x.Links (MendRoundfollow.loop2 x before) := by
  intro ls
  induction ls with
  | nil => intro ch g _ _; exact ⟨ch, rfl, fun h => h, fun _ l hl => (by cases hl), fun _ => rfl⟩
  | cons l ls ih =>
    intro ch r hmm h
    have hl := hmm l (by simp)
    have ok := hx.ok.links l hl
    have hlen := h.len
    have f0 := ok.f0; have f1 := ok.f1; have t0 := ok.t0; have t1 := ok.t1; have b0 := ok.b0; have b1 := ok.b1
    have hT : nd l.To < r.length := by rw [h.len]; exact ok.nd.2
    have hsl := (slack_some hx.ok.p0 hx.ok.p1 hx.ok.plan ok.f0 ok.f1 ok.t0 ok.t1 ok.n0 ok.n1 ok.b0 ok.b1).1
    have same : ∀ c : Bool, stepD x now l r = r → ∃ c', MendRoundfollow.loop2 x before ls c r = some (c', pass (stepD x now) ls (stepD x now l r)) ∧ (c = true → c' = true) ∧ (c' = false → Stable (stepD x now) (l :: ls) r) ∧ (Stable (stepD x now) (l :: ls) r → c' = c) := by
      intro c e
      obtain ⟨c', i1, i2, i3, i4⟩ := ih c r (fun a ha => hmm a (by simp [ha])) h
      rw [e]
      refine ⟨c', i1, i2, fun q a ha => ?_, fun q => i4 fun a ha => q a (by simp [ha])⟩
      rcases List.mem_cons.1 ha with rfl | ha
      · exact e
      · exact i3 q a ha
    have tail : hasC now l → ∃ c', (((if decide (cd x now l r > tm r (nd l.To)) = true then ((ix r l.To).bind fun _ => ((sx r l.To (cd x now l r)).bind fun x152 => some (true, x152))) else some (ch, r)) : Option (Bool × (List Int))).bind fun q135 => match q135 with | (q138, q139) => MendRoundfollow.loop2 x before ls q138 q139) = some (c', pass (stepD x now) ls (stepD x now l r)) ∧ (ch = true → c' = true) ∧ (c' = false → Stable (stepD x now) (l :: ls) r) ∧ (Stable (stepD x now) (l :: ls) r → c' = ch) := by
      intro hc
      by_cases c : cd x now l r > tm r (nd l.To)
      · obtain ⟨e, hne⟩ := stepD_ne (x := x) hT hc c
        rw [decide_eq_true c]
        simp only [if_true]
        rw [ix_in t0 (by omega), sx_in t0 (by omega)]
        simp only [Option.bind_some]
        rw [show (l.To).toNat = nd l.To from rfl, ← e]
        obtain ⟨c', i1, i2, i3, i4⟩ := ih true _ (fun a ha => hmm a (by simp [ha])) (stepD_pd hx hn hl h)
        exact ⟨c', i1, fun _ => i2 rfl, fun q => absurd (i2 rfl) (by rw [q]; simp), fun q => absurd (q l (by simp)) hne⟩
      · rw [decide_eq_false c]
        simp only [Bool.false_eq_true, if_false, Option.bind_some]
        exact same ch (by unfold stepD; rw [if_neg (fun q => c q.2)])
    rw [MendRoundfollow.loop2]
    show ∃ c, _ = some (c, pass (stepD x now) ls (stepD x now l r)) ∧ _
    by_cases c0 : l.Back = 0
    · have hc : hasC now l := .inl c0
      have d1 := (cd_bd hx hn hl h hc).1
      have d2 := (cd_bd hx hn hl h hc).2.1
      rw [decide_eq_false (by omega)]
      simp only [Bool.false_eq_true, if_false]
      rw [gx_tm f0 (by omega), hsl, gx_tm t0 (by omega)]
      simp only [Option.bind_some]
      have ec : tm r (nd l.From) - sl x l = cd x now l r := by unfold cd; rw [if_pos c0]
      rw [ec, w64_id (by omega)]
      exact tail hc
    · rw [decide_eq_true (by omega)]
      simp only [if_true]
      obtain ⟨hb1, hb2⟩ := hb
      by_cases c1 : nd l.Back ≤ now.length
      · have hc : hasC now l := .inr c1
        have d1 := (cd_bd hx hn hl h hc).1
        have d2 := (cd_bd hx hn hl h hc).2.1
        have hnb : ((nd l.Back : Nat) : Int) = l.Back := by unfold nd; omega
        rw [decide_eq_false (by omega)]
        simp only [Bool.false_eq_true, if_false]
        rw [w64_id (x := l.Back - 1) (by omega), show l.Back - 1 = ((nd l.Back - 1 : Nat) : Int) by omega, gx_nat, hb2 _ (by omega)]
        simp only [Option.bind_some]
        have hj : now.length - 1 - (nd l.Back - 1) = now.length - nd l.Back := by omega
        rw [hj]
        have hsh := hn.shape (now.length - nd l.Back) (by omega)
        rw [gx_tm f0 (by omega), hsl, gx_tm t0 (by omega)]
        simp only [Option.bind_some]
        have ec : tm (row now (now.length - nd l.Back)) (nd l.From) - sl x l = cd x now l r := by unfold cd; rw [if_neg c0]; rfl
        rw [ec, w64_id (by omega)]
        exact tail hc
      · rw [decide_eq_true (by unfold nd at c1; omega)]
        simp only [if_true]
        exact same ch (by
          unfold stepD
          rw [if_neg]
          rintro ⟨q, _⟩
          rcases q with q | q
          · exact c0 q
          · exact c1 q)
theorem follow_run (hx : RIn x) (hn : NI x most now) (h0 : 0 ≤ most) (hm : most ≤ 28800) {before : List (List Int)} (hb : Bf now before) {fu : Nat} (hf : 60 ≤ fu) : MendRoundfollow fu x (List.replicate x.Plan.length 0) before = some (nextR x now) := by
  have n8 := hx.ok.n1
  unfold MendRoundfollow
  rw [clone_ints _ (by simp; omega)]
  simp only [Option.bind_some]
  have hrun := again_run (follow_flags hx hn hm hb) (fun l hl r hr => stepD_pd hx hn hl hr) (MendRoundfollow.loop1 x before) (fun m r => rfl)
    (fun m r => by rw [MendRoundfollow.loop1]; simp only [if_true]) x.Plan.length _ (pd_zero hn h0) (next_ok hx hn h0).2 fu (by omega)
  rw [hrun]
  rfl
theorem mx_set {r : List Int} {u : Nat} {c : Int} : r.set u (mx (tm r u) c) = if c > tm r u then r.set u c else r := by
  obtain ⟨m1, m2, m3⟩ := mx_le (tm r u) c
  by_cases h : c > tm r u
  · rw [if_pos h]
    rcases m3 with m3 | m3
    · omega
    · rw [m3]
  · rw [if_neg h]
    have : mx (tm r u) c = tm r u := by omega
    rw [this, set_tm]
/-- the reference's pass -/
theorem ref_pass (hx : RIn x) (hn : NI x most now) (hm : most ≤ 28800) (hk : now.length ≤ 1000000) : ∀ (ls : List MendLink) (r : List Int), (∀ l ∈ ls, l ∈ x.Links) → PD x most now r → Fishref2SettlesOf.loop4 x now (now.length : Int) ls r = some (pass (stepD x now) ls r)
  | [], r, _, _ => rfl
  | l :: ls, r, hmm, h => by
    have hl := hmm l (by simp)
    have ok := hx.ok.links l hl
    have hlen := h.len
    have f0 := ok.f0; have f1 := ok.f1; have t0 := ok.t0; have t1 := ok.t1; have b0 := ok.b0; have b1 := ok.b1
    have hsl := (slack_some hx.ok.p0 hx.ok.p1 hx.ok.plan ok.f0 ok.f1 ok.t0 ok.t1 ok.n0 ok.n1 ok.b0 ok.b1).1
    have ih := ref_pass hx hn hm hk ls (stepD x now l r) (fun a ha => hmm a (by simp [ha])) (stepD_pd hx hn hl h)
    rw [Fishref2SettlesOf.loop4]
    show _ = some (pass (stepD x now) ls (stepD x now l r))
    by_cases c0 : l.Back = 0
    · have hc : hasC now l := .inl c0
      have d1 := (cd_bd hx hn hl h hc).1
      have d2 := (cd_bd hx hn hl h hc).2.1
      rw [if_pos (by simpa using c0), gx_tm t0 (by omega), gx_tm f0 (by omega)]
      simp only [Option.bind_some]
      rw [slack_eq, hsl]
      simp only [Option.bind_some]
      have ec : tm r (nd l.From) - sl x l = cd x now l r := by unfold cd; rw [if_pos c0]
      rw [ec, w64_id (by omega), ix_in t0 (by omega), sx_in t0 (by omega)]
      simp only [Option.bind_some]
      rw [show (l.To).toNat = nd l.To from rfl, mx_set]
      rw [← ih]
      congr 1
      unfold stepD
      by_cases q : cd x now l r > tm r (nd l.To)
      · rw [if_pos q, if_pos ⟨hc, q⟩]
      · rw [if_neg q, if_neg (fun z => q z.2)]
    · rw [if_neg (by simpa using c0)]
      by_cases c1 : nd l.Back ≤ now.length
      · have hc : hasC now l := .inr c1
        have d1 := (cd_bd hx hn hl h hc).1
        have d2 := (cd_bd hx hn hl h hc).2.1
        have hnb : ((nd l.Back : Nat) : Int) = l.Back := by unfold nd; omega
        rw [decide_eq_true (by omega)]
        simp only [if_true]
        rw [gx_tm t0 (by omega)]
        simp only [Option.bind_some]
        rw [w64_id (x := ((now.length : Nat) : Int) - l.Back) (by omega), show ((now.length : Nat) : Int) - l.Back = ((now.length - nd l.Back : Nat) : Int) by omega, gx_rowN (by omega)]
        simp only [Option.bind_some]
        have hsh := hn.shape (now.length - nd l.Back) (by omega)
        rw [gx_tm f0 (by omega)]
        simp only [Option.bind_some]
        rw [slack_eq, hsl]
        simp only [Option.bind_some]
        have ec : tm (row now (now.length - nd l.Back)) (nd l.From) - sl x l = cd x now l r := by unfold cd; rw [if_neg c0]; rfl
        rw [ec, w64_id (by omega), ix_in t0 (by omega), sx_in t0 (by omega)]
        simp only [Option.bind_some]
        rw [show (l.To).toNat = nd l.To from rfl, mx_set]
        rw [← ih]
        congr 1
        unfold stepD
        by_cases q : cd x now l r > tm r (nd l.To)
        · rw [if_pos q, if_pos ⟨hc, q⟩]
        · rw [if_neg q, if_neg (fun z => q z.2)]
      · rw [decide_eq_false (by unfold nd at c1; omega)]
        simp only [Bool.false_eq_true, if_false, Option.bind_some]
        rw [← ih]
        congr 1
        unfold stepD
        rw [if_neg]
        rintro ⟨q, _⟩
        rcases q with q | q
        · exact c0 q
        · exact c1 q
theorem ref_rounds (hx : RIn x) (hn : NI x most now) (hm : most ≤ 28800) (hk : now.length ≤ 1000000) : ∀ (m : Nat) (c : Nat) (r : List Int) (fu : Nat), c + m = x.Plan.length + 1 → m < fu → PD x most now r →
    ∃ q, Fishref2SettlesOf.loop3 x now (now.length : Int) fu (c : Int) r = some (q, it (stepD x now) x.Links m r)
  | 0, c, r, fu, h, hf, hp => by
    have n8 := hx.ok.n1
    obtain ⟨fu, rfl⟩ : ∃ f, fu = f + 1 := ⟨fu - 1, by omega⟩
    rw [Fishref2SettlesOf.loop3, w64_id (by omega), decide_eq_false (by omega)]
    exact ⟨_, rfl⟩
  | m + 1, c, r, fu, h, hf, hp => by
    have n8 := hx.ok.n1
    obtain ⟨fu, rfl⟩ : ∃ f, fu = f + 1 := ⟨fu - 1, by omega⟩
    rw [Fishref2SettlesOf.loop3, w64_id (x := ((x.Plan.length : Nat) : Int) + 1) (by omega), decide_eq_true (by omega)]
    simp only [if_true]
    rw [ref_pass hx hn hm hk x.Links r (fun _ h => h) hp]
    simp only [Option.bind_some]
    rw [w64_id (by omega), show ((c : Nat) : Int) + 1 = ((c + 1 : Nat) : Int) by omega]
    exact ref_rounds hx hn hm hk m (c + 1) _ fu (by omega) (by omega) (pass_inv (fun l hl r hr => stepD_pd hx hn hl hr) r hp)
theorem ref_next (hx : RIn x) (hn : NI x most now) (h0 : 0 ≤ most) (hm : most ≤ 28800) (hk : now.length ≤ 1000000) {fu : Nat} (hf : 60 ≤ fu) : ∃ q, Fishref2SettlesOf.loop3 x now (now.length : Int) fu 0 (List.replicate x.Plan.length 0) = some (q, nextR x now) := by
  have n8 := hx.ok.n1
  obtain ⟨q, h⟩ := ref_rounds hx hn hm hk (x.Plan.length + 1) 0 _ fu (by omega) (by omega) (pd_zero hn h0)
  refine ⟨q, ?_⟩
  have h' : Fishref2SettlesOf.loop3 x now (now.length : Int) fu 0 (List.replicate x.Plan.length 0) = some (q, it (stepD x now) x.Links (x.Plan.length + 1) (List.replicate x.Plan.length 0)) := h
  have hst := pass_stable (next_ok hx hn h0).2
  unfold nextR at hst ⊢
  rw [h', it_succ, hst]
/-! they die down -/
theorem RIn.tele (hx : RIn x) : ∀ (is : List Nat) (a b : Int), Wk x.Links a b is → Fp.sS x is = tm x.Plan (nd b) - tm x.Plan (nd a) + sB x.Links is * x.Period - sL x.Links is
  | [], a, b, w => by cases w; simp [Fp.sS, sB, sL]
  | i :: is, a, b, w => by
    have ih := hx.tele is _ _ w.2.2
    simp only [Fp.sS, sB, sL, ih, sl, w.2.1, Int.add_mul]
    omega
/-- each closed way has slack -/
def Hc (x : MendRound) : Prop := ∀ (v : Int) (is : List Nat), is ≠ [] → Wk x.Links v v is → 1 ≤ sS x is
theorem hc_none (h : ∀ r, ¬ Rng x.Links r) : Hc x := by
  intro v is hne w
  obtain ⟨r, hr⟩ := (closed_rings (L := x.Links) (A := 0) (B := 0) (fun r _ => by simp) is.length v is (Nat.le_refl _) hne w).2
  exact absurd hr (h r)
theorem hc_ring (hx : RIn x) {A B : Int} (hB : 0 < B) (h : ∀ r, Rng x.Links r → sL x.Links r * B ≤ A * sB x.Links r) (hs : A < B * x.Period) : Hc x := by
  intro v is hne w
  have h1 := (closed_rings h is.length v is (Nat.le_refl _) hne w).1
  have h2 := hx.pos w hne
  have h3 := hx.tele is v v w
  have h4 : A * sB x.Links is < B * x.Period * sB x.Links is := Int.mul_lt_mul_of_pos_right hs h2
  have h5 : B * x.Period * sB x.Links is = sB x.Links is * x.Period * B := by
    rw [Int.mul_comm B x.Period, Int.mul_assoc, Int.mul_comm B, ← Int.mul_assoc, Int.mul_comm x.Period]
  have h6 : sL x.Links is * B < sB x.Links is * x.Period * B := by omega
  have h7 := Int.lt_of_mul_lt_mul_right h6 (by omega)
  omega
theorem drain (hx : RIn x) (hc : Hc x) : ∀ (m : Nat) (is : List Nat) (a b : Int), 0 ≤ b ∧ b < x.Plan.length → Wk x.Links a b is → x.Plan.length * m ≤ is.length → (m : Int) ≤ sS x is
  | 0, is, a, b, _, w, _ => (hx.sS w).1
  | m + 1, is, a, b, hb, w, hl => by
    rw [Nat.mul_add, Nat.mul_one] at hl
    have hle : x.Plan.length ≤ is.length := by omega
    obtain ⟨w1, w2⟩ := vts_split w (i := x.Plan.length) hle
    have hu := hx.vts w hb _ (List.getElem_mem (l := Fp.vts x.Links is b) (n := x.Plan.length) (by simp [Fp.vts, src]; omega))
    have htl : (is.take x.Plan.length).length = x.Plan.length := by simp; omega
    obtain ⟨i, j, v, hij, hj, k1, k2, k3, e⟩ := hx.twice w1 hu (by omega)
    have hne : ((is.take x.Plan.length).drop i).take (j - i) ≠ [] := by
      intro q
      have : (((is.take x.Plan.length).drop i).take (j - i)).length = 0 := by rw [q]; rfl
      simp at this
      omega
    have h1 := hc v _ hne k2
    have h2 := (hx.sS k1).1
    have h3 := (hx.sS k3).1
    have ih := drain hx hc m (is.drop x.Plan.length) _ b hb w2 (by simp; omega)
    have e2 : sS x is = sS x (is.take x.Plan.length) + sS x (is.drop x.Plan.length) := by rw [← sS_app, List.take_append_drop]
    have e3 : sS x (is.take x.Plan.length) = sS x ((is.take x.Plan.length).take i) + (sS x (((is.take x.Plan.length).drop i).take (j - i)) + sS x ((is.take x.Plan.length).drop j)) := by
      conv => lhs; rw [e]
      rw [sS_app, sS_app]
    omega
theorem late_zero (hx : RIn x) (hc : Hc x) (hm : most ≤ 28800) (hn : NI x most now) {j : Nat} (hj : j < now.length) (hl : 700000 ≤ j) {v : Nat} (hv : v < x.Plan.length) : gv now j v = 0 := by
  have n8 := hx.ok.n1
  have h0 := (hn.bd j hj v hv).1
  rcases hn.wit j hj v hv with q | ⟨u, is, w, q1, q2⟩
  · omega
  · obtain ⟨s1, s2, s3, s4⟩ := hx.sums w
    have hlen : x.Plan.length * 28800 ≤ is.length := by omega
    have := drain hx hc 28800 is u v (by omega) w hlen
    omega
end
/-! the greatest of a list -/
theorem max_loop (l : List Int) (hl : l.length ≤ 1000000) (s : Int) : ∀ (fu : Nat) (k : Nat) (m : Int), k ≤ l.length → l.length - k < fu → ∃ z q, SlicesMaxLint.loop1 l fu m ((k : Nat) : Int) = some (z, q) ∧ (z ≤ s ↔ m ≤ s ∧ ∀ v ∈ l.drop k, v ≤ s)
  | 0, _, _, _, h => absurd h (by omega)
  | fu + 1, k, m, hk, hf => by
    rw [SlicesMaxLint.loop1]
    by_cases h : k < l.length
    · have hc : ((k : Nat) : Int) < ((l.length : Nat) : Int) := by omega
      simp only [hc, decide_true, if_true, gx_at h, Option.bind_some]
      rw [w64_id (by omega)]
      have e : ((k : Int) + 1) = ((k + 1 : Nat) : Int) := by omega
      rw [e]
      obtain ⟨z, q, h1, h2⟩ := max_loop l hl s fu (k + 1) (mx m l[k]) (by omega) (by omega)
      refine ⟨z, q, h1, ?_⟩
      rw [h2, List.drop_eq_getElem_cons h]
      unfold mx
      constructor
      · rintro ⟨h3, h4⟩
        refine ⟨by split at h3 <;> omega, fun v hv => ?_⟩
        rcases List.mem_cons.1 hv with rfl | hv
        · split at h3 <;> omega
        · exact h4 v hv
      · rintro ⟨h3, h4⟩
        refine ⟨?_, fun v hv => h4 v (List.mem_cons_of_mem _ hv)⟩
        have := h4 l[k] List.mem_cons_self
        split <;> omega
    · have hc : ¬ ((k : Nat) : Int) < ((l.length : Nat) : Int) := by omega
      simp only [hc, decide_false, Bool.false_eq_true, if_false]
      refine ⟨m, _, rfl, ?_⟩
      have : l.drop k = [] := List.drop_eq_nil_iff.2 (by omega)
      simp [this]
theorem max_ok {fu : Nat} (l : List Int) (h0 : 0 < l.length) (hl : l.length ≤ 1000000) (hf : l.length ≤ fu) (s : Int) : ∃ z, SlicesMaxLint fu l = some z ∧ (z ≤ s ↔ ∀ v ∈ l, v ≤ s) := by
  unfold SlicesMaxLint
  have hn : ¬ ((l.length : Nat) : Int) < 1 := by omega
  simp only [hn, decide_false, Bool.false_eq_true, if_false]
  rw [gx_zero, List.getElem?_eq_getElem h0]
  simp only [Option.bind_some]
  obtain ⟨z, q, h1, h2⟩ := max_loop l hl s fu 1 l[0] (by omega) (by omega)
  have h1' : SlicesMaxLint.loop1 l fu l[0] 1 = some (z, q) := h1
  rw [h1']
  refine ⟨z, rfl, ?_⟩
  rw [h2]
  constructor
  · rintro ⟨h3, h4⟩ v hv
    have e : l = l[0] :: l.drop 1 := by rw [← List.drop_eq_getElem_cons h0]; rfl
    rw [e] at hv
    rcases List.mem_cons.1 hv with h | h
    · omega
    · exact h4 v h
  · intro h; exact ⟨h _ (List.getElem_mem h0), fun v hv => h v (List.mem_of_mem_drop hv)⟩
theorem seq_self (l : List Int) : SlicesEqualLint l l = some true := by
  unfold SlicesEqualLint
  have key : ∀ (m : List Int) (k : Nat), l.drop k = m → SlicesEqualLint.loop1 l m k = some (.next ()) := by
    intro m
    induction m with
    | nil => intro k _; rfl
    | cons a m ih =>
      intro k h
      have hk : k < l.length := by
        rcases Nat.lt_or_ge k l.length with e | e
        · exact e
        · rw [List.drop_eq_nil_of_le e] at h; cases h
      rw [List.drop_eq_getElem_cons hk] at h
      injection h with h1 h2
      rw [SlicesEqualLint.loop1, gx_at hk, h1]
      simp only [Option.bind_some, bne_self_eq_false, Bool.false_eq_true, if_false]
      exact ih _ h2
  rw [key l 0 rfl]
  simp
theorem lists_self (g : List (List Int)) : Fishlaw2lists g g = some true := by
  unfold Fishlaw2lists SlicesEqualFuncLLint_v1
  have key : ∀ (m : List (List Int)) (k : Nat), g.drop k = m → SlicesEqualFuncLLint_v1.loop1 g m k = some (.next ()) := by
    intro m
    induction m with
    | nil => intro k _; rfl
    | cons a m ih =>
      intro k h
      have hk : k < g.length := by
        rcases Nat.lt_or_ge k g.length with e | e
        · exact e
        · rw [List.drop_eq_nil_of_le e] at h; cases h
      rw [List.drop_eq_getElem_cons hk] at h
      injection h with h1 h2
      rw [SlicesEqualFuncLLint_v1.loop1, gx_at hk, h1]
      simp only [Option.bind_some, seq_self, Bool.not_true, Bool.false_eq_true, if_false]
      exact ih _ h2
  rw [key g 0 rfl]
  simp
theorem rounds_true (n : Nat) : Fishlaw2rounds (n + 60) = some true := by kernel_rfl
theorem repX (m : Nat) (a : Int) (k : Nat) (h : k ≤ 8) : SlicesRepeatLint (m + 60) [a] ((k : Nat) : Int) = some (List.replicate k a) := by
  have h0 : SlicesRepeatLint (m + 60) [a] 0 = some (List.replicate 0 a) := by kernel_rfl
  have h1 : SlicesRepeatLint (m + 60) [a] 1 = some (List.replicate 1 a) := by kernel_rfl
  have h2 : SlicesRepeatLint (m + 60) [a] 2 = some (List.replicate 2 a) := by kernel_rfl
  have h3 : SlicesRepeatLint (m + 60) [a] 3 = some (List.replicate 3 a) := by kernel_rfl
  have h4 : SlicesRepeatLint (m + 60) [a] 4 = some (List.replicate 4 a) := by kernel_rfl
  have h5 : SlicesRepeatLint (m + 60) [a] 5 = some (List.replicate 5 a) := by kernel_rfl
  have h6 : SlicesRepeatLint (m + 60) [a] 6 = some (List.replicate 6 a) := by kernel_rfl
  have h7 : SlicesRepeatLint (m + 60) [a] 7 = some (List.replicate 7 a) := by kernel_rfl
  have h8 : SlicesRepeatLint (m + 60) [a] 8 = some (List.replicate 8 a) := by kernel_rfl
  have hc : k = 0 ∨ k = 1 ∨ k = 2 ∨ k = 3 ∨ k = 4 ∨ k = 5 ∨ k = 6 ∨ k = 7 ∨ k = 8 := by omega
  rcases hc with rfl | rfl | rfl | rfl | rfl | rfl | rfl | rfl | rfl
  · exact h0
  · exact h1
  · exact h2
  · exact h3
  · exact h4
  · exact h5
  · exact h6
  · exact h7
  · exact h8
theorem gr_loop : ∀ (l : List Int) (q : Int), Mendgreatestint.loop1 l q > 0 ↔ q > 0 ∨ ∃ a ∈ l, a > 0
  | [], q => by simp [Mendgreatestint.loop1]
  | a :: l, q => by
    rw [Mendgreatestint.loop1, gr_loop l]
    obtain ⟨m1, m2, m3⟩ := mx_le q a
    constructor
    · rintro (h | ⟨b, hb, h⟩)
      · rcases m3 with m3 | m3
        · exact .inl (by omega)
        · exact .inr ⟨a, by simp, by omega⟩
      · exact .inr ⟨b, by simp [hb], h⟩
    · rintro (h | ⟨b, hb, h⟩)
      · exact .inl (by omega)
      · rcases List.mem_cons.1 hb with rfl | hb
        · exact .inl (by omega)
        · exact .inr ⟨b, hb, h⟩
theorem gr_pos (l : List Int) : Mendgreatestint 0 l > 0 ↔ ∃ v, v < l.length ∧ 0 < tm l v := by
  unfold Mendgreatestint
  simp only [bnd]
  rw [gr_loop]
  constructor
  · rintro (h | ⟨a, ha, h⟩)
    · omega
    · obtain ⟨i, hi, e⟩ := List.getElem_of_mem ha
      exact ⟨i, hi, by rw [tm_get hi, e]; exact h⟩
  · rintro ⟨v, hv, h⟩
    exact .inr ⟨l[v], List.getElem_mem hv, by rw [← tm_get hv]; exact h⟩
theorem max_zero {fu : Nat} {l : List Int} (h0 : 0 < l.length) (h8 : l.length ≤ 8) (hf : 60 ≤ fu) (hn : ∀ v, v < l.length → 0 ≤ tm l v) : ∃ z, SlicesMaxLint fu l = some z ∧ ((z == 0) = true ↔ ∀ v, v < l.length → tm l v = 0) := by
  obtain ⟨z, e1, e2⟩ := max_ok (fu := fu) l h0 (by omega) (by omega) 0
  obtain ⟨z', e3, e4⟩ := max_ok (fu := fu) l h0 (by omega) (by omega) (-1)
  have : z' = z := by rw [e1] at e3; injection e3 with h; exact h.symm
  subst this
  have hz : 0 ≤ z' := by
    rcases Int.lt_or_le z' 0 with c | c
    · have h1 := e4.1 (by omega) l[0] (List.getElem_mem h0)
      have h2 := hn 0 h0
      rw [tm_get h0] at h2
      omega
    · exact c
  refine ⟨z', e1, ?_⟩
  rw [beq_iff_eq]
  constructor
  · intro h v hv
    have h1 := e2.1 (by omega) l[v] (List.getElem_mem hv)
    have h2 := hn v hv
    rw [tm_get hv] at h2 ⊢
    omega
  · intro h
    have : z' ≤ 0 := e2.2 (fun a ha => by
      obtain ⟨i, hi, e⟩ := List.getElem_of_mem ha
      have := h i hi
      rw [tm_get hi, e] at this
      omega)
    omega
section
variable {x : MendRound} {most : Int}
theorem quiet_loop (hx : RIn x) {fu : Nat} (hf : 60 ≤ fu) {now : List (List Int)} (hn : NI x most now) (hk : now.length ≤ 1000000) {last : Nat} (hp : ∃ v, v < x.Plan.length ∧ 0 < gv now last v) : ∀ (m q fuel : Nat), last + m < now.length → q ≤ 1000000 - m → m ≤ 1000000 → (∀ j, last < j → j ≤ last + m → ∀ v, v < x.Plan.length → gv now j v = 0) → m < fuel →
    Fishref2SettlesOf.loop5 fu now fuel ((q : Nat) : Int) ((last + m : Nat) : Int) = some (((q + m : Nat) : Int), ((last : Nat) : Int))
  | 0, q, fuel, hl, hq, hm, hz, hfu => by
    have n8 := hx.ok.n1
    have n1 := hx.ok.n0
    obtain ⟨fuel, rfl⟩ : ∃ f, fuel = f + 1 := ⟨fuel - 1, by omega⟩
    have hsh := hn.shape last (by omega)
    obtain ⟨z, e1, e2⟩ := max_zero (fu := fu) (l := row now last) (by omega) (by omega) hf (fun v hv => (hn.bd last (by omega) v (by omega)).1)
    rw [Fishref2SettlesOf.loop5, decide_eq_true (by omega), Nat.add_zero, Nat.add_zero]
    simp only [if_true]
    rw [gx_rowN (by omega)]
    simp only [Option.bind_some]
    rw [e1]
    simp only [Option.bind_some]
    obtain ⟨v, hv, hpv⟩ := hp
    have : (z == 0) = false := by
      rw [← Bool.not_eq_true]
      intro h
      have := e2.1 h v (by omega)
      unfold gv at hpv; omega
    rw [this]
    simp
  | m + 1, q, fuel, hl, hq, hm, hz, hfu => by
    have n8 := hx.ok.n1
    have n1 := hx.ok.n0
    obtain ⟨fuel, rfl⟩ : ∃ f, fuel = f + 1 := ⟨fuel - 1, by omega⟩
    have hsh := hn.shape (last + (m + 1)) (by omega)
    obtain ⟨z, e1, e2⟩ := max_zero (fu := fu) (l := row now (last + (m + 1))) (by omega) (by omega) hf (fun v hv => (hn.bd (last + (m + 1)) (by omega) v (by omega)).1)
    rw [Fishref2SettlesOf.loop5, decide_eq_true (by omega)]
    simp only [if_true]
    rw [gx_rowN (by omega)]
    simp only [Option.bind_some]
    rw [e1]
    simp only [Option.bind_some]
    have : (z == 0) = true := e2.2 fun v hv => hz (last + (m + 1)) (by omega) (Nat.le_refl _) v (by omega)
    rw [this]
    simp only [if_true]
    rw [w64_id (x := ((q : Nat) : Int) + 1) (by omega), w64_id (by omega), show ((q : Nat) : Int) + 1 = ((q + 1 : Nat) : Int) by omega, show ((last + (m + 1) : Nat) : Int) - 1 = ((last + m : Nat) : Int) by omega]
    rw [quiet_loop hx hf hn hk hp m (q + 1) fuel (by omega) (by omega) (by omega) (fun j h1 h2 => hz j h1 (by omega)) (by omega)]
    congr 2
    omega
theorem settle_loop (hx : RIn x) (hc : Hc x) (h0 : 0 ≤ most) (hm : most ≤ 28800) {fu : Nat} (hf : 1000000 ≤ fu) : ∀ (N : Nat) (now before : List (List Int)) (last fp fr : Nat), NI x most now → Bf now before → last < now.length → (∃ v, v < x.Plan.length ∧ 0 < gv now last v) →
    (∀ j, last < j → j < now.length → ∀ v, v < x.Plan.length → gv now j v = 0) → now.length ≤ last + 3 → 700010 ≤ now.length + N → N + 2 ≤ fp → N + 2 ≤ fr →
    ∃ b' r k', MendSettles.loop1 x fu fp before (last : Int) (now.length : Int) = some (b', r, k') ∧ 0 ≤ r ∧ r ≤ 700000 ∧ Fishref2SettlesOf.loop1 x fu fr now (now.length : Int) = some (.ret (r + 1, true)) := by
  intro N
  induction N with
  | zero =>
    intro now before last fp fr hn hb hl hp hz hle hN hfp hfr
    obtain ⟨v, hv, hpv⟩ := hp
    have := late_zero hx hc hm hn hl (by omega) hv
    omega
  | succ N ih =>
    intro now before last fp fr hn hb hl hp hz hle hN hfp hfr
    have n8 := hx.ok.n1
    have n1 := hx.ok.n0
    have hlast : last < 700000 := by
      rcases Nat.lt_or_ge last 700000 with c | c
      · exact c
      · obtain ⟨v, hv, hpv⟩ := hp
        have := late_zero hx hc hm hn hl c hv
        omega
    obtain ⟨fp, rfl⟩ : ∃ f, fp = f + 1 := ⟨fp - 1, by omega⟩
    obtain ⟨fr, rfl⟩ : ∃ f, fr = f + 1 := ⟨fr - 1, by omega⟩
    have hn2 := next_ni hx hn h0
    have hb2 := bf_next (r := nextR x now) hb
    have hlen2 : (now ++ [nextR x now]).length = now.length + 1 := by simp
    have eg : ∀ j v, gv (now ++ [nextR x now]) j v = if j = now.length then tm (nextR x now) v else gv now j v := by
      intro j v; unfold gv; rw [row_app]; split <;> rfl
    have hpd := (next_ok hx hn h0).1
    obtain ⟨q0, hq0⟩ := ref_next hx hn h0 hm (by omega) (fu := fu) (by omega)
    rw [MendSettles.loop1, Fishref2SettlesOf.loop1]
    rw [w64_id (x := ((last : Nat) : Int) + 3) (by omega), decide_eq_true (by omega)]
    simp only [if_true]
    rw [mks_in (by omega)]
    simp only [Option.bind_some]
    rw [follow_run hx hn h0 hm hb (fu := fu) (by omega), hq0]
    simp only [Option.bind_some, bnd]
    have hbl := hb.1
    rw [show mn ((before.length : Nat) : Int) 2 = ((min before.length 2 : Nat) : Int) by unfold mn; split <;> omega, cutl_in (by omega) (by omega) (by omega)]
    simp only [Option.bind_some]
    rw [apd_lt (by simp; omega), apd_lt (by simp; omega)]
    simp only [Option.bind_some]
    have etk : [nextR x now] ++ List.drop ((0 : Int)).toNat (List.take (((min before.length 2 : Nat) : Int)).toNat before) = [nextR x now] ++ before.take (min before.length 2) := by
      rw [show (((min before.length 2 : Nat) : Int)).toNat = min before.length 2 by omega]; rfl
    rw [etk]
    rw [hlen2, w64_id (x := ((now.length : Nat) : Int) + 1) (by omega), show ((now.length : Nat) : Int) + 1 = ((now.length + 1 : Nat) : Int) by omega]
    rw [w64_id (x := ((now.length + 1 : Nat) : Int) - 1) (by omega), show ((now.length + 1 : Nat) : Int) - 1 = ((now.length : Nat) : Int) by omega]
    -- the last late period from here on
    have key : ∀ last' : Nat, (if decide (Mendgreatestint 0 (nextR x now) > 0) = true then ((now.length : Nat) : Int) else ((last : Nat) : Int)) = ((last' : Nat) : Int) → last' < now.length + 1 → now.length ≤ last' + 3 → (∃ v, v < x.Plan.length ∧ 0 < gv (now ++ [nextR x now]) last' v) →
        (∀ j, last' < j → j < now.length + 1 → ∀ v, v < x.Plan.length → gv (now ++ [nextR x now]) j v = 0) → last' < 700000 →
        ∃ b' r k', MendSettles.loop1 x fu fp ([nextR x now] ++ before.take (min before.length 2)) (if decide (Mendgreatestint 0 (nextR x now) > 0) = true then ((now.length : Nat) : Int) else ((last : Nat) : Int)) ((now.length + 1 : Nat) : Int) = some (b', r, k') ∧ 0 ≤ r ∧ r ≤ 700000 ∧
          ((Fishref2SettlesOf.loop5 fu (now ++ [nextR x now]) fu 0 ((now.length : Nat) : Int)).bind fun q266 => match q266 with | (q271, _) => if (if decide (q271 ≥ 3) = true then true else q271 == ((now.length + 1 : Nat) : Int)) = true then some (.ret (w64 (((now.length + 1 : Nat) : Int) - q271), true)) else Fishref2SettlesOf.loop1 x fu fr (now ++ [nextR x now]) ((now.length + 1 : Nat) : Int)) = some (.ret (r + 1, true)) := by
      intro last' e1 l1 l2 l3 l4 l5
      rw [e1]
      have hql := quiet_loop hx (fu := fu) (by omega) hn2 (by omega) l3 (now.length - last') 0 fu (by omega) (by omega) (by omega) (fun j h1 h2 => l4 j h1 (by omega)) (by omega)
      rw [show last' + (now.length - last') = now.length by omega] at hql
      have hql' : Fishref2SettlesOf.loop5 fu (now ++ [nextR x now]) fu 0 ((now.length : Nat) : Int) = some (((0 + (now.length - last') : Nat) : Int), ((last' : Nat) : Int)) := hql
      rw [hql']
      simp only [Option.bind_some, Nat.zero_add]
      by_cases c : now.length + 1 ≤ last' + 3
      · rw [decide_eq_false (by omega)]
        have hb3 : ((((now.length - last' : Nat) : Int)) == ((now.length + 1 : Nat) : Int)) = false := beq_eq_false_iff_ne.2 (by omega)
        simp only [Bool.false_eq_true, if_false, hb3]
        have := ih (now ++ [nextR x now]) ([nextR x now] ++ before.take (min before.length 2)) last' fp fr hn2 hb2 (by omega) l3 (by rw [hlen2]; exact l4) (by omega) (by omega) (by omega) (by omega)
        rw [hlen2] at this
        exact this
      · rw [decide_eq_true (by omega)]
        simp only [if_true]
        obtain ⟨fp, rfl⟩ : ∃ f, fp = f + 1 := ⟨fp - 1, by omega⟩
        rw [MendSettles.loop1, w64_id (x := ((last' : Nat) : Int) + 3) (by omega), decide_eq_false (by omega)]
        simp only [Bool.false_eq_true, if_false]
        refine ⟨_, _, _, rfl, by omega, by omega, ?_⟩
        rw [w64_id (by omega)]
        congr 3
        omega
    by_cases g : Mendgreatestint 0 (nextR x now) > 0
    · obtain ⟨v, hv, hpv⟩ := (gr_pos _).1 g
      rw [hpd.len] at hv
      have hl2 : now.length < 700000 := by
        rcases Nat.lt_or_ge now.length 700000 with c | c
        · exact c
        · have := late_zero hx hc hm hn2 (j := now.length) (by omega) c hv
          rw [eg, if_pos rfl] at this
          omega
      exact key now.length (by rw [decide_eq_true g]; rfl) (by omega) (by omega) ⟨v, hv, by rw [eg, if_pos rfl]; exact hpv⟩ (fun j h1 h2 => by omega) hl2
    · have hzero : ∀ v, v < x.Plan.length → tm (nextR x now) v = 0 := by
        intro v hv
        have h1 := (hpd.bd v hv).1
        rcases Int.lt_or_le 0 (tm (nextR x now) v) with c | c
        · exact absurd ((gr_pos _).2 ⟨v, by rw [hpd.len]; exact hv, c⟩) g
        · omega
      refine key last (by rw [decide_eq_false g]; rfl) (by omega) hle ?_ (fun j h1 h2 v hv => ?_) hlast
      · obtain ⟨v, hv, hpv⟩ := hp
        exact ⟨v, hv, by rw [eg, if_neg (by omega)]; exact hpv⟩
      · rw [eg]
        split
        · exact hzero v hv
        · exact hz j h1 (by omega) v hv
theorem first_ni (h0 : 0 ≤ most) : NI x most [List.replicate x.Plan.length most] := by
  have e : ∀ v, v < x.Plan.length → gv [List.replicate x.Plan.length most] 0 v = most := by
    intro v hv
    have : row [List.replicate x.Plan.length most] 0 = List.replicate x.Plan.length most := rfl
    unfold gv tm; rw [this, List.getElem?_replicate, if_pos hv]; rfl
  refine ⟨by simp, fun j hj => ?_, fun j hj v hv => ?_, fun j hj v hv => ?_⟩
  · simp at hj; subst hj
    show (List.replicate x.Plan.length most).length = _
    simp
  · simp at hj; subst hj; rw [e v hv]; omega
  · simp at hj; subst hj; rw [e v hv]
    exact .inr ⟨(v : Int), [], rfl, rfl, by simp [sS]⟩
end
theorem ref_zero {x : MendRound} (hx : RIn x) {fu : Nat} (hf : 1000000 ≤ fu) : Fishref2SettlesOf.loop1 x fu fu [List.replicate x.Plan.length 0] 1 = some (.ret (0, true)) := by
  have n8 := hx.ok.n1
  have n1 := hx.ok.n0
  have hn : NI x 0 [List.replicate x.Plan.length 0] := first_ni (Int.le_refl _)
  obtain ⟨q0, hq0⟩ := ref_next hx hn (Int.le_refl _) (by omega) (by simp) (fu := fu) (by omega)
  have hq0' : Fishref2SettlesOf.loop3 x [List.replicate x.Plan.length 0] 1 fu 0 (List.replicate x.Plan.length 0) = some (q0, nextR x [List.replicate x.Plan.length 0]) := hq0
  have hn2 := next_ni hx hn (Int.le_refl _)
  generalize hG : [List.replicate x.Plan.length (0 : Int)] ++ [nextR x [List.replicate x.Plan.length 0]] = G at hn2
  have hGl : G.length = 2 := by rw [← hG]; rfl
  obtain ⟨fm, rfl⟩ : ∃ f, fu = f + 3 := ⟨fu - 3, by omega⟩
  have row0 : ∀ j, j < 2 → ∃ z, SlicesMaxLint (fm + 3) (row G j) = some z ∧ (z == 0) = true := by
    intro j hj
    have hsh := hn2.shape j (by omega)
    obtain ⟨z, e1, e2⟩ := max_zero (fu := fm + 3) (l := row G j) (by omega) (by omega) (by omega) (fun v hv => (hn2.bd j (by omega) v (by omega)).1)
    exact ⟨z, e1, e2.2 fun v hv => by have := hn2.bd j (by omega) v (by omega); unfold gv at this; omega⟩
  obtain ⟨z0, a1, a2⟩ := row0 0 (by omega)
  obtain ⟨z1, b1, b2⟩ := row0 1 (by omega)
  have h5 : Fishref2SettlesOf.loop5 (fm + 3) G (fm + 3) 0 1 = some (2, -1) := by
    rw [Fishref2SettlesOf.loop5]
    rw [show gx G 1 = some (row G 1) from gx_rowN (k := 1) (by omega)]
    rw [decide_eq_true (by omega)]
    simp only [if_true, Option.bind_some]
    rw [b1]
    simp only [Option.bind_some, b2, if_true]
    rw [w64_id (by omega), w64_id (by omega)]
    show Fishref2SettlesOf.loop5 (fm + 3) G (fm + 2) 1 0 = _
    rw [Fishref2SettlesOf.loop5]
    rw [show gx G 0 = some (row G 0) from gx_rowN (k := 0) (by omega)]
    rw [decide_eq_true (by omega)]
    simp only [if_true, Option.bind_some]
    rw [a1]
    simp only [Option.bind_some, a2, if_true]
    rw [w64_id (by omega), w64_id (by omega)]
    show Fishref2SettlesOf.loop5 (fm + 3) G (fm + 1) 2 (-1) = _
    rw [Fishref2SettlesOf.loop5, decide_eq_false (by omega)]
    simp
  show Fishref2SettlesOf.loop1 x (fm + 3) (fm + 2 + 1) _ 1 = _
  rw [Fishref2SettlesOf.loop1, mks_in (by omega)]
  simp only [Option.bind_some]
  rw [hq0']
  simp only [Option.bind_some]
  rw [apd_lt (by simp), hG]
  simp only [Option.bind_some, hGl, bnd]
  rw [w64_id (x := ((2 : Nat) : Int) - 1) (by omega)]
  rw [show ((2 : Nat) : Int) - 1 = 1 from rfl, h5]
  rfl
theorem ref_some {fu : Nat} {x : MendRound} {y : Int} {z : Int × Int × Bool} {l : List Int} (h1 : Fishref2MeanOf fu x = some z) (h2 : (if decide (y > 0) then (if z.2.2 then decide (z.1 ≥ (w64 (z.2.1 * x.Period))) else false) else false) = false) (h3 : SlicesRepeatLint fu [y] ((x.Plan).length : Int) = some l) {r : Int × Bool} (h4 : Fishref2SettlesOf.loop1 x fu fu [l] 1 = some (.ret r)) : Fishref2SettlesOf fu x y = some r := by
  unfold Fishref2SettlesOf
  rw [h1, Option.bind_some, bnd_eq, h2, if_neg (by simp), h3, Option.bind_some, h4, Option.bind_some]
theorem ref_none {fu : Nat} {x : MendRound} {y : Int} {z : Int × Int × Bool} (h1 : Fishref2MeanOf fu x = some z) (h2 : (if decide (y > 0) then (if z.2.2 then decide (z.1 ≥ (w64 (z.2.1 * x.Period))) else false) else false) = true) : Fishref2SettlesOf fu x y = some (0, false) := by
  unfold Fishref2SettlesOf
  rw [h1, Option.bind_some, bnd_eq, h2, if_pos rfl]
theorem prog_some {fu : Nat} {x : MendRound} {y : Int} {l : List Int} (h0 : MendCheckRound fu x = some 0) (h1 : Mendwithin y 0 28800 = true) (hy : (y == 0) = false) (h2 : MendRoundstable fu x = some true) (h3 : SlicesRepeatLint fu [y] ((x.Plan).length : Int) = some l) {b : List (List Int)} {r k : Int} (h4 : MendSettles.loop1 x fu fu [l] 0 1 = some (b, r, k)) : MendSettles fu x y = some (w64 (r + 1), 0) := by
  unfold MendSettles
  rw [h0, Option.bind_some, if_neg (by simp), h1, if_neg (by simp), hy, if_neg (by simp), h2, Option.bind_some, if_neg (by simp), h3, Option.bind_some, h4, Option.bind_some]
theorem prog_none {fu : Nat} {x : MendRound} {y : Int} (h0 : MendCheckRound fu x = some 0) (h1 : Mendwithin y 0 28800 = true) (hy : (y == 0) = false) (h2 : MendRoundstable fu x = some false) : MendSettles fu x y = some (0, 9) := by
  unfold MendSettles
  rw [h0, Option.bind_some, if_neg (by simp), h1, if_neg (by simp), hy, if_neg (by simp), h2, Option.bind_some, if_pos (by simp)]
theorem settle_both {x : MendRound} (hx : RIn x) {fu : Nat} (hfu : 1000000 ≤ fu) (c1 : MendCheckRound fu x = some 0) {y : Int} (hy : 0 ≤ y ∧ y ≤ 28800) (hrep : SlicesRepeatLint fu [y] ((x.Plan.length : Nat) : Int) = some (List.replicate x.Plan.length y)) :
    (MendSettles fu x y = some (0, 9) ∧ Fishref2SettlesOf fu x y = some (0, false)) ∨ ∃ r, MendSettles fu x y = some (r, 0) ∧ Fishref2SettlesOf fu x y = some (r, true) := by
  have p1 := hx.ok.p0
  have p2 := hx.ok.p1
  have n8 := hx.ok.n1
  have n1 := hx.ok.n0
  have hmeans := means_both hx (fu := fu) (by omega)
  have hw : Mendwithin y 0 28800 = true := by rw [mwithin, decide_eq_true hy]
  by_cases hy0 : y = 0
  · right
    subst hy0
    obtain ⟨z, hz⟩ : ∃ z, Fishref2MeanOf fu x = some z := by
      rcases hmeans with ⟨_, _, h⟩ | ⟨_, _, _, _, _, _, _, _, _, _, _, _, _, _, h, _⟩
      · exact ⟨_, h⟩
      · exact ⟨_, h⟩
    refine ⟨0, ?_, ref_some hz rfl hrep (ref_zero hx hfu)⟩
    unfold MendSettles
    rw [c1, Option.bind_some, if_neg (by simp), hw, if_neg (by simp), if_pos (by simp)]
  · have hyb : (y == 0) = false := by simpa using hy0
    have fin : Hc x → ∃ b' r k', MendSettles.loop1 x fu fu [List.replicate x.Plan.length y] 0 1 = some (b', r, k') ∧ 0 ≤ r ∧ r ≤ 700000 ∧ Fishref2SettlesOf.loop1 x fu fu [List.replicate x.Plan.length y] 1 = some (.ret (r + 1, true)) := by
      intro hc
      have hbf : Bf [List.replicate x.Plan.length y] [List.replicate x.Plan.length y] := by
        refine ⟨rfl, fun i hi => ?_⟩
        simp at hi; subst hi; rfl
      exact settle_loop hx hc hy.1 hy.2 (fu := fu) (by omega) 700010 _ _ 0 fu fu (first_ni hy.1) hbf (by simp)
        ⟨0, by omega, by
          have : row [List.replicate x.Plan.length y] 0 = List.replicate x.Plan.length y := rfl
          unfold gv tm; rw [this, List.getElem?_replicate, if_pos (by omega)]; show 0 < y; omega⟩
        (fun j h1 h2 => by simp at h2; omega) (by simp) (by simp) (by omega) (by omega)
    rcases hmeans with ⟨hm, hno, hr⟩ | ⟨r, v, A, B, h1, h2, h3, h4, h5, h6, h7, h8, h9, hm, hr, hall⟩
    · right
      obtain ⟨l, b, hm⟩ : ∃ l b, MendRoundmean fu x = some (l, b, []) := by
        rcases hm with hm | hm
        · exact ⟨0, 0, hm⟩
        · exact hm
      obtain ⟨b', r, k', f1, f2, f3, f4⟩ := fin (hc_none hno)
      refine ⟨w64 (r + 1), prog_some c1 hw hyb ?_ hrep f1, ?_⟩
      · unfold MendRoundstable; rw [hm]; rfl
      · rw [w64_id (by omega)]
        exact ref_some hr (by rw [decide_eq_true (show y > 0 by omega)]; rfl) hrep f4
    · have g0 : 0 < Nat.gcd A B := Nat.gcd_pos_of_pos_right _ h7
      have hne : (ints r).isEmpty = false := by cases r with | nil => exact absurd rfl h1 | cons i r => rfl
      obtain ⟨a', ha⟩ := Nat.gcd_dvd_left A B
      obtain ⟨b', hb⟩ := Nat.gcd_dvd_right A B
      have ea : A / Nat.gcd A B = a' := by conv => lhs; arg 1; rw [ha]
                                           exact Nat.mul_div_cancel_left _ g0
      have eb : B / Nat.gcd A B = b' := by conv => lhs; arg 1; rw [hb]
                                           exact Nat.mul_div_cancel_left _ g0
      have ha2 : a' ≤ A := by rw [← ea]; exact Nat.div_le_self _ _
      have hb2 : b' ≤ B := by rw [← eb]; exact Nat.div_le_self _ _
      have m1 := small_mul (a := x.Period) (b := (B : Int)) (by omega) (by omega) (by omega) (by omega)
      have m2 := small_mul (a := x.Period) (b := (b' : Int)) (by omega) (by omega) (by omega) (by omega)
      rw [Int.mul_comm] at m1 m2
      have hgi : (0 : Int) < ((Nat.gcd A B : Nat) : Int) := by omega
      have hAi : (A : Int) = ((Nat.gcd A B : Nat) : Int) * (a' : Int) := by rw [← Int.natCast_mul, ← ha]
      have hBi : (B : Int) = ((Nat.gcd A B : Nat) : Int) * (b' : Int) := by rw [← Int.natCast_mul, ← hb]
      have hiff : ((A : Int) < (B : Int) * x.Period) ↔ ((a' : Int) < (b' : Int) * x.Period) := by
        conv => lhs; rw [hAi, hBi, Int.mul_assoc]
        exact Int.mul_lt_mul_left hgi
      rw [ea, eb] at hr
      have hst : MendRoundstable fu x = some (decide ((A : Int) < (B : Int) * x.Period)) := by
        unfold MendRoundstable
        rw [hm, Option.bind_some, hne, bnd_eq]
        simp only [Bool.false_eq_true, if_false]
        rw [w64_id (by omega)]
      have hyt : decide (y > 0) = true := decide_eq_true (by omega)
      by_cases hs : (A : Int) < (B : Int) * x.Period
      · right
        obtain ⟨b'', r, k', f1, f2, f3, f4⟩ := fin (hc_ring hx (by omega) hall hs)
        rw [decide_eq_true hs] at hst
        refine ⟨w64 (r + 1), prog_some c1 hw hyb hst hrep f1, ?_⟩
        rw [w64_id (x := r + 1) (by omega)]
        refine ref_some hr ?_ hrep f4
        simp only [hyt, if_true]
        rw [w64_id (by omega), decide_eq_false (by have := hiff.1 hs; omega)]
      · left
        rw [decide_eq_false hs] at hst
        refine ⟨prog_none c1 hw hyb hst, ref_none hr ?_⟩
        simp only [hyt, if_true]
        rw [w64_id (by omega), decide_eq_true (by
          rcases Int.lt_or_le (a' : Int) ((b' : Int) * x.Period) with c | c
          · exact absurd (hiff.2 c) hs
          · exact c)]
theorem MendSettles_law (x : MendRound) (y : Int) (_ : x.Plan.length ≤ 9223372036854775807) (_ : x.Links.length ≤ 9223372036854775807) (_ : -9223372036854775808 ≤ y ∧ y ≤ 9223372036854775807) : ∃ fu, Fishlaw2MendSettles fu x y = some true := by
  refine ⟨1000000 + 60, ?_⟩
  have hg := rounds_true 1000000
  obtain ⟨c1, e, c2, c3⟩ := round_eqz x (fu := 1000000 + 60) (by omega)
  rw [c2] at c1
  have hrep := fun h => repX 1000000 y x.Plan.length h
  have hroom := fun (hx : RIn x) h => room_run hx 1000000 h
  have hfu : 1000000 ≤ 1000000 + 60 := by omega
  generalize 1000000 + 60 = fu at *
  by_cases he : e = 0
  · subst he
    have hx : RIn x := ⟨(c3 rfl).1, (c3 rfl).2⟩
    obtain ⟨g, r1, r2⟩ := hroom hx c1
    by_cases hy : 0 ≤ y ∧ y ≤ 28800
    · have d1 : decide (y < 0) = false := decide_eq_false (by omega)
      have d2 : decide (y > 28800) = false := decide_eq_false (by omega)
      rcases settle_both hx hfu c1 hy (hrep hx.ok.n1) with ⟨e1, e2⟩ | ⟨r, e1, e2⟩
      · unfold Fishlaw2MendSettles
        rw [e1, r1, c2, r2, hg, e2]
        simp only [Option.bind_some, lists_self, d1, d2]
        simp [bnd]
      · unfold Fishlaw2MendSettles
        rw [e1, r1, c2, r2, hg, e2]
        simp only [Option.bind_some, lists_self, d1, d2]
        simp [bnd]
    · have hw : Mendwithin y 0 28800 = false := by rw [mwithin, decide_eq_false hy]
      have e1 : MendSettles fu x y = some (0, 2) := by
        unfold MendSettles
        rw [c1, Option.bind_some, if_neg (by simp), hw, if_pos (by simp)]
      have : (if decide (y < 0) = true then true else decide (y > 28800)) = true := by
        by_cases q : y < 0
        · rw [decide_eq_true q]; rfl
        · rw [decide_eq_false q, decide_eq_true (by omega)]; rfl
      unfold Fishlaw2MendSettles
      rw [e1, r1, c2, r2, hg]
      simp only [Option.bind_some, lists_self, this]
      simp [bnd]
  · have hb : (e != 0) = true := by simpa using he
    unfold Fishlaw2MendSettles MendSettles MendRoom
    rw [c1, c2, hg]
    simp only [Option.bind_some, hb, if_true, beq_self_eq_true]
    simp
end Go.Fp
