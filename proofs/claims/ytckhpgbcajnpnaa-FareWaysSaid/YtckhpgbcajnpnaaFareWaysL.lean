/- FareWays: the mirror of the law is true of all lists of neighbours (within the reach of a process's addresses). -/
import Derived.Test.YtckhpgbcajnpnaaFareWaysM
import Derived.Test.YtckhpgbcajnpnaaFpPlain
import Derived.Test.YtckhpgbcajnpnaaFpWideS
import Derived.Test.YtckhpgbcajnpnaaFpReach
import Derived.KernelRfl
namespace Go.Fp
theorem equal_refl (l : List Int) : SlicesEqualLint l l = some true := by
  have key : ∀ (r : List Int) (k : Nat), l.drop k = r → SlicesEqualLint.loop1 l r k = some (.next ()) := by
    intro r
    induction r with
    | nil => intro k _; rfl
    | cons v r ih =>
      intro k hd
      obtain ⟨d1, d2, d3⟩ := drop_cons hd
      simp only [SlicesEqualLint.loop1, gx_nat, d2, Option.bind_some, bne_self_eq_false, Bool.false_eq_true, if_false]
      exact ih (k + 1) d3
  unfold SlicesEqualLint
  simp [key l 0 rfl]
theorem rep25 (m k : Nat) (h : k ≤ 25) : SlicesRepeatLint (m + 60) [(-1)] ((k : Nat) : Int) = some (List.replicate k (-1)) := by
  have h0 : SlicesRepeatLint (m + 60) [(-1)] 0 = some (List.replicate 0 (-1)) := by kernel_rfl
  have h1 : SlicesRepeatLint (m + 60) [(-1)] 1 = some (List.replicate 1 (-1)) := by kernel_rfl
  have h2 : SlicesRepeatLint (m + 60) [(-1)] 2 = some (List.replicate 2 (-1)) := by kernel_rfl
  have h3 : SlicesRepeatLint (m + 60) [(-1)] 3 = some (List.replicate 3 (-1)) := by kernel_rfl
  have h4 : SlicesRepeatLint (m + 60) [(-1)] 4 = some (List.replicate 4 (-1)) := by kernel_rfl
  have h5 : SlicesRepeatLint (m + 60) [(-1)] 5 = some (List.replicate 5 (-1)) := by kernel_rfl
  have h6 : SlicesRepeatLint (m + 60) [(-1)] 6 = some (List.replicate 6 (-1)) := by kernel_rfl
  have h7 : SlicesRepeatLint (m + 60) [(-1)] 7 = some (List.replicate 7 (-1)) := by kernel_rfl
  have h8 : SlicesRepeatLint (m + 60) [(-1)] 8 = some (List.replicate 8 (-1)) := by kernel_rfl
  have h9 : SlicesRepeatLint (m + 60) [(-1)] 9 = some (List.replicate 9 (-1)) := by kernel_rfl
  have h10 : SlicesRepeatLint (m + 60) [(-1)] 10 = some (List.replicate 10 (-1)) := by kernel_rfl
  have h11 : SlicesRepeatLint (m + 60) [(-1)] 11 = some (List.replicate 11 (-1)) := by kernel_rfl
  have h12 : SlicesRepeatLint (m + 60) [(-1)] 12 = some (List.replicate 12 (-1)) := by kernel_rfl
  have h13 : SlicesRepeatLint (m + 60) [(-1)] 13 = some (List.replicate 13 (-1)) := by kernel_rfl
  have h14 : SlicesRepeatLint (m + 60) [(-1)] 14 = some (List.replicate 14 (-1)) := by kernel_rfl
  have h15 : SlicesRepeatLint (m + 60) [(-1)] 15 = some (List.replicate 15 (-1)) := by kernel_rfl
  have h16 : SlicesRepeatLint (m + 60) [(-1)] 16 = some (List.replicate 16 (-1)) := by kernel_rfl
  have h17 : SlicesRepeatLint (m + 60) [(-1)] 17 = some (List.replicate 17 (-1)) := by kernel_rfl
  have h18 : SlicesRepeatLint (m + 60) [(-1)] 18 = some (List.replicate 18 (-1)) := by kernel_rfl
  have h19 : SlicesRepeatLint (m + 60) [(-1)] 19 = some (List.replicate 19 (-1)) := by kernel_rfl
  have h20 : SlicesRepeatLint (m + 60) [(-1)] 20 = some (List.replicate 20 (-1)) := by kernel_rfl
  have h21 : SlicesRepeatLint (m + 60) [(-1)] 21 = some (List.replicate 21 (-1)) := by kernel_rfl
  have h22 : SlicesRepeatLint (m + 60) [(-1)] 22 = some (List.replicate 22 (-1)) := by kernel_rfl
  have h23 : SlicesRepeatLint (m + 60) [(-1)] 23 = some (List.replicate 23 (-1)) := by kernel_rfl
  have h24 : SlicesRepeatLint (m + 60) [(-1)] 24 = some (List.replicate 24 (-1)) := by kernel_rfl
  have h25 : SlicesRepeatLint (m + 60) [(-1)] 25 = some (List.replicate 25 (-1)) := by kernel_rfl
  have hc : k = 0 ∨ k = 1 ∨ k = 2 ∨ k = 3 ∨ k = 4 ∨ k = 5 ∨ k = 6 ∨ k = 7 ∨ k = 8 ∨ k = 9 ∨ k = 10 ∨ k = 11 ∨ k = 12 ∨ k = 13 ∨ k = 14 ∨ k = 15 ∨ k = 16 ∨ k = 17 ∨ k = 18 ∨ k = 19 ∨ k = 20 ∨ k = 21 ∨ k = 22 ∨ k = 23 ∨ k = 24 ∨ k = 25 := by omega
  rcases hc with rfl | rfl | rfl | rfl | rfl | rfl | rfl | rfl | rfl | rfl | rfl | rfl | rfl | rfl | rfl | rfl | rfl | rfl | rfl | rfl | rfl | rfl | rfl | rfl | rfl | rfl
  · exact h0
  · exact h1
  · exact h2
  · exact h3
  · exact h4
  · exact h5
  · exact h6
  · exact h7
  · exact h8
  · exact h9
  · exact h10
  · exact h11
  · exact h12
  · exact h13
  · exact h14
  · exact h15
  · exact h16
  · exact h17
  · exact h18
  · exact h19
  · exact h20
  · exact h21
  · exact h22
  · exact h23
  · exact h24
  · exact h25
theorem fares_true (n : Nat) : Fishlaw2fares (n + 60) = some true := by kernel_rfl
/-- the value at vertex z -/
def F (l : List Int) (z : Int) : Int := l.getD z.toNat (-1)
/-- the neighbours of z -/
def rw_ (x : List (List Int)) (z : Int) : List Int := x.getD z.toNat []
structure Near (x : List (List Int)) : Prop where
  n : x.length ≤ 20
  el : ∀ row ∈ x, ∀ y ∈ row, 0 ≤ y ∧ y < x.length

section
variable {x : List (List Int)}
theorem gx_F {l : List Int} {z : Int} (h0 : 0 ≤ z) (h1 : z < l.length) : gx l z = some (F l z) := by
  rw [gx_toNat h0 (by omega)]
  unfold F
  rw [List.getD_eq_getElem?_getD, List.getElem?_eq_getElem (by omega)]; rfl
theorem gx_row {z : Int} (h0 : 0 ≤ z) (h1 : z < x.length) : gx x z = some (rw_ x z) ∧ rw_ x z ∈ x := by
  have e : rw_ x z = x[z.toNat]'(by omega) := by
    unfold rw_
    rw [List.getD_eq_getElem?_getD, List.getElem?_eq_getElem (by omega)]; rfl
  rw [gx_toNat h0 (by omega), e]
  exact ⟨rfl, List.getElem_mem _⟩
theorem F_set {l : List Int} {z y v : Int} (h0 : 0 ≤ z) (h1 : z < l.length) (hy : 0 ≤ y) : F (l.set z.toNat v) y = if y = z then v else F l y := by
  unfold F
  rw [List.getD_eq_getElem?_getD, List.getD_eq_getElem?_getD, List.getElem?_set]
  by_cases h : y = z
  · subst h
    rw [if_pos rfl, if_pos (by omega), if_pos rfl]; rfl
  · rw [if_neg (by omega), if_neg h]

/-- how many vertices have a way -/
def cnt (l : List Int) : Nat := l.countP fun a => decide (0 ≤ a)
def wt (a : Int) : Nat := if a < 0 then 30 else a.toNat
def mu (l : List Int) : Nat := (l.map wt).sum
theorem sum_set (g : Int → Nat) : ∀ (l : List Int) (i : Nat) (v : Int) (h : i < l.length), ((l.set i v).map g).sum + g l[i] = (l.map g).sum + g v
  | [], i, v, h => by simp at h
  | a :: l, 0, v, h => by simp; omega
  | a :: l, i + 1, v, h => by
    have := sum_set g l i v (by simpa using h)
    simp only [List.set_cons_succ, List.map_cons, List.sum_cons, List.getElem_cons_succ]
    omega
theorem F_get {l : List Int} {z : Int} (h0 : 0 ≤ z) (h1 : z < l.length) : F l z = l[z.toNat]'(by omega) := by
  unfold F
  rw [List.getD_eq_getElem?_getD, List.getElem?_eq_getElem (by omega)]; rfl

structure Inv (x : List (List Int)) (to : Int) (l : List Int) : Prop where
  len : l.length = x.length
  zero : F l to = 0
  wit : ∀ z : Int, 0 ≤ z → z < x.length → z ≠ to → 0 ≤ F l z → ∃ y ∈ rw_ x z, 0 ≤ F l y ∧ F l y ≤ F l z - 1
  low : ∀ z : Int, 0 ≤ z → z < x.length → -1 ≤ F l z
  top : ∀ z : Int, 0 ≤ z → z < x.length → F l z ≤ (cnt l : Int) - 1

/-- nothing is to be done at z for y -/
def Quiet (l : List Int) (z y : Int) : Prop := 0 ≤ F l y → 0 ≤ F l z ∧ F l z ≤ F l y + 1

theorem Inv.cntle {to : Int} {l : List Int} (h : Inv x to l) : cnt l ≤ x.length := by
  rw [← h.len]; exact List.countP_le_length

theorem Inv.upd (hn : Near x) {to : Int} {l : List Int} (h : Inv x to l) {z y : Int} (hz0 : 0 ≤ z) (hz1 : z < x.length) (hy : y ∈ rw_ x z) (hy0 : 0 ≤ y) (hy1 : y < x.length) (c1 : 0 ≤ F l y) (c2 : F l z < 0 ∨ F l z > F l y + 1) :
    Inv x to (l.set z.toNat (F l y + 1)) ∧ mu (l.set z.toNat (F l y + 1)) < mu l := by
  have hl := h.len
  have hzt : z ≠ to := by rintro rfl; have := h.zero; omega
  have hzl : z < l.length := by omega
  have hFz := F_get hz0 hzl
  have hyz : y ≠ z := by rintro rfl; omega
  have ht := h.top y hy0 hy1
  have hc20 := h.cntle
  have hn20 := hn.n
  have hcnt : cnt (l.set z.toNat (F l y + 1)) = cnt l + (if F l z < 0 then 1 else 0) := by
    unfold cnt
    rw [List.countP_set (h := by omega)]
    have hpos : 0 < List.countP (fun a => decide (0 ≤ a)) l ∨ ¬ (0 ≤ l[z.toNat]'(by omega)) := by
      by_cases hp : 0 ≤ l[z.toNat]'(by omega)
      · left; exact List.countP_pos_iff.2 ⟨_, List.getElem_mem _, by simpa using hp⟩
      · exact .inr hp
    have e1 : 0 ≤ F l y + 1 := by omega
    simp only [decide_eq_true_eq, e1, if_true]
    by_cases hneg : F l z < 0
    · have : ¬ (0 ≤ l[z.toNat]'(by omega)) := by omega
      simp [this, hneg]
    · have : 0 ≤ l[z.toNat]'(by omega) := by omega
      rcases hpos with hp | hp
      · simp only [this, if_true, hneg, if_false]; omega
      · exact absurd this hp
  have hcge : (cnt l : Int) ≤ cnt (l.set z.toNat (F l y + 1)) := by rw [hcnt]; split <;> omega
  refine ⟨⟨by simp [hl], ?_, ?_, ?_, ?_⟩, ?_⟩
  · by_cases hto : 0 ≤ to
    · rw [F_set hz0 hzl hto, if_neg (Ne.symm hzt)]; exact h.zero
    · -- to is a vertex in each use; here it reads the same place or another
      have e : to.toNat = 0 := by omega
      have hz := h.zero
      unfold F at hz ⊢
      rw [List.getD_eq_getElem?_getD] at hz ⊢
      rw [e] at hz ⊢
      rw [List.getElem?_set]
      by_cases hz' : z.toNat = 0
      · exfalso
        have e2 : F l z = 0 := by
          unfold F; rw [List.getD_eq_getElem?_getD, hz']; exact hz
        rcases c2 with c2 | c2 <;> omega
      · rw [if_neg hz']; exact hz
  · intro v hv0 hv1 hvt hvF
    rw [F_set hz0 hzl hv0] at hvF ⊢
    by_cases hvz : v = z
    · subst hvz
      rw [if_pos rfl]
      exact ⟨y, hy, by rw [F_set hz0 hzl hy0, if_neg hyz]; exact c1, by rw [F_set hz0 hzl hy0, if_neg hyz]; omega⟩
    · rw [if_neg hvz] at hvF ⊢
      obtain ⟨u, u1, u2, u3⟩ := h.wit v hv0 hv1 hvt hvF
      have hu := hn.el _ (gx_row hv0 hv1).2 u u1
      refine ⟨u, u1, ?_, ?_⟩
      · rw [F_set hz0 hzl hu.1]; split <;> omega
      · rw [F_set hz0 hzl hu.1]
        split
        · rename_i e; subst e; rcases c2 with c2 | c2 <;> omega
        · omega
  · intro v hv0 hv1
    rw [F_set hz0 hzl hv0]
    split
    · omega
    · exact h.low v hv0 hv1
  · intro v hv0 hv1
    rw [F_set hz0 hzl hv0]
    split
    · rw [hcnt]
      rcases c2 with c2 | c2
      · rw [if_pos c2]; omega
      · have := h.top z hz0 hz1; split <;> omega
    · have := h.top v hv0 hv1; omega
  · have hs := sum_set wt l z.toNat (F l y + 1) (by omega)
    unfold mu
    have h1 : wt (F l y + 1) < wt (l[z.toNat]'(by omega)) := by
      rw [← hFz]
      unfold wt
      rcases c2 with c2 | c2
      · rw [if_neg (by omega), if_pos c2]; omega
      · rw [if_neg (by omega), if_neg (by omega)]; omega
    omega

theorem relax (hn : Near x) {to : Int} {k : Nat} (hk : k < x.length) : ∀ (r : List Int) (q : Bool) (l : List Int), Inv x to l → (∀ y ∈ r, y ∈ rw_ x (k : Int)) →
    ∃ q' l', FareWay.loop4 k r q l = some (q', l') ∧ Inv x to l' ∧ ((q' = q ∧ l' = l ∧ ∀ y ∈ r, Quiet l (k : Int) y) ∨ (q' = true ∧ mu l' < mu l))
  | [], q, l, h, _ => ⟨q, l, rfl, h, .inl ⟨rfl, rfl, by intro y hy; cases hy⟩⟩
  | y :: r, q, l, h, hr => by
    have hyr := hr y (List.mem_cons_self ..)
    have hy := hn.el _ (gx_row (x := x) (z := (k : Int)) (by omega) (by omega)).2 y hyr
    have hl := h.len
    have g1 : gx l y = some (F l y) := gx_F hy.1 (by omega)
    have g2 : gx l ((k : Nat) : Int) = some (F l (k : Int)) := gx_F (by omega) (by omega)
    have hlow := h.low y hy.1 hy.2
    have htop := h.top y hy.1 hy.2
    have hc20 := h.cntle
    have hn20 := hn.n
    have hw : w64 (F l y + 1) = F l y + 1 := w64_id (by omega)
    rw [FareWay.loop4, g1, g2]
    simp only [Option.bind_some, hw]
    by_cases c : 0 ≤ F l y ∧ (F l (k : Int) < 0 ∨ F l (k : Int) > F l y + 1)
    · have e1 : (if decide (F l y ≥ 0) = true then (if decide (F l (k : Int) < 0) = true then some true else some (decide (F l (k : Int) > F l y + 1))) else some false) = some true := by
        rw [if_pos (by simpa using c.1)]
        rcases c.2 with c2 | c2
        · rw [if_pos (by simpa using c2)]
        · by_cases c3 : F l (k : Int) < 0
          · rw [if_pos (by simpa using c3)]
          · rw [if_neg (by simpa using c3)]; simp; omega
      rw [e1]
      simp only [Option.bind_some, if_true]
      rw [ix_in (by omega) (by omega), Option.bind_some, sx_in (by omega) (by omega), Option.bind_some]
      simp only [Option.bind_some]
      obtain ⟨u1, u2⟩ := h.upd hn (z := (k : Int)) (by omega) (by omega) hyr hy.1 hy.2 c.1 c.2
      obtain ⟨q', l', r1, r2, r3⟩ := relax hn hk r true _ u1 (fun v hv => hr v (List.mem_cons_of_mem _ hv))
      refine ⟨q', l', r1, r2, .inr ?_⟩
      rcases r3 with ⟨e, e', _⟩ | ⟨e, e'⟩
      · exact ⟨e, by rw [e']; exact u2⟩
      · exact ⟨e, by omega⟩
    · have e1 : (if decide (F l y ≥ 0) = true then (if decide (F l (k : Int) < 0) = true then some true else some (decide (F l (k : Int) > F l y + 1))) else some false) = some false := by
        by_cases c1 : 0 ≤ F l y
        · have c2 : ¬ F l (k : Int) < 0 := fun k => c ⟨c1, .inl k⟩
          have c3 : ¬ F l (k : Int) > F l y + 1 := fun k => c ⟨c1, .inr k⟩
          rw [if_pos (by simpa using c1), if_neg (by simpa using c2)]; simp; omega
        · rw [if_neg (by simpa using c1)]
      rw [e1]
      simp only [Option.bind_some, Bool.false_eq_true, if_false]
      obtain ⟨q', l', r1, r2, r3⟩ := relax hn hk r q l h (fun v hv => hr v (List.mem_cons_of_mem _ hv))
      refine ⟨q', l', r1, r2, ?_⟩
      rcases r3 with ⟨e, e', e2⟩ | e
      · refine .inl ⟨e, e', ?_⟩
        intro v hv
        rcases List.mem_cons.1 hv with rfl | hv
        · intro hv0
          refine ⟨?_, ?_⟩
          · rcases Int.lt_or_le (F l (k : Int)) 0 with h1 | h1
            · exact absurd ⟨hv0, .inl h1⟩ c
            · exact h1
          · rcases Int.lt_or_le (F l v + 1) (F l (k : Int)) with h1 | h1
            · exact absurd ⟨hv0, .inr h1⟩ c
            · exact h1
        · exact e2 v hv
      · exact .inr e

theorem pass (hn : Near x) {to : Int} : ∀ (rows : List (List Int)) (k : Nat) (q : Bool) (l : List Int), x.drop k = rows → Inv x to l →
    ∃ q' l', FareWay.loop3 rows k q l = some (q', l') ∧ Inv x to l' ∧ ((q' = q ∧ l' = l ∧ ∀ z : Nat, k ≤ z → z < x.length → ∀ y ∈ rw_ x (z : Int), Quiet l (z : Int) y) ∨ (q' = true ∧ mu l' < mu l))
  | [], k, q, l, hd, h => ⟨q, l, rfl, h, .inl ⟨rfl, rfl, by intro z h1 h2; have := drop_nil hd; omega⟩⟩
  | row :: rows, k, q, l, hd, h => by
    obtain ⟨d1, d2, d3⟩ := drop_cons hd
    have hrow : rw_ x (k : Int) = row := by
      unfold rw_
      rw [List.getD_eq_getElem?_getD, Int.toNat_natCast, d2]; rfl
    obtain ⟨q1, l1, r1, r2, r3⟩ := relax hn d1 row q l h (fun y hy => by rw [hrow]; exact hy)
    obtain ⟨q2, l2, s1, s2, s3⟩ := pass hn rows (k + 1) q1 l1 d3 r2
    rw [FareWay.loop3, r1]
    simp only [Option.bind_some]
    refine ⟨q2, l2, s1, s2, ?_⟩
    rcases r3 with ⟨a1, a2, a3⟩ | ⟨a1, a2⟩
    · subst a1; subst a2
      rcases s3 with ⟨b1, b2, b3⟩ | b
      · refine .inl ⟨b1, b2, ?_⟩
        intro z hz1 hz2 y hy
        rcases Nat.eq_or_lt_of_le hz1 with rfl | hlt
        · rw [hrow] at hy; exact a3 y hy
        · exact b3 z hlt hz2 y hy
      · exact .inr b
    · right
      rcases s3 with ⟨b1, b2, _⟩ | ⟨b1, b2⟩
      · exact ⟨b1.trans a1, by rw [b2]; exact a2⟩
      · exact ⟨b1, by omega⟩

theorem settle (hn : Near x) {to : Int} : ∀ (m : Nat) (l : List Int), Inv x to l → mu l + 2 ≤ m →
    ∃ q l', FareWay.loop2 x m true l = some (q, l') ∧ Inv x to l' ∧ ∀ z : Int, 0 ≤ z → z < x.length → ∀ y ∈ rw_ x z, Quiet l' z y
  | 0, l, _, h => by omega
  | m + 1, l, hI, hm => by
    obtain ⟨q1, l1, r1, r2, r3⟩ := pass hn x 0 false l (List.drop_zero ..) hI
    rw [FareWay.loop2, r1]
    simp only [if_true, Option.bind_some]
    rcases r3 with ⟨a1, a2, a3⟩ | ⟨a1, a2⟩
    · subst a1; subst a2
      obtain ⟨m', rfl⟩ : ∃ m', m = m' + 1 := ⟨m - 1, by omega⟩
      rw [FareWay.loop2]
      refine ⟨false, l1, by simp, r2, ?_⟩
      intro z h0 h1 y hy
      obtain ⟨k, rfl⟩ : ∃ k : Nat, z = (k : Int) := ⟨z.toNat, by omega⟩
      exact a3 k (Nat.zero_le _) (by omega) y hy
    · subst a1
      exact settle hn m l1 r2 (by omega)
end
def Good (l : List Int) (z y : Int) : Prop := 0 ≤ F l y ∧ F l y = F l z - 1
instance (l : List Int) (z y : Int) : Decidable (Good l z y) := by unfold Good; exact inferInstance
structure IsNext (x : List (List Int)) (l : List Int) (z r : Int) : Prop where
  mem : r ∈ rw_ x z
  good : Good l z r
  least : ∀ y ∈ rw_ x z, Good l z y → r ≤ y
inductive Pth (x : List (List Int)) (l : List Int) (to : Int) : Int → List Int → Prop
  | nil : Pth x l to to []
  | cons {z r : Int} {p : List Int} : z ≠ to → IsNext x l z r → Pth x l to r p → Pth x l to z (r :: p)

section
variable {x : List (List Int)} {to : Int} {l : List Int}
theorem least6 (hn : Near x) (h : Inv x to l) {z : Int} (hz0 : 0 ≤ z) (hz1 : z < x.length) : ∀ (rest : List Int) (q : Int), (∀ y ∈ rest, 0 ≤ y ∧ y < x.length) →
    ∃ r, FareWay.loop6 l z rest q = some r ∧ (r = q ∨ (r ∈ rest ∧ Good l z r)) ∧ (∀ y ∈ rest, Good l z y → r ≤ y ∧ 0 ≤ r) ∧ (0 ≤ q → r ≤ q ∧ 0 ≤ r)
  | [], q, _ => ⟨q, rfl, .inl rfl, (by intro y hy; cases hy), fun hq => ⟨Int.le_refl _, hq⟩⟩
  | y :: rest, q, hr => by
    have hy := hr y (List.mem_cons_self ..)
    have hl := h.len
    have hc := h.cntle
    have hn20 := hn.n
    have h1 := h.low z hz0 hz1
    have h2 := h.top z hz0 hz1
    have g1 : gx l y = some (F l y) := gx_F hy.1 (by omega)
    have g2 : gx l z = some (F l z) := gx_F hz0 (by omega)
    have hw : w64 (F l z - 1) = F l z - 1 := w64_id (by omega)
    rw [FareWay.loop6, g1, g2]
    simp only [Option.bind_some, hw]
    have hcond : (if decide (F l y ≥ 0) = true then (if (F l y == F l z - 1) = true then (if decide (q < 0) = true then some true else some (decide (y < q))) else some false) else some false) = some (decide (Good l z y ∧ (q < 0 ∨ y < q))) := by
      unfold Good
      by_cases c1 : 0 ≤ F l y
      · rw [if_pos (by simpa using c1)]
        by_cases c2 : F l y = F l z - 1
        · rw [if_pos (by simpa using c2)]
          by_cases c3 : q < 0
          · rw [if_pos (by simpa using c3)]; simp [c2, c3]; omega
          · rw [if_neg (by simpa using c3)]
            congr 1
            have : 1 ≤ F l z := by omega
            by_cases c4 : y < q <;> simp [c2, c3, c4, this]
        · rw [if_neg (by simpa using c2)]; simp [c2]
      · rw [if_neg (by simpa using c1)]; simp [c1]
    rw [hcond]
    simp only [Option.bind_some, bnd]
    by_cases c : Good l z y ∧ (q < 0 ∨ y < q)
    · rw [if_pos (by simpa using c)]
      obtain ⟨r, r1, r2, r3, r4⟩ := least6 hn h hz0 hz1 rest y (fun v hv => hr v (List.mem_cons_of_mem _ hv))
      have h5 := r4 hy.1
      refine ⟨r, r1, .inr ?_, ?_, ?_⟩
      · rcases r2 with rfl | ⟨a, b⟩
        · exact ⟨List.mem_cons_self .., c.1⟩
        · exact ⟨List.mem_cons_of_mem _ a, b⟩
      · intro v hv hg
        rcases List.mem_cons.1 hv with rfl | hv
        · exact h5
        · exact r3 v hv hg
      · intro hq
        rcases c.2 with c2 | c2
        · omega
        · exact ⟨by omega, h5.2⟩
    · rw [if_neg (by simpa using c)]
      obtain ⟨r, r1, r2, r3, r4⟩ := least6 hn h hz0 hz1 rest q (fun v hv => hr v (List.mem_cons_of_mem _ hv))
      refine ⟨r, r1, ?_, ?_, r4⟩
      · rcases r2 with rfl | ⟨a, b⟩
        · exact .inl rfl
        · exact .inr ⟨List.mem_cons_of_mem _ a, b⟩
      · intro v hv hg
        rcases List.mem_cons.1 hv with rfl | hv
        · have hq : ¬ (q < 0 ∨ v < q) := fun k => c ⟨hg, k⟩
          have := r4 (by omega)
          omega
        · exact r3 v hv hg

theorem walk5 (hn : Near x) (h : Inv x to l) (hF : ∀ z : Int, 0 ≤ z → z < x.length → ∀ y ∈ rw_ x z, Quiet l z y) : ∀ (d : Nat) (z : Int), 0 ≤ z → z < x.length → F l z = d →
    ∃ p, Pth x l to z p ∧ p.length = d ∧ (∀ (m : Nat) (acc : List Int), d + 1 ≤ m → acc.length + d < 4294967296 → FareWay.loop5 x to l m acc z = some (acc ++ p, to)) := by
  intro d
  induction d with
  | zero =>
    intro z h0 h1 hz
    have hzt : z = to := by
      refine Classical.byContradiction fun k => ?_
      obtain ⟨y, y1, y2, y3⟩ := h.wit z h0 h1 k (by omega)
      omega
    subst hzt
    refine ⟨[], .nil, rfl, ?_⟩
    intro m acc hm _
    obtain ⟨m', rfl⟩ : ∃ m', m = m' + 1 := ⟨m - 1, by omega⟩
    rw [FareWay.loop5]; simp
  | succ d ih =>
    intro z h0 h1 hz
    have hzt : z ≠ to := by rintro rfl; have := h.zero; omega
    obtain ⟨y, y1, y2, y3⟩ := h.wit z h0 h1 hzt (by omega)
    have hq := hF z h0 h1 y y1 y2
    have hval := hn.el _ (gx_row h0 h1).2
    obtain ⟨r, r1, r2, r3, _⟩ := least6 hn h h0 h1 (rw_ x z) (-1) hval
    have hg : Good l z y := ⟨y2, by omega⟩
    have hr0 := (r3 y y1 hg).2
    have hr : r ∈ rw_ x z ∧ Good l z r := by
      rcases r2 with rfl | k
      · omega
      · exact k
    have hrv := hval r hr.1
    obtain ⟨p, p1, p2, p3⟩ := ih r hrv.1 hrv.2 (by have := hr.2.2; omega)
    refine ⟨r :: p, .cons hzt ⟨hr.1, hr.2, fun v hv hg => (r3 v hv hg).1⟩ p1, by simp [p2], ?_⟩
    intro m acc hm hacc
    obtain ⟨m', rfl⟩ : ∃ m', m = m' + 1 := ⟨m - 1, by omega⟩
    rw [FareWay.loop5, if_pos (by simpa using hzt), (gx_row h0 h1).1, Option.bind_some, r1, Option.bind_some, apd_lt (by simp; omega), Option.bind_some, p3 m' (acc ++ [r]) (by omega) (by simp; omega)]
    simp
end
theorem mget_put (m : List (Int × Bool)) (k j : Int) (v : Bool) : mget (mput m k v) j = if j = k then some v else mget m j := by
  induction m with
  | nil => simp [mput, mget]
  | cons p r ih =>
    obtain ⟨a, b⟩ := p
    simp only [mput]
    by_cases h : k = a
    · subst h
      simp only [beq_self_eq_true, if_true, mget]
      by_cases h2 : j = k <;> simp [h2]
    · have hb : (k == a) = false := by simpa using h
      simp only [hb, Bool.false_eq_true, if_false, mget]
      by_cases h2 : j = a
      · subst h2; have : ¬ j = k := fun e => h e.symm; simp [this]
      · have hb2 : (j == a) = false := by simpa using h2
        simp [hb2, ih]
def lst (e : List Int) : Int := e.getLast?.getD (-1)
theorem lst_app (w : List Int) (y : Int) : lst (w ++ [y]) = y := by unfold lst; rw [List.getLast?_concat]; rfl
theorem gx_lst {w : List Int} (h : w ≠ []) (hl : w.length ≤ 1000) : gx w (w64 (((w.length : Nat) : Int) - 1)) = some (lst w) := by
  have hp : 0 < w.length := List.length_pos_iff.2 h
  rw [gx_prev hp (Nat.le_refl _) (by omega)]
  unfold lst
  rw [List.getLast?_eq_getElem?, List.getElem?_eq_getElem (by omega)]; rfl
theorem clone_eq {w : List Int} (h : w.length < 4294967296) : SlicesCloneLint w = some w := by
  unfold SlicesCloneLint
  rw [apd_lt (by simpa using h)]; simp
theorem sorted_eq {w : List Int} (h : w.length * 8 ≤ 140737488351232) : SlicesSortedint_v1 w = some (isort w) := by
  unfold SlicesSortedint_v1 SlicesCollectint_v1
  rw [apw_in (by simpa using h)]
  have h2 : w.length < 4611686018427387904 := by omega
  simp [srw, h2]
theorem mem_isort {l : List Int} {y : Int} : y ∈ isort l ↔ y ∈ l := (List.mergeSort_perm l _).mem_iff

section
variable {x : List (List Int)}
structure Inv6 (x : List (List Int)) (k : Nat) (o : List (List Int)) (s : List (Int × Bool)) : Prop where
  sn : ∀ y, (mget s y).getD false = true ↔ y ∈ o.map lst
  nd : (o.map lst).Nodup
  val : ∀ e ∈ o, e ≠ [] ∧ e.length ≤ k ∧ 0 ≤ lst e ∧ lst e < x.length
theorem Inv6.len {k : Nat} {o : List (List Int)} {s : List (Int × Bool)} (h : Inv6 x k o s) : o.length ≤ x.length := by
  have h1 : o.map lst ⊆ (List.range x.length).map fun i : Nat => (i : Int) := by
    intro y hy
    obtain ⟨e, he, rfl⟩ := List.mem_map.1 hy
    have := (h.val e he).2.2
    exact List.mem_map.2 ⟨(lst e).toNat, List.mem_range.2 (by omega), by simp; omega⟩
  have := h.nd.length_le_of_subset h1
  simpa using this
theorem Inv6.start (k : Nat) : Inv6 x k [] [] := ⟨by intro y; simp [mget], List.nodup_nil, by intro e he; cases he⟩
theorem Inv6.add {k : Nat} {o : List (List Int)} {s : List (Int × Bool)} (h : Inv6 x k o s) {w : List Int} {y : Int} (hw : w.length + 1 ≤ k) (hy : 0 ≤ y ∧ y < x.length) (hs : (mget s y).getD false = false) : Inv6 x k (o ++ [w ++ [y]]) (mput s y true) := by
  refine ⟨?_, ?_, ?_⟩
  · intro v
    rw [mget_put]
    by_cases hv : v = y
    · subst hv; simp [lst_app]
    · rw [if_neg hv, h.sn v]; simp [lst_app, hv]
  · rw [List.map_append, List.nodup_append]
    refine ⟨h.nd, by simp, ?_⟩
    intro a ha b hb
    simp [lst_app] at hb
    subst hb
    rintro rfl
    have := (h.sn a).2 ha
    rw [hs] at this; cases this
  · intro e he
    rcases List.mem_append.1 he with he | he
    · exact h.val e he
    · simp at he; subst he
      rw [lst_app]
      exact ⟨by simp, by simp; omega, hy.1, hy.2⟩

/-- one element -/
theorem one6 (hn : Near x) {k : Nat} (hk : k ≤ 100) {w L : List Int} {i m : Nat} {y : Int} {o : List (List Int)} {s : List (Int × Bool)} (hi : L[i]? = some y) (hw : w.length + 1 ≤ k) (hy : 0 ≤ y ∧ y < x.length) (h : Inv6 x k o s) :
    ∃ D s', Fishref2WayOf.loop6 w L (m + 1) i o s = Fishref2WayOf.loop6 w L m (i + 1) (o ++ D) s' ∧ Inv6 x k (o ++ D) s' ∧ (∀ e ∈ D, e = w ++ [y]) ∧ ((mget s y).getD false = false → D = [w ++ [y]]) := by
  have hn20 := hn.n
  have hlen := h.len
  rw [Fishref2WayOf.loop6, gx_nat, hi, Option.bind_some]
  cases hs : (mget s y).getD false with
  | false =>
    rw [clone_eq (by omega)]
    simp only [Bool.not_false, if_true, Option.bind_some]
    rw [apd_lt (by simp; omega), Option.bind_some, apd_lt (by simp; omega)]
    exact ⟨[w ++ [y]], mput s y true, rfl, h.add hw hy hs, by simp, fun _ => rfl⟩
  | true =>
    refine ⟨[], s, by simp, by simpa using h, by simp, by simp⟩

theorem add6 (hn : Near x) {k : Nat} (hk : k ≤ 100) {w L : List Int} (hw : w.length + 1 ≤ k) : ∀ (rest tail : List Int) (i m : Nat) (o : List (List Int)) (s : List (Int × Bool)), L.drop i = rest ++ tail → (∀ y ∈ rest, 0 ≤ y ∧ y < x.length) → Inv6 x k o s →
    ∃ D s', Fishref2WayOf.loop6 w L (rest.length + m) i o s = Fishref2WayOf.loop6 w L m (i + rest.length) (o ++ D) s' ∧ Inv6 x k (o ++ D) s' ∧ (∀ e ∈ D, ∃ y ∈ rest, e = w ++ [y])
  | [], tail, i, m, o, s, _, _, h => ⟨[], s, by simp, by simpa using h, by simp⟩
  | y :: rest, tail, i, m, o, s, hd, hv, h => by
    obtain ⟨d1, d2, d3⟩ := drop_cons (r := rest ++ tail) hd
    obtain ⟨D1, s1, a1, a2, a3, _⟩ := one6 hn hk (m := rest.length + m) d2 hw (hv y (List.mem_cons_self ..)) h
    obtain ⟨D2, s2, b1, b2, b3⟩ := add6 hn hk hw rest tail (i + 1) m (o ++ D1) s1 d3 (fun v hv' => hv v (List.mem_cons_of_mem _ hv')) a2
    refine ⟨D1 ++ D2, s2, ?_, by rw [← List.append_assoc]; exact b2, ?_⟩
    · have e : (y :: rest).length + m = rest.length + m + 1 := by simp; omega
      have e2 : i + (y :: rest).length = i + 1 + rest.length := by simp; omega
      rw [e, e2, a1, b1, List.append_assoc]
    · intro e he
      rcases List.mem_append.1 he with he | he
      · exact ⟨y, List.mem_cons_self .., a3 e he⟩
      · obtain ⟨v, v1, v2⟩ := b3 e he
        exact ⟨v, List.mem_cons_of_mem _ v1, v2⟩

theorem loop6_end (w L : List Int) (i : Nat) (o : List (List Int)) (s : List (Int × Bool)) : Fishref2WayOf.loop6 w L 0 i o s = some (o, s) := rfl

/-- the entry is in order -/
def Wf (x : List (List Int)) (k : Nat) (w : List Int) : Prop := w ≠ [] ∧ w.length ≤ k ∧ 0 ≤ lst w ∧ lst w < x.length

theorem add5 (hn : Near x) (hs : ∀ row ∈ x, row.length * 8 ≤ 140737488351232) {k : Nat} (hk : k + 1 ≤ 100) : ∀ (lev : List (List Int)) (o : List (List Int)) (s : List (Int × Bool)), (∀ w ∈ lev, Wf x k w) → Inv6 x (k + 1) o s →
    ∃ D s', Fishref2WayOf.loop5 x lev o s = some (o ++ D, s') ∧ Inv6 x (k + 1) (o ++ D) s' ∧ ∀ e ∈ D, ∃ w ∈ lev, ∃ y ∈ rw_ x (lst w), e = w ++ [y]
  | [], o, s, _, h => ⟨[], s, by simp [Fishref2WayOf.loop5], by simpa using h, by simp⟩
  | w :: lev, o, s, hl, h => by
    obtain ⟨w1, w2, w3, w4⟩ := hl w (List.mem_cons_self ..)
    have hrow := gx_row (x := x) w3 w4
    have hval := hn.el _ hrow.2
    rw [Fishref2WayOf.loop5, gx_lst w1 (by omega), Option.bind_some, hrow.1, Option.bind_some, sorted_eq (hs _ hrow.2), Option.bind_some]
    obtain ⟨D1, s1, a1, a2, a3⟩ := add6 hn hk (w := w) (L := isort (rw_ x (lst w))) (by omega) (isort (rw_ x (lst w))) [] 0 0 o s (by simp) (fun y hy => hval y (mem_isort.1 hy)) h
    rw [Nat.add_zero] at a1
    rw [a1, loop6_end, Option.bind_some]
    obtain ⟨D2, s2, b1, b2, b3⟩ := add5 hn hs hk lev (o ++ D1) s1 (fun v hv => hl v (List.mem_cons_of_mem _ hv)) a2
    refine ⟨D1 ++ D2, s2, by simp only []; rw [b1, List.append_assoc], by rw [← List.append_assoc]; exact b2, ?_⟩
    intro e he
    rcases List.mem_append.1 he with he | he
    · obtain ⟨y, y1, y2⟩ := a3 e he
      exact ⟨w, List.mem_cons_self .., y, mem_isort.1 y1, y2⟩
    · obtain ⟨v, v1, y, y1, y2⟩ := b3 e he
      exact ⟨v, List.mem_cons_of_mem _ v1, y, y1, y2⟩

theorem loop5_app (A : List (List Int)) : ∀ (B o : List (List Int)) (s : List (Int × Bool)), Fishref2WayOf.loop5 x (A ++ B) o s = (Fishref2WayOf.loop5 x A o s).bind fun p => Fishref2WayOf.loop5 x B p.1 p.2 := by
  induction A with
  | nil => intro B o s; rfl
  | cons w A ih =>
    intro B o s
    rw [List.cons_append, Fishref2WayOf.loop5, Fishref2WayOf.loop5]
    cases gx w (w64 (((w.length : Nat) : Int) - 1)) with
    | none => rfl
    | some a =>
      simp only [Option.bind_some]
      cases gx x a with
      | none => rfl
      | some b =>
        simp only [Option.bind_some]
        cases SlicesSortedint_v1 b with
        | none => rfl
        | some c =>
          simp only [Option.bind_some]
          cases Fishref2WayOf.loop6 w c c.length 0 o s with
          | none => rfl
          | some p => simp only [Option.bind_some]; exact ih B p.1 p.2

theorem hit4 {to : Int} {B : List (List Int)} {acc : List Int} (ha : acc ≠ []) (hal : acc.length ≤ 1000) (he : lst acc = to) : ∀ (A : List (List Int)), (∀ w ∈ A, w ≠ [] ∧ w.length ≤ 1000 ∧ lst w ≠ to) → Fishref2WayOf.loop4 to (A ++ acc :: B) = some (.ret (acc, 0))
  | [], _ => by
    rw [List.nil_append, Fishref2WayOf.loop4, gx_lst ha hal, Option.bind_some, if_pos (by simpa using he)]
  | w :: A, h => by
    obtain ⟨h1, h2, h3⟩ := h w (List.mem_cons_self ..)
    rw [List.cons_append, Fishref2WayOf.loop4, gx_lst h1 h2, Option.bind_some, if_neg (by simpa using h3)]
    exact hit4 ha hal he A (fun v hv => h v (List.mem_cons_of_mem _ hv))
theorem miss4 {to : Int} : ∀ (A : List (List Int)), (∀ w ∈ A, w ≠ [] ∧ w.length ≤ 1000 ∧ lst w ≠ to) → Fishref2WayOf.loop4 to A = some (.next ())
  | [], _ => rfl
  | w :: A, h => by
    obtain ⟨h1, h2, h3⟩ := h w (List.mem_cons_self ..)
    rw [Fishref2WayOf.loop4, gx_lst h1 h2, Option.bind_some, if_neg (by simpa using h3)]
    exact miss4 A (fun v hv => h v (List.mem_cons_of_mem _ hv))
end
section
variable {x : List (List Int)} {to : Int} {l : List Int}
/-- one level on -/
theorem level (hn : Near x) (hs : ∀ row ∈ x, row.length * 8 ≤ 140737488351232) (hF : ∀ z : Int, 0 ≤ z → z < x.length → ∀ y ∈ rw_ x z, Quiet l z y) {k : Nat} (hk : k + 1 ≤ 100) {A B : List (List Int)} {acc : List Int} {z r : Int} {d : Int} (hd : 1 ≤ d)
    (wf : ∀ w ∈ A ++ acc :: B, Wf x k w) (weak : ∀ w ∈ A ++ acc :: B, F l (lst w) < 0 ∨ F l (lst w) ≥ d) (strong : ∀ w ∈ A, F l (lst w) < 0 ∨ F l (lst w) > d) (hacc : lst acc = z) (hz : F l z = d) (hr : IsNext x l z r) :
    ∃ A' B' s', Fishref2WayOf.loop5 x (A ++ acc :: B) [] [] = some (A' ++ (acc ++ [r]) :: B', s') ∧ (∀ w ∈ A' ++ (acc ++ [r]) :: B', Wf x (k + 1) w) ∧ (∀ w ∈ A' ++ (acc ++ [r]) :: B', F l (lst w) < 0 ∨ F l (lst w) ≥ d - 1) ∧ (∀ w ∈ A', F l (lst w) < 0 ∨ F l (lst w) > d - 1) := by
  have wfA : ∀ w ∈ A, Wf x k w := fun w hw => wf w (List.mem_append_left _ hw)
  have wfB : ∀ w ∈ B, Wf x k w := fun w hw => wf w (List.mem_append_right _ (List.mem_cons_of_mem _ hw))
  obtain ⟨c1, c2, c3, c4⟩ := wf acc (List.mem_append_right _ (List.mem_cons_self ..))
  obtain ⟨D1, s1, a1, a2, a3⟩ := add5 hn hs hk A [] [] wfA (Inv6.start _)
  rw [List.nil_append] at a1 a2
  rw [loop5_app, a1, Option.bind_some]
  simp only []
  have hrow := gx_row (x := x) c3 c4
  have hval := hn.el _ hrow.2
  rw [Fishref2WayOf.loop5, gx_lst c1 (by omega), Option.bind_some, hrow.1, Option.bind_some, sorted_eq (hs _ hrow.2), Option.bind_some]
  rw [hacc] at hrow hval ⊢
  have hzv : 0 ≤ z ∧ z < x.length := by rw [← hacc]; exact ⟨c3, c4⟩
  obtain ⟨S1, S2, e1, e2⟩ := List.eq_append_cons_of_mem (mem_isort.2 hr.mem)
  have hmem : ∀ y ∈ S1 ++ r :: S2, y ∈ rw_ x z := fun y hy => by rw [← e1] at hy; exact mem_isort.1 hy
  have hsort : List.Pairwise (fun a b => decide (a ≤ b) = true) (isort (rw_ x z)) := by
    refine List.pairwise_mergeSort ?_ ?_ _
    · intro a b c h1 h2; simp at h1 h2 ⊢; omega
    · intro a b; simp; omega
  rw [e1, List.pairwise_append] at hsort
  have hlt : ∀ y ∈ S1, y < r := by
    intro y hy
    have h1 := hsort.2.2 y hy r (List.mem_cons_self ..)
    have h2 : y ≠ r := by rintro rfl; exact e2 hy
    simp at h1; omega
  generalize hL : isort (rw_ x z) = L at e1 ⊢
  -- what comes of A, of the row's part below r: nothing so near
  have far1 : ∀ e ∈ D1, F l (lst e) < 0 ∨ F l (lst e) > d - 1 := by
    intro e he
    obtain ⟨w, hw, y, hy, rfl⟩ := a3 e he
    rw [lst_app]
    have hwv := (wfA w hw).2.2
    have hq := hF (lst w) hwv.1 hwv.2 y hy
    rcases Int.lt_or_le (F l y) 0 with h1 | h1
    · exact .inl h1
    · have := hq h1
      rcases strong w hw with h2 | h2 <;> omega
  obtain ⟨D2, s2, b1, b2, b3⟩ := add6 hn hk (w := acc) (L := L) (by omega) S1 (r :: S2) 0 (S2.length + 1) D1 s1 (by rw [List.drop_zero]; exact e1) (fun y hy => hval y (hmem y (List.mem_append_left _ hy))) a2
  have far2 : ∀ e ∈ D2, F l (lst e) < 0 ∨ F l (lst e) > d - 1 := by
    intro e he
    obtain ⟨y, hy, rfl⟩ := b3 e he
    rw [lst_app]
    have hyr := hmem y (List.mem_append_left _ hy)
    have hq := hF z hzv.1 hzv.2 y hyr
    rcases Int.lt_or_le (F l y) 0 with h1 | h1
    · exact .inl h1
    · have h2 := hq h1
      have h3 : ¬ Good l z y := fun hg => by have := hr.least y hyr hg; have := hlt y hy; omega
      have h4 : F l y ≠ F l z - 1 := fun k => h3 ⟨h1, k⟩
      omega
  have hlen : L.length = S1.length + (S2.length + 1) := by rw [e1]; simp
  rw [hlen, b1, Nat.zero_add]
  -- r itself
  have hLr : L[S1.length]? = some r := by rw [e1, List.getElem?_append_right (Nat.le_refl _)]; simp
  have hunseen : (mget s2 r).getD false = false := by
    cases hb : (mget s2 r).getD false with
    | false => rfl
    | true =>
      exfalso
      obtain ⟨e, he, hle⟩ := List.mem_map.1 ((b2.sn r).1 hb)
      have hg := hr.good
      unfold Good at hg
      rcases List.mem_append.1 he with he | he
      · have := far1 e he; rw [hle] at this; omega
      · have := far2 e he; rw [hle] at this; omega
  obtain ⟨D3, s3, f1, f2, _, f4⟩ := one6 hn hk (w := acc) (L := L) (i := S1.length) (m := S2.length) (k := k + 1) hLr (by omega) (hval r hr.mem) b2
  have hD3 := f4 hunseen
  subst hD3
  rw [f1]
  have hdrop : L.drop (S1.length + 1) = S2 ++ [] := by
    have h1 : S1.length + 1 = (S1 ++ [r]).length := by simp
    rw [e1, List.append_nil, h1, show S1 ++ r :: S2 = (S1 ++ [r]) ++ S2 by simp, List.drop_left]
  obtain ⟨D4, s4, g1, g2, g3⟩ := add6 hn hk (w := acc) (L := L) (by omega) S2 [] (S1.length + 1) 0 (D1 ++ D2 ++ [acc ++ [r]]) s3 hdrop (fun y hy => hval y (hmem y (List.mem_append_right _ (List.mem_cons_of_mem _ hy)))) f2
  rw [Nat.add_zero] at g1
  rw [g1, loop6_end, Option.bind_some]
  simp only []
  obtain ⟨D5, s5, h1, h2, h3⟩ := add5 hn hs hk B _ s4 wfB g2
  refine ⟨D1 ++ D2, D4 ++ D5, s5, ?_, ?_, ?_, ?_⟩
  · rw [h1]; simp
  · intro w hw
    have : w ∈ D1 ++ D2 ++ [acc ++ [r]] ++ D4 ++ D5 := by simpa using hw
    exact h2.val w this
  · have near : ∀ w : List Int, Wf x k w → (F l (lst w) < 0 ∨ F l (lst w) ≥ d) → ∀ y ∈ rw_ x (lst w), F l y < 0 ∨ F l y ≥ d - 1 := by
      intro w hw hw2 y hy
      have hq := hF (lst w) hw.2.2.1 hw.2.2.2 y hy
      rcases Int.lt_or_le (F l y) 0 with k1 | k1
      · exact .inl k1
      · have := hq k1
        rcases hw2 with h2 | h2 <;> omega
    intro w hw
    rcases List.mem_append.1 hw with hw | hw
    · rcases List.mem_append.1 hw with hw | hw
      · rcases far1 w hw with h | h <;> omega
      · rcases far2 w hw with h | h <;> omega
    · rcases List.mem_cons.1 hw with rfl | hw
      · rw [lst_app]; have := hr.good.2; omega
      · rcases List.mem_append.1 hw with hw | hw
        · obtain ⟨y, hy, rfl⟩ := g3 w hw
          rw [lst_app]
          have := near acc ⟨c1, c2, c3, c4⟩ (weak acc (List.mem_append_right _ (List.mem_cons_self ..))) y (by rw [hacc]; exact hmem y (List.mem_append_right _ (List.mem_cons_of_mem _ hy)))
          exact this
        · obtain ⟨v, hv, y, hy, rfl⟩ := h3 w hw
          rw [lst_app]
          exact near v (wfB v hv) (weak v (List.mem_append_right _ (List.mem_cons_of_mem _ hv))) y hy
  · intro w hw
    rcases List.mem_append.1 hw with hw | hw
    · exact far1 w hw
    · exact far2 w hw

theorem found (hn : Near x) (hs : ∀ row ∈ x, row.length * 8 ≤ 140737488351232) (hI : Inv x to l) (hF : ∀ z : Int, 0 ≤ z → z < x.length → ∀ y ∈ rw_ x z, Quiet l z y) : ∀ (p : List Int) (z : Int) (acc : List Int) (A B rows : List (List Int)) (k : Nat),
    Pth x l to z p → F l z = p.length → k + rows.length ≤ 99 → (∀ w ∈ A ++ acc :: B, Wf x k w) → (∀ w ∈ A ++ acc :: B, F l (lst w) < 0 ∨ F l (lst w) ≥ p.length) → (∀ w ∈ A, F l (lst w) < 0 ∨ F l (lst w) > p.length) → lst acc = z →
    p.length + 1 ≤ rows.length → Fishref2WayOf.loop3 x to rows (A ++ acc :: B) = some (.ret (acc ++ p, 0))
  | [], z, acc, A, B, rows, k, hp, hz, hk, wf, weak, strong, hacc, hl => by
    obtain ⟨row, rows, rfl⟩ : ∃ a b, rows = a :: b := by cases rows with | nil => simp at hl | cons a b => exact ⟨a, b, rfl⟩
    have hzt : z = to := by cases hp; rfl
    subst hzt
    obtain ⟨c1, c2, c3, c4⟩ := wf acc (List.mem_append_right _ (List.mem_cons_self ..))
    rw [Fishref2WayOf.loop3, hit4 c1 (by omega) hacc A (fun w hw => ?_), Option.bind_some]
    · simp
    · have hw1 := wf w (List.mem_append_left _ hw)
      refine ⟨hw1.1, by have := hw1.2.1; omega, ?_⟩
      intro e
      have := strong w hw
      rw [e, hI.zero] at this
      simp at this
  | r :: p, z, acc, A, B, rows, k, hp, hz, hk, wf, weak, strong, hacc, hl => by
    obtain ⟨row, rows, rfl⟩ : ∃ a b, rows = a :: b := by cases rows with | nil => simp at hl | cons a b => exact ⟨a, b, rfl⟩
    simp only [List.length_cons] at hz hk weak strong hl
    cases hp with
    | cons hzt hr hp' =>
      obtain ⟨A', B', s', u1, u2, u3, u4⟩ := level hn hs hF (k := k) (by omega) (d := F l z) (by omega) wf (fun w hw => by have := weak w hw; omega) (fun w hw => by have := strong w hw; omega) hacc rfl hr
      rw [Fishref2WayOf.loop3, miss4 _ (fun w hw => ?_), Option.bind_some]
      · simp only []
        rw [u1, Option.bind_some]
        simp only []
        rw [found hn hs hI hF p r (acc ++ [r]) A' B' rows (k + 1) hp' (by have := hr.good.2; omega) (by omega) u2 (fun w hw => by have := u3 w hw; omega) (fun w hw => by have := u4 w hw; omega) (lst_app ..) (by omega)]
        simp
      · have hw1 := wf w hw
        refine ⟨hw1.1, by have := hw1.2.1; omega, ?_⟩
        intro e
        have := weak w hw
        rw [e, hI.zero] at this
        omega

theorem lost (hn : Near x) (hs : ∀ row ∈ x, row.length * 8 ≤ 140737488351232) (hI : Inv x to l) (hF : ∀ z : Int, 0 ≤ z → z < x.length → ∀ y ∈ rw_ x z, Quiet l z y) : ∀ (rows lev : List (List Int)) (k : Nat),
    k + rows.length ≤ 99 → (∀ w ∈ lev, Wf x k w ∧ F l (lst w) < 0) → ∃ v, Fishref2WayOf.loop3 x to rows lev = some (.next v)
  | [], lev, k, _, _ => ⟨lev, rfl⟩
  | row :: rows, lev, k, hk, h => by
    simp only [List.length_cons] at hk
    rw [Fishref2WayOf.loop3, miss4 _ (fun w hw => ?_), Option.bind_some]
    · simp only []
      obtain ⟨D, s', a1, a2, a3⟩ := add5 hn hs (k := k) (by omega) lev [] [] (fun w hw => (h w hw).1) (Inv6.start _)
      rw [a1, Option.bind_some, List.nil_append]
      simp only []
      rw [List.nil_append] at a2
      refine lost hn hs hI hF rows D (k + 1) (by omega) (fun e he => ⟨a2.val e he, ?_⟩)
      obtain ⟨w, hw, y, hy, rfl⟩ := a3 e he
      rw [lst_app]
      have hw1 := (h w hw).1.2.2
      have hq := hF (lst w) hw1.1 hw1.2 y hy
      rcases Int.lt_or_le (F l y) 0 with h1 | h1
      · exact h1
      · have := hq h1; have := (h w hw).2; omega
    · have hw1 := (h w hw).1
      refine ⟨hw1.1, by have := hw1.2.1; omega, ?_⟩
      intro e
      have := (h w hw).2
      rw [e, hI.zero] at this
      omega
end
theorem zone_iff (x : List (List Int)) (z : Int) (hx : x.length ≤ 20) : FareWay_1_v1 z x = decide (0 ≤ z ∧ z < x.length) := by
  unfold FareWay_1_v1 Farewithin bnd
  rw [w64_id (by omega)]
  by_cases h1 : 0 ≤ z
  · by_cases h2 : z < x.length
    · have : z ≤ (x.length : Int) - 1 := by omega
      simp [h1, h2, this]
    · have : ¬ z ≤ (x.length : Int) - 1 := by omega
      simp [h1, h2, this]
  · simp [h1]

theorem idx_bad (x : List (List Int)) (hx : x.length ≤ 20) : ∀ (l : List Int) (k : Nat),
    (SlicesIndexFuncLint_v1.loop1 x l k = .next () ∧ ∀ y ∈ l, 0 ≤ y ∧ y < x.length) ∨ (∃ j : Nat, SlicesIndexFuncLint_v1.loop1 x l k = .ret (j : Int) ∧ ∃ y ∈ l, ¬ (0 ≤ y ∧ y < x.length))
  | [], k => .inl ⟨rfl, by intro y hy; cases hy⟩
  | y :: l, k => by
    rw [SlicesIndexFuncLint_v1.loop1]
    unfold FareWay_2_v1
    rw [zone_iff x y hx]
    by_cases c : 0 ≤ y ∧ y < x.length
    · simp only [c, and_self, decide_true, Bool.not_true, Bool.false_eq_true, if_false]
      rcases idx_bad x hx l (k + 1) with ⟨a, b⟩ | ⟨j, a, v, v1, v2⟩
      · left
        refine ⟨a, ?_⟩
        intro v hv
        rcases List.mem_cons.1 hv with rfl | hv
        · exact c
        · exact b v hv
      · exact .inr ⟨j, a, v, List.mem_cons_of_mem _ v1, v2⟩
    · right
      refine ⟨k, by simp [c], y, List.mem_cons_self .., c⟩

theorem row_ref (x : List (List Int)) : ∀ l : List Int, (Fishref2WayOf.loop2 x l = .next () ∧ ∀ y ∈ l, 0 ≤ y ∧ y < x.length) ∨ (Fishref2WayOf.loop2 x l = .ret ([], 2) ∧ ∃ y ∈ l, ¬ (0 ≤ y ∧ y < x.length))
  | [] => .inl ⟨rfl, by intro y hy; cases hy⟩
  | y :: l => by
    rw [Fishref2WayOf.loop2]
    have e : (if decide (y < 0) = true then true else decide (y ≥ (x.length : Int))) = decide (¬ (0 ≤ y ∧ y < x.length)) := by
      by_cases h1 : y < 0
      · have : ¬ 0 ≤ y := by omega
        simp [h1, this]
      · have : 0 ≤ y := by omega
        simp [h1, this]
    rw [e]
    simp only [bnd]
    by_cases c : 0 ≤ y ∧ y < x.length
    · rw [if_neg (by rw [decide_eq_true_eq]; exact fun k => k c)]
      rcases row_ref x l with ⟨a, b⟩ | ⟨a, v, v1, v2⟩
      · left
        refine ⟨a, ?_⟩
        intro v hv
        rcases List.mem_cons.1 hv with rfl | hv
        · exact c
        · exact b v hv
      · exact .inr ⟨a, v, List.mem_cons_of_mem _ v1, v2⟩
    · rw [if_pos (by rw [decide_eq_true_eq]; exact c)]
      exact .inr ⟨rfl, y, List.mem_cons_self .., c⟩

theorem has_bad (x : List (List Int)) (hx : x.length ≤ 20) (row : List Int) : (SlicesContainsFuncLint_v1 row x = false ∧ ∀ y ∈ row, 0 ≤ y ∧ y < x.length) ∨ (SlicesContainsFuncLint_v1 row x = true ∧ ∃ y ∈ row, ¬ (0 ≤ y ∧ y < x.length)) := by
  unfold SlicesContainsFuncLint_v1
  rcases idx_bad x hx row 0 with ⟨a, b⟩ | ⟨j, a, b⟩
  · have e : SlicesIndexFuncLint_v1 row x = -1 := by unfold SlicesIndexFuncLint_v1; rw [a]; rfl
    rw [e]; exact .inl ⟨rfl, b⟩
  · have e : SlicesIndexFuncLint_v1 row x = (j : Int) := by unfold SlicesIndexFuncLint_v1; rw [a]; rfl
    rw [e]; exact .inr ⟨by simp, b⟩

theorem rows_ok (x : List (List Int)) (hx : x.length ≤ 20) : ∀ l : List (List Int),
    (FareWay.loop1 x l = .next () ∧ Fishref2WayOf.loop1 x l = .next () ∧ ∀ row ∈ l, ∀ y ∈ row, 0 ≤ y ∧ y < x.length) ∨ (FareWay.loop1 x l = .ret ([], 2) ∧ Fishref2WayOf.loop1 x l = .ret ([], 2))
  | [] => .inl ⟨rfl, rfl, by intro row hr; cases hr⟩
  | row :: l => by
    rw [FareWay.loop1, Fishref2WayOf.loop1]
    rcases has_bad x hx row with ⟨a, b⟩ | ⟨a, v, v1, v2⟩
    · rw [a]
      rcases row_ref x row with ⟨c, _⟩ | ⟨_, v, v1, v2⟩
      · rw [c]
        simp only [bnd, Bool.false_eq_true, if_false]
        rcases rows_ok x hx l with ⟨d, e, g⟩ | h
        · refine .inl ⟨d, e, ?_⟩
          intro r hr
          rcases List.mem_cons.1 hr with rfl | hr
          · exact b
          · exact g r hr
        · exact .inr h
      · exact absurd (b v v1) v2
    · rw [a]
      rcases row_ref x row with ⟨_, c⟩ | ⟨c, _⟩
      · exact absurd (c v v1) v2
      · rw [c]
        simp only [bnd, if_true]
        exact .inr ⟨trivial, trivial⟩

theorem mu_le {to : Int} {x : List (List Int)} {l : List Int} (h : Inv x to l) (hn : Near x) : mu l ≤ 600 := by
  have hc := h.cntle
  have h20 := hn.n
  have key : ∀ (r : List Int) (k : Nat), l.drop k = r → (r.map wt).sum ≤ 30 * r.length := by
    intro r
    induction r with
    | nil => intro k _; simp
    | cons a r ih =>
      intro k hd
      obtain ⟨d1, d2, d3⟩ := drop_cons hd
      have h1 := ih (k + 1) d3
      have h2 : wt a ≤ 30 := by
        have ht := h.top (k : Int) (by omega) (by have := h.len; omega)
        have hF : F l (k : Int) = a := by
          unfold F; rw [List.getD_eq_getElem?_getD, Int.toNat_natCast, d2]; rfl
        rw [hF] at ht
        unfold wt
        split <;> omega
      simp only [List.map_cons, List.sum_cons, List.length_cons]
      omega
  have := key l 0 (List.drop_zero ..)
  have hl := h.len
  unfold mu
  omega

theorem FareWays_law (x0 : List (List Int)) (x1 : Int) (x2 : Int) (hx0 : x0.length * 24 ≤ reachBytes ∧ ∀ t ∈ x0, t.length * 8 ≤ reachBytes ∧ ∀ y ∈ t, True) (_ : -9223372036854775808 ≤ x1 ∧ x1 ≤ 9223372036854775807) (_ : -9223372036854775808 ≤ x2 ∧ x2 ≤ 9223372036854775807) : ∃ fu, Fishlaw2FareWays fu x0 x1 x2 = some true := by
  refine ⟨700 + 60, ?_⟩
  have hr : reachBytes = 140737488351232 := rfl
  have hs : ∀ row ∈ x0, row.length * 8 ≤ 140737488351232 := fun t ht => by have := (hx0.2 t ht).1; omega
  unfold Fishlaw2FareWays
  have key : ∃ r, FareWay (700 + 60) x0 x1 x2 = some r ∧ Fishref2WayOf x0 x1 x2 = some r := by
    unfold FareWay Fishref2WayOf
    by_cases c : decide ((x0.length : Int) > 20) = true
    · rw [if_pos c, if_pos c]; exact ⟨_, rfl, rfl⟩
    rw [if_neg c, if_neg c]
    have hx : x0.length ≤ 20 := by simp at c; omega
    rcases rows_ok x0 hx x0 with ⟨r1, r2, r3⟩ | ⟨r1, r2⟩
    rotate_left
    · rw [r1, r2]; exact ⟨_, rfl, rfl⟩
    rw [r1, r2]
    have hn : Near x0 := ⟨hx, r3⟩
    simp only [bnd]
    rw [zone_iff x0 x1 hx, zone_iff x0 x2 hx]
    by_cases c1 : 0 ≤ x1 ∧ x1 < x0.length
    rotate_left
    · have e1 : (if (!decide (0 ≤ x1 ∧ x1 < (x0.length : Int))) = true then true else !decide (0 ≤ x2 ∧ x2 < (x0.length : Int))) = true := by simp [c1]
      have e2 : (if decide (x1 < 0) = true then true else if decide (x1 ≥ (x0.length : Int)) = true then true else if decide (x2 < 0) = true then true else decide (x2 ≥ (x0.length : Int))) = true := by
        by_cases k1 : x1 < 0
        · simp [k1]
        · have : x1 ≥ (x0.length : Int) := by omega
          simp [this]
      rw [e1, e2]; exact ⟨_, rfl, rfl⟩
    by_cases c2 : 0 ≤ x2 ∧ x2 < x0.length
    rotate_left
    · have e1 : (if (!decide (0 ≤ x1 ∧ x1 < (x0.length : Int))) = true then true else !decide (0 ≤ x2 ∧ x2 < (x0.length : Int))) = true := by simp [c1, c2]
      have e2 : (if decide (x1 < 0) = true then true else if decide (x1 ≥ (x0.length : Int)) = true then true else if decide (x2 < 0) = true then true else decide (x2 ≥ (x0.length : Int))) = true := by
        have k1 : ¬ x1 < 0 := by omega
        have k2 : ¬ x1 ≥ (x0.length : Int) := by omega
        by_cases k3 : x2 < 0
        · simp [k3]
        · have : x2 ≥ (x0.length : Int) := by omega
          simp [this]
      rw [e1, e2]; exact ⟨_, rfl, rfl⟩
    have e1 : (if (!decide (0 ≤ x1 ∧ x1 < (x0.length : Int))) = true then true else !decide (0 ≤ x2 ∧ x2 < (x0.length : Int))) = false := by simp [c1, c2]
    have e2 : (if decide (x1 < 0) = true then true else if decide (x1 ≥ (x0.length : Int)) = true then true else if decide (x2 < 0) = true then true else decide (x2 ≥ (x0.length : Int))) = false := by
      have k1 : ¬ x1 < 0 := by omega
      have k2 : ¬ x1 ≥ (x0.length : Int) := by omega
      have k3 : ¬ x2 < 0 := by omega
      have k4 : ¬ x2 ≥ (x0.length : Int) := by omega
      simp [k1, k2, k3, k4]
    rw [e1, e2]
    simp only [Bool.false_eq_true, if_false]
    rw [rep25 700 x0.length (by omega), Option.bind_some, ix_in c2.1 (by simpa using c2.2), Option.bind_some, sx_in c2.1 (by simpa using c2.2), Option.bind_some]
    have hF0 : ∀ y : Int, 0 ≤ y → F ((List.replicate x0.length (-1 : Int)).set x2.toNat 0) y = if y = x2 then 0 else -1 := by
      intro y hy
      rw [F_set c2.1 (by simpa using c2.2) hy]
      split
      · rfl
      · unfold F
        rw [List.getD_eq_getElem?_getD, List.getElem?_replicate]
        split <;> rfl
    have hcnt : 1 ≤ cnt ((List.replicate x0.length (-1 : Int)).set x2.toNat 0) := by
      unfold cnt
      refine List.countP_pos_iff.2 ⟨0, ?_, by simp⟩
      exact List.mem_set (by simp; omega) _
    have hI : Inv x0 x2 ((List.replicate x0.length (-1 : Int)).set x2.toNat 0) := by
      refine ⟨by simp, by rw [hF0 x2 c2.1, if_pos rfl], ?_, ?_, ?_⟩
      · intro z h0 h1 hz hF
        rw [hF0 z h0, if_neg hz] at hF
        omega
      · intro z h0 h1
        rw [hF0 z h0]; split <;> omega
      · intro z h0 h1
        rw [hF0 z h0]; split <;> omega
    obtain ⟨q, l, s1, s2, s3⟩ := settle hn (700 + 60) _ hI (by have := mu_le hI hn; omega)
    rw [s1, Option.bind_some]
    simp only []
    have hlen := s2.len
    rw [gx_F c1.1 (by omega), Option.bind_some]
    have start : Wf x0 1 [x1] := ⟨by simp, by simp, by simp [lst]; exact c1.1, by simp [lst]; exact c1.2⟩
    by_cases hneg : F l x1 < 0
    · rw [if_pos (by simpa using hneg)]
      obtain ⟨v, hv⟩ := lost hn hs s2 s3 x0 [[x1]] 1 (by omega) (by
        intro w hw
        simp at hw; subst hw
        exact ⟨start, by simpa [lst] using hneg⟩)
      rw [hv]
      exact ⟨_, rfl, rfl⟩
    · rw [if_neg (by simpa using hneg)]
      have htop := s2.top x1 c1.1 c1.2
      have hc := s2.cntle
      obtain ⟨p, p1, p2, p3⟩ := walk5 hn s2 s3 (F l x1).toNat x1 c1.1 c1.2 (by omega)
      rw [p3 (700 + 60) [x1] (by omega) (by simp; omega), Option.bind_some]
      have hf := found hn hs s2 s3 p x1 [x1] [] [] x0 1 p1 (by omega) (by omega) (by
        intro w hw
        simp at hw; subst hw
        exact start) (by
        intro w hw
        simp at hw; subst hw
        right; simp [lst]; omega) (by intro w hw; cases hw) (by simp [lst]) (by omega)
      rw [List.nil_append] at hf
      rw [hf]
      exact ⟨_, rfl, rfl⟩
  obtain ⟨r, r1, r2⟩ := key
  rw [r1, r2]
  have hf := fares_true 700
  rw [hf]
  simp [equal_refl]
end Go.Fp
