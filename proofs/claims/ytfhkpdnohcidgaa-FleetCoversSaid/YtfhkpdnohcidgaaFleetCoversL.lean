/- FleetCovers: the mirror of the law is true of all tasks, turning times and tables of empty runs. -/
import Derived.Test.YtfhkpdnohcidgaaFleetCoversM
import Derived.Test.YtfhkpdnohcidgaaFpPlain
import Derived.KernelRfl
namespace Go.Fp

def gd (l : List Int) (j : Nat) : Int := l[j]?.getD 0
theorem gd_at {l : List Int} {j : Nat} (h : j < l.length) : gd l j = l[j] := by simp [gd, h]
theorem gd_set {l : List Int} {k : Nat} (hk : k < l.length) (v : Int) (j : Nat) : gd (l.set k v) j = if j = k then v else gd l j := by
  unfold gd
  rw [List.getElem?_set]
  by_cases e : k = j
  · subst e; simp [hk]
  · simp [e, Ne.symm e]
/-- the sum of the first m -/
def sg : Nat → (Nat → Int) → Int
  | 0, _ => 0
  | m + 1, f => sg m f + f m
theorem sg_congr {f g : Nat → Int} : ∀ {m : Nat}, (∀ i, i < m → f i = g i) → sg m f = sg m g
  | 0, _ => rfl
  | m + 1, h => by rw [sg, sg, sg_congr (fun i hi => h i (by omega)), h m (by omega)]
theorem sg_add (f g : Nat → Int) : ∀ (m : Nat), sg m (fun i => f i + g i) = sg m f + sg m g
  | 0 => rfl
  | m + 1 => by simp only [sg]; rw [sg_add f g m]; omega
theorem sg_neg (f : Nat → Int) : ∀ (m : Nat), sg m (fun i => -f i) = -sg m f
  | 0 => rfl
  | m + 1 => by simp only [sg]; rw [sg_neg f m]; omega
theorem sg_sub (f g : Nat → Int) : ∀ (m : Nat), sg m (fun i => f i - g i) = sg m f - sg m g
  | 0 => rfl
  | m + 1 => by simp only [sg]; rw [sg_sub f g m]; omega
theorem sg_le {f g : Nat → Int} : ∀ {m : Nat}, (∀ i, i < m → f i ≤ g i) → sg m f ≤ sg m g
  | 0, _ => by simp [sg]
  | m + 1, h => by
    have h1 := sg_le (m := m) (fun i hi => h i (by omega))
    have h2 := h m (by omega)
    simp only [sg]; omega
theorem sg_zero : ∀ (m : Nat), sg m (fun _ => 0) = 0
  | 0 => rfl
  | m + 1 => by simp only [sg]; rw [sg_zero m]; rfl
theorem sg_nonneg {f : Nat → Int} {m : Nat} (h : ∀ i, i < m → 0 ≤ f i) : 0 ≤ sg m f := by
  have := sg_le (m := m) (f := fun _ => 0) (g := f) h
  rw [sg_zero] at this; exact this
theorem sg_lt {f g : Nat → Int} : ∀ {m : Nat} {j : Nat}, (∀ i, i < m → f i ≤ g i) → j < m → f j < g j → sg m f < sg m g
  | 0, _, _, h, _ => absurd h (by omega)
  | m + 1, j, h, hj, hs => by
    simp only [sg]
    have h2 := h m (by omega)
    by_cases e : j = m
    · subst e
      have h1 := sg_le (m := j) (fun i hi => h i (by omega))
      omega
    · have h1 := sg_lt (m := m) (fun i hi => h i (by omega)) (show j < m by omega) hs
      omega
theorem sg_split (f : Nat → Int) (a : Nat) : ∀ (b : Nat), sg (a + b) f = sg a f + sg b (fun i => f (a + i))
  | 0 => by simp [sg]
  | b + 1 => by
    rw [← Nat.add_assoc]
    simp only [sg]
    rw [sg_split f a b]; omega
theorem sg_ge_one {f : Nat → Int} {m j : Nat} (h : ∀ i, i < m → 0 ≤ f i) (hj : j < m) : f j ≤ sg m f := by
  have h1 := sg_le (m := m) (f := fun i => if i = j then f i else 0) (g := f) (fun i hi => by
    have := h i hi
    by_cases e : i = j
    · simp [e]
    · simp [e]; exact this)
  have h2 : ∀ (m : Nat), j < m → sg m (fun i => if i = j then f i else 0) = f j := by
    intro m
    induction m with
    | zero => intro h; omega
    | succ m ih =>
      intro hm
      simp only [sg]
      by_cases e : j = m
      · subst e
        have : sg j (fun i => if i = j then f i else 0) = 0 := by
          rw [sg_congr (g := fun _ => 0) (fun i hi => by simp; omega), sg_zero]
        rw [this]; simp
      · rw [ih (by omega)]
        have : ¬ m = j := fun h => e h.symm
        simp [this]
  rw [h2 m hj] at h1; exact h1
/-- one arc more or less -/
theorem sg_push (x w : Nat → Int) (j : Nat) (c : Int) : ∀ (m : Nat), j < m → sg m (fun i => (if i = j then x i + c else x i) * w i) = sg m (fun i => x i * w i) + c * w j
  | 0, h => absurd h (by omega)
  | m + 1, h => by
    simp only [sg]
    by_cases e : j = m
    · subst e
      have h1 : sg j (fun i => (if i = j then x i + c else x i) * w i) = sg j (fun i => x i * w i) := sg_congr (fun i hi => by
        have : ¬ i = j := by omega
        simp [this])
      rw [h1]
      simp only [if_true]
      rw [Int.add_mul]; omega
    · have h1 := sg_push x w j c m (by omega)
      rw [h1]
      have : ¬ m = j := fun h => e h.symm
      simp only [this, if_false]; omega

section flow
variable (m : Nat) (U V : Nat → Nat) (lo hi : Nat → Int)
/-- from a to b one unit may go -/
def Res (x : Nat → Int) (a b : Nat) : Prop := ∃ i, i < m ∧ ((U i = a ∧ V i = b ∧ x i < hi i) ∨ (V i = a ∧ U i = b ∧ lo i < x i))
def Rch (x : Nat → Int) (u : Nat) : Nat → Nat → Prop
  | 0, w => w = u
  | d + 1, w => Rch x u d w ∨ ∃ w', Res m U V lo hi x w w' ∧ Rch x u d w'
theorem Rch.u (x : Nat → Int) (u : Nat) : ∀ d, Rch m U V lo hi x u d u
  | 0 => rfl
  | d + 1 => .inl (Rch.u x u d)
/-- what comes in -/
def Fl (x p : Nat → Int) : Int := sg m (fun i => x i * (p (V i) - p (U i)))
theorem moved (x : Nat → Int) (a : Nat) (ha : a < m) (hal : x a < lo a) (hx : ∀ i, i < m → x i ≤ hi i) : ∀ (d w : Nat), Rch m U V lo hi x (U a) d w →
    ∃ x', (∀ i, i < m → x' i ≤ hi i) ∧ (∀ i, i < m → x' i < x i → lo i ≤ x' i) ∧ (∀ p, Fl m U V x' p = Fl m U V x p + p (U a) - p w) ∧ x' a = x a ∧
      ∀ i, i < m → (¬ Rch m U V lo hi x (U a) d (U i) ∨ ¬ Rch m U V lo hi x (U a) d (V i)) → x' i = x i
  | 0, w, h => by
    obtain rfl : w = U a := h
    exact ⟨x, hx, fun i _ h => absurd h (by omega), fun p => by omega, rfl, fun _ _ _ => rfl⟩
  | d + 1, w, h => by
    by_cases hd : Rch m U V lo hi x (U a) d w
    · obtain ⟨x', h1, h2, h3, h4, h5⟩ := moved x a ha hal hx d w hd
      refine ⟨x', h1, h2, h3, h4, fun i hi' h => h5 i hi' ?_⟩
      exact h.imp (fun h k => h (.inl k)) (fun h k => h (.inl k))
    · rcases h with h | ⟨w', ⟨i, him, hi'⟩, hw'⟩
      · exact absurd h hd
      · obtain ⟨x', h1, h2, h3, h4, h5⟩ := moved x a ha hal hx d w' hw'
        have hwu : w ≠ U a := fun e => hd (e ▸ Rch.u m U V lo hi x (U a) d)
        have hout : ∀ j, j < m → (¬ Rch m U V lo hi x (U a) (d + 1) (U j) ∨ ¬ Rch m U V lo hi x (U a) (d + 1) (V j)) → j ≠ i ∧ x' j = x j := by
          intro j hj h
          refine ⟨fun e => ?_, h5 j hj (h.imp (fun h k => h (.inl k)) (fun h k => h (.inl k)))⟩
          subst e
          have r1 : Rch m U V lo hi x (U a) (d + 1) w := .inr ⟨w', ⟨j, him, hi'⟩, hw'⟩
          have r2 : Rch m U V lo hi x (U a) (d + 1) w' := .inl hw'
          rcases hi' with ⟨e1, e2, _⟩ | ⟨e1, e2, _⟩
          · rw [e1, e2] at h; rcases h with h | h
            · exact h r1
            · exact h r2
          · rw [e1, e2] at h; rcases h with h | h
            · exact h r2
            · exact h r1
        rcases hi' with ⟨e1, e2, e3⟩ | ⟨e1, e2, e3⟩
        · have hxi : x' i = x i := h5 i him (.inl (by rw [e1]; exact hd))
          have hia : i ≠ a := fun e => hwu (by rw [← e1, e])
          refine ⟨fun j => if j = i then x' j + 1 else x' j, ?_, ?_, ?_, ?_, ?_⟩
          · intro j hj
            have := h1 j hj
            by_cases e : j = i
            · subst e; simp; omega
            · simp [e]; exact this
          · intro j hj
            have := h2 j hj
            by_cases e : j = i
            · subst e; simp; omega
            · simpa [e] using this
          · intro p
            unfold Fl
            rw [sg_push x' (fun k => p (V k) - p (U k)) i 1 m him]
            have := h3 p
            unfold Fl at this
            rw [this, e1, e2]; omega
          · simp [Ne.symm hia, h4]
          · intro j hj h
            obtain ⟨k1, k2⟩ := hout j hj h
            simp [k1, k2]
        · have hxi : x' i = x i := h5 i him (.inr (by rw [e1]; exact hd))
          have hia : i ≠ a := fun e => by subst e; omega
          refine ⟨fun j => if j = i then x' j + (-1) else x' j, ?_, ?_, ?_, ?_, ?_⟩
          · intro j hj
            have := h1 j hj
            by_cases e : j = i
            · subst e; simp; omega
            · simp [e]; exact this
          · intro j hj
            have := h2 j hj
            by_cases e : j = i
            · subst e; simp; omega
            · simpa [e] using this
          · intro p
            unfold Fl
            rw [sg_push x' (fun k => p (V k) - p (U k)) i (-1) m him]
            have := h3 p
            unfold Fl at this
            rw [this, e1, e2]; omega
          · simp [Ne.symm hia, h4]
          · intro j hj h
            obtain ⟨k1, k2⟩ := hout j hj h
            simp [k1, k2]
open Classical in
theorem hoffman (hlh : ∀ i, i < m → lo i ≤ hi i) (h0 : ∀ i, i < m → 0 ≤ hi i) : (∃ x : Nat → Int, (∀ i, i < m → lo i ≤ x i ∧ x i ≤ hi i) ∧ ∀ p, Fl m U V x p = 0) ∨
    ∃ S : Nat → Bool, sg m (fun i => if S (U i) then (if S (V i) then 0 else hi i) else (if S (V i) then - lo i else 0)) < 0 := by
  have main : ∀ (k : Nat) (x : Nat → Int), (∀ i, i < m → x i ≤ hi i) → (∀ p, Fl m U V x p = 0) → sg m (fun i => max 0 (lo i - x i)) ≤ k →
      (∃ x : Nat → Int, (∀ i, i < m → lo i ≤ x i ∧ x i ≤ hi i) ∧ ∀ p, Fl m U V x p = 0) ∨
      ∃ S : Nat → Bool, sg m (fun i => if S (U i) then (if S (V i) then 0 else hi i) else (if S (V i) then - lo i else 0)) < 0 := by
    intro k
    induction k with
    | zero =>
      intro x hx hp hk
      refine .inl ⟨x, fun i hi' => ⟨?_, hx i hi'⟩, hp⟩
      have := sg_ge_one (f := fun i => max 0 (lo i - x i)) (m := m) (j := i) (fun i _ => by omega) hi'
      omega
    | succ k ih =>
      intro x hx hp hk
      by_cases hall : ∀ i, i < m → lo i ≤ x i
      · exact .inl ⟨x, fun i hi' => ⟨hall i hi', hx i hi'⟩, hp⟩
      · simp only [Classical.not_forall, Int.not_le] at hall
        obtain ⟨a, ha, hal⟩ := hall
        by_cases hr : ∃ d, Rch m U V lo hi x (U a) d (V a)
        · obtain ⟨d, hr⟩ := hr
          obtain ⟨x', h1, h2, h3, h4, h5⟩ := moved m U V lo hi x a ha hal hx d (V a) hr
          have hla := hlh a ha
          refine ih (fun j => if j = a then x' j + 1 else x' j) ?_ ?_ ?_
          · intro i hi'
            have := h1 i hi'
            by_cases e : i = a
            · subst e; simp; omega
            · simp [e]; exact this
          · intro p
            unfold Fl
            rw [sg_push x' (fun k => p (V k) - p (U k)) a 1 m ha]
            have e1 := h3 p
            have e2 := hp p
            unfold Fl at e1 e2
            rw [e1, e2]; omega
          · have := sg_lt (m := m) (j := a) (f := fun i => max 0 (lo i - (if i = a then x' i + 1 else x' i))) (g := fun i => max 0 (lo i - x i)) (fun i hi' => by
                have := h2 i hi'
                by_cases e : i = a
                · subst e; simp only [if_true]; omega
                · simp only [e, if_false]; omega) ha (by simp only [if_true]; omega)
            omega
        · refine .inr ⟨fun w => !decide (∃ d, Rch m U V lo hi x (U a) d w), ?_⟩
          have hz := hp (fun w => if (∃ d, Rch m U V lo hi x (U a) d w) then 0 else 1)
          have := sg_lt (m := m) (j := a) (f := fun i => if (!decide (∃ d, Rch m U V lo hi x (U a) d (U i))) then (if (!decide (∃ d, Rch m U V lo hi x (U a) d (V i))) then 0 else hi i) else (if (!decide (∃ d, Rch m U V lo hi x (U a) d (V i))) then - lo i else 0))
            (g := fun i => -(x i * ((if (∃ d, Rch m U V lo hi x (U a) d (V i)) then (0 : Int) else 1) - (if (∃ d, Rch m U V lo hi x (U a) d (U i)) then 0 else 1)))) (fun i hi' => by
              by_cases hu : ∃ d, Rch m U V lo hi x (U a) d (U i) <;> by_cases hv : ∃ d, Rch m U V lo hi x (U a) d (V i)
              · simp [hu, hv]
              · simp only [hu, hv, decide_true, decide_false, Bool.not_true, Bool.not_false, if_true, if_false, Bool.false_eq_true]
                have : x i ≤ lo i := by
                  apply Int.not_lt.1
                  intro hlt
                  obtain ⟨d, hd⟩ := hu
                  exact hv ⟨d + 1, .inr ⟨U i, ⟨i, hi', .inr ⟨rfl, rfl, hlt⟩⟩, hd⟩⟩
                omega
              · simp only [hu, hv, decide_true, decide_false, Bool.not_true, Bool.not_false, if_true, if_false, Bool.false_eq_true]
                have : hi i ≤ x i := by
                  apply Int.not_lt.1
                  intro hlt
                  obtain ⟨d, hd⟩ := hv
                  exact hu ⟨d + 1, .inr ⟨V i, ⟨i, hi', .inl ⟨rfl, rfl, hlt⟩⟩, hd⟩⟩
                omega
              · simp [hu, hv]) ha (by
              have hu : ∃ d, Rch m U V lo hi x (U a) d (U a) := ⟨0, rfl⟩
              simp only [hu, hr, decide_true, decide_false, Bool.not_true, Bool.not_false, if_true, if_false, Bool.false_eq_true]
              omega)
          rw [sg_neg] at this
          unfold Fl at hz
          rw [hz] at this
          simpa using this
  have hb : sg m (fun i => max 0 (lo i - 0)) ≤ ((sg m (fun i => max 0 (lo i - 0))).toNat : Nat) := by omega
  refine main _ (fun _ => 0) h0 (fun p => ?_) hb
  unfold Fl
  rw [sg_congr (g := fun _ => 0) (fun i _ => by simp), sg_zero]
end flow
theorem sg_const (c : Int) : ∀ (m : Nat), sg m (fun _ => c) = m * c
  | 0 => by simp [sg]
  | m + 1 => by
    simp only [sg]
    rw [sg_const c m, Int.natCast_succ, Int.add_mul]; omega
def gb (l : List Bool) (j : Nat) : Bool := l[j]?.getD false
theorem gb_at {l : List Bool} {j : Nat} (h : j < l.length) : gb l j = l[j] := by simp [gb, h]
theorem gb_set {l : List Bool} {k : Nat} (hk : k < l.length) (v : Bool) (j : Nat) : gb (l.set k v) j = if j = k then v else gb l j := by
  unfold gb
  rw [List.getElem?_set]
  by_cases e : k = j
  · subst e; simp [hk]
  · simp [e, Ne.symm e]
theorem gx_gb {l : List Bool} {k : Nat} (h : k < l.length) : gx l ((k : Nat) : Int) = some (gb l k) := by rw [gx_at h, gb_at h]
theorem gx_gd {l : List Int} {k : Nat} (h : k < l.length) : gx l ((k : Nat) : Int) = some (gd l k) := by rw [gx_at h, gd_at h]
theorem ix_c {α : Type} {l : List α} {k : Nat} (h : k < l.length) : ix l ((k : Nat) : Int) = some () := ix_in (by omega) (by omega)
theorem sx_c {α : Type} {l : List α} {k : Nat} (h : k < l.length) (v : α) : sx l ((k : Nat) : Int) v = some (l.set k v) := by
  rw [sx_in (by omega) (by omega)]; rfl
/-- how many are not marked -/
def us : List Bool → Nat
  | [] => 0
  | x :: l => (if x then 0 else 1) + us l
theorem us_set : ∀ (l : List Bool) (k : Nat), k < l.length → gb l k = false → us (l.set k true) + 1 = us l
  | [], _, h, _ => absurd h (by simp)
  | x :: l, 0, _, h => by
    have : x = false := h
    subst this
    simp [us]; omega
  | x :: l, k + 1, h, hb => by
    have := us_set l k (by simpa using h) hb
    simp only [List.set_cons_succ, us]; omega
theorem us_mono : ∀ (l l' : List Bool), l.length = l'.length → (∀ j, gb l j = true → gb l' j = true) → us l' ≤ us l
  | [], [], _, _ => Nat.le_refl _
  | [], _ :: _, h, _ => by simp at h
  | _ :: _, [], h, _ => by simp at h
  | x :: l, y :: l', h, hh => by
    have h1 := us_mono l l' (by simpa using h) (fun j hj => hh (j + 1) hj)
    have h2 : x = true → y = true := hh 0
    simp only [us]
    cases x <;> cases y <;> simp_all <;> omega
def rel (A : List (List Bool)) (i j : Nat) : Bool := gb (A[i]?.getD []) j
/-- a matching of what is not set aside -/
structure Mt (A : List (List Bool)) (n : Nat) (EL ER : Nat → Prop) (nx pv : List Int) : Prop where
  nl : nx.length = n
  pl : pv.length = n
  p : ∀ b, b < n → ¬ ER b → 0 ≤ gd pv b → ∃ i : Nat, gd pv b = i ∧ i < n ∧ ¬ EL i ∧ gd nx i = b
  q : ∀ i, i < n → ¬ EL i → 0 ≤ gd nx i → ∃ b : Nat, gd nx i = b ∧ b < n ∧ ¬ ER b ∧ gd pv b = i ∧ rel A i b = true
/-- from where no free one is reached -/
def Clo (A : List (List Bool)) (n : Nat) (pv : List Int) (S : Nat → Prop) : Prop := ∀ b, b < n → S b → ∃ x : Nat, gd pv b = x ∧ x < n ∧ ∀ b', b' < n → rel A x b' = true → S b'
structure Won (A : List (List Bool)) (n : Nat) (EL ER : Nat → Prop) (a : Nat) (nx pv nx' pv' : List Int) : Prop where
  mt : Mt A n (fun i => EL i ∧ i ≠ a) ER nx' pv'
  got : 0 ≤ gd nx' a
  el : ∀ i, i ≠ a → EL i → gd nx' i = gd nx i
  same : ∀ i, i ≠ a → (0 ≤ gd nx' i ↔ 0 ≤ gd nx i)
  er : ∀ b, ER b → gd pv' b = gd pv b
  out : ∀ S, Clo A n pv S → (∃ b, b < n ∧ rel A a b = true ∧ ¬ S b) ∧ ∀ b, b < n → S b → gd pv' b = gd pv b
structure Lost (A : List (List Bool)) (n a : Nat) (pv : List Int) (seen seen' : List Bool) : Prop where
  all : ∀ b, b < n → rel A a b = true → gb seen' b = true
  new : ∀ b, b < n → gb seen' b = true → gb seen b = false → ∃ x : Nat, gd pv b = x ∧ x < n ∧ ∀ b', b' < n → rel A x b' = true → gb seen' b' = true
theorem won_free {A : List (List Bool)} {n : Nat} {EL ER : Nat → Prop} {a b : Nat} {nx pv : List Int} (ha : a < n) (hEL : EL a) (hM : Mt A n EL ER nx pv) (hb : b < n) (hER : ¬ ER b) (hr : rel A a b = true) (hf : gd pv b < 0) :
    Won A n EL ER a nx pv (nx.set a (b : Int)) (pv.set b (a : Int)) := by
  have hnl := hM.nl
  have hpl := hM.pl
  have h1 : ∀ i, gd (nx.set a (b : Int)) i = if i = a then (b : Int) else gd nx i := fun i => gd_set (by omega) _ _
  have h2 : ∀ i, gd (pv.set b (a : Int)) i = if i = b then (a : Int) else gd pv i := fun i => gd_set (by omega) _ _
  refine ⟨⟨by simpa using hnl, by simpa using hpl, fun b' hb' he h0 => ?_, fun i hi he h0 => ?_⟩, ?_, fun i hi _ => ?_, fun i hi => ?_, fun b' hb' => ?_, fun S hS => ⟨⟨b, hb, hr, fun hs => ?_⟩, fun b' hb' hs => ?_⟩⟩
  · rw [h2] at h0 ⊢
    by_cases e : b' = b
    · subst e
      exact ⟨a, if_pos rfl, ha, fun h => h.2 rfl, by rw [h1, if_pos rfl]⟩
    · rw [if_neg e] at h0 ⊢
      obtain ⟨i, i1, i2, i3, i4⟩ := hM.p b' hb' he h0
      have hia : i ≠ a := fun e' => i3 (by rw [e']; exact hEL)
      exact ⟨i, i1, i2, fun h => i3 h.1, by rw [h1, if_neg hia]; exact i4⟩
  · rw [h1] at h0 ⊢
    by_cases e : i = a
    · subst e
      exact ⟨b, if_pos rfl, hb, hER, by rw [h2, if_pos rfl], hr⟩
    · rw [if_neg e] at h0 ⊢
      obtain ⟨b', b1, b2, b3, b4, b5⟩ := hM.q i hi (fun h => he ⟨h, e⟩) h0
      refine ⟨b', b1, b2, b3, ?_, b5⟩
      rw [h2, if_neg (fun e' => by subst e'; omega)]; exact b4
  · rw [h1, if_pos rfl]; omega
  · rw [h1, if_neg hi]
  · rw [h1, if_neg hi]
  · have hne : b' ≠ b := fun e => hER (by rw [← e]; exact hb')
    rw [h2, if_neg hne]
  · obtain ⟨x, x1, _⟩ := hS b hb hs
    omega
  · rw [h2]
    by_cases e : b' = b
    · subst e
      obtain ⟨x, x1, _⟩ := hS b' hb' hs
      omega
    · rw [if_neg e]
theorem won_step {A : List (List Bool)} {n : Nat} {EL ER : Nat → Prop} {a b x : Nat} {nx pv nx1 pv1 : List Int} (ha : a < n) (hEL : EL a) (hM : Mt A n EL ER nx pv) (hb : b < n) (hER : ¬ ER b) (hr : rel A a b = true) (hx : gd pv b = (x : Int))
    (hW : Won A n (fun i => EL i ∨ i = x) (fun j => ER j ∨ j = b) x nx pv nx1 pv1) : Won A n EL ER a nx pv (nx1.set a (b : Int)) (pv1.set b (a : Int)) := by
  have hnl := hW.mt.nl
  have hpl := hW.mt.pl
  obtain ⟨x', x1, x2, x3, x4⟩ := hM.p b hb hER (by omega)
  have hxx : x' = x := by omega
  subst hxx
  have hax : a ≠ x' := fun e => x3 (e ▸ hEL)
  have h1 : ∀ i, gd (nx1.set a (b : Int)) i = if i = a then (b : Int) else gd nx1 i := fun i => gd_set (by omega) _ _
  have h2 : ∀ i, gd (pv1.set b (a : Int)) i = if i = b then (a : Int) else gd pv1 i := fun i => gd_set (by omega) _ _
  refine ⟨⟨by simpa using hnl, by simpa using hpl, fun b' hb' he h0 => ?_, fun i hi he h0 => ?_⟩, ?_, fun i hi hi2 => ?_, fun i hi => ?_, fun b' hb' => ?_, fun S hS => ?_⟩
  · rw [h2] at h0 ⊢
    by_cases e : b' = b
    · subst e
      exact ⟨a, if_pos rfl, ha, fun h => h.2 rfl, by rw [h1, if_pos rfl]⟩
    · rw [if_neg e] at h0 ⊢
      obtain ⟨i, i1, i2, i3, i4⟩ := hW.mt.p b' hb' (fun h => h.elim he e) h0
      have hia : i ≠ a := fun e' => i3 ⟨.inl (e' ▸ hEL), e' ▸ hax⟩
      refine ⟨i, i1, i2, fun h => ?_, by rw [h1, if_neg hia]; exact i4⟩
      exact i3 ⟨.inl h.1, fun e' => x3 (e' ▸ h.1)⟩
  · rw [h1] at h0 ⊢
    by_cases e : i = a
    · subst e
      exact ⟨b, if_pos rfl, hb, hER, by rw [h2, if_pos rfl], hr⟩
    · rw [if_neg e] at h0 ⊢
      obtain ⟨b', b1, b2, b3, b4, b5⟩ := hW.mt.q i hi (fun h => h.1.elim (fun h' => he ⟨h', e⟩) h.2) h0
      refine ⟨b', b1, b2, fun h => b3 (.inl h), ?_, b5⟩
      rw [h2, if_neg (fun e' => b3 (.inr e'))]; exact b4
  · rw [h1, if_pos rfl]; omega
  · rw [h1, if_neg hi]
    exact hW.el i (fun e => x3 (e ▸ hi2)) (.inl hi2)
  · rw [h1, if_neg hi]
    by_cases e : i = x'
    · subst e
      have := hW.got
      constructor <;> intro _ <;> omega
    · exact hW.same i e
  · have hne : b' ≠ b := fun e => hER (by rw [← e]; exact hb')
    rw [h2, if_neg hne]
    exact hW.er b' (.inl hb')
  · obtain ⟨⟨b1, c1, c2, c3⟩, c4⟩ := hW.out S hS
    have hnS : ¬ S b := fun hs => by
      obtain ⟨z, z1, _, z3⟩ := hS b hb hs
      have : z = x' := by omega
      subst this
      exact c3 (z3 b1 c1 c2)
    refine ⟨⟨b, hb, hr, hnS⟩, fun b' hb' hs => ?_⟩
    have hne : b' ≠ b := fun e => hnS (by rw [← e]; exact hs)
    rw [h2, if_neg hne]
    exact c4 b' hb' hs
/-- what grow does -/
def GrowSpec (A : List (List Bool)) (n fu : Nat) : Prop := ∀ (a : Nat) (seen : List Bool) (nx pv : List Int) (EL ER : Nat → Prop), a < n → EL a → Mt A n EL ER nx pv → seen.length = n → (∀ b, ER b → b < n → gb seen b = true) → us seen < fu →
  ∃ r seen' nx' pv', FleetMatchinggrow_v1 fu (a : Int) seen ⟨A, nx, pv⟩ = some (r, seen', nx', pv') ∧ seen'.length = n ∧ (∀ b, gb seen b = true → gb seen' b = true) ∧
    ((r = false ∧ nx' = nx ∧ pv' = pv ∧ Lost A n a pv seen seen') ∨ (r = true ∧ Won A n EL ER a nx pv nx' pv'))
theorem g_loop (A : List (List Bool)) (n fu : Nat) (ih : GrowSpec A n fu) (a : Nat) (ha : a < n) (EL ER : Nat → Prop) (hEL : EL a) (nx pv : List Int) (hM : Mt A n EL ER nx pv) (row : List Bool) (hrow : row.length = n) (hrel : ∀ b, rel A a b = gb row b) (Y : FleetMatching) (hY : Y.after = A) (seen0 : List Bool) :
    ∀ (d k : Nat) (seen : List Bool), k + d = n → seen.length = n → (∀ b, ER b → b < n → gb seen b = true) → us seen ≤ fu → (∀ b, gb seen0 b = true → gb seen b = true) → (∀ b, b < k → rel A a b = true → gb seen b = true) →
    (∀ b, b < n → gb seen b = true → gb seen0 b = false → ∃ x : Nat, gd pv b = x ∧ x < n ∧ ∀ b', b' < n → rel A x b' = true → gb seen b' = true) →
    (∃ seen', FleetMatchinggrow_v1.loop1 (a : Int) Y (FleetMatchinggrow_v1 fu) (row.drop k) k seen nx pv = some (.next (seen', nx, pv)) ∧ seen'.length = n ∧ (∀ b, gb seen0 b = true → gb seen' b = true) ∧ Lost A n a pv seen0 seen') ∨
    (∃ seen' nx' pv', FleetMatchinggrow_v1.loop1 (a : Int) Y (FleetMatchinggrow_v1 fu) (row.drop k) k seen nx pv = some (.ret (true, seen', nx', pv')) ∧ seen'.length = n ∧ (∀ b, gb seen0 b = true → gb seen' b = true) ∧ Won A n EL ER a nx pv nx' pv')
  | 0, k, seen, hk, hsl, _, _, h0, hall, hnew => by
    left
    have : row.drop k = [] := List.drop_eq_nil_iff.2 (by omega)
    rw [this]
    exact ⟨seen, rfl, hsl, h0, fun b hb hr => hall b (by omega) hr, hnew⟩
  | d + 1, k, seen, hk, hsl, hER, hus, h0, hall, hnew => by
    have hkn : k < n := by omega
    have hkr : k < row.length := by omega
    have hks : k < seen.length := by omega
    have hnl := hM.nl
    have hpl := hM.pl
    rw [List.drop_eq_getElem_cons hkr, FleetMatchinggrow_v1.loop1, gx_gb hks, ← gb_at hkr]
    have skip : (rel A a k = true → gb seen k = true) → _ := fun hs => g_loop A n fu ih a ha EL ER hEL nx pv hM row hrow hrel Y hY seen0 d (k + 1) seen (by omega) hsl hER hus h0 (fun b hb hr => by
      by_cases e : b = k
      · subst e; exact hs hr
      · exact hall b (by omega) hr) hnew
    cases hrk : gb row k
    · simp only [Bool.not_false, if_true, Option.bind_some]
      exact skip (fun h => by rw [hrel, hrk] at h; cases h)
    · cases hsk : gb seen k
      · simp only [Bool.not_true, Bool.false_eq_true, if_false, Option.bind_some]
        have hr : rel A a k = true := by rw [hrel]; exact hrk
        have hERk : ¬ ER k := fun h => by have := hER k h hkn; rw [hsk] at this; cases this
        rw [ix_c hks, sx_c hks]
        simp only [Option.bind_some]
        have hs1 : ∀ b, gb (seen.set k true) b = if b = k then true else gb seen b := fun b => gb_set hks true b
        have hmono : ∀ b, gb seen b = true → gb (seen.set k true) b = true := fun b hb => by rw [hs1]; split <;> first | rfl | exact hb
        have hus1 := us_set seen k hks hsk
        rw [gx_gd (l := pv) (k := k) (by omega)]
        simp only [Option.bind_some]
        by_cases hf : gd pv k < 0
        · simp only [hf, decide_true, if_true, Option.bind_some]
          right
          rw [ix_c (l := nx) (k := a) (by omega), sx_c (l := nx) (k := a) (by omega), ix_c (l := pv) (k := k) (by omega), sx_c (l := pv) (k := k) (by omega)]
          simp only [Option.bind_some]
          exact ⟨_, _, _, rfl, by simpa using hsl, fun b hb => hmono b (h0 b hb), won_free ha hEL hM hkn hERk hr hf⟩
        · simp only [hf, decide_false, Bool.false_eq_true, if_false]
          obtain ⟨x, x1, x2, x3, x4⟩ := hM.p k hkn hERk (by omega)
          have hM1 : Mt A n (fun i => EL i ∨ i = x) (fun j => ER j ∨ j = k) nx pv := by
            refine ⟨hnl, hpl, fun b hb he hp => ?_, fun i hi he hq => ?_⟩
            · obtain ⟨i, i1, i2, i3, i4⟩ := hM.p b hb (fun h => he (.inl h)) hp
              refine ⟨i, i1, i2, fun h => h.elim i3 (fun e => ?_), i4⟩
              subst e
              exact he (.inr (by omega))
            · obtain ⟨b, b1, b2, b3, b4, b5⟩ := hM.q i hi (fun h => he (.inl h)) hq
              refine ⟨b, b1, b2, fun h => h.elim b3 (fun e => ?_), b4, b5⟩
              subst e
              exact he (.inr (by omega))
          obtain ⟨r, seen', nx', pv', g1, g2, g3, g4⟩ := ih x (seen.set k true) nx pv _ _ x2 (.inr rfl) hM1 (by simpa using hsl) (fun b hb hbn => by
            rcases hb with hb | hb
            · exact hmono b (hER b hb hbn)
            · rw [hs1, if_pos hb]) (by omega)
          rw [x1, hY, g1]
          simp only [Option.bind_some]
          rcases g4 with ⟨e1, e2, e3, e4⟩ | ⟨e1, e2⟩
          · subst e1; subst e2; subst e3
            simp only [Bool.false_eq_true, if_false]
            refine g_loop A n fu ih a ha EL ER hEL nx' pv' hM row hrow hrel Y hY seen0 d (k + 1) seen' (by omega) g2 (fun b hb hbn => g3 b (hmono b (hER b hb hbn))) ?_ (fun b hb => g3 b (hmono b (h0 b hb))) (fun b hb hrb => ?_) (fun b hb hb1 hb2 => ?_)
            · have := us_mono (seen.set k true) seen' (by simp; omega) g3
              omega
            · by_cases e : b = k
              · subst e; exact g3 b (by rw [hs1, if_pos rfl])
              · exact g3 b (hmono b (hall b (by omega) hrb))
            · by_cases e : b = k
              · subst e
                exact ⟨x, x1, x2, fun b' hb' hrb' => e4.all b' hb' hrb'⟩
              · cases hsb : gb seen b
                · exact e4.new b hb hb1 (by rw [hs1, if_neg e]; exact hsb)
                · obtain ⟨z, z1, z2, z3⟩ := hnew b hb hsb hb2
                  exact ⟨z, z1, z2, fun b' hb' hrb' => g3 b' (hmono b' (z3 b' hb' hrb'))⟩
          · subst e1
            simp only [if_true]
            right
            have hnl' := e2.mt.nl
            have hpl' := e2.mt.pl
            rw [ix_c (l := nx') (k := a) (by omega), sx_c (l := nx') (k := a) (by omega), ix_c (l := pv') (k := k) (by omega), sx_c (l := pv') (k := k) (by omega)]
            simp only [Option.bind_some]
            exact ⟨_, _, _, rfl, g2, fun b hb => g3 b (hmono b (h0 b hb)), won_step ha hEL hM hkn hERk hr x1 e2⟩
      · simp only [Bool.not_true, Bool.false_eq_true, if_false, Option.bind_some, if_true]
        exact skip (fun _ => hsk)
theorem grow_ok (A : List (List Bool)) (n : Nat) (hA : A.length = n) (hrows : ∀ r ∈ A, r.length = n) : ∀ fu, GrowSpec A n fu
  | 0 => fun _ _ _ _ _ _ _ _ _ _ _ h => absurd h (by omega)
  | fu + 1 => by
    intro a seen nx pv EL ER ha hEL hM hsl hER hus
    rw [FleetMatchinggrow_v1]
    have haA : a < A.length := by omega
    simp only []
    rw [gx_at haA]
    simp only [Option.bind_some]
    have hrel : ∀ b, rel A a b = gb A[a] b := fun b => by unfold rel; rw [List.getElem?_eq_getElem haA]; rfl
    rcases g_loop A n fu (grow_ok A n hA hrows fu) a ha EL ER hEL nx pv hM A[a] (hrows _ (List.getElem_mem haA)) hrel ⟨A, nx, pv⟩ rfl seen n 0 seen (by omega) hsl hER (by omega) (fun _ h => h) (fun b hb => absurd hb (by omega)) (fun b _ h1 h2 => by rw [h1] at h2; cases h2) with ⟨seen', e1, e2, e3, e4⟩ | ⟨seen', nx', pv', e1, e2, e3, e4⟩
    · rw [List.drop_zero] at e1
      rw [e1]
      exact ⟨false, seen', nx, pv, rfl, e2, e3, .inl ⟨rfl, rfl, rfl, e4⟩⟩
    · rw [List.drop_zero] at e1
      rw [e1]
      exact ⟨true, seen', nx', pv', rfl, e2, e3, .inr ⟨rfl, e4⟩⟩
/-- a greatest matching: from what is not matched no free one is reached -/
structure Max (A : List (List Bool)) (n k : Nat) (nx pv : List Int) (S : Nat → Prop) : Prop where
  mt : Mt A n (fun _ => False) (fun _ => False) nx pv
  late : ∀ i, k ≤ i → i < n → gd nx i < 0
  clo : Clo A n pv S
  done : ∀ i, i < k → gd nx i < 0 → ∀ b, b < n → rel A i b = true → S b
theorem match_loop (A : List (List Bool)) (x0 : List FleetTask) (n : Nat) (hx : x0.length = n) (hn : n ≤ 1000) (hA : A.length = n) (hrows : ∀ r ∈ A, r.length = n) (fu : Nat) (hf : n + 1 < fu) : ∀ (rest : List FleetTask) (k : Nat) (nx pv : List Int) (S : Nat → Prop), k + rest.length = n → Max A n k nx pv S →
    ∃ nx' pv' S', Fleetmatch.loop3 x0 fu A rest k nx pv = some (nx', pv') ∧ Max A n n nx' pv' S'
  | [], k, nx, pv, S, hk, hM => by
    obtain rfl : k = n := by simpa using hk
    exact ⟨nx, pv, S, rfl, hM⟩
  | x :: rest, k, nx, pv, S, hk, hM => by
    simp only [List.length_cons] at hk
    rw [Fleetmatch.loop3, hx, mks_in (by omega)]
    simp only [Option.bind_some]
    have hkn : k < n := by omega
    have hz : ∀ b, gb (List.replicate n false) b = false := by
      intro b
      unfold gb
      by_cases hb : b < n
      · rw [List.getElem?_eq_getElem (by simpa using hb)]; simp
      · rw [List.getElem?_eq_none (by simp; omega)]; rfl
    have hus : ∀ m, us (List.replicate m false) = m := by
      intro m
      induction m with
      | zero => rfl
      | succ m ih => rw [List.replicate_succ]; simp only [us, ih, Bool.false_eq_true, if_false]; omega
    have hlk := hM.late k (Nat.le_refl _) hkn
    have hM1 : Mt A n (fun i => i = k) (fun _ => False) nx pv := by
      refine ⟨hM.mt.nl, hM.mt.pl, fun b hb he hp => ?_, fun i hi he hq => ?_⟩
      · obtain ⟨i, i1, i2, _, i4⟩ := hM.mt.p b hb he hp
        exact ⟨i, i1, i2, fun e => by subst e; omega, i4⟩
      · exact hM.mt.q i hi (fun h => h) hq
    obtain ⟨r, seen', nx', pv', g1, g2, g3, g4⟩ := grow_ok A n hA hrows fu k (List.replicate n false) nx pv (fun i => i = k) (fun _ => False) hkn rfl hM1 (by simp) (fun _ h => absurd h id) (by rw [hus]; omega)
    rw [g1]
    simp only [Option.bind_some]
    rcases g4 with ⟨_, e2, e3, e4⟩ | ⟨_, e2⟩
    · subst e2; subst e3
      refine match_loop A x0 n hx hn hA hrows fu hf rest (k + 1) nx' pv' (fun b => S b ∨ gb seen' b = true) (by omega) ⟨hM.mt, fun i h1 h2 => hM.late i (by omega) h2, fun b hb hs => ?_, fun i hi hneg b hb hr => ?_⟩
      · rcases hs with hs | hs
        · obtain ⟨z, z1, z2, z3⟩ := hM.clo b hb hs
          exact ⟨z, z1, z2, fun b' h1 h2 => .inl (z3 b' h1 h2)⟩
        · obtain ⟨z, z1, z2, z3⟩ := e4.new b hb hs (hz b)
          exact ⟨z, z1, z2, fun b' h1 h2 => .inr (z3 b' h1 h2)⟩
      · by_cases e : i = k
        · subst e; exact .inr (e4.all b hb hr)
        · exact .inl (hM.done i (by omega) hneg b hb hr)
    · have hEL : (fun i => i = k ∧ i ≠ k) = (fun _ => False) := by funext i; simp
      have hmt := e2.mt
      rw [hEL] at hmt
      obtain ⟨o1, o2⟩ := e2.out S hM.clo
      refine match_loop A x0 n hx hn hA hrows fu hf rest (k + 1) nx' pv' S (by omega) ⟨hmt, fun i h1 h2 => ?_, fun b hb hs => ?_, fun i hi hneg b hb hr => ?_⟩
      · have h3 := hM.late i (by omega) h2
        have h4 := e2.same i (by omega)
        apply Int.not_le.1
        intro h5
        have := h4.1 h5
        omega
      · obtain ⟨z, z1, z2, z3⟩ := hM.clo b hb hs
        exact ⟨z, by rw [o2 b hb hs]; exact z1, z2, z3⟩
      · by_cases e : i = k
        · subst e
          have := e2.got
          omega
        · refine hM.done i (by omega) ?_ b hb hr
          apply Int.not_le.1
          intro h5
          have := (e2.same i e).2 h5
          omega
theorem sg_front (f : Nat → Int) : ∀ (m : Nat), sg (m + 1) f = f 0 + sg m (fun i => f (i + 1))
  | 0 => by simp [sg]
  | m + 1 => by
    have := sg_front f m
    simp only [sg] at this ⊢
    omega
theorem sg_pick (f : Nat → Int) (j : Nat) : ∀ (m : Nat), sg m (fun i => if i = j then f i else 0) = if j < m then f j else 0
  | 0 => rfl
  | m + 1 => by
    simp only [sg]
    rw [sg_pick f j m]
    by_cases e : m = j
    · subst e
      rw [if_neg (by omega), if_pos rfl, if_pos (by omega)]; omega
    · by_cases h : j < m
      · rw [if_pos h, if_neg e, if_pos (by omega)]; omega
      · rw [if_neg h, if_neg e, if_neg (by omega)]; rfl
theorem sg_swap (g : Nat → Nat → Int) (r : Nat) : ∀ (m : Nat), sg m (fun i => sg r (fun k => g i k)) = sg r (fun k => sg m (fun i => g i k))
  | 0 => by simp only [sg]; rw [sg_zero]
  | m + 1 => by
    simp only [sg]
    rw [sg_swap g r m, ← sg_add]
/-- how often a list has a number -/
def ct : List Int → Nat → Int
  | [], _ => 0
  | x :: l, i => (if x = (i : Int) then 1 else 0) + ct l i
def allc : List (List Int) → Nat → Int
  | [], _ => 0
  | r :: l, i => ct r i + allc l i
/-- a number and what follows it -/
def pth (nx : List Int) : Nat → Int → List Int
  | 0, _ => []
  | m + 1, q => if 0 ≤ q then q :: pth nx m (gd nx q.toNat) else []
/-- the rows of those that nothing is ahead of -/
def trs (nx pv : List Int) (m : Nat) : Nat → Nat → List (List Int)
  | 0, _ => []
  | d + 1, k => if gd pv k < 0 then pth nx m ((k : Nat) : Int) :: trs nx pv m d (k + 1) else trs nx pv m d (k + 1)
section
variable {A : List (List Bool)} {n : Nat} {nx pv : List Int} (hM : Mt A n (fun _ => False) (fun _ => False) nx pv) (D : Nat → Int) (hD : ∀ i b, i < n → b < n → rel A i b = true → D i < D b) (hDb : ∀ i, i < n → 0 ≤ D i ∧ D i ≤ 28800)
/-- the row ends within m -/
def Ends (n : Nat) (D : Nat → Int) (m : Nat) (q : Int) : Prop := (q < 0 ∧ 0 < m) ∨ ∃ i : Nat, q = i ∧ i < n ∧ (28801 - D i).toNat < m
include hM hD hDb in
theorem ends_next {m i : Nat} (hi : i < n) (h : (28801 - D i).toNat < m + 1) : Ends n D m (gd nx i) := by
  have h1 := hDb i hi
  by_cases hq : 0 ≤ gd nx i
  · obtain ⟨b, b1, b2, _, _, b5⟩ := hM.q i hi (fun h => h) hq
    have h2 := hD i b hi b2 b5
    have h3 := hDb b b2
    exact .inr ⟨b, b1, b2, by omega⟩
  · exact .inl ⟨by omega, by omega⟩
include hM hD hDb in
theorem c_l2 (M : FleetMatching) (hMn : M.next = nx) : ∀ (m : Nat) (q : Int) (out : List Int), Ends n D m q → out.length + m ≤ 1000000 → ∃ z, FleetCovers.loop2 M m q out = some (z, out ++ pth nx m q)
  | 0, q, out, h, _ => by rcases h with ⟨_, h⟩ | ⟨_, _, _, h⟩ <;> omega
  | m + 1, q, out, h, ho => by
    rw [FleetCovers.loop2]
    rcases h with ⟨h, _⟩ | ⟨i, rfl, h2, h3⟩
    · have : ¬ q ≥ 0 := by omega
      have h' : ¬ 0 ≤ q := by omega
      simp only [this, decide_false, Bool.false_eq_true, if_false]
      exact ⟨q, by simp [pth, h']⟩
    · have : ((i : Nat) : Int) ≥ 0 := by omega
      simp only [this, decide_true, if_true]
      have hnl := hM.nl
      rw [apd_lt (by simp; omega), hMn]
      simp only [Option.bind_some]
      rw [gx_gd (l := nx) (k := i) (by omega)]
      simp only [Option.bind_some]
      obtain ⟨z, hz⟩ := c_l2 M hMn m (gd nx i) (out ++ [(i : Int)]) (ends_next hM D hD hDb h2 h3) (by simp; omega)
      refine ⟨z, ?_⟩
      rw [hz]
      have h0 : (0 : Int) ≤ (i : Int) := by omega
      simp [pth, h0]
theorem pth_len (nx : List Int) : ∀ (m : Nat) (q : Int), (pth nx m q).length ≤ m
  | 0, _ => Nat.le_refl _
  | m + 1, q => by
    unfold pth
    split
    · have := pth_len nx m (gd nx q.toNat)
      simp; omega
    · simp
/-- a row whose numbers follow each other -/
def Row (A : List (List Bool)) (n : Nat) : List Int → Prop
  | [] => True
  | [x] => ∃ i : Nat, x = i ∧ i < n
  | x :: y :: l => (∃ i j : Nat, x = i ∧ y = j ∧ i < n ∧ j < n ∧ rel A i j = true) ∧ Row A n (y :: l)
include hM hD hDb in
theorem pth_row : ∀ (m : Nat) (q : Int), Ends n D m q → Row A n (pth nx m q)
  | 0, q, _ => trivial
  | m + 1, q, h => by
    rcases h with ⟨h, _⟩ | ⟨i, rfl, h2, h3⟩
    · have h' : ¬ 0 ≤ q := by omega
      simp only [pth, h', if_false]; trivial
    · have h0 : (0 : Int) ≤ (i : Int) := by omega
      have hE := ends_next hM D hD hDb h2 h3
      have ih := pth_row m (gd nx i) hE
      simp only [pth, h0, if_true, Int.toNat_natCast]
      by_cases hq : 0 ≤ gd nx i
      · obtain ⟨b, b1, b2, _, _, b5⟩ := hM.q i h2 (fun h => h) hq
        rcases hE with ⟨h4, _⟩ | ⟨b', c1, c2, c3⟩
        · omega
        · obtain ⟨m, rfl⟩ : ∃ z, m = z + 1 := ⟨m - 1, by omega⟩
          simp only [pth, hq, if_true] at ih ⊢
          exact ⟨⟨i, b, rfl, b1, h2, b2, b5⟩, ih⟩
      · have : pth nx m (gd nx i) = [] := by
          cases m with
          | zero => rfl
          | succ m => simp [pth, hq]
        rw [this]
        exact ⟨i, rfl, h2⟩
include hM hD hDb in
theorem ct_next {i p : Nat} (hi : i < n) (hp : gd pv i = (p : Int)) : ∀ (m : Nat) (q : Int), Ends n D m q → ct (pth nx m q) i = (if q = (i : Int) then 1 else 0) + ct (pth nx m q) p
  | 0, q, h => by rcases h with ⟨_, h⟩ | ⟨_, _, _, h⟩ <;> omega
  | m + 1, q, h => by
    rcases h with ⟨h, _⟩ | ⟨a, rfl, h2, h3⟩
    · have h' : ¬ 0 ≤ q := by omega
      have h'' : ¬ q = (i : Int) := by omega
      simp [pth, h', ct, h'']
    · have h0 : (0 : Int) ≤ (a : Int) := by omega
      have hE := ends_next hM D hD hDb h2 h3
      have ih := ct_next hi hp m (gd nx a) hE
      simp only [pth, h0, if_true, Int.toNat_natCast, ct]
      have key : (gd nx a = (i : Int)) ↔ ((a : Int) = (p : Int)) := by
        constructor
        · intro e
          obtain ⟨b, b1, b2, _, b4, _⟩ := hM.q a h2 (fun h => h) (by omega)
          have : b = i := by omega
          subst this; omega
        · intro e
          obtain ⟨z, z1, z2, _, z4⟩ := hM.p i hi (fun h => h) (by omega)
          have : z = a := by omega
          subst this; exact z4
      rw [ih]
      by_cases e : gd nx a = (i : Int)
      · rw [if_pos e, if_pos (key.1 e)]
      · rw [if_neg e, if_neg (fun h => e (key.2 h))]
include hM hD hDb in
theorem ct_root {i : Nat} (hi : i < n) (hp : gd pv i < 0) : ∀ (m : Nat) (q : Int), Ends n D m q → ct (pth nx m q) i = (if q = (i : Int) then 1 else 0)
  | 0, q, h => by rcases h with ⟨_, h⟩ | ⟨_, _, _, h⟩ <;> omega
  | m + 1, q, h => by
    rcases h with ⟨h, _⟩ | ⟨a, rfl, h2, h3⟩
    · have h' : ¬ 0 ≤ q := by omega
      have h'' : ¬ q = (i : Int) := by omega
      simp [pth, h', ct, h'']
    · have h0 : (0 : Int) ≤ (a : Int) := by omega
      have hE := ends_next hM D hD hDb h2 h3
      have ih := ct_root hi hp m (gd nx a) hE
      simp only [pth, h0, if_true, Int.toNat_natCast, ct]
      have key : ¬ gd nx a = (i : Int) := by
        intro e
        obtain ⟨b, b1, b2, _, b4, _⟩ := hM.q a h2 (fun h => h) (by omega)
        have : b = i := by omega
        subst this; omega
      rw [ih, if_neg key]; omega
theorem root_ends {m k : Nat} (hDb : ∀ i, i < n → 0 ≤ D i ∧ D i ≤ 28800) (hm : 28801 < m) (hk : k < n) : Ends n D m ((k : Nat) : Int) := .inr ⟨k, rfl, hk, by have := hDb k hk; omega⟩
include hM hD hDb in
theorem trs_next {m : Nat} (hm : 28801 < m) {i p : Nat} (hi : i < n) (hp : gd pv i = (p : Int)) : ∀ (d k : Nat), k + d = n → allc (trs nx pv m d k) i = allc (trs nx pv m d k) p
  | 0, _, _ => rfl
  | d + 1, k, hk => by
    have ih := trs_next hm hi hp d (k + 1) (by omega)
    unfold trs
    by_cases h : gd pv k < 0
    · simp only [h, if_true, allc]
      rw [ih, ct_next hM D hD hDb hi hp m _ (root_ends D hDb hm (by omega)), if_neg]
      · omega
      · intro e
        have : k = i := by omega
        subst this; omega
    · simp only [h, if_false]; exact ih
include hM hD hDb in
theorem trs_root {m : Nat} (hm : 28801 < m) {i : Nat} (hi : i < n) (hp : gd pv i < 0) : ∀ (d k : Nat), k + d = n → allc (trs nx pv m d k) i = if k ≤ i then 1 else 0
  | 0, k, hk => by rw [if_neg (by omega)]; rfl
  | d + 1, k, hk => by
    have ih := trs_root hm hi hp d (k + 1) (by omega)
    unfold trs
    by_cases h : gd pv k < 0
    · simp only [h, if_true, allc]
      rw [ih, ct_root hM D hD hDb hi hp m _ (root_ends D hDb hm (by omega))]
      by_cases e : k = i
      · subst e; rw [if_pos rfl, if_neg (by omega), if_pos (by omega)]; omega
      · rw [if_neg (by omega)]
        by_cases a : k ≤ i
        · rw [if_pos (by omega), if_pos a]; omega
        · rw [if_neg (by omega), if_neg a]; omega
    · simp only [h, if_false]
      rw [ih]
      have : k ≠ i := fun e => h (e ▸ hp)
      by_cases a : k ≤ i
      · rw [if_pos (by omega), if_pos a]
      · rw [if_neg (by omega), if_neg a]
include hM hD hDb in
/-- each is in one row -/
theorem trs_once {m : Nat} (hm : 28801 < m) : ∀ (c : Nat) (i : Nat), i < n → (D i).toNat < c → allc (trs nx pv m n 0) i = 1
  | 0, _, _, h => absurd h (by omega)
  | c + 1, i, hi, hc => by
    by_cases h : gd pv i < 0
    · rw [trs_root hM D hD hDb hm hi h n 0 (by omega), if_pos (by omega)]
    · obtain ⟨p, p1, p2, _, p4⟩ := hM.p i hi (fun h => h) (by omega)
      obtain ⟨b, b1, b2, _, _, b5⟩ := hM.q p p2 (fun h => h) (by omega)
      have : b = i := by omega
      subst this
      have h1 := hD p b p2 hi b5
      have h2 := hDb p p2
      rw [trs_next hM D hD hDb hm hi p1 n 0 (by omega)]
      exact trs_once hm c p p2 (by omega)
theorem trs_len (nx pv : List Int) (m : Nat) : ∀ d k, (((trs nx pv m d k).length : Nat) : Int) = sg d (fun j => if gd pv (k + j) < 0 then 1 else 0)
  | 0, _ => rfl
  | d + 1, k => by
    have ih := trs_len nx pv m d (k + 1)
    rw [sg_front]
    have e : sg d (fun i => if gd pv (k + (i + 1)) < 0 then (1 : Int) else 0) = sg d (fun j => if gd pv (k + 1 + j) < 0 then 1 else 0) := sg_congr (fun i _ => by rw [show k + (i + 1) = k + 1 + i by omega])
    rw [e, ← ih, Nat.add_zero, trs]
    by_cases h : gd pv k < 0
    · simp only [h, if_true, List.length_cons, Nat.add_zero]; omega
    · simp only [h, if_false, Nat.add_zero]; omega
include hM hD hDb in
theorem c_l1 (M : FleetMatching) (hMn : M.next = nx) (hMp : M.prev = pv) (fu : Nat) (hf : 28801 < fu) (hf2 : fu ≤ 100000) (hn : n ≤ 1000) : ∀ (rest : List FleetTask) (k : Nat) (out : List (List Int)), k + rest.length = n → out.length ≤ k →
    FleetCovers.loop1 fu (some M) rest k out = some (out ++ trs nx pv fu rest.length k)
  | [], k, out, _, _ => by simp [FleetCovers.loop1, trs]
  | x :: rest, k, out, hk, ho => by
    simp only [List.length_cons] at hk
    have hpl := hM.pl
    rw [FleetCovers.loop1]
    simp only [Option.bind_some]
    rw [hMp, gx_gd (l := pv) (k := k) (by omega)]
    simp only [Option.bind_some, List.length_cons, trs]
    by_cases h : gd pv k < 0
    · have h' : ¬ gd pv k ≥ 0 := by omega
      simp only [h, h', decide_false, Bool.false_eq_true, if_false, if_true]
      obtain ⟨z, hz⟩ := c_l2 hM D hD hDb M hMn fu ((k : Nat) : Int) [] (root_ends D hDb hf (by omega)) (by simp; omega)
      rw [hz]
      simp only [Option.bind_some, List.nil_append]
      rw [apd_lt (by simp; omega)]
      simp only [Option.bind_some]
      rw [c_l1 M hMn hMp fu hf hf2 hn rest (k + 1) _ (by omega) (by simp; omega)]
      simp
    · have h' : gd pv k ≥ 0 := by omega
      simp only [h, h', decide_true, if_true, if_false]
      exact c_l1 M hMn hMp fu hf hf2 hn rest (k + 1) out (by omega) (by omega)
end
section
variable {A : List (List Bool)} {n : Nat} {nx pv : List Int} {S : Nat → Prop} (hC : Clo A n pv S) (hpl : pv.length = n)
/-- what a search from a marks -/
structure Met (A : List (List Bool)) (n : Nat) (pv : List Int) (f s f' s' : List Bool) : Prop where
  fl : f'.length = n
  sl : s'.length = n
  fm : ∀ b, gb f b = true → gb f' b = true
  sm : ∀ b, gb s b = true → gb s' b = true
  b : ∀ b, b < n → gb s' b = true → gb s b = false → (∃ p : Nat, gd pv b = p ∧ p < n ∧ gb f' p = true) ∧ ∃ c, c < n ∧ gb f' c = true ∧ rel A c b = true
def MeetSpec (A : List (List Bool)) (n : Nat) (nx pv : List Int) (S : Nat → Prop) (fu : Nat) : Prop := ∀ (a : Nat) (f s : List Bool), a < n → gb f a = false → f.length = n → s.length = n → (∀ b, b < n → rel A a b = true → S b) → us f < fu →
  ∃ f' s', FleetApart_1_v1 fu (a : Int) f (some ⟨A, nx, pv⟩) s = some (f', s') ∧ Met A n pv f s f' s' ∧ gb f' a = true ∧ ∀ x, x < n → gb f' x = true → gb f x = false → ∀ b, b < n → rel A x b = true → gb s' b = true
include hC hpl in
theorem a_loop (fu : Nat) (ih : MeetSpec A n nx pv S fu) (a : Nat) (ha : a < n) (haS : ∀ b, b < n → rel A a b = true → S b) (row : List Bool) (hrow : row.length = n) (hrel : ∀ b, rel A a b = gb row b) (f0 s0 : List Bool) :
    ∀ (d k : Nat) (f s : List Bool), k + d = n → us f < fu → gb f a = true → Met A n pv f0 s0 f s → (∀ b, b < k → rel A a b = true → gb s b = true) → (∀ x, x < n → x ≠ a → gb f x = true → gb f0 x = false → ∀ b, b < n → rel A x b = true → gb s b = true) →
    ∃ f' s', FleetApart_1_v1.loop1 (some ⟨A, nx, pv⟩) (FleetApart_1_v1 fu) ⟨A, nx, pv⟩ (row.drop k) k f s = some (f', s') ∧ Met A n pv f0 s0 f' s' ∧ gb f' a = true ∧ (∀ b, b < n → rel A a b = true → gb s' b = true) ∧ (∀ x, x < n → x ≠ a → gb f' x = true → gb f0 x = false → ∀ b, b < n → rel A x b = true → gb s' b = true)
  | 0, k, f, s, hk, _, hfa, hM, hall, hnew => by
    have : row.drop k = [] := List.drop_eq_nil_iff.2 (by omega)
    rw [this]
    exact ⟨f, s, rfl, hM, hfa, fun b hb hr => hall b (by omega) hr, hnew⟩
  | d + 1, k, f, s, hk, hus, hfa, hM, hall, hnew => by
    have hkn : k < n := by omega
    have hkr : k < row.length := by omega
    have hfl := hM.fl
    have hsl := hM.sl
    have hks : k < s.length := by omega
    rw [List.drop_eq_getElem_cons hkr, FleetApart_1_v1.loop1, ← gb_at hkr]
    have skip : (rel A a k = true → gb s k = true) → _ := fun hs => a_loop fu ih a ha haS row hrow hrel f0 s0 d (k + 1) f s (by omega) hus hfa hM (fun b hb hr => by
      by_cases e : b = k
      · subst e; exact hs hr
      · exact hall b (by omega) hr) hnew
    cases hrk : gb row k
    · simp only [Bool.false_eq_true, if_false, Option.bind_some]
      exact skip (fun h => by rw [hrel, hrk] at h; cases h)
    · simp only [if_true]
      rw [gx_gb hks]
      simp only [Option.bind_some]
      cases hsk : gb s k
      · simp only [Bool.not_false, if_true]
        have hr : rel A a k = true := by rw [hrel]; exact hrk
        obtain ⟨p, p1, p2, p3⟩ := hC k hkn (haS k hkn hr)
        have hs1 : ∀ b, gb (s.set k true) b = if b = k then true else gb s b := fun b => gb_set hks true b
        have hmono : ∀ b, gb s b = true → gb (s.set k true) b = true := fun b hb => by rw [hs1]; split <;> first | rfl | exact hb
        rw [ix_c hks, sx_c hks]
        simp only [Option.bind_some]
        rw [gx_gd (l := pv) (k := k) (by omega), p1]
        simp only [Option.bind_some]
        rw [gx_gb (l := f) (k := p) (by omega)]
        simp only [Option.bind_some]
        cases hfp : gb f p
        · simp only [Bool.not_false, if_true]
          obtain ⟨f1, s1, g1, g2, g3, g4⟩ := ih p f (s.set k true) p2 hfp hfl (by simpa using hsl) p3 hus
          rw [g1]
          simp only [Option.bind_some]
          have hus1 := us_mono f f1 (by rw [g2.fl, hfl]) g2.fm
          refine a_loop fu ih a ha haS row hrow hrel f0 s0 d (k + 1) f1 s1 (by omega) (by omega) (g2.fm a hfa) ⟨g2.fl, g2.sl, fun b hb => g2.fm b (hM.fm b hb), fun b hb => g2.sm b (hmono b (hM.sm b hb)), fun b hb hb1 hb2 => ?_⟩ (fun b hb hrb => ?_) (fun x hx hxa hx1 hx2 b hb hrb => ?_)
          · cases hsb : gb (s.set k true) b
            · exact g2.b b hb hb1 hsb
            · by_cases e : b = k
              · subst e
                exact ⟨⟨p, p1, p2, g3⟩, a, ha, g2.fm a hfa, hr⟩
              · rw [hs1, if_neg e] at hsb
                obtain ⟨⟨z, z1, z2, z3⟩, c, c1, c2, c3⟩ := hM.b b hb hsb hb2
                exact ⟨⟨z, z1, z2, g2.fm z z3⟩, c, c1, g2.fm c c2, c3⟩
          · by_cases e : b = k
            · subst e; exact g2.sm b (by rw [hs1, if_pos rfl])
            · exact g2.sm b (hmono b (hall b (by omega) hrb))
          · cases hfx : gb f x
            · exact g4 x hx hx1 hfx b hb hrb
            · exact g2.sm b (hmono b (hnew x hx hxa hfx hx2 b hb hrb))
        · simp only [Bool.not_true, Bool.false_eq_true, if_false, Option.bind_some]
          refine a_loop fu ih a ha haS row hrow hrel f0 s0 d (k + 1) f (s.set k true) (by omega) hus hfa ⟨hfl, by simpa using hsl, hM.fm, fun b hb => hmono b (hM.sm b hb), fun b hb hb1 hb2 => ?_⟩ (fun b hb hrb => ?_) (fun x hx hxa hx1 hx2 b hb hrb => hmono b (hnew x hx hxa hx1 hx2 b hb hrb))
          · by_cases e : b = k
            · subst e
              exact ⟨⟨p, p1, p2, hfp⟩, a, ha, hfa, hr⟩
            · rw [hs1, if_neg e] at hb1
              exact hM.b b hb hb1 hb2
          · by_cases e : b = k
            · subst e; rw [hs1, if_pos rfl]
            · exact hmono b (hall b (by omega) hrb)
      · simp only [Bool.not_true, Bool.false_eq_true, if_false, Option.bind_some]
        exact skip (fun _ => hsk)
include hC hpl in
theorem meet_ok (hA : A.length = n) (hrows : ∀ r ∈ A, r.length = n) : ∀ fu, MeetSpec A n nx pv S fu
  | 0 => fun _ _ _ _ _ _ _ _ h => absurd h (by omega)
  | fu + 1 => by
    intro a f s ha hfa hfl hsl haS hus
    rw [FleetApart_1_v1, ix_c (l := f) (k := a) (by omega), sx_c (l := f) (k := a) (by omega)]
    simp only [Option.bind_some]
    have haA : a < A.length := by omega
    rw [gx_at haA]
    simp only [Option.bind_some]
    have hrel : ∀ b, rel A a b = gb A[a] b := fun b => by unfold rel; rw [List.getElem?_eq_getElem haA]; rfl
    have hf1 : ∀ b, gb (f.set a true) b = if b = a then true else gb f b := fun b => gb_set (by omega) true b
    have hus1 := us_set f a (by omega) hfa
    obtain ⟨f', s', e1, e2, e3, e4, e5⟩ := a_loop hC hpl fu (meet_ok hA hrows fu) a ha haS A[a] (hrows _ (List.getElem_mem haA)) hrel (f.set a true) s n 0 (f.set a true) s (by omega) (by omega) (by rw [hf1, if_pos rfl]) ⟨by simpa using hfl, hsl, fun _ h => h, fun _ h => h, fun b _ h1 h2 => by rw [h1] at h2; cases h2⟩ (fun b hb => absurd hb (by omega)) (fun x _ _ h1 h2 => by rw [h1] at h2; cases h2)
    rw [List.drop_zero] at e1
    rw [e1]
    refine ⟨f', s', rfl, ⟨e2.fl, e2.sl, fun b hb => e2.fm b (by rw [hf1]; split <;> first | rfl | exact hb), e2.sm, e2.b⟩, e3, fun x hx h1 h2 b hb hr => ?_⟩
    by_cases e : x = a
    · subst e; exact e4 b hb hr
    · exact e5 x hx e h1 (by rw [hf1, if_neg e]; exact h2) b hb hr
/-- what is marked in the end -/
structure Marks (A : List (List Bool)) (n k : Nat) (nx pv : List Int) (f s : List Bool) : Prop where
  fl : f.length = n
  sl : s.length = n
  a : ∀ x, x < n → gb f x = true → ∀ b, b < n → rel A x b = true → gb s b = true
  b : ∀ b, b < n → gb s b = true → (∃ p : Nat, gd pv b = p ∧ p < n ∧ gb f p = true) ∧ ∃ c, c < n ∧ gb f c = true ∧ rel A c b = true
  c : ∀ x, x < k → gd nx x < 0 → gb f x = true
include hC hpl in
theorem apart_loop (hA : A.length = n) (hrows : ∀ r ∈ A, r.length = n) (hnl : nx.length = n) (hdone : ∀ i, i < n → gd nx i < 0 → ∀ b, b < n → rel A i b = true → S b) (fu : Nat) (hf : n < fu) : ∀ (rest : List FleetTask) (k : Nat) (f s : List Bool), k + rest.length = n → Marks A n k nx pv f s →
    ∃ f' s', FleetApart.loop1 fu (some ⟨A, nx, pv⟩) rest k f s = some (f', s') ∧ Marks A n n nx pv f' s'
  | [], k, f, s, hk, hM => by
    obtain rfl : k = n := by simpa using hk
    exact ⟨f, s, rfl, hM⟩
  | x :: rest, k, f, s, hk, hM => by
    simp only [List.length_cons] at hk
    have hfl := hM.fl
    rw [FleetApart.loop1]
    simp only [Option.bind_some]
    rw [gx_gd (l := nx) (k := k) (by omega)]
    simp only [Option.bind_some]
    by_cases hneg : gd nx k < 0
    · simp only [hneg, decide_true, if_true]
      rw [gx_gb (l := f) (k := k) (by omega)]
      simp only [Option.bind_some]
      cases hfk : gb f k
      · simp only [Bool.not_false, if_true]
        have husf : us f ≤ n := by
          have : ∀ l : List Bool, us l ≤ l.length := by
            intro l
            induction l with
            | nil => exact Nat.le_refl _
            | cons y l ih => simp only [us, List.length_cons]; split <;> omega
          have := this f
          omega
        obtain ⟨f1, s1, g1, g2, g3, g4⟩ := meet_ok (nx := nx) hC hpl hA hrows fu k f s (by omega) hfk hfl hM.sl (hdone k (by omega) hneg) (by omega)
        rw [g1]
        simp only [Option.bind_some]
        refine apart_loop hA hrows hnl hdone fu hf rest (k + 1) f1 s1 (by omega) ⟨g2.fl, g2.sl, fun y hy h1 b hb hr => ?_, fun b hb h1 => ?_, fun y hy hny => ?_⟩
        · cases hfy : gb f y
          · exact g4 y hy h1 hfy b hb hr
          · exact g2.sm b (hM.a y hy hfy b hb hr)
        · cases hsb : gb s b
          · exact g2.b b hb h1 hsb
          · obtain ⟨⟨z, z1, z2, z3⟩, c, c1, c2, c3⟩ := hM.b b hb hsb
            exact ⟨⟨z, z1, z2, g2.fm z z3⟩, c, c1, g2.fm c c2, c3⟩
        · by_cases e : y = k
          · subst e; exact g3
          · exact g2.fm y (hM.c y (by omega) hny)
      · simp only [Bool.not_true, Bool.false_eq_true, if_false]
        exact apart_loop hA hrows hnl hdone fu hf rest (k + 1) f s (by omega) ⟨hfl, hM.sl, hM.a, hM.b, fun y hy hny => by
          by_cases e : y = k
          · subst e; exact hfk
          · exact hM.c y (by omega) hny⟩
    · simp only [hneg, decide_false, Bool.false_eq_true, if_false, Option.bind_some]
      exact apart_loop hA hrows hnl hdone fu hf rest (k + 1) f s (by omega) ⟨hfl, hM.sl, hM.a, hM.b, fun y hy hny => by
        by_cases e : y = k
        · subst e; exact absurd hny hneg
        · exact hM.c y (by omega) hny⟩
end
/-- those that are apart -/
def apl (f s : List Bool) : Nat → Nat → List Int
  | 0, _ => []
  | d + 1, k => if gb f k && !gb s k then ((k : Nat) : Int) :: apl f s d (k + 1) else apl f s d (k + 1)
theorem apl_ok (f s : List Bool) (n : Nat) (hfl : f.length = n) (hsl : s.length = n) (hn : n ≤ 1000) : ∀ (rest : List FleetTask) (k : Nat) (out : List Int), k + rest.length = n → out.length ≤ k → FleetApart.loop2 f s rest k out = some (out ++ apl f s rest.length k)
  | [], k, out, _, _ => by simp [FleetApart.loop2, apl]
  | x :: rest, k, out, hk, ho => by
    simp only [List.length_cons] at hk
    rw [FleetApart.loop2, gx_gb (l := f) (k := k) (by omega)]
    simp only [Option.bind_some, List.length_cons, apl]
    cases hf : gb f k
    · simp only [Bool.false_eq_true, if_false, Option.bind_some, Bool.false_and]
      exact apl_ok f s n hfl hsl hn rest (k + 1) out (by omega) (by omega)
    · rw [gx_gb (l := s) (k := k) (by omega)]
      simp only [if_true, Option.bind_some, Bool.true_and]
      cases hs : gb s k
      · simp only [Bool.not_false, if_true]
        rw [apd_lt (by simp; omega)]
        simp only [Option.bind_some]
        rw [apl_ok f s n hfl hsl hn rest (k + 1) _ (by omega) (by simp; omega)]
        simp
      · simp only [Bool.not_true, Bool.false_eq_true, if_false, Option.bind_some]
        exact apl_ok f s n hfl hsl hn rest (k + 1) out (by omega) (by omega)
theorem apl_mem (f s : List Bool) : ∀ (d k : Nat), (∀ x ∈ apl f s d k, ∃ i : Nat, x = i ∧ k ≤ i ∧ i < k + d ∧ gb f i = true ∧ gb s i = false) ∧ (apl f s d k).Pairwise (· < ·)
  | 0, _ => ⟨by simp [apl], by simp [apl]⟩
  | d + 1, k => by
    obtain ⟨h1, h2⟩ := apl_mem f s d (k + 1)
    have h1' : ∀ x ∈ apl f s d (k + 1), ∃ i : Nat, x = i ∧ k ≤ i ∧ i < k + (d + 1) ∧ gb f i = true ∧ gb s i = false := fun x hx => by
      obtain ⟨i, i1, i2, i3, i4⟩ := h1 x hx
      exact ⟨i, i1, by omega, by omega, i4⟩
    unfold apl
    cases hf : gb f k <;> cases hs : gb s k
    · exact ⟨h1', h2⟩
    · exact ⟨h1', h2⟩
    · simp only [Bool.not_false, Bool.and_self, if_true]
      refine ⟨fun x hx => ?_, List.Pairwise.cons (fun x hx => ?_) h2⟩
      · rcases List.mem_cons.1 hx with rfl | hx
        · exact ⟨k, rfl, Nat.le_refl _, by omega, hf, hs⟩
        · exact h1' x hx
      · obtain ⟨i, i1, i2, _⟩ := h1 x hx
        omega
    · exact ⟨h1', h2⟩
theorem apl_len (f s : List Bool) : ∀ d k, (((apl f s d k).length : Nat) : Int) = sg d (fun j => if gb f (k + j) = true ∧ gb s (k + j) = false then 1 else 0)
  | 0, _ => rfl
  | d + 1, k => by
    have ih := apl_len f s d (k + 1)
    rw [sg_front]
    have e : sg d (fun i => if gb f (k + (i + 1)) = true ∧ gb s (k + (i + 1)) = false then (1 : Int) else 0) = sg d (fun j => if gb f (k + 1 + j) = true ∧ gb s (k + 1 + j) = false then 1 else 0) := sg_congr (fun i _ => by rw [show k + (i + 1) = k + 1 + i by omega])
    rw [e, ← ih, Nat.add_zero, apl]
    cases hf : gb f k <;> cases hs : gb s k <;> simp <;> omega
/-- as many as there are rows -/
theorem count_eq {A : List (List Bool)} {n : Nat} {nx pv : List Int} {f s : List Bool} (hM : Mt A n (fun _ => False) (fun _ => False) nx pv) (hK : Marks A n n nx pv f s) (htr : ∀ i j k, i < n → j < n → k < n → rel A i j = true → rel A j k = true → rel A i k = true) :
    sg n (fun j => if gb f j = true ∧ gb s j = false then 1 else 0) = sg n (fun j => if gd pv j < 0 then 1 else 0) := by
  have hsf : ∀ b, b < n → gb s b = true → gb f b = true := by
    intro b hb hs
    cases hfb : gb f b
    · obtain ⟨_, c, c1, c2, c3⟩ := hK.b b hb hs
      have hq : 0 ≤ gd nx b := by
        apply Int.not_lt.1
        intro h
        have := hK.c b hb h
        rw [hfb] at this; cases this
      obtain ⟨d, d1, d2, _, d4, d5⟩ := hM.q b hb (fun h => h) hq
      have h1 := hK.a c c1 c2 d d2 (htr c b d c1 hb d2 c3 d5)
      obtain ⟨⟨p, p1, p2, p3⟩, _⟩ := hK.b d d2 h1
      have : p = b := by omega
      subst this
      rw [hfb] at p3; cases p3
    · rfl
  have rowE : ∀ (g : Nat → Int) i, i < n → sg n (fun b => if gd nx i = (b : Int) then g b else 0) = if 0 ≤ gd nx i then g (gd nx i).toNat else 0 := by
    intro g i hi
    by_cases h : 0 ≤ gd nx i
    · obtain ⟨b, b1, b2, _⟩ := hM.q i hi (fun h => h) h
      rw [if_pos h, b1, Int.toNat_natCast]
      have := sg_pick g b n
      rw [if_pos b2] at this
      rw [← this]
      exact sg_congr (fun j _ => by
        by_cases e : j = b
        · subst e; rw [if_pos rfl, if_pos rfl]
        · rw [if_neg e, if_neg (by omega)])
    · rw [if_neg h, sg_congr (g := fun _ => 0) (fun j _ => by rw [if_neg (by omega)]), sg_zero]
  have colE : ∀ (v : Int) b, b < n → sg n (fun i => if gd nx i = (b : Int) then v else 0) = if 0 ≤ gd pv b then v else 0 := by
    intro v b hb
    by_cases h : 0 ≤ gd pv b
    · obtain ⟨p, p1, p2, _, p4⟩ := hM.p b hb (fun h => h) h
      rw [if_pos h]
      have := sg_pick (fun _ => v) p n
      rw [if_pos p2] at this
      refine Eq.trans ?_ this
      exact sg_congr (fun j hj => by
        by_cases e : j = p
        · subst e; rw [if_pos p4, if_pos rfl]
        · rw [if_neg e, if_neg (fun e2 => e ?_)]
          obtain ⟨d, d1, d2, _, d4, _⟩ := hM.q j hj (fun h => h) (by omega)
          have : d = b := by omega
          subst this; omega)
    · rw [if_neg h, sg_congr (g := fun _ => 0) (fun j hj => by
        rw [if_neg (fun e2 => h ?_)]
        obtain ⟨d, d1, d2, _, d4, _⟩ := hM.q j hj (fun h => h) (by omega)
        have : d = b := by omega
        subst this; omega), sg_zero]
  -- matched ones on both sides
  have hboth : sg n (fun i => if 0 ≤ gd nx i then (1 : Int) else 0) = sg n (fun b => if 0 ≤ gd pv b then 1 else 0) := by
    have h1 := sg_swap (fun i b => if gd nx i = ((b : Nat) : Int) then (1 : Int) else 0) n n
    rw [sg_congr (fun i hi => rowE (fun _ => 1) i hi), sg_congr (g := fun b => if 0 ≤ gd pv b then (1 : Int) else 0) (fun b hb => colE 1 b hb)] at h1
    exact h1
  have hsec : sg n (fun b => if gb s b = true then (1 : Int) else 0) = sg n (fun i => if 0 ≤ gd nx i ∧ gb f i = true then 1 else 0) := by
    have h1 := sg_swap (fun i b => if gd nx i = ((b : Nat) : Int) then (if gb s b = true then (1 : Int) else 0) else 0) n n
    have h2 : sg n (fun i => sg n (fun b => if gd nx i = ((b : Nat) : Int) then (if gb s b = true then (1 : Int) else 0) else 0)) = sg n (fun i => if 0 ≤ gd nx i ∧ gb f i = true then 1 else 0) := sg_congr (fun i hi => by
      rw [rowE (fun b => if gb s b = true then (1 : Int) else 0) i hi]
      by_cases h : 0 ≤ gd nx i
      · obtain ⟨d, d1, d2, _, d4, d5⟩ := hM.q i hi (fun h => h) h
        rw [if_pos h, d1, Int.toNat_natCast]
        have hiff : gb s d = true ↔ gb f i = true := by
          constructor
          · intro hs
            obtain ⟨⟨p, p1, p2, p3⟩, _⟩ := hK.b d d2 hs
            have : p = i := by omega
            subst this; exact p3
          · intro hf
            exact hK.a i hi hf d d2 d5
        have h0 : (0 : Int) ≤ (d : Int) := by omega
        by_cases hs : gb s d = true
        · rw [if_pos hs, if_pos ⟨h0, hiff.1 hs⟩]
        · rw [if_neg hs, if_neg (fun c => hs (hiff.2 c.2))]
      · rw [if_neg h, if_neg (fun c => h c.1)])
    have h3 : sg n (fun b => sg n (fun i => if gd nx i = ((b : Nat) : Int) then (if gb s b = true then (1 : Int) else 0) else 0)) = sg n (fun b => if gb s b = true then (1 : Int) else 0) := sg_congr (fun b hb => by
      rw [colE (if gb s b = true then (1 : Int) else 0) b hb]
      by_cases hs : gb s b = true
      · obtain ⟨⟨p, p1, _⟩, _⟩ := hK.b b hb hs
        rw [if_pos (by omega)]
      · rw [if_neg hs]; split <;> rfl)
    rw [h2, h3] at h1
    exact h1.symm
  have e1 : sg n (fun j => if gb f j = true ∧ gb s j = false then (1 : Int) else 0) = sg n (fun j => (if gb f j = true then (1 : Int) else 0) - (if gb s j = true then 1 else 0)) := sg_congr (fun j hj => by
    have := hsf j hj
    cases hf : gb f j <;> cases hs : gb s j <;> simp_all)
  have e2 : sg n (fun j => if gb f j = true then (1 : Int) else 0) = sg n (fun j => (if 0 ≤ gd nx j ∧ gb f j = true then (1 : Int) else 0) + (1 - (if 0 ≤ gd nx j then 1 else 0))) := sg_congr (fun j hj => by
    have := hK.c j hj
    by_cases h : 0 ≤ gd nx j
    · cases hf : gb f j <;> simp [h]
    · rw [this (by omega)]; simp [h])
  have e3 : sg n (fun j => if gd pv j < 0 then (1 : Int) else 0) = sg n (fun j => 1 - (if 0 ≤ gd pv j then 1 else 0)) := sg_congr (fun j _ => by
    by_cases h : 0 ≤ gd pv j
    · rw [if_neg (by omega), if_pos h]; rfl
    · rw [if_pos (by omega), if_neg h]; rfl)
  rw [e1, sg_sub, e2, sg_add, sg_sub, e3, sg_sub, hsec, hboth]
  omega
theorem within_ref : Fishref2within = Fleetwithin := rfl
theorem tasks_loop : ∀ l, Fishref2TasksFault.loop1 l = FleetCheckTasks.loop1 l
  | [] => rfl
  | x :: r => by simp only [Fishref2TasksFault.loop1, FleetCheckTasks.loop1, tasks_loop r]; rfl
theorem tasks_ref (l : List FleetTask) : Fishref2TasksFault l = FleetCheckTasks l := by
  unfold Fishref2TasksFault FleetCheckTasks; rw [tasks_loop]
theorem turn_ref (l : List FleetTask) (t : Int) : Fishref2TurnFault l t = FleetcheckTurn l t := by
  unfold Fishref2TurnFault FleetcheckTurn; rw [tasks_ref]; rfl
theorem rep25 (m k : Nat) (h : k ≤ 25) : SlicesRepeatLint (m + 60) [(-1)] ((k : Nat) : Int) = some (List.replicate k (-1)) := by
  have h0 : SlicesRepeatLint (m + 60) [(-1)] 0 = some (List.replicate 0 (-1)) := by kernel_rfl
  have h1 : SlicesRepeatLint (m + 60) [(-1)] 1 = some (List.replicate 1 (-1)) := by kernel_rfl
  have h2 : SlicesRepeatLint (m + 60) [(-1)] 2 = some (List.replicate 2 (-1)) := by kernel_rfl
  have h3 : SlicesRepeatLint (m + 60) [(-1)] 3 = some (List.replicate 3 (-1)) := by kernel_rfl
  have h4 : SlicesRepeatLint (m + 60) [(-1)] 4 = some (List.replicate 4 (-1)) := by kernel_rfl
  have h5 : SlicesRepeatLint (m + 60) [(-1)] 5 = some (List.replicate 5 (-1)) := by kernel_rfl
  have h6 : SlicesRepeatLint (m + 60) [(-1)] 6 = some (List.replicate 6 (-1)) := by kernel_rfl
  have h7 : SlicesRepeatLint (m + 60) [(-1)] 7 = some (List.replicate 7 (-1)) := by kernel_rfl
  have h8 : SlicesRepeatLint (m + 60) [(-1)] 8 = some (List.replicate 8 (-1)) := by kernel_rfl
  have h9 : SlicesRepeatLint (m + 60) [(-1)] 9 = some (List.replicate 9 (-1)) := by kernel_rfl
  have h10 : SlicesRepeatLint (m + 60) [(-1)] 10 = some (List.replicate 10 (-1)) := by kernel_rfl
  have h11 : SlicesRepeatLint (m + 60) [(-1)] 11 = some (List.replicate 11 (-1)) := by kernel_rfl
  have h12 : SlicesRepeatLint (m + 60) [(-1)] 12 = some (List.replicate 12 (-1)) := by kernel_rfl
  have h13 : SlicesRepeatLint (m + 60) [(-1)] 13 = some (List.replicate 13 (-1)) := by kernel_rfl
  have h14 : SlicesRepeatLint (m + 60) [(-1)] 14 = some (List.replicate 14 (-1)) := by kernel_rfl
  have h15 : SlicesRepeatLint (m + 60) [(-1)] 15 = some (List.replicate 15 (-1)) := by kernel_rfl
  have h16 : SlicesRepeatLint (m + 60) [(-1)] 16 = some (List.replicate 16 (-1)) := by kernel_rfl
  have h17 : SlicesRepeatLint (m + 60) [(-1)] 17 = some (List.replicate 17 (-1)) := by kernel_rfl
  have h18 : SlicesRepeatLint (m + 60) [(-1)] 18 = some (List.replicate 18 (-1)) := by kernel_rfl
  have h19 : SlicesRepeatLint (m + 60) [(-1)] 19 = some (List.replicate 19 (-1)) := by kernel_rfl
  have h20 : SlicesRepeatLint (m + 60) [(-1)] 20 = some (List.replicate 20 (-1)) := by kernel_rfl
  have h21 : SlicesRepeatLint (m + 60) [(-1)] 21 = some (List.replicate 21 (-1)) := by kernel_rfl
  have h22 : SlicesRepeatLint (m + 60) [(-1)] 22 = some (List.replicate 22 (-1)) := by kernel_rfl
  have h23 : SlicesRepeatLint (m + 60) [(-1)] 23 = some (List.replicate 23 (-1)) := by kernel_rfl
  have h24 : SlicesRepeatLint (m + 60) [(-1)] 24 = some (List.replicate 24 (-1)) := by kernel_rfl
  have h25 : SlicesRepeatLint (m + 60) [(-1)] 25 = some (List.replicate 25 (-1)) := by kernel_rfl
  have hc : k = 0 ∨ k = 1 ∨ k = 2 ∨ k = 3 ∨ k = 4 ∨ k = 5 ∨ k = 6 ∨ k = 7 ∨ k = 8 ∨ k = 9 ∨ k = 10 ∨ k = 11 ∨ k = 12 ∨ k = 13 ∨ k = 14 ∨ k = 15 ∨ k = 16 ∨ k = 17 ∨ k = 18 ∨ k = 19 ∨ k = 20 ∨ k = 21 ∨ k = 22 ∨ k = 23 ∨ k = 24 ∨ k = 25 := by omega
  rcases hc with rfl | rfl | rfl | rfl | rfl | rfl | rfl | rfl | rfl | rfl | rfl | rfl | rfl | rfl | rfl | rfl | rfl | rfl | rfl | rfl | rfl | rfl | rfl | rfl | rfl | rfl
  · exact h0
  · exact h1
  · exact h2
  · exact h3
  · exact h4
  · exact h5
  · exact h6
  · exact h7
  · exact h8
  · exact h9
  · exact h10
  · exact h11
  · exact h12
  · exact h13
  · exact h14
  · exact h15
  · exact h16
  · exact h17
  · exact h18
  · exact h19
  · exact h20
  · exact h21
  · exact h22
  · exact h23
  · exact h24
  · exact h25
theorem index_loop (x : Int) : ∀ (l : List Int) (k : Nat), (SlicesIndexLint.loop1 x l k = .next () ∧ x ∉ l) ∨ (∃ j : Nat, SlicesIndexLint.loop1 x l k = .ret (((k + j : Nat) : Nat) : Int) ∧ l[j]? = some x)
  | [], k => .inl ⟨rfl, by simp⟩
  | y :: r, k => by
    by_cases h : x = y
    · subst h; exact .inr ⟨0, by simp [SlicesIndexLint.loop1], rfl⟩
    · have hb : (x == y) = false := by simpa using h
      rcases index_loop x r (k + 1) with ⟨h1, h2⟩ | ⟨j, h1, h2⟩
      · exact .inl ⟨by simp [SlicesIndexLint.loop1, hb, h1], by simp [h, h2]⟩
      · refine .inr ⟨j + 1, ?_, by simpa using h2⟩
        simp only [SlicesIndexLint.loop1, hb, Bool.false_eq_true, if_false, h1]
        have e : k + 1 + j = k + (j + 1) := by omega
        rw [e]
theorem index_cases (l : List Int) (x : Int) : (SlicesIndexLint l x = -1 ∧ x ∉ l) ∨ (∃ j : Nat, SlicesIndexLint l x = (j : Int) ∧ l[j]? = some x) := by
  unfold SlicesIndexLint
  rcases index_loop x l 0 with ⟨h1, h2⟩ | ⟨j, h1, h2⟩
  · exact .inl ⟨by simp [h1, bnd_eq], h2⟩
  · exact .inr ⟨j, by simp [h1, bnd_eq], h2⟩
theorem contains_eq (l : List Int) (x : Int) : SlicesContainsLint l x = l.contains x := by
  unfold SlicesContainsLint
  rcases index_cases l x with ⟨h1, h2⟩ | ⟨j, h1, h2⟩
  · rw [h1]; simp [h2]
  · rw [h1]; have := List.mem_of_getElem? h2; simp [this]
theorem sets_true (n : Nat) : Fishlaw2sets (n + 60) = some true := by kernel_rfl
theorem secs_l2 (k : Nat) : ∀ (r : List Int) (j : Nat), Fishref2EmptyFault.loop3 k r j = FleetcheckSecs.loop2 k r j
  | [], _ => rfl
  | x :: r, j => by rw [Fishref2EmptyFault.loop3, FleetcheckSecs.loop2, secs_l2 k r (j + 1)]; rfl
theorem secs_l1 : ∀ (r : List (List Int)) (k : Nat), Fishref2EmptyFault.loop2 r k = FleetcheckSecs.loop1 r k
  | [], _ => rfl
  | x :: r, k => by
    rw [Fishref2EmptyFault.loop2, FleetcheckSecs.loop1, secs_l1 r (k + 1), secs_l2]
theorem secs_l5 (x y : List Int) (k : Nat) : ∀ (r : List (List Int)) (j : Nat), Fishref2EmptyFault.loop6 x y k r j = FleetcheckSecs.loop5 x y k r j
  | [], _ => rfl
  | z :: r, j => by rw [Fishref2EmptyFault.loop6, FleetcheckSecs.loop5, secs_l5 x y k r (j + 1)]
theorem secs_l4 (s : List (List Int)) (x : List Int) : ∀ (r : List (List Int)) (k : Nat), Fishref2EmptyFault.loop5 s x r k = FleetcheckSecs.loop4 s x r k
  | [], _ => rfl
  | z :: r, k => by
    rw [Fishref2EmptyFault.loop5, FleetcheckSecs.loop4, secs_l4 s x r (k + 1), secs_l5]
theorem secs_l3 (s : List (List Int)) : ∀ (r : List (List Int)), Fishref2EmptyFault.loop4 s r = FleetcheckSecs.loop3 s r
  | [] => rfl
  | z :: r => by
    rw [Fishref2EmptyFault.loop4, FleetcheckSecs.loop3, secs_l3 s r, secs_l4]
theorem c12 (l : List (List Int)) : ∀ k, ((∀ r ∈ l, r.length = 12) ∧ SlicesIndexFuncLLint_v1.loop1 l k = .next () ∧ Fishref2EmptyFault.loop1 l = .next ()) ∨ ((∃ j : Nat, SlicesIndexFuncLLint_v1.loop1 l k = .ret (j : Int)) ∧ Fishref2EmptyFault.loop1 l = .ret 1) := by
  induction l with
  | nil => exact fun _ => .inl ⟨by simp, rfl, rfl⟩
  | cons r l ih =>
    intro k
    rw [SlicesIndexFuncLLint_v1.loop1, Fishref2EmptyFault.loop1]
    unfold FleetcheckSecs_1
    by_cases h : (r.length : Int) = 12
    · have hb : ((r.length : Int) != 12) = false := by simp [h]
      rw [hb]
      simp only [Bool.false_eq_true, if_false]
      rcases ih (k + 1) with ⟨h1, h2, h3⟩ | h1
      · exact .inl ⟨fun x hx => by rcases List.mem_cons.1 hx with rfl | hx; omega; exact h1 x hx, h2, h3⟩
      · exact .inr h1
    · have hb : ((r.length : Int) != 12) = true := by simp [h]
      rw [hb]
      simp only [if_true]
      exact .inr ⟨⟨k, rfl⟩, trivial⟩
theorem c12' (l : List (List Int)) : ((∀ r ∈ l, r.length = 12) ∧ SlicesContainsFuncLLint_v1 l = false ∧ Fishref2EmptyFault.loop1 l = .next ()) ∨ (SlicesContainsFuncLLint_v1 l = true ∧ Fishref2EmptyFault.loop1 l = .ret 1) := by
  unfold SlicesContainsFuncLLint_v1 SlicesIndexFuncLLint_v1
  rcases c12 l 0 with ⟨h1, h2, h3⟩ | ⟨⟨j, h2⟩, h3⟩
  · left; rw [h2]; exact ⟨h1, rfl, h3⟩
  · right; rw [h2]
    have : ((j : Nat) : Int) ≥ 0 := by omega
    simp only [bnd_eq, this, decide_true]
    exact ⟨trivial, h3⟩
theorem run_l (s : List (List Int)) : ∀ (l : List FleetTask) (k : Nat), (Fishref2EmptyFault.loop7 s l = none ∧ SlicesIndexFuncLfleetTask_v1.loop1 s l k = none) ∨ (Fishref2EmptyFault.loop7 s l = some (.ret 1) ∧ ∃ j : Nat, SlicesIndexFuncLfleetTask_v1.loop1 s l k = some (.ret (j : Int))) ∨ (Fishref2EmptyFault.loop7 s l = some (.next ()) ∧ SlicesIndexFuncLfleetTask_v1.loop1 s l k = some (.next ()))
  | [], _ => .inr (.inr ⟨rfl, rfl⟩)
  | x :: l, k => by
    rw [Fishref2EmptyFault.loop7, SlicesIndexFuncLfleetTask_v1.loop1]
    unfold FleetcheckSecs_2_v1
    cases h1 : gx s x.From with
    | none => exact .inl ⟨rfl, rfl⟩
    | some r =>
      simp only [Option.bind_some]
      cases h2 : gx r x.To with
      | none => exact .inl ⟨rfl, rfl⟩
      | some v =>
        simp only [Option.bind_some]
        by_cases hv : v > w64 (x.Arr - x.Dep)
        · simp only [hv, decide_true, if_true]
          exact .inr (.inl ⟨trivial, k, rfl⟩)
        · simp only [hv, decide_false, Bool.false_eq_true, if_false]
          exact run_l s l (k + 1)
theorem secs_ref (l : List FleetTask) (t : Int) (s : List (List Int)) : Fishref2EmptyFault l t s = FleetcheckSecs l t s := by
  unfold Fishref2EmptyFault FleetcheckSecs
  rw [turn_ref]
  by_cases h0 : FleetcheckTurn l t = 0
  · have hb : (FleetcheckTurn l t != 0) = false := by simp [h0]
    rw [hb]
    simp only [Bool.false_eq_true, if_false, bnd_eq]
    by_cases h1 : ((l.length : Nat) : Int) > 20
    · simp only [h1, decide_true, if_true]
    · simp only [h1, decide_false, Bool.false_eq_true, if_false]
      by_cases h2 : ((s.length : Nat) : Int) = 12
      · have hb2 : (((s.length : Nat) : Int) != 12) = false := by simp [h2]
        rw [hb2]
        simp only [Bool.false_eq_true, if_false]
        rcases c12' s with ⟨_, h3, h4⟩ | ⟨h3, h4⟩
        · rw [h3, h4]
          simp only [Bool.false_eq_true, if_false]
          rw [secs_l1, secs_l3]
          cases FleetcheckSecs.loop1 s 0 with
          | ret r => rfl
          | next u =>
            simp only
            cases FleetcheckSecs.loop3 s s with
            | none => rfl
            | some q =>
              cases q with
              | ret r => rfl
              | next u =>
                simp only [Option.bind_some]
                unfold SlicesContainsFuncLfleetTask_v1 SlicesIndexFuncLfleetTask_v1
                rcases run_l s l 0 with ⟨h5, h6⟩ | ⟨h5, j, h6⟩ | ⟨h5, h6⟩
                · rw [h5, h6]; rfl
                · rw [h5, h6]
                  have : ((j : Nat) : Int) ≥ 0 := by omega
                  simp only [Option.bind_some, this, decide_true, if_true]
                · rw [h5, h6]; rfl
        · rw [h3, h4]
          simp only [if_true]
      · have hb2 : (((s.length : Nat) : Int) != 12) = true := by simp [h2]
        rw [hb2]
        simp only [if_true]
  · have hb : (FleetcheckTurn l t != 0) = true := by simp [h0]
    rw [hb]
    simp only [if_true]
/-- seconds from a place to a place -/
def sec (s : List (List Int)) (a b : Nat) : Int := gd (s[a]?.getD []) b
theorem sec_at {s : List (List Int)} {a : Nat} (h : a < s.length) (b : Nat) : sec s a b = gd s[a] b := by unfold sec; rw [List.getElem?_eq_getElem h]; rfl
theorem within_dec (x a b : Int) : Fleetwithin x a b = decide (a ≤ x ∧ x ≤ b) := by
  unfold Fleetwithin bnd
  by_cases h1 : a ≤ x <;> by_cases h2 : x ≤ b <;> simp [h1, h2]
theorem tasks_in : ∀ (l : List FleetTask), (∀ v, FleetCheckTasks.loop1 l = .ret v → v ≠ 0) ∧ (FleetCheckTasks.loop1 l = .next () → ∀ x ∈ l, 0 ≤ x.From ∧ x.From ≤ 11 ∧ 0 ≤ x.To ∧ x.To ≤ 11 ∧ 0 ≤ x.Dep ∧ x.Dep < x.Arr ∧ x.Arr ≤ 28800)
  | [] => ⟨fun v h => (by cases h), fun _ => by simp⟩
  | x :: l => by
    obtain ⟨i1, i2⟩ := tasks_in l
    rw [FleetCheckTasks.loop1]
    simp only [within_dec, bnd_eq]
    by_cases h1 : 0 ≤ x.From ∧ x.From ≤ 11
    · by_cases h2 : 0 ≤ x.To ∧ x.To ≤ 11
      · by_cases h3 : 0 ≤ x.Dep ∧ x.Dep ≤ 28800
        · by_cases h4 : 0 ≤ x.Arr ∧ x.Arr ≤ 28800
          · simp only [h1, h2, h3, h4, and_self, decide_true, Bool.not_true, Bool.false_eq_true, if_false]
            by_cases h5 : x.Arr ≤ x.Dep
            · simp only [h5, decide_true, if_true]
              exact ⟨fun v h => by cases h; decide, fun h => by cases h⟩
            · simp only [h5, decide_false, Bool.false_eq_true, if_false]
              by_cases h6 : 0 ≤ x.Km ∧ x.Km ≤ 10000
              · by_cases h7 : 1 ≤ x.Units ∧ x.Units ≤ 4
                · simp only [h6, h7, and_self, decide_true, Bool.not_true, Bool.false_eq_true, if_false]
                  exact ⟨i1, fun h y hy => by
                    rcases List.mem_cons.1 hy with rfl | hy
                    · omega
                    · exact i2 h y hy⟩
                · have e7 : decide (1 ≤ x.Units ∧ x.Units ≤ 4) = false := by simp only [h7, decide_false]
                  simp only [h6, and_self, decide_true, e7, Bool.not_true, Bool.not_false, Bool.false_eq_true, if_false, if_true]
                  exact ⟨fun v h => by cases h; decide, fun h => by cases h⟩
              · have e6 : decide (0 ≤ x.Km ∧ x.Km ≤ 10000) = false := by simp only [h6, decide_false]
                simp only [e6, Bool.not_false, if_true]
                exact ⟨fun v h => by cases h; decide, fun h => by cases h⟩
          · have e4 : decide (0 ≤ x.Arr ∧ x.Arr ≤ 28800) = false := by simp only [h4, decide_false]
            simp only [h1, h2, h3, and_self, decide_true, e4, Bool.not_true, Bool.not_false, Bool.false_eq_true, if_false, if_true]
            exact ⟨fun v h => by cases h; decide, fun h => by cases h⟩
        · have e3 : decide (0 ≤ x.Dep ∧ x.Dep ≤ 28800) = false := by simp only [h3, decide_false]
          simp only [h1, h2, and_self, decide_true, e3, Bool.not_true, Bool.not_false, Bool.false_eq_true, if_false, if_true]
          exact ⟨fun v h => by cases h; decide, fun h => by cases h⟩
      · have e2 : decide (0 ≤ x.To ∧ x.To ≤ 11) = false := by simp only [h2, decide_false]
        simp only [h1, and_self, decide_true, e2, Bool.not_true, Bool.not_false, Bool.false_eq_true, if_false, if_true]
        exact ⟨fun v h => by cases h; decide, fun h => by cases h⟩
    · have e1 : decide (0 ≤ x.From ∧ x.From ≤ 11) = false := by simp only [h1, decide_false]
      simp only [e1, Bool.not_false, if_true]
      exact ⟨fun v h => by cases h; decide, fun h => by cases h⟩
theorem turn_in {l : List FleetTask} {t : Int} (h : FleetcheckTurn l t = 0) : 0 ≤ t ∧ t ≤ 28800 ∧ ∀ x ∈ l, 0 ≤ x.From ∧ x.From ≤ 11 ∧ 0 ≤ x.To ∧ x.To ≤ 11 ∧ 0 ≤ x.Dep ∧ x.Dep < x.Arr ∧ x.Arr ≤ 28800 := by
  unfold FleetcheckTurn at h
  by_cases hc : FleetCheckTasks l = 0
  · have hb : (FleetCheckTasks l != 0) = false := by simp [hc]
    rw [hb] at h
    simp only [Bool.false_eq_true, if_false, within_dec] at h
    by_cases ht : 0 ≤ t ∧ t ≤ 28800
    · refine ⟨ht.1, ht.2, ?_⟩
      unfold FleetCheckTasks at hc
      by_cases h40 : ((l.length : Nat) : Int) > 40
      · simp [h40] at hc
      · simp only [h40, decide_false, Bool.false_eq_true, if_false, bnd_eq] at hc
        obtain ⟨i1, i2⟩ := tasks_in l
        cases hl : FleetCheckTasks.loop1 l with
        | ret r => rw [hl] at hc; exact absurd hc (i1 r hl)
        | next u => exact i2 hl
    · simp [ht] at h
  · have hb : (FleetCheckTasks l != 0) = true := by simp [hc]
    rw [hb] at h
    simp only [if_true] at h
    exact absurd h hc
theorem ent_l2 (k : Nat) : ∀ (r : List Int) (j : Nat), (∀ v, FleetcheckSecs.loop2 k r j = .ret v → v ≠ 0) ∧ (FleetcheckSecs.loop2 k r j = .next () → ∀ x ∈ r, 0 ≤ x ∧ x ≤ 28800)
  | [], _ => ⟨fun v h => (by cases h), fun _ => by simp⟩
  | x :: r, j => by
    obtain ⟨i1, i2⟩ := ent_l2 k r (j + 1)
    rw [FleetcheckSecs.loop2, within_dec]
    by_cases h1 : 0 ≤ x ∧ x ≤ 28800
    · simp only [h1, and_self, decide_true, Bool.not_true, Bool.false_eq_true, if_false, bnd_eq]
      cases hb : (if (((k : Nat) : Int) == ((j : Nat) : Int)) = true then (x != 0) else false)
      · simp only [Bool.false_eq_true, if_false]
        exact ⟨i1, fun h y hy => by
          rcases List.mem_cons.1 hy with rfl | hy
          · exact h1
          · exact i2 h y hy⟩
      · simp only [if_true]
        exact ⟨fun v h => by cases h; decide, fun h => by cases h⟩
    · have e1 : decide (0 ≤ x ∧ x ≤ 28800) = false := by simp only [h1, decide_false]
      simp only [e1, Bool.not_false, if_true]
      exact ⟨fun v h => by cases h; decide, fun h => by cases h⟩
theorem ent_l1 : ∀ (s : List (List Int)) (k : Nat), (∀ v, FleetcheckSecs.loop1 s k = .ret v → v ≠ 0) ∧ (FleetcheckSecs.loop1 s k = .next () → ∀ r ∈ s, ∀ x ∈ r, 0 ≤ x ∧ x ≤ 28800)
  | [], _ => ⟨fun v h => (by cases h), fun _ => by simp⟩
  | r :: s, k => by
    obtain ⟨i1, i2⟩ := ent_l1 s (k + 1)
    obtain ⟨j1, j2⟩ := ent_l2 k r 0
    rw [FleetcheckSecs.loop1]
    simp only [bnd_eq]
    cases h : FleetcheckSecs.loop2 k r 0 with
    | ret v => exact ⟨fun w hw => by cases hw; exact j1 v h, fun hw => by cases hw⟩
    | next u => exact ⟨i1, fun hw y hy => by
        rcases List.mem_cons.1 hy with rfl | hy
        · exact j2 h
        · exact i2 hw y hy⟩
theorem tri_l5 (x y : List Int) (k : Nat) (hx : x.length = 12) (hy : y.length = 12) (hk : k < 12) (hxb : ∀ v ∈ x, 0 ≤ v ∧ v ≤ 28800) (hyb : ∀ v ∈ y, 0 ≤ v ∧ v ≤ 28800) : ∀ (r : List (List Int)) (j : Nat), j + r.length = 12 →
    FleetcheckSecs.loop5 x y k r j = some (.ret 1) ∨ (FleetcheckSecs.loop5 x y k r j = some (.next ()) ∧ ∀ c, j ≤ c → c < 12 → gd x c ≤ gd x k + gd y c)
  | [], j, hj => .inr ⟨rfl, fun c h1 h2 => absurd h2 (by simp at hj; omega)⟩
  | z :: r, j, hj => by
    simp only [List.length_cons] at hj
    rw [FleetcheckSecs.loop5, gx_gd (l := x) (k := j) (by omega), gx_gd (l := x) (k := k) (by omega), gx_gd (l := y) (k := j) (by omega)]
    simp only [Option.bind_some]
    have b1 := hxb (gd x k) (by rw [gd_at (by omega)]; exact List.getElem_mem _)
    have b2 := hyb (gd y j) (by rw [gd_at (by omega)]; exact List.getElem_mem _)
    rw [w64_id (by omega)]
    by_cases h : gd x j > gd x k + gd y j
    · simp only [h, decide_true, if_true]; exact .inl trivial
    · simp only [h, decide_false, Bool.false_eq_true, if_false]
      rcases tri_l5 x y k hx hy hk hxb hyb r (j + 1) (by omega) with h1 | ⟨h1, h2⟩
      · exact .inl h1
      · exact .inr ⟨h1, fun c c1 c2 => by
          by_cases e : c = j
          · subst e; omega
          · exact h2 c (by omega) c2⟩
theorem tri_l4 (s : List (List Int)) (hs : s.length = 12) (hr : ∀ r ∈ s, r.length = 12) (hb : ∀ r ∈ s, ∀ v ∈ r, 0 ≤ v ∧ v ≤ 28800) (x : List Int) (hx : x ∈ s) : ∀ (d k : Nat), k + d = 12 →
    FleetcheckSecs.loop4 s x (s.drop k) k = some (.ret 1) ∨ (FleetcheckSecs.loop4 s x (s.drop k) k = some (.next ()) ∧ ∀ b, k ≤ b → b < 12 → ∀ c, c < 12 → gd x c ≤ gd x b + sec s b c)
  | 0, k, hk => by
    have : s.drop k = [] := List.drop_eq_nil_iff.2 (by omega)
    rw [this]
    exact .inr ⟨rfl, fun b h1 h2 => absurd h2 (by omega)⟩
  | d + 1, k, hk => by
    have hks : k < s.length := by omega
    have hm := List.getElem_mem hks
    rw [List.drop_eq_getElem_cons hks, FleetcheckSecs.loop4]
    rcases tri_l5 x s[k] k (hr x hx) (hr _ hm) (by omega) (hb x hx) (hb _ hm) s 0 (by omega) with h1 | ⟨h1, h2⟩
    · rw [h1]; exact .inl rfl
    · rw [h1]
      simp only [Option.bind_some]
      rcases tri_l4 s hs hr hb x hx d (k + 1) (by omega) with h3 | ⟨h3, h4⟩
      · exact .inl h3
      · exact .inr ⟨h3, fun b b1 b2 c hc => by
          by_cases e : b = k
          · subst e; rw [sec_at hks]; exact h2 c (by omega) hc
          · exact h4 b (by omega) b2 c hc⟩
theorem tri_l3 (s : List (List Int)) (hs : s.length = 12) (hr : ∀ r ∈ s, r.length = 12) (hb : ∀ r ∈ s, ∀ v ∈ r, 0 ≤ v ∧ v ≤ 28800) : ∀ (r : List (List Int)), (∀ x ∈ r, x ∈ s) →
    FleetcheckSecs.loop3 s r = some (.ret 1) ∨ (FleetcheckSecs.loop3 s r = some (.next ()) ∧ ∀ x ∈ r, ∀ b, b < 12 → ∀ c, c < 12 → gd x c ≤ gd x b + sec s b c)
  | [], _ => .inr ⟨rfl, by simp⟩
  | x :: r, hsub => by
    rw [FleetcheckSecs.loop3]
    have h4 := tri_l4 s hs hr hb x (hsub x (by simp)) 12 0 (by omega)
    rw [List.drop_zero] at h4
    rcases h4 with h1 | ⟨h1, h2⟩
    · rw [h1]; exact .inl rfl
    · rw [h1]
      simp only [Option.bind_some]
      rcases tri_l3 s hs hr hb r (fun y hy => hsub y (by simp [hy])) with h3 | ⟨h3, h5⟩
      · exact .inl h3
      · exact .inr ⟨h3, fun y hy b hb' c hc => by
          rcases List.mem_cons.1 hy with rfl | hy
          · exact h2 b (by omega) hb' c hc
          · exact h5 y hy b hb' c hc⟩
theorem runs_in (s : List (List Int)) (hs : s.length = 12) (hr : ∀ r ∈ s, r.length = 12) : ∀ (l : List FleetTask), (∀ x ∈ l, 0 ≤ x.From ∧ x.From ≤ 11 ∧ 0 ≤ x.To ∧ x.To ≤ 11 ∧ 0 ≤ x.Dep ∧ x.Dep < x.Arr ∧ x.Arr ≤ 28800) →
    Fishref2EmptyFault.loop7 s l = some (.ret 1) ∨ (Fishref2EmptyFault.loop7 s l = some (.next ()) ∧ ∀ x ∈ l, sec s x.From.toNat x.To.toNat ≤ x.Arr - x.Dep)
  | [], _ => .inr ⟨rfl, by simp⟩
  | x :: l, h => by
    obtain ⟨a1, a2, a3, a4, a5, a6, a7⟩ := h x (by simp)
    have hf : x.From.toNat < s.length := by omega
    have hm := hr _ (List.getElem_mem hf)
    rw [Fishref2EmptyFault.loop7, gx_toNat (l := s) a1 hf]
    simp only [Option.bind_some]
    rw [gx_toNat (l := s[x.From.toNat]) a3 (by omega)]
    simp only [Option.bind_some]
    rw [w64_id (by omega)]
    have e : sec s x.From.toNat x.To.toNat = (s[x.From.toNat])[x.To.toNat]'(by omega) := by rw [sec_at hf, gd_at (by omega)]
    rw [← e]
    by_cases hv : sec s x.From.toNat x.To.toNat > x.Arr - x.Dep
    · simp only [hv, decide_true, if_true]; exact .inl trivial
    · simp only [hv, decide_false, Bool.false_eq_true, if_false]
      rcases runs_in s hs hr l (fun y hy => h y (by simp [hy])) with h1 | ⟨h1, h2⟩
      · exact .inl h1
      · exact .inr ⟨h1, fun y hy => by
          rcases List.mem_cons.1 hy with rfl | hy
          · omega
          · exact h2 y hy⟩
structure Facts (l : List FleetTask) (t : Int) (s : List (List Int)) : Prop where
  few : l.length ≤ 20
  t0 : 0 ≤ t
  t1 : t ≤ 28800
  task : ∀ x ∈ l, 0 ≤ x.From ∧ x.From ≤ 11 ∧ 0 ≤ x.To ∧ x.To ≤ 11 ∧ 0 ≤ x.Dep ∧ x.Dep < x.Arr ∧ x.Arr ≤ 28800
  sl : s.length = 12
  rl : ∀ r ∈ s, r.length = 12
  pos : ∀ a b, a < 12 → b < 12 → 0 ≤ sec s a b ∧ sec s a b ≤ 28800
  tri : ∀ a b c, a < 12 → b < 12 → c < 12 → sec s a c ≤ sec s a b + sec s b c
  run : ∀ x ∈ l, sec s x.From.toNat x.To.toNat ≤ x.Arr - x.Dep
theorem secs_in (l : List FleetTask) (t : Int) (s : List (List Int)) : ∃ e, FleetcheckSecs l t s = some e ∧ (e = 0 → Facts l t s) := by
  rw [← secs_ref]
  unfold Fishref2EmptyFault
  rw [turn_ref]
  by_cases h0 : FleetcheckTurn l t = 0
  · have hb : (FleetcheckTurn l t != 0) = false := by simp [h0]
    rw [hb]
    simp only [Bool.false_eq_true, if_false, bnd_eq]
    obtain ⟨t0, t1, ht⟩ := turn_in h0
    by_cases h1 : ((l.length : Nat) : Int) > 20
    · simp only [h1, decide_true, if_true]
      exact ⟨4, rfl, fun h => by cases h⟩
    · simp only [h1, decide_false, Bool.false_eq_true, if_false]
      by_cases h2 : ((s.length : Nat) : Int) = 12
      · have hb2 : (((s.length : Nat) : Int) != 12) = false := by simp [h2]
        rw [hb2]
        simp only [Bool.false_eq_true, if_false]
        rcases c12' s with ⟨hr, _, h4⟩ | ⟨_, h4⟩
        · rw [h4]
          simp only
          rw [secs_l1, secs_l3]
          obtain ⟨e1, e2⟩ := ent_l1 s 0
          cases h5 : FleetcheckSecs.loop1 s 0 with
          | ret r => exact ⟨r, rfl, fun h => absurd h (e1 r h5)⟩
          | next u =>
            have hent := e2 h5
            simp only
            rcases tri_l3 s (by omega) hr hent s (fun x hx => hx) with h6 | ⟨h6, h7⟩
            · rw [h6]; exact ⟨1, rfl, fun h => by cases h⟩
            · rw [h6]
              simp only [Option.bind_some]
              rcases runs_in s (by omega) hr l ht with h8 | ⟨h8, h9⟩
              · rw [h8]; exact ⟨1, rfl, fun h => by cases h⟩
              · rw [h8]
                have hsl : s.length = 12 := by omega
                refine ⟨0, rfl, fun _ => ⟨by omega, t0, t1, ht, hsl, hr, fun a b ha hb' => ?_, fun a b c ha hb' hc => ?_, h9⟩⟩
                · rw [sec_at (by omega), gd_at (by rw [hr _ (List.getElem_mem _)]; exact hb')]
                  exact hent _ (List.getElem_mem _) _ (List.getElem_mem _)
                · have := h7 s[a] (List.getElem_mem _) b hb' c hc
                  rw [sec_at (a := a) (by omega), sec_at (a := a) (by omega)]
                  exact this
        · rw [h4]; exact ⟨1, rfl, fun h => by cases h⟩
      · have hb2 : (((s.length : Nat) : Int) != 12) = true := by simp [h2]
        rw [hb2]
        simp only [if_true]
        exact ⟨1, rfl, fun h => by cases h⟩
  · have hb : (FleetcheckTurn l t != 0) = true := by simp [h0]
    rw [hb]
    simp only [if_true]
    exact ⟨_, rfl, fun h => absurd h h0⟩
/-- which task may come after which -/
def aft (t : Int) (s : List (List Int)) (a b : FleetTask) : Bool := decide (b.Dep ≥ a.Arr + t + sec s a.To.toNat b.From.toNat)
def afts (l : List FleetTask) (t : Int) (s : List (List Int)) : List (List Bool) := l.map (fun a => l.map (fun b => aft t s a b))
section
variable {l : List FleetTask} {t : Int} {s : List (List Int)} (hF : Facts l t s)
include hF
theorem sec_gx {a b : FleetTask} (ha : a ∈ l) (hb : b ∈ l) : ∃ r, gx s a.To = some r ∧ gx r b.From = some (sec s a.To.toNat b.From.toNat) ∧ w64 (w64 (a.Arr + t) + sec s a.To.toNat b.From.toNat) = a.Arr + t + sec s a.To.toNat b.From.toNat := by
  obtain ⟨a1, a2, a3, a4, a5, a6, a7⟩ := hF.task a ha
  obtain ⟨b1, b2, b3, b4, b5, b6, b7⟩ := hF.task b hb
  have hsl := hF.sl
  have t0 := hF.t0
  have t1 := hF.t1
  have h1 : a.To.toNat < s.length := by omega
  have hm := hF.rl _ (List.getElem_mem h1)
  have hp := hF.pos a.To.toNat b.From.toNat (by omega) (by omega)
  refine ⟨s[a.To.toNat], gx_toNat a3 h1, ?_, ?_⟩
  · rw [gx_toNat b1 (by omega), sec_at h1, gd_at (by omega)]
  · rw [w64_id (x := a.Arr + t) (by omega), w64_id (by omega)]
theorem m_l2 (a : FleetTask) (ha : a ∈ l) : ∀ (r : List FleetTask) (acc : List Bool), (∀ x ∈ r, x ∈ l) → acc.length + r.length ≤ 1000 → Fleetmatch.loop2 t s a r acc = some (acc ++ r.map (fun b => aft t s a b))
  | [], acc, _, _ => by simp [Fleetmatch.loop2]
  | b :: r, acc, hr, hl => by
    simp only [List.length_cons] at hl
    obtain ⟨row, e1, e2, e3⟩ := sec_gx hF ha (hr b (by simp))
    rw [Fleetmatch.loop2, e1]
    simp only [Option.bind_some]
    rw [e2]
    simp only [Option.bind_some]
    rw [e3, apd_lt (by simp; omega)]
    simp only [Option.bind_some]
    rw [m_l2 a ha r _ (fun x hx => hr x (by simp [hx])) (by simp; omega)]
    simp [aft]
theorem m_l1 : ∀ (r : List FleetTask) (acc : List (List Bool)), (∀ x ∈ r, x ∈ l) → acc.length + r.length ≤ 1000 → Fleetmatch.loop1 l t s r acc = some (acc ++ r.map (fun a => l.map (fun b => aft t s a b)))
  | [], acc, _, _ => by simp [Fleetmatch.loop1]
  | a :: r, acc, hr, hl => by
    simp only [List.length_cons] at hl
    have := hF.few
    rw [Fleetmatch.loop1, m_l2 hF a (hr a (by simp)) l [] (fun x hx => hx) (by simp; omega)]
    simp only [Option.bind_some, List.nil_append]
    rw [apd_lt (by simp; omega)]
    simp only [Option.bind_some]
    rw [m_l1 r _ (fun x hx => hr x (by simp [hx])) (by simp; omega)]
    simp
omit hF in
theorem rel_aft {i j : Nat} (hi : i < l.length) (hj : j < l.length) : rel (afts l t s) i j = aft t s l[i] l[j] := by
  unfold rel afts
  rw [List.getElem?_map, List.getElem?_eq_getElem hi]
  simp only [Option.map_some, Option.getD_some]
  rw [gb_at (by simpa using hj), List.getElem_map]
theorem after_ok {i j : Nat} (hi : i < l.length) (hj : j < l.length) : Fishref2After l t s (i : Int) (j : Int) = some (rel (afts l t s) i j) := by
  unfold Fishref2After
  obtain ⟨row, e1, e2, e3⟩ := sec_gx hF (List.getElem_mem hi) (List.getElem_mem hj)
  rw [gx_at hi, gx_at hj]
  simp only [Option.bind_some]
  rw [e1]
  simp only [Option.bind_some]
  rw [e2]
  simp only [Option.bind_some]
  rw [e3, rel_aft hi hj]
  rfl
def dep (l : List FleetTask) (i : Nat) : Int := (l[i]?.map (·.Dep)).getD 0
omit hF in
theorem dep_at {i : Nat} (hi : i < l.length) : dep l i = l[i].Dep := by simp [dep, hi]
theorem dep_lt (i b : Nat) (hi : i < l.length) (hb : b < l.length) (h : rel (afts l t s) i b = true) : dep l i < dep l b := by
  rw [rel_aft hi hb] at h
  have h1 := of_decide_eq_true h
  obtain ⟨a1, a2, a3, a4, a5, a6, a7⟩ := hF.task _ (List.getElem_mem hi)
  obtain ⟨b1, b2, b3, b4, b5, b6, b7⟩ := hF.task _ (List.getElem_mem hb)
  have hp := hF.pos (l[i].To.toNat) (l[b].From.toNat) (by omega) (by omega)
  have := hF.t0
  rw [dep_at hi, dep_at hb]; omega
theorem dep_bd (i : Nat) (hi : i < l.length) : 0 ≤ dep l i ∧ dep l i ≤ 28800 := by
  obtain ⟨a1, a2, a3, a4, a5, a6, a7⟩ := hF.task _ (List.getElem_mem hi)
  rw [dep_at hi]; omega
theorem aft_trans (i j k : Nat) (hi : i < l.length) (hj : j < l.length) (hk : k < l.length) (h1 : rel (afts l t s) i j = true) (h2 : rel (afts l t s) j k = true) : rel (afts l t s) i k = true := by
  rw [rel_aft hi hj] at h1
  rw [rel_aft hj hk] at h2
  rw [rel_aft hi hk]
  have g1 := of_decide_eq_true h1
  have g2 := of_decide_eq_true h2
  obtain ⟨a1, a2, a3, a4, a5, a6, a7⟩ := hF.task _ (List.getElem_mem hi)
  obtain ⟨b1, b2, b3, b4, b5, b6, b7⟩ := hF.task _ (List.getElem_mem hj)
  obtain ⟨c1, c2, c3, c4, c5, c6, c7⟩ := hF.task _ (List.getElem_mem hk)
  have r1 := hF.run _ (List.getElem_mem hj)
  have r2 := hF.tri l[i].To.toNat l[j].From.toNat l[k].From.toNat (by omega) (by omega) (by omega)
  have r3 := hF.tri l[j].From.toNat l[j].To.toNat l[k].From.toNat (by omega) (by omega) (by omega)
  have := hF.t0
  refine decide_eq_true ?_
  omega
theorem match_ok (fu : Nat) (hf : 1000 ≤ fu) : ∃ nx pv S, Fleetmatch (fu + 60) l t s = some (some ⟨afts l t s, nx, pv⟩) ∧ Max (afts l t s) l.length l.length nx pv S := by
  have hfew := hF.few
  unfold Fleetmatch
  rw [rep25 fu l.length (by omega)]
  simp only [Option.bind_some]
  rw [m_l1 hF l [] (fun x hx => hx) (by simp; omega)]
  simp only [Option.bind_some, List.nil_append]
  have hA : (afts l t s).length = l.length := by simp [afts]
  have hrows : ∀ r ∈ afts l t s, r.length = l.length := by
    intro r hr
    unfold afts at hr
    obtain ⟨a, _, rfl⟩ := List.mem_map.1 hr
    simp
  have hz : ∀ i, i < l.length → gd (List.replicate l.length (-1)) i = -1 := by
    intro i hi
    rw [gd_at (by simpa using hi), List.getElem_replicate]
  obtain ⟨nx, pv, S, e1, e2⟩ := match_loop (afts l t s) l l.length rfl (by omega) hA hrows (fu + 60) (by omega) l 0 (List.replicate l.length (-1)) (List.replicate l.length (-1)) (fun _ => False) (by omega)
    ⟨⟨by simp, by simp, fun b hb _ h => by rw [hz b hb] at h; omega, fun i hi _ h => by rw [hz i hi] at h; omega⟩, fun i _ hi => by rw [hz i hi]; omega, fun b _ h => absurd h id, fun i hi => absurd hi (by omega)⟩
  have e1' : Fleetmatch.loop3 l (fu + 60) (l.map (fun a => l.map (fun b => aft t s a b))) l 0 (List.replicate l.length (-1)) (List.replicate l.length (-1)) = some (nx, pv) := e1
  rw [e1']
  exact ⟨nx, pv, S, rfl, e2⟩
end
section
variable {l : List FleetTask} {t : Int} {s : List (List Int)} (hF : Facts l t s)
theorem row_head {A : List (List Bool)} {n : Nat} {x : Int} {r : List Int} (h : Row A n (x :: r)) : (∃ i : Nat, x = i ∧ i < n) ∧ Row A n r := by
  cases r with
  | nil => exact ⟨h, trivial⟩
  | cons y r =>
    obtain ⟨⟨i, j, h1, h2, h3, h4, h5⟩, h6⟩ := h
    exact ⟨⟨i, h1, h3⟩, h6⟩
include hF in
theorem w_l2 (row : List Int) (hrl : row.length ≤ 100000) : ∀ (d k : Nat) (seen : List Int) (c : Int), k + d = row.length → seen.length = l.length → (∀ i, i < l.length → 0 ≤ gd seen i ∧ gd seen i ≤ c) → 0 ≤ c → c + d ≤ 1000000000 →
    Row (afts l t s) l.length (row.drop k) → (0 < k → ∀ h : k < row.length, ∃ i j : Nat, row[k - 1]'(by omega) = i ∧ row[k] = j ∧ i < l.length ∧ j < l.length ∧ rel (afts l t s) i j = true) →
    ∃ seen', Fishlaw2FleetCovers.loop2 l t s row (row.drop k) k seen = some (.next seen') ∧ seen'.length = l.length ∧ ∀ i, i < l.length → gd seen' i = gd seen i + ct (row.drop k) i
  | 0, k, seen, c, hk, hsl, _, _, _, _, _ => by
    have : row.drop k = [] := List.drop_eq_nil_iff.2 (by omega)
    rw [this]
    exact ⟨seen, rfl, hsl, fun i _ => by simp [ct]⟩
  | d + 1, k, seen, c, hk, hsl, hb, hc0, hc, hR, hprev => by
    have hkl : k < row.length := by omega
    have hR' := hR
    rw [List.drop_eq_getElem_cons hkl] at hR' ⊢
    obtain ⟨⟨i, hi, hil⟩, hR1⟩ := row_head hR'
    rw [Fishlaw2FleetCovers.loop2]
    have c1 : ¬ row[k] < 0 := by omega
    have c2 : ¬ row[k] ≥ ((l.length : Nat) : Int) := by omega
    simp only [c1, c2, decide_false, Bool.false_eq_true, if_false]
    have hcond : ((if decide (((k : Nat) : Int) > 0) = true then ((gx row (w64 (((k : Nat) : Int) - 1))).bind fun x166 => ((Fishref2After l t s x166 row[k]).bind fun q175 => some !q175)) else some false) : Option Bool) = some false := by
      by_cases h0 : k = 0
      · subst h0; rfl
      · have hp : ((k : Nat) : Int) > 0 := by omega
        have hw : w64 (((k : Nat) : Int) - 1) = ((k - 1 : Nat) : Int) := by rw [w64_id (by omega)]; omega
        obtain ⟨a, b, p1, p2, p3, p4, p5⟩ := hprev (by omega) hkl
        simp only [hp, decide_true, if_true, hw, gx_at (l := row) (k := k - 1) (by omega), Option.bind_some, p1, p2]
        rw [after_ok hF p3 p4, p5]
        rfl
    rw [hcond]
    simp only [Option.bind_some, Bool.false_eq_true, if_false]
    have hb1 := hb i hil
    rw [hi, gx_gd (l := seen) (k := i) (by omega), ix_c (l := seen) (k := i) (by omega)]
    simp only [Option.bind_some]
    rw [w64_id (by omega), sx_c (l := seen) (k := i) (by omega)]
    simp only [Option.bind_some]
    have hg : ∀ j, gd (seen.set i (gd seen i + 1)) j = if j = i then gd seen i + 1 else gd seen j := fun j => gd_set (by omega) _ _
    obtain ⟨seen', e1, e2, e3⟩ := w_l2 row hrl d (k + 1) (seen.set i (gd seen i + 1)) (c + 1) (by omega) (by simpa using hsl) (fun j hj => by
      rw [hg]
      have := hb j hj
      split <;> omega) (by omega) (by omega) hR1 (fun _ h => by
        have hR2 := hR'
        rw [List.drop_eq_getElem_cons h] at hR2
        obtain ⟨⟨a, b, h1, h2, h3, h4, h5⟩, _⟩ := hR2
        exact ⟨a, b, by simpa using h1, h2, h3, h4, h5⟩)
    refine ⟨seen', e1, e2, fun j hj => ?_⟩
    rw [e3 j hj, hg]
    simp only [ct]
    by_cases e : j = i
    · subst e
      rw [if_pos rfl, if_pos rfl]; omega
    · rw [if_neg e, if_neg (by omega)]; omega
include hF in
theorem w_l1 (rows : List (List Int)) (hrows : rows.length ≤ 1000) (hall : ∀ r ∈ rows, r ≠ [] ∧ r.length ≤ 100000 ∧ Row (afts l t s) l.length r) : ∀ (d k : Nat) (seen : List Int), k + d = rows.length → seen.length = l.length → (∀ i, i < l.length → 0 ≤ gd seen i ∧ gd seen i ≤ 100000 * (k : Int)) →
    ∃ seen', Fishlaw2FleetCovers.loop1 l t s (rows, 0) d k seen = some (.next seen') ∧ seen'.length = l.length ∧ ∀ i, i < l.length → gd seen' i = gd seen i + allc (rows.drop k) i
  | 0, k, seen, hk, hsl, _ => by
    have : rows.drop k = [] := List.drop_eq_nil_iff.2 (by omega)
    rw [this]
    exact ⟨seen, rfl, hsl, fun i _ => by simp [allc]⟩
  | d + 1, k, seen, hk, hsl, hb => by
    have hkl : k < rows.length := by omega
    obtain ⟨r1, r2, r3⟩ := hall _ (List.getElem_mem hkl)
    rw [Fishlaw2FleetCovers.loop1, gx_at hkl]
    simp only [Option.bind_some]
    obtain ⟨seen1, e1, e2, e3⟩ := w_l2 hF rows[k] r2 rows[k].length 0 seen (100000 * (k : Int)) (by omega) hsl hb (by omega) (by omega) r3 (fun h => absurd h (by omega))
    rw [List.drop_zero] at e1 e3
    rw [e1]
    have hne : (((rows[k].length : Nat) : Int) == 0) = false := by
      have := List.length_pos_iff.2 r1
      simp; omega
    simp only [Option.bind_some, hne, Bool.false_eq_true, if_false]
    have hct : ∀ (q : List Int) (i : Nat), 0 ≤ ct q i ∧ ct q i ≤ q.length := by
      intro q i
      induction q with
      | nil => simp [ct]
      | cons x q ih => simp only [ct, List.length_cons]; split <;> omega
    obtain ⟨seen2, f1, f2, f3⟩ := w_l1 rows hrows hall d (k + 1) seen1 (by omega) e2 (fun i hi => by
      rw [e3 i hi]
      have := hb i hi
      have := hct rows[k] i
      omega)
    refine ⟨seen2, f1, f2, fun i hi => ?_⟩
    rw [f3 i hi, e3 i hi, List.drop_eq_getElem_cons hkl]
    simp only [allc]; omega
include hF in
theorem w_l4 (i : Nat) (hi : i < l.length) : ∀ (q : List Int), (∀ x ∈ q, ∃ j : Nat, x = j ∧ j < l.length ∧ rel (afts l t s) i j = false) → Fishlaw2FleetCovers.loop4 l t s (i : Int) q = some (.next ())
  | [], _ => rfl
  | x :: q, h => by
    obtain ⟨j, rfl, h1, h2⟩ := h x (by simp)
    rw [Fishlaw2FleetCovers.loop4, after_ok hF hi h1, h2]
    simp only [Option.bind_some, Bool.false_eq_true, if_false]
    exact w_l4 i hi q (fun y hy => h y (by simp [hy]))
include hF in
theorem w_l3 (ap : List Int) (hlen : ap.length ≤ 1000) (hin : ∀ x ∈ ap, ∃ i : Nat, x = i ∧ i < l.length) (hs : ap.Pairwise (· < ·)) (hno : ∀ i j : Nat, (i : Int) ∈ ap → (j : Int) ∈ ap → rel (afts l t s) i j = false) : ∀ (d k : Nat), k + d = ap.length → Fishlaw2FleetCovers.loop3 l t s (ap, 0) d k = some (.next ())
  | 0, _, _ => rfl
  | d + 1, k, hk => by
    have hkl : k < ap.length := by omega
    have hm := List.getElem_mem hkl
    obtain ⟨i, hi, hil⟩ := hin _ hm
    rw [Fishlaw2FleetCovers.loop3, gx_at hkl]
    simp only [Option.bind_some]
    have c1 : ¬ ap[k] < 0 := by omega
    have c2 : ¬ ap[k] ≥ ((l.length : Nat) : Int) := by omega
    have hcut : cutl ap 0 ((k : Nat) : Int) = some (ap.take k) := by
      rw [cutl_in (by omega) (by omega) (by omega)]
      simp
    have hcon : SlicesContainsLint (ap.take k) ap[k] = false := by
      rw [contains_eq]
      cases h : (ap.take k).contains ap[k]
      · rfl
      · have h1 : ap[k] ∈ ap.take k := by simpa using h
        obtain ⟨j, hj, e⟩ := List.mem_iff_getElem.1 h1
        simp only [List.length_take] at hj
        have := List.pairwise_iff_getElem.1 hs j k (by omega) hkl (by omega)
        rw [List.getElem_take] at e
        omega
    simp only [c1, c2, decide_false, Bool.false_eq_true, if_false, hcut, Option.bind_some, hcon]
    rw [hi, w_l4 hF i hil ap (fun x hx => by
      obtain ⟨j, hj, hjl⟩ := hin x hx
      exact ⟨j, hj, hjl, hno i j (hi ▸ hm) (hj ▸ hx)⟩)]
    simp only [Option.bind_some]
    exact w_l3 ap hlen hin hs hno d (k + 1) (by omega)
end
theorem all_one : ∀ (q : List Int) (k : Nat), (∀ x ∈ q, x = 1) → SlicesIndexFuncLint_v1.loop1 q k = .next ()
  | [], _, _ => rfl
  | x :: q, k, h => by
    rw [SlicesIndexFuncLint_v1.loop1]
    have hx := h x (by simp)
    unfold Fishlaw2FleetCovers_1
    subst hx
    simp only [bne_self_eq_false, Bool.false_eq_true, if_false]
    exact all_one q (k + 1) (fun y hy => h y (by simp [hy]))
theorem trs_mem {nx pv : List Int} {m : Nat} : ∀ (d k : Nat) (r : List Int), r ∈ trs nx pv m d k → ∃ j : Nat, k ≤ j ∧ j < k + d ∧ r = pth nx m (j : Int)
  | 0, _, r, h => by simp [trs] at h
  | d + 1, k, r, h => by
    rw [trs] at h
    by_cases hp : gd pv k < 0
    · simp only [hp, if_true] at h
      rcases List.mem_cons.1 h with rfl | h
      · exact ⟨k, Nat.le_refl _, by omega, rfl⟩
      · obtain ⟨j, j1, j2, j3⟩ := trs_mem d (k + 1) r h
        exact ⟨j, by omega, by omega, j3⟩
    · simp only [hp, if_false] at h
      obtain ⟨j, j1, j2, j3⟩ := trs_mem d (k + 1) r h
      exact ⟨j, by omega, by omega, j3⟩
theorem covers_at (fu : Nat) (hfu : 40000 ≤ fu) (hfu2 : fu ≤ 50000) (l : List FleetTask) (t : Int) (s : List (List Int)) : Fishlaw2FleetCovers (fu + 60) l t s = some true := by
  unfold Fishlaw2FleetCovers
  rw [sets_true, secs_ref]
  obtain ⟨e, he, hfacts⟩ := secs_in l t s
  by_cases h0 : e = 0
  · subst h0
    have hF := hfacts rfl
    have hfew := hF.few
    obtain ⟨nx, pv, S, g1, g2⟩ := match_ok hF fu (by omega)
    have hA : (afts l t s).length = l.length := by simp [afts]
    have hrowsA : ∀ r ∈ afts l t s, r.length = l.length := by
      intro r hr
      unfold afts at hr
      obtain ⟨a, _, rfl⟩ := List.mem_map.1 hr
      simp
    have hD := fun i b hi hb h => dep_lt hF i b hi hb h
    have hDb := fun i hi => dep_bd hF i hi
    have hCov : FleetCovers (fu + 60) l t s = some (trs nx pv (fu + 60) l.length 0, 0) := by
      unfold FleetCovers
      rw [he]
      simp only [Option.bind_some, bne_self_eq_false, Bool.false_eq_true, if_false]
      rw [g1]
      simp only [Option.bind_some]
      rw [c_l1 g2.mt (dep l) hD hDb ⟨afts l t s, nx, pv⟩ rfl rfl (fu + 60) (by omega) (by omega) (by omega) l 0 [] (by omega) (by simp)]
      simp
    have hz : ∀ b, gb (List.replicate l.length false) b = false := by
      intro b
      unfold gb
      by_cases hb : b < l.length
      · rw [List.getElem?_eq_getElem (by simpa using hb)]; simp
      · rw [List.getElem?_eq_none (by simp; omega)]; rfl
    obtain ⟨f, sc, a1, a2⟩ := apart_loop (nx := nx) (S := S) g2.clo g2.mt.pl hA hrowsA g2.mt.nl g2.done (fu + 60) (by omega) l 0 (List.replicate l.length false) (List.replicate l.length false) (by omega)
      ⟨by simp, by simp, fun x _ h => (by rw [hz] at h; cases h), fun b _ h => (by rw [hz] at h; cases h), fun x hx => absurd hx (by omega)⟩
    have hAp : FleetApart (fu + 60) l t s = some (apl f sc l.length 0, 0) := by
      unfold FleetApart
      rw [mks_in (by omega), he]
      simp only [Option.bind_some, bne_self_eq_false, Bool.false_eq_true, if_false]
      rw [g1]
      simp only [Option.bind_some]
      rw [a1]
      simp only [Option.bind_some]
      rw [apl_ok f sc l.length a2.fl a2.sl (by omega) l 0 [] (by omega) (by simp)]
      simp
    have hcnt : (((trs nx pv (fu + 60) l.length 0).length : Nat) : Int) = (((apl f sc l.length 0).length : Nat) : Int) := by
      rw [trs_len, apl_len]
      have := count_eq g2.mt a2 (fun i j k hi hj hk => aft_trans hF i j k hi hj hk)
      simp only [Nat.zero_add]
      exact this.symm
    have hlenT : (trs nx pv (fu + 60) l.length 0).length ≤ l.length := by
      have h1 := trs_len nx pv (fu + 60) l.length 0
      have h2 := sg_le (m := l.length) (f := fun j => if gd pv (0 + j) < 0 then (1 : Int) else 0) (g := fun _ => 1) (fun i _ => by split <;> omega)
      rw [sg_const] at h2
      omega
    obtain ⟨m1, m2⟩ := apl_mem f sc l.length 0
    have hrows : ∀ r ∈ trs nx pv (fu + 60) l.length 0, r ≠ [] ∧ r.length ≤ 100000 ∧ Row (afts l t s) l.length r := by
      intro r hr
      obtain ⟨j, j1, j2, rfl⟩ := trs_mem l.length 0 r hr
      refine ⟨?_, ?_, pth_row g2.mt (dep l) hD hDb (fu + 60) _ (root_ends (dep l) hDb (by omega) (by omega))⟩
      · have h0 : (0 : Int) ≤ (j : Int) := by omega
        rw [pth, if_pos h0]; simp
      · have := pth_len nx (fu + 60) (j : Int)
        omega
    have hz0 : ∀ i, i < l.length → gd (List.replicate l.length 0) i = 0 := by
      intro i hi
      rw [gd_at (by simpa using hi), List.getElem_replicate]
    obtain ⟨seen, w1, w2, w3⟩ := w_l1 hF (trs nx pv (fu + 60) l.length 0) (by omega) hrows (trs nx pv (fu + 60) l.length 0).length 0 (List.replicate l.length 0) (by omega) (by simp) (fun i hi => by rw [hz0 i hi]; omega)
    have hall : ∀ x ∈ seen, x = 1 := by
      intro x hx
      obtain ⟨i, hi, rfl⟩ := List.mem_iff_getElem.1 hx
      rw [← gd_at hi, w3 i (by omega), hz0 i (by omega), List.drop_zero, trs_once g2.mt (dep l) hD hDb (by omega) 28801 i (by omega) (by have := hDb i (by omega); omega)]
      rfl
    have hcont : SlicesContainsFuncLint_v1 seen = false := by
      unfold SlicesContainsFuncLint_v1 SlicesIndexFuncLint_v1
      rw [all_one seen 0 hall]; rfl
    have hl3 := w_l3 hF (apl f sc l.length 0) (by omega) (fun x hx => by
      obtain ⟨i, i1, _, i3, _⟩ := m1 x hx
      exact ⟨i, i1, by omega⟩) m2 (fun i j hi hj => by
      obtain ⟨i', i1, _, i3, i4, _⟩ := m1 _ hi
      obtain ⟨j', j1, _, j3, _, j5⟩ := m1 _ hj
      have ei : i' = i := by omega
      have ej : j' = j := by omega
      subst ei; subst ej
      cases hr : rel (afts l t s) i' j'
      · rfl
      · have := a2.a i' (by omega) i4 j' (by omega) hr
        rw [j5] at this; cases this) (apl f sc l.length 0).length 0 (by omega)
    rw [hCov, hAp, he, mks_in (by omega)]
    simp only [Option.bind_some, bne_self_eq_false, Bool.false_eq_true, if_false, Bool.not_true, hcnt]
    rw [w1]
    simp only [Option.bind_some]
    rw [hl3]
    simp [hcont]
  · have hb : (e != 0) = true := by simp [h0]
    have e1 : FleetCovers (fu + 60) l t s = some ([], e) := by
      unfold FleetCovers
      rw [he]
      simp only [Option.bind_some, hb, if_true]
    have e2 : FleetApart (fu + 60) l t s = some ([], e) := by
      unfold FleetApart
      rw [he]
      simp only [Option.bind_some, hb, if_true]
    have hw : w64 (((([] : List (List Int)).length : Nat) : Int) + ((([] : List Int).length : Nat) : Int)) = 0 := by
      rw [w64_id (by simp)]; rfl
    rw [e1, e2, he]
    simp only [Option.bind_some, hb, if_true, beq_self_eq_true, hw]
theorem FleetCovers_law (l : List FleetTask) (t : Int) (s : List (List Int)) (_ : l.length ≤ 9223372036854775807) (_ : -9223372036854775808 ≤ t ∧ t ≤ 9223372036854775807) (_ : s.length ≤ 9223372036854775807) (_ : ∀ x ∈ s, x.length ≤ 9223372036854775807) : ∃ fu, Fishlaw2FleetCovers fu l t s = some true :=
  ⟨40000 + 60, covers_at 40000 (by omega) (by omega) l t s⟩

end Go.Fp
