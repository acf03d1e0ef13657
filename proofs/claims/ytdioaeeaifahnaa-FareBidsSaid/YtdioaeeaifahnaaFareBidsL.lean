/- FareBids: the mirror of the law is true of all offers. -/
import Derived.Test.YtdioaeeaifahnaaFareBidsM
import Derived.Test.YtdioaeeaifahnaaFpPlain
import Derived.KernelRfl
namespace Go.Fp

/-! single bits -/
theorem bit_and1 {x : Int} (h0 : 0 ≤ x) (h1 : x < 9223372036854775808) : IntKind.wrap .i64 ((BitVec.ofInt (IntKind.bits .i64) x &&& BitVec.ofInt (IntKind.bits .i64) 1).toNat : Int) = x % 2 := by
  have e : (BitVec.ofInt (IntKind.bits .i64) x &&& BitVec.ofInt (IntKind.bits .i64) 1).toNat = x.toNat % 2 := by
    show (BitVec.ofInt 64 x &&& BitVec.ofInt 64 1).toNat = x.toNat % 2
    rw [BitVec.toNat_and]
    have h2 : (BitVec.ofInt 64 1).toNat = 1 := by decide
    have h3 : (BitVec.ofInt 64 x).toNat = x.toNat := by
      rw [BitVec.toNat_ofInt]
      have : x % ((2 ^ 64 : Nat) : Int) = x := Int.emod_eq_of_lt h0 (by omega)
      rw [this]
    rw [h2, h3, Nat.and_one_is_mod]
  rw [e]
  have : ((x.toNat % 2 : Nat) : Int) = x % 2 := by omega
  rw [this]
  exact IntWalk.i64_in _ ⟨by omega, by omega⟩
theorem shr_nat {x : Int} (h0 : 0 ≤ x) {k : Nat} (hk : k ≤ 64) : Int.fdiv x (2 ^ (min (Int.toNat ((k : Nat) : Int)) (IntKind.bits .i64))) = x / 2 ^ k := by
  have e : min (Int.toNat ((k : Nat) : Int)) (IntKind.bits .i64) = k := by show min (Int.toNat ((k : Nat) : Int)) 64 = k; omega
  rw [e, Int.fdiv_eq_ediv_of_nonneg x (Int.le_of_lt (Int.pow_pos (by omega)))]
theorem shr_lt {x : Int} (h0 : 0 ≤ x) (h1 : x < 9223372036854775808) (k : Nat) : 0 ≤ x / 2 ^ k ∧ x / 2 ^ k < 9223372036854775808 := by
  have hp : (0 : Int) < 2 ^ k := Int.pow_pos (by omega)
  exact ⟨Int.ediv_nonneg h0 (Int.le_of_lt hp), Int.lt_of_le_of_lt (Int.ediv_le_self _ h0) h1⟩
/-! the greatest of a list -/
theorem max_loop (l : List Int) (hl : l.length ≤ 1000000) (s : Int) : ∀ (fu : Nat) (k : Nat) (m : Int), k ≤ l.length → l.length - k < fu → ∃ z q, SlicesMaxLint.loop1 l fu m ((k : Nat) : Int) = some (z, q) ∧ (z ≤ s ↔ m ≤ s ∧ ∀ v ∈ l.drop k, v ≤ s)
  | 0, _, _, _, h => absurd h (by omega)
  | fu + 1, k, m, hk, hf => by
    rw [SlicesMaxLint.loop1]
    by_cases h : k < l.length
    · have hc : ((k : Nat) : Int) < ((l.length : Nat) : Int) := by omega
      simp only [hc, decide_true, if_true, gx_at h, Option.bind_some]
      rw [w64_id (by omega)]
      have e : ((k : Int) + 1) = ((k + 1 : Nat) : Int) := by omega
      rw [e]
      obtain ⟨z, q, h1, h2⟩ := max_loop l hl s fu (k + 1) (mx m l[k]) (by omega) (by omega)
      refine ⟨z, q, h1, ?_⟩
      rw [h2, List.drop_eq_getElem_cons h]
      unfold mx
      constructor
      · rintro ⟨h3, h4⟩
        refine ⟨by split at h3 <;> omega, fun v hv => ?_⟩
        rcases List.mem_cons.1 hv with rfl | hv
        · split at h3 <;> omega
        · exact h4 v hv
      · rintro ⟨h3, h4⟩
        refine ⟨?_, fun v hv => h4 v (List.mem_cons_of_mem _ hv)⟩
        have := h4 l[k] List.mem_cons_self
        split <;> omega
    · have hc : ¬ ((k : Nat) : Int) < ((l.length : Nat) : Int) := by omega
      simp only [hc, decide_false, Bool.false_eq_true, if_false]
      refine ⟨m, _, rfl, ?_⟩
      have : l.drop k = [] := List.drop_eq_nil_iff.2 (by omega)
      simp [this]
theorem max_ok {fu : Nat} (l : List Int) (h0 : 0 < l.length) (hl : l.length ≤ 1000000) (hf : l.length ≤ fu) (s : Int) : ∃ z, SlicesMaxLint fu l = some z ∧ (z ≤ s ↔ ∀ v ∈ l, v ≤ s) := by
  unfold SlicesMaxLint
  have hn : ¬ ((l.length : Nat) : Int) < 1 := by omega
  simp only [hn, decide_false, Bool.false_eq_true, if_false]
  rw [gx_zero, List.getElem?_eq_getElem h0]
  simp only [Option.bind_some]
  obtain ⟨z, q, h1, h2⟩ := max_loop l hl s fu 1 l[0] (by omega) (by omega)
  have h1' : SlicesMaxLint.loop1 l fu l[0] 1 = some (z, q) := h1
  rw [h1']
  refine ⟨z, rfl, ?_⟩
  rw [h2]
  constructor
  · rintro ⟨h3, h4⟩ v hv
    have e : l = l[0] :: l.drop 1 := by rw [← List.drop_eq_getElem_cons h0]; rfl
    rw [e] at hv
    rcases List.mem_cons.1 hv with h | h
    · omega
    · exact h4 v h
  · intro h; exact ⟨h _ (List.getElem_mem h0), fun v hv => h v (List.mem_of_mem_drop hv)⟩
/-! lists compared -/
theorem compare_tot (b : List Int) (hb : b.length ≤ 9223372036854775807) : ∀ (a : List Int) (k : Nat), Tot (SlicesCompareLint.loop1 b a k)
  | [], _ => .some _
  | x :: a, k => by
    rw [SlicesCompareLint.loop1]
    refine .ite (fun _ => .some _) fun h => ?_
    have h := of_decide_eq_false h
    exact .bind1 (gx_at (by omega)) (.ite (fun _ => .some _) fun _ => compare_tot b hb a (k + 1))
theorem compare_ok (a b : List Int) (hb : b.length ≤ 9223372036854775807) : Tot (SlicesCompareLint a b) := by
  unfold SlicesCompareLint
  refine .bind (compare_tot b hb a 0) fun z _ => ?_
  cases z
  · exact .some _
  · exact .ite (fun _ => .some _) fun _ => .some _
theorem fares_true (n : Nat) : Fishlaw2fares (n + 60) = some true := by kernel_rfl
theorem within_iff (x a b : Int) : Farewithin x a b = decide (a ≤ x ∧ x ≤ b) := by
  unfold Farewithin bnd
  by_cases h1 : a ≤ x <;> by_cases h2 : x ≤ b <;> simp [h1, h2]
theorem span_iff (a b t : Int) : Farespan a b t = decide (0 ≤ a ∧ a < b ∧ b < t) := by
  unfold Farespan bnd
  by_cases h1 : 0 ≤ a <;> by_cases h2 : a < b <;> by_cases h3 : b < t <;> simp [h1, h2, h3]
theorem offers_loop (t : Int) : ∀ l : List FareOffer, Fishref2OffersFault.loop1 t l = FarecheckOffers.loop1 t l
  | [] => rfl
  | o :: l => by
    simp only [Fishref2OffersFault.loop1, FarecheckOffers.loop1, offers_loop t l, span_iff, show Fishref2within = Farewithin from rfl, bnd_eq]
    by_cases h1 : o.From < 0
    · have h1' : ¬ 0 ≤ o.From := by omega
      simp [h1, h1']
    · have h1' : 0 ≤ o.From := by omega
      by_cases h2 : o.From ≥ o.To
      · have h2' : ¬ o.From < o.To := by omega
        simp [h1, h2, h2']
      · have h2' : o.From < o.To := by omega
        by_cases h3 : o.To ≥ t
        · have h3' : ¬ o.To < t := by omega
          simp [h1, h2, h3, h3']
        · have h3' : o.To < t := by omega
          simp [h1, h2, h3, h1', h2', h3']
theorem offers_ref (l : List FareOffer) (s t : Int) : Fishref2OffersFault l s t = FarecheckOffers l s t := by
  unfold Fishref2OffersFault FarecheckOffers
  simp only [offers_loop, show Fishref2within = Farewithin from rfl] <;> rfl
theorem offers_all (t : Int) : ∀ l : List FareOffer, (∀ v, FarecheckOffers.loop1 t l = .ret v → v ≠ 0) ∧ (FarecheckOffers.loop1 t l = .next () → ∀ o ∈ l, 0 ≤ o.From ∧ o.From < o.To ∧ o.To < t ∧ 1 ≤ o.Value ∧ o.Value ≤ 200)
  | [] => ⟨by intro v h; simp [FarecheckOffers.loop1] at h, by simp⟩
  | o :: l => by
    obtain ⟨i1, i2⟩ := offers_all t l
    simp only [FarecheckOffers.loop1, span_iff, within_iff, bnd_eq]
    by_cases h1 : 0 ≤ o.From ∧ o.From < o.To ∧ o.To < t
    · by_cases h2 : 1 ≤ o.Value ∧ o.Value ≤ 200
      · simp only [h1, h2, and_self, decide_true, Bool.not_true, Bool.false_eq_true, if_false]
        refine ⟨i1, fun e x hx => ?_⟩
        rcases List.mem_cons.1 hx with rfl | hx
        · exact ⟨h1.1, h1.2.1, h1.2.2, h2.1, h2.2⟩
        · exact i2 e x hx
      · refine ⟨by intro v h; simp [h1, h2] at h; omega, by intro h; simp [h1, h2] at h⟩
    · refine ⟨by intro v h; simp [h1] at h; omega, by intro h; simp [h1] at h⟩
theorem offers_in {l : List FareOffer} {s t : Int} (h : FarecheckOffers l s t = 0) : l.length ≤ 12 ∧ 1 ≤ s ∧ s ≤ 12 ∧ 2 ≤ t ∧ t ≤ 12 ∧ ∀ o ∈ l, 0 ≤ o.From ∧ o.From < o.To ∧ o.To < t ∧ 1 ≤ o.Value ∧ o.Value ≤ 200 := by
  unfold FarecheckOffers at h
  by_cases h0 : ((l.length : Nat) : Int) > 12
  · simp [h0] at h
  · simp only [h0, decide_false, Bool.false_eq_true, if_false, within_iff, bnd_eq] at h
    by_cases h1 : 1 ≤ s ∧ s ≤ 12
    · by_cases h2 : 2 ≤ t ∧ t ≤ 12
      · simp only [h1, h2, and_self, decide_true, Bool.not_true, Bool.false_eq_true, if_false] at h
        obtain ⟨i1, i2⟩ := offers_all t l
        refine ⟨by omega, h1.1, h1.2, h2.1, h2.2, ?_⟩
        cases h3 : FarecheckOffers.loop1 t l with
        | ret r => rw [h3] at h; exact absurd h (i1 r h3)
        | next u => exact i2 h3
      · simp [h1, h2] at h
    · simp [h1] at h
theorem pow_n (n : Nat) (hn : n ≤ 12) : IntKind.wrap .i64 (1 * (2 ^ (min (Int.toNat ((n : Nat) : Int)) (IntKind.bits .i64)))) = 2 ^ n ∧ (2 : Int) ^ n ≤ 4096 := by
  have e : min (Int.toNat ((n : Nat) : Int)) (IntKind.bits .i64) = n := by show min (Int.toNat ((n : Nat) : Int)) 64 = n; omega
  have h : (2 : Int) ^ n ≤ 4096 := by
    have h1 : (2 : Nat) ^ n ≤ 2 ^ 12 := Nat.pow_le_pow_right (by omega) hn
    rw [show (2 : Nat) ^ 12 = 4096 from by decide] at h1
    have h2 := Int.ofNat_le.2 h1
    rw [Int.natCast_pow] at h2; exact h2
  have h0 : (0 : Int) < 2 ^ n := Int.pow_pos (by omega)
  rw [e, Int.one_mul]
  exact ⟨IntWalk.i64_in _ ⟨by omega, by omega⟩, h⟩
/-- the sum of the first m -/
def sg : Nat → (Nat → Int) → Int
  | 0, _ => 0
  | m + 1, f => sg m f + f m
theorem sg_congr {f g : Nat → Int} : ∀ {m : Nat}, (∀ i, i < m → f i = g i) → sg m f = sg m g
  | 0, _ => rfl
  | m + 1, h => by rw [sg, sg, sg_congr (fun i hi => h i (by omega)), h m (by omega)]
theorem sg_add (f g : Nat → Int) : ∀ (m : Nat), sg m (fun i => f i + g i) = sg m f + sg m g
  | 0 => rfl
  | m + 1 => by simp only [sg]; rw [sg_add f g m]; omega
theorem sg_neg (f : Nat → Int) : ∀ (m : Nat), sg m (fun i => -f i) = -sg m f
  | 0 => rfl
  | m + 1 => by simp only [sg]; rw [sg_neg f m]; omega
theorem sg_sub (f g : Nat → Int) : ∀ (m : Nat), sg m (fun i => f i - g i) = sg m f - sg m g
  | 0 => rfl
  | m + 1 => by simp only [sg]; rw [sg_sub f g m]; omega
theorem sg_le {f g : Nat → Int} : ∀ {m : Nat}, (∀ i, i < m → f i ≤ g i) → sg m f ≤ sg m g
  | 0, _ => by simp [sg]
  | m + 1, h => by
    have h1 := sg_le (m := m) (fun i hi => h i (by omega))
    have h2 := h m (by omega)
    simp only [sg]; omega
theorem sg_zero : ∀ (m : Nat), sg m (fun _ => 0) = 0
  | 0 => rfl
  | m + 1 => by simp only [sg]; rw [sg_zero m]; rfl
theorem sg_nonneg {f : Nat → Int} {m : Nat} (h : ∀ i, i < m → 0 ≤ f i) : 0 ≤ sg m f := by
  have := sg_le (m := m) (f := fun _ => 0) (g := f) h
  rw [sg_zero] at this; exact this
theorem sg_lt {f g : Nat → Int} : ∀ {m : Nat} {j : Nat}, (∀ i, i < m → f i ≤ g i) → j < m → f j < g j → sg m f < sg m g
  | 0, _, _, h, _ => absurd h (by omega)
  | m + 1, j, h, hj, hs => by
    simp only [sg]
    have h2 := h m (by omega)
    by_cases e : j = m
    · subst e
      have h1 := sg_le (m := j) (fun i hi => h i (by omega))
      omega
    · have h1 := sg_lt (m := m) (fun i hi => h i (by omega)) (show j < m by omega) hs
      omega
theorem sg_split (f : Nat → Int) (a : Nat) : ∀ (b : Nat), sg (a + b) f = sg a f + sg b (fun i => f (a + i))
  | 0 => by simp [sg]
  | b + 1 => by
    rw [← Nat.add_assoc]
    simp only [sg]
    rw [sg_split f a b]; omega
theorem sg_ge_one {f : Nat → Int} {m j : Nat} (h : ∀ i, i < m → 0 ≤ f i) (hj : j < m) : f j ≤ sg m f := by
  have h1 := sg_le (m := m) (f := fun i => if i = j then f i else 0) (g := f) (fun i hi => by
    have := h i hi
    by_cases e : i = j
    · simp [e]
    · simp [e]; exact this)
  have h2 : ∀ (m : Nat), j < m → sg m (fun i => if i = j then f i else 0) = f j := by
    intro m
    induction m with
    | zero => intro h; omega
    | succ m ih =>
      intro hm
      simp only [sg]
      by_cases e : j = m
      · subst e
        have : sg j (fun i => if i = j then f i else 0) = 0 := by
          rw [sg_congr (g := fun _ => 0) (fun i hi => by simp; omega), sg_zero]
        rw [this]; simp
      · rw [ih (by omega)]
        have : ¬ m = j := fun h => e h.symm
        simp [this]
  rw [h2 m hj] at h1; exact h1
/-- one arc more or less -/
theorem sg_push (x w : Nat → Int) (j : Nat) (c : Int) : ∀ (m : Nat), j < m → sg m (fun i => (if i = j then x i + c else x i) * w i) = sg m (fun i => x i * w i) + c * w j
  | 0, h => absurd h (by omega)
  | m + 1, h => by
    simp only [sg]
    by_cases e : j = m
    · subst e
      have h1 : sg j (fun i => (if i = j then x i + c else x i) * w i) = sg j (fun i => x i * w i) := sg_congr (fun i hi => by
        have : ¬ i = j := by omega
        simp [this])
      rw [h1]
      simp only [if_true]
      rw [Int.add_mul]; omega
    · have h1 := sg_push x w j c m (by omega)
      rw [h1]
      have : ¬ m = j := fun h => e h.symm
      simp only [this, if_false]; omega

section flow
variable (m : Nat) (U V : Nat → Nat) (lo hi : Nat → Int)
/-- from a to b one unit may go -/
def Res (x : Nat → Int) (a b : Nat) : Prop := ∃ i, i < m ∧ ((U i = a ∧ V i = b ∧ x i < hi i) ∨ (V i = a ∧ U i = b ∧ lo i < x i))
def Rch (x : Nat → Int) (u : Nat) : Nat → Nat → Prop
  | 0, w => w = u
  | d + 1, w => Rch x u d w ∨ ∃ w', Res m U V lo hi x w w' ∧ Rch x u d w'
theorem Rch.u (x : Nat → Int) (u : Nat) : ∀ d, Rch m U V lo hi x u d u
  | 0 => rfl
  | d + 1 => .inl (Rch.u x u d)
/-- what comes in -/
def Fl (x p : Nat → Int) : Int := sg m (fun i => x i * (p (V i) - p (U i)))
theorem moved (x : Nat → Int) (a : Nat) (ha : a < m) (hal : x a < lo a) (hx : ∀ i, i < m → x i ≤ hi i) : ∀ (d w : Nat), Rch m U V lo hi x (U a) d w →
    ∃ x', (∀ i, i < m → x' i ≤ hi i) ∧ (∀ i, i < m → x' i < x i → lo i ≤ x' i) ∧ (∀ p, Fl m U V x' p = Fl m U V x p + p (U a) - p w) ∧ x' a = x a ∧
      ∀ i, i < m → (¬ Rch m U V lo hi x (U a) d (U i) ∨ ¬ Rch m U V lo hi x (U a) d (V i)) → x' i = x i
  | 0, w, h => by
    obtain rfl : w = U a := h
    exact ⟨x, hx, fun i _ h => absurd h (by omega), fun p => by omega, rfl, fun _ _ _ => rfl⟩
  | d + 1, w, h => by
    by_cases hd : Rch m U V lo hi x (U a) d w
    · obtain ⟨x', h1, h2, h3, h4, h5⟩ := moved x a ha hal hx d w hd
      refine ⟨x', h1, h2, h3, h4, fun i hi' h => h5 i hi' ?_⟩
      exact h.imp (fun h k => h (.inl k)) (fun h k => h (.inl k))
    · rcases h with h | ⟨w', ⟨i, him, hi'⟩, hw'⟩
      · exact absurd h hd
      · obtain ⟨x', h1, h2, h3, h4, h5⟩ := moved x a ha hal hx d w' hw'
        have hwu : w ≠ U a := fun e => hd (e ▸ Rch.u m U V lo hi x (U a) d)
        have hout : ∀ j, j < m → (¬ Rch m U V lo hi x (U a) (d + 1) (U j) ∨ ¬ Rch m U V lo hi x (U a) (d + 1) (V j)) → j ≠ i ∧ x' j = x j := by
          intro j hj h
          refine ⟨fun e => ?_, h5 j hj (h.imp (fun h k => h (.inl k)) (fun h k => h (.inl k)))⟩
          subst e
          have r1 : Rch m U V lo hi x (U a) (d + 1) w := .inr ⟨w', ⟨j, him, hi'⟩, hw'⟩
          have r2 : Rch m U V lo hi x (U a) (d + 1) w' := .inl hw'
          rcases hi' with ⟨e1, e2, _⟩ | ⟨e1, e2, _⟩
          · rw [e1, e2] at h; rcases h with h | h
            · exact h r1
            · exact h r2
          · rw [e1, e2] at h; rcases h with h | h
            · exact h r2
            · exact h r1
        rcases hi' with ⟨e1, e2, e3⟩ | ⟨e1, e2, e3⟩
        · have hxi : x' i = x i := h5 i him (.inl (by rw [e1]; exact hd))
          have hia : i ≠ a := fun e => hwu (by rw [← e1, e])
          refine ⟨fun j => if j = i then x' j + 1 else x' j, ?_, ?_, ?_, ?_, ?_⟩
          · intro j hj
            have := h1 j hj
            by_cases e : j = i
            · subst e; simp; omega
            · simp [e]; exact this
          · intro j hj
            have := h2 j hj
            by_cases e : j = i
            · subst e; simp; omega
            · simpa [e] using this
          · intro p
            unfold Fl
            rw [sg_push x' (fun k => p (V k) - p (U k)) i 1 m him]
            have := h3 p
            unfold Fl at this
            rw [this, e1, e2]; omega
          · simp [Ne.symm hia, h4]
          · intro j hj h
            obtain ⟨k1, k2⟩ := hout j hj h
            simp [k1, k2]
        · have hxi : x' i = x i := h5 i him (.inr (by rw [e1]; exact hd))
          have hia : i ≠ a := fun e => by subst e; omega
          refine ⟨fun j => if j = i then x' j + (-1) else x' j, ?_, ?_, ?_, ?_, ?_⟩
          · intro j hj
            have := h1 j hj
            by_cases e : j = i
            · subst e; simp; omega
            · simp [e]; exact this
          · intro j hj
            have := h2 j hj
            by_cases e : j = i
            · subst e; simp; omega
            · simpa [e] using this
          · intro p
            unfold Fl
            rw [sg_push x' (fun k => p (V k) - p (U k)) i (-1) m him]
            have := h3 p
            unfold Fl at this
            rw [this, e1, e2]; omega
          · simp [Ne.symm hia, h4]
          · intro j hj h
            obtain ⟨k1, k2⟩ := hout j hj h
            simp [k1, k2]
open Classical in
theorem hoffman (hlh : ∀ i, i < m → lo i ≤ hi i) (h0 : ∀ i, i < m → 0 ≤ hi i) : (∃ x : Nat → Int, (∀ i, i < m → lo i ≤ x i ∧ x i ≤ hi i) ∧ ∀ p, Fl m U V x p = 0) ∨
    ∃ S : Nat → Bool, sg m (fun i => if S (U i) then (if S (V i) then 0 else hi i) else (if S (V i) then - lo i else 0)) < 0 := by
  have main : ∀ (k : Nat) (x : Nat → Int), (∀ i, i < m → x i ≤ hi i) → (∀ p, Fl m U V x p = 0) → sg m (fun i => max 0 (lo i - x i)) ≤ k →
      (∃ x : Nat → Int, (∀ i, i < m → lo i ≤ x i ∧ x i ≤ hi i) ∧ ∀ p, Fl m U V x p = 0) ∨
      ∃ S : Nat → Bool, sg m (fun i => if S (U i) then (if S (V i) then 0 else hi i) else (if S (V i) then - lo i else 0)) < 0 := by
    intro k
    induction k with
    | zero =>
      intro x hx hp hk
      refine .inl ⟨x, fun i hi' => ⟨?_, hx i hi'⟩, hp⟩
      have := sg_ge_one (f := fun i => max 0 (lo i - x i)) (m := m) (j := i) (fun i _ => by omega) hi'
      omega
    | succ k ih =>
      intro x hx hp hk
      by_cases hall : ∀ i, i < m → lo i ≤ x i
      · exact .inl ⟨x, fun i hi' => ⟨hall i hi', hx i hi'⟩, hp⟩
      · simp only [Classical.not_forall, Int.not_le] at hall
        obtain ⟨a, ha, hal⟩ := hall
        by_cases hr : ∃ d, Rch m U V lo hi x (U a) d (V a)
        · obtain ⟨d, hr⟩ := hr
          obtain ⟨x', h1, h2, h3, h4, h5⟩ := moved m U V lo hi x a ha hal hx d (V a) hr
          have hla := hlh a ha
          refine ih (fun j => if j = a then x' j + 1 else x' j) ?_ ?_ ?_
          · intro i hi'
            have := h1 i hi'
            by_cases e : i = a
            · subst e; simp; omega
            · simp [e]; exact this
          · intro p
            unfold Fl
            rw [sg_push x' (fun k => p (V k) - p (U k)) a 1 m ha]
            have e1 := h3 p
            have e2 := hp p
            unfold Fl at e1 e2
            rw [e1, e2]; omega
          · have := sg_lt (m := m) (j := a) (f := fun i => max 0 (lo i - (if i = a then x' i + 1 else x' i))) (g := fun i => max 0 (lo i - x i)) (fun i hi' => by
                have := h2 i hi'
                by_cases e : i = a
                · subst e; simp only [if_true]; omega
                · simp only [e, if_false]; omega) ha (by simp only [if_true]; omega)
            omega
        · refine .inr ⟨fun w => !decide (∃ d, Rch m U V lo hi x (U a) d w), ?_⟩
          have hz := hp (fun w => if (∃ d, Rch m U V lo hi x (U a) d w) then 0 else 1)
          have := sg_lt (m := m) (j := a) (f := fun i => if (!decide (∃ d, Rch m U V lo hi x (U a) d (U i))) then (if (!decide (∃ d, Rch m U V lo hi x (U a) d (V i))) then 0 else hi i) else (if (!decide (∃ d, Rch m U V lo hi x (U a) d (V i))) then - lo i else 0))
            (g := fun i => -(x i * ((if (∃ d, Rch m U V lo hi x (U a) d (V i)) then (0 : Int) else 1) - (if (∃ d, Rch m U V lo hi x (U a) d (U i)) then 0 else 1)))) (fun i hi' => by
              by_cases hu : ∃ d, Rch m U V lo hi x (U a) d (U i) <;> by_cases hv : ∃ d, Rch m U V lo hi x (U a) d (V i)
              · simp [hu, hv]
              · simp only [hu, hv, decide_true, decide_false, Bool.not_true, Bool.not_false, if_true, if_false, Bool.false_eq_true]
                have : x i ≤ lo i := by
                  apply Int.not_lt.1
                  intro hlt
                  obtain ⟨d, hd⟩ := hu
                  exact hv ⟨d + 1, .inr ⟨U i, ⟨i, hi', .inr ⟨rfl, rfl, hlt⟩⟩, hd⟩⟩
                omega
              · simp only [hu, hv, decide_true, decide_false, Bool.not_true, Bool.not_false, if_true, if_false, Bool.false_eq_true]
                have : hi i ≤ x i := by
                  apply Int.not_lt.1
                  intro hlt
                  obtain ⟨d, hd⟩ := hv
                  exact hu ⟨d + 1, .inr ⟨V i, ⟨i, hi', .inl ⟨rfl, rfl, hlt⟩⟩, hd⟩⟩
                omega
              · simp [hu, hv]) ha (by
              have hu : ∃ d, Rch m U V lo hi x (U a) d (U a) := ⟨0, rfl⟩
              simp only [hu, hr, decide_true, decide_false, Bool.not_true, Bool.not_false, if_true, if_false, Bool.false_eq_true]
              omega)
          rw [sg_neg] at this
          unfold Fl at hz
          rw [hz] at this
          simpa using this
  have hb : sg m (fun i => max 0 (lo i - 0)) ≤ ((sg m (fun i => max 0 (lo i - 0))).toNat : Nat) := by omega
  refine main _ (fun _ => 0) h0 (fun p => ?_) hb
  unfold Fl
  rw [sg_congr (g := fun _ => 0) (fun i _ => by simp), sg_zero]
end flow
section dual
variable (L r : Nat) (s : Int) (f t : Nat → Nat) (v : Nat → Int)
/-- what sums ahead of the stations come to -/
def cost (p : Nat → Int) : Int := s * p r + sg L (fun i => max 0 (v i - p (t i) + p (f i)))
def mv (S : Nat → Bool) (e : Int) (p : Nat → Int) : Nat → Int := fun k => if S k then p k + e else p k
def aU (i : Nat) : Nat := if i < L then f i else if i < L + r then i - L else r
def aV (i : Nat) : Nat := if i < L then t i else if i < L + r then i - L + 1 else 0
def aLo (p : Nat → Int) (i : Nat) : Int := if i < L then (if 0 < v i - p (t i) + p (f i) then 1 else 0) else if i < L + r then 0 else s
def aHi (p : Nat → Int) (i : Nat) : Int := if i < L then (if v i - p (t i) + p (f i) < 0 then 0 else 1) else if i < L + r then (if p (i - L + 1) = p (i - L) then s + L + 1 else 0) else s
theorem a_sum (g : Nat → Nat → Nat → Int) : sg (L + r + 1) (fun i => g i (aU L r f i) (aV L r t i)) = sg L (fun i => g i (f i) (t i)) + sg r (fun k => g (L + k) k (k + 1)) + g (L + r) r 0 := by
  rw [sg, sg_split]
  have e1 : sg L (fun i => g i (aU L r f i) (aV L r t i)) = sg L (fun i => g i (f i) (t i)) := sg_congr (fun i hi => by simp [aU, aV, hi])
  have e2 : sg r (fun k => g (L + k) (aU L r f (L + k)) (aV L r t (L + k))) = sg r (fun k => g (L + k) k (k + 1)) := sg_congr (fun k hk => by
    have h1 : ¬ L + k < L := by omega
    have h2 : L + k - L = k := by omega
    simp [aU, aV, h1, hk, h2])
  have e3 : g (L + r) (aU L r f (L + r)) (aV L r t (L + r)) = g (L + r) r 0 := by
    have h1 : ¬ L + r < L := by omega
    simp [aU, aV, h1]
  rw [e1, e2, e3]
theorem aLo_o (p : Nat → Int) {i : Nat} (h : i < L) : aLo L r s f t v p i = if 0 < v i - p (t i) + p (f i) then 1 else 0 := by simp [aLo, h]
theorem aLo_i (p : Nat → Int) {k : Nat} (h : k < r) : aLo L r s f t v p (L + k) = 0 := by
  have h1 : ¬ L + k < L := by omega
  simp [aLo, h1, h]
theorem aLo_r (p : Nat → Int) : aLo L r s f t v p (L + r) = s := by
  have h1 : ¬ L + r < L := by omega
  simp [aLo, h1]
theorem aHi_o (p : Nat → Int) {i : Nat} (h : i < L) : aHi L r s f t v p i = if v i - p (t i) + p (f i) < 0 then 0 else 1 := by simp [aHi, h]
theorem aHi_i (p : Nat → Int) {k : Nat} (h : k < r) : aHi L r s f t v p (L + k) = if p (k + 1) = p k then s + L + 1 else 0 := by
  have h1 : ¬ L + k < L := by omega
  have h2 : L + k - L = k := by omega
  simp [aHi, h1, h, h2]
theorem aHi_r (p : Nat → Int) : aHi L r s f t v p (L + r) = s := by
  have h1 : ¬ L + r < L := by omega
  simp [aHi, h1]
theorem sg_const (c : Int) : ∀ (m : Nat), sg m (fun _ => c) = m * c
  | 0 => by simp [sg]
  | m + 1 => by
    simp only [sg]
    rw [sg_const c m, Int.natCast_succ, Int.add_mul]; omega
/-- where no set of stations can be moved to better ones, a choice brings as much -/
theorem dual (hr : 1 ≤ r) (hs : 0 ≤ s) (hft : ∀ i, i < L → f i < t i ∧ t i ≤ r) (p : Nat → Int) (p0 : p 0 = 0) (mono : ∀ k, k < r → p k ≤ p (k + 1))
    (loc : ∀ (S : Nat → Bool) (e : Int), S 0 = false → (∃ k, k ≤ r ∧ S k = true) → (e = 1 ∨ e = -1) → (∀ k, k < r → mv S e p k ≤ mv S e p (k + 1)) → cost L r s f t v p ≤ cost L r s f t v (mv S e p)) :
    ∃ C : Nat → Bool, (∀ k, k < r → sg L (fun i => if C i = true ∧ f i ≤ k ∧ k < t i then 1 else 0) ≤ s) ∧ sg L (fun i => if C i = true then v i else 0) = cost L r s f t v p := by
  have cases3 : ∀ i, i < L + r + 1 → i < L ∨ (∃ k, k < r ∧ i = L + k) ∨ i = L + r := by
    intro i hi
    by_cases h1 : i < L
    · exact .inl h1
    · by_cases h2 : i < L + r
      · exact .inr (.inl ⟨i - L, by omega, by omega⟩)
      · exact .inr (.inr (by omega))
  rcases hoffman (L + r + 1) (aU L r f) (aV L r t) (aLo L r s f t v p) (aHi L r s f t v p) (by
      intro i hi
      rcases cases3 i hi with h | ⟨k, hk, rfl⟩ | rfl
      · rw [aLo_o L r s f t v p h, aHi_o L r s f t v p h]; split <;> split <;> omega
      · rw [aLo_i L r s f t v p hk, aHi_i L r s f t v p hk]; split <;> omega
      · rw [aLo_r, aHi_r]; omega) (by
      intro i hi
      rcases cases3 i hi with h | ⟨k, hk, rfl⟩ | rfl
      · rw [aHi_o L r s f t v p h]; split <;> omega
      · rw [aHi_i L r s f t v p hk]; split <;> omega
      · rw [aHi_r]; omega) with ⟨x, hx, hF⟩ | ⟨S, hS⟩
  · have hF' : ∀ q : Nat → Int, sg L (fun i => x i * (q (t i) - q (f i))) + sg r (fun k => x (L + k) * (q (k + 1) - q k)) + x (L + r) * (q 0 - q r) = 0 := by
      intro q
      have := hF q
      unfold Fl at this
      rw [a_sum L r f t (fun i a b => x i * (q b - q a))] at this
      exact this
    have hxr : x (L + r) = s := by
      have := hx (L + r) (by omega)
      rw [aLo_r, aHi_r] at this; omega
    have hxo : ∀ i, i < L → (0 ≤ x i ∧ x i ≤ 1) ∧ (0 < v i - p (t i) + p (f i) → x i = 1) ∧ (v i - p (t i) + p (f i) < 0 → x i = 0) := by
      intro i hi
      have := hx i (by omega)
      rw [aLo_o L r s f t v p hi, aHi_o L r s f t v p hi] at this
      split at this <;> split at this <;> omega
    have hxi : ∀ k, k < r → 0 ≤ x (L + k) ∧ (p (k + 1) ≠ p k → x (L + k) = 0) := by
      intro k hk
      have := hx (L + k) (by omega)
      rw [aLo_i L r s f t v p hk, aHi_i L r s f t v p hk] at this
      split at this <;> omega
    refine ⟨fun i => decide (x i = 1), fun k hk => ?_, ?_⟩
    · have h1 := hF' (fun w => if k < w then 1 else 0)
      rw [hxr] at h1
      have h2 : 0 ≤ sg r (fun j => x (L + j) * ((if k < j + 1 then (1 : Int) else 0) - (if k < j then 1 else 0))) := sg_nonneg (fun j hj => by
        have := (hxi j hj).1
        by_cases a : k < j
        · have b : k < j + 1 := by omega
          simp [a, b]
        · by_cases b : k < j + 1
          · simp [a, b]; exact this
          · simp [a, b])
      have h3 : sg L (fun i => x i * ((if k < t i then (1 : Int) else 0) - (if k < f i then 1 else 0))) = sg L (fun i => if decide (x i = 1) = true ∧ f i ≤ k ∧ k < t i then 1 else 0) := sg_congr (fun i hi => by
        have h4 := (hxo i hi).1
        have h5 := hft i hi
        by_cases a : k < f i
        · have b : k < t i := by omega
          have c : ¬ f i ≤ k := by omega
          simp [a, b, c]
        · have c : f i ≤ k := by omega
          by_cases b : k < t i
          · by_cases d : x i = 1
            · simp [a, b, c, d]
            · have : x i = 0 := by omega
              simp [a, b, c, this]
          · simp [a, b])
      rw [h3] at h1
      have k1 : k < r := hk
      have k2 : ¬ k < 0 := by omega
      simp only [k1, k2, if_true, if_false] at h1
      have h6 : sg L (fun i => if decide (x i = 1) = true ∧ f i ≤ k ∧ k < t i then 1 else 0) ≤ s := by omega
      exact h6
    · have h1 := hF' p
      rw [hxr, p0] at h1
      have h2 : sg r (fun k => x (L + k) * (p (k + 1) - p k)) = 0 := by
        rw [sg_congr (g := fun _ => 0) (fun k hk => by
          obtain ⟨_, h⟩ := hxi k hk
          by_cases e : p (k + 1) = p k
          · simp [e]
          · simp [h e]), sg_zero]
      rw [h2] at h1
      have h3 : sg L (fun i => if decide (x i = 1) = true then v i else 0) = sg L (fun i => x i * (p (t i) - p (f i)) + max 0 (v i - p (t i) + p (f i))) := sg_congr (fun i hi => by
        obtain ⟨h4, h5, h6⟩ := hxo i hi
        by_cases d : x i = 1
        · simp only [d, decide_true, if_true, Int.one_mul]
          have : ¬ v i - p (t i) + p (f i) < 0 := fun h => by have := h6 h; omega
          omega
        · have h7 : x i = 0 := by omega
          simp only [h7, Int.zero_mul]
          have : ¬ 0 < v i - p (t i) + p (f i) := fun h => d (h5 h)
          simp
          omega)
      rw [h3, sg_add]
      unfold cost
      have : s * (0 - p r) = -(s * p r) := by rw [Int.zero_sub, Int.mul_neg]
      omega
  · exfalso
    have hS' := a_sum L r f t (fun i a b => if S a then (if S b then 0 else aHi L r s f t v p i) else (if S b then - aLo L r s f t v p i else 0))
    rw [hS'] at hS
    simp only [aHi_r, aLo_r] at hS
    have ho : sg L (fun i => if S (f i) then (if S (t i) then 0 else aHi L r s f t v p i) else (if S (t i) then - aLo L r s f t v p i else 0)) =
        sg L (fun i => max 0 (v i - (p (t i) + (if S (t i) then 1 else 0)) + (p (f i) + (if S (f i) then 1 else 0))) - max 0 (v i - p (t i) + p (f i))) := sg_congr (fun i hi => by
      rw [aHi_o L r s f t v p hi, aLo_o L r s f t v p hi]
      cases S (f i) <;> cases S (t i) <;> simp only [if_true, if_false, Bool.false_eq_true] <;> (try split) <;> omega)
    have hi0 : ∀ k, k < r → 0 ≤ (if S k then (if S (k + 1) then 0 else aHi L r s f t v p (L + k)) else (if S (k + 1) then - aLo L r s f t v p (L + k) else 0) : Int) := by
      intro k hk
      rw [aHi_i L r s f t v p hk, aLo_i L r s f t v p hk]
      cases S k <;> cases S (k + 1) <;> simp only [if_true, if_false, Bool.false_eq_true] <;> (try split) <;> omega
    have hlow : -(L : Int) ≤ sg L (fun i => if S (f i) then (if S (t i) then 0 else aHi L r s f t v p i) else (if S (t i) then - aLo L r s f t v p i else 0)) := by
      have := sg_le (m := L) (f := fun _ => -1) (g := fun i => if S (f i) then (if S (t i) then 0 else aHi L r s f t v p i) else (if S (t i) then - aLo L r s f t v p i else 0)) (fun i hi => by
        rw [aHi_o L r s f t v p hi, aLo_o L r s f t v p hi]
        cases S (f i) <;> cases S (t i) <;> simp only [if_true, if_false, Bool.false_eq_true] <;> (try split) <;> omega)
      rw [sg_const] at this
      omega
    have hret : -s ≤ (if S r then (if S 0 then 0 else s) else (if S 0 then -s else 0) : Int) := by cases S r <;> cases S 0 <;> simp <;> omega
    have hno : ∀ k, k < r → S k = true → S (k + 1) = false → p (k + 1) ≠ p k := by
      intro k hk h1 h2 h3
      have := sg_ge_one (f := fun k => if S k then (if S (k + 1) then 0 else aHi L r s f t v p (L + k)) else (if S (k + 1) then - aLo L r s f t v p (L + k) else 0)) hi0 hk
      simp only [h1, h2, if_true, if_false, Bool.false_eq_true, aHi_i L r s f t v p hk, h3] at this
      omega
    have hin := sg_nonneg hi0
    -- the moved sums
    let q : Nat → Int := fun w => p w + (if S w then 1 else 0) - (if S 0 then 1 else 0)
    have hq : cost L r s f t v q < cost L r s f t v p := by
      unfold cost
      have e1 : sg L (fun i => max 0 (v i - q (t i) + q (f i))) = sg L (fun i => max 0 (v i - p (t i) + p (f i))) + sg L (fun i => if S (f i) then (if S (t i) then 0 else aHi L r s f t v p i) else (if S (t i) then - aLo L r s f t v p i else 0)) := by
        rw [ho, ← sg_add]
        exact sg_congr (fun i _ => by
          have : v i - q (t i) + q (f i) = v i - (p (t i) + (if S (t i) then 1 else 0)) + (p (f i) + (if S (f i) then 1 else 0)) := by
            show v i - (p (t i) + (if S (t i) then 1 else 0) - (if S 0 then 1 else 0)) + (p (f i) + (if S (f i) then 1 else 0) - (if S 0 then 1 else 0)) = _
            omega
          rw [this]; omega)
      have e2 : s * q r = s * p r + (if S r then (if S 0 then 0 else s) else (if S 0 then -s else 0)) := by
        show s * (p r + (if S r then 1 else 0) - (if S 0 then 1 else 0)) = _
        cases S r <;> cases S 0 <;> simp [Int.mul_add, Int.mul_sub] <;> omega
      rw [e1, e2]
      omega
    have hmono : ∀ k, k < r → q k ≤ q (k + 1) := by
      intro k hk
      have h1 := mono k hk
      have h2 := hno k hk
      show p k + (if S k then 1 else 0) - (if S 0 then 1 else 0) ≤ p (k + 1) + (if S (k + 1) then 1 else 0) - (if S 0 then 1 else 0)
      cases h3 : S k <;> cases h4 : S (k + 1) <;> simp only [if_true, if_false, Bool.false_eq_true] <;> try omega
      have := h2 h3 h4
      omega
    have hany : ∀ S' : Nat → Bool, ∀ e : Int, (e = 1 ∨ e = -1) → S' 0 = false → (∀ w, mv S' e p w = q w) → False := by
      intro S' e he h0 hm
      have hm' : mv S' e p = q := funext hm
      by_cases hk : ∃ k, k ≤ r ∧ S' k = true
      · have := loc S' e h0 hk he (by rw [hm']; exact hmono)
        rw [hm'] at this; omega
      · have hz : ∀ k, k ≤ r → q k = p k := by
          intro k hk'
          rw [← hm k]
          unfold mv
          have : S' k = false := by
            cases h : S' k
            · rfl
            · exact absurd ⟨k, hk', h⟩ hk
          simp [this]
        have : cost L r s f t v q = cost L r s f t v p := by
          unfold cost
          rw [hz r (by omega)]
          congr 1
          exact sg_congr (fun i hi => by
            have := hft i hi
            rw [hz (t i) (by omega), hz (f i) (by omega)])
        omega
    cases h0 : S 0
    · exact hany S 1 (.inl rfl) h0 (fun w => by
        show (if S w then p w + 1 else p w) = p w + (if S w then 1 else 0) - (if S 0 then 1 else 0)
        rw [h0]; cases S w <;> simp)
    · exact hany (fun w => !S w) (-1) (.inr rfl) (by simp [h0]) (fun w => by
        show (if !S w then p w + -1 else p w) = p w + (if S w then 1 else 0) - (if S 0 then 1 else 0)
        rw [h0]; cases S w <;> simp <;> omega)
end dual
/-- bit i of a set -/
def bit (set : Int) (i : Nat) : Bool := set / 2 ^ i % 2 == 1
def oF (l : List FareOffer) (i : Nat) : Nat := (l[i]?.map (fun o => o.From.toNat)).getD 0
def oT (l : List FareOffer) (i : Nat) : Nat := (l[i]?.map (fun o => o.To.toNat)).getD 0
def oV (l : List FareOffer) (i : Nat) : Int := (l[i]?.map (fun o => o.Value)).getD 0
theorem oF_at {l : List FareOffer} {i : Nat} (h : i < l.length) : oF l i = l[i].From.toNat := by simp [oF, h]
theorem oT_at {l : List FareOffer} {i : Nat} (h : i < l.length) : oT l i = l[i].To.toNat := by simp [oT, h]
theorem oV_at {l : List FareOffer} {i : Nat} (h : i < l.length) : oV l i = l[i].Value := by simp [oV, h]
/-- of a choice: who rides segment j, and what it brings -/
def cov (l : List FareOffer) (set : Int) (j i : Nat) : Int := if bit set i = true ∧ oF l i ≤ j ∧ j < oT l i then 1 else 0
def vof (l : List FareOffer) (set : Int) (i : Nat) : Int := if bit set i = true then oV l i else 0
def gd (l : List Int) (j : Nat) : Int := l[j]?.getD 0
theorem gd_at {l : List Int} {j : Nat} (h : j < l.length) : gd l j = l[j] := by simp [gd, h]
theorem gd_set {l : List Int} {k : Nat} (hk : k < l.length) (v : Int) (j : Nat) : gd (l.set k v) j = if j = k then v else gd l j := by
  unfold gd
  rw [List.getElem?_set]
  by_cases e : k = j
  · subst e; simp [hk]
  · simp [e, Ne.symm e]
theorem p4 (o : FareOffer) (n : Nat) (hto : o.To ≤ n) (hn : n ≤ 12) : ∀ (fu : Nat) (q : Int) (load : List Int), 0 ≤ q → q ≤ 12 → (12 - q).toNat < fu → load.length = n → (∀ j : Nat, q ≤ j → 0 ≤ gd load j ∧ gd load j ≤ 1000) →
    ∃ q' load', Fishref2PickOf.loop4 o fu q load = some (q', load') ∧ load'.length = n ∧ ∀ j : Nat, j < n → gd load' j = gd load j + (if q ≤ j ∧ (j : Int) < o.To then 1 else 0)
  | 0, _, _, _, _, h, _, _ => absurd h (by omega)
  | fu + 1, q, load, h0, h1, h2, hlen, hb => by
    rw [Fishref2PickOf.loop4]
    by_cases hq : q < o.To
    · have hk : q.toNat < load.length := by omega
      have hbq := hb q.toNat (by omega)
      have w1 : w64 (load[q.toNat] + 1) = load[q.toNat] + 1 := w64_id (by rw [← gd_at hk]; omega)
      have w2 : w64 (q + 1) = q + 1 := w64_id (by omega)
      simp only [hq, decide_true, if_true, gx_toNat (l := load) h0 hk, ix_in (l := load) h0 (by omega), sx_in (l := load) h0 (by omega), Option.bind_some, w1, w2]
      obtain ⟨q', load', e1, e2, e3⟩ := p4 o n hto hn fu (q + 1) (load.set q.toNat (load[q.toNat] + 1)) (by omega) (by omega) (by omega) (by simpa using hlen) (fun j hj => by
        rw [gd_set hk]
        have : ¬ j = q.toNat := by omega
        simp only [this, if_false]
        exact hb j (by omega))
      refine ⟨q', load', e1, e2, fun j hj => ?_⟩
      rw [e3 j hj, gd_set hk]
      by_cases e : j = q.toNat
      · subst e
        have a1 : ¬ q + 1 ≤ (q.toNat : Int) := by omega
        have a2 : q ≤ (q.toNat : Int) := by omega
        have a3 : (q.toNat : Int) < o.To := by omega
        rw [if_pos rfl, if_neg (fun h => a1 h.1), if_pos ⟨a2, a3⟩, ← gd_at hk]; omega
      · by_cases a1 : q + 1 ≤ (j : Int)
        · have a2 : q ≤ (j : Int) := by omega
          simp [e, a1, a2]
        · have a2 : ¬ q ≤ (j : Int) := by omega
          simp [e, a1, a2]
    · simp only [hq, decide_false, Bool.false_eq_true, if_false]
      refine ⟨q, load, rfl, hlen, fun j hj => ?_⟩
      have : ¬ (q ≤ (j : Int) ∧ (j : Int) < o.To) := by omega
      simp [this]
theorem cov01 (l : List FareOffer) (set : Int) (j i : Nat) : 0 ≤ cov l set j i ∧ cov l set j i ≤ 1 := by unfold cov; split <;> omega
theorem sg_cov (l : List FareOffer) (set : Int) (j k : Nat) : 0 ≤ sg k (cov l set j) ∧ sg k (cov l set j) ≤ k := by
  refine ⟨sg_nonneg (fun i _ => (cov01 l set j i).1), ?_⟩
  have := sg_le (m := k) (f := cov l set j) (g := fun _ => 1) (fun i _ => (cov01 l set j i).2)
  rw [sg_const] at this; omega
theorem sg_vof {l : List FareOffer} (hall : ∀ o ∈ l, 1 ≤ o.Value ∧ o.Value ≤ 200) (set : Int) (k : Nat) : 0 ≤ sg k (vof l set) ∧ sg k (vof l set) ≤ 200 * k := by
  have h1 : ∀ i, 0 ≤ vof l set i ∧ vof l set i ≤ 200 := by
    intro i
    unfold vof oV
    cases h : l[i]? with
    | none => simp
    | some o =>
      have := hall o (List.mem_of_getElem? h)
      split <;> simp <;> omega
  refine ⟨sg_nonneg (fun i _ => (h1 i).1), ?_⟩
  have := sg_le (m := k) (f := vof l set) (g := fun _ => 200) (fun i _ => (h1 i).2)
  rw [sg_const] at this; omega
theorem p3 (l : List FareOffer) (n fu : Nat) (hn : n ≤ 12) (hl : l.length ≤ 12) (hf : 100 ≤ fu) (set : Int) (hs0 : 0 ≤ set) (hs1 : set < 9223372036854775808) (hall : ∀ o ∈ l, 0 ≤ o.From ∧ o.From < o.To ∧ o.To < (n : Int) ∧ 1 ≤ o.Value ∧ o.Value ≤ 200) :
    ∀ (d k : Nat), k + d = l.length → ∀ (c load : List Int), c.length ≤ k → load.length = n → (∀ j, j < n → gd load j = sg k (cov l set j)) →
    ∃ c' load', Fishref2PickOf.loop3 fu set (l.drop k) k c (sg k (vof l set)) load = some (c', sg l.length (vof l set), load') ∧ load'.length = n ∧ c'.length ≤ 12 ∧ ∀ j, j < n → gd load' j = sg l.length (cov l set j)
  | 0, k, hk, c, load, hc, hlen, hg => by
    obtain rfl : k = l.length := by omega
    rw [List.drop_length, Fishref2PickOf.loop3]
    exact ⟨c, load, rfl, hlen, by omega, hg⟩
  | d + 1, k, hk, c, load, hc, hlen, hg => by
    have hkl : k < l.length := by omega
    rw [List.drop_eq_getElem_cons hkl]
    have hsh := shr_lt hs0 hs1 k
    rw [Fishref2PickOf.loop3, shr_nat hs0 (by omega), bit_and1 hsh.1 hsh.2]
    obtain ⟨o1, o2, o3, o4, o5⟩ := hall l[k] (List.getElem_mem hkl)
    have hv := sg_vof (fun o ho => (hall o ho).2.2.2) set k
    have e4 : ∀ x : Int, (x % 2 == 1) = decide (x % 2 = 1) := fun x => by by_cases h : x % 2 = 1 <;> simp [h]
    cases hb : bit set k
    · have hb' : (set / 2 ^ k % 2 == 1) = false := hb
      simp only [hb', Bool.false_eq_true, if_false, Option.bind_some]
      have ev : sg (k + 1) (vof l set) = sg k (vof l set) := by simp [sg, vof, hb]
      have := p3 l n fu hn hl hf set hs0 hs1 hall d (k + 1) (by omega) c load (by omega) hlen (fun j hj => by rw [hg j hj]; simp [sg, cov, hb])
      rw [ev] at this
      exact this
    · have hb' : (set / 2 ^ k % 2 == 1) = true := hb
      have ha : apd c [((k : Nat) : Int)] = some (c ++ [((k : Nat) : Int)]) := apd_lt (by simp; omega)
      obtain ⟨q', load', e1, e2, e3⟩ := p4 l[k] n (by omega) hn fu l[k].From load o1 (by omega) (by omega) hlen (fun j hj => by
        by_cases hjn : j < n
        · rw [hg j hjn]
          have := sg_cov l set j k
          omega
        · have : gd load j = 0 := by unfold gd; rw [List.getElem?_eq_none (by omega)]; rfl
          omega)
      have w : w64 (sg k (vof l set) + l[k].Value) = sg (k + 1) (vof l set) := by
        rw [w64_id (by omega)]
        simp [sg, vof, hb, oV_at hkl]
      simp only [hb', if_true, ha, e1, Option.bind_some, w]
      exact p3 l n fu hn hl hf set hs0 hs1 hall d (k + 1) (by omega) _ load' (by simp; omega) e2 (fun j hj => by
        rw [e3 j hj, hg j hj]
        simp only [sg, cov, hb, oF_at hkl, oT_at hkl, true_and]
        by_cases a : l[k].From ≤ (j : Int) ∧ (j : Int) < l[k].To
        · have a' : l[k].From.toNat ≤ j ∧ j < l[k].To.toNat := by omega
          simp [a, a']
        · have a' : ¬ (l[k].From.toNat ≤ j ∧ j < l[k].To.toNat) := by omega
          rw [if_neg a, if_neg a'])
def feas (l : List FareOffer) (s : Int) (n : Nat) (set : Int) : Prop := ∀ j, j < n → sg l.length (cov l set j) ≤ s
/-- what a best sum says, of the choices below set -/
structure Most (l : List FareOffer) (s : Int) (n : Nat) (mo set : Int) : Prop where
  pos : 0 ≤ mo
  one : mo = 0 ∨ ∃ x, 0 ≤ x ∧ x < 2 ^ l.length ∧ feas l s n x ∧ sg l.length (vof l x) = mo
  all : ∀ x, 0 ≤ x → x < set → feas l s n x → sg l.length (vof l x) ≤ mo
theorem p2 (l : List FareOffer) (s : Int) (n : Nat) (hn0 : 0 < n) (hn : n ≤ 12) (hl : l.length ≤ 12) (fu : Nat) (hf : 100 ≤ fu) (hall : ∀ o ∈ l, 0 ≤ o.From ∧ o.From < o.To ∧ o.To < (n : Int) ∧ 1 ≤ o.Value ∧ o.Value ≤ 200) :
    ∀ (m : Nat) (set mo : Int) (best : List Int), 0 ≤ set → set ≤ 2 ^ l.length → (4096 - set).toNat < m → best.length ≤ 12 → Most l s n mo set →
    ∃ mo' be b, Fishref2PickOf.loop2 l s (n : Int) fu m best mo set = some (be, mo', b) ∧ Most l s n mo' (2 ^ l.length)
  | 0, _, _, _, _, _, h, _, _ => absurd h (by omega)
  | m + 1, set, mo, best, h0, h1, h2, hbl, hM => by
    obtain ⟨q1, q2⟩ := pow_n l.length hl
    rw [Fishref2PickOf.loop2, q1]
    by_cases hq : set < 2 ^ l.length
    · have hmk : mks ((n : Nat) : Int) (0 : Int) = some (List.replicate n 0) := mks_in (by omega) 0
      obtain ⟨c, ld, e1, e2, e3, e4⟩ := p3 l n fu hn hl hf set h0 (by omega) hall l.length 0 (by omega) [] (List.replicate n 0) (by simp) (by simp) (fun j hj => by simp [gd, sg, hj])
      have e1' : Fishref2PickOf.loop3 fu set l 0 [] 0 (List.replicate n 0) = some (c, sg l.length (vof l set), ld) := e1
      obtain ⟨z, z1, z2⟩ := max_ok (fu := fu) ld (by omega) (by omega) (by omega) s
      obtain ⟨cc, hcc⟩ := compare_ok c best (by omega)
      have hzf : decide (z ≤ s) = true ↔ feas l s n set := by
        rw [decide_eq_true_eq, z2]
        unfold feas
        constructor
        · intro h j hj
          rw [← e4 j hj, gd_at (by omega)]
          exact h _ (List.getElem_mem _)
        · intro h v hv
          obtain ⟨i, hi, rfl⟩ := List.mem_iff_getElem.1 hv
          rw [← gd_at hi, e4 i (by omega)]
          exact h i (by omega)
      have w : w64 (set + 1) = set + 1 := w64_id (by omega)
      have hvp := sg_vof (fun o ho => (hall o ho).2.2.2) set l.length
      simp only [hq, decide_true, if_true]
      rw [hmk]
      simp only [Option.bind_some]
      rw [e1']
      simp only [Option.bind_some, z1, hcc, bnd_eq, w]
      have keep : ¬ (feas l s n set ∧ sg l.length (vof l set) > mo) → Most l s n mo (set + 1) := fun hno => ⟨hM.pos, hM.one, fun x hx hxs hfx => by
        by_cases e : x = set
        · subst e
          exact Int.not_lt.1 (fun h => hno ⟨hfx, h⟩)
        · exact hM.all x hx (by omega) hfx⟩
      have take : feas l s n set → sg l.length (vof l set) ≥ mo → Most l s n (sg l.length (vof l set)) (set + 1) := fun hfe hge => ⟨hvp.1, .inr ⟨set, h0, hq, hfe, rfl⟩, fun x hx hxs hfx => by
        by_cases e : x = set
        · subst e; omega
        · have := hM.all x hx (by omega) hfx
          omega⟩
      have go := fun (mo : Int) (be : List Int) (g1 : be.length ≤ 12) (g2 : Most l s n mo (set + 1)) => p2 l s n hn0 hn hl fu hf hall m (set + 1) mo be (by omega) (by omega) (by omega) g1 g2
      cases hz : decide (z ≤ s)
      · have hnf : ¬ feas l s n set := fun h => by rw [hzf.2 h] at hz; cases hz
        simp only [Bool.false_eq_true, if_false, Option.bind_some]
        exact go mo best hbl (keep (fun h => hnf h.1))
      · have hfe := hzf.1 hz
        simp only [if_true]
        by_cases c1 : sg l.length (vof l set) > mo
        · simp only [c1, decide_true, if_true, Option.bind_some]
          exact go _ c e3 (take hfe (by omega))
        · simp only [c1, decide_false, Bool.false_eq_true, if_false]
          have hk := keep (fun h => c1 h.2)
          by_cases c2 : sg l.length (vof l set) = mo
          · have c2' : (sg l.length (vof l set) == mo) = true := by simpa using c2
            simp only [c2', if_true]
            by_cases c3 : sg l.length (vof l set) > 0
            · simp only [c3, decide_true, if_true, Option.bind_some]
              cases hd : decide (cc < 0)
              · simp only [Bool.false_eq_true, if_false]
                exact go mo best hbl hk
              · simp only [if_true]
                exact go _ c e3 (take hfe (by omega))
            · simp only [c3, decide_false, Bool.false_eq_true, if_false, Option.bind_some]
              exact go mo best hbl hk
          · have c2' : (sg l.length (vof l set) == mo) = false := by simpa using c2
            simp only [c2', Bool.false_eq_true, if_false, Option.bind_some]
            exact go mo best hbl hk
    · obtain rfl : set = 2 ^ l.length := by omega
      simp only [hq, decide_false, Bool.false_eq_true, if_false]
      exact ⟨mo, best, _, rfl, hM⟩
theorem pick_most (l : List FareOffer) (s t : Int) (fu : Nat) (hf : 5000 ≤ fu) (h : FarecheckOffers l s t = 0) : ∃ m c, Fishref2PickOf fu l s t = some (m, c) ∧ Most l s t.toNat m (2 ^ l.length) := by
  obtain ⟨a1, a2, a3, a4, a5, a6⟩ := offers_in h
  obtain ⟨n, rfl⟩ : ∃ n : Nat, t = (n : Int) := ⟨t.toNat, by omega⟩
  unfold Fishref2PickOf
  have hpos : (0 : Int) < 2 ^ l.length := Int.pow_pos (by omega)
  obtain ⟨mo, be, b, e1, e2⟩ := p2 l s n (by omega) (by omega) a1 fu (by omega) a6 fu 0 0 [] (by omega) (by omega) (by omega) (by simp) ⟨by omega, .inl rfl, fun x h1 h2 => absurd h2 (by omega)⟩
  rw [e1]
  exact ⟨mo, be, rfl, e2⟩
theorem sg_comm (g : Nat → Nat → Int) (r : Nat) : ∀ (m : Nat), sg m (fun i => sg r (fun k => g i k)) = sg r (fun k => sg m (fun i => g i k))
  | 0 => by simp only [sg]; rw [sg_zero]
  | m + 1 => by
    simp only [sg]
    rw [sg_comm g r m, ← sg_add]
theorem sg_mul (c : Int) (f : Nat → Int) : ∀ (m : Nat), sg m (fun i => c * f i) = c * sg m f
  | 0 => by simp [sg]
  | m + 1 => by
    simp only [sg]
    rw [sg_mul c f m, Int.mul_add]
theorem sg_tel (p : Nat → Int) (f t : Nat) (h : f ≤ t) : ∀ (r : Nat), t ≤ r → sg r (fun k => if f ≤ k ∧ k < t then p (k + 1) - p k else 0) = p t - p f := by
  have h0 : ∀ r, r ≤ f → sg r (fun k => if f ≤ k ∧ k < t then p (k + 1) - p k else 0) = 0 := by
    intro r hr
    rw [sg_congr (g := fun _ => 0) (fun k hk => by
      have : ¬ (f ≤ k ∧ k < t) := by omega
      rw [if_neg this]), sg_zero]
  have h1 : ∀ r, f ≤ r → r ≤ t → sg r (fun k => if f ≤ k ∧ k < t then p (k + 1) - p k else 0) = p r - p f := by
    intro r
    induction r with
    | zero =>
      intro a _
      obtain rfl : f = 0 := by omega
      simp [sg]
    | succ r ih =>
      intro a b
      simp only [sg]
      by_cases e : f = r + 1
      · have e1 := h0 r (by omega)
        rw [e1, if_neg (by omega), e]; omega
      · rw [ih (by omega) (by omega), if_pos (by omega)]; omega
  intro r
  induction r with
  | zero =>
    intro a
    obtain rfl : t = 0 := by omega
    exact h1 0 h (by omega)
  | succ r ih =>
    intro a
    by_cases e : t = r + 1
    · subst e; exact h1 _ h (by omega)
    · simp only [sg]
      rw [ih (by omega), if_neg (by omega)]; omega
theorem sg_last (p : Nat → Int) : ∀ (r : Nat), sg r (fun k => p (k + 1) - p k) = p r - p 0
  | 0 => by simp [sg]
  | r + 1 => by simp only [sg]; rw [sg_last p r]; omega
/-- no choice brings more than sums come to -/
theorem weak (L r : Nat) (s : Int) (f t : Nat → Nat) (v : Nat → Int) (hft : ∀ i, i < L → f i < t i ∧ t i ≤ r) (p : Nat → Int) (p0 : p 0 = 0) (mono : ∀ k, k < r → p k ≤ p (k + 1)) (C : Nat → Bool)
    (hC : ∀ k, k < r → sg L (fun i => if C i = true ∧ f i ≤ k ∧ k < t i then 1 else 0) ≤ s) : sg L (fun i => if C i = true then v i else 0) ≤ cost L r s f t v p := by
  have h1 : sg L (fun i => if C i = true then v i else 0) ≤ sg L (fun i => (if C i = true then p (t i) - p (f i) else 0) + max 0 (v i - p (t i) + p (f i))) := sg_le (fun i _ => by
    cases C i
    · simp only [Bool.false_eq_true, if_false]; omega
    · simp only [if_true]; omega)
  rw [sg_add] at h1
  have h2 : sg L (fun i => if C i = true then p (t i) - p (f i) else 0) = sg L (fun i => sg r (fun k => (p (k + 1) - p k) * (if C i = true ∧ f i ≤ k ∧ k < t i then 1 else 0))) := sg_congr (fun i hi => by
    have := hft i hi
    cases hc : C i
    · simp only [Bool.false_eq_true, if_false, false_and, Int.mul_zero]; rw [sg_zero]
    · simp only [if_true, true_and]
      rw [← sg_tel p (f i) (t i) (by omega) r (by omega)]
      exact sg_congr (fun k _ => by split <;> simp))
  rw [h2, sg_comm] at h1
  have h3 : sg r (fun k => sg L (fun i => (p (k + 1) - p k) * (if C i = true ∧ f i ≤ k ∧ k < t i then 1 else 0))) ≤ sg r (fun k => s * (p (k + 1) - p k)) := sg_le (fun k hk => by
    rw [sg_mul, Int.mul_comm s]
    have := mono k hk
    exact Int.mul_le_mul_of_nonneg_left (hC k hk) (by omega))
  rw [sg_mul, sg_last, p0, Int.sub_zero] at h3
  unfold cost
  omega
/-- a set of given bits -/
theorem ofset (S : Nat → Bool) : ∀ (n : Nat), ∃ x : Int, 0 ≤ x ∧ x < 2 ^ n ∧ (∀ k, k < n → bit x k = S k) ∧ (0 < n → (x % 2 = 1 ↔ S 0 = true)) := by
  intro n
  induction n generalizing S with
  | zero => exact ⟨0, by omega, by decide, fun k h => absurd h (by omega), fun h => absurd h (by omega)⟩
  | succ n ih =>
    obtain ⟨y, h1, h2, h3, _⟩ := ih (fun k => S (k + 1))
    have hp : (2 : Int) ^ (n + 1) = 2 ^ n * 2 := Int.pow_succ 2 n
    have hb : ∀ b : Int, 0 ≤ b → b ≤ 1 → (∀ k, bit (2 * y + b) (k + 1) = bit y k) ∧ bit (2 * y + b) 0 = (b == 1) ∧ (2 * y + b) % 2 = b := by
      intro b b0 b1
      refine ⟨fun k => ?_, ?_, by omega⟩
      · unfold bit
        have e : (2 * y + b) / 2 ^ (k + 1) = y / 2 ^ k := by
          rw [Int.pow_succ, Int.mul_comm (2 ^ k) 2, ← Int.ediv_ediv_of_nonneg (by omega)]
          have : (2 * y + b) / 2 = y := by omega
          rw [this]
        rw [e]
      · unfold bit
        rw [Int.pow_zero, Int.ediv_one]
        have : (2 * y + b) % 2 = b := by omega
        rw [this]
    cases h0 : S 0
    · obtain ⟨b1, b2, b3⟩ := hb 0 (by omega) (by omega)
      refine ⟨2 * y + 0, by omega, by omega, fun k hk => ?_, fun _ => by rw [b3]; simp⟩
      cases k with
      | zero => rw [b2, h0]; rfl
      | succ k => rw [b1]; exact h3 k (by omega)
    · obtain ⟨b1, b2, b3⟩ := hb 1 (by omega) (by omega)
      refine ⟨2 * y + 1, by omega, by omega, fun k hk => ?_, fun _ => by rw [b3]; simp⟩
      cases k with
      | zero => rw [b2, h0]; rfl
      | succ k => rw [b1]; exact h3 k (by omega)

theorem gx_gd {l : List Int} {k : Nat} (h : k < l.length) : gx l ((k : Nat) : Int) = some (gd l k) := by rw [gx_at h, gd_at h]
theorem gx_gd' {l : List Int} {i : Int} (h0 : 0 ≤ i) (h : i.toNat < l.length) : gx l i = some (gd l i.toNat) := by rw [gx_toNat h0 h, gd_at h]
theorem mx_max (a b : Int) : mx a b = max a b := by unfold mx; split <;> omega

section
variable (l : List FareOffer) (s : Int) (n : Nat)
/-- what holds of the offers -/
structure Okay : Prop where
  few : l.length ≤ 12
  s1 : 1 ≤ s
  s2 : s ≤ 12
  n1 : 2 ≤ n
  n2 : n ≤ 12
  all : ∀ o ∈ l, 0 ≤ o.From ∧ o.From < o.To ∧ o.To < (n : Int) ∧ 1 ≤ o.Value ∧ o.Value ≤ 200
abbrev C (p : Nat → Int) : Int := cost l.length (n - 1) s (oF l) (oT l) (oV l) p
def Mono (p : Nat → Int) : Prop := ∀ k, k < n - 1 → p k ≤ p (k + 1)
variable {l s n}
theorem Okay.ft (h : Okay l s n) {i : Nat} (hi : i < l.length) : oF l i < oT l i ∧ oT l i ≤ n - 1 := by
  obtain ⟨a1, a2, a3, _⟩ := h.all l[i] (List.getElem_mem hi)
  rw [oF_at hi, oT_at hi]; omega
theorem Okay.v (h : Okay l s n) {i : Nat} (hi : i < l.length) : 1 ≤ oV l i ∧ oV l i ≤ 200 := by
  obtain ⟨_, _, _, a4, a5⟩ := h.all l[i] (List.getElem_mem hi)
  rw [oV_at hi]; omega
theorem C_congr (h : Okay l s n) {p q : Nat → Int} (hpq : ∀ k, k < n → p k = q k) : C l s n p = C l s n q := by
  unfold C cost
  have h1 := h.n1
  rw [hpq (n - 1) (by omega)]
  congr 1
  exact sg_congr (fun i hi => by
    have := h.ft hi
    rw [hpq (oT l i) (by omega), hpq (oF l i) (by omega)])
theorem mono_le {p : Nat → Int} (hm : Mono n p) : ∀ (d k : Nat), k + d ≤ n - 1 → p k ≤ p (k + d)
  | 0, k, _ => Int.le_refl _
  | d + 1, k, h => by
    have h1 := mono_le hm d k (by omega)
    have h2 := hm (k + d) (by omega)
    have : k + (d + 1) = k + d + 1 := by omega
    rw [this]; omega
theorem mono_le' {p : Nat → Int} (hm : Mono n p) {j k : Nat} (h : j ≤ k) (hk : k ≤ n - 1) : p j ≤ p k := by
  have := mono_le hm (k - j) j (by omega)
  rw [show j + (k - j) = k by omega] at this; exact this
theorem C_bound (h : Okay l s n) {p : Nat → Int} (p0 : p 0 = 0) (hm : Mono n p) : 0 ≤ C l s n p ∧ ∀ k, k < n → 0 ≤ p k ∧ p k ≤ C l s n p := by
  have h1 := h.n1
  have h3 := mono_le' hm (j := 0) (k := n - 1) (by omega) (by omega)
  have h2 : p (n - 1) ≤ s * p (n - 1) := by
    have := Int.mul_le_mul_of_nonneg_right h.s1 (show 0 ≤ p (n - 1) by omega)
    omega
  have h4 : 0 ≤ sg l.length (fun i => max 0 (oV l i - p (oT l i) + p (oF l i))) := sg_nonneg (fun i _ => by omega)
  have h5 : p (n - 1) ≤ C l s n p := by unfold C cost; omega
  refine ⟨by omega, fun k hk => ?_⟩
  have h6 := mono_le' hm (j := 0) (k := k) (by omega) (by omega)
  have h7 := mono_le' hm (j := k) (k := n - 1) (by omega) (by omega)
  omega

theorem price_l1 (q : List Int) (hq : q.length = n) (hn : n ≤ 12) : ∀ (d k : Nat), 1 ≤ k → k + d = n → ∀ (m : Nat), d < m →
    ((∀ j, k ≤ j → j < n → gd q (j - 1) ≤ gd q j) ∧ ∃ a, FareBids_1_v1.loop1 q (n : Int) m ((k : Nat) : Int) = some (.next a)) ∨ ((∃ j, k ≤ j ∧ j < n ∧ gd q j < gd q (j - 1)) ∧ FareBids_1_v1.loop1 q (n : Int) m ((k : Nat) : Int) = some (.ret (-1)))
  | 0, k, h1, h2, m, hm => by
    obtain ⟨m, rfl⟩ : ∃ z, m = z + 1 := ⟨m - 1, by omega⟩
    left
    refine ⟨fun j a b => absurd b (by omega), (k : Int), ?_⟩
    rw [FareBids_1_v1.loop1]
    have : ¬ ((k : Int) < (n : Int)) := by omega
    simp [this]
  | d + 1, k, h1, h2, m, hm => by
    obtain ⟨m, rfl⟩ : ∃ z, m = z + 1 := ⟨m - 1, by omega⟩
    rw [FareBids_1_v1.loop1]
    have hk : (k : Int) < (n : Int) := by omega
    have w1 : w64 ((k : Int) - 1) = ((k - 1 : Nat) : Int) := by rw [w64_id (by omega)]; omega
    have w2 : w64 ((k : Int) + 1) = ((k + 1 : Nat) : Int) := by rw [w64_id (by omega)]; omega
    rw [w1, w2]
    simp only [hk, decide_true, if_true, gx_gd (l := q) (k := k) (by omega), gx_gd (l := q) (k := k - 1) (by omega), Option.bind_some]
    by_cases hb : gd q k < gd q (k - 1)
    · right
      refine ⟨⟨k, by omega, by omega, hb⟩, ?_⟩
      simp [hb]
    · simp only [hb, decide_false, Bool.false_eq_true, if_false]
      rcases price_l1 q hq hn d (k + 1) (by omega) (by omega) m (by omega) with ⟨h3, h4⟩ | ⟨⟨j, h3, h4, h5⟩, h6⟩
      · left
        refine ⟨fun j a b => ?_, h4⟩
        by_cases e : j = k
        · subst e; omega
        · exact h3 j (by omega) b
      · right
        exact ⟨⟨j, by omega, h4, h5⟩, h6⟩
def gain (q : List Int) (i : Nat) : Int := max 0 (oV l i - gd q (oT l i) + gd q (oF l i))
theorem price_l2 (h : Okay l s n) (q : List Int) (hq : q.length = n) (hb : ∀ k, k < n → -5000 ≤ gd q k ∧ gd q k ≤ 5000) (a : Int) (ha : -100000 ≤ a ∧ a ≤ 100000) : ∀ (d k : Nat), k + d = l.length →
    FareBids_1_v1.loop2 q (l.drop k) (a + sg k (gain (l := l) q)) = some (a + sg l.length (gain (l := l) q))
  | 0, k, hk => by
    obtain rfl : k = l.length := by omega
    rw [List.drop_length, FareBids_1_v1.loop2]
  | d + 1, k, hk => by
    have hkl : k < l.length := by omega
    have hft := h.ft hkl
    obtain ⟨a1, a2, a3, a4, a5⟩ := h.all l[k] (List.getElem_mem hkl)
    have hn := h.n1
    have hfew := h.few
    rw [List.drop_eq_getElem_cons hkl, FareBids_1_v1.loop2]
    have b1 := hb (oT l k) (by omega)
    have b2 := hb (oF l k) (by omega)
    rw [gx_gd' (l := q) (i := l[k].To) (by omega) (by omega), gx_gd' (l := q) (i := l[k].From) (by omega) (by omega)]
    rw [oT_at hkl] at b1
    rw [oF_at hkl] at b2
    simp only [Option.bind_some]
    have hs0 : ∀ k, 0 ≤ sg k (gain (l := l) q) := fun k => sg_nonneg (fun i _ => by unfold gain; omega)
    have hs1 : sg k (gain (l := l) q) ≤ k * 10200 := by
      rw [← sg_const]
      exact sg_le (fun i hi => by
        have c1 := h.ft (i := i) (by omega)
        have c2 := h.v (i := i) (by omega)
        have c3 := hb (oT l i) (by omega)
        have c4 := hb (oF l i) (by omega)
        unfold gain; omega)
    have := hs0 k
    rw [w64_id (x := l[k].Value - gd q l[k].To.toNat) (by omega), w64_id (x := l[k].Value - gd q l[k].To.toNat + gd q l[k].From.toNat) (by omega), mx_max, w64_id (by omega)]
    have e : a + sg k (gain (l := l) q) + max 0 (l[k].Value - gd q l[k].To.toNat + gd q l[k].From.toNat) = a + sg (k + 1) (gain (l := l) q) := by
      simp only [sg]
      unfold gain
      rw [oT_at hkl, oF_at hkl, oV_at hkl]; omega
    rw [e]
    exact price_l2 h q hq hb a ha d (k + 1) (by omega)
theorem price_ok (h : Okay l s n) (q : List Int) (hq : q.length = n) (hb : ∀ k, k < n → -5000 ≤ gd q k ∧ gd q k ≤ 5000) (fu : Nat) (hf : 100 ≤ fu) :
    (Mono n (gd q) ∧ FareBids_1_v1 fu q s (n : Int) l = some (C l s n (gd q))) ∨ (¬ Mono n (gd q) ∧ FareBids_1_v1 fu q s (n : Int) l = some (-1)) := by
  have hn := h.n1
  have hn2 := h.n2
  have hs1 := h.s1
  have hs2 := h.s2
  unfold FareBids_1_v1
  have w1 : w64 ((n : Int) - 1) = ((n - 1 : Nat) : Int) := by rw [w64_id (by omega)]; omega
  rw [w1, gx_gd (l := q) (k := n - 1) (by omega)]
  simp only [Option.bind_some]
  rcases price_l1 q hq h.n2 (n - 1) 1 (by omega) (by omega) fu (by omega) with ⟨h1, a, h2⟩ | ⟨⟨j, h1, h2, h3⟩, h4⟩
  · left
    refine ⟨fun k hk => by have := h1 (k + 1) (by omega) (by omega); simpa using this, ?_⟩
    have h2' : FareBids_1_v1.loop1 q (n : Int) fu 1 = some (.next a) := h2
    rw [h2']
    simp only [Option.bind_some]
    have hbb := hb (n - 1) (by omega)
    have hm : -100000 ≤ s * gd q (n - 1) ∧ s * gd q (n - 1) ≤ 100000 := by
      have c1 : s * gd q (n - 1) ≤ s * 5000 := Int.mul_le_mul_of_nonneg_left hbb.2 (by omega)
      have c2 : s * (-5000) ≤ s * gd q (n - 1) := Int.mul_le_mul_of_nonneg_left hbb.1 (by omega)
      omega
    rw [w64_id (by omega)]
    have := price_l2 h q hq hb (s * gd q (n - 1)) hm l.length 0 (by omega)
    simp only [List.drop_zero, sg, Int.add_zero] at this
    rw [this]
    rfl
  · right
    refine ⟨fun hm => by have := hm (j - 1) (by omega); rw [show j - 1 + 1 = j by omega] at this; omega, ?_⟩
    have h4' : FareBids_1_v1.loop1 q (n : Int) fu 1 = some (.ret (-1)) := h4
    rw [h4']
    rfl
theorem move_ok (set : Int) (hs0 : 0 ≤ set) (hs1 : set < 9223372036854775808) (by_ : Int) (hby : -64 ≤ by_ ∧ by_ ≤ 64) : ∀ (d k : Nat) (p : List Int), k + d = p.length → p.length ≤ 12 → (∀ j, k ≤ j → j < p.length → -5000 ≤ gd p j ∧ gd p j ≤ 5000) →
    ∃ q', FareBids.loop5 set by_ d k p = some q' ∧ q'.length = p.length ∧ ∀ j, j < p.length → gd q' j = if k ≤ j ∧ bit set j = true then gd p j + by_ else gd p j
  | 0, k, p, _, _, _ => by
    rw [FareBids.loop5]
    refine ⟨p, rfl, rfl, fun j hj => ?_⟩
    rw [if_neg (by omega)]
  | d + 1, k, p, hk, hp, hb => by
    rw [FareBids.loop5]
    have hsh := shr_lt hs0 hs1 k
    rw [shr_nat hs0 (by omega), bit_and1 hsh.1 hsh.2]
    have hkl : k < p.length := by omega
    cases hbt : bit set k
    · have hb' : (set / 2 ^ k % 2 == 1) = false := hbt
      simp only [hb', Bool.false_eq_true, if_false, Option.bind_some]
      obtain ⟨q', e1, e2, e3⟩ := move_ok set hs0 hs1 by_ hby d (k + 1) p (by omega) hp (fun j a b => hb j (by omega) b)
      refine ⟨q', e1, e2, fun j hj => ?_⟩
      rw [e3 j hj]
      by_cases e : j = k
      · subst e
        rw [if_neg (by omega), if_neg (by rw [hbt]; simp)]
      · by_cases a : k + 1 ≤ j ∧ bit set j = true
        · rw [if_pos a, if_pos ⟨by omega, a.2⟩]
        · rw [if_neg a, if_neg (fun c => a ⟨by omega, c.2⟩)]
    · have hb' : (set / 2 ^ k % 2 == 1) = true := hbt
      have hbk := hb k (by omega) hkl
      have w : w64 (gd p k + by_) = gd p k + by_ := w64_id (by omega)
      simp only [hb', if_true, gx_gd hkl, ix_in (l := p) (i := (k : Int)) (by omega) (by omega), sx_in (l := p) (i := (k : Int)) (by omega) (by omega), Option.bind_some, w, Int.toNat_natCast]
      obtain ⟨q', e1, e2, e3⟩ := move_ok set hs0 hs1 by_ hby d (k + 1) (p.set k (gd p k + by_)) (by simp; omega) (by simpa using hp) (fun j a b => by
        rw [gd_set hkl, if_neg (by omega)]
        exact hb j (by omega) (by simpa using b))
      refine ⟨q', e1, by simpa using e2, fun j hj => ?_⟩
      rw [e3 j (by simpa using hj), gd_set hkl]
      by_cases e : j = k
      · subst e
        rw [if_neg (by omega), if_pos rfl, if_pos ⟨by omega, hbt⟩]
      · rw [if_neg e]
        by_cases a : k + 1 ≤ j ∧ bit set j = true
        · rw [if_pos a, if_pos ⟨by omega, a.2⟩]
        · rw [if_neg a, if_neg (fun c => a ⟨by omega, c.2⟩)]

/-- sums that the search holds, and what they come to -/
structure Inv (l : List FareOffer) (s : Int) (n : Nat) (q : List Int) (now : Int) : Prop where
  len : q.length = n
  zero : gd q 0 = 0
  mono : Mono n (gd q)
  val : now = C l s n (gd q)
  top : now ≤ 2400
/-- to move a set by so much is no better -/
def NB (l : List FareOffer) (s : Int) (n : Nat) (q : List Int) (x e : Int) : Prop := Mono n (mv (bit x) e (gd q)) → C l s n (gd q) ≤ C l s n (mv (bit x) e (gd q))
theorem Inv.bound (h : Okay l s n) {q : List Int} {now : Int} (hI : Inv l s n q now) : 0 ≤ now ∧ ∀ k, k < n → 0 ≤ gd q k ∧ gd q k ≤ 2400 := by
  obtain ⟨a, b⟩ := C_bound h hI.zero hI.mono
  have h1 := hI.val
  have h2 := hI.top
  refine ⟨by omega, fun k hk => ?_⟩
  have := b k hk
  omega
theorem step_ok (h : Okay l s n) (fu : Nat) (hf : 100 ≤ fu) (set : Int) (hs0 : 0 ≤ set) (hs1 : set < 4096) (hev : bit set 0 = false) : ∀ (es : List Int) (q : List Int) (now : Int) (ag : Bool), (∀ e ∈ es, -64 ≤ e ∧ e ≤ 64) → Inv l s n q now →
    ∃ q' now' ag', FareBids.loop4 l s (n : Int) fu set es q now ag = some (q', now', ag') ∧ Inv l s n q' now' ∧ now' ≤ now ∧ (ag' = true → ag = true ∨ now' < now) ∧ (ag' = false → ag = false ∧ q' = q ∧ now' = now ∧ ∀ e ∈ es, NB l s n q set e)
  | [], q, now, ag, _, hI => ⟨q, now, ag, rfl, hI, Int.le_refl _, fun h => .inl h, fun h => ⟨h, rfl, rfl, by simp⟩⟩
  | e :: es, q, now, ag, he, hI => by
    obtain ⟨b1, b2⟩ := hI.bound h
    have hn2 := h.n2
    have hn1 := h.n1
    have hlen := hI.len
    have hcl : SlicesCloneLint q = some q := by
      unfold SlicesCloneLint
      rw [apd_lt (by simp; omega)]
      simp
    have hee := he e (by simp)
    rw [FareBids.loop4, hcl]
    simp only [Option.bind_some]
    obtain ⟨q', m1, m2, m3⟩ := move_ok set hs0 (by omega) e hee q.length 0 q (by omega) (by omega) (fun j _ hj => by have := b2 j (by omega); omega)
    rw [m1]
    simp only [Option.bind_some]
    have hg : ∀ k, k < n → gd q' k = mv (bit set) e (gd q) k := by
      intro k hk
      rw [m3 k (by omega)]
      unfold mv
      cases bit set k <;> simp
    have hmono : Mono n (gd q') ↔ Mono n (mv (bit set) e (gd q)) := by
      unfold Mono
      constructor
      · intro hm k hk
        rw [← hg k (by omega), ← hg (k + 1) (by omega)]; exact hm k hk
      · intro hm k hk
        rw [hg k (by omega), hg (k + 1) (by omega)]; exact hm k hk
    have hC : C l s n (gd q') = C l s n (mv (bit set) e (gd q)) := C_congr h hg
    have go := fun (q1 : List Int) (now1 : Int) (ag1 : Bool) (hI1 : Inv l s n q1 now1) => step_ok h fu hf set hs0 hs1 hev es q1 now1 ag1 (fun e he' => he e (by simp [he'])) hI1
    have keep : ¬ (Mono n (gd q') ∧ C l s n (gd q') < now) → ∃ q'' now' ag', FareBids.loop4 l s (n : Int) fu set es q now ag = some (q'', now', ag') ∧ Inv l s n q'' now' ∧ now' ≤ now ∧ (ag' = true → ag = true ∨ now' < now) ∧ (ag' = false → ag = false ∧ q'' = q ∧ now' = now ∧ ∀ e' ∈ e :: es, NB l s n q set e') := by
      intro hno
      obtain ⟨q1, now1, ag1, g1, g2, g3, g4, g5⟩ := go q now ag hI
      refine ⟨q1, now1, ag1, g1, g2, g3, g4, fun ha => ?_⟩
      obtain ⟨k1, k2, k3, k4⟩ := g5 ha
      refine ⟨k1, k2, k3, fun e' he' => ?_⟩
      rcases List.mem_cons.1 he' with rfl | he'
      · intro hm
        rw [← hC, ← hI.val]
        exact Int.not_lt.1 (fun hlt => hno ⟨hmono.2 hm, hlt⟩)
      · exact k4 e' he'
    have hbq : ∀ k, k < n → -5000 ≤ gd q' k ∧ gd q' k ≤ 5000 := by
      intro k hk
      rw [m3 k (by omega)]
      have := b2 k hk
      split <;> omega
    rcases price_ok h q' (by omega) hbq fu hf with ⟨p1, p2⟩ | ⟨p1, p2⟩
    · rw [p2]
      simp only [Option.bind_some, bnd_eq]
      have hz' : gd q' 0 = 0 := by rw [m3 0 (by omega), hev]; simp [hI.zero]
      obtain ⟨c1, _⟩ := C_bound h hz' p1
      have hge : C l s n (gd q') ≥ 0 := c1
      simp only [hge, decide_true, if_true]
      by_cases hlt : C l s n (gd q') < now
      · simp only [hlt, decide_true, if_true]
        obtain ⟨q1, now1, ag1, g1, g2, g3, g4, g5⟩ := go q' (C l s n (gd q')) true ⟨by omega, hz', p1, rfl, by have := hI.top; omega⟩
        refine ⟨q1, now1, ag1, g1, g2, by omega, fun _ => .inr (by omega), fun ha => ?_⟩
        obtain ⟨k1, _⟩ := g5 ha
        cases k1
      · simp only [hlt, decide_false, Bool.false_eq_true, if_false]
        exact keep (fun c => hlt c.2)
    · rw [p2]
      simp only [Option.bind_some, bnd_eq]
      exact keep (fun c => p1 c.1)
theorem set_ok (h : Okay l s n) (fu : Nat) (hf : 100 ≤ fu) (st : Int) (hst : 0 ≤ st ∧ st ≤ 64) : ∀ (m : Nat) (set : Int) (q : List Int) (now : Int) (ag : Bool), 0 ≤ set → set ≤ 4098 → set % 2 = 0 → (4098 - set).toNat < m → Inv l s n q now →
    ∃ q' now' ag' b, FareBids.loop3 l s (n : Int) fu st m q now ag set = some (q', now', ag', b) ∧ Inv l s n q' now' ∧ now' ≤ now ∧ (ag' = true → ag = true ∨ now' < now) ∧ (ag' = false → ag = false ∧ q' = q ∧ now' = now ∧ ∀ x, set ≤ x → x < 2 ^ n → x % 2 = 0 → NB l s n q x st ∧ NB l s n q x (-st))
  | 0, _, _, _, _, _, _, _, h, _ => absurd h (by omega)
  | m + 1, set, q, now, ag, h0, h1, h2, h3, hI => by
    obtain ⟨p1, p2⟩ := pow_n n h.n2
    have hnn : nn (n : Int) = some () := by unfold nn; rw [if_pos (by omega)]
    rw [FareBids.loop3, p1, hnn]
    simp only [Option.bind_some]
    by_cases hq : set < 2 ^ n
    · have hneg : w64 (0 - st) = -st := by rw [w64_id (by omega)]; omega
      have w2 : w64 (set + 2) = set + 2 := w64_id (by omega)
      have hev : bit set 0 = false := by unfold bit; rw [Int.pow_zero, Int.ediv_one, h2]; rfl
      simp only [hq, decide_true, if_true, hneg, w2]
      obtain ⟨q1, now1, ag1, g1, g2, g3, g4, g5⟩ := step_ok h fu hf set h0 (by omega) hev [st, -st] q now ag (fun e he => by simp at he; rcases he with rfl | rfl <;> omega) hI
      rw [g1]
      simp only [Option.bind_some]
      obtain ⟨q2, now2, ag2, b, k1, k2, k3, k4, k5⟩ := set_ok h fu hf st hst m (set + 2) q1 now1 ag1 (by omega) (by omega) (by omega) (by omega) g2
      refine ⟨q2, now2, ag2, b, k1, k2, by omega, fun ha => ?_, fun ha => ?_⟩
      · rcases k4 ha with c | c
        · rcases g4 c with d | d
          · exact .inl d
          · exact .inr (by omega)
        · exact .inr (by omega)
      · obtain ⟨c1, c2, c3, c4⟩ := k5 ha
        obtain ⟨d1, d2, d3, d4⟩ := g5 c1
        subst d2
        refine ⟨d1, c2, by omega, fun x x1 x2 x3 => ?_⟩
        by_cases e : x = set
        · subst e
          exact ⟨d4 st (by simp), d4 (-st) (by simp)⟩
        · exact c4 x (by omega) x2 x3
    · simp only [hq, decide_false, Bool.false_eq_true, if_false]
      exact ⟨q, now, ag, set, rfl, hI, Int.le_refl _, fun h => .inl h, fun h => ⟨h, rfl, rfl, fun x x1 x2 _ => absurd x2 (by omega)⟩⟩
/-- no set can be moved by so much to better sums -/
def Best (l : List FareOffer) (s : Int) (n : Nat) (q : List Int) (st : Int) : Prop := ∀ x, 2 ≤ x → x < 2 ^ n → x % 2 = 0 → NB l s n q x st ∧ NB l s n q x (-st)
theorem again_ok (h : Okay l s n) (fu : Nat) (hf : 5000 ≤ fu) (st : Int) (hst : 0 ≤ st ∧ st ≤ 64) : ∀ (m : Nat) (q : List Int) (now : Int), now.toNat + 1 < m → Inv l s n q now →
    ∃ q' now' ag', FareBids.loop2 l s (n : Int) fu st m q now true = some (q', now', ag') ∧ Inv l s n q' now' ∧ Best l s n q' st
  | 0, _, _, h, _ => absurd h (by omega)
  | m + 1, q, now, hm, hI => by
    rw [FareBids.loop2]
    simp only [if_true]
    obtain ⟨q1, now1, ag1, b, g1, g2, g3, g4, g5⟩ := set_ok h fu (by omega) st hst fu 2 q now false (by omega) (by omega) (by omega) (by omega) hI
    rw [g1]
    simp only [Option.bind_some]
    cases hag : ag1
    · obtain ⟨_, c2, c3, c4⟩ := g5 hag
      obtain ⟨m, rfl⟩ : ∃ z, m = z + 1 := ⟨m - 1, by omega⟩
      rw [FareBids.loop2]
      simp only [Bool.false_eq_true, if_false]
      refine ⟨q1, now1, false, rfl, g2, ?_⟩
      subst c2
      exact c4
    · have := (g4 hag)
      have hb := (g2.bound h).1
      have hlt : now1 < now := by rcases this with c | c <;> simp_all
      exact again_ok h fu hf st hst m q1 now1 (by omega) g2
theorem steps_ok (h : Okay l s n) (fu : Nat) (hf : 5000 ≤ fu) : ∀ (es : List Int) (q : List Int) (now : Int) (st : Int), (∀ e ∈ es, 0 ≤ e ∧ e ≤ 64) → 0 ≤ st → st ≤ 64 → Inv l s n q now →
    ∃ q' now', FareBids.loop1 l s (n : Int) fu (es ++ [st]) q now = some (q', now') ∧ Inv l s n q' now' ∧ Best l s n q' st
  | [], q, now, st, _, h0, h1, hI => by
    have hb := hI.bound h
    have ht := hI.top
    obtain ⟨q1, now1, ag, g1, g2, g3⟩ := again_ok h fu hf st ⟨h0, h1⟩ fu q now (by omega) hI
    rw [List.nil_append, FareBids.loop1, g1]
    exact ⟨q1, now1, rfl, g2, g3⟩
  | e :: es, q, now, st, he, h0, h1, hI => by
    have hb := hI.bound h
    have ht := hI.top
    obtain ⟨q1, now1, ag, g1, g2, _⟩ := again_ok h fu hf e (he e (by simp)) fu q now (by omega) hI
    rw [List.cons_append, FareBids.loop1, g1]
    simp only [Option.bind_some]
    exact steps_ok h fu hf es q1 now1 st (fun e he' => he e (by simp [he'])) h0 h1 g2
theorem out_ok (q : List Int) (hq : q.length = n) (hn : n ≤ 12) (hb : ∀ k, k < n → 0 ≤ gd q k ∧ gd q k ≤ 2400) : ∀ (d k : Nat) (o : List Int), 1 ≤ k → k + d = n → o.length + 1 = k → (∀ j, j + 1 < k → gd o j = gd q (j + 1) - gd q j) → ∀ (m : Nat), d < m →
    ∃ o' b, FareBids.loop6 (n : Int) q m o ((k : Nat) : Int) = some (o', b) ∧ o'.length + 1 = n ∧ ∀ j, j + 1 < n → gd o' j = gd q (j + 1) - gd q j
  | 0, k, o, h1, h2, h3, h4, m, hm => by
    obtain ⟨m, rfl⟩ : ∃ z, m = z + 1 := ⟨m - 1, by omega⟩
    rw [FareBids.loop6]
    have : ¬ ((k : Int) < (n : Int)) := by omega
    simp only [this, decide_false, Bool.false_eq_true, if_false]
    exact ⟨o, _, rfl, by omega, fun j hj => h4 j (by omega)⟩
  | d + 1, k, o, h1, h2, h3, h4, m, hm => by
    obtain ⟨m, rfl⟩ : ∃ z, m = z + 1 := ⟨m - 1, by omega⟩
    rw [FareBids.loop6]
    have hk : (k : Int) < (n : Int) := by omega
    have w1 : w64 ((k : Int) - 1) = ((k - 1 : Nat) : Int) := by rw [w64_id (by omega)]; omega
    have w2 : w64 ((k : Int) + 1) = ((k + 1 : Nat) : Int) := by rw [w64_id (by omega)]; omega
    have b1 := hb k (by omega)
    have b2 := hb (k - 1) (by omega)
    have w3 : w64 (gd q k - gd q (k - 1)) = gd q k - gd q (k - 1) := w64_id (by omega)
    rw [w1, w2]
    simp only [hk, decide_true, if_true, gx_gd (l := q) (k := k) (by omega), gx_gd (l := q) (k := k - 1) (by omega), Option.bind_some, w3]
    rw [apd_lt (by simp; omega)]
    simp only [Option.bind_some]
    refine out_ok q hq hn hb d (k + 1) _ (by omega) (by omega) (by simp; omega) (fun j hj => ?_) m (by omega)
    by_cases e : j + 1 = k
    · have hj' : j = o.length := by omega
      have : gd (o ++ [gd q k - gd q (k - 1)]) j = gd q k - gd q (k - 1) := by
        subst hj'
        unfold gd
        rw [List.getElem?_append_right (Nat.le_refl _)]; simp
      rw [this, ← e]
      simp
    · have : gd (o ++ [gd q k - gd q (k - 1)]) j = gd o j := by
        unfold gd
        rw [List.getElem?_append_left (by omega)]
      rw [this]
      exact h4 j (by omega)
theorem bids_ok (h : Okay l s n) (fu : Nat) (hf : 5000 ≤ fu) (hc : FarecheckOffers l s (n : Int) = 0) : ∃ q o, FareBids fu l s (n : Int) = some (o, 0) ∧ q.length = n ∧ gd q 0 = 0 ∧ Mono n (gd q) ∧ C l s n (gd q) ≤ 2400 ∧ Best l s n q 1 ∧ o.length + 1 = n ∧ ∀ j, j + 1 < n → gd o j = gd q (j + 1) - gd q j := by
  have hn1 := h.n1
  have hn2 := h.n2
  have hfew := h.few
  have hz : ∀ k, gd (List.replicate n 0) k = 0 := by
    intro k
    unfold gd
    by_cases hk : k < n
    · rw [List.getElem?_eq_getElem (by simpa using hk)]; simp
    · rw [List.getElem?_eq_none (by simp; omega)]; rfl
  have hm0 : Mono n (gd (List.replicate n 0)) := fun k _ => by rw [hz, hz]; exact Int.le_refl _
  have hC0 : C l s n (gd (List.replicate n 0)) ≤ 2400 := by
    unfold C cost
    rw [hz, Int.mul_zero, Int.zero_add]
    have h1 := sg_le (m := l.length) (f := fun i => max 0 (oV l i - gd (List.replicate n 0) (oT l i) + gd (List.replicate n 0) (oF l i))) (g := fun _ => 200) (fun i hi => by
      have := h.v hi
      rw [hz, hz]; omega)
    rw [sg_const] at h1
    omega
  unfold FareBids
  rw [hc, mks_in (by omega)]
  simp only [bne_self_eq_false, Bool.false_eq_true, if_false, Option.bind_some]
  rcases price_ok h (List.replicate n 0) (by simp) (fun k _ => by rw [hz]; omega) fu (by omega) with ⟨p1, p2⟩ | ⟨p1, _⟩
  · rw [p2]
    simp only [Option.bind_some]
    obtain ⟨q, now, g1, g2, g3⟩ := steps_ok h fu hf [64, 16, 4, 1] (List.replicate n 0) (C l s n (gd (List.replicate n 0))) 1 (by decide) (by omega) (by omega) ⟨by simp, hz 0, hm0, rfl, hC0⟩
    have g1' : FareBids.loop1 l s (n : Int) fu [64, 16, 4, 1, 1] (List.replicate n 0) (C l s n (gd (List.replicate n 0))) = some (q, now) := g1
    rw [g1']
    simp only [Option.bind_some]
    have hb := (g2.bound h).2
    obtain ⟨o, b, k1, k2, k3⟩ := out_ok (n := n) q g2.len hn2 hb (n - 1) 1 [] (by omega) (by omega) (by simp) (fun j hj => absurd hj (by omega)) fu (by omega)
    have k1' : FareBids.loop6 (n : Int) q fu [] 1 = some (o, b) := k1
    rw [k1']
    exact ⟨q, o, rfl, g2.len, g2.zero, g2.mono, by rw [← g2.val]; exact g2.top, g3, k2, k3⟩
  · exact absurd hm0 p1
/-- where no set can be moved by one, the best choice brings as much -/
theorem best_is (h : Okay l s n) {q : List Int} (h0 : gd q 0 = 0) (hm : Mono n (gd q)) (hB : Best l s n q 1) {mo : Int} (hM : Most l s n mo (2 ^ l.length)) : C l s n (gd q) = mo := by
  have hn1 := h.n1
  have hn2 := h.n2
  obtain ⟨Ch, c1, c2⟩ := dual l.length (n - 1) s (oF l) (oT l) (oV l) (by omega) (by have := h.s1; omega) (fun i hi => h.ft hi) (gd q) h0 hm (by
    intro S e hS0 hk he hmono
    obtain ⟨x, x1, x2, x3, x4⟩ := ofset S n
    have hx0 : x % 2 = 0 := by
      have := x4 (by omega)
      rw [hS0] at this
      have : ¬ x % 2 = 1 := fun c => by have := this.1 c; cases this
      omega
    have hxne : x ≠ 0 := by
      rintro rfl
      obtain ⟨k, k1, k2⟩ := hk
      have := x3 k (by omega)
      rw [k2] at this
      unfold bit at this
      rw [Int.zero_ediv] at this
      cases this
    have hmv : ∀ k, k < n → mv S e (gd q) k = mv (bit x) e (gd q) k := by
      intro k hk
      unfold mv
      rw [x3 k hk]
    have hb := hB x (by omega) x2 hx0
    have hmono' : Mono n (mv (bit x) e (gd q)) := by
      intro k hk
      rw [← hmv k (by omega), ← hmv (k + 1) (by omega)]
      exact hmono k hk
    have hcc : cost l.length (n - 1) s (oF l) (oT l) (oV l) (mv S e (gd q)) = C l s n (mv (bit x) e (gd q)) := C_congr h hmv
    rw [hcc]
    rcases he with rfl | rfl
    · exact hb.1 hmono'
    · exact hb.2 hmono')
  obtain ⟨x, x1, x2, x3, _⟩ := ofset Ch l.length
  have htot : sg l.length (vof l x) = C l s n (gd q) := by
    refine Eq.trans ?_ c2
    exact sg_congr (fun i hi => by unfold vof; rw [x3 i hi])
  have hfe : feas l s n x := by
    intro j hj
    by_cases hj' : j < n - 1
    · have e : sg l.length (cov l x j) = sg l.length (fun i => if Ch i = true ∧ oF l i ≤ j ∧ j < oT l i then 1 else 0) := sg_congr (fun i hi => by unfold cov; rw [x3 i hi])
      rw [e]
      exact c1 j hj'
    · have e : sg l.length (cov l x j) = 0 := by
        rw [sg_congr (g := fun _ => 0) (fun i hi => by
          have := h.ft hi
          unfold cov
          rw [if_neg (by omega)]), sg_zero]
      have := h.s1
      omega
  have hge := hM.all x x1 x2 hfe
  have hbd := C_bound h h0 hm
  rcases hM.one with e | ⟨y, y1, y2, y3, y4⟩
  · omega
  · have := weak l.length (n - 1) s (oF l) (oT l) (oV l) (fun i hi => h.ft hi) (gd q) h0 hm (bit y) (fun k hk => y3 k (by omega))
    have e : sg l.length (fun i => if bit y i = true then oV l i else 0) = sg l.length (vof l y) := rfl
    rw [e, y4] at this
    have : mo ≤ C l s n (gd q) := this
    omega

/-! what the bids come to -/
theorem sum1 (s : Int) (hs1 : 1 ≤ s) (hs2 : s ≤ 12) (o : List Int) (ho : o.length ≤ 12) (hb : ∀ j, j < o.length → 0 ≤ gd o j ∧ gd o j ≤ 2400) : ∀ (d k : Nat), k + d = o.length →
    Fishref2BidsSum.loop1 s (o.drop k) (s * sg k (gd o)) = s * sg o.length (gd o)
  | 0, k, hk => by
    obtain rfl : k = o.length := by omega
    rw [List.drop_length, Fishref2BidsSum.loop1]
  | d + 1, k, hk => by
    have hkl : k < o.length := by omega
    rw [List.drop_eq_getElem_cons hkl, Fishref2BidsSum.loop1, ← gd_at hkl]
    have b1 := hb k hkl
    have h1 : 0 ≤ s * gd o k ∧ s * gd o k ≤ 28800 := by
      have c1 : s * gd o k ≤ s * 2400 := Int.mul_le_mul_of_nonneg_left b1.2 (by omega)
      have c2 : 0 ≤ s * gd o k := Int.mul_nonneg (by omega) b1.1
      omega
    have h2 : 0 ≤ sg k (gd o) ∧ sg k (gd o) ≤ k * 2400 := by
      refine ⟨sg_nonneg (fun i hi => (hb i (by omega)).1), ?_⟩
      rw [← sg_const]
      exact sg_le (fun i hi => (hb i (by omega)).2)
    have h3 : 0 ≤ s * sg k (gd o) ∧ s * sg k (gd o) ≤ 345600 := by
      have c1 : s * sg k (gd o) ≤ s * 28800 := Int.mul_le_mul_of_nonneg_left (by omega) (by omega)
      have c2 : 0 ≤ s * sg k (gd o) := Int.mul_nonneg (by omega) h2.1
      omega
    rw [w64_id (x := s * gd o k) (by omega), w64_id (by omega)]
    have e : s * sg k (gd o) + s * gd o k = s * sg (k + 1) (gd o) := by simp only [sg]; rw [Int.mul_add]
    rw [e]
    exact sum1 s hs1 hs2 o ho hb d (k + 1) (by omega)
theorem sum3 (h : Okay l s n) (q o : List Int) (ho : o.length + 1 = n) (hg : ∀ j, j + 1 < n → gd o j = gd q (j + 1) - gd q j) (hb : ∀ k, k < n → 0 ≤ gd q k ∧ gd q k ≤ 2400) (x : FareOffer) (hx : x ∈ l) : ∀ (d k : Nat), x.From.toNat ≤ k → k + d = x.To.toNat → ∀ (m : Nat), d < m →
    ∃ b, Fishref2BidsSum.loop3 o x m (x.Value - gd q k + gd q x.From.toNat) ((k : Nat) : Int) = some (x.Value - gd q x.To.toNat + gd q x.From.toNat, b)
  | 0, k, h1, h2, m, hm => by
    obtain ⟨m, rfl⟩ : ∃ z, m = z + 1 := ⟨m - 1, by omega⟩
    obtain ⟨a1, a2, a3, a4, a5⟩ := h.all x hx
    rw [Fishref2BidsSum.loop3]
    have : ¬ ((k : Int) < x.To) := by omega
    simp only [this, decide_false, Bool.false_eq_true, if_false]
    obtain rfl : k = x.To.toNat := by omega
    exact ⟨_, rfl⟩
  | d + 1, k, h1, h2, m, hm => by
    obtain ⟨m, rfl⟩ : ∃ z, m = z + 1 := ⟨m - 1, by omega⟩
    obtain ⟨a1, a2, a3, a4, a5⟩ := h.all x hx
    have hn2 := h.n2
    rw [Fishref2BidsSum.loop3]
    have hk : (k : Int) < x.To := by omega
    have w2 : w64 ((k : Int) + 1) = ((k + 1 : Nat) : Int) := by rw [w64_id (by omega)]; omega
    have b1 := hb k (by omega)
    have b2 := hb (k + 1) (by omega)
    have b3 := hb x.From.toNat (by omega)
    simp only [hk, decide_true, if_true, gx_gd (l := o) (k := k) (by omega), Option.bind_some, hg k (by omega), w2]
    have e : w64 (x.Value - gd q k + gd q x.From.toNat - (gd q (k + 1) - gd q k)) = x.Value - gd q (k + 1) + gd q x.From.toNat := by rw [w64_id (by omega)]; omega
    rw [e]
    exact sum3 h q o ho hg hb x hx d (k + 1) (by omega) (by omega) m (by omega)
theorem sum2 (h : Okay l s n) (q o : List Int) (ho : o.length + 1 = n) (hg : ∀ j, j + 1 < n → gd o j = gd q (j + 1) - gd q j) (hb : ∀ k, k < n → 0 ≤ gd q k ∧ gd q k ≤ 2400) (fu : Nat) (hf : 100 ≤ fu) (a : Int) (ha : 0 ≤ a ∧ a ≤ 1000000) : ∀ (d k : Nat), k + d = l.length →
    Fishref2BidsSum.loop2 o fu (l.drop k) (a + sg k (gain (l := l) q)) = some (a + sg l.length (gain (l := l) q))
  | 0, k, hk => by
    obtain rfl : k = l.length := by omega
    rw [List.drop_length, Fishref2BidsSum.loop2]
  | d + 1, k, hk => by
    have hkl : k < l.length := by omega
    have hfew := h.few
    have hn2 := h.n2
    obtain ⟨a1, a2, a3, a4, a5⟩ := h.all l[k] (List.getElem_mem hkl)
    rw [List.drop_eq_getElem_cons hkl, Fishref2BidsSum.loop2]
    obtain ⟨b, hb3⟩ := sum3 h q o ho hg hb l[k] (List.getElem_mem hkl) (l[k].To.toNat - l[k].From.toNat) l[k].From.toNat (by omega) (by omega) fu (by omega)
    have e1 : l[k].Value - gd q l[k].From.toNat + gd q l[k].From.toNat = l[k].Value := by omega
    have e2 : ((l[k].From.toNat : Nat) : Int) = l[k].From := by omega
    rw [e1, e2] at hb3
    rw [hb3]
    simp only [Option.bind_some]
    have hs0 : 0 ≤ sg k (gain (l := l) q) := sg_nonneg (fun i _ => by unfold gain; omega)
    have hs1 : sg k (gain (l := l) q) ≤ k * 10200 := by
      rw [← sg_const]
      exact sg_le (fun i hi => by
        have c1 := h.ft (i := i) (by omega)
        have c2 := h.v (i := i) (by omega)
        have c3 := hb (oT l i) (by omega)
        have c4 := hb (oF l i) (by omega)
        unfold gain; omega)
    have c3 := hb l[k].To.toNat (by omega)
    have c4 := hb l[k].From.toNat (by omega)
    rw [mx_max, w64_id (by omega)]
    have e : a + sg k (gain (l := l) q) + max (l[k].Value - gd q l[k].To.toNat + gd q l[k].From.toNat) 0 = a + sg (k + 1) (gain (l := l) q) := by
      simp only [sg]
      unfold gain
      rw [oT_at hkl, oF_at hkl, oV_at hkl]; omega
    rw [e]
    exact sum2 h q o ho hg hb fu hf a ha d (k + 1) (by omega)
theorem bidsSum_ok (h : Okay l s n) (q o : List Int) (h0 : gd q 0 = 0) (ho : o.length + 1 = n) (hg : ∀ j, j + 1 < n → gd o j = gd q (j + 1) - gd q j) (hb : ∀ k, k < n → 0 ≤ gd q k ∧ gd q k ≤ 2400) (hm : Mono n (gd q)) (fu : Nat) (hf : 100 ≤ fu) :
    Fishref2BidsSum fu l s o = some (C l s n (gd q)) := by
  have hn1 := h.n1
  have hn2 := h.n2
  have hs1 := h.s1
  have hs2 := h.s2
  have hob : ∀ j, j < o.length → 0 ≤ gd o j ∧ gd o j ≤ 2400 := by
    intro j hj
    rw [hg j (by omega)]
    have c1 := hb j (by omega)
    have c2 := hb (j + 1) (by omega)
    have c3 := hm j (by omega)
    omega
  have htel : sg o.length (gd o) = gd q (n - 1) := by
    rw [sg_congr (g := fun k => gd q (k + 1) - gd q k) (fun k hk => hg k (by omega)), sg_last, h0, show o.length = n - 1 by omega]
    omega
  have e1 := sum1 s hs1 hs2 o (by omega) hob o.length 0 (by omega)
  simp only [List.drop_zero, sg, Int.mul_zero] at e1
  rw [htel] at e1
  have hb1 := hb (n - 1) (by omega)
  have hm2 : 0 ≤ s * gd q (n - 1) ∧ s * gd q (n - 1) ≤ 1000000 := by
    have c1 : s * gd q (n - 1) ≤ s * 2400 := Int.mul_le_mul_of_nonneg_left hb1.2 (by omega)
    have c2 : 0 ≤ s * gd q (n - 1) := Int.mul_nonneg (by omega) hb1.1
    omega
  have e2 := sum2 h q o ho hg hb fu hf (s * gd q (n - 1)) hm2 l.length 0 (by omega)
  simp only [List.drop_zero, sg, Int.add_zero] at e2
  unfold Fishref2BidsSum
  rw [e1]
  simp only [bnd_eq]
  rw [e2]
  rfl
theorem look_ok (o : List Int) (hb : ∀ j, j < o.length → 0 ≤ gd o j ∧ gd o j ≤ 2400) : ∀ (d k : Nat), k + d = o.length → Fishlaw2FareBids.loop1 (o, 0) d k = some (.next ())
  | 0, k, _ => rfl
  | d + 1, k, hk => by
    rw [Fishlaw2FareBids.loop1]
    have b1 := hb k (by omega)
    have c1 : ¬ gd o k < 0 := by omega
    have c2 : ¬ gd o k > 1099511627776 := by omega
    simp only [gx_gd (l := o) (k := k) (by omega), Option.bind_some, bnd_eq, c1, c2, decide_false, Bool.false_eq_true, if_false]
    exact look_ok o hb d (k + 1) (by omega)
end

theorem FareBids_law (l : List FareOffer) (s t : Int) (_ : l.length ≤ 9223372036854775807) (_ : -9223372036854775808 ≤ s ∧ s ≤ 9223372036854775807) (_ : -9223372036854775808 ≤ t ∧ t ≤ 9223372036854775807) : ∃ fu, Fishlaw2FareBids fu l s t = some true := by
  refine ⟨5000 + 60, ?_⟩
  unfold Fishlaw2FareBids
  rw [fares_true, offers_ref]
  by_cases hc : FarecheckOffers l s t = 0
  · obtain ⟨a1, a2, a3, a4, a5, a6⟩ := offers_in hc
    obtain ⟨n, rfl⟩ : ∃ n : Nat, t = (n : Int) := ⟨t.toNat, by omega⟩
    have hO : Okay l s n := ⟨a1, a2, a3, by omega, by omega, a6⟩
    obtain ⟨q, o, e1, e2, e3, e4, e5, e6, e7, e8⟩ := bids_ok hO (5000 + 60) (by omega) hc
    obtain ⟨mo, c, p1, p2⟩ := pick_most l s (n : Int) (5000 + 60) (by omega) hc
    rw [Int.toNat_natCast] at p2
    have hbd := C_bound hO e3 e4
    have hqb : ∀ k, k < n → 0 ≤ gd q k ∧ gd q k ≤ 2400 := fun k hk => by have := hbd.2 k hk; omega
    have hob : ∀ j, j < o.length → 0 ≤ gd o j ∧ gd o j ≤ 2400 := by
      intro j hj
      rw [e8 j (by omega)]
      have c1 := hqb j (by omega)
      have c2 := hqb (j + 1) (by omega)
      have c3 := e4 j (by omega)
      omega
    have w : w64 ((n : Int) - 1) = ((o.length : Nat) : Int) := by rw [w64_id (by omega)]; omega
    have b1 := bidsSum_ok hO q o e3 e7 e8 hqb e4 (5000 + 60) (by omega)
    rw [e1, hc]
    simp only [bne_self_eq_false, Bool.false_eq_true, if_false, Option.bind_some, Bool.not_true, w, look_ok o hob o.length 0 (by omega)]
    rw [p1, b1, best_is hO e3 e4 e6 p2]
    simp
  · have e : FareBids (5000 + 60) l s t = some ([], FarecheckOffers l s t) := by unfold FareBids; simp [hc]
    rw [e]
    simp [hc]

end Go.Fp
