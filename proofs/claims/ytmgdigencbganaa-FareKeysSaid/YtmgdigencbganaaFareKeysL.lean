/- FareKeys: the mirror of the law is true of all numbers. -/
import Derived.Test.YtmgdigencbganaaFareKeysM
import Derived.Test.YtmgdigencbganaaFpPlain
import Derived.KernelRfl
namespace Go.Fp

theorem prime_loop (x : Int) : ∀ (n : Nat) (q : Int), Fishref2isPrime.loop1 x n q = Fareprime.loop1 x n q
  | 0, _ => rfl
  | n + 1, q => by simp only [Fishref2isPrime.loop1, Fareprime.loop1, prime_loop x n] <;> rfl
theorem prime_tot (x : Int) (hx : x ≤ 40000) : ∀ (n : Nat) (q : Int), 2 ≤ q → q ≤ 1000 → (1000 - q).toNat < n → Tot (Fareprime.loop1 x n q)
  | 0, _, _, _, h => absurd h (by omega)
  | n + 1, q, h1, h2, h3 => by
    have hm : 0 ≤ q * q ∧ q * q ≤ 1000000 := ⟨Int.mul_nonneg (by omega) (by omega), Int.mul_le_mul h2 h2 (by omega) (by omega)⟩
    rw [Fareprime.loop1, w64_id (by omega), w64_id (by omega)]
    have hr : rm x q = some (Int.tmod x q) := by unfold rm; rw [if_neg (by omega)]
    refine .ite (fun h => .bind1 hr (.ite (fun _ => .some _) fun _ => ?_)) fun _ => .some _
    have hq : q < 1000 := by
      have h := of_decide_eq_true h
      by_cases e : q = 1000
      · subst e; omega
      · omega
    exact prime_tot x hx n (q + 1) (by omega) (by omega) (by omega)
theorem prime_ref {fu : Nat} (hf : 1000 ≤ fu) (x : Int) (hx : x ≤ 40000) : Fishref2isPrime fu x = Fareprime fu x ∧ Tot (Fareprime fu x) := by
  unfold Fishref2isPrime Fareprime
  rw [prime_loop]
  obtain ⟨z, hz⟩ := prime_tot x hx fu 2 (by omega) (by omega) (by omega)
  rw [hz]
  constructor
  · cases z <;> rfl
  · cases z <;> exact .some _
theorem euclid (e m : Int) (hm : 0 < m) (hmb : m ≤ 1099511627776) : ∀ (n : Nat) (a b x y X Y : Int), 0 ≤ a → 0 ≤ b → a ≤ m → b ≤ m → 0 ≤ X → 0 ≤ Y → X * b + Y * a = m → ((x = X ∧ y = -Y) ∨ (x = -X ∧ y = Y)) → m ∣ a - x * e → m ∣ b - y * e → b < n →
    ∃ g x' y', Fareinverse.loop1 n a b x y = some (g, 0, x', y') ∧ Fishref2common n a b = some g ∧ m ∣ g - x' * e
  | 0, _, b, _, _, _, _, _, hb, _, _, _, _, _, _, _, _, h => absurd h (by omega)
  | n + 1, a, b, x, y, X, Y, ha, hb, ham, hbm, hX, hY, hI, hs, h1, h2, hn => by
    rw [Fareinverse.loop1, Fishref2common]
    by_cases h0 : b = 0
    · subst h0
      exact ⟨a, x, y, by simp, by simp, h1⟩
    · have hbp : 0 < b := by omega
      have e0 : (b == 0) = false := by simpa using h0
      simp only [gt_iff_lt, hbp, decide_true, if_true, e0, Bool.false_eq_true, if_false]
      have hq0 : 0 ≤ a / b := Int.ediv_nonneg ha hb
      have hqa : a / b ≤ a := Int.ediv_le_self _ ha
      have hdv : dv a b = some (a / b) := by
        unfold dv
        rw [if_neg h0, Int.tdiv_eq_ediv_of_nonneg ha]
        exact congrArg some (IntWalk.i64_in _ ⟨by omega, by omega⟩)
      have hrm : rm a b = some (a % b) := by unfold rm; rw [if_neg h0, Int.tmod_eq_emod_of_nonneg ha]
      rw [hdv, hrm]
      simp only [Option.bind_some]
      have a1 := Int.emod_add_mul_ediv a b
      have a2 := Int.emod_nonneg a h0
      have a3 := Int.emod_lt_of_pos a hbp
      have hcomm : b * (a / b) = a / b * b := Int.mul_comm _ _
      generalize hq : a / b = q at *
      generalize hr : a % b = r at *
      have hqb : 0 ≤ q * b := Int.mul_nonneg hq0 hb
      have hqY : 0 ≤ q * Y := Int.mul_nonneg hq0 hY
      have hYr : 0 ≤ Y * r := Int.mul_nonneg hY a2
      have hI2 : Y * r + (X + q * Y) * b = m := by
        have : r = a - q * b := by omega
        subst this
        grind
      have hle : (X + q * Y) ≤ m := by
        have : (X + q * Y) * 1 ≤ (X + q * Y) * b := Int.mul_le_mul_of_nonneg_left (by omega) (by omega)
        omega
      have w1 : w64 (q * b) = q * b := w64_id (by omega)
      have w2 : w64 (a - q * b) = r := by rw [w64_id (by omega)]; omega
      have hqy : q * y = - (q * Y) ∨ q * y = q * Y := by
        rcases hs with ⟨_, e2⟩ | ⟨_, e2⟩
        · left; rw [e2, Int.mul_neg]
        · right; rw [e2]
      have w3 : w64 (q * y) = q * y := w64_id (by omega)
      have hxy : (x - q * y = X + q * Y ∧ y = -Y) ∨ (x - q * y = -(X + q * Y) ∧ y = Y) := by
        rcases hs with ⟨e1, e2⟩ | ⟨e1, e2⟩
        · left; rw [e2, e1, Int.mul_neg]; omega
        · right; rw [e2, e1]; omega
      have w4 : w64 (x - q * y) = x - q * y := w64_id (by omega)
      rw [w1, w2, w3, w4]
      have h3 : m ∣ r - (x - q * y) * e := by
        have e1 : r - (x - q * y) * e = (a - x * e) - q * (b - y * e) := by
          have : r = a - q * b := by omega
          subst this; grind
        rw [e1]
        exact Int.dvd_sub h1 (Int.dvd_trans h2 (Int.dvd_mul_left _ _))
      obtain ⟨g, x', y', r1, r2, r3⟩ := euclid e m hm hmb n b r y (x - q * y) Y (X + q * Y) hb a2 hbm (by omega) hY (by omega) hI2 (by
        rcases hxy with ⟨p1, p2⟩ | ⟨p1, p2⟩
        · exact .inr ⟨p2, p1⟩
        · exact .inl ⟨p2, p1⟩) h2 h3 (by omega)
      exact ⟨g, x', y', r1, by rw [r2]; rfl, r3⟩
theorem key_loop (p q e m : Int) (hm : w64 (w64 (p - 1) * w64 (q - 1)) = m) (hm1 : 1 < m) (hmb : m ≤ 2000000000) (he : 3 ≤ e ∧ e ≤ 32749) (d k : Int) (hd : 0 ≤ d ∧ d < m) (hk : 0 ≤ k ∧ k < e) (hdk : e * d = k * m + 1) :
    ∀ (n : Nat) (j a b c : Int), 0 ≤ j → j ≤ k → k - j < n → Fishref2KeyOf.loop1 p q e n j a b c = some (.ret (FareKey.mk (w64 (p * q)) e d, 0))
  | 0, _, _, _, _, _, _, h => absurd h (by omega)
  | n + 1, j, a, b, c, h0, h1, h2 => by
    rw [Fishref2KeyOf.loop1, hm]
    have hjm : 0 ≤ j * m ∧ j * m ≤ 32749 * 2000000000 := ⟨Int.mul_nonneg h0 (by omega), Int.mul_le_mul (by omega) hmb (by omega) (by omega)⟩
    rw [w64_id (x := j * m) (by omega), w64_id (x := j * m + 1) (by omega)]
    have hrm : rm (j * m + 1) e = some ((j * m + 1) % e) := by unfold rm; rw [if_neg (by omega), Int.tmod_eq_emod_of_nonneg (by omega)]
    rw [hrm, Option.bind_some]
    by_cases hj : j = k
    · subst hj
      have e1 : (j * m + 1) % e = 0 := by rw [← hdk]; exact Int.mul_emod_right _ _
      have e2 : dv (j * m + 1) e = some d := by
        unfold dv
        rw [if_neg (by omega), Int.tdiv_eq_ediv_of_nonneg (by omega), ← hdk, Int.mul_ediv_cancel_left _ (by omega)]
        exact congrArg some (IntWalk.i64_in _ ⟨by omega, by omega⟩)
      rw [e1, e2]; rfl
    · have e1 : ((j * m + 1) % e == 0) = false := by
        rw [beq_eq_false_iff_ne]
        intro h
        obtain ⟨d', hd'⟩ := Int.dvd_of_emod_eq_zero h
        -- d = d * (e d' - j m) and d' = d' * (e d - k m)
        have e3 : d - d' = m * (d' * k - d * j) := by
          have : d * (e * d') = d * (j * m + 1) := by rw [hd']
          have : d' * (e * d) = d' * (k * m + 1) := by rw [hdk]
          grind
        have hd0 : 0 ≤ d' := by
          by_cases hn : 0 ≤ d'
          · exact hn
          · have : e * d' ≤ e * (-1) := Int.mul_le_mul_of_nonneg_left (by omega) (by omega)
            omega
        have hdm : d' < m := by
          by_cases hn : d' < m
          · exact hn
          · have g1 : e * m ≤ e * d' := Int.mul_le_mul_of_nonneg_left (by omega) (by omega)
            have g2 : j * m ≤ (e - 1) * m := Int.mul_le_mul_of_nonneg_right (by omega) (by omega)
            rw [Int.sub_mul, Int.one_mul] at g2
            omega
        have e4 : d' * k - d * j = 0 := by
          generalize d' * k - d * j = t at e3
          by_cases t0 : t = 0
          · exact t0
          · rcases Int.lt_or_gt_of_ne t0 with ht | ht
            · have : m * t ≤ m * (-1) := Int.mul_le_mul_of_nonneg_left (by omega) (by omega)
              omega
            · have : m * 1 ≤ m * t := Int.mul_le_mul_of_nonneg_left (by omega) (by omega)
              omega
        rw [e4] at e3
        have e5 : d = d' := by omega
        subst e5
        rw [hdk] at hd'
        have e6 : (k - j) * m = 0 := by rw [Int.sub_mul]; omega
        rcases Int.mul_eq_zero.1 e6 with h | h <;> omega
      rw [e1]
      simp only [Bool.false_eq_true, if_false]
      rw [w64_id (by omega)]
      exact key_loop p q e m hm hm1 hmb he d k hd hk hdk n (j + 1) a b c (by omega) (by omega) (by omega)
theorem within_iff (x a b : Int) : Farewithin x a b = decide (a ≤ x ∧ x ≤ b) := by
  unfold Farewithin bnd
  by_cases h1 : a ≤ x <;> by_cases h2 : x ≤ b <;> simp [h1, h2]
theorem key_ref {fu : Nat} (hf : 2000000100 ≤ fu) (p q e : Int) : Fishref2KeyOf fu p q e = FareMakeKey fu p q e ∧ Tot (FareMakeKey fu p q e) := by
  unfold Fishref2KeyOf FareMakeKey
  simp only [show Fishref2within = Farewithin from rfl, bnd_eq]
  by_cases hc : (1009 ≤ p ∧ p ≤ 32749) ∧ (1009 ≤ q ∧ q ≤ 32749) ∧ (3 ≤ e ∧ e ≤ 32749)
  · have e1 : (if (!Farewithin p 1009 32749) = true then true else if (!Farewithin q 1009 32749) = true then true else !Farewithin e 3 32749) = false := by
      simp [within_iff, hc.1, hc.2.1, hc.2.2]
    rw [e1]
    simp only [Bool.false_eq_true, if_false]
    obtain ⟨hp, hq, he⟩ := hc
    obtain ⟨p1, z1, p2⟩ := prime_ref (fu := fu) (by omega) p (by omega)
    obtain ⟨q1, z2, q2⟩ := prime_ref (fu := fu) (by omega) q (by omega)
    rw [p1, q1, p2, q2]
    simp only [Option.bind_some]
    have hm : w64 (w64 (p - 1) * w64 (q - 1)) = (p - 1) * (q - 1) := by
      have h1 : 1008 * 1008 ≤ (p - 1) * (q - 1) := Int.mul_le_mul (by omega) (by omega) (by omega) (by omega)
      have h2 : (p - 1) * (q - 1) ≤ 32748 * 32748 := Int.mul_le_mul (by omega) (by omega) (by omega) (by omega)
      rw [w64_id (x := p - 1) (by omega), w64_id (x := q - 1) (by omega), w64_id (by omega)]
    have hm1 : 1008 * 1008 ≤ (p - 1) * (q - 1) := Int.mul_le_mul (by omega) (by omega) (by omega) (by omega)
    have hm2 : (p - 1) * (q - 1) ≤ 32748 * 32748 := Int.mul_le_mul (by omega) (by omega) (by omega) (by omega)
    have kl := key_loop p q e _ hm
    rw [hm]
    generalize (p - 1) * (q - 1) = m at hm1 hm2 kl
    obtain ⟨g, x', y', i1, i2, i3⟩ := euclid e m (by omega) (by omega) fu e m 1 0 1 0 (by omega) (by omega) (by omega) (by omega) (by omega) (by omega) (by omega) (.inl ⟨rfl, rfl⟩) (by simp) (by simp) (by omega)
    have hr : rm e m = some e := by unfold rm; rw [if_neg (by omega), Int.tmod_eq_emod_of_nonneg (by omega), Int.emod_eq_of_lt (by omega) (by omega)]
    unfold Fareinverse
    rw [hr, i2]
    simp only [Option.bind_some, i1]
    by_cases hg : g = 1
    · subst hg
      have n1 : ((1 : Int) != 1) = false := by simp
      have hr1 : rm x' m = some (Int.tmod x' m) := by unfold rm; rw [if_neg (by omega)]
      have ht1 := Int.tmod_lt_of_pos x' (show 0 < m by omega)
      have ht2 := Int.lt_tmod_of_pos x' (show 0 < m by omega)
      have ht3 : m ∣ x' - Int.tmod x' m := ⟨Int.tdiv x' m, by have := Int.tmod_add_mul_tdiv x' m; omega⟩
      have hr2 : rm (Int.tmod x' m + m) m = some ((Int.tmod x' m + m) % m) := by unfold rm; rw [if_neg (by omega), Int.tmod_eq_emod_of_nonneg (by omega)]
      simp only [n1, Bool.false_eq_true, if_false, hr1, Option.bind_some]
      rw [w64_id (x := Int.tmod x' m + m) (by omega), hr2]
      simp only [Option.bind_some, Bool.not_true, Bool.false_eq_true, if_false]
      generalize hd : (Int.tmod x' m + m) % m = d
      have d1 : 0 ≤ d := by rw [← hd]; exact Int.emod_nonneg _ (by omega)
      have d2 : d < m := by rw [← hd]; exact Int.emod_lt_of_pos _ (by omega)
      have d3 : m ∣ x' - d := by
        have h1 : m ∣ (Int.tmod x' m + m) - d := ⟨(Int.tmod x' m + m) / m, by have := Int.emod_add_mul_ediv (Int.tmod x' m + m) m; omega⟩
        have h2 : x' - d = (x' - Int.tmod x' m) + ((Int.tmod x' m + m) - d) - m := by omega
        rw [h2]
        exact Int.dvd_sub (Int.dvd_add ht3 h1) (Int.dvd_refl _)
      have d4 : m ∣ e * d - 1 := by
        have h2 : e * d - 1 = - ((1 - x' * e) + e * (x' - d)) := by grind
        rw [h2]
        exact (Int.dvd_neg).2 (Int.dvd_add i3 (Int.dvd_trans d3 (Int.dvd_mul_left _ _)))
      obtain ⟨k, hk⟩ := d4
      have hcm : m * k = k * m := Int.mul_comm _ _
      have hdk : e * d = k * m + 1 := by omega
      have hd0 : d ≠ 0 := by
        intro h; rw [h, Int.mul_zero] at hdk
        have hk' : k * m = -1 := by omega
        by_cases h0 : 0 ≤ k
        · have := Int.mul_nonneg h0 (show 0 ≤ m by omega); omega
        · have : k * m ≤ (-1) * m := Int.mul_le_mul_of_nonneg_right (by omega) (by omega)
          omega
      have hk0 : 0 ≤ k := by
        by_cases h0 : 0 ≤ k
        · exact h0
        · have h3 : k * m ≤ (-1) * m := Int.mul_le_mul_of_nonneg_right (by omega) (by omega)
          have h4 : 0 ≤ e * d := Int.mul_nonneg (by omega) d1
          omega
      have hk1 : k < e := by
        by_cases h0 : k < e
        · exact h0
        · have h3 : e * m ≤ k * m := Int.mul_le_mul_of_nonneg_right (by omega) (by omega)
          have h4 : e * d ≤ e * (m - 1) := Int.mul_le_mul_of_nonneg_left (by omega) (by omega)
          rw [Int.mul_sub] at h4
          omega
      have := kl (by omega) (by omega) he d k ⟨d1, d2⟩ ⟨hk0, hk1⟩ hdk fu 0 0 0 0 (by omega) (by omega) (by omega)
      rw [this]
      simp only [Option.bind_some]
      constructor
      · cases z1 <;> cases z2 <;> simp
      · refine .bind (.ite (fun _ => .some _) fun _ => .ite (fun _ => .some _) fun _ => .some _) fun _ _ => .ite (fun _ => .some _) fun _ => .some _
    · have n1 : (g != 1) = true := by simpa using hg
      simp only [n1, if_true, Option.bind_some, Bool.not_false]
      refine ⟨trivial, .bind (.ite (fun _ => .some _) fun _ => .ite (fun _ => .some _) fun _ => .some _) fun _ _ => .ite (fun _ => .some _) fun _ => .some _⟩
  · have e1 : (if (!Farewithin p 1009 32749) = true then true else if (!Farewithin q 1009 32749) = true then true else !Farewithin e 3 32749) = true := by
      simp only [within_iff]
      by_cases h1 : 1009 ≤ p ∧ p ≤ 32749
      · by_cases h2 : 1009 ≤ q ∧ q ≤ 32749
        · have h3 : ¬ (3 ≤ e ∧ e ≤ 32749) := fun h => hc ⟨h1, h2, h⟩
          simp [h3]
        · simp [h2]
      · simp [h1]
    rw [e1]
    exact ⟨rfl, .some _⟩
theorem fares_true (n : Nat) : Fishlaw2fares (n + 60) = some true := by kernel_rfl

theorem FareKeys_law (p q e : Int) (_ : -9223372036854775808 ≤ p ∧ p ≤ 9223372036854775807) (_ : -9223372036854775808 ≤ q ∧ q ≤ 9223372036854775807) (_ : -9223372036854775808 ≤ e ∧ e ≤ 9223372036854775807) : ∃ fu, Fishlaw2FareKeys fu p q e = some true := by
  refine ⟨2000000100 + 60, ?_⟩
  unfold Fishlaw2FareKeys
  obtain ⟨e1, z, e2⟩ := key_ref (fu := 2000000100 + 60) (by omega) p q e
  rw [fares_true]
  simp [e1, e2]

end Go.Fp
