/- FareSigns: the mirror of the law is true of all keys, strings and numbers. -/
import Derived.Test.YtmgdigencbganaaFareSignsM
import Derived.Test.YtmgdigencbganaaFpPlain
import Derived.KernelRfl
namespace Go.Fp

/-! single bits -/
theorem bit_and1 {x : Int} (h0 : 0 ≤ x) (h1 : x < 9223372036854775808) : IntKind.wrap .i64 ((BitVec.ofInt (IntKind.bits .i64) x &&& BitVec.ofInt (IntKind.bits .i64) 1).toNat : Int) = x % 2 := by
  have e : (BitVec.ofInt (IntKind.bits .i64) x &&& BitVec.ofInt (IntKind.bits .i64) 1).toNat = x.toNat % 2 := by
    show (BitVec.ofInt 64 x &&& BitVec.ofInt 64 1).toNat = x.toNat % 2
    rw [BitVec.toNat_and]
    have h2 : (BitVec.ofInt 64 1).toNat = 1 := by decide
    have h3 : (BitVec.ofInt 64 x).toNat = x.toNat := by
      rw [BitVec.toNat_ofInt]
      have : x % ((2 ^ 64 : Nat) : Int) = x := Int.emod_eq_of_lt h0 (by omega)
      rw [this]
    rw [h2, h3, Nat.and_one_is_mod]
  rw [e]
  have : ((x.toNat % 2 : Nat) : Int) = x % 2 := by omega
  rw [this]
  exact IntWalk.i64_in _ ⟨by omega, by omega⟩
theorem shr_nat {x : Int} (h0 : 0 ≤ x) {k : Nat} (hk : k ≤ 64) : Int.fdiv x (2 ^ (min (Int.toNat ((k : Nat) : Int)) (IntKind.bits .i64))) = x / 2 ^ k := by
  have e : min (Int.toNat ((k : Nat) : Int)) (IntKind.bits .i64) = k := by show min (Int.toNat ((k : Nat) : Int)) 64 = k; omega
  rw [e, Int.fdiv_eq_ediv_of_nonneg x (Int.le_of_lt (Int.pow_pos (by omega)))]
theorem shr_lt {x : Int} (h0 : 0 ≤ x) (h1 : x < 9223372036854775808) (k : Nat) : 0 ≤ x / 2 ^ k ∧ x / 2 ^ k < 9223372036854775808 := by
  have hp : (0 : Int) < 2 ^ k := Int.pow_pos (by omega)
  exact ⟨Int.ediv_nonneg h0 (Int.le_of_lt hp), Int.lt_of_le_of_lt (Int.ediv_le_self _ h0) h1⟩
/-! powers modulo m -/
theorem emod_mul {a b c d m : Int} (h : a % m = b % m) (k : c % m = d % m) : (a * c) % m = (b * d) % m := by rw [Int.mul_emod, h, k, ← Int.mul_emod]
theorem emod_pow {a b m : Int} (h : a % m = b % m) : ∀ k : Nat, (a ^ k) % m = (b ^ k) % m
  | 0 => by rw [Int.pow_zero, Int.pow_zero]
  | k + 1 => by rw [Int.pow_succ, Int.pow_succ]; exact emod_mul (emod_pow h k) h
theorem rm_pos {x m : Int} (hx : 0 ≤ x) (hm : 1 < m) : rm x m = some (x % m) := by unfold rm; rw [if_neg (by omega), Int.tmod_eq_emod_of_nonneg hx]
theorem prod_in {a b m : Int} (ha : 0 ≤ a ∧ a < m) (hb : 0 ≤ b ∧ b < m) (hm : m ≤ 2147483648) : 0 ≤ a * b ∧ a * b ≤ 2147483648 * 2147483648 :=
  ⟨Int.mul_nonneg ha.1 hb.1, Int.mul_le_mul (by omega) (by omega) hb.1 (by omega)⟩
theorem emod_in (a : Int) {m : Int} (hm : 1 < m) : 0 ≤ a % m ∧ a % m < m := ⟨Int.emod_nonneg _ (by omega), Int.emod_lt_of_pos _ (by omega)⟩
theorem pow_one' (x : Int) : x ^ 1 = x := by rw [Int.pow_succ, Int.pow_zero, Int.one_mul]
theorem pow_half (x : Int) (n : Nat) : x ^ n = (x * x) ^ (n / 2) * x ^ (n % 2) := by
  have e : x * x = x ^ 2 := by rw [Int.pow_succ, Int.pow_succ, Int.pow_zero, Int.one_mul]
  rw [e, ← Int.pow_mul, ← Int.pow_add]
  congr 1; omega
theorem pow_loop (m : Int) (hm : 1 < m) (hm2 : m ≤ 2147483648) : ∀ (fu : Nat) (x n o : Int), 0 ≤ n → n < 2 ^ fu → fu ≤ 62 → 0 ≤ x ∧ x < m → 0 ≤ o ∧ o < m → ∃ x' n', Farepower.loop1 m (fu + 1) x n o = some (x', n', (o * x ^ n.toNat) % m)
  | 0, x, n, o, h0, h1, _, hx, ho => by
    have hn : n = 0 := by omega
    subst hn
    exact ⟨x, 0, by simp [Farepower.loop1, Int.emod_eq_of_lt ho.1 ho.2]⟩
  | fu + 1, x, n, o, h0, h1, hf, hx, ho => by
    have h1' : n < 2 * 2 ^ fu := by rw [Int.pow_succ] at h1; omega
    have hb : (2 : Int) ^ fu ≤ 2 ^ 61 := by
      have : (2 : Nat) ^ fu ≤ 2 ^ 61 := Nat.pow_le_pow_right (by omega) (by omega)
      exact_mod_cast this
    have hb2 : (2 : Int) ^ 61 = 2305843009213693952 := by decide
    rw [Farepower.loop1]
    by_cases hn : n > 0
    · have hxx := prod_in hx hx hm2
      have hox := prod_in ho hx hm2
      rw [bit_and1 h0 (by omega)]
      have hs : Int.fdiv n (2 ^ (min (Int.toNat 1) (IntKind.bits .i64))) = n / 2 := by have := shr_nat (x := n) h0 (k := 1) (by omega); simpa using this
      simp only [hn, decide_true, if_true, hs]
      rw [w64_id (x := x * x) (by omega), w64_id (x := o * x) (by omega), rm_pos hxx.1 hm, rm_pos hox.1 hm]
      simp only [Option.bind_some]
      have hnn : (n / 2).toNat = n.toNat / 2 := by omega
      by_cases hp : n % 2 = 1
      · have hpb : (n % 2 == 1) = true := by simpa using hp
        simp only [hpb, if_true, Option.bind_some]
        have hc := emod_in (x * o) hm
        have hc' := emod_in (x * x) hm
        have e0 : o * x = x * o := Int.mul_comm _ _
        obtain ⟨x', n', ih⟩ := pow_loop m hm hm2 fu (x * x % m) (n / 2) (o * x % m) (by omega) (by omega) (by omega) hc' (emod_in _ hm)
        refine ⟨x', n', ?_⟩
        rw [ih]
        have e1 : (o * x % m * (x * x % m) ^ (n / 2).toNat) % m = (o * x ^ n.toNat) % m := by
          have h2 : (o * x % m * (x * x % m) ^ (n / 2).toNat) % m = ((o * x) * (x * x) ^ (n / 2).toNat) % m := emod_mul (Int.emod_emod _ _) (emod_pow (Int.emod_emod _ _) _)
          rw [h2, pow_half x n.toNat, hnn]
          have h3 : n.toNat % 2 = 1 := by omega
          rw [h3, pow_one']
          congr 1
          rw [Int.mul_assoc, Int.mul_comm x]
        rw [e1]
      · have hpb : (n % 2 == 1) = false := by simpa using hp
        simp only [hpb, Bool.false_eq_true, if_false, Option.bind_some]
        obtain ⟨x', n', ih⟩ := pow_loop m hm hm2 fu (x * x % m) (n / 2) o (by omega) (by omega) (by omega) (emod_in _ hm) ho
        refine ⟨x', n', ?_⟩
        rw [ih]
        have e1 : (o * (x * x % m) ^ (n / 2).toNat) % m = (o * x ^ n.toNat) % m := by
          have h2 : (o * (x * x % m) ^ (n / 2).toNat) % m = (o * (x * x) ^ (n / 2).toNat) % m := emod_mul rfl (emod_pow (Int.emod_emod _ _) _)
          rw [h2, pow_half x n.toNat, hnn]
          have h3 : n.toNat % 2 = 0 := by omega
          rw [h3, Int.pow_zero, Int.mul_one]
        rw [e1]
    · have hn0 : n = 0 := by omega
      subst hn0
      exact ⟨x, 0, by simp [Int.emod_eq_of_lt ho.1 ho.2]⟩
theorem loop_more (m : Int) : ∀ (f g : Nat) (x n o : Int) (r : Int × Int × Int), f ≤ g → Farepower.loop1 m f x n o = some r → Farepower.loop1 m g x n o = some r
  | 0, _, _, _, _, _, _, h => by simp [Farepower.loop1] at h
  | f + 1, 0, _, _, _, _, hg, _ => absurd hg (by omega)
  | f + 1, g + 1, x, n, o, r, hg, h => by
    rw [Farepower.loop1] at h ⊢
    split at h
    · rename_i hc
      rw [if_pos hc]
      rw [Option.bind_eq_some_iff] at h ⊢
      obtain ⟨q, h1, h2⟩ := h
      refine ⟨q, h1, ?_⟩
      rw [Option.bind_eq_some_iff] at h2 ⊢
      obtain ⟨y, h3, h4⟩ := h2
      exact ⟨y, h3, loop_more m f g _ _ _ r (by omega) h4⟩
    · rename_i hc
      rw [if_neg hc]; exact h
theorem power_ok {fu : Nat} (hf : 63 ≤ fu) (x n m : Int) (hx : 0 ≤ x) (hn : 0 ≤ n) (hn2 : n ≤ 2147483648) (hm : 1 < m) (hm2 : m ≤ 2147483648) : Farepower fu x n m = some (x ^ n.toNat % m) := by
  unfold Farepower
  rw [rm_pos (by omega) hm, rm_pos hx hm]
  simp only [Option.bind_some]
  obtain ⟨x', n', h⟩ := pow_loop m hm hm2 62 (x % m) n (1 % m) hn (by rw [show (2 : Int) ^ 62 = 4611686018427387904 from by decide]; omega) (by omega) (emod_in _ hm) (emod_in _ hm)
  rw [loop_more m 63 fu _ _ _ _ hf h]
  simp only [Option.bind_some]
  congr 1
  have h2 : (1 % m * (x % m) ^ n.toNat) % m = (1 * x ^ n.toNat) % m := emod_mul (Int.emod_emod _ _) (emod_pow (Int.emod_emod _ _) _)
  rw [h2, Int.one_mul]
theorem powr_loop (x n m : Int) (hx : 0 ≤ x) (hn : 0 ≤ n) (hn2 : n ≤ 2147483648) (hm : 1 < m) (hm2 : m ≤ 2147483648) : ∀ (j fu : Nat), j ≤ 63 → j < fu → ∃ r, Fishref2powerOf.loop1 x n m fu (x ^ (n / 2 ^ j).toNat % m) ((j : Int) - 1) = some (x ^ n.toNat % m, r)
  | 0, fu + 1, _, _ => ⟨-1, by simp [Fishref2powerOf.loop1]⟩
  | _, 0, _, h => absurd h (by omega)
  | j + 1, fu + 1, hj, hf => by
    obtain ⟨r, ih⟩ := powr_loop x n m hx hn hn2 hm hm2 j fu (by omega) (by omega)
    refine ⟨r, ?_⟩
    have e : (((j + 1 : Nat) : Int) - 1) = ((j : Nat) : Int) := by omega
    rw [e, Fishref2powerOf.loop1]
    have hj0 : ((j : Nat) : Int) ≥ 0 := by omega
    have hnn : nn ((j : Nat) : Int) = some () := by unfold nn; rw [if_pos (by omega)]
    have ho := emod_in (x ^ (n / 2 ^ (j + 1)).toNat) hm
    have hoo := prod_in ho ho hm2
    have hq := shr_lt hn (by omega) j
    rw [w64_id (by omega), rm_pos hoo.1 hm, shr_nat hn (by omega), bit_and1 hq.1 hq.2]
    simp only [hj0, decide_true, if_true, Option.bind_some, hnn]
    rw [rm_pos hx hm]
    simp only [Option.bind_some]
    have hhalf : (n / 2 ^ (j + 1)).toNat = (n / 2 ^ j).toNat / 2 := by
      have : n / 2 ^ (j + 1) = n / 2 ^ j / 2 := by rw [Int.pow_succ, Int.ediv_ediv_of_nonneg (Int.le_of_lt (Int.pow_pos (by omega)))]
      rw [this]; omega
    have hw : w64 (((j : Nat) : Int) - 1) = ((j : Nat) : Int) - 1 := w64_id (by omega)
    generalize hY : (n / 2 ^ j) = y at *
    have hpw := pow_half x y.toNat
    by_cases hp : y % 2 = 1
    · have hpb : (y % 2 == 1) = true := by simpa using hp
      have hA := emod_in (x ^ (n / 2 ^ (j + 1)).toNat % m * (x ^ (n / 2 ^ (j + 1)).toNat % m)) hm
      have hAx := prod_in hA (emod_in x hm) hm2
      simp only [hpb, if_true]
      rw [w64_id (by omega), rm_pos hAx.1 hm]
      simp only [Option.bind_some, hw]
      rw [← ih]
      congr 1
      have h3 : y.toNat % 2 = 1 := by omega
      rw [hpw, h3, pow_one', hhalf]
      refine emod_mul ?_ (Int.emod_emod _ _)
      rw [Int.emod_emod, Int.mul_pow]
      exact emod_mul (Int.emod_emod _ _) (Int.emod_emod _ _)
    · have hpb : (y % 2 == 1) = false := by simpa using hp
      simp only [hpb, Bool.false_eq_true, if_false, Option.bind_some, hw]
      rw [← ih]
      congr 1
      have h3 : y.toNat % 2 = 0 := by omega
      rw [hpw, h3, Int.pow_zero, Int.mul_one, hhalf, Int.mul_pow]
      exact emod_mul (Int.emod_emod _ _) (Int.emod_emod _ _)
theorem powerOf_ok {fu : Nat} (hf : 64 ≤ fu) (x n m : Int) (hx : 0 ≤ x) (hn : 0 ≤ n) (hn2 : n ≤ 2147483648) (hm : 1 < m) (hm2 : m ≤ 2147483648) : Fishref2powerOf fu x n m = some (x ^ n.toNat % m) := by
  unfold Fishref2powerOf
  obtain ⟨r, h⟩ := powr_loop x n m hx hn hn2 hm hm2 63 fu (by omega) (by omega)
  have e : n / 2 ^ 63 = 0 := Int.ediv_eq_zero_of_lt hn (by rw [show (2 : Int) ^ 63 = 9223372036854775808 from by decide]; omega)
  rw [e] at h
  have h1 : x ^ (Int.toNat 0) % m = 1 := by show x ^ 0 % m = 1; rw [Int.pow_zero, Int.emod_eq_of_lt (by omega) hm]
  rw [h1] at h
  have h2 : (((63 : Nat) : Int) - 1) = 62 := by omega
  rw [h2] at h
  rw [h]; rfl
/-! the digest -/
theorem digest_loop (s : ByteArray) : ∀ (n k : Nat) (q : Int), Fishref2DigestOf.loop1 s n k q = FareDigest.loop1 s n k q
  | 0, _, _ => rfl
  | n + 1, k, q => by simp only [Fishref2DigestOf.loop1, FareDigest.loop1, digest_loop s n] <;> rfl
theorem sgx_in {s : ByteArray} {k : Nat} (h : k < s.size) : ∃ v : Int, sgx s ((k : Nat) : Int) = some v ∧ 0 ≤ v ∧ v ≤ 255 := by
  have hl : s.data.toList.length = s.size := by cases s; rfl
  refine ⟨((s.data.toList[k]'(by omega)).toNat : Int), ?_, by omega, ?_⟩
  · unfold sgx; rw [gx_at (by omega)]; rfl
  · have := (s.data.toList[k]'(by omega)).toNat_lt; omega
theorem digest_tot (s : ByteArray) : ∀ (n k : Nat) (q : Int), k + n = s.size → 0 ≤ q → q ≤ 999983 → ∃ z, FareDigest.loop1 s n k q = some z ∧ 0 ≤ z ∧ z ≤ 999983
  | 0, k, q, _, h0, h1 => ⟨q, rfl, h0, h1⟩
  | n + 1, k, q, hk, h0, h1 => by
    obtain ⟨v, e, v0, v1⟩ := sgx_in (s := s) (k := k) (by omega)
    rw [FareDigest.loop1, e, Option.bind_some]
    rw [w64_id (x := q * 257) (by omega), w64_id (x := v) (by omega), w64_id (x := q * 257 + v) (by omega), w64_id (by omega), Int.tmod_eq_emod_of_nonneg (by omega)]
    exact digest_tot s n (k + 1) _ (by omega) (by omega) (by omega)
theorem digest_ok (s : ByteArray) (hs : s.size ≤ 9223372036854775807) : ∃ z, FareDigest s = some z ∧ Fishref2DigestOf s = some z ∧ 0 ≤ z ∧ z ≤ 999983 := by
  obtain ⟨z, h, h0, h1⟩ := digest_tot s s.size 0 1 (by omega) (by omega) (by omega)
  have e : szok s = some () := by unfold szok; rw [if_pos hs]
  refine ⟨z, ?_, ?_, h0, h1⟩
  · unfold FareDigest; rw [e]; simp only [Option.bind_some, h]
  · unfold Fishref2DigestOf; rw [e]; simp only [Option.bind_some, digest_loop, h]
theorem key_ref2 (k : FareKey) (b : Bool) : Fishref2KeyFault k b = FareKeycheck k b := rfl
theorem within_iff (x a b : Int) : Farewithin x a b = decide (a ≤ x ∧ x ≤ b) := by
  unfold Farewithin bnd
  by_cases h1 : a ≤ x <;> by_cases h2 : x ≤ b <;> simp [h1, h2]
theorem key_in {k : FareKey} {b : Bool} (h : FareKeycheck k b = 0) : 1018081 ≤ k.N ∧ k.N ≤ 1072497001 ∧ 3 ≤ k.E ∧ k.E ≤ 32749 ∧ (b = true → 1 ≤ k.D ∧ k.D ≤ k.N - 1) := by
  unfold FareKeycheck at h
  simp only [bnd_eq, within_iff] at h
  by_cases h1 : 1018081 ≤ k.N ∧ k.N ≤ 1072497001
  · by_cases h2 : 3 ≤ k.E ∧ k.E ≤ 32749
    · refine ⟨h1.1, h1.2, h2.1, h2.2, fun hb => ?_⟩
      subst hb
      rw [w64_id (by omega)] at h
      by_cases h3 : 1 ≤ k.D ∧ k.D ≤ k.N - 1
      · exact h3
      · simp [h1, h2, h3] at h
    · simp [h1, h2] at h
  · simp [h1] at h
theorem sign_ok {fu : Nat} (hf : 64 ≤ fu) (k : FareKey) (s : ByteArray) (hs : s.size ≤ 9223372036854775807) (h : FareKeycheck k true = 0) : ∃ z, FareSign fu k s = some (z, 0) ∧ Fishref2SignOf fu k s = some z := by
  obtain ⟨z, d1, d2, d3, d4⟩ := digest_ok s hs
  obtain ⟨k1, k2, k3, k4, k5⟩ := key_in h
  have k6 := k5 rfl
  refine ⟨z ^ k.D.toNat % k.N, ?_, ?_⟩
  · unfold FareSign
    rw [h, d1]
    simp [power_ok (fu := fu) (by omega) z k.D k.N d3 (by omega) (by omega) (by omega) (by omega)]
  · unfold Fishref2SignOf
    rw [d2]
    simp [powerOf_ok (fu := fu) (by omega) z k.D k.N d3 (by omega) (by omega) (by omega) (by omega)]
theorem verify_ok {fu : Nat} (hf : 64 ≤ fu) (k : FareKey) (s : ByteArray) (hs : s.size ≤ 9223372036854775807) (sg : Int) (h : FareKeycheck k false = 0) : ∃ z, FareVerify fu k s sg = some (z, 0) ∧ Fishref2VerifyOf fu k s sg = some z := by
  obtain ⟨z, d1, d2, d3, d4⟩ := digest_ok s hs
  obtain ⟨k1, k2, k3, k4, _⟩ := key_in h
  unfold FareVerify Fishref2VerifyOf
  rw [h, d1, d2, w64_id (by omega), within_iff]
  by_cases h1 : 0 ≤ sg
  · by_cases h2 : sg ≤ k.N - 1
    · have h3 : sg < k.N := by omega
      have p1 := power_ok (fu := fu) (by omega) sg k.E k.N h1 (by omega) (by omega) (by omega) (by omega)
      have p2 := powerOf_ok (fu := fu) (by omega) sg k.E k.N h1 (by omega) (by omega) (by omega) (by omega)
      simp [h1, h2, h3, p1, p2]
    · have h3 : ¬ sg < k.N := by omega
      simp [h1, h2, h3]
  · simp [h1]
theorem fares_true (n : Nat) : Fishlaw2fares (n + 60) = some true := by kernel_rfl

theorem FareSigns_law (k : FareKey) (s : ByteArray) (sg : Int) (hs : s.size ≤ 9223372036854775807) (_ : -9223372036854775808 ≤ sg ∧ sg ≤ 9223372036854775807) : ∃ fu, Fishlaw2FareSigns fu k s sg = some true := by
  refine ⟨100 + 60, ?_⟩
  obtain ⟨z, d1, d2, _, _⟩ := digest_ok s hs
  unfold Fishlaw2FareSigns
  rw [fares_true]
  simp only [d1, d2, Option.bind_some, Bool.not_true, Bool.false_eq_true, if_false, bne_self_eq_false, key_ref2]
  have hS : ∃ y e, FareSign (100 + 60) k s = some (y, e) ∧ e = FareKeycheck k true ∧ (FareKeycheck k true ≠ 0 → y = 0) ∧ (FareKeycheck k true = 0 → Fishref2SignOf (100 + 60) k s = some y) := by
    by_cases h : FareKeycheck k true = 0
    · obtain ⟨y, e1, e2⟩ := sign_ok (fu := 100 + 60) (by omega) k s hs h
      exact ⟨y, 0, e1, h.symm, fun hh => absurd h hh, fun _ => e2⟩
    · refine ⟨0, FareKeycheck k true, ?_, rfl, fun _ => rfl, fun hh => absurd hh h⟩
      unfold FareSign; simp [h]
  have hV : ∃ y e, FareVerify (100 + 60) k s sg = some (y, e) ∧ e = FareKeycheck k false ∧ (FareKeycheck k false ≠ 0 → y = false) ∧ (FareKeycheck k false = 0 → Fishref2VerifyOf (100 + 60) k s sg = some y) := by
    by_cases h : FareKeycheck k false = 0
    · obtain ⟨y, e1, e2⟩ := verify_ok (fu := 100 + 60) (by omega) k s hs sg h
      exact ⟨y, 0, e1, h.symm, fun hh => absurd h hh, fun _ => e2⟩
    · refine ⟨false, FareKeycheck k false, ?_, rfl, fun _ => rfl, fun hh => absurd hh h⟩
      unfold FareVerify; simp [h]
  obtain ⟨y, e, s1, rfl, s2, s3⟩ := hS
  obtain ⟨y', e', v1, rfl, v2, v3⟩ := hV
  rw [s1, v1]
  by_cases h1 : FareKeycheck k true = 0
  · rw [s3 h1]
    by_cases h2 : FareKeycheck k false = 0
    · rw [v3 h2]; simp [h1, h2]
    · simp [h1, h2, v2 h2, bnd_eq]
  · by_cases h2 : FareKeycheck k false = 0
    · rw [v3 h2]; simp [h1, h2, s2 h1]
    · simp [h1, h2, s2 h1, v2 h2, bnd_eq]

end Go.Fp
