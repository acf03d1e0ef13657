/- FareAccepts: the mirror of the law is true of all keys, tickets, texts and numbers. -/
import Derived.Test.YtledekclojpbbaaDoorFareAcceptsM
import Derived.Test.YtledekclojpbbaaDoorFpPlain
import Derived.Lib.ItoaLen
import Derived.Lib.AtoiTie
import Derived.Lib.SplitLaws
import Derived.Lib.CountLaws
import Derived.Lib.ItoaMem
import Derived.Lib.AtoiAllCases
import Derived.KernelRfl
namespace Go.Fp
/-! single bits -/
theorem bit_and1 {x : Int} (h0 : 0 ≤ x) (h1 : x < 9223372036854775808) : IntKind.wrap .i64 ((BitVec.ofInt (IntKind.bits .i64) x &&& BitVec.ofInt (IntKind.bits .i64) 1).toNat : Int) = x % 2 := by
  have e : (BitVec.ofInt (IntKind.bits .i64) x &&& BitVec.ofInt (IntKind.bits .i64) 1).toNat = x.toNat % 2 := by
    show (BitVec.ofInt 64 x &&& BitVec.ofInt 64 1).toNat = x.toNat % 2
    rw [BitVec.toNat_and]
    have h2 : (BitVec.ofInt 64 1).toNat = 1 := by decide
    have h3 : (BitVec.ofInt 64 x).toNat = x.toNat := by
      rw [BitVec.toNat_ofInt]
      have : x % ((2 ^ 64 : Nat) : Int) = x := Int.emod_eq_of_lt h0 (by omega)
      rw [this]
    rw [h2, h3, Nat.and_one_is_mod]
  rw [e]
  have : ((x.toNat % 2 : Nat) : Int) = x % 2 := by omega
  rw [this]
  exact IntWalk.i64_in _ ⟨by omega, by omega⟩
theorem shr_nat {x : Int} (h0 : 0 ≤ x) {k : Nat} (hk : k ≤ 64) : Int.fdiv x (2 ^ (min (Int.toNat ((k : Nat) : Int)) (IntKind.bits .i64))) = x / 2 ^ k := by
  have e : min (Int.toNat ((k : Nat) : Int)) (IntKind.bits .i64) = k := by show min (Int.toNat ((k : Nat) : Int)) 64 = k; omega
  rw [e, Int.fdiv_eq_ediv_of_nonneg x (Int.le_of_lt (Int.pow_pos (by omega)))]
theorem shr_lt {x : Int} (h0 : 0 ≤ x) (h1 : x < 9223372036854775808) (k : Nat) : 0 ≤ x / 2 ^ k ∧ x / 2 ^ k < 9223372036854775808 := by
  have hp : (0 : Int) < 2 ^ k := Int.pow_pos (by omega)
  exact ⟨Int.ediv_nonneg h0 (Int.le_of_lt hp), Int.lt_of_le_of_lt (Int.ediv_le_self _ h0) h1⟩
/-! powers modulo m -/
theorem emod_mul {a b c d m : Int} (h : a % m = b % m) (k : c % m = d % m) : (a * c) % m = (b * d) % m := by rw [Int.mul_emod, h, k, ← Int.mul_emod]
theorem emod_pow {a b m : Int} (h : a % m = b % m) : ∀ k : Nat, (a ^ k) % m = (b ^ k) % m
  | 0 => by rw [Int.pow_zero, Int.pow_zero]
  | k + 1 => by rw [Int.pow_succ, Int.pow_succ]; exact emod_mul (emod_pow h k) h
theorem rm_pos {x m : Int} (hx : 0 ≤ x) (hm : 1 < m) : rm x m = some (x % m) := by unfold rm; rw [if_neg (by omega), Int.tmod_eq_emod_of_nonneg hx]
theorem prod_in {a b m : Int} (ha : 0 ≤ a ∧ a < m) (hb : 0 ≤ b ∧ b < m) (hm : m ≤ 2147483648) : 0 ≤ a * b ∧ a * b ≤ 2147483648 * 2147483648 :=
  ⟨Int.mul_nonneg ha.1 hb.1, Int.mul_le_mul (by omega) (by omega) hb.1 (by omega)⟩
theorem emod_in (a : Int) {m : Int} (hm : 1 < m) : 0 ≤ a % m ∧ a % m < m := ⟨Int.emod_nonneg _ (by omega), Int.emod_lt_of_pos _ (by omega)⟩
theorem pow_one' (x : Int) : x ^ 1 = x := by rw [Int.pow_succ, Int.pow_zero, Int.one_mul]
theorem pow_half (x : Int) (n : Nat) : x ^ n = (x * x) ^ (n / 2) * x ^ (n % 2) := by
  have e : x * x = x ^ 2 := by rw [Int.pow_succ, Int.pow_succ, Int.pow_zero, Int.one_mul]
  rw [e, ← Int.pow_mul, ← Int.pow_add]
  congr 1; omega
theorem pow_loop (m : Int) (hm : 1 < m) (hm2 : m ≤ 2147483648) : ∀ (fu : Nat) (x n o : Int), 0 ≤ n → n < 2 ^ fu → fu ≤ 62 → 0 ≤ x ∧ x < m → 0 ≤ o ∧ o < m → ∃ x' n', Farepower.loop1 m (fu + 1) x n o = some (x', n', (o * x ^ n.toNat) % m)
  | 0, x, n, o, h0, h1, _, hx, ho => by
    have hn : n = 0 := by omega
    subst hn
    exact ⟨x, 0, by simp [Farepower.loop1, Int.emod_eq_of_lt ho.1 ho.2]⟩
  | fu + 1, x, n, o, h0, h1, hf, hx, ho => by
    have h1' : n < 2 * 2 ^ fu := by rw [Int.pow_succ] at h1; omega
    have hb : (2 : Int) ^ fu ≤ 2 ^ 61 := by
      have : (2 : Nat) ^ fu ≤ 2 ^ 61 := Nat.pow_le_pow_right (by omega) (by omega)
      exact_mod_cast this
    have hb2 : (2 : Int) ^ 61 = 2305843009213693952 := by decide
    rw [Farepower.loop1]
    by_cases hn : n > 0
    · have hxx := prod_in hx hx hm2
      have hox := prod_in ho hx hm2
      rw [bit_and1 h0 (by omega)]
      have hs : Int.fdiv n (2 ^ (min (Int.toNat 1) (IntKind.bits .i64))) = n / 2 := by have := shr_nat (x := n) h0 (k := 1) (by omega); simpa using this
      simp only [hn, decide_true, if_true, hs]
      rw [w64_id (x := x * x) (by omega), w64_id (x := o * x) (by omega), rm_pos hxx.1 hm, rm_pos hox.1 hm]
      simp only [Option.bind_some]
      have hnn : (n / 2).toNat = n.toNat / 2 := by omega
      by_cases hp : n % 2 = 1
      · have hpb : (n % 2 == 1) = true := by simpa using hp
        simp only [hpb, if_true, Option.bind_some]
        have hc := emod_in (x * o) hm
        have hc' := emod_in (x * x) hm
        have e0 : o * x = x * o := Int.mul_comm _ _
        obtain ⟨x', n', ih⟩ := pow_loop m hm hm2 fu (x * x % m) (n / 2) (o * x % m) (by omega) (by omega) (by omega) hc' (emod_in _ hm)
        refine ⟨x', n', ?_⟩
        rw [ih]
        have e1 : (o * x % m * (x * x % m) ^ (n / 2).toNat) % m = (o * x ^ n.toNat) % m := by
          have h2 : (o * x % m * (x * x % m) ^ (n / 2).toNat) % m = ((o * x) * (x * x) ^ (n / 2).toNat) % m := emod_mul (Int.emod_emod _ _) (emod_pow (Int.emod_emod _ _) _)
          rw [h2, pow_half x n.toNat, hnn]
          have h3 : n.toNat % 2 = 1 := by omega
          rw [h3, pow_one']
          congr 1
          rw [Int.mul_assoc, Int.mul_comm x]
        rw [e1]
      · have hpb : (n % 2 == 1) = false := by simpa using hp
        simp only [hpb, Bool.false_eq_true, if_false, Option.bind_some]
        obtain ⟨x', n', ih⟩ := pow_loop m hm hm2 fu (x * x % m) (n / 2) o (by omega) (by omega) (by omega) (emod_in _ hm) ho
        refine ⟨x', n', ?_⟩
        rw [ih]
        have e1 : (o * (x * x % m) ^ (n / 2).toNat) % m = (o * x ^ n.toNat) % m := by
          have h2 : (o * (x * x % m) ^ (n / 2).toNat) % m = (o * (x * x) ^ (n / 2).toNat) % m := emod_mul rfl (emod_pow (Int.emod_emod _ _) _)
          rw [h2, pow_half x n.toNat, hnn]
          have h3 : n.toNat % 2 = 0 := by omega
          rw [h3, Int.pow_zero, Int.mul_one]
        rw [e1]
    · have hn0 : n = 0 := by omega
      subst hn0
      exact ⟨x, 0, by simp [Int.emod_eq_of_lt ho.1 ho.2]⟩
theorem loop_more (m : Int) : ∀ (f g : Nat) (x n o : Int) (r : Int × Int × Int), f ≤ g → Farepower.loop1 m f x n o = some r → Farepower.loop1 m g x n o = some r
  | 0, _, _, _, _, _, _, h => by simp [Farepower.loop1] at h
  | f + 1, 0, _, _, _, _, hg, _ => absurd hg (by omega)
  | f + 1, g + 1, x, n, o, r, hg, h => by
    rw [Farepower.loop1] at h ⊢
    split at h
    · rename_i hc
      rw [if_pos hc]
      rw [Option.bind_eq_some_iff] at h ⊢
      obtain ⟨q, h1, h2⟩ := h
      refine ⟨q, h1, ?_⟩
      rw [Option.bind_eq_some_iff] at h2 ⊢
      obtain ⟨y, h3, h4⟩ := h2
      exact ⟨y, h3, loop_more m f g _ _ _ r (by omega) h4⟩
    · rename_i hc
      rw [if_neg hc]; exact h
theorem power_ok {fu : Nat} (hf : 63 ≤ fu) (x n m : Int) (hx : 0 ≤ x) (hn : 0 ≤ n) (hn2 : n ≤ 2147483648) (hm : 1 < m) (hm2 : m ≤ 2147483648) : Farepower fu x n m = some (x ^ n.toNat % m) := by
  unfold Farepower
  rw [rm_pos (by omega) hm, rm_pos hx hm]
  simp only [Option.bind_some]
  obtain ⟨x', n', h⟩ := pow_loop m hm hm2 62 (x % m) n (1 % m) hn (by rw [show (2 : Int) ^ 62 = 4611686018427387904 from by decide]; omega) (by omega) (emod_in _ hm) (emod_in _ hm)
  rw [loop_more m 63 fu _ _ _ _ hf h]
  simp only [Option.bind_some]
  congr 1
  have h2 : (1 % m * (x % m) ^ n.toNat) % m = (1 * x ^ n.toNat) % m := emod_mul (Int.emod_emod _ _) (emod_pow (Int.emod_emod _ _) _)
  rw [h2, Int.one_mul]
theorem powr_loop (x n m : Int) (hx : 0 ≤ x) (hn : 0 ≤ n) (hn2 : n ≤ 2147483648) (hm : 1 < m) (hm2 : m ≤ 2147483648) : ∀ (j fu : Nat), j ≤ 63 → j < fu → ∃ r, Fishref2powerOf.loop1 x n m fu (x ^ (n / 2 ^ j).toNat % m) ((j : Int) - 1) = some (x ^ n.toNat % m, r)
  | 0, fu + 1, _, _ => ⟨-1, by simp [Fishref2powerOf.loop1]⟩
  | _, 0, _, h => absurd h (by omega)
  | j + 1, fu + 1, hj, hf => by
    obtain ⟨r, ih⟩ := powr_loop x n m hx hn hn2 hm hm2 j fu (by omega) (by omega)
    refine ⟨r, ?_⟩
    have e : (((j + 1 : Nat) : Int) - 1) = ((j : Nat) : Int) := by omega
    rw [e, Fishref2powerOf.loop1]
    have hj0 : ((j : Nat) : Int) ≥ 0 := by omega
    have hnn : nn ((j : Nat) : Int) = some () := by unfold nn; rw [if_pos (by omega)]
    have ho := emod_in (x ^ (n / 2 ^ (j + 1)).toNat) hm
    have hoo := prod_in ho ho hm2
    have hq := shr_lt hn (by omega) j
    rw [w64_id (by omega), rm_pos hoo.1 hm, shr_nat hn (by omega), bit_and1 hq.1 hq.2]
    simp only [hj0, decide_true, if_true, Option.bind_some, hnn]
    rw [rm_pos hx hm]
    simp only [Option.bind_some]
    have hhalf : (n / 2 ^ (j + 1)).toNat = (n / 2 ^ j).toNat / 2 := by
      have : n / 2 ^ (j + 1) = n / 2 ^ j / 2 := by rw [Int.pow_succ, Int.ediv_ediv_of_nonneg (Int.le_of_lt (Int.pow_pos (by omega)))]
      rw [this]; omega
    have hw : w64 (((j : Nat) : Int) - 1) = ((j : Nat) : Int) - 1 := w64_id (by omega)
    generalize hY : (n / 2 ^ j) = y at *
    have hpw := pow_half x y.toNat
    by_cases hp : y % 2 = 1
    · have hpb : (y % 2 == 1) = true := by simpa using hp
      have hA := emod_in (x ^ (n / 2 ^ (j + 1)).toNat % m * (x ^ (n / 2 ^ (j + 1)).toNat % m)) hm
      have hAx := prod_in hA (emod_in x hm) hm2
      simp only [hpb, if_true]
      rw [w64_id (by omega), rm_pos hAx.1 hm]
      simp only [Option.bind_some, hw]
      rw [← ih]
      congr 1
      have h3 : y.toNat % 2 = 1 := by omega
      rw [hpw, h3, pow_one', hhalf]
      refine emod_mul ?_ (Int.emod_emod _ _)
      rw [Int.emod_emod, Int.mul_pow]
      exact emod_mul (Int.emod_emod _ _) (Int.emod_emod _ _)
    · have hpb : (y % 2 == 1) = false := by simpa using hp
      simp only [hpb, Bool.false_eq_true, if_false, Option.bind_some, hw]
      rw [← ih]
      congr 1
      have h3 : y.toNat % 2 = 0 := by omega
      rw [hpw, h3, Int.pow_zero, Int.mul_one, hhalf, Int.mul_pow]
      exact emod_mul (Int.emod_emod _ _) (Int.emod_emod _ _)
theorem powerOf_ok {fu : Nat} (hf : 64 ≤ fu) (x n m : Int) (hx : 0 ≤ x) (hn : 0 ≤ n) (hn2 : n ≤ 2147483648) (hm : 1 < m) (hm2 : m ≤ 2147483648) : Fishref2powerOf fu x n m = some (x ^ n.toNat % m) := by
  unfold Fishref2powerOf
  obtain ⟨r, h⟩ := powr_loop x n m hx hn hn2 hm hm2 63 fu (by omega) (by omega)
  have e : n / 2 ^ 63 = 0 := Int.ediv_eq_zero_of_lt hn (by rw [show (2 : Int) ^ 63 = 9223372036854775808 from by decide]; omega)
  rw [e] at h
  have h1 : x ^ (Int.toNat 0) % m = 1 := by show x ^ 0 % m = 1; rw [Int.pow_zero, Int.emod_eq_of_lt (by omega) hm]
  rw [h1] at h
  have h2 : (((63 : Nat) : Int) - 1) = 62 := by omega
  rw [h2] at h
  rw [h]; rfl
/-! the digest -/
theorem digest_loop (s : ByteArray) : ∀ (n k : Nat) (q : Int), Fishref2DigestOf.loop1 s n k q = FareDigest.loop1 s n k q
  | 0, _, _ => rfl
  | n + 1, k, q => by simp only [Fishref2DigestOf.loop1, FareDigest.loop1, digest_loop s n] <;> rfl
theorem sgx_in {s : ByteArray} {k : Nat} (h : k < s.size) : ∃ v : Int, sgx s ((k : Nat) : Int) = some v ∧ 0 ≤ v ∧ v ≤ 255 := by
  have hl : s.data.toList.length = s.size := by cases s; rfl
  refine ⟨((s.data.toList[k]'(by omega)).toNat : Int), ?_, by omega, ?_⟩
  · unfold sgx; rw [gx_at (by omega)]; rfl
  · have := (s.data.toList[k]'(by omega)).toNat_lt; omega
theorem digest_tot (s : ByteArray) : ∀ (n k : Nat) (q : Int), k + n = s.size → 0 ≤ q → q ≤ 999983 → ∃ z, FareDigest.loop1 s n k q = some z ∧ 0 ≤ z ∧ z ≤ 999983
  | 0, k, q, _, h0, h1 => ⟨q, rfl, h0, h1⟩
  | n + 1, k, q, hk, h0, h1 => by
    obtain ⟨v, e, v0, v1⟩ := sgx_in (s := s) (k := k) (by omega)
    rw [FareDigest.loop1, e, Option.bind_some]
    rw [w64_id (x := q * 257) (by omega), w64_id (x := v) (by omega), w64_id (x := q * 257 + v) (by omega), w64_id (by omega), Int.tmod_eq_emod_of_nonneg (by omega)]
    exact digest_tot s n (k + 1) _ (by omega) (by omega) (by omega)
theorem digest_ok (s : ByteArray) (hs : s.size ≤ 9223372036854775807) : ∃ z, FareDigest s = some z ∧ Fishref2DigestOf s = some z ∧ 0 ≤ z ∧ z ≤ 999983 := by
  obtain ⟨z, h, h0, h1⟩ := digest_tot s s.size 0 1 (by omega) (by omega) (by omega)
  have e : szok s = some () := by unfold szok; rw [if_pos hs]
  refine ⟨z, ?_, ?_, h0, h1⟩
  · unfold FareDigest; rw [e]; simp only [Option.bind_some, h]
  · unfold Fishref2DigestOf; rw [e]; simp only [Option.bind_some, digest_loop, h]
theorem key_ref2 (k : FareKey) (b : Bool) : Fishref2KeyFault k b = FareKeycheck k b := rfl
theorem within_iff (x a b : Int) : Farewithin x a b = decide (a ≤ x ∧ x ≤ b) := by
  unfold Farewithin bnd
  by_cases h1 : a ≤ x <;> by_cases h2 : x ≤ b <;> simp [h1, h2]
theorem key_in {k : FareKey} {b : Bool} (h : FareKeycheck k b = 0) : 1018081 ≤ k.N ∧ k.N ≤ 1072497001 ∧ 3 ≤ k.E ∧ k.E ≤ 32749 ∧ (b = true → 1 ≤ k.D ∧ k.D ≤ k.N - 1) := by
  unfold FareKeycheck at h
  simp only [bnd_eq, within_iff] at h
  by_cases h1 : 1018081 ≤ k.N ∧ k.N ≤ 1072497001
  · by_cases h2 : 3 ≤ k.E ∧ k.E ≤ 32749
    · refine ⟨h1.1, h1.2, h2.1, h2.2, fun hb => ?_⟩
      subst hb
      rw [w64_id (by omega)] at h
      by_cases h3 : 1 ≤ k.D ∧ k.D ≤ k.N - 1
      · exact h3
      · simp [h1, h2, h3] at h
    · simp [h1, h2] at h
  · simp [h1] at h
theorem verify_ok {fu : Nat} (hf : 64 ≤ fu) (k : FareKey) (s : ByteArray) (hs : s.size ≤ 9223372036854775807) (sg : Int) (h : FareKeycheck k false = 0) : ∃ z, FareVerify fu k s sg = some (z, 0) ∧ Fishref2VerifyOf fu k s sg = some z := by
  obtain ⟨z, d1, d2, d3, d4⟩ := digest_ok s hs
  obtain ⟨k1, k2, k3, k4, _⟩ := key_in h
  unfold FareVerify Fishref2VerifyOf
  rw [h, d1, d2, w64_id (by omega), within_iff]
  by_cases h1 : 0 ≤ sg
  · by_cases h2 : sg ≤ k.N - 1
    · have h3 : sg < k.N := by omega
      have p1 := power_ok (fu := fu) (by omega) sg k.E k.N h1 (by omega) (by omega) (by omega) (by omega)
      have p2 := powerOf_ok (fu := fu) (by omega) sg k.E k.N h1 (by omega) (by omega) (by omega) (by omega)
      simp [h1, h2, h3, p1, p2]
    · have h3 : ¬ sg < k.N := by omega
      simp [h1, h2, h3]
  · simp [h1]
/-! texts of numbers -/
/-- a number's text -/
def tx (n : Int) : ByteArray := ⟨(Lib.itoa n).toArray⟩
theorem itoa_tx {n : Int} (h : -9223372036854775808 ≤ n ∧ n ≤ 9223372036854775807) : itoa n = some (tx n) := by unfold itoa; rw [if_pos h]; rfl
theorem tx_size {n : Int} (h : -9223372036854775808 ≤ n ∧ n ≤ 9223372036854775807) : (tx n).size ≤ 21 := by
  have := Lib.itoa_length_le n h.1 h.2
  unfold tx
  show ((Lib.itoa n).toArray).size ≤ 21
  simpa using this
theorem scat_in {a b : ByteArray} (h : a.size + b.size ≤ 9223372036854775807) : scat a b = some (a ++ b) := by unfold scat; rw [if_pos h]
theorem sbw_in {y x : ByteArray} (h0 : 0 < x.size) (h : y.size + x.size < 4294967296) : sbw y x = some (y ++ x) := by unfold sbw; rw [if_pos ⟨h0, h⟩]
/-! the check of a ticket -/
theorem within_ref (x a b : Int) : Fishref2within x a b = Farewithin x a b := rfl

theorem tick_loop (t : FareTicket) : ∀ (r : List Int) (k : Nat), Fishref2TicketFault.loop1 t r k = FarecheckZones.loop1 t.Zones true r k
  | [], _ => rfl
  | x :: r, k => by
    simp only [Fishref2TicketFault.loop1, FarecheckZones.loop1, within_ref, tick_loop t r]
    generalize gx t.Zones (w64 (((k : Nat) : Int) - 1)) = g
    have e : (if decide (((k : Nat) : Int) > 0) = true then (g.bind fun y => some (decide (x ≤ y))) else some false) = (if decide (((k : Nat) : Int) > 0) = true then (g.bind fun y => if (x == y) = true then some true else if True then (g.bind fun z => some (decide (x < z))) else some false) else some false) := by
      cases g with
      | none => rfl
      | some y =>
        simp only [Option.bind_some, if_true]
        by_cases h : x = y
        · subst h; simp
        · have e1 : (x == y) = false := by simpa using h
          have e2 : decide (x ≤ y) = decide (x < y) := by
            by_cases h2 : x < y
            · have : x ≤ y := by omega
              simp [h2, this]
            · have : ¬ x ≤ y := by omega
              simp [h2, this]
          simp [e1, e2]
    rw [e]
theorem zones_tot (l : List Int) (b : Bool) (hl : l.length ≤ 9223372036854775807) : ∀ (r : List Int) (k : Nat), l.drop k = r → Tot (FarecheckZones.loop1 l b r k)
  | [], _, _ => .some _
  | x :: r, k, hd => by
    obtain ⟨d1, d2, d3⟩ := drop_cons hd
    rw [FarecheckZones.loop1]
    refine .ite (fun _ => .some _) fun _ => .bind (.ite (fun h => ?_) fun _ => .some _) fun _ _ => .ite (fun _ => .some _) fun _ => zones_tot l b hl r (k + 1) d3
    have hk : 0 < k := by have := of_decide_eq_true h; omega
    have hp := gx_prev (l := l) hk (by omega) hl
    exact .bind1 hp (.ite (fun _ => .some _) fun _ => .ite (fun _ => .bind1 hp (.some _)) fun _ => .some _)
theorem zones_in (l : List Int) (b : Bool) : ∀ (r : List Int) (k : Nat) (o : Out Int Unit), FarecheckZones.loop1 l b r k = some o → (∃ v, o = .ret v ∧ v ≠ 0) ∨ (o = .next () ∧ ∀ x ∈ r, 0 ≤ x ∧ x ≤ 19)
  | [], k, o, h => by rw [FarecheckZones.loop1] at h; cases h; exact .inr ⟨rfl, by intro x hx; cases hx⟩
  | x :: r, k, o, h => by
    rw [FarecheckZones.loop1] at h
    by_cases c : (!Farewithin x 0 19) = true
    · rw [if_pos c] at h; cases h; exact .inl ⟨2, rfl, by decide⟩
    · rw [if_neg c] at h
      obtain ⟨q, _, h2⟩ := bindS h
      cases q with
      | true => simp at h2; subst h2; exact .inl ⟨1, rfl, by decide⟩
      | false =>
        simp only [Bool.false_eq_true, if_false] at h2
        rcases zones_in l b r (k + 1) o h2 with h3 | ⟨h3, h4⟩
        · exact .inl h3
        · refine .inr ⟨h3, ?_⟩
          intro y hy
          rcases List.mem_cons.1 hy with rfl | hy
          · rw [within_iff] at c; simpa using c
          · exact h4 y hy

theorem tick_ref (t : FareTicket) (hl : t.Zones.length ≤ 9223372036854775807) : ∃ e, FareTicketcheck t = some e ∧ Fishref2TicketFault t = some e ∧
    (e = 0 → (0 ≤ t.No ∧ t.No ≤ 999999) ∧ (0 ≤ t.Day ∧ t.Day ≤ 6) ∧ (0 ≤ t.Start ∧ t.Start ≤ 28800) ∧ (0 ≤ t.End ∧ t.End ≤ 28800) ∧ (0 ≤ t.Price ∧ t.Price ≤ 100000) ∧ t.Zones.length ≤ 10 ∧ ∀ x ∈ t.Zones, 0 ≤ x ∧ x ≤ 19) := by
  unfold FareTicketcheck Fishref2TicketFault FarecheckZones
  simp only [within_ref, tick_loop, bnd_eq, within_iff]
  obtain ⟨o, ho⟩ := zones_tot t.Zones true hl t.Zones 0 rfl
  have hz := zones_in t.Zones true t.Zones 0 o ho
  rw [ho]
  by_cases c1 : (0 ≤ t.No ∧ t.No ≤ 999999)
  rotate_left
  · exact ⟨2, by simp [c1], by simp [c1], by intro h; cases h⟩
  by_cases c2 : (0 ≤ t.Day ∧ t.Day ≤ 6)
  rotate_left
  · exact ⟨2, by simp [c1, c2], by simp [c1, c2], by intro h; cases h⟩
  by_cases c3 : (0 ≤ t.Start ∧ t.Start ≤ 28800)
  rotate_left
  · exact ⟨2, by simp [c1, c2, c3], by simp [c1, c2, c3], by intro h; cases h⟩
  by_cases c4 : (0 ≤ t.End ∧ t.End ≤ 28800)
  rotate_left
  · exact ⟨2, by simp [c1, c2, c3, c4], by simp [c1, c2, c3, c4], by intro h; cases h⟩
  by_cases c5 : (0 ≤ t.Price ∧ t.Price ≤ 100000)
  rotate_left
  · exact ⟨2, by simp [c1, c2, c3, c4, c5], by simp [c1, c2, c3, c4, c5], by intro h; cases h⟩
  · by_cases c6 : t.End < t.Start
    · exact ⟨13, by simp [c1, c2, c3, c4, c5, c6], by simp [c1, c2, c3, c4, c5, c6], by intro h; cases h⟩
    · by_cases c7 : (1 ≤ (t.Zones.length : Int) ∧ (t.Zones.length : Int) ≤ 10)
      · cases o with
        | ret v =>
          refine ⟨v, by simp [c1, c2, c3, c4, c5, c6, c7], by simp [c1, c2, c3, c4, c5, c6, c7], ?_⟩
          intro h
          rcases hz with ⟨u, hu, hu0⟩ | ⟨hu, _⟩
          · cases hu; exact absurd h hu0
          · cases hu
        | next u =>
          refine ⟨0, by simp [c1, c2, c3, c4, c5, c6, c7], by simp [c1, c2, c3, c4, c5, c6, c7], ?_⟩
          intro _
          rcases hz with ⟨u, hu, _⟩ | ⟨_, hz⟩
          · cases hu
          · exact ⟨c1, c2, c3, c4, c5, by omega, hz⟩
      · exact ⟨4, by simp [c1, c2, c3, c4, c5, c6, c7], by simp [c1, c2, c3, c4, c5, c6, c7], by intro h; cases h⟩

/-! a text as its pieces between a byte -/
theorem seq_iff (x y : ByteArray) : seq x y = true ↔ x.data.toList = y.data.toList := by unfold seq; exact beq_iff_eq
theorem ba_ext {x y : ByteArray} (h : x.data.toList = y.data.toList) : x = y := by
  cases x; cases y
  simp at h
  subst h
  rfl
theorem ba_size (x : ByteArray) : x.size = x.data.toList.length := by rw [Array.length_toList]; rfl
theorem cut_list (s : ByteArray) (a b : Nat) : (s.extract a b).data.toList = (s.data.toList.take b).drop a := by
  simp [ByteArray.data_extract, List.drop_take]
def jn (c : UInt8) : List (List UInt8) → List UInt8
  | [] => []
  | [a] => a
  | a :: b :: r => a ++ c :: jn c (b :: r)
theorem index_no (c : UInt8) : ∀ a : List UInt8, c ∉ a → Lib.index a [c] = -1
  | [], _ => rfl
  | b :: a, h => by
    have hb : ¬ c = b := fun e => h (by simp [e])
    have hp : ([c] : List UInt8).isPrefixOf (b :: a) = false := by simp [List.isPrefixOf, hb]
    rw [Lib.index, hp, index_no c a (fun m => h (by simp [m]))]
    rfl
theorem index_at (c : UInt8) (r : List UInt8) : ∀ a : List UInt8, c ∉ a → Lib.index (a ++ c :: r) [c] = (a.length : Int)
  | [], _ => by
    have hp : ([c] : List UInt8).isPrefixOf (c :: r) = true := by simp [List.isPrefixOf]
    rw [List.nil_append, Lib.index, hp]; rfl
  | b :: a, h => by
    have hb : ¬ c = b := fun e => h (by simp [e])
    have hp : ([c] : List UInt8).isPrefixOf (b :: (a ++ c :: r)) = false := by simp [List.isPrefixOf, hb]
    rw [List.cons_append, Lib.index, hp, index_at c r a (fun m => h (by simp [m]))]
    rw [if_neg (by decide), if_neg (by rw [beq_iff_eq]; omega)]
    simp
theorem split_jn (c : UInt8) : ∀ (P : List (List UInt8)) (s : ByteArray), P ≠ [] → (∀ a ∈ P, c ∉ a) → s.data.toList = jn c P → Lib.countB s (str [c]) + 1 = P.length ∧ Lib.splitB (str [c]) 0 (Lib.countB s (str [c])) s = P.map str
  | [], _, h, _, _ => absurd rfl h
  | [a], s, _, hc, hs => by
    have hi : Lib.indexB s (str [c]) = -1 := by
      unfold Lib.indexB
      rw [hs]
      exact index_no c a (hc a (by simp))
    rw [Lib.countB_miss s _ hi]
    refine ⟨rfl, ?_⟩
    rw [Lib.splitB_zero, List.map_cons, List.map_nil]
    congr 1
    exact ba_ext (by rw [hs]; rfl)
  | a :: b :: r, s, _, hc, hs => by
    have hi : Lib.indexB s (str [c]) = ((a.length : Nat) : Int) := by
      unfold Lib.indexB
      rw [hs]
      exact index_at c _ a (hc a (by simp))
    have h1 : (str [c]).size = 1 := rfl
    have hx : (s.extract (a.length + 1) s.size).data.toList = jn c (b :: r) := by
      rw [cut_list, List.take_of_length_le (by rw [← ba_size]; exact Nat.le_refl _), hs]
      show (a ++ c :: jn c (b :: r)).drop (a.length + 1) = _
      rw [← List.drop_drop, List.drop_left]
      rfl
    obtain ⟨k1, k2⟩ := split_jn c (b :: r) (s.extract (a.length + 1) s.size) (by simp) (fun x hx => hc x (by simp [List.mem_cons] at hx ⊢; exact .inr hx)) hx
    have hcnt : Lib.countB s (str [c]) = Lib.countB (s.extract (a.length + 1) s.size) (str [c]) + 1 := by
      rw [Lib.countB_hit s (str [c]) a.length (by rw [h1]; decide) hi, h1]; omega
    refine ⟨by rw [hcnt, k1]; rfl, ?_⟩
    rw [hcnt, Lib.splitB_hit (str [c]) 0 _ s a.length hi, h1, k2, List.map_cons, Nat.add_zero]
    congr 1
    refine ba_ext ?_
    rw [cut_list, hs, List.drop_zero]
    show (a ++ c :: jn c (b :: r)).take a.length = a
    rw [List.take_left]
theorem splitq_jn (c : UInt8) (P : List (List UInt8)) (s : ByteArray) (h0 : P ≠ []) (hc : ∀ a ∈ P, c ∉ a) (hs : s.data.toList = jn c P) (hz : s.size ≤ 30000) : splitq s (str [c]) = some (P.map str) := by
  unfold splitq
  rw [if_pos ⟨by omega, (by decide : 1 ≤ 1)⟩, (split_jn c P s h0 hc hs).2]

def pcs (c : UInt8) : List UInt8 → List (List UInt8)
  | [] => [[]]
  | b :: l => if b = c then [] :: pcs c l else match pcs c l with | [] => [[b]] | a :: r => (b :: a) :: r
theorem pcs_ne (c : UInt8) : ∀ l, pcs c l ≠ []
  | [] => by simp [pcs]
  | b :: l => by
    rw [pcs]
    split
    · simp
    · split <;> simp
theorem jn_pcs (c : UInt8) : ∀ l, jn c (pcs c l) = l
  | [] => rfl
  | b :: l => by
    have ih := jn_pcs c l
    rw [pcs]
    split
    · rename_i h
      subst h
      cases h : pcs b l with
      | nil => exact absurd h (pcs_ne b l)
      | cons a r => rw [h] at ih; rw [jn, ih]; rfl
    · cases h : pcs c l with
      | nil => exact absurd h (pcs_ne c l)
      | cons a r =>
        rw [h] at ih
        cases r with
        | nil => simp only [jn] at ih ⊢; rw [ih]
        | cons a2 r => simp only [jn] at ih ⊢; rw [← ih]; rfl
theorem pcs_no (c : UInt8) : ∀ l, ∀ a ∈ pcs c l, c ∉ a
  | [], a, h => by simp [pcs] at h; subst h; simp
  | b :: l, a, h => by
    have ih := pcs_no c l
    rw [pcs] at h
    split at h
    · rcases List.mem_cons.1 h with rfl | h
      · simp
      · exact ih a h
    · rename_i hb
      cases hp : pcs c l with
      | nil => exact absurd hp (pcs_ne c l)
      | cons x r =>
        rw [hp] at h ih
        rcases List.mem_cons.1 h with rfl | h
        · intro m
          rcases List.mem_cons.1 m with e | m
          · exact hb e.symm
          · exact ih x (by simp) m
        · exact ih a (by simp [h])
theorem jn_last (c : UInt8) (a : List UInt8) : ∀ P : List (List UInt8), P ≠ [] → ∃ pre, jn c (P ++ [a]) = pre ++ c :: a
  | [], h => absurd rfl h
  | [x], _ => ⟨x, rfl⟩
  | x :: y :: r, _ => by
    obtain ⟨pre, h⟩ := jn_last c a (y :: r) (by simp)
    refine ⟨x ++ c :: pre, ?_⟩
    rw [List.cons_append] at h
    simp only [List.cons_append, jn]
    rw [h]
    simp
theorem split_pcs (c : UInt8) (s : ByteArray) (hz : s.size ≤ 30000) : splitq s (str [c]) = some ((pcs c s.data.toList).map str) := splitq_jn c _ s (pcs_ne c _) (pcs_no c _) (jn_pcs c _).symm hz
theorem pcs_len (c : UInt8) : ∀ l, (pcs c l).length ≤ l.length + 1
  | [] => by simp [pcs]
  | b :: l => by
    have ih := pcs_len c l
    rw [pcs]
    split
    · simp; omega
    · split
      · simp
      · rename_i h; rw [h] at ih; simp at ih ⊢; omega
theorem pcs_small (c : UInt8) : ∀ l, ∀ a ∈ pcs c l, a.length ≤ l.length
  | [], a, h => by simp [pcs] at h; subst h; simp
  | b :: l, a, h => by
    have ih := pcs_small c l
    rw [pcs] at h
    split at h
    · rcases List.mem_cons.1 h with rfl | h
      · simp
      · have := ih a h; simp; omega
    · cases hp : pcs c l with
      | nil => exact absurd hp (pcs_ne c l)
      | cons x r =>
        rw [hp] at h ih
        rcases List.mem_cons.1 h with rfl | h
        · have := ih x (by simp); simp; omega
        · have := ih a (by simp [h]); simp; omega
/-! a ticket's text -/
theorem gx_get {α : Type} {l : List α} {k : Nat} {x : α} (h : l[k]? = some x) : gx l (k : Int) = some x := by rw [gx_nat, h]
/-- what a word is as a number -/
def NP (w : ByteArray) (o : Option Int) : Prop := Farenumber w = some o ∧ ∃ v, Fishref2plain w = some (v, o.isSome) ∧ ∀ u, o = some u → u = v
theorem num_plain (w : ByteArray) (hw : w.size ≤ 30000) : ∃ o, NP w o := by
  obtain ⟨v, ok, ha⟩ : ∃ v ok, atoiq w = some (v, ok) := by
    unfold atoiq
    rw [if_pos (by omega)]
    exact ⟨_, _, rfl⟩
  have hat : ok = true → Lib.atoiAll w.data.toList = .ok v := by
    intro h
    unfold atoiq at ha
    rw [if_pos (by omega)] at ha
    injection ha with ha
    cases hh : Lib.atoiAll w.data.toList with
    | ok u => rw [hh] at ha; injection ha with h1 h2; rw [h1]
    | range => rw [hh] at ha; injection ha with h1 h2; rw [h] at h2; cases h2
    | _ => rw [hh] at ha; injection ha with h1 h2; rw [h] at h2; cases h2
  unfold NP Farenumber Fishref2plain
  rw [ha]
  cases ok with
  | false => exact ⟨none, rfl, v, rfl, fun u h => by cases h⟩
  | true =>
    have hv := Lib.atoiAll_bounds (hat rfl)
    by_cases c : v < 0
    · refine ⟨none, ?_, v, ?_, fun u h => by cases h⟩
      · simp [c]
      · have : ¬ v ≥ 0 := by omega
        simp [this]
    · have c2 : v ≥ 0 := by omega
      have hi := itoa_tx hv
      cases hs : seq (tx v) w with
      | true => exact ⟨some v, by simp [c, hi, hs], v, by simp [c2, hi, hs], fun u h => (Option.some.inj h).symm⟩
      | false => exact ⟨none, by simp [c, hi, hs], v, by simp [c2, hi, hs], fun u h => by cases h⟩
theorem loop_open : ∀ (ws : List ByteArray) (acc : List Int), (∀ w ∈ ws, w.size ≤ 30000) → acc.length + ws.length < 100000 →
    (∃ ns : List Int, ns.length = ws.length ∧ Fareopen.loop1 ws acc = some (.next (acc ++ ns)) ∧ ∀ k (h : k < ws.length), ∃ u, ns[k]? = some u ∧ NP ws[k] (some u)) ∨
    (∃ l, Fareopen.loop1 ws acc = some (.ret (l, 0, false)) ∧ ∃ k, ∃ h : k < ws.length, NP ws[k] none ∧ ∀ j (h : j < k), ∃ u, NP (ws[j]'(by omega)) (some u))
  | [], acc, _, _ => .inl ⟨[], rfl, by simp [Fareopen.loop1], fun k h => absurd h (by simp)⟩
  | w :: ws, acc, hs, hl => by
    simp only [List.length_cons] at hl
    obtain ⟨o, ho⟩ := num_plain w (hs w (by simp))
    cases o with
    | none => exact .inr ⟨acc, by rw [Fareopen.loop1, ho.1]; rfl, 0, by simp, ho, fun j h => absurd h (by omega)⟩
    | some u =>
      have e : Fareopen.loop1 (w :: ws) acc = Fareopen.loop1 ws (acc ++ [u]) := by
        rw [Fareopen.loop1, ho.1, Option.bind_some]
        dsimp only
        rw [apd_lt (by simp; omega), Option.bind_some]
      rw [e]
      rcases loop_open ws (acc ++ [u]) (fun x hx => hs x (by simp [hx])) (by simp; omega) with ⟨ns, k1, k2, k3⟩ | ⟨l, k1, k, hk, k2, k3⟩
      · refine .inl ⟨u :: ns, by simp [k1], by rw [k2]; simp, fun k h => ?_⟩
        cases k with
        | zero => exact ⟨u, rfl, ho⟩
        | succ k => obtain ⟨v, h1, h2⟩ := k3 k (by simpa using h); exact ⟨v, by simpa using h1, by simpa using h2⟩
      · refine .inr ⟨l, k1, k + 1, by simp; omega, by simpa using k2, fun j h => ?_⟩
        cases j with
        | zero => exact ⟨u, ho⟩
        | succ j => obtain ⟨v, h1⟩ := k3 j (by omega); exact ⟨v, by simpa using h1⟩
/-- the document's loop over the words in between -/
theorem ref_mid {L : List ByteArray} {a b c d e : Int} {z : List Int} (hL : L.length < 100000) : ∀ (ws : List ByteArray) (ns : List Int) (m k : Nat) (acc : List Int), (L.drop k).take ws.length = ws → 1 ≤ k → k + ws.length + 2 ≤ L.length → ns.length = ws.length → acc.length ≤ k →
    (∀ j (h : j < ws.length), ∃ u, ns[j]? = some u ∧ NP ws[j] (some u)) → Fishref2OpenOf.loop1 L (ws.length + m) k acc a b c d e z = Fishref2OpenOf.loop1 L m (k + ws.length) (acc ++ ns) a b c d e z
  | [], ns, m, k, acc, _, _, _, hn, _, _ => by
    obtain rfl := List.eq_nil_of_length_eq_zero hn
    simp
  | w :: ws, ns, m, k, acc, hd, hk, hl, hn, ha, hj => by
    obtain ⟨u, hu, h0⟩ := hj 0 (by simp)
    cases ns with
    | nil => simp at hu
    | cons u' ns =>
      simp at hu
      subst hu
      simp only [List.length_cons] at hl hn hd
      have hlt : k < L.length := by omega
      rw [List.drop_eq_getElem_cons hlt, List.take_succ_cons] at hd
      injection hd with hd1 hd2
      obtain ⟨v, h1, h2⟩ := h0.2
      obtain rfl := h2 u' rfl
      rw [List.length_cons, show ws.length + 1 + m = (ws.length + m) + 1 by omega, Fishref2OpenOf.loop1, gx_at hlt, hd1, Option.bind_some]
      have e1 : (((k : Nat) : Int) == 0) = false := by simp; omega
      have e2 : (((k : Nat) : Int) == w64 (((L.length : Nat) : Int) - 2)) = false := by
        rw [w64_id (by omega)]; simp; omega
      rw [e1, e2]
      simp only [bnd_eq, Bool.false_eq_true, if_false]
      have h0 : Fishref2plain w = some (u', true) := h1
      rw [h0, Option.bind_some]
      simp only [Bool.not_true, Bool.false_eq_true, if_false]
      rw [apd_lt (by simp; omega), Option.bind_some, ref_mid hL ws ns m (k + 1) (acc ++ [u']) hd2 (by omega) (by omega) (by omega) (by simp; omega) (fun j h => by
        have := hj (j + 1) (by simp; omega)
        simpa using this)]
      rw [show k + 1 + ws.length = k + (ws.length + 1) by omega]
      simp
/-- a word that is no number -/
theorem ref_bad {L : List ByteArray} {a b c d e : Int} {z : List Int} {m k : Nat} {acc : List Int} {w : ByteArray} (hw : L[k]? = some w) (hk : 1 ≤ k) (h2 : k + 2 ≠ L.length) (hL : L.length < 100000) (hn : NP w none) :
    Fishref2OpenOf.loop1 L (m + 1) k acc a b c d e z = some (.ret (FareTicket.mk 0 0 0 0 0 [], 10)) := by
  obtain ⟨v, h1, _⟩ := hn.2
  have hlt : k < L.length := (List.getElem?_eq_some_iff.1 hw).1
  rw [Fishref2OpenOf.loop1, gx_get hw, Option.bind_some]
  have e1 : (((k : Nat) : Int) == 0) = false := by simp; omega
  have e2 : (((k : Nat) : Int) == w64 (((L.length : Nat) : Int) - 2)) = false := by
    rw [w64_id (by omega)]; simp; omega
  rw [e1, e2]
  simp only [bnd_eq, Bool.false_eq_true, if_false]
  have h0 : Fishref2plain w = some (v, false) := h1
  rw [h0]
  rfl
theorem ref_skip {L : List ByteArray} {a b c d e : Int} {z : List Int} {m k : Nat} {acc : List Int} (hlt : k < L.length) (h2 : k = 0 ∨ k + 2 = L.length) (hL : L.length < 100000) :
    Fishref2OpenOf.loop1 L (m + 1) k acc a b c d e z = Fishref2OpenOf.loop1 L m (k + 1) acc a b c d e z := by
  rw [Fishref2OpenOf.loop1, gx_at hlt, Option.bind_some]
  rcases h2 with rfl | h2
  · simp [bnd_eq]
  · have e2 : (((k : Nat) : Int) == w64 (((L.length : Nat) : Int) - 2)) = true := by
      rw [w64_id (by omega)]; simp; omega
    rw [e2]
    simp [bnd_eq]
theorem ref_one {L : List ByteArray} {a b c d e : Int} {z : List Int} {m k : Nat} {acc : List Int} {w : ByteArray} {u : Int} (hw : L[k]? = some w) (hk : 1 ≤ k) (h2 : k + 2 ≠ L.length) (hL : L.length < 100000) (ha : acc.length < 100000) (hn : NP w (some u)) :
    Fishref2OpenOf.loop1 L (m + 1) k acc a b c d e z = Fishref2OpenOf.loop1 L m (k + 1) (acc ++ [u]) a b c d e z := by
  obtain ⟨v, h1, h3⟩ := hn.2
  obtain rfl := h3 u rfl
  have hlt : k < L.length := (List.getElem?_eq_some_iff.1 hw).1
  rw [Fishref2OpenOf.loop1, gx_get hw, Option.bind_some]
  have e1 : (((k : Nat) : Int) == 0) = false := by simp; omega
  have e2 : (((k : Nat) : Int) == w64 (((L.length : Nat) : Int) - 2)) = false := by
    rw [w64_id (by omega)]; simp; omega
  rw [e1, e2]
  simp only [bnd_eq, Bool.false_eq_true, if_false]
  have h0 : Fishref2plain w = some (u, true) := h1
  rw [h0, Option.bind_some]
  simp only [Bool.not_true, Bool.false_eq_true, if_false]
  rw [apd_lt (by simp; omega), Option.bind_some]
theorem cutq (s : ByteArray) (hs : s.size ≤ 30000) : ∃ body is, StringsCutSuffix s (str [10]) = some (body, is) ∧ body.size ≤ s.size ∧ (is = true → s.data.toList = body.data.toList ++ [10]) := by
  unfold StringsCutSuffix InternalStringsliteCutSuffix InternalStringsliteHasSuffix
  have h1 : (str [10]).size = 1 := rfl
  rw [h1]
  by_cases c : 1 ≤ s.size
  · have e0 : decide (((s.size : Nat) : Int) ≥ ((1 : Nat) : Int)) = true := by simp; omega
    have ew : w64 (((s.size : Nat) : Int) - ((1 : Nat) : Int)) = ((s.size - 1 : Nat) : Int) := by rw [w64_id (by omega)]; omega
    rw [e0, ew, if_pos rfl]
    have e1 : scut s ((s.size - 1 : Nat) : Int) ((s.size : Nat) : Int) = some (s.extract (s.size - 1) s.size) := by
      unfold scut; rw [if_pos (by omega)]; simp
    have e2 : scut s 0 ((s.size - 1 : Nat) : Int) = some (s.extract 0 (s.size - 1)) := by
      unfold scut; rw [if_pos (by omega)]; simp
    rw [e1, Option.bind_some, Option.bind_some, Option.bind_some, e2]
    cases hq : seq (s.extract (s.size - 1) s.size) (str [10]) with
    | false => exact ⟨s, false, rfl, Nat.le_refl _, fun h => by cases h⟩
    | true =>
      refine ⟨_, true, rfl, ?_, fun _ => ?_⟩
      · rw [ba_size, cut_list, ba_size]; simp
      · have h := (seq_iff _ _).1 hq
        rw [cut_list, List.take_of_length_le (by rw [ba_size]; exact Nat.le_refl _)] at h
        rw [cut_list, List.drop_zero]
        have h2 : (str [10]).data.toList = [10] := rfl
        rw [h2] at h
        rw [← h, List.take_append_drop]
  · have e0 : decide (((s.size : Nat) : Int) ≥ ((1 : Nat) : Int)) = false := by simp; omega
    rw [e0, if_neg (by decide)]
    exact ⟨s, false, rfl, Nat.le_refl _, fun h => by cases h⟩
theorem sgx_of {s : ByteArray} {k : Nat} {b : UInt8} (h : s.data.toList[k]? = some b) : sgx s (k : Int) = some (b.toNat : Int) := by unfold sgx; rw [gx_nat, h]; rfl
theorem lastix {s : ByteArray} {pre b : List UInt8} (hs : s.data.toList = pre ++ 32 :: b) (hb : (32 : UInt8) ∉ b) (hz : s.size ≤ 30000) : ∀ (d fu : Nat), d ≤ b.length → d < fu →
    InternalBytealgLastIndexByteString.loop1 s 32 fu ((pre.length + d : Nat) : Int) = some (.ret ((pre.length : Nat) : Int))
  | _, 0, _, h => absurd h (by omega)
  | 0, fu + 1, _, _ => by
    have hg : s.data.toList[pre.length + 0]? = some 32 := by rw [hs]; simp
    rw [InternalBytealgLastIndexByteString.loop1, if_pos (by simp), sgx_of hg]
    rfl
  | d + 1, fu + 1, hd, hf => by
    have hl : s.size = pre.length + 1 + b.length := by rw [ba_size, hs]; simp; omega
    have hdb : d < b.length := by omega
    have hg : s.data.toList[pre.length + (d + 1)]? = some b[d] := by rw [hs, List.getElem?_append_right (by omega)]; simp [hdb]
    rw [InternalBytealgLastIndexByteString.loop1, if_pos (by simp; omega), sgx_of hg, Option.bind_some]
    have hne : ¬ (((b[d].toNat : Nat) : Int) == 32) = true := by
      intro h
      have h := eq_of_beq h
      have : b[d] = 32 := UInt8.toNat_inj.1 (by show b[d].toNat = 32; omega)
      exact hb (by rw [← this]; exact List.getElem_mem hdb)
    rw [if_neg hne, w64_id (by omega), show ((pre.length + (d + 1) : Nat) : Int) - 1 = ((pre.length + d : Nat) : Int) by omega]
    exact lastix hs hb hz d fu (by omega) (by omega)
theorem last_ok {s : ByteArray} {pre b : List UInt8} (hs : s.data.toList = pre ++ 32 :: b) (hb : (32 : UInt8) ∉ b) (hz : s.size ≤ 30000) {fu : Nat} (hf : b.length < fu) : StringsLastIndexByte fu s 32 = some ((pre.length : Nat) : Int) := by
  have hl : s.size = pre.length + 1 + b.length := by rw [ba_size, hs]; simp; omega
  unfold StringsLastIndexByte InternalBytealgLastIndexByteString
  rw [w64_id (by omega), show ((s.size : Nat) : Int) - 1 = ((pre.length + b.length : Nat) : Int) by omega, lastix hs hb hz b.length fu (Nat.le_refl _) hf]
  rfl
theorem open_ok (x0 : FareKey) (x1 : ByteArray) : ∃ t e, FareOpen (1000 + 60) x0 x1 = some (t, e) ∧ Fishref2OpenOf (1000 + 60) x0 x1 = some (t, e) := by
  unfold FareOpen Fishref2OpenOf
  rw [key_ref2]
  by_cases hk : (FareKeycheck x0 false != 0) = true
  · rw [if_pos hk, if_pos hk]; exact ⟨_, _, rfl, rfl⟩
  rw [if_neg hk, if_neg hk]
  have hk0 : FareKeycheck x0 false = 0 := by simpa using hk
  by_cases hz : decide (((x1.size : Nat) : Int) > 200) = true
  · rw [if_pos hz, if_pos hz]; exact ⟨_, _, rfl, rfl⟩
  rw [if_neg hz, if_neg hz]
  have hz : x1.size ≤ 200 := by simp at hz; omega
  obtain ⟨body, is, hcs, hbz, hend⟩ := cutq x1 (by omega)
  have hsp := split_pcs 32 body (by omega)
  unfold Fareopen
  rw [hcs, Option.bind_some, Option.bind_some]
  dsimp only
  rw [hsp, Option.bind_some, Option.bind_some]
  generalize hQ : pcs 32 body.data.toList = Q
  have hQl : Q.length ≤ 201 := by have := pcs_len 32 body.data.toList; rw [hQ, ← ba_size] at this; omega
  have hsm : ∀ w ∈ Q.map str, w.size ≤ 30000 := by
    intro w hw
    obtain ⟨a, ha, rfl⟩ := List.mem_map.1 hw
    have := pcs_small 32 body.data.toList a (by rw [hQ]; exact ha)
    rw [← ba_size] at this
    show (a.toArray).size ≤ 30000
    simp; omega
  cases is with
  | false => exact ⟨_, _, rfl, rfl⟩
  | true =>
    simp only [Bool.not_true, Bool.false_eq_true, if_false]
    generalize hL : Q.map str = L
    have hLQ : L.length = Q.length := by rw [← hL]; simp
    rw [hL] at hsm
    by_cases h9 : decide (((L.length : Nat) : Int) < 9) = true
    · rw [if_pos h9]; exact ⟨_, _, rfl, rfl⟩
    rw [if_neg h9]
    have h9 : 9 ≤ L.length := by simp at h9; omega
    have hL0 : 0 < L.length := by omega
    have g0 : gx L 0 = some L[0] := gx_at hL0
    rw [g0, Option.bind_some]
    by_cases ht : (!seq L[0] (str [116, 105, 99, 107, 101, 116])) = true
    · rw [if_pos ht]; exact ⟨_, _, rfl, rfl⟩
    rw [if_neg ht]
    have g2 : gx L (w64 (((L.length : Nat) : Int) - 2)) = some (L[L.length - 2]'(by omega)) := by
      rw [w64_id (by omega), show ((L.length : Nat) : Int) - 2 = ((L.length - 2 : Nat) : Int) by omega, gx_at (by omega)]
    rw [g2, Option.bind_some, Option.bind_some, Option.bind_some]
    by_cases hc : (!seq (L[L.length - 2]'(by omega)) (str [58])) = true
    · rw [if_pos hc, if_pos hc]; exact ⟨_, _, rfl, rfl⟩
    rw [if_neg hc, if_neg hc]
    -- the words in between
    have gc : cutl L 1 (w64 (((L.length : Nat) : Int) - 2)) = some ((L.drop 1).take (L.length - 3)) := by
      rw [w64_id (by omega), cutl_in (by omega) (by omega) (by omega)]
      have : (((L.length : Nat) : Int) - 2).toNat = L.length - 2 := by omega
      rw [this, List.drop_take]; rfl
    rw [gc, Option.bind_some]
    generalize hW : (L.drop 1).take (L.length - 3) = ws
    have hwl : ws.length = L.length - 3 := by rw [← hW]; simp; omega
    have hwk : ∀ k (h : k < ws.length), L[1 + k]? = some ws[k] := by
      intro k h
      have e : ws[k]? = ((L.drop 1).take (L.length - 3))[k]? := by rw [hW]
      rw [List.getElem?_take_of_lt (by omega), List.getElem?_drop] at e
      rw [← e, List.getElem?_eq_getElem h]
    have hsm2 : ∀ w ∈ ws, w.size ≤ 30000 := by
      intro w hw
      rw [← hW] at hw
      exact hsm w (List.mem_of_mem_drop (List.mem_of_mem_take hw))
    have hdt : (L.drop 1).take ws.length = ws := by rw [hwl]; exact hW
    have gl : gx L (w64 (((L.length : Nat) : Int) - 1)) = some (L[L.length - 1]'(by omega)) := by
      rw [w64_id (by omega), show ((L.length : Nat) : Int) - 1 = ((L.length - 1 : Nat) : Int) by omega, gx_at (by omega)]
    have glk : L[L.length - 1]? = some (L[L.length - 1]'(by omega)) := List.getElem?_eq_getElem (by omega)
    have s0 := ref_skip (L := L) (a := 0) (b := 0) (c := 0) (d := 0) (e := 0) (z := []) (m := L.length - 1) (k := 0) (acc := []) (by omega) (.inl rfl) (by omega)
    rw [show L.length - 1 + 1 = L.length by omega] at s0
    rw [s0]
    rcases loop_open ws [] hsm2 (by simp; omega) with ⟨ns, k1, k2, k3⟩ | ⟨l, k1, k, hkl, k2, k3⟩
    rotate_left
    · -- a word that is no number
      rw [k1]
      obtain ⟨ns, hn1, hn2⟩ : ∃ ns : List Int, ns.length = (ws.take k).length ∧ ∀ j (h : j < (ws.take k).length), ∃ u, ns[j]? = some u ∧ NP (ws.take k)[j] (some u) := by
        have key : ∀ m, (hm : m ≤ k) → ∃ ns : List Int, ns.length = m ∧ ∀ j (h : j < m), ∃ u, ns[j]? = some u ∧ NP (ws[j]'(by omega)) (some u) := by
          intro m
          induction m with
          | zero => exact fun _ => ⟨[], rfl, fun j h => absurd h (by omega)⟩
          | succ m ih =>
            intro hm
            obtain ⟨ns, e1, e2⟩ := ih (by omega)
            obtain ⟨u, hu⟩ := k3 m (by omega)
            refine ⟨ns ++ [u], by simp [e1], fun j h => ?_⟩
            by_cases hj : j < m
            · obtain ⟨v, v1, v2⟩ := e2 j hj
              exact ⟨v, by rw [List.getElem?_append_left (by omega)]; exact v1, v2⟩
            · have : j = m := by omega
              subst this
              exact ⟨u, by rw [List.getElem?_append_right (by omega), e1]; simp, hu⟩
        obtain ⟨ns, e1, e2⟩ := key k (Nat.le_refl _)
        refine ⟨ns, by rw [e1, List.length_take]; omega, fun j h => ?_⟩
        rw [List.length_take] at h
        obtain ⟨u, u1, u2⟩ := e2 j (by omega)
        exact ⟨u, u1, by rw [List.getElem_take]; exact u2⟩
      have hkl' : (ws.take k).length = k := by rw [List.length_take]; omega
      have hm := ref_mid (L := L) (a := 0) (b := 0) (c := 0) (d := 0) (e := 0) (z := []) (by omega) (ws.take k) ns (L.length - 1 - k) 1 [] (by
        rw [hkl', ← hdt, List.take_take]; congr 1; omega) (by omega) (by rw [hkl']; omega) hn1 (by simp) hn2
      rw [hkl', show k + (L.length - 1 - k) = L.length - 1 by omega] at hm
      have hb := ref_bad (L := L) (a := 0) (b := 0) (c := 0) (d := 0) (e := 0) (z := []) (m := L.length - 1 - k - 1) (k := 1 + k) (acc := [] ++ ns) (hwk k hkl) (by omega) (by omega) (by omega) k2
      rw [show L.length - 1 - k - 1 + 1 = L.length - 1 - k by omega] at hb
      rw [show (0 : Nat) + 1 = 1 from rfl, hm, hb]
      exact ⟨_, _, rfl, rfl⟩
    rw [k2]
    have hm := ref_mid (L := L) (a := 0) (b := 0) (c := 0) (d := 0) (e := 0) (z := []) (by omega) ws ns 2 1 [] hdt (by omega) (by omega) k1 (by simp) k3
    rw [show ws.length + 2 = L.length - 1 by omega] at hm
    have hsk := ref_skip (L := L) (a := 0) (b := 0) (c := 0) (d := 0) (e := 0) (z := []) (m := 1) (k := 1 + ws.length) (acc := [] ++ ns) (by omega) (.inr (by omega)) (by omega)
    rw [show (0 : Nat) + 1 = 1 from rfl, hm, hsk, Option.bind_some]
    dsimp only
    rw [gl, Option.bind_some]
    obtain ⟨o, ho⟩ := num_plain (L[L.length - 1]'(by omega)) (hsm _ (List.getElem_mem _))
    have glk2 : L[1 + ws.length + 1]? = some (L[L.length - 1]'(by omega)) := by rw [← glk]; congr 1; omega
    cases o with
    | none =>
      have hb := ref_bad (L := L) (a := 0) (b := 0) (c := 0) (d := 0) (e := 0) (z := []) (m := 0) (k := 1 + ws.length + 1) (acc := [] ++ ns) glk2 (by omega) (by omega) (by omega) ho
      rw [show (0 : Nat) + 1 = 1 from rfl] at hb
      rw [hb, ho.1]
      exact ⟨_, _, rfl, rfl⟩
    | some v =>
      have hb := ref_one (L := L) (a := 0) (b := 0) (c := 0) (d := 0) (e := 0) (z := []) (m := 0) (k := 1 + ws.length + 1) (acc := [] ++ ns) glk2 (by omega) (by omega) (by omega) (by simp; omega) ho
      rw [show (0 : Nat) + 1 = 1 from rfl] at hb
      rw [hb, ho.1, Option.bind_some, Option.bind_some, Fishref2OpenOf.loop1, Option.bind_some]
      simp only [List.nil_append, Bool.not_true, Bool.false_eq_true, if_false]
      -- the last word
      obtain ⟨P, a, hP⟩ : ∃ P a, Q = P ++ [a] := ⟨Q.dropLast, Q.getLast (by intro h; rw [h, List.length_nil] at hLQ; omega), (List.dropLast_concat_getLast _).symm⟩
      have hPn : P ≠ [] := by intro h; rw [h] at hP; rw [hP] at hLQ; simp at hLQ; omega
      obtain ⟨pre, hpre⟩ := jn_last 32 a P hPn
      have hbody : body.data.toList = pre ++ 32 :: a := by rw [← hpre, ← hP, ← hQ, jn_pcs]
      have hna : (32 : UInt8) ∉ a := pcs_no 32 body.data.toList a (by rw [hQ, hP]; simp)
      have hlast : L[L.length - 1]'(by omega) = str a := by
        have : L[L.length - 1]? = some (str a) := by rw [hLQ, ← hL, hP]; simp
        rw [glk] at this
        exact Option.some.inj this
      have hs := hend rfl
      rw [hbody] at hs
      have hs2 : x1.data.toList = pre ++ 32 :: (a ++ [10]) := by rw [hs]; simp
      have hsz : x1.size = pre.length + 1 + (a.length + 1) := by rw [ba_size, hs2]; simp; omega
      have hbz2 : body.size = pre.length + 1 + a.length := by rw [ba_size, hbody]; simp; omega
      rw [last_ok hs2 (by simp [hna]) (by omega) (fu := 1000 + 60) (by simp; omega), Option.bind_some, w64_id (by omega)]
      have c1 : scut x1 0 (((pre.length : Nat) : Int) + 1) = some (x1.extract 0 (pre.length + 1)) := by
        unfold scut
        rw [if_pos (by omega)]
        simp
      have c2 : scut body 0 (w64 (((body.size : Nat) : Int) - (((str a).size : Nat) : Int))) = some (x1.extract 0 (pre.length + 1)) := by
        have ha : (str a).size = a.length := by show a.toArray.size = _; simp
        rw [ha, w64_id (by omega), show ((body.size : Nat) : Int) - ((a.length : Nat) : Int) = ((pre.length + 1 : Nat) : Int) by omega]
        unfold scut
        rw [if_pos (by omega)]
        refine congrArg some (ba_ext ?_)
        rw [cut_list, cut_list, hbody, hs2]
        simp [List.take_append]
      have gv : gx (ns ++ [v]) (w64 (((List.length (ns ++ [v]) : Nat) : Int) - 1)) = some v := by
        rw [w64_id (by simp; omega), List.length_append, List.length_singleton, show (((ns.length + 1 : Nat) : Int)) - 1 = ((ns.length : Nat) : Int) by omega, gx_nat]
        simp
      rw [c1, Option.bind_some, gv, Option.bind_some, Option.bind_some, hlast, c2, Option.bind_some]
      obtain ⟨z, z1, z2⟩ := verify_ok (fu := 1000 + 60) (by omega) x0 (x1.extract 0 (pre.length + 1)) (by rw [ba_size, cut_list]; simp; omega) v hk0
      rw [z1, z2, Option.bind_some, Option.bind_some]
      cases z with
      | false => exact ⟨_, _, rfl, rfl⟩
      | true =>
        simp only [Bool.not_true, Bool.false_eq_true, if_false]
        have hns : 6 ≤ ns.length := by omega
        have e0 : gx (ns ++ [v]) 0 = gx ns 0 := by show gx (ns ++ [v]) ((0 : Nat) : Int) = gx ns ((0 : Nat) : Int); rw [gx_nat, gx_nat, List.getElem?_append_left (by omega)]
        have e1 : gx (ns ++ [v]) 1 = gx ns 1 := by show gx (ns ++ [v]) ((1 : Nat) : Int) = gx ns ((1 : Nat) : Int); rw [gx_nat, gx_nat, List.getElem?_append_left (by omega)]
        have e2 : gx (ns ++ [v]) 2 = gx ns 2 := by show gx (ns ++ [v]) ((2 : Nat) : Int) = gx ns ((2 : Nat) : Int); rw [gx_nat, gx_nat, List.getElem?_append_left (by omega)]
        have e3 : gx (ns ++ [v]) 3 = gx ns 3 := by show gx (ns ++ [v]) ((3 : Nat) : Int) = gx ns ((3 : Nat) : Int); rw [gx_nat, gx_nat, List.getElem?_append_left (by omega)]
        have e4 : gx (ns ++ [v]) 4 = gx ns 4 := by show gx (ns ++ [v]) ((4 : Nat) : Int) = gx ns ((4 : Nat) : Int); rw [gx_nat, gx_nat, List.getElem?_append_left (by omega)]
        have f0 : gx ns 0 = some (ns[0]'(by omega)) := gx_at (k := 0) (by omega)
        have f1 : gx ns 1 = some (ns[1]'(by omega)) := gx_at (k := 1) (by omega)
        have f2 : gx ns 2 = some (ns[2]'(by omega)) := gx_at (k := 2) (by omega)
        have f3 : gx ns 3 = some (ns[3]'(by omega)) := gx_at (k := 3) (by omega)
        have f4 : gx ns 4 = some (ns[4]'(by omega)) := gx_at (k := 4) (by omega)
        have g5 : cutl ns 5 ((ns.length : Nat) : Int) = some (ns.drop 5) := by
          rw [cutl_in (by omega) (by omega) (by omega)]
          simp
        have g6 : cutl (ns ++ [v]) 5 (w64 (((List.length (ns ++ [v]) : Nat) : Int) - 1)) = some (ns.drop 5) := by
          rw [w64_id (by simp; omega), List.length_append, List.length_singleton, show (((ns.length + 1 : Nat) : Int)) - 1 = ((ns.length : Nat) : Int) by omega, cutl_in (by omega) (by omega) (by rw [List.length_append, List.length_singleton]; omega)]
          simp
        rw [e0, e1, e2, e3, e4, f0, f1, f2, f3, f4, g5, g6]
        simp only [Option.bind_some]
        obtain ⟨e, t1, t2, _⟩ := tick_ref ⟨ns[0]'(by omega), ns[1]'(by omega), ns[2]'(by omega), ns[3]'(by omega), ns[4]'(by omega), ns.drop 5⟩ (by simp; omega)
        rw [t1, t2, Option.bind_some]
        by_cases ce : (e != 0) = true
        · rw [if_pos ce]; exact ⟨_, _, rfl, rfl⟩
        · rw [if_neg ce]; exact ⟨_, _, rfl, rfl⟩
/-! the document writes each ticket -/
theorem signr {fu : Nat} (hf : 64 ≤ fu) (k : FareKey) (s : ByteArray) (hs : s.size ≤ 9223372036854775807) (h : FareKeycheck k true = 0) : ∃ z, Fishref2SignOf fu k s = some z ∧ 0 ≤ z ∧ z ≤ 2147483648 := by
  obtain ⟨z, d1, d2, d3, d4⟩ := digest_ok s hs
  obtain ⟨k1, k2, k3, k4, k5⟩ := key_in h
  have k6 := k5 rfl
  refine ⟨z ^ k.D.toNat % k.N, ?_, Int.emod_nonneg _ (by omega), ?_⟩
  · unfold Fishref2SignOf
    rw [d2]
    simp [powerOf_ok (fu := fu) (by omega) z k.D k.N d3 (by omega) (by omega) (by omega) (by omega)]
  · have := Int.emod_lt_of_pos (z ^ k.D.toNat) (show 0 < k.N by omega)
    omega
theorem textr_loop (L : List Int) (hL : ∀ x ∈ L, -9223372036854775808 ≤ x ∧ x ≤ 9223372036854775807) : ∀ (r : List Int) (k : Nat) (q : ByteArray), L.drop k = r → q.size + 30 * r.length ≤ 1000000 →
    ∃ z, Fishref2IssueOf.loop1 L r.length k q = some z ∧ z.size ≤ q.size + 30 * r.length
  | [], k, q, _, _ => ⟨q, rfl, by simp⟩
  | x :: r, k, q, hd, hq => by
    obtain ⟨d1, d2, d3⟩ := drop_cons hd
    have hx : x ∈ L := List.mem_iff_getElem?.2 ⟨k, d2⟩
    have hb := hL x hx
    have hs := tx_size hb
    have s32 : (str [32]).size = 1 := rfl
    simp only [List.length_cons] at hq
    have e2 : (tx x ++ str [32]).size = (tx x).size + 1 := by rw [ByteArray.size_append, s32]
    have e4 : (q ++ (tx x ++ str [32])).size = q.size + ((tx x).size + 1) := by rw [ByteArray.size_append, e2]
    obtain ⟨z, h1, h3⟩ := textr_loop L hL r (k + 1) (q ++ (tx x ++ str [32])) d3 (by omega)
    refine ⟨z, ?_, by simp only [List.length_cons]; omega⟩
    rw [List.length_cons, Fishref2IssueOf.loop1, gx_nat, d2, Option.bind_some, itoa_tx hb, Option.bind_some, scat_in (by omega), Option.bind_some, scat_in (by omega), Option.bind_some]
    exact h1
theorem concat_eq {a b : List Int} (ha : a.length = 5) (hb : b.length ≤ 10) : SlicesConcatLint [a, b] = some (a ++ b) := by
  unfold SlicesConcatLint
  have e1 : SlicesConcatLint.loop1 [a, b] 0 = some ((a.length : Int) + b.length) := by
    simp only [SlicesConcatLint.loop1]
    rw [w64_id (x := 0 + (a.length : Int)) (by omega), w64_id (by omega), if_neg (by rw [decide_eq_true_eq]; omega), if_neg (by rw [decide_eq_true_eq]; omega)]
    congr 1; omega
  have e2 : SlicesGrowLint_v1 ((a.length : Int) + b.length) = some [] := by
    unfold SlicesGrowLint_v1
    rw [w64_id (x := (0 : Int) - ((0 : Nat) : Int)) (by omega), w64_id (by omega), if_neg (by rw [decide_eq_true_eq]; omega), if_pos (by rw [decide_eq_true_eq]; omega)]
    have : zq ((a.length : Int) + b.length - (0 - ((0 : Nat) : Int))) = some () := by unfold zq; rw [if_pos (by omega)]
    rw [this]; rfl
  rw [e1, Option.bind_some, e2, Option.bind_some]
  simp only [SlicesConcatLint.loop2]
  rw [apd_lt (by rw [List.length_nil]; omega), Option.bind_some, apd_lt (by rw [List.length_append, List.length_nil]; omega)]
  simp
theorem issue_tot (x0 : FareKey) (x1 : FareTicket) (h1 : x1.Zones.length ≤ 9223372036854775807) : ∃ s e, Fishref2IssueOf (1000 + 60) x0 x1 = some (s, e) := by
  unfold Fishref2IssueOf
  rw [key_ref2]
  by_cases c : (FareKeycheck x0 true != 0) = true
  · rw [if_pos c]; exact ⟨_, _, rfl⟩
  rw [if_neg c]
  have hk : FareKeycheck x0 true = 0 := by simpa using c
  obtain ⟨e, t1, t2, t3⟩ := tick_ref x1 h1
  rw [t2, Option.bind_some]
  by_cases ce : (e != 0) = true
  · rw [if_pos ce]; exact ⟨_, _, rfl⟩
  rw [if_neg ce]
  obtain ⟨b1, b2, b3, b4, b5, b6, b7⟩ := t3 (by simpa using ce)
  rw [concat_eq rfl b6, Option.bind_some]
  generalize hL : [x1.No, x1.Day, x1.Start, x1.End, x1.Price] ++ x1.Zones = L
  have hLl : L.length ≤ 15 := by rw [← hL]; simp; omega
  have hLb : ∀ x ∈ L, -9223372036854775808 ≤ x ∧ x ≤ 9223372036854775807 := by
    intro x hx
    rw [← hL] at hx
    rcases List.mem_append.1 hx with hx | hx
    · simp at hx; rcases hx with rfl | rfl | rfl | rfl | rfl <;> omega
    · have := b7 x hx; omega
  have s7 : (str [116, 105, 99, 107, 101, 116, 32]).size = 7 := rfl
  have s2 : (str [58, 32]).size = 2 := rfl
  have s1 : (str [10]).size = 1 := rfl
  obtain ⟨z, z2, z3⟩ := textr_loop L hLb L 0 (str [116, 105, 99, 107, 101, 116, 32]) (List.drop_zero ..) (by omega)
  have ez : (z ++ str [58, 32]).size = z.size + 2 := by rw [ByteArray.size_append, s2]
  rw [z2, Option.bind_some, scat_in (by omega), Option.bind_some]
  obtain ⟨y, y2, y3, y4⟩ := signr (fu := 1000 + 60) (by omega) x0 (z ++ str [58, 32]) (by omega) hk
  have hy : -9223372036854775808 ≤ y ∧ y ≤ 9223372036854775807 := by omega
  have hs := tx_size hy
  have e3 : ((z ++ str [58, 32]) ++ tx y).size = z.size + 2 + (tx y).size := by rw [ByteArray.size_append, ez]
  rw [y2, Option.bind_some, itoa_tx hy, Option.bind_some, scat_in (by omega), Option.bind_some, scat_in (by omega), Option.bind_some]
  exact ⟨_, _, rfl⟩
theorem fares_true (n : Nat) : Fishlaw2fares (n + 60) = some true := by kernel_rfl
theorem accept_ok (x0 : FareKey) (s : ByteArray) (x3 x4 x5 : Int) (x6 : List Int) : ∃ e, FareAccept (1000 + 60) x0 s x3 x4 x5 x6 = some e ∧ Fishref2AcceptOf (1000 + 60) x0 s x3 x4 x5 x6 = some e := by
  obtain ⟨t, e, h1, h2⟩ := open_ok x0 s
  unfold FareAccept Fishref2AcceptOf
  rw [h1, h2, Option.bind_some, Option.bind_some]
  dsimp only
  have hw : (!Farewithin x4 t.Start t.End) = (if decide (x4 < t.Start) = true then true else decide (x4 > t.End)) := by
    rw [within_iff]
    by_cases a : t.Start ≤ x4
    · have a2 : ¬ x4 < t.Start := by omega
      by_cases b : x4 ≤ t.End
      · have b2 : ¬ x4 > t.End := by omega
        simp [a, a2, b, b2]
      · have b2 : x4 > t.End := by omega
        simp [a, a2, b, b2]
    · have a2 : x4 < t.Start := by omega
      simp [a, a2]
  rw [hw]
  have tot : ∀ o : Option Int, o ≠ none → ∃ e, o = some e ∧ o = some e := fun o h => by
    cases o with
    | none => exact absurd rfl h
    | some e => exact ⟨e, rfl, rfl⟩
  have key : ∀ (a b c d : Bool) (x : Int), (if a = true then some x else if b = true then some 13 else if c = true then some 9 else if d = true then some 7 else (some 0 : Option Int)) ≠ none := by
    intro a b c d x
    cases a <;> cases b <;> cases c <;> cases d <;> simp
  refine tot _ ?_
  simp only [bnd_eq]
  exact key _ _ _ _ _
theorem FareAccepts_law (x0 : FareKey) (x1 : FareTicket) (x2 : ByteArray) (x3 x4 x5 : Int) (x6 : List Int) (h1_0 : x1.Zones.length ≤ 9223372036854775807) (_ : x2.size ≤ 9223372036854775807) (_ : -9223372036854775808 ≤ x3 ∧ x3 ≤ 9223372036854775807) (_ : -9223372036854775808 ≤ x4 ∧ x4 ≤ 9223372036854775807) (_ : -9223372036854775808 ≤ x5 ∧ x5 ≤ 9223372036854775807) (_ : x6.length ≤ 9223372036854775807) : ∃ fu, Fishlaw2FareAccepts fu x0 x1 x2 x3 x4 x5 x6 = some true := by
  refine ⟨1000 + 60, ?_⟩
  obtain ⟨s, e, hi⟩ := issue_tot x0 x1 h1_0
  unfold Fishlaw2FareAccepts
  rw [hi, Option.bind_some, bnd_eq, fares_true, Option.bind_some, if_pos rfl]
  obtain ⟨u, a1, a2⟩ := accept_ok x0 (if (e == 0) = true then s else x2) x3 x4 x5 x6
  rw [a1, a2]
  simp
end Go.Fp
