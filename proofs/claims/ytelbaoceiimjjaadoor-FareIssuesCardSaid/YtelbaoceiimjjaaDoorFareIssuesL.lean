/- FareIssues: the mirror of the law is true of all keys and tickets. -/
import Derived.Test.YtelbaoceiimjjaaDoorFareIssuesM
import Derived.Test.YtelbaoceiimjjaaDoorFpPlain
import Derived.Lib.ItoaLen
import Derived.KernelRfl
namespace Go.Fp
/-! single bits -/
theorem bit_and1 {x : Int} (h0 : 0 ≤ x) (h1 : x < 9223372036854775808) : IntKind.wrap .i64 ((BitVec.ofInt (IntKind.bits .i64) x &&& BitVec.ofInt (IntKind.bits .i64) 1).toNat : Int) = x % 2 := by
  have e : (BitVec.ofInt (IntKind.bits .i64) x &&& BitVec.ofInt (IntKind.bits .i64) 1).toNat = x.toNat % 2 := by
    show (BitVec.ofInt 64 x &&& BitVec.ofInt 64 1).toNat = x.toNat % 2
    rw [BitVec.toNat_and]
    have h2 : (BitVec.ofInt 64 1).toNat = 1 := by decide
    have h3 : (BitVec.ofInt 64 x).toNat = x.toNat := by
      rw [BitVec.toNat_ofInt]
      have : x % ((2 ^ 64 : Nat) : Int) = x := Int.emod_eq_of_lt h0 (by omega)
      rw [this]
    rw [h2, h3, Nat.and_one_is_mod]
  rw [e]
  have : ((x.toNat % 2 : Nat) : Int) = x % 2 := by omega
  rw [this]
  exact IntWalk.i64_in _ ⟨by omega, by omega⟩
theorem shr_nat {x : Int} (h0 : 0 ≤ x) {k : Nat} (hk : k ≤ 64) : Int.fdiv x (2 ^ (min (Int.toNat ((k : Nat) : Int)) (IntKind.bits .i64))) = x / 2 ^ k := by
  have e : min (Int.toNat ((k : Nat) : Int)) (IntKind.bits .i64) = k := by show min (Int.toNat ((k : Nat) : Int)) 64 = k; omega
  rw [e, Int.fdiv_eq_ediv_of_nonneg x (Int.le_of_lt (Int.pow_pos (by omega)))]
theorem shr_lt {x : Int} (h0 : 0 ≤ x) (h1 : x < 9223372036854775808) (k : Nat) : 0 ≤ x / 2 ^ k ∧ x / 2 ^ k < 9223372036854775808 := by
  have hp : (0 : Int) < 2 ^ k := Int.pow_pos (by omega)
  exact ⟨Int.ediv_nonneg h0 (Int.le_of_lt hp), Int.lt_of_le_of_lt (Int.ediv_le_self _ h0) h1⟩
/-! powers modulo m -/
theorem emod_mul {a b c d m : Int} (h : a % m = b % m) (k : c % m = d % m) : (a * c) % m = (b * d) % m := by rw [Int.mul_emod, h, k, ← Int.mul_emod]
theorem emod_pow {a b m : Int} (h : a % m = b % m) : ∀ k : Nat, (a ^ k) % m = (b ^ k) % m
  | 0 => by rw [Int.pow_zero, Int.pow_zero]
  | k + 1 => by rw [Int.pow_succ, Int.pow_succ]; exact emod_mul (emod_pow h k) h
theorem rm_pos {x m : Int} (hx : 0 ≤ x) (hm : 1 < m) : rm x m = some (x % m) := by unfold rm; rw [if_neg (by omega), Int.tmod_eq_emod_of_nonneg hx]
theorem prod_in {a b m : Int} (ha : 0 ≤ a ∧ a < m) (hb : 0 ≤ b ∧ b < m) (hm : m ≤ 2147483648) : 0 ≤ a * b ∧ a * b ≤ 2147483648 * 2147483648 :=
  ⟨Int.mul_nonneg ha.1 hb.1, Int.mul_le_mul (by omega) (by omega) hb.1 (by omega)⟩
theorem emod_in (a : Int) {m : Int} (hm : 1 < m) : 0 ≤ a % m ∧ a % m < m := ⟨Int.emod_nonneg _ (by omega), Int.emod_lt_of_pos _ (by omega)⟩
theorem pow_one' (x : Int) : x ^ 1 = x := by rw [Int.pow_succ, Int.pow_zero, Int.one_mul]
theorem pow_half (x : Int) (n : Nat) : x ^ n = (x * x) ^ (n / 2) * x ^ (n % 2) := by
  have e : x * x = x ^ 2 := by rw [Int.pow_succ, Int.pow_succ, Int.pow_zero, Int.one_mul]
  rw [e, ← Int.pow_mul, ← Int.pow_add]
  congr 1; omega
theorem pow_loop (m : Int) (hm : 1 < m) (hm2 : m ≤ 2147483648) : ∀ (fu : Nat) (x n o : Int), 0 ≤ n → n < 2 ^ fu → fu ≤ 62 → 0 ≤ x ∧ x < m → 0 ≤ o ∧ o < m → ∃ x' n', Farepower.loop1 m (fu + 1) x n o = some (x', n', (o * x ^ n.toNat) % m)
  | 0, x, n, o, h0, h1, _, hx, ho => by
    have hn : n = 0 := by omega
    subst hn
    exact ⟨x, 0, by simp [Farepower.loop1, Int.emod_eq_of_lt ho.1 ho.2]⟩
  | fu + 1, x, n, o, h0, h1, hf, hx, ho => by
    have h1' : n < 2 * 2 ^ fu := by rw [Int.pow_succ] at h1; omega
    have hb : (2 : Int) ^ fu ≤ 2 ^ 61 := by
      have : (2 : Nat) ^ fu ≤ 2 ^ 61 := Nat.pow_le_pow_right (by omega) (by omega)
      exact_mod_cast this
    have hb2 : (2 : Int) ^ 61 = 2305843009213693952 := by decide
    rw [Farepower.loop1]
    by_cases hn : n > 0
    · have hxx := prod_in hx hx hm2
      have hox := prod_in ho hx hm2
      rw [bit_and1 h0 (by omega)]
      have hs : Int.fdiv n (2 ^ (min (Int.toNat 1) (IntKind.bits .i64))) = n / 2 := by have := shr_nat (x := n) h0 (k := 1) (by omega); simpa using this
      simp only [hn, decide_true, if_true, hs]
      rw [w64_id (x := x * x) (by omega), w64_id (x := o * x) (by omega), rm_pos hxx.1 hm, rm_pos hox.1 hm]
      simp only [Option.bind_some]
      have hnn : (n / 2).toNat = n.toNat / 2 := by omega
      by_cases hp : n % 2 = 1
      · have hpb : (n % 2 == 1) = true := by simpa using hp
        simp only [hpb, if_true, Option.bind_some]
        have hc := emod_in (x * o) hm
        have hc' := emod_in (x * x) hm
        have e0 : o * x = x * o := Int.mul_comm _ _
        obtain ⟨x', n', ih⟩ := pow_loop m hm hm2 fu (x * x % m) (n / 2) (o * x % m) (by omega) (by omega) (by omega) hc' (emod_in _ hm)
        refine ⟨x', n', ?_⟩
        rw [ih]
        have e1 : (o * x % m * (x * x % m) ^ (n / 2).toNat) % m = (o * x ^ n.toNat) % m := by
          have h2 : (o * x % m * (x * x % m) ^ (n / 2).toNat) % m = ((o * x) * (x * x) ^ (n / 2).toNat) % m := emod_mul (Int.emod_emod _ _) (emod_pow (Int.emod_emod _ _) _)
          rw [h2, pow_half x n.toNat, hnn]
          have h3 : n.toNat % 2 = 1 := by omega
          rw [h3, pow_one']
          congr 1
          rw [Int.mul_assoc, Int.mul_comm x]
        rw [e1]
      · have hpb : (n % 2 == 1) = false := by simpa using hp
        simp only [hpb, Bool.false_eq_true, if_false, Option.bind_some]
        obtain ⟨x', n', ih⟩ := pow_loop m hm hm2 fu (x * x % m) (n / 2) o (by omega) (by omega) (by omega) (emod_in _ hm) ho
        refine ⟨x', n', ?_⟩
        rw [ih]
        have e1 : (o * (x * x % m) ^ (n / 2).toNat) % m = (o * x ^ n.toNat) % m := by
          have h2 : (o * (x * x % m) ^ (n / 2).toNat) % m = (o * (x * x) ^ (n / 2).toNat) % m := emod_mul rfl (emod_pow (Int.emod_emod _ _) _)
          rw [h2, pow_half x n.toNat, hnn]
          have h3 : n.toNat % 2 = 0 := by omega
          rw [h3, Int.pow_zero, Int.mul_one]
        rw [e1]
    · have hn0 : n = 0 := by omega
      subst hn0
      exact ⟨x, 0, by simp [Int.emod_eq_of_lt ho.1 ho.2]⟩
theorem loop_more (m : Int) : ∀ (f g : Nat) (x n o : Int) (r : Int × Int × Int), f ≤ g → Farepower.loop1 m f x n o = some r → Farepower.loop1 m g x n o = some r
  | 0, _, _, _, _, _, _, h => by simp [Farepower.loop1] at h
  | f + 1, 0, _, _, _, _, hg, _ => absurd hg (by omega)
  | f + 1, g + 1, x, n, o, r, hg, h => by
    rw [Farepower.loop1] at h ⊢
    split at h
    · rename_i hc
      rw [if_pos hc]
      rw [Option.bind_eq_some_iff] at h ⊢
      obtain ⟨q, h1, h2⟩ := h
      refine ⟨q, h1, ?_⟩
      rw [Option.bind_eq_some_iff] at h2 ⊢
      obtain ⟨y, h3, h4⟩ := h2
      exact ⟨y, h3, loop_more m f g _ _ _ r (by omega) h4⟩
    · rename_i hc
      rw [if_neg hc]; exact h
theorem power_ok {fu : Nat} (hf : 63 ≤ fu) (x n m : Int) (hx : 0 ≤ x) (hn : 0 ≤ n) (hn2 : n ≤ 2147483648) (hm : 1 < m) (hm2 : m ≤ 2147483648) : Farepower fu x n m = some (x ^ n.toNat % m) := by
  unfold Farepower
  rw [rm_pos (by omega) hm, rm_pos hx hm]
  simp only [Option.bind_some]
  obtain ⟨x', n', h⟩ := pow_loop m hm hm2 62 (x % m) n (1 % m) hn (by rw [show (2 : Int) ^ 62 = 4611686018427387904 from by decide]; omega) (by omega) (emod_in _ hm) (emod_in _ hm)
  rw [loop_more m 63 fu _ _ _ _ hf h]
  simp only [Option.bind_some]
  congr 1
  have h2 : (1 % m * (x % m) ^ n.toNat) % m = (1 * x ^ n.toNat) % m := emod_mul (Int.emod_emod _ _) (emod_pow (Int.emod_emod _ _) _)
  rw [h2, Int.one_mul]
theorem powr_loop (x n m : Int) (hx : 0 ≤ x) (hn : 0 ≤ n) (hn2 : n ≤ 2147483648) (hm : 1 < m) (hm2 : m ≤ 2147483648) : ∀ (j fu : Nat), j ≤ 63 → j < fu → ∃ r, Fishref2powerOf.loop1 x n m fu (x ^ (n / 2 ^ j).toNat % m) ((j : Int) - 1) = some (x ^ n.toNat % m, r)
  | 0, fu + 1, _, _ => ⟨-1, by simp [Fishref2powerOf.loop1]⟩
  | _, 0, _, h => absurd h (by omega)
  | j + 1, fu + 1, hj, hf => by
    obtain ⟨r, ih⟩ := powr_loop x n m hx hn hn2 hm hm2 j fu (by omega) (by omega)
    refine ⟨r, ?_⟩
    have e : (((j + 1 : Nat) : Int) - 1) = ((j : Nat) : Int) := by omega
    rw [e, Fishref2powerOf.loop1]
    have hj0 : ((j : Nat) : Int) ≥ 0 := by omega
    have hnn : nn ((j : Nat) : Int) = some () := by unfold nn; rw [if_pos (by omega)]
    have ho := emod_in (x ^ (n / 2 ^ (j + 1)).toNat) hm
    have hoo := prod_in ho ho hm2
    have hq := shr_lt hn (by omega) j
    rw [w64_id (by omega), rm_pos hoo.1 hm, shr_nat hn (by omega), bit_and1 hq.1 hq.2]
    simp only [hj0, decide_true, if_true, Option.bind_some, hnn]
    rw [rm_pos hx hm]
    simp only [Option.bind_some]
    have hhalf : (n / 2 ^ (j + 1)).toNat = (n / 2 ^ j).toNat / 2 := by
      have : n / 2 ^ (j + 1) = n / 2 ^ j / 2 := by rw [Int.pow_succ, Int.ediv_ediv_of_nonneg (Int.le_of_lt (Int.pow_pos (by omega)))]
      rw [this]; omega
    have hw : w64 (((j : Nat) : Int) - 1) = ((j : Nat) : Int) - 1 := w64_id (by omega)
    generalize hY : (n / 2 ^ j) = y at *
    have hpw := pow_half x y.toNat
    by_cases hp : y % 2 = 1
    · have hpb : (y % 2 == 1) = true := by simpa using hp
      have hA := emod_in (x ^ (n / 2 ^ (j + 1)).toNat % m * (x ^ (n / 2 ^ (j + 1)).toNat % m)) hm
      have hAx := prod_in hA (emod_in x hm) hm2
      simp only [hpb, if_true]
      rw [w64_id (by omega), rm_pos hAx.1 hm]
      simp only [Option.bind_some, hw]
      rw [← ih]
      congr 1
      have h3 : y.toNat % 2 = 1 := by omega
      rw [hpw, h3, pow_one', hhalf]
      refine emod_mul ?_ (Int.emod_emod _ _)
      rw [Int.emod_emod, Int.mul_pow]
      exact emod_mul (Int.emod_emod _ _) (Int.emod_emod _ _)
    · have hpb : (y % 2 == 1) = false := by simpa using hp
      simp only [hpb, Bool.false_eq_true, if_false, Option.bind_some, hw]
      rw [← ih]
      congr 1
      have h3 : y.toNat % 2 = 0 := by omega
      rw [hpw, h3, Int.pow_zero, Int.mul_one, hhalf, Int.mul_pow]
      exact emod_mul (Int.emod_emod _ _) (Int.emod_emod _ _)
theorem powerOf_ok {fu : Nat} (hf : 64 ≤ fu) (x n m : Int) (hx : 0 ≤ x) (hn : 0 ≤ n) (hn2 : n ≤ 2147483648) (hm : 1 < m) (hm2 : m ≤ 2147483648) : Fishref2powerOf fu x n m = some (x ^ n.toNat % m) := by
  unfold Fishref2powerOf
  obtain ⟨r, h⟩ := powr_loop x n m hx hn hn2 hm hm2 63 fu (by omega) (by omega)
  have e : n / 2 ^ 63 = 0 := Int.ediv_eq_zero_of_lt hn (by rw [show (2 : Int) ^ 63 = 9223372036854775808 from by decide]; omega)
  rw [e] at h
  have h1 : x ^ (Int.toNat 0) % m = 1 := by show x ^ 0 % m = 1; rw [Int.pow_zero, Int.emod_eq_of_lt (by omega) hm]
  rw [h1] at h
  have h2 : (((63 : Nat) : Int) - 1) = 62 := by omega
  rw [h2] at h
  rw [h]; rfl
/-! the digest -/
theorem digest_loop (s : ByteArray) : ∀ (n k : Nat) (q : Int), Fishref2DigestOf.loop1 s n k q = FareDigest.loop1 s n k q
  | 0, _, _ => rfl
  | n + 1, k, q => by simp only [Fishref2DigestOf.loop1, FareDigest.loop1, digest_loop s n] <;> rfl
theorem sgx_in {s : ByteArray} {k : Nat} (h : k < s.size) : ∃ v : Int, sgx s ((k : Nat) : Int) = some v ∧ 0 ≤ v ∧ v ≤ 255 := by
  have hl : s.data.toList.length = s.size := by cases s; rfl
  refine ⟨((s.data.toList[k]'(by omega)).toNat : Int), ?_, by omega, ?_⟩
  · unfold sgx; rw [gx_at (by omega)]; rfl
  · have := (s.data.toList[k]'(by omega)).toNat_lt; omega
theorem digest_tot (s : ByteArray) : ∀ (n k : Nat) (q : Int), k + n = s.size → 0 ≤ q → q ≤ 999983 → ∃ z, FareDigest.loop1 s n k q = some z ∧ 0 ≤ z ∧ z ≤ 999983
  | 0, k, q, _, h0, h1 => ⟨q, rfl, h0, h1⟩
  | n + 1, k, q, hk, h0, h1 => by
    obtain ⟨v, e, v0, v1⟩ := sgx_in (s := s) (k := k) (by omega)
    rw [FareDigest.loop1, e, Option.bind_some]
    rw [w64_id (x := q * 257) (by omega), w64_id (x := v) (by omega), w64_id (x := q * 257 + v) (by omega), w64_id (by omega), Int.tmod_eq_emod_of_nonneg (by omega)]
    exact digest_tot s n (k + 1) _ (by omega) (by omega) (by omega)
theorem digest_ok (s : ByteArray) (hs : s.size ≤ 9223372036854775807) : ∃ z, FareDigest s = some z ∧ Fishref2DigestOf s = some z ∧ 0 ≤ z ∧ z ≤ 999983 := by
  obtain ⟨z, h, h0, h1⟩ := digest_tot s s.size 0 1 (by omega) (by omega) (by omega)
  have e : szok s = some () := by unfold szok; rw [if_pos hs]
  refine ⟨z, ?_, ?_, h0, h1⟩
  · unfold FareDigest; rw [e]; simp only [Option.bind_some, h]
  · unfold Fishref2DigestOf; rw [e]; simp only [Option.bind_some, digest_loop, h]
theorem key_ref2 (k : FareKey) (b : Bool) : Fishref2KeyFault k b = FareKeycheck k b := rfl
theorem within_iff (x a b : Int) : Farewithin x a b = decide (a ≤ x ∧ x ≤ b) := by
  unfold Farewithin bnd
  by_cases h1 : a ≤ x <;> by_cases h2 : x ≤ b <;> simp [h1, h2]
theorem key_in {k : FareKey} {b : Bool} (h : FareKeycheck k b = 0) : 1018081 ≤ k.N ∧ k.N ≤ 1072497001 ∧ 3 ≤ k.E ∧ k.E ≤ 32749 ∧ (b = true → 1 ≤ k.D ∧ k.D ≤ k.N - 1) := by
  unfold FareKeycheck at h
  simp only [bnd_eq, within_iff] at h
  by_cases h1 : 1018081 ≤ k.N ∧ k.N ≤ 1072497001
  · by_cases h2 : 3 ≤ k.E ∧ k.E ≤ 32749
    · refine ⟨h1.1, h1.2, h2.1, h2.2, fun hb => ?_⟩
      subst hb
      rw [w64_id (by omega)] at h
      by_cases h3 : 1 ≤ k.D ∧ k.D ≤ k.N - 1
      · exact h3
      · simp [h1, h2, h3] at h
    · simp [h1, h2] at h
  · simp [h1] at h
theorem sign_ok {fu : Nat} (hf : 64 ≤ fu) (k : FareKey) (s : ByteArray) (hs : s.size ≤ 9223372036854775807) (h : FareKeycheck k true = 0) : ∃ z, FareSign fu k s = some (z, 0) ∧ Fishref2SignOf fu k s = some z ∧ 0 ≤ z ∧ z ≤ 1072497001 := by
  obtain ⟨z, d1, d2, d3, d4⟩ := digest_ok s hs
  obtain ⟨k1, k2, k3, k4, k5⟩ := key_in h
  have k6 := k5 rfl
  refine ⟨z ^ k.D.toNat % k.N, ?_, ?_, Int.emod_nonneg _ (by omega), by have := Int.emod_lt_of_pos (z ^ k.D.toNat) (by omega : 0 < k.N); omega⟩
  · unfold FareSign
    rw [h, d1]
    simp [power_ok (fu := fu) (by omega) z k.D k.N d3 (by omega) (by omega) (by omega) (by omega)]
  · unfold Fishref2SignOf
    rw [d2]
    simp [powerOf_ok (fu := fu) (by omega) z k.D k.N d3 (by omega) (by omega) (by omega) (by omega)]
theorem fares_true (n : Nat) : Fishlaw2fares (n + 60) = some true := by kernel_rfl
theorem within_ref (x a b : Int) : Fishref2within x a b = Farewithin x a b := rfl

theorem tick_loop (t : FareTicket) : ∀ (r : List Int) (k : Nat), Fishref2TicketFault.loop1 t r k = FarecheckZones.loop1 t.Zones true r k
  | [], _ => rfl
  | x :: r, k => by
    simp only [Fishref2TicketFault.loop1, FarecheckZones.loop1, within_ref, tick_loop t r]
    generalize gx t.Zones (w64 (((k : Nat) : Int) - 1)) = g
    have e : (if decide (((k : Nat) : Int) > 0) = true then (g.bind fun y => some (decide (x ≤ y))) else some false) = (if decide (((k : Nat) : Int) > 0) = true then (g.bind fun y => if (x == y) = true then some true else if True then (g.bind fun z => some (decide (x < z))) else some false) else some false) := by
      cases g with
      | none => rfl
      | some y =>
        simp only [Option.bind_some, if_true]
        by_cases h : x = y
        · subst h; simp
        · have e1 : (x == y) = false := by simpa using h
          have e2 : decide (x ≤ y) = decide (x < y) := by
            by_cases h2 : x < y
            · have : x ≤ y := by omega
              simp [h2, this]
            · have : ¬ x ≤ y := by omega
              simp [h2, this]
          simp [e1, e2]
    rw [e]
theorem zones_tot (l : List Int) (b : Bool) (hl : l.length ≤ 9223372036854775807) : ∀ (r : List Int) (k : Nat), l.drop k = r → Tot (FarecheckZones.loop1 l b r k)
  | [], _, _ => .some _
  | x :: r, k, hd => by
    obtain ⟨d1, d2, d3⟩ := drop_cons hd
    rw [FarecheckZones.loop1]
    refine .ite (fun _ => .some _) fun _ => .bind (.ite (fun h => ?_) fun _ => .some _) fun _ _ => .ite (fun _ => .some _) fun _ => zones_tot l b hl r (k + 1) d3
    have hk : 0 < k := by have := of_decide_eq_true h; omega
    have hp := gx_prev (l := l) hk (by omega) hl
    exact .bind1 hp (.ite (fun _ => .some _) fun _ => .ite (fun _ => .bind1 hp (.some _)) fun _ => .some _)
theorem zones_in (l : List Int) (b : Bool) : ∀ (r : List Int) (k : Nat) (o : Out Int Unit), FarecheckZones.loop1 l b r k = some o → (∃ v, o = .ret v ∧ v ≠ 0) ∨ (o = .next () ∧ ∀ x ∈ r, 0 ≤ x ∧ x ≤ 19)
  | [], k, o, h => by rw [FarecheckZones.loop1] at h; cases h; exact .inr ⟨rfl, by intro x hx; cases hx⟩
  | x :: r, k, o, h => by
    rw [FarecheckZones.loop1] at h
    by_cases c : (!Farewithin x 0 19) = true
    · rw [if_pos c] at h; cases h; exact .inl ⟨2, rfl, by decide⟩
    · rw [if_neg c] at h
      obtain ⟨q, _, h2⟩ := bindS h
      cases q with
      | true => simp at h2; subst h2; exact .inl ⟨1, rfl, by decide⟩
      | false =>
        simp only [Bool.false_eq_true, if_false] at h2
        rcases zones_in l b r (k + 1) o h2 with h3 | ⟨h3, h4⟩
        · exact .inl h3
        · refine .inr ⟨h3, ?_⟩
          intro y hy
          rcases List.mem_cons.1 hy with rfl | hy
          · rw [within_iff] at c; simpa using c
          · exact h4 y hy

theorem tick_ref (t : FareTicket) (hl : t.Zones.length ≤ 9223372036854775807) : ∃ e, FareTicketcheck t = some e ∧ Fishref2TicketFault t = some e ∧
    (e = 0 → (0 ≤ t.No ∧ t.No ≤ 999999) ∧ (0 ≤ t.Day ∧ t.Day ≤ 6) ∧ (0 ≤ t.Start ∧ t.Start ≤ 28800) ∧ (0 ≤ t.End ∧ t.End ≤ 28800) ∧ (0 ≤ t.Price ∧ t.Price ≤ 100000) ∧ t.Zones.length ≤ 10 ∧ ∀ x ∈ t.Zones, 0 ≤ x ∧ x ≤ 19) := by
  unfold FareTicketcheck Fishref2TicketFault FarecheckZones
  simp only [within_ref, tick_loop, bnd_eq, within_iff]
  obtain ⟨o, ho⟩ := zones_tot t.Zones true hl t.Zones 0 rfl
  have hz := zones_in t.Zones true t.Zones 0 o ho
  rw [ho]
  by_cases c1 : (0 ≤ t.No ∧ t.No ≤ 999999)
  rotate_left
  · exact ⟨2, by simp [c1], by simp [c1], by intro h; cases h⟩
  by_cases c2 : (0 ≤ t.Day ∧ t.Day ≤ 6)
  rotate_left
  · exact ⟨2, by simp [c1, c2], by simp [c1, c2], by intro h; cases h⟩
  by_cases c3 : (0 ≤ t.Start ∧ t.Start ≤ 28800)
  rotate_left
  · exact ⟨2, by simp [c1, c2, c3], by simp [c1, c2, c3], by intro h; cases h⟩
  by_cases c4 : (0 ≤ t.End ∧ t.End ≤ 28800)
  rotate_left
  · exact ⟨2, by simp [c1, c2, c3, c4], by simp [c1, c2, c3, c4], by intro h; cases h⟩
  by_cases c5 : (0 ≤ t.Price ∧ t.Price ≤ 100000)
  rotate_left
  · exact ⟨2, by simp [c1, c2, c3, c4, c5], by simp [c1, c2, c3, c4, c5], by intro h; cases h⟩
  · by_cases c6 : t.End < t.Start
    · exact ⟨13, by simp [c1, c2, c3, c4, c5, c6], by simp [c1, c2, c3, c4, c5, c6], by intro h; cases h⟩
    · by_cases c7 : (1 ≤ (t.Zones.length : Int) ∧ (t.Zones.length : Int) ≤ 10)
      · cases o with
        | ret v =>
          refine ⟨v, by simp [c1, c2, c3, c4, c5, c6, c7], by simp [c1, c2, c3, c4, c5, c6, c7], ?_⟩
          intro h
          rcases hz with ⟨u, hu, hu0⟩ | ⟨hu, _⟩
          · cases hu; exact absurd h hu0
          · cases hu
        | next u =>
          refine ⟨0, by simp [c1, c2, c3, c4, c5, c6, c7], by simp [c1, c2, c3, c4, c5, c6, c7], ?_⟩
          intro _
          rcases hz with ⟨u, hu, _⟩ | ⟨_, hz⟩
          · cases hu
          · exact ⟨c1, c2, c3, c4, c5, by omega, hz⟩
      · exact ⟨4, by simp [c1, c2, c3, c4, c5, c6, c7], by simp [c1, c2, c3, c4, c5, c6, c7], by intro h; cases h⟩

/-- a number's text -/
def tx (n : Int) : ByteArray := ⟨(Lib.itoa n).toArray⟩
theorem itoa_tx {n : Int} (h : -9223372036854775808 ≤ n ∧ n ≤ 9223372036854775807) : itoa n = some (tx n) := by unfold itoa; rw [if_pos h]; rfl
theorem tx_size {n : Int} (h : -9223372036854775808 ≤ n ∧ n ≤ 9223372036854775807) : (tx n).size ≤ 21 := by
  have := Lib.itoa_length_le n h.1 h.2
  unfold tx
  show ((Lib.itoa n).toArray).size ≤ 21
  simpa using this
theorem ba_assoc (a b c : ByteArray) : (a ++ b) ++ c = a ++ (b ++ c) := by
  apply ByteArray.ext
  simp [ByteArray.data_append, Array.append_assoc]
theorem scat_in {a b : ByteArray} (h : a.size + b.size ≤ 9223372036854775807) : scat a b = some (a ++ b) := by unfold scat; rw [if_pos h]

theorem text_loop (L : List Int) (hL : ∀ x ∈ L, -9223372036854775808 ≤ x ∧ x ≤ 9223372036854775807) : ∀ (r : List Int) (k : Nat) (q : ByteArray), L.drop k = r → q.size + 30 * r.length ≤ 1000000 →
    ∃ z, FareIssue.loop1 L r.length k q = some z ∧ Fishref2IssueOf.loop1 L r.length k (q ++ str [32]) = some (z ++ str [32]) ∧ z.size ≤ q.size + 30 * r.length
  | [], k, q, _, _ => ⟨q, rfl, rfl, by simp⟩
  | x :: r, k, q, hd, hq => by
    obtain ⟨d1, d2, d3⟩ := drop_cons hd
    have hx : x ∈ L := by
      have := List.mem_iff_getElem?.2 ⟨k, d2⟩
      exact this
    have hb := hL x hx
    have hs := tx_size hb
    have s32 : (str [32]).size = 1 := rfl
    simp only [List.length_cons] at hq
    have e1 : (str [32] ++ tx x).size = 1 + (tx x).size := by rw [ByteArray.size_append, s32]
    have e2 : (tx x ++ str [32]).size = (tx x).size + 1 := by rw [ByteArray.size_append, s32]
    have e3 : (q ++ str [32]).size = q.size + 1 := by rw [ByteArray.size_append, s32]
    have e4 : (q ++ (str [32] ++ tx x)).size = q.size + (1 + (tx x).size) := by rw [ByteArray.size_append, e1]
    obtain ⟨z, h1, h2, h3⟩ := text_loop L hL r (k + 1) (q ++ (str [32] ++ tx x)) d3 (by omega)
    refine ⟨z, ?_, ?_, by simp only [List.length_cons]; omega⟩
    · rw [List.length_cons, FareIssue.loop1, gx_nat, d2, Option.bind_some, itoa_tx hb, Option.bind_some, scat_in (by omega), Option.bind_some, scat_in (by omega), Option.bind_some]
      exact h1
    · rw [List.length_cons, Fishref2IssueOf.loop1, gx_nat, d2, Option.bind_some, itoa_tx hb, Option.bind_some, scat_in (by omega), Option.bind_some, scat_in (by omega), Option.bind_some]
      have e : (q ++ str [32]) ++ (tx x ++ str [32]) = (q ++ (str [32] ++ tx x)) ++ str [32] := by simp only [ba_assoc]
      rw [e]
      exact h2

theorem concat_eq {a b : List Int} (ha : a.length = 5) (hb : b.length ≤ 10) : SlicesConcatLint [a, b] = some (a ++ b) := by
  unfold SlicesConcatLint
  have e1 : SlicesConcatLint.loop1 [a, b] 0 = some ((a.length : Int) + b.length) := by
    simp only [SlicesConcatLint.loop1]
    rw [w64_id (x := 0 + (a.length : Int)) (by omega), w64_id (by omega), if_neg (by rw [decide_eq_true_eq]; omega), if_neg (by rw [decide_eq_true_eq]; omega)]
    congr 1; omega
  have e2 : SlicesGrowLint_v1 ((a.length : Int) + b.length) = some [] := by
    unfold SlicesGrowLint_v1
    rw [w64_id (x := (0 : Int) - ((0 : Nat) : Int)) (by omega), w64_id (by omega), if_neg (by rw [decide_eq_true_eq]; omega), if_pos (by rw [decide_eq_true_eq]; omega)]
    have : zq ((a.length : Int) + b.length - (0 - ((0 : Nat) : Int))) = some () := by unfold zq; rw [if_pos (by omega)]
    rw [this]; rfl
  rw [e1, Option.bind_some, e2, Option.bind_some]
  simp only [SlicesConcatLint.loop2]
  rw [apd_lt (by rw [List.length_nil]; omega), Option.bind_some, apd_lt (by rw [List.length_append, List.length_nil]; omega)]
  simp

theorem FareIssues_law (x0 : FareKey) (x1 : FareTicket) (h1_0 : x1.Zones.length ≤ 9223372036854775807) : ∃ fu, Fishlaw2FareIssues fu x0 x1 = some true := by
  refine ⟨100 + 60, ?_⟩
  have key : ∃ r, FareIssue (100 + 60) x0 x1 = some r ∧ Fishref2IssueOf (100 + 60) x0 x1 = some r := by
    unfold FareIssue Fishref2IssueOf
    rw [key_ref2]
    by_cases c : (FareKeycheck x0 true != 0) = true
    · rw [if_pos c, if_pos c]; exact ⟨_, rfl, rfl⟩
    rw [if_neg c, if_neg c]
    have hk : FareKeycheck x0 true = 0 := by simpa using c
    obtain ⟨e, t1, t2, t3⟩ := tick_ref x1 h1_0
    rw [t1, t2, Option.bind_some, Option.bind_some]
    by_cases ce : (e != 0) = true
    · rw [if_pos ce, if_pos ce]; exact ⟨_, rfl, rfl⟩
    rw [if_neg ce, if_neg ce]
    obtain ⟨b1, b2, b3, b4, b5, b6, b7⟩ := t3 (by simpa using ce)
    rw [apd_lt (by show 5 + x1.Zones.length < 4294967296; omega), Option.bind_some, concat_eq rfl b6, Option.bind_some]
    generalize hL : [x1.No, x1.Day, x1.Start, x1.End, x1.Price] ++ x1.Zones = L
    have hLl : L.length ≤ 15 := by rw [← hL]; simp; omega
    have hLb : ∀ x ∈ L, -9223372036854775808 ≤ x ∧ x ≤ 9223372036854775807 := by
      intro x hx
      rw [← hL] at hx
      rcases List.mem_append.1 hx with hx | hx
      · simp at hx; rcases hx with rfl | rfl | rfl | rfl | rfl <;> omega
      · have := b7 x hx; omega
    have s6 : (str [116, 105, 99, 107, 101, 116]).size = 6 := rfl
    have s3 : (str [32, 58, 32]).size = 3 := rfl
    have s2 : (str [58, 32]).size = 2 := rfl
    have s1 : (str [10]).size = 1 := rfl
    have s32 : (str [32]).size = 1 := rfl
    obtain ⟨z, z1, z2, z3⟩ := text_loop L hLb L 0 (str [116, 105, 99, 107, 101, 116]) (List.drop_zero ..) (by omega)
    have e0 : str [116, 105, 99, 107, 101, 116] ++ str [32] = str [116, 105, 99, 107, 101, 116, 32] := by kernel_rfl
    rw [e0] at z2
    have ez : (z ++ str [32]).size = z.size + 1 := by rw [ByteArray.size_append, s32]
    rw [z1, Option.bind_some, z2, Option.bind_some, scat_in (by omega), Option.bind_some, scat_in (by omega), Option.bind_some]
    have e1 : (z ++ str [32]) ++ str [58, 32] = z ++ str [32, 58, 32] := by
      rw [ba_assoc]
      have : str [32] ++ str [58, 32] = str [32, 58, 32] := by kernel_rfl
      rw [this]
    rw [e1]
    have e2 : (z ++ str [32, 58, 32]).size = z.size + 3 := by rw [ByteArray.size_append, s3]
    obtain ⟨y, y1, y2, y3, y4⟩ := sign_ok (fu := 100 + 60) (by omega) x0 (z ++ str [32, 58, 32]) (by omega) hk
    have hy : -9223372036854775808 ≤ y ∧ y ≤ 9223372036854775807 := by omega
    have hs := tx_size hy
    have e3 : ((z ++ str [32, 58, 32]) ++ tx y).size = z.size + 3 + (tx y).size := by rw [ByteArray.size_append, e2]
    rw [y1, y2, Option.bind_some, Option.bind_some]
    simp only []
    rw [itoa_tx hy, Option.bind_some, scat_in (by omega), Option.bind_some, scat_in (by omega), Option.bind_some]
    exact ⟨_, rfl, rfl⟩
  obtain ⟨r, r1, r2⟩ := key
  unfold Fishlaw2FareIssues
  rw [r1, r2]
  have hf := fares_true 100
  rw [hf]
  simp [seq]
end Go.Fp
