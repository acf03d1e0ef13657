/- FarePicks: the mirror of the law is true of all offers. -/
import Derived.Test.YtmgdigencbganaaFarePicksM
import Derived.Test.YtmgdigencbganaaFpPlain
import Derived.KernelRfl
namespace Go.Fp

/-! single bits -/
theorem bit_and1 {x : Int} (h0 : 0 ≤ x) (h1 : x < 9223372036854775808) : IntKind.wrap .i64 ((BitVec.ofInt (IntKind.bits .i64) x &&& BitVec.ofInt (IntKind.bits .i64) 1).toNat : Int) = x % 2 := by
  have e : (BitVec.ofInt (IntKind.bits .i64) x &&& BitVec.ofInt (IntKind.bits .i64) 1).toNat = x.toNat % 2 := by
    show (BitVec.ofInt 64 x &&& BitVec.ofInt 64 1).toNat = x.toNat % 2
    rw [BitVec.toNat_and]
    have h2 : (BitVec.ofInt 64 1).toNat = 1 := by decide
    have h3 : (BitVec.ofInt 64 x).toNat = x.toNat := by
      rw [BitVec.toNat_ofInt]
      have : x % ((2 ^ 64 : Nat) : Int) = x := Int.emod_eq_of_lt h0 (by omega)
      rw [this]
    rw [h2, h3, Nat.and_one_is_mod]
  rw [e]
  have : ((x.toNat % 2 : Nat) : Int) = x % 2 := by omega
  rw [this]
  exact IntWalk.i64_in _ ⟨by omega, by omega⟩
theorem shr_nat {x : Int} (h0 : 0 ≤ x) {k : Nat} (hk : k ≤ 64) : Int.fdiv x (2 ^ (min (Int.toNat ((k : Nat) : Int)) (IntKind.bits .i64))) = x / 2 ^ k := by
  have e : min (Int.toNat ((k : Nat) : Int)) (IntKind.bits .i64) = k := by show min (Int.toNat ((k : Nat) : Int)) 64 = k; omega
  rw [e, Int.fdiv_eq_ediv_of_nonneg x (Int.le_of_lt (Int.pow_pos (by omega)))]
theorem shr_lt {x : Int} (h0 : 0 ≤ x) (h1 : x < 9223372036854775808) (k : Nat) : 0 ≤ x / 2 ^ k ∧ x / 2 ^ k < 9223372036854775808 := by
  have hp : (0 : Int) < 2 ^ k := Int.pow_pos (by omega)
  exact ⟨Int.ediv_nonneg h0 (Int.le_of_lt hp), Int.lt_of_le_of_lt (Int.ediv_le_self _ h0) h1⟩
/-! the greatest of a list -/
theorem max_loop (l : List Int) (hl : l.length ≤ 1000000) (s : Int) : ∀ (fu : Nat) (k : Nat) (m : Int), k ≤ l.length → l.length - k < fu → ∃ z q, SlicesMaxLint.loop1 l fu m ((k : Nat) : Int) = some (z, q) ∧ (z ≤ s ↔ m ≤ s ∧ ∀ v ∈ l.drop k, v ≤ s)
  | 0, _, _, _, h => absurd h (by omega)
  | fu + 1, k, m, hk, hf => by
    rw [SlicesMaxLint.loop1]
    by_cases h : k < l.length
    · have hc : ((k : Nat) : Int) < ((l.length : Nat) : Int) := by omega
      simp only [hc, decide_true, if_true, gx_at h, Option.bind_some]
      rw [w64_id (by omega)]
      have e : ((k : Int) + 1) = ((k + 1 : Nat) : Int) := by omega
      rw [e]
      obtain ⟨z, q, h1, h2⟩ := max_loop l hl s fu (k + 1) (mx m l[k]) (by omega) (by omega)
      refine ⟨z, q, h1, ?_⟩
      rw [h2, List.drop_eq_getElem_cons h]
      unfold mx
      constructor
      · rintro ⟨h3, h4⟩
        refine ⟨by split at h3 <;> omega, fun v hv => ?_⟩
        rcases List.mem_cons.1 hv with rfl | hv
        · split at h3 <;> omega
        · exact h4 v hv
      · rintro ⟨h3, h4⟩
        refine ⟨?_, fun v hv => h4 v (List.mem_cons_of_mem _ hv)⟩
        have := h4 l[k] List.mem_cons_self
        split <;> omega
    · have hc : ¬ ((k : Nat) : Int) < ((l.length : Nat) : Int) := by omega
      simp only [hc, decide_false, Bool.false_eq_true, if_false]
      refine ⟨m, _, rfl, ?_⟩
      have : l.drop k = [] := List.drop_eq_nil_iff.2 (by omega)
      simp [this]
theorem max_ok {fu : Nat} (l : List Int) (h0 : 0 < l.length) (hl : l.length ≤ 1000000) (hf : l.length ≤ fu) (s : Int) : ∃ z, SlicesMaxLint fu l = some z ∧ (z ≤ s ↔ ∀ v ∈ l, v ≤ s) := by
  unfold SlicesMaxLint
  have hn : ¬ ((l.length : Nat) : Int) < 1 := by omega
  simp only [hn, decide_false, Bool.false_eq_true, if_false]
  rw [gx_zero, List.getElem?_eq_getElem h0]
  simp only [Option.bind_some]
  obtain ⟨z, q, h1, h2⟩ := max_loop l hl s fu 1 l[0] (by omega) (by omega)
  have h1' : SlicesMaxLint.loop1 l fu l[0] 1 = some (z, q) := h1
  rw [h1']
  refine ⟨z, rfl, ?_⟩
  rw [h2]
  constructor
  · rintro ⟨h3, h4⟩ v hv
    have e : l = l[0] :: l.drop 1 := by rw [← List.drop_eq_getElem_cons h0]; rfl
    rw [e] at hv
    rcases List.mem_cons.1 hv with h | h
    · omega
    · exact h4 v h
  · intro h; exact ⟨h _ (List.getElem_mem h0), fun v hv => h v (List.mem_of_mem_drop hv)⟩
/-! lists compared -/
theorem compare_tot (b : List Int) (hb : b.length ≤ 9223372036854775807) : ∀ (a : List Int) (k : Nat), Tot (SlicesCompareLint.loop1 b a k)
  | [], _ => .some _
  | x :: a, k => by
    rw [SlicesCompareLint.loop1]
    refine .ite (fun _ => .some _) fun h => ?_
    have h := of_decide_eq_false h
    exact .bind1 (gx_at (by omega)) (.ite (fun _ => .some _) fun _ => compare_tot b hb a (k + 1))
theorem compare_ok (a b : List Int) (hb : b.length ≤ 9223372036854775807) : Tot (SlicesCompareLint a b) := by
  unfold SlicesCompareLint
  refine .bind (compare_tot b hb a 0) fun z _ => ?_
  cases z
  · exact .some _
  · exact .ite (fun _ => .some _) fun _ => .some _
theorem equal_refl (l : List Int) : SlicesEqualLint l l = some true := by
  have key : ∀ (r : List Int) (k : Nat), l.drop k = r → SlicesEqualLint.loop1 l r k = some (.next ()) := by
    intro r
    induction r with
    | nil => intro k _; rfl
    | cons v r ih =>
      intro k hd
      obtain ⟨d1, d2, d3⟩ := drop_cons hd
      simp only [SlicesEqualLint.loop1, gx_nat, d2, Option.bind_some, bne_self_eq_false, Bool.false_eq_true, if_false]
      exact ih (k + 1) d3
  unfold SlicesEqualLint
  simp [key l 0 rfl]
theorem fares_true (n : Nat) : Fishlaw2fares (n + 60) = some true := by kernel_rfl
theorem within_iff (x a b : Int) : Farewithin x a b = decide (a ≤ x ∧ x ≤ b) := by
  unfold Farewithin bnd
  by_cases h1 : a ≤ x <;> by_cases h2 : x ≤ b <;> simp [h1, h2]
theorem span_iff (a b t : Int) : Farespan a b t = decide (0 ≤ a ∧ a < b ∧ b < t) := by
  unfold Farespan bnd
  by_cases h1 : 0 ≤ a <;> by_cases h2 : a < b <;> by_cases h3 : b < t <;> simp [h1, h2, h3]
theorem offers_loop (t : Int) : ∀ l : List FareOffer, Fishref2OffersFault.loop1 t l = FarecheckOffers.loop1 t l
  | [] => rfl
  | o :: l => by
    simp only [Fishref2OffersFault.loop1, FarecheckOffers.loop1, offers_loop t l, span_iff, show Fishref2within = Farewithin from rfl, bnd_eq]
    by_cases h1 : o.From < 0
    · have h1' : ¬ 0 ≤ o.From := by omega
      simp [h1, h1']
    · have h1' : 0 ≤ o.From := by omega
      by_cases h2 : o.From ≥ o.To
      · have h2' : ¬ o.From < o.To := by omega
        simp [h1, h2, h2']
      · have h2' : o.From < o.To := by omega
        by_cases h3 : o.To ≥ t
        · have h3' : ¬ o.To < t := by omega
          simp [h1, h2, h3, h3']
        · have h3' : o.To < t := by omega
          simp [h1, h2, h3, h1', h2', h3']
theorem offers_ref (l : List FareOffer) (s t : Int) : Fishref2OffersFault l s t = FarecheckOffers l s t := by
  unfold Fishref2OffersFault FarecheckOffers
  simp only [offers_loop, show Fishref2within = Farewithin from rfl] <;> rfl
theorem offers_all (t : Int) : ∀ l : List FareOffer, (∀ v, FarecheckOffers.loop1 t l = .ret v → v ≠ 0) ∧ (FarecheckOffers.loop1 t l = .next () → ∀ o ∈ l, 0 ≤ o.From ∧ o.From < o.To ∧ o.To < t ∧ 1 ≤ o.Value ∧ o.Value ≤ 200)
  | [] => ⟨by intro v h; simp [FarecheckOffers.loop1] at h, by simp⟩
  | o :: l => by
    obtain ⟨i1, i2⟩ := offers_all t l
    simp only [FarecheckOffers.loop1, span_iff, within_iff, bnd_eq]
    by_cases h1 : 0 ≤ o.From ∧ o.From < o.To ∧ o.To < t
    · by_cases h2 : 1 ≤ o.Value ∧ o.Value ≤ 200
      · simp only [h1, h2, and_self, decide_true, Bool.not_true, Bool.false_eq_true, if_false]
        refine ⟨i1, fun e x hx => ?_⟩
        rcases List.mem_cons.1 hx with rfl | hx
        · exact ⟨h1.1, h1.2.1, h1.2.2, h2.1, h2.2⟩
        · exact i2 e x hx
      · refine ⟨by intro v h; simp [h1, h2] at h; omega, by intro h; simp [h1, h2] at h⟩
    · refine ⟨by intro v h; simp [h1] at h; omega, by intro h; simp [h1] at h⟩
theorem offers_in {l : List FareOffer} {s t : Int} (h : FarecheckOffers l s t = 0) : l.length ≤ 12 ∧ 1 ≤ s ∧ s ≤ 12 ∧ 2 ≤ t ∧ t ≤ 12 ∧ ∀ o ∈ l, 0 ≤ o.From ∧ o.From < o.To ∧ o.To < t ∧ 1 ≤ o.Value ∧ o.Value ≤ 200 := by
  unfold FarecheckOffers at h
  by_cases h0 : ((l.length : Nat) : Int) > 12
  · simp [h0] at h
  · simp only [h0, decide_false, Bool.false_eq_true, if_false, within_iff, bnd_eq] at h
    by_cases h1 : 1 ≤ s ∧ s ≤ 12
    · by_cases h2 : 2 ≤ t ∧ t ≤ 12
      · simp only [h1, h2, and_self, decide_true, Bool.not_true, Bool.false_eq_true, if_false] at h
        obtain ⟨i1, i2⟩ := offers_all t l
        refine ⟨by omega, h1.1, h1.2, h2.1, h2.2, ?_⟩
        cases h3 : FarecheckOffers.loop1 t l with
        | ret r => rw [h3] at h; exact absurd h (i1 r h3)
        | next u => exact i2 h3
      · simp [h1, h2] at h
    · simp [h1] at h

/-- all loads are small enough -/
def fit (s : Int) (l : List Int) : Bool := l.all fun v => decide (v ≤ s)
theorem fit_set (s : Int) (l : List Int) (k : Nat) (hk : k < l.length) : fit s (l.set k (l[k] + 1)) = (fit s l && decide (l[k] + 1 ≤ s)) := by
  rw [Bool.eq_iff_iff]
  unfold fit
  simp only [List.all_eq_true, Bool.and_eq_true, decide_eq_true_eq]
  constructor
  · intro h
    have h1 : l[k] + 1 ≤ s := by
      refine h _ ?_
      rw [List.mem_iff_getElem]
      exact ⟨k, by simpa using hk, by simp⟩
    refine ⟨fun v hv => ?_, h1⟩
    obtain ⟨i, hi, rfl⟩ := List.mem_iff_getElem.1 hv
    by_cases e : k = i
    · subst e; omega
    · refine h _ ?_
      rw [List.mem_iff_getElem]
      exact ⟨i, by simpa using hi, by simp [List.getElem_set_ne e]⟩
  · rintro ⟨h1, h2⟩ v hv
    obtain ⟨i, hi, rfl⟩ := List.mem_iff_getElem.1 hv
    simp only [List.length_set] at hi
    by_cases e : k = i
    · subst e; simpa using h2
    · rw [List.getElem_set_ne e]; exact h1 _ (List.getElem_mem hi)
/-- what the two count alike: the loads, theirs of twelve places -/
structure Rel (s : Int) (n : Nat) (B : Int) (used load : List Int) (fits : Bool) : Prop where
  len : load.length = n
  low : n ≤ 12
  eq : used = load ++ List.replicate (12 - n) 0
  ok : fits = fit s load
  bd : ∀ v ∈ load, 0 ≤ v ∧ v ≤ B
theorem loop4_eq (s : Int) (n : Nat) (o : FareOffer) (hto : o.To < n) : ∀ (fu : Nat) (B q : Int) (used load : List Int) (fits : Bool), 0 ≤ q → q ≤ 12 → (12 - q).toNat < fu → 0 ≤ B → B + (12 - q) ≤ 1000000 → Rel s n B used load fits →
    ∃ used' load' fits' a b, FarePick.loop4 s o fu fits q used = some (fits', a, used') ∧ Fishref2PickOf.loop4 o fu q load = some (b, load') ∧ Rel s n (B + (12 - q)) used' load' fits'
  | 0, _, _, _, _, _, _, _, h, _, _, _ => absurd h (by omega)
  | fu + 1, B, q, used, load, fits, h0, h1, h2, hB, hB2, hR => by
    rw [FarePick.loop4, Fishref2PickOf.loop4]
    by_cases hq : q < o.To
    · have hlen := hR.len
      have hlow := hR.low
      have hk : q.toNat < load.length := by omega
      have hul : used.length = 12 := by rw [hR.eq]; simp; omega
      have hu : used[q.toNat]'(by omega) = load[q.toNat] := by
        have := hR.eq
        subst this
        rw [List.getElem_append_left hk]
      have g1 := gx_toNat (l := used) h0 (by omega)
      have g2 := gx_toNat (l := load) h0 hk
      have i1 : ix used q = some () := ix_in h0 (by omega)
      have i2 : ix load q = some () := ix_in h0 (by omega)
      have s1 : ∀ v, sx used q v = some (used.set q.toNat v) := fun v => sx_in h0 (by omega) v
      have s2 : ∀ v, sx load q v = some (load.set q.toNat v) := fun v => sx_in h0 (by omega) v
      have hb := hR.bd _ (List.getElem_mem hk)
      have w1 : w64 (load[q.toNat] + 1) = load[q.toNat] + 1 := w64_id (by omega)
      have w2 : w64 (q + 1) = q + 1 := w64_id (by omega)
      simp only [hq, decide_true, if_true, g1, g2, i1, i2, s1, s2, hu, Option.bind_some, w1, w2]
      have g3 : gx (used.set q.toNat (load[q.toNat] + 1)) q = some (load[q.toNat] + 1) := by
        rw [gx_toNat h0 (by simp; omega)]; simp
      have hfit : ((if fits = true then (gx (used.set q.toNat (load[q.toNat] + 1)) q).bind fun x164 => some (decide (x164 ≤ s)) else some false) : Option Bool) = some (fits && decide (load[q.toNat] + 1 ≤ s)) := by
        rw [g3]; cases fits <;> simp
      rw [hfit]
      simp only [Option.bind_some]
      have hR' : Rel s n (B + 1) (used.set q.toNat (load[q.toNat] + 1)) (load.set q.toNat (load[q.toNat] + 1)) (fits && decide (load[q.toNat] + 1 ≤ s)) := by
        refine ⟨by simpa using hlen, hlow, ?_, ?_, ?_⟩
        · rw [hR.eq, List.set_append_left _ _ hk]
        · rw [fit_set s load _ hk, hR.ok]
        · intro v hv
          obtain ⟨i, hi, rfl⟩ := List.mem_iff_getElem.1 hv
          simp only [List.length_set] at hi
          by_cases e : q.toNat = i
          · subst e; simp; omega
          · rw [List.getElem_set_ne e]; have := hR.bd _ (List.getElem_mem hi); omega
      obtain ⟨u', l', f', a, b, e1, e2, e3⟩ := loop4_eq s n o hto fu (B + 1) (q + 1) _ _ _ (by omega) (by omega) (by omega) (by omega) (by omega) hR'
      refine ⟨u', l', f', a, b, e1, e2, ?_⟩
      have e : B + 1 + (12 - (q + 1)) = B + (12 - q) := by omega
      rw [e] at e3; exact e3
    · simp only [hq, decide_false, Bool.false_eq_true, if_false]
      exact ⟨used, load, fits, q, q, rfl, rfl, ⟨hR.len, hR.low, hR.eq, hR.ok, fun v hv => by have := hR.bd v hv; omega⟩⟩
theorem loop3_eq (s : Int) (n fu : Nat) (hf : 100 ≤ fu) (set : Int) (hs0 : 0 ≤ set) (hs1 : set < 9223372036854775808) : ∀ (r : List FareOffer) (k : Nat) (c : List Int) (v B : Int) (used load : List Int) (fits : Bool), (∀ o ∈ r, 0 ≤ o.From ∧ o.From ≤ 12 ∧ o.To < n ∧ 1 ≤ o.Value ∧ o.Value ≤ 200) → k + r.length ≤ 12 → c.length ≤ k → 0 ≤ v → v ≤ 200 * k → 0 ≤ B → B ≤ 12 * k → (c = [] → v = 0) → (c ≠ [] → 1 ≤ v) →
    Rel s n B used load fits → ∃ c' v' fits' used' load' B', FarePick.loop3 s fu set r k c v fits used = some (c', v', fits', used') ∧ Fishref2PickOf.loop3 fu set r k c v load = some (c', v', load') ∧ Rel s n B' used' load' fits' ∧ (c' = [] → v' = 0) ∧ (c' ≠ [] → 1 ≤ v') ∧ 0 ≤ v' ∧ c'.length ≤ 12
  | [], k, c, v, B, used, load, fits, _, hk, hcl, hv, _, _, _, h1, h2, hR => ⟨c, v, fits, used, load, B, rfl, rfl, hR, h1, h2, hv, by simp only [List.length_nil] at hk; omega⟩
  | o :: r, k, c, v, B, used, load, fits, ho, hk, hcl, hv, hv2, hB, hB2, h1, h2, hR => by
    simp only [List.length_cons] at hk
    obtain ⟨o1, o2, o3, o4, o5⟩ := ho o (by simp)
    have hsh := shr_lt hs0 hs1 k
    rw [FarePick.loop3, Fishref2PickOf.loop3, shr_nat hs0 (by omega), bit_and1 hsh.1 hsh.2]
    by_cases hb : set / 2 ^ k % 2 = 0
    · have b0 : (set / 2 ^ k % 2 == 0) = true := by simpa using hb
      have b1 : (set / 2 ^ k % 2 == 1) = false := by simp; omega
      simp only [b0, b1, if_true, Bool.false_eq_true, if_false, Option.bind_some]
      exact loop3_eq s n fu hf set hs0 hs1 r (k + 1) c v B used load fits (fun x hx => ho x (by simp [hx])) (by omega) (by omega) hv (by omega) hB (by omega) h1 h2 hR
    · have b0 : (set / 2 ^ k % 2 == 0) = false := by simpa using hb
      have b1 : (set / 2 ^ k % 2 == 1) = true := by simp; omega
      have ha : apd c [((k : Nat) : Int)] = some (c ++ [((k : Nat) : Int)]) := apd_lt (by simp; omega)
      obtain ⟨u', l', f', a, b, e1, e2, e3⟩ := loop4_eq s n o o3 fu B o.From used load fits o1 o2 (by omega) hB (by omega) hR
      have w : w64 (v + o.Value) = v + o.Value := w64_id (by omega)
      simp only [b0, b1, if_true, Bool.false_eq_true, if_false, ha, e1, e2, Option.bind_some, w]
      exact loop3_eq s n fu hf set hs0 hs1 r (k + 1) _ _ _ _ _ _ (fun x hx => ho x (by simp [hx])) (by omega) (by simp; omega) (by omega) (by omega) (by omega) (by omega) (by simp) (by intro _; omega) e3
theorem pow_n (n : Nat) (hn : n ≤ 12) : IntKind.wrap .i64 (1 * (2 ^ (min (Int.toNat ((n : Nat) : Int)) (IntKind.bits .i64)))) = 2 ^ n ∧ (2 : Int) ^ n ≤ 4096 := by
  have e : min (Int.toNat ((n : Nat) : Int)) (IntKind.bits .i64) = n := by show min (Int.toNat ((n : Nat) : Int)) 64 = n; omega
  have h : (2 : Int) ^ n ≤ 4096 := by
    have h1 : (2 : Nat) ^ n ≤ 2 ^ 12 := Nat.pow_le_pow_right (by omega) hn
    rw [show (2 : Nat) ^ 12 = 4096 from by decide] at h1
    have h2 := Int.ofNat_le.2 h1
    rw [Int.natCast_pow] at h2; exact h2
  have h0 : (0 : Int) < 2 ^ n := Int.pow_pos (by omega)
  rw [e, Int.one_mul]
  exact ⟨IntWalk.i64_in _ ⟨by omega, by omega⟩, h⟩
theorem compare_nil : SlicesCompareLint [] [] = some 0 := rfl
theorem loop2_eq (l : List FareOffer) (s : Int) (hs : 1 ≤ s) (n : Nat) (hn : 0 < n) (hn2 : n ≤ 12) (hl : l.length ≤ 12) (fu : Nat) (hf : 100 ≤ fu) (hall : ∀ o ∈ l, 0 ≤ o.From ∧ o.From ≤ 12 ∧ o.To < n ∧ 1 ≤ o.Value ∧ o.Value ≤ 200) :
    ∀ (m : Nat) (set most : Int) (best : List Int), 0 ≤ set → set ≤ 4096 → (4096 - set).toNat < m → 0 ≤ most → best.length ≤ 12 → (best = [] → most = 0) → (best ≠ [] → 1 ≤ most) →
    ∃ mo be a b, FarePick.loop2 l s fu m most best set = some (mo, be, a) ∧ Fishref2PickOf.loop2 l s (n : Int) fu m best most set = some (be, mo, b)
  | 0, _, _, _, _, _, h, _, _, _, _ => absurd h (by omega)
  | m + 1, set, most, best, h0, h1, h2, hm, hbl, hb1, hb2 => by
    obtain ⟨p1, p2⟩ := pow_n l.length hl
    rw [FarePick.loop2, Fishref2PickOf.loop2, p1]
    by_cases hq : set < 2 ^ l.length
    · have hmk : mks ((n : Nat) : Int) (0 : Int) = some (List.replicate n 0) := mks_in (by omega) 0
      have hR0 : Rel s n 0 [0, 0, 0, 0, 0, 0, 0, 0, 0, 0, 0, 0] (List.replicate n 0) true := by
        refine ⟨by simp, hn2, ?_, ?_, ?_⟩
        · rw [List.replicate_append_replicate]
          have : n + (12 - n) = 12 := by omega
          rw [this]; rfl
        · unfold fit
          symm
          simp only [List.all_eq_true, decide_eq_true_eq]
          intro v hv; have := List.eq_of_mem_replicate hv; omega
        · intro v hv; have := List.eq_of_mem_replicate hv; omega
      obtain ⟨c, v, f, u, ld, B, e1, e2, e3, e4, e5, e6, e7⟩ := loop3_eq s n fu hf set h0 (by omega) l 0 [] 0 0 _ _ true hall (by omega) (by simp) (by omega) (by omega) (by omega) (by omega) (by simp) (by simp) hR0
      obtain ⟨z, z1, z2⟩ := max_ok (fu := fu) ld (by rw [e3.len]; omega) (by rw [e3.len]; omega) (by rw [e3.len]; omega) s
      obtain ⟨cc, hcc⟩ := compare_ok c best (by omega)
      have hzf : decide (z ≤ s) = f := by
        rw [e3.ok]; unfold fit
        rw [Bool.eq_iff_iff]
        simp only [decide_eq_true_eq, List.all_eq_true]
        exact z2
      simp only [hq, decide_true, if_true]
      rw [hmk]
      simp only [Option.bind_some]
      rw [e1, e2]
      simp only [Option.bind_some, z1, hcc, hzf, bnd_eq]
      have w : w64 (set + 1) = set + 1 := w64_id (by omega)
      rw [w]
      have goN := fun (mo : Int) (be : List Int) (g1 : 0 ≤ mo) (g2 : be.length ≤ 12) (g3 : be = [] → mo = 0) (g4 : be ≠ [] → 1 ≤ mo) => loop2_eq l s hs n hn hn2 hl fu hf hall m (set + 1) mo be (by omega) (by omega) (by omega) g1 g2 g3 g4
      cases f
      · simp only [Bool.false_eq_true, if_false, Option.bind_some]
        exact goN most best hm hbl hb1 hb2
      · simp only [if_true]
        by_cases c1 : v > most
        · simp only [c1, decide_true, if_true, Option.bind_some]
          exact goN v c e6 e7 e4 e5
        · simp only [c1, decide_false, Bool.false_eq_true, if_false]
          by_cases c2 : v = most
          · have c2' : (v == most) = true := by simpa using c2
            simp only [c2', if_true]
            by_cases c3 : v > 0
            · simp only [c3, decide_true, if_true, Option.bind_some]
              cases hd : decide (cc < 0)
              · simp only [Bool.false_eq_true, if_false]
                exact goN most best hm hbl hb1 hb2
              · simp only [if_true]
                exact goN v c e6 e7 e4 e5
            · have hv0 : v = 0 := by omega
              have hc0 : c = [] := by
                by_cases hc : c = []
                · exact hc
                · have := e5 hc; omega
              have hb0 : best = [] := by
                by_cases hb : best = []
                · exact hb
                · have := hb2 hb; omega
              subst hc0; subst hb0
              rw [compare_nil] at hcc
              have hcc := Option.some.inj hcc
              subst hcc
              simp only [c3, decide_false, Bool.false_eq_true, if_false, Option.bind_some, Int.lt_irrefl]
              exact goN most [] hm (by simp) hb1 hb2
          · have c2' : (v == most) = false := by simpa using c2
            simp only [c2', Bool.false_eq_true, if_false, Option.bind_some]
            exact goN most best hm hbl hb1 hb2
    · simp only [hq, decide_false, Bool.false_eq_true, if_false]
      exact ⟨most, best, set, set, rfl, rfl⟩
theorem zero3 (s : Int) (fu : Nat) : ∀ (r : List FareOffer) (k : Nat) (c : List Int) (v : Int) (f : Bool) (u : List Int), k + r.length ≤ 12 → FarePick.loop3 s fu 0 r k c v f u = some (c, v, f, u)
  | [], _, _, _, _, _, _ => rfl
  | o :: r, k, c, v, f, u, hk => by
    simp only [List.length_cons] at hk
    have hsh := shr_lt (x := 0) (by omega) (by omega) k
    rw [FarePick.loop3, shr_nat (x := 0) (by omega) (by omega), bit_and1 hsh.1 hsh.2]
    have e : (0 : Int) / 2 ^ k % 2 = 0 := by rw [Int.zero_ediv]; rfl
    rw [e]
    exact zero3 s fu r (k + 1) c v f u (by omega)
theorem pick_ref (l : List FareOffer) (s t : Int) (fu : Nat) (hf : 5000 ≤ fu) (h : FarecheckOffers l s t = 0) : ∃ m c, FarePick fu l s t = some (m, c, 0) ∧ Fishref2PickOf fu l s t = some (m, c) := by
  obtain ⟨a1, a2, a3, a4, a5, a6⟩ := offers_in h
  obtain ⟨n, rfl⟩ : ∃ n : Nat, t = (n : Int) := ⟨t.toNat, by omega⟩
  unfold FarePick Fishref2PickOf
  rw [h]
  obtain ⟨f1, rfl⟩ : ∃ f1, fu = f1 + 1 := ⟨fu - 1, by omega⟩
  have hall : ∀ o ∈ l, 0 ≤ o.From ∧ o.From ≤ 12 ∧ o.To < (n : Int) ∧ 1 ≤ o.Value ∧ o.Value ≤ 200 := fun o ho => by have := a6 o ho; omega
  obtain ⟨p1, p2⟩ := pow_n l.length a1
  have hpos : (0 : Int) < 2 ^ l.length := Int.pow_pos (by omega)
  -- the first round of the program sets most to 0
  have first : FarePick.loop2 l s (f1 + 1) (f1 + 1) (-1) [] 0 = FarePick.loop2 l s (f1 + 1) f1 0 [] 1 := by
    rw [FarePick.loop2, p1]
    simp only [hpos, decide_true, if_true, zero3 s (f1 + 1) l 0 [] 0 true _ (by omega), Option.bind_some, bnd_eq]
    rfl
  obtain ⟨mo, be, a, b, e1, e2⟩ := loop2_eq l s (by omega) n (by omega) (by omega) a1 (f1 + 1) (by omega) hall (f1 + 1) 0 0 [] (by omega) (by omega) (by omega) (by omega) (by simp) (by simp) (by simp)
  have e1' : FarePick.loop2 l s (f1 + 1) f1 0 [] 1 = some (mo, be, a) := by
    rw [FarePick.loop2, p1] at e1
    simp only [hpos, decide_true, if_true, zero3 s (f1 + 1) l 0 [] 0 true _ (by omega), Option.bind_some, bnd_eq] at e1
    have hz : ¬ ((0 : Int) > 0) := by omega
    simp only [hz, decide_false, Bool.false_eq_true, if_false, beq_self_eq_true, if_true, compare_nil, Option.bind_some, Int.lt_irrefl] at e1
    exact e1
  refine ⟨mo, be, ?_, ?_⟩
  · simp [first, e1']
  · rw [e2]; rfl

theorem FarePicks_law (l : List FareOffer) (s t : Int) (_ : l.length ≤ 9223372036854775807) (_ : -9223372036854775808 ≤ s ∧ s ≤ 9223372036854775807) (_ : -9223372036854775808 ≤ t ∧ t ≤ 9223372036854775807) : ∃ fu, Fishlaw2FarePicks fu l s t = some true := by
  refine ⟨5000 + 60, ?_⟩
  unfold Fishlaw2FarePicks
  rw [fares_true, offers_ref]
  by_cases h : FarecheckOffers l s t = 0
  · obtain ⟨m, c, e1, e2⟩ := pick_ref l s t (5000 + 60) (by omega) h
    rw [e1, e2]
    simp [h, equal_refl]
  · have e : FarePick (5000 + 60) l s t = some (0, [], FarecheckOffers l s t) := by unfold FarePick; simp [h]
    rw [e]
    simp [h]

end Go.Fp
