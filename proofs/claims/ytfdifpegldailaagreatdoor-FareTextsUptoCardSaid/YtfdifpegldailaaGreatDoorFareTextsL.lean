/- FareTexts: the mirror of the law is true of all tariffs of bounded size. -/
import Derived.Test.YtfdifpegldailaaGreatDoorFareTextsM
import Derived.Test.YtfdifpegldailaaGreatDoorFpPlain
import Derived.Lib.ItoaLen
import Derived.Lib.AtoiTie
import Derived.Lib.SplitLaws
import Derived.Lib.CountLaws
import Derived.Lib.ItoaMem
import Derived.Lib.AtoiAllCases
import Derived.KernelRfl
namespace Go.Fp
/-! texts -/
theorem seq_iff (x y : ByteArray) : seq x y = true ↔ x.data.toList = y.data.toList := by unfold seq; exact beq_iff_eq
theorem ba_ext {x y : ByteArray} (h : x.data.toList = y.data.toList) : x = y := by
  cases x; cases y
  simp only at h
  congr 1
  exact Array.toList_inj.1 h
theorem ba_size (x : ByteArray) : x.size = x.data.toList.length := by rw [Array.length_toList]; rfl
theorem cut_list (s : ByteArray) (a b : Nat) : (s.extract a b).data.toList = (s.data.toList.take b).drop a := by
  rw [Lib.extract_data, List.drop_take]
theorem str_list (l : List UInt8) : (str l).data.toList = l := rfl
theorem str_size (l : List UInt8) : (str l).size = l.length := by rw [ba_size]
theorem seq_str (l : List UInt8) (y : ByteArray) : seq (str l) y = (l == y.data.toList) := rfl
theorem seq_self (x : ByteArray) : seq x x = true := (seq_iff x x).2 rfl
theorem app_list (x y : ByteArray) : (x ++ y).data.toList = x.data.toList ++ y.data.toList := by simp
theorem str_app (a b : List UInt8) : str a ++ str b = str (a ++ b) := ba_ext (by rw [app_list])
theorem scat_in {a b : ByteArray} (h : a.size + b.size ≤ 9223372036854775807) : scat a b = some (a ++ b) := by unfold scat; rw [if_pos h]
theorem scat_str {a b : List UInt8} (h : a.length + b.length ≤ 9223372036854775807) : scat (str a) (str b) = some (str (a ++ b)) := by rw [scat_in (by rw [str_size, str_size]; exact h), str_app]
theorem str_back (x : ByteArray) : str x.data.toList = x := ba_ext rfl
theorem str_inj {a b : List UInt8} (h : str a = str b) : a = b := congrArg (fun x : ByteArray => x.data.toList) h
/-! words of a line -/
/-- what a letter does to the words so far -/
def wst (S : List (List UInt8) × Bool) (c : UInt8) : List (List UInt8) × Bool :=
  if c = 32 then (S.1, true) else if c = 40 ∨ c = 41 then (S.1 ++ [[c]], true) else if S.2 then (S.1 ++ [[c]], false) else (S.1.dropLast ++ [(S.1.getLast?.getD []) ++ [c]], false)
theorem get_byte {s : ByteArray} {p : Nat} (h : p < s.size) : s.data.toList[p]? = some (s.get! p) := by
  have : s.get! p = s.data[p]! := rfl
  rw [this, Array.getElem?_toList]
  have h' : p < s.data.size := h
  rw [Array.getElem?_eq_getElem h', getElem!_pos s.data p h']
theorem dec_asc {s : ByteArray} {p : Nat} {b : UInt8} (h : s.data.toList[p]? = some b) (ha : b.toNat < 128) : Utf8.decode s p = (b.toNat, 1) := by
  have hp : p < s.size := by rw [ba_size]; exact (List.getElem?_eq_some_iff.1 h).1
  rw [get_byte hp] at h
  injection h with h
  subst h
  unfold Utf8.decode
  simp only [Nat.add_zero]
  rw [if_pos ha]
theorem enc_asc {b : UInt8} (ha : b.toNat < 128) : Utf8.encode ((b.toNat : Nat) : Int) = str [b] := by
  refine ba_ext ?_
  have hv : Utf8.valid ((b.toNat : Nat) : Int) = true := by unfold Utf8.valid; simp; omega
  unfold Utf8.encode
  simp only [hv, if_true, Int.toNat_natCast]
  rw [if_pos ha]
  simp
theorem w64_pred {n : Nat} (h : 0 < n) (h2 : n ≤ 9223372036854775807) : w64 (((n : Nat) : Int) - 1) = ((n - 1 : Nat) : Int) := by rw [w64_id (by omega)]; omega
theorem words_loop {s : ByteArray} (ha : ∀ x ∈ s.data.toList, x.toNat < 128) (hz : s.size ≤ 100000) : ∀ (n p : Nat) (L : List (List UInt8)) (b : Bool), L.length ≤ p → (∀ w ∈ L, w.length ≤ p) → (b = false → L ≠ []) → p ≤ s.size → s.size < p + n →
    Farewords.loop1 s n (L.map str) b p = some ((((s.data.toList.drop p).foldl wst (L, b)).1.map str), ((s.data.toList.drop p).foldl wst (L, b)).2, s.size)
  | 0, p, _, _, _, _, _, h1, h2 => absurd h2 (by omega)
  | n + 1, p, L, b, hl, hw, hb, h1, h2 => by
    rw [Farewords.loop1]
    rcases Nat.lt_or_ge p s.size with hp | hp
    · rw [if_pos (decide_eq_true hp)]
      have hp' : p < s.data.toList.length := by rw [← ba_size]; exact hp
      obtain ⟨c, hc⟩ : ∃ c, s.data.toList[p]? = some c := ⟨_, List.getElem?_eq_getElem hp'⟩
      have hd : s.data.toList.drop p = c :: s.data.toList.drop (p + 1) := by
        have := List.drop_eq_getElem_cons hp'
        rw [List.getElem?_eq_getElem hp'] at hc
        injection hc with hc
        rw [← hc]; exact this
      have hca : c.toNat < 128 := ha c (List.mem_of_getElem? hc)
      have e1 := dec_asc hc hca
      have e2 := enc_asc hca
      rw [hd, List.foldl_cons]
      have k32 : ((((c.toNat : Nat) : Int) == 32) = true) ↔ c = 32 := by rw [beq_iff_eq]; constructor
                                                                         · intro h; exact UInt8.toNat_inj.1 (show c.toNat = 32 by omega)
                                                                         · rintro rfl; rfl
      have k40 : ((((c.toNat : Nat) : Int) == 40) = true) ↔ c = 40 := by rw [beq_iff_eq]; constructor
                                                                         · intro h; exact UInt8.toNat_inj.1 (show c.toNat = 40 by omega)
                                                                         · rintro rfl; rfl
      have k41 : ((((c.toNat : Nat) : Int) == 41) = true) ↔ c = 41 := by rw [beq_iff_eq]; constructor
                                                                         · intro h; exact UInt8.toNat_inj.1 (show c.toNat = 41 by omega)
                                                                         · rintro rfl; rfl
      have happ : apd (L.map str) [str [c]] = some ((L ++ [[c]]).map str) := by rw [apd_lt (by rw [List.length_map]; simp; omega)]; simp
      rw [e1]
      simp only [bnd_eq]
      by_cases c1 : c = 32
      · rw [if_pos (k32.2 c1), Option.bind_some]
        have hst : wst (L, b) c = (L, true) := by unfold wst; rw [if_pos c1]
        rw [hst]
        exact words_loop ha hz n (p + 1) L true (by omega) (fun w m => by have := hw w m; omega) (by simp) (by omega) (by omega)
      · rw [if_neg (fun h => c1 (k32.1 h))]
        by_cases c2 : c = 40 ∨ c = 41
        · have hq : (if (((c.toNat : Nat) : Int) == 40) = true then true else (((c.toNat : Nat) : Int) == 41)) = true := by
            rcases c2 with rfl | rfl <;> rfl
          have hst : wst (L, b) c = (L ++ [[c]], true) := by unfold wst; rw [if_neg c1, if_pos c2]
          rw [hq, if_pos rfl, e2, happ, hst]
          simp only [Option.bind_some]
          exact words_loop ha hz n (p + 1) (L ++ [[c]]) true (by simp; omega) (fun w m => by
            rcases List.mem_append.1 m with m | m
            · have := hw w m; omega
            · rw [List.mem_singleton.1 m]; simp) (by simp) (by omega) (by omega)
        · have hq : (if (((c.toNat : Nat) : Int) == 40) = true then true else (((c.toNat : Nat) : Int) == 41)) = false := by
            have n40 : (((c.toNat : Nat) : Int) == 40) = false := by rw [Bool.eq_false_iff]; exact fun h => c2 (.inl (k40.1 h))
            have n41 : (((c.toNat : Nat) : Int) == 41) = false := by rw [Bool.eq_false_iff]; exact fun h => c2 (.inr (k41.1 h))
            rw [n40, n41]; rfl
          rw [hq, if_neg (by decide)]
          cases b with
          | true =>
            have hst : wst (L, true) c = (L ++ [[c]], false) := by unfold wst; rw [if_neg c1, if_neg c2, if_pos rfl]
            rw [if_pos rfl, e2, happ, hst]
            simp only [Option.bind_some]
            exact words_loop ha hz n (p + 1) (L ++ [[c]]) false (by simp; omega) (fun w m => by
              rcases List.mem_append.1 m with m | m
              · have := hw w m; omega
              · rw [List.mem_singleton.1 m]; simp) (by simp) (by omega) (by omega)
          | false =>
            have hne := hb rfl
            obtain ⟨M, u, rfl⟩ : ∃ M u, L = M ++ [u] := ⟨L.dropLast, L.getLast hne, (List.dropLast_concat_getLast hne).symm⟩
            have hlen : ((M ++ [u]).map str).length = M.length + 1 := by simp
            have hst : wst (M ++ [u], false) c = (M ++ [u ++ [c]], false) := by unfold wst; rw [if_neg c1, if_neg c2, if_neg (by simp)]; simp
            have hu : u.length ≤ p := hw u (by simp)
            have hM : M.length + 1 ≤ p := by simpa using hl
            rw [if_neg (by decide), hlen, w64_pred (by omega) (by omega), Nat.add_sub_cancel]
            have g1 : gx ((M ++ [u]).map str) ((M.length : Nat) : Int) = some (str u) := by rw [gx_nat]; simp
            have g2 : ix ((M ++ [u]).map str) ((M.length : Nat) : Int) = some () := ix_in (by omega) (by rw [hlen]; omega)
            have g3 : sx ((M ++ [u]).map str) ((M.length : Nat) : Int) (str (u ++ [c])) = some ((M ++ [u ++ [c]]).map str) := by
              rw [sx_in (by omega) (by rw [hlen]; omega)]
              simp
            rw [g1, Option.bind_some, e2, scat_str (by simp; omega), Option.bind_some, g2, Option.bind_some, g3, hst]
            simp only [Option.bind_some]
            exact words_loop ha hz n (p + 1) (M ++ [u ++ [c]]) false (by simp; omega) (fun w m => by
              rcases List.mem_append.1 m with m | m
              · have := hw w (by simp [m]); omega
              · rw [List.mem_singleton.1 m]; simp; omega) (by simp) (by omega) (by omega)
    · rw [if_neg (by simp; omega)]
      have hpe : p = s.size := by omega
      rw [List.drop_of_length_le (by rw [← ba_size]; omega), hpe]
      rfl
theorem words_ok {l : List UInt8} (ha : ∀ x ∈ l, x.toNat < 128) (hz : l.length ≤ 100000) {fu : Nat} (hf : 100001 ≤ fu) : Farewords fu (str l) = some ((l.foldl wst ([], true)).1.map str) := by
  unfold Farewords
  have := words_loop (s := str l) ha (by rw [str_size]; exact hz) fu 0 [] true (by simp) (by simp) (by simp) (by omega) (by rw [str_size]; omega)
  rw [List.map_nil] at this
  rw [this]
  rfl
/-! decimal digits -/
theorem digitVal_some {b : UInt8} {d : Nat} : Lib.digitVal b = some d ↔ (48 ≤ b.toNat ∧ b.toNat ≤ 57) ∧ d = b.toNat - 48 := by
  unfold Lib.digitVal
  split
  · rename_i h
    constructor
    · intro e; injection e with e; exact ⟨h, e.symm⟩
    · rintro ⟨_, rfl⟩; rfl
  · rename_i h
    constructor
    · intro e; cases e
    · rintro ⟨k, _⟩; exact absurd k h
theorem decFrom_app : ∀ (a b : List UInt8) (acc : Nat), Lib.decFrom acc (a ++ b) = (Lib.decFrom acc a).bind fun m => Lib.decFrom m b
  | [], b, acc => rfl
  | x :: a, b, acc => by
    rw [List.cons_append, Lib.decFrom, Lib.decFrom]
    cases Lib.digitVal x with
    | none => rfl
    | some d => exact decFrom_app a b _
theorem ofNat_dig {u : Nat} (h : u < 10) : (UInt8.ofNat (48 + u)).toNat = 48 + u := by
  rw [UInt8.toNat_ofNat']; omega
theorem dig_val {u : Nat} (h : u < 10) : Lib.digitVal (UInt8.ofNat (48 + u)) = some u := by
  rw [digitVal_some, ofNat_dig h]; omega
theorem decFrom_dig (u : Nat) : Lib.decFrom 0 (Lib.decDigits u) = some u := by
  induction u using Nat.strongRecOn with
  | _ u ih =>
    rw [Lib.decDigits]
    split
    · rename_i h
      rw [Lib.decFrom, dig_val h]
      simp [Lib.decFrom]
    · rename_i h
      rw [decFrom_app, ih (u / 10) (by omega), Option.bind_some, Lib.decFrom, dig_val (by omega)]
      simp only [Lib.decFrom]
      congr 1
      omega
theorem dig_ne (u : Nat) : Lib.decDigits u ≠ [] := by
  intro h
  have h1 := Lib.decDigits_length u
  rw [h, List.length_nil] at h1
  have h2 := Lib.nDigits_pos u
  omega
/-- the first digit is 0 of 0 alone -/
theorem dig_head (u : Nat) : ∃ c r, Lib.decDigits u = c :: r ∧ 48 ≤ c.toNat ∧ c.toNat ≤ 57 ∧ (c.toNat = 48 → u = 0 ∧ r = []) := by
  induction u using Nat.strongRecOn with
  | _ u ih =>
    rw [Lib.decDigits]
    split
    · rename_i h
      exact ⟨_, _, rfl, by rw [ofNat_dig h]; omega, by rw [ofNat_dig h]; omega, by rw [ofNat_dig h]; intro e; exact ⟨by omega, rfl⟩⟩
    · rename_i h
      obtain ⟨c, r, e, h1, h2, h3⟩ := ih (u / 10) (by omega)
      rw [e]
      exact ⟨c, _, rfl, h1, h2, fun k => by have := (h3 k).1; omega⟩
theorem ndig_le {u : Nat} : Lib.nDigits u ≤ 6 ↔ u ≤ 999999 := by
  constructor
  · intro h
    have h1 := Lib.lt_pow_nDigits u
    have h2 : 10 ^ Lib.nDigits u ≤ 10 ^ 6 := Nat.pow_le_pow_right (by decide) h
    have h3 : (10 : Nat) ^ 6 = 1000000 := by decide
    omega
  · intro h
    rcases Nat.lt_or_ge (Lib.nDigits u) 7 with h1 | h1
    · omega
    · exfalso
      have key : ∀ (k u : Nat), u < 10 ^ (k + 1) → Lib.nDigits u ≤ k + 1 := by
        intro k
        induction k with
        | zero => intro u h; rw [Lib.nDigits_small (by simpa using h)]; omega
        | succ k ih =>
          intro u h
          by_cases c : u < 10
          · rw [Lib.nDigits_small c]; omega
          · rw [Lib.nDigits_big c]
            have := ih (u / 10) (by rw [Nat.pow_succ] at h; omega)
            omega
      have := key 5 u (by have : (10 : Nat) ^ (5 + 1) = 1000000 := by decide
                          omega)
      omega
theorem itoa_head (n : Int) : (n < 0 ∧ Lib.itoa n = 45 :: Lib.decDigits n.natAbs) ∨ (0 ≤ n ∧ Lib.itoa n = Lib.decDigits n.natAbs) := by
  unfold Lib.itoa
  by_cases h : n < 0
  · rw [if_pos h]; exact .inl ⟨h, rfl⟩
  · rw [if_neg h, show n.toNat = n.natAbs by omega]; exact .inr ⟨by omega, rfl⟩
theorem atoi_itoa (n : Int) : Lib.atoi (Lib.itoa n) = some n := by
  have hd : ∀ u, Lib.decNat (Lib.decDigits u) = some u := fun u => by
    unfold Lib.decNat
    rw [if_neg (by have := dig_ne u; cases h : Lib.decDigits u <;> simp_all), decFrom_dig]
  rcases itoa_head n with ⟨h1, h2⟩ | ⟨h1, h2⟩
  · rw [h2, Lib.atoi, if_pos (show ((45 : UInt8) == 45) = true from rfl), hd]
    simp; omega
  · obtain ⟨c, r, e, k1, k2, _⟩ := dig_head n.natAbs
    have a1 : ¬ ((c == 45) = true) := fun h => by have := eq_of_beq h; subst this; exact absurd k1 (by decide)
    have a2 : ¬ ((c == 43) = true) := fun h => by have := eq_of_beq h; subst this; exact absurd k1 (by decide)
    rw [h2, e, Lib.atoi, if_neg a1, if_neg a2, ← e, hd]
    simp; omega
/-! numbers as texts -/
theorem dec_dig (u : Nat) : ∀ x ∈ Lib.decDigits u, 48 ≤ x.toNat ∧ x.toNat ≤ 57 := by
  induction u using Nat.strongRecOn with
  | ind u ih =>
    rw [Lib.decDigits]
    split
    · intro x hx
      rw [List.mem_singleton.1 hx, ofNat_dig (by assumption)]
      omega
    · intro x hx
      rcases List.mem_append.1 hx with h | h
      · exact ih (u / 10) (by omega) x h
      · rw [List.mem_singleton.1 h, ofNat_dig (by omega)]
        omega
theorem itoa_dig {n : Int} (h : 0 ≤ n) : ∀ x ∈ Lib.itoa n, 48 ≤ x.toNat ∧ x.toNat ≤ 57 := by
  rcases itoa_head n with ⟨h1, _⟩ | ⟨_, h2⟩
  · omega
  · rw [h2]; exact dec_dig _
theorem itoa_ne {n : Int} (h : 0 ≤ n) : Lib.itoa n ≠ [] := by
  rcases itoa_head n with ⟨h1, _⟩ | ⟨_, h2⟩
  · omega
  · rw [h2]; exact dig_ne _
theorem itoa_str {n : Int} (h : 0 ≤ n ∧ n ≤ 9223372036854775807) : itoa n = some (str (Lib.itoa n)) := by unfold itoa; rw [if_pos (by omega)]
/-- a number that the reader reads again -/
def Nu (n : Int) : Prop := (0 ≤ n ∧ n ≤ 9223372036854775807) ∧ Farenumber (str (Lib.itoa n)) = some (some n)
theorem nu_small {n : Int} (h : 0 ≤ n ∧ n ≤ 999999) : Nu n := by
  refine ⟨by omega, ?_⟩
  have hl : (Lib.itoa n).length ≤ 6 := by
    rcases itoa_head n with ⟨h1, _⟩ | ⟨_, h2⟩
    · omega
    · rw [h2, Lib.decDigits_length]; exact ndig_le.2 (by omega)
  have ha : Lib.atoiAll (Lib.itoa n) = .ok n := by rw [Lib.atoiAll_short _ (by omega), atoi_itoa]; rfl
  have hq : atoiq (str (Lib.itoa n)) = some (n, true) := by
    unfold atoiq
    rw [if_pos (by rw [str_size]; omega)]
    show some (match Lib.atoiAll (Lib.itoa n) with | .ok v => (v, true) | .range => (Lib.atoiSat (Lib.itoa n), false) | _ => (0, false)) = _
    rw [ha]
  unfold Farenumber
  rw [hq]
  simp only [Option.bind_some, Bool.not_true, Bool.false_eq_true, if_false, decide_eq_true_eq]
  rw [if_neg (by omega), itoa_str (by omega)]
  simp only [Option.bind_some, seq_self, Bool.not_true, Bool.false_eq_true, if_false]
/-! conditions and what their texts are -/
def nmL : List (List UInt8) := [[97, 108, 119, 97, 121, 115], [99, 97, 114, 100], [97, 103, 101], [116, 105, 109, 101], [107, 109], [99, 111, 117, 110, 116], [116, 111, 117, 99, 104], [98, 101, 103, 105, 110], [102, 105, 110, 105, 115, 104], [110, 111, 116]]
abbrev wNot : List UInt8 := [110, 111, 116]
abbrev wAnd : List UInt8 := [97, 110, 100]
abbrev wOr : List UInt8 := [111, 114]
def nm (k : Int) : List UInt8 := nmL[k.toNat]?.getD []
/-- the numbers of a condition's text -/
def nums (kd a b : Int) : List Int := (if decide (1 ≤ Farenumbers kd) then [a] else []) ++ (if decide (2 ≤ Farenumbers kd) then [b] else [])
def par (pk kd : Int) (t : List UInt8) : List UInt8 := if kd = 11 ∨ kd = 10 ∧ pk ≠ 11 then 40 :: t ++ [41] else t
def parW (pk kd : Int) (W : List (List UInt8)) : List (List UInt8) := if kd = 11 ∨ kd = 10 ∧ pk ≠ 11 then [40] :: W ++ [[41]] else W
def jT (w : List UInt8) : List (List UInt8) → List UInt8
  | [] => []
  | x :: r => x ++ r.flatMap fun y => 32 :: w ++ 32 :: y
def jW (w : List UInt8) : List (List (List UInt8)) → List (List UInt8)
  | [] => []
  | x :: r => x ++ r.flatMap fun y => w :: y
mutual
def cT : FareCond → List UInt8
  | ⟨kd, a, b, ks⟩ => if kd = 9 then wNot ++ 32 :: (ksT 9 ks).headD [] else if kd = 10 then jT wAnd (ksT 10 ks) else if kd = 11 then jT wOr (ksT 11 ks) else nm kd ++ (nums kd a b).flatMap fun n => 32 :: Lib.itoa n
def ksT (pk : Int) : List FareCond → List (List UInt8)
  | [] => []
  | k :: r => par pk k.Kind (cT k) :: ksT pk r
end
mutual
def cW : FareCond → List (List UInt8)
  | ⟨kd, a, b, ks⟩ => if kd = 9 then wNot :: (ksW 9 ks).headD [] else if kd = 10 then jW wAnd (ksW 10 ks) else if kd = 11 then jW wOr (ksW 11 ks) else nm kd :: (nums kd a b).map Lib.itoa
def ksW (pk : Int) : List FareCond → List (List (List UInt8))
  | [] => []
  | k :: r => parW pk k.Kind (cW k) :: ksW pk r
end
theorem ksT_map (pk : Int) : ∀ l, ksT pk l = l.map fun k => par pk k.Kind (cT k)
  | [] => by rw [ksT]; rfl
  | k :: r => by rw [ksT, ksT_map pk r]; rfl
theorem ksW_map (pk : Int) : ∀ l, ksW pk l = l.map fun k => parW pk k.Kind (cW k)
  | [] => by rw [ksW]; rfl
  | k :: r => by rw [ksW, ksW_map pk r]; rfl
/-- conditions that can be written and read -/
inductive Good : FareCond → Prop
  | leaf {kd a b : Int} (h : 0 ≤ kd ∧ kd ≤ 8) (ha : if 1 ≤ Farenumbers kd then Nu a else a = 0) (hb : if 2 ≤ Farenumbers kd then Nu b else b = 0) : Good ⟨kd, a, b, []⟩
  | not {k : FareCond} (h : Good k) : Good ⟨9, 0, 0, [k]⟩
  | grp {kd : Int} {ks : List FareCond} (h : kd = 10 ∨ kd = 11) (hl : 2 ≤ ks.length) (hk : ∀ k ∈ ks, Good k) : Good ⟨kd, 0, 0, ks⟩
/-- a letter of a condition's text -/
def okc (x : UInt8) : Prop := x = 32 ∨ x = 40 ∨ x = 41 ∨ (48 ≤ x.toNat ∧ x.toNat ≤ 57) ∨ (97 ≤ x.toNat ∧ x.toNat ≤ 122)
/-- a letter of a word -/
def okw (x : UInt8) : Prop := (48 ≤ x.toNat ∧ x.toNat ≤ 57) ∨ (97 ≤ x.toNat ∧ x.toNat ≤ 122)
theorem okw.c {x : UInt8} (h : okw x) : okc x := .inr (.inr (.inr h))
theorem okw.ne {x : UInt8} (h : okw x) : x ≠ 32 ∧ ¬ (x = 40 ∨ x = 41) := by
  refine ⟨?_, ?_⟩
  · rintro rfl; revert h; unfold okw; decide
  · rintro (rfl | rfl) <;> (revert h; unfold okw; decide)
theorem itoa_okw {n : Int} (h : 0 ≤ n) : ∀ x ∈ Lib.itoa n, okw x := fun x m => .inl (itoa_dig h x m)
theorem nm_cases {k : Int} (h : 0 ≤ k ∧ k ≤ 9) : k = 0 ∨ k = 1 ∨ k = 2 ∨ k = 3 ∨ k = 4 ∨ k = 5 ∨ k = 6 ∨ k = 7 ∨ k = 8 ∨ k = 9 := by omega
theorem nm_okw {k : Int} (h : 0 ≤ k ∧ k ≤ 9) : nm k ≠ [] ∧ ∀ x ∈ nm k, okw x := by
  have : ∀ w ∈ nmL, w ≠ [] ∧ ∀ x ∈ w, okw x := by unfold okw; decide
  refine this _ ?_
  unfold nm
  have hk : k.toNat < nmL.length := by show k.toNat < 10; omega
  rw [List.getElem?_eq_getElem hk]
  exact List.getElem_mem hk
/-! words of a text -/
def Tok (t : List UInt8) (W : List (List UInt8)) : Prop := ∀ L, ∃ b, t.foldl wst (L, true) = (L ++ W, b)
theorem tok_run : ∀ (t : List UInt8) (L : List (List UInt8)) (u : List UInt8), (∀ x ∈ t, okw x) → t.foldl wst (L ++ [u], false) = (L ++ [u ++ t], false)
  | [], L, u, _ => by simp
  | x :: t, L, u, h => by
    obtain ⟨h1, h2⟩ := (h x (by simp)).ne
    have e : wst (L ++ [u], false) x = (L ++ [u ++ [x]], false) := by unfold wst; rw [if_neg h1, if_neg h2, if_neg (by simp)]; simp
    rw [List.foldl_cons, e, tok_run t L _ (fun y m => h y (by simp [m]))]
    simp
theorem tok_word {w : List UInt8} (h0 : w ≠ []) (h : ∀ x ∈ w, okw x) : Tok w [w] := by
  intro L
  cases w with
  | nil => exact absurd rfl h0
  | cons x t =>
    obtain ⟨h1, h2⟩ := (h x (by simp)).ne
    have e : wst (L, true) x = (L ++ [[x]], false) := by unfold wst; rw [if_neg h1, if_neg h2, if_pos rfl]
    rw [List.foldl_cons, e, tok_run t L [x] (fun y m => h y (by simp [m]))]
    exact ⟨false, rfl⟩
theorem Tok.sp {t u : List UInt8} {W V : List (List UInt8)} (h : Tok t W) (k : Tok u V) : Tok (t ++ 32 :: u) (W ++ V) := by
  intro L
  obtain ⟨b, e⟩ := h L
  obtain ⟨b2, e2⟩ := k (L ++ W)
  refine ⟨b2, ?_⟩
  have e3 : wst (L ++ W, b) 32 = (L ++ W, true) := by unfold wst; rw [if_pos rfl]
  rw [List.foldl_append, e, List.foldl_cons, e3, e2]
  simp
theorem Tok.paren {t : List UInt8} {W : List (List UInt8)} (h : Tok t W) : Tok (40 :: t ++ [41]) ([40] :: W ++ [[41]]) := by
  intro L
  have e0 : wst (L, true) 40 = (L ++ [[40]], true) := by unfold wst; rw [if_neg (by decide), if_pos (.inl rfl)]
  obtain ⟨b, e⟩ := h (L ++ [[40]])
  have e3 : wst (L ++ [[40]] ++ W, b) 41 = (L ++ [[40]] ++ W ++ [[41]], true) := by unfold wst; rw [if_neg (by decide), if_pos (.inr rfl)]
  refine ⟨true, ?_⟩
  rw [List.cons_append, List.foldl_cons, e0, List.foldl_append, e, List.foldl_cons, e3]
  simp
theorem Tok.par {pk kd : Int} {t : List UInt8} {W : List (List UInt8)} (h : Tok t W) : Tok (Go.Fp.par pk kd t) (parW pk kd W) := by
  unfold Go.Fp.par parW
  split
  · exact h.paren
  · exact h
inductive All2 {α β : Type} (P : α → β → Prop) : List α → List β → Prop
  | nil : All2 P [] []
  | cons {a : α} {b : β} {l : List α} {m : List β} (h : P a b) (k : All2 P l m) : All2 P (a :: l) (b :: m)
theorem tok_j {w : List UInt8} (hw0 : w ≠ []) (hw : ∀ x ∈ w, okw x) : ∀ (r : List (List UInt8)) (R : List (List (List UInt8))) {t : List UInt8} {W : List (List UInt8)}, Tok t W → All2 Tok r R → Tok (t ++ r.flatMap fun y => 32 :: w ++ 32 :: y) (W ++ R.flatMap fun y => w :: y)
  | [], _, t, W, h, .nil => by simpa using h
  | y :: r, _, t, W, h, .cons (b := V) h1 h2 => by
    have k := tok_j hw0 hw r _ ((h.sp (tok_word hw0 hw)).sp h1) h2
    simpa [List.flatMap_cons] using k
theorem fa_map {α β γ : Type} {P : β → γ → Prop} {f : α → β} {g : α → γ} : ∀ {l : List α}, (∀ x ∈ l, P (f x) (g x)) → All2 P (l.map f) (l.map g)
  | [], _ => .nil
  | x :: l, h => .cons (h x (by simp)) (fa_map fun y m => h y (by simp [m]))
theorem Tok.j {w : List UInt8} (hw0 : w ≠ []) (hw : ∀ x ∈ w, okw x) {r : List (List UInt8)} {R : List (List (List UInt8))} (h : All2 Tok r R) (hn : r ≠ []) : Tok (jT w r) (jW w R) := by
  cases h with
  | nil => exact absurd rfl hn
  | cons h1 h2 => exact tok_j hw0 hw _ _ h1 h2
theorem nums_nu {kd a b : Int} (ha : if 1 ≤ Farenumbers kd then Nu a else a = 0) (hb : if 2 ≤ Farenumbers kd then Nu b else b = 0) : ∀ n ∈ nums kd a b, Nu n := by
  intro n hn
  unfold nums at hn
  rcases List.mem_append.1 hn with h | h
  · split at h
    · rename_i c
      rw [if_pos (of_decide_eq_true c)] at ha
      rw [List.mem_singleton.1 h]; exact ha
    · cases h
  · split at h
    · rename_i c
      rw [if_pos (of_decide_eq_true c)] at hb
      rw [List.mem_singleton.1 h]; exact hb
    · cases h
theorem tok_nums : ∀ (l : List Int) {t : List UInt8} {W : List (List UInt8)}, (∀ n ∈ l, Nu n) → Tok t W → Tok (t ++ l.flatMap fun n => 32 :: Lib.itoa n) (W ++ l.map Lib.itoa)
  | [], t, W, _, h => by simpa using h
  | n :: l, t, W, hn, h => by
    have h1 := (hn n (by simp)).1
    have k := tok_nums l (fun m hm => hn m (by simp [hm])) (h.sp (tok_word (itoa_ne h1.1) (itoa_okw h1.1)))
    simpa [List.flatMap_cons] using k
theorem tok_c {c : FareCond} (h : Good c) : Tok (cT c) (cW c) := by
  induction h with
  | @leaf kd a b h ha hb =>
    rw [cT, cW, if_neg (by omega), if_neg (by omega), if_neg (by omega), if_neg (by omega), if_neg (by omega), if_neg (by omega)]
    obtain ⟨h1, h2⟩ := nm_okw (k := kd) (by omega)
    exact tok_nums _ (nums_nu ha hb) (tok_word h1 h2)
  | @not k h ih =>
    rw [cT, cW, if_pos rfl, if_pos rfl, ksT, ksW]
    exact (tok_word (w := wNot) (by decide) (by unfold okw; decide)).sp ih.par
  | @grp kd ks h hl hk ih =>
    have hn : ∀ f : FareCond → List UInt8, ks.map f ≠ [] := fun f e => by rw [List.map_eq_nil_iff] at e; subst e; simp at hl
    rcases h with rfl | rfl
    · rw [cT, cW, if_neg (by decide), if_pos rfl, if_neg (by decide), if_pos rfl, ksT_map, ksW_map]
      exact Tok.j (by decide) (by unfold okw; decide) (fa_map fun x hx => (ih x hx).par) (hn _)
    · rw [cT, cW, if_neg (by decide), if_neg (by decide), if_pos rfl, if_neg (by decide), if_neg (by decide), if_pos rfl, ksT_map, ksW_map]
      exact Tok.j (by decide) (by unfold okw; decide) (fa_map fun x hx => (ih x hx).par) (hn _)
/-! letters of a condition's text -/
theorem okc_j {w : List UInt8} (hw : ∀ x ∈ w, okw x) : ∀ l : List (List UInt8), (∀ t ∈ l, ∀ x ∈ t, okc x) → ∀ x ∈ jT w l, okc x
  | [], _, x, h => by cases h
  | t :: r, ht, x, h => by
    rcases List.mem_append.1 h with h | h
    · exact ht t (by simp) x h
    · obtain ⟨y, hy, h⟩ := List.mem_flatMap.1 h
      rcases List.mem_append.1 h with h | h
      · rcases List.mem_cons.1 h with rfl | h
        · exact .inl rfl
        · exact (hw x h).c
      · rcases List.mem_cons.1 h with rfl | h
        · exact .inl rfl
        · exact ht y (by simp [hy]) x h
theorem okc_par {pk kd : Int} {t : List UInt8} (h : ∀ x ∈ t, okc x) : ∀ x ∈ par pk kd t, okc x := by
  intro x hx
  unfold par at hx
  split at hx
  · rcases List.mem_append.1 hx with hx | hx
    · rcases List.mem_cons.1 hx with rfl | hx
      · exact .inr (.inl rfl)
      · exact h x hx
    · rw [List.mem_singleton.1 hx]; exact .inr (.inr (.inl rfl))
  · exact h x hx
theorem okc_c {c : FareCond} (h : Good c) : ∀ x ∈ cT c, okc x := by
  induction h with
  | @leaf kd a b h ha hb =>
    intro x hx
    rw [cT, if_neg (by omega), if_neg (by omega), if_neg (by omega)] at hx
    rcases List.mem_append.1 hx with hx | hx
    · exact ((nm_okw (k := kd) (by omega)).2 x hx).c
    · obtain ⟨n, hn, hx⟩ := List.mem_flatMap.1 hx
      rcases List.mem_cons.1 hx with rfl | hx
      · exact .inl rfl
      · exact (itoa_okw (nums_nu ha hb n hn).1.1 x hx).c
  | @not k h ih =>
    intro x hx
    rw [cT, if_pos rfl, ksT] at hx
    rcases List.mem_append.1 hx with hx | hx
    · exact okw.c ((by unfold okw; decide : ∀ x ∈ wNot, okw x) x hx)
    · rcases List.mem_cons.1 hx with rfl | hx
      · exact .inl rfl
      · exact okc_par ih x hx
  | @grp kd ks h hl hk ih =>
    rcases h with rfl | rfl
    · rw [cT, if_neg (by decide), if_pos rfl, ksT_map]
      exact okc_j (by unfold okw; decide) _ (fun t ht => by obtain ⟨k, hk, rfl⟩ := List.mem_map.1 ht; exact okc_par (ih k hk))
    · rw [cT, if_neg (by decide), if_neg (by decide), if_pos rfl, ksT_map]
      exact okc_j (by unfold okw; decide) _ (fun t ht => by obtain ⟨k, hk, rfl⟩ := List.mem_map.1 ht; exact okc_par (ih k hk))
/-! the writers -/
theorem par_len (pk kd : Int) (t : List UInt8) : t.length ≤ (par pk kd t).length ∧ (par pk kd t).length ≤ t.length + 2 := by
  unfold par
  split <;> simp <;> omega
theorem flat_mem {w : List UInt8} : ∀ {r : List (List UInt8)} {t : List UInt8}, t ∈ r → t.length + w.length + 2 ≤ (r.flatMap fun y => 32 :: w ++ 32 :: y).length
  | [], _, h => by cases h
  | z :: r, t, h => by
    rw [List.flatMap_cons, List.length_append]
    rcases List.mem_cons.1 h with rfl | h
    · simp; omega
    · have := flat_mem (w := w) h; omega
theorem jT_mem {w : List UInt8} : ∀ {l : List (List UInt8)} {t : List UInt8}, t ∈ l → 2 ≤ l.length → t.length + 3 + w.length ≤ (jT w l).length + 1
  | [], t, h, _ => by cases h
  | [x], t, h, h2 => absurd h2 (by simp)
  | x :: y :: r, t, h, _ => by
    have e : (jT w (x :: y :: r)).length = x.length + (w.length + 2 + y.length) + (r.flatMap fun y => 32 :: w ++ 32 :: y).length := by
      simp [jT, List.flatMap_cons]; omega
    rcases List.mem_cons.1 h with rfl | h
    · omega
    · rcases List.mem_cons.1 h with rfl | h
      · omega
      · have := flat_mem (w := w) h
        omega
theorem join_jT (w : List UInt8) : ∀ l : List (List UInt8), Lib.join l (32 :: w ++ [32]) = jT w l
  | [] => rfl
  | x :: r => by
    rw [Lib.join_cons, jT]
    congr 1
    unfold Lib.joinTail
    rw [List.flatMap_def]
    congr 1
    refine List.map_congr_left fun y _ => ?_
    simp
theorem joinq_jT {w : List UInt8} {l : List (List UInt8)} (h : (jT w l).length ≤ 1000000) (hl : l.length ≤ 2000000) : joinq (l.map str) (str (32 :: w ++ [32])) = some (str (jT w l)) := by
  have e : (l.map str).map (fun x : ByteArray => x.data.toList) = l := by rw [List.map_map]; exact (List.map_congr_left fun x _ => rfl).trans (List.map_id _)
  unfold joinq
  rw [e, str_list, join_jT, if_pos ⟨by rw [List.length_map]; omega, by omega⟩]
theorem gx_nm {k : Int} (h : 0 ≤ k ∧ k ≤ 9) : gx (nmL.map str) k = some (str (nm k)) := by
  have hk : k.toNat < nmL.length := by show k.toNat < 10; omega
  unfold gx
  rw [if_pos h.1, List.getElem?_map]
  unfold nm
  rw [List.getElem?_eq_getElem hk]
  rfl
/-- a kid's text, by the program -/
theorem p_kid {self : FareCond → Option ByteArray} {k c : FareCond} (h : self k = some (str (cT k))) (hl : (cT k).length ≤ 1000000) : FareCondtext_1_v3 self k c = some (str (par c.Kind k.Kind (cT k))) := by
  unfold FareCondtext_1_v3
  rw [h, Option.bind_some, bnd_eq]
  have e : (if (k.Kind == 10) = true then (if (c.Kind != 11) = true then true else (k.Kind == 11)) else (k.Kind == 11)) = decide (k.Kind = 11 ∨ k.Kind = 10 ∧ c.Kind ≠ 11) := by
    by_cases a : k.Kind = 10
    · by_cases b : c.Kind = 11 <;> simp [a, b]
    · by_cases b : k.Kind = 11 <;> simp [a, b]
  rw [e]
  unfold par
  by_cases hp : k.Kind = 11 ∨ k.Kind = 10 ∧ c.Kind ≠ 11
  · rw [if_pos (decide_eq_true hp), if_pos hp, scat_str (by simp; omega), Option.bind_some, scat_str (by simp; omega)]
    rfl
  · rw [if_neg (by simpa using hp), if_neg hp]
theorem r_kid {self : FareCond → Option ByteArray} {k c : FareCond} (h : self k = some (str (cT k))) (hl : (cT k).length ≤ 1000000) : Fishref2kidText self c k = some (str (par c.Kind k.Kind (cT k))) := by
  unfold Fishref2kidText
  rw [h, Option.bind_some, bnd_eq]
  have e : (if (k.Kind == 11) = true then true else (if (k.Kind == 10) = true then (c.Kind != 11) else false)) = decide (k.Kind = 11 ∨ k.Kind = 10 ∧ c.Kind ≠ 11) := by
    by_cases a : k.Kind = 10
    · by_cases b : c.Kind = 11 <;> simp [a, b]
    · by_cases b : k.Kind = 11 <;> simp [a, b]
  rw [e]
  unfold par
  by_cases hp : k.Kind = 11 ∨ k.Kind = 10 ∧ c.Kind ≠ 11
  · rw [if_pos (decide_eq_true hp), if_pos hp, scat_str (by simp; omega), Option.bind_some, scat_str (by simp; omega)]
    rfl
  · rw [if_neg (by simpa using hp), if_neg hp]
theorem p_kids {self : FareCond → Option ByteArray} {c : FareCond} : ∀ (l : List FareCond) (q : List (List UInt8)), (∀ k ∈ l, self k = some (str (cT k)) ∧ (cT k).length ≤ 1000000) → q.length + l.length ≤ 2000000 →
    FareCondtext.loop1 c self l (q.map str) = some ((q ++ l.map fun k => par c.Kind k.Kind (cT k)).map str)
  | [], q, _, _ => by simp [FareCondtext.loop1]
  | k :: r, q, h, hl => by
    simp only [List.length_cons] at hl
    obtain ⟨h1, h2⟩ := h k (by simp)
    rw [FareCondtext.loop1, p_kid h1 h2, Option.bind_some, apd_lt (by simp; omega), Option.bind_some]
    have := p_kids (c := c) r (q ++ [par c.Kind k.Kind (cT k)]) (fun y m => h y (by simp [m])) (by simp; omega)
    rw [List.map_append] at this
    rw [show q.map str ++ [str (par c.Kind k.Kind (cT k))] = q.map str ++ [par c.Kind k.Kind (cT k)].map str from rfl, this]
    simp
theorem r_kids {self : FareCond → Option ByteArray} {c : FareCond} : ∀ (l : List FareCond) (q : List (List UInt8)), (∀ k ∈ l, self k = some (str (cT k)) ∧ (cT k).length ≤ 1000000) → q.length + l.length ≤ 2000000 →
    Fishref2CondText.loop1 c self l (q.map str) = some ((q ++ l.map fun k => par c.Kind k.Kind (cT k)).map str)
  | [], q, _, _ => by simp [Fishref2CondText.loop1]
  | k :: r, q, h, hl => by
    simp only [List.length_cons] at hl
    obtain ⟨h1, h2⟩ := h k (by simp)
    rw [Fishref2CondText.loop1, r_kid h1 h2, Option.bind_some, apd_lt (by simp; omega), Option.bind_some]
    have := r_kids (c := c) r (q ++ [par c.Kind k.Kind (cT k)]) (fun y m => h y (by simp [m])) (by simp; omega)
    rw [List.map_append] at this
    rw [show q.map str ++ [str (par c.Kind k.Kind (cT k))] = q.map str ++ [par c.Kind k.Kind (cT k)].map str from rfl, this]
    simp
theorem itoa_len {n : Int} (h : Nu n) : (Lib.itoa n).length ≤ 21 := Lib.itoa_length_le n (by have := h.1; omega) h.1.2
theorem num_step {t : List UInt8} {n : Int} (h : Nu n) (ht : t.length ≤ 2000000) : ((itoa n).bind fun q => ((scat (str [32]) q).bind fun x => ((scat (str t) x).bind fun y => some y))) = some (str (t ++ 32 :: Lib.itoa n)) := by
  have := itoa_len h
  rw [itoa_str h.1, Option.bind_some, scat_str (by simp; omega), Option.bind_some, scat_str (by simp; omega)]
  simp
theorem nm_len {k : Int} (h : 0 ≤ k ∧ k ≤ 9) : (nm k).length ≤ 6 := by
  have : ∀ w ∈ nmL, w.length ≤ 6 := by decide
  refine this _ ?_
  unfold nm
  have hk : k.toNat < nmL.length := by show k.toNat < 10; omega
  rw [List.getElem?_eq_getElem hk]
  exact List.getElem_mem hk
theorem nn_cases (k : Int) : Farenumbers k = 0 ∨ Farenumbers k = 1 ∨ Farenumbers k = 2 := by
  unfold Farenumbers
  simp only [bnd_eq]
  repeat' split
  all_goals first | exact .inl rfl | exact .inr (.inl rfl) | exact .inr (.inr rfl)
theorem p_nums {kd a b : Int} {ks : List FareCond} (ha : if 1 ≤ Farenumbers kd then Nu a else a = 0) (hb : if 2 ≤ Farenumbers kd then Nu b else b = 0) {t : List UInt8} (ht : t.length ≤ 1000) :
    FareCondtext.loop2 ⟨kd, a, b, ks⟩ [a, b] 0 (str t) = some (str (t ++ (nums kd a b).flatMap fun n => 32 :: Lib.itoa n)) := by
  simp only [FareCondtext.loop2]
  unfold nums
  rcases nn_cases kd with e | e | e
  · rw [e]; simp
  · rw [e] at ha ⊢
    rw [if_pos (by decide)] at ha
    have h1 := num_step (t := t) ha (by omega)
    rw [if_pos (by decide), h1]
    simp
  · rw [e] at ha hb ⊢
    rw [if_pos (by decide)] at ha hb
    have := itoa_len ha
    have h1 := num_step (t := t) ha (by omega)
    have h2 := num_step (t := t ++ 32 :: Lib.itoa a) hb (by simp; omega)
    rw [if_pos (by decide), h1, Option.bind_some, if_pos (by decide), h2]
    simp
theorem r_nums {kd a b : Int} {ks : List FareCond} (ha : if 1 ≤ Farenumbers kd then Nu a else a = 0) (hb : if 2 ≤ Farenumbers kd then Nu b else b = 0) {t : List UInt8} (ht : t.length ≤ 1000) {fu : Nat} (hf : 3 ≤ fu) :
    ∃ j, Fishref2CondText.loop3 ⟨kd, a, b, ks⟩ fu (str t) 0 = some (str (t ++ (nums kd a b).flatMap fun n => 32 :: Lib.itoa n), j) := by
  obtain ⟨f, rfl⟩ : ∃ f, fu = f + 3 := ⟨fu - 3, by omega⟩
  have hN : Fishref2numbersOf kd = Farenumbers kd := by rw [show Fishref2numbersOf = Farenumbers from rfl]
  unfold nums
  rw [Fishref2CondText.loop3]
  simp only [hN]
  rcases nn_cases kd with e | e | e
  · rw [e]; exact ⟨0, by simp⟩
  · rw [e] at ha ⊢
    rw [if_pos (by decide)] at ha
    have l1 := itoa_len ha
    rw [if_pos (by decide), show gx [a, b] 0 = some a from rfl, Option.bind_some, itoa_str ha.1, Option.bind_some, scat_str (by simp; omega), Option.bind_some, scat_str (by simp; omega), Option.bind_some, Fishref2CondText.loop3]
    simp only [hN, e]
    exact ⟨1, by rw [if_neg (by decide)]; simp; rfl⟩
  · rw [e] at ha hb ⊢
    rw [if_pos (by decide)] at ha hb
    have l1 := itoa_len ha
    have l2 := itoa_len hb
    rw [if_pos (by decide), show gx [a, b] 0 = some a from rfl, Option.bind_some, itoa_str ha.1, Option.bind_some, scat_str (by simp; omega), Option.bind_some, scat_str (by simp; omega), Option.bind_some, Fishref2CondText.loop3]
    simp only [hN, e]
    rw [if_pos (by decide), show gx [a, b] (w64 (0 + 1)) = some b from rfl, Option.bind_some, itoa_str hb.1, Option.bind_some, scat_str (by simp; omega), Option.bind_some, scat_str (by simp; omega), Option.bind_some, Fishref2CondText.loop3]
    simp only [hN, e]
    exact ⟨2, by rw [if_neg (by decide)]; simp; rfl⟩
theorem kids_len {w : List UInt8} {pk : Int} {ks : List FareCond} (hl : 2 ≤ ks.length) : ks.length ≤ (jT w (ks.map fun k => par pk k.Kind (cT k))).length + 1 := by
  match ks, hl with
  | x :: r, _ =>
    simp only [List.map_cons, jT, List.length_append, List.length_cons]
    have : ∀ l : List FareCond, l.length ≤ (List.flatMap (fun y => 32 :: w ++ 32 :: y) (l.map fun k => par pk k.Kind (cT k))).length := by
      intro l
      induction l with
      | nil => simp
      | cons y l ih => simp only [List.map_cons, List.flatMap_cons, List.length_append, List.length_cons]; omega
    have := this r
    omega
theorem c_text {c : FareCond} (h : Good c) : ∀ fu : Nat, (cT c).length + 4 ≤ fu → (cT c).length ≤ 1000000 → FareCondtext fu c = some (str (cT c)) ∧ Fishref2CondText fu c = some (str (cT c)) := by
  induction h with
  | @leaf kd a b h ha hb =>
    intro fu hf hz
    obtain ⟨f, rfl⟩ : ∃ f, fu = f + 1 := ⟨fu - 1, by omega⟩
    have e : cT ⟨kd, a, b, []⟩ = nm kd ++ (nums kd a b).flatMap fun n => 32 :: Lib.itoa n := by rw [cT, if_neg (by omega), if_neg (by omega), if_neg (by omega)]
    have hnl := nm_len (k := kd) (by omega)
    have hn0 : 0 < (nm kd).length := List.length_pos_iff.2 (nm_okw (k := kd) (by omega)).1
    have hel := congrArg List.length e
    rw [List.length_append] at hel
    have n9 : (kd == 9) = false := by rw [Bool.eq_false_iff]; simp; omega
    have n10 : (kd == 10) = false := by rw [Bool.eq_false_iff]; simp; omega
    have n11 : (kd == 11) = false := by rw [Bool.eq_false_iff]; simp; omega
    obtain ⟨j, hj⟩ := r_nums (ks := []) ha hb (t := nm kd) (by omega) (fu := f) (by omega)
    constructor
    · rw [FareCondtext]
      simp only [n9, n10, n11, bnd_eq, Bool.false_eq_true, if_false, Option.bind_some]
      have hg : gx [Farenames.f0, Farenames.f1, Farenames.f2, Farenames.f3, Farenames.f4, Farenames.f5, Farenames.f6, Farenames.f7, Farenames.f8, Farenames.f9] kd = some (str (nm kd)) := gx_nm (by omega)
      rw [hg, Option.bind_some, p_nums ha hb (by omega), e]
      rfl
    · rw [Fishref2CondText]
      simp only [n9, n10, n11, bnd_eq, Bool.false_eq_true, if_false, Option.bind_some]
      have hg : gx [(str [97, 108, 119, 97, 121, 115]), (str [99, 97, 114, 100]), (str [97, 103, 101]), (str [116, 105, 109, 101]), (str [107, 109]), (str [99, 111, 117, 110, 116]), (str [116, 111, 117, 99, 104]), (str [98, 101, 103, 105, 110]), (str [102, 105, 110, 105, 115, 104])] kd = some (str (nm kd)) := by
        rcases nm_cases (k := kd) (by omega) with rfl | rfl | rfl | rfl | rfl | rfl | rfl | rfl | rfl | rfl
        all_goals first | rfl | omega
      rw [hg, Option.bind_some, hj, e]
      rfl
  | @not k h ih =>
    intro fu hf hz
    obtain ⟨f, rfl⟩ : ∃ f, fu = f + 1 := ⟨fu - 1, by omega⟩
    have e : cT ⟨9, 0, 0, [k]⟩ = wNot ++ 32 :: par 9 k.Kind (cT k) := by rw [cT, if_pos rfl, ksT]; rfl
    have hp := par_len 9 k.Kind (cT k)
    have el : (cT ⟨9, 0, 0, [k]⟩).length = 4 + (par 9 k.Kind (cT k)).length := by rw [e]; simp; omega
    obtain ⟨k1, k2⟩ := ih f (by omega) (by omega)
    constructor
    · rw [FareCondtext]; dsimp only; rw [if_pos (show ((9 : Int) == 9) = true from rfl), show gx [k] 0 = some k from rfl, Option.bind_some, p_kid k1 (by omega), Option.bind_some, scat_str (by simp; omega), e]
      rfl
    · rw [Fishref2CondText]; dsimp only; rw [if_pos (show ((9 : Int) == 9) = true from rfl), show gx [k] 0 = some k from rfl, Option.bind_some, r_kid k2 (by omega), Option.bind_some, scat_str (by simp; omega), e]
      rfl
  | @grp kd ks h hl hk ih =>
    intro fu hf hz
    obtain ⟨f, rfl⟩ : ∃ f, fu = f + 1 := ⟨fu - 1, by omega⟩
    have key : ∀ w : List UInt8, cT ⟨kd, 0, 0, ks⟩ = jT w (ks.map fun k => par kd k.Kind (cT k)) → (∀ k ∈ ks, FareCondtext f k = some (str (cT k)) ∧ Fishref2CondText f k = some (str (cT k)) ∧ (cT k).length ≤ 1000000) ∧ ks.length ≤ 1000001 := by
      intro w hw
      have h0 := kids_len (w := w) (pk := kd) hl
      rw [← hw] at h0
      refine ⟨fun k hm => ?_, by omega⟩
      have h1 := jT_mem (w := w) (List.mem_map_of_mem (f := fun k : FareCond => par kd k.Kind (cT k)) hm) (by simpa using hl)
      rw [← hw] at h1
      have h2 := par_len kd k.Kind (cT k)
      obtain ⟨k1, k2⟩ := ih k hm f (by omega) (by omega)
      exact ⟨k1, k2, by omega⟩
    rcases h with rfl | rfl
    · have e : cT ⟨10, 0, 0, ks⟩ = jT wAnd (ks.map fun k => par 10 k.Kind (cT k)) := by rw [cT, if_neg (by decide), if_pos rfl, ksT_map]
      obtain ⟨hs, hn⟩ := key wAnd e
      have hj : joinq ((ks.map fun k => par 10 k.Kind (cT k)).map str) (str [32, 97, 110, 100, 32]) = some (str (cT ⟨10, 0, 0, ks⟩)) := by rw [e] at hz ⊢; exact joinq_jT hz (by rw [List.length_map]; omega)
      constructor
      · have h1 := p_kids (c := ⟨10, 0, 0, ks⟩) ks [] (fun k hm => ⟨(hs k hm).1, (hs k hm).2.2⟩) (by simp; omega)
        rw [List.nil_append, List.map_nil] at h1
        rw [FareCondtext]; dsimp only
        rw [if_neg (show ¬ ((10 : Int) == 9) = true by decide), bnd_eq, if_pos (show ((10 : Int) == 10) = true from rfl), if_pos (show ((10 : Int) == 10) = true from rfl), h1, Option.bind_some]
        rw [show (mget (mput (mput [] (10 : Int) (str [32, 97, 110, 100, 32])) 11 (str [32, 111, 114, 32])) 10).getD ByteArray.empty = str [32, 97, 110, 100, 32] from rfl, hj]
        rfl
      · have h1 := r_kids (c := ⟨10, 0, 0, ks⟩) ks [] (fun k hm => ⟨(hs k hm).2.1, (hs k hm).2.2⟩) (by simp; omega)
        rw [List.nil_append, List.map_nil] at h1
        rw [Fishref2CondText]; dsimp only
        rw [if_neg (show ¬ ((10 : Int) == 9) = true by decide), bnd_eq, if_pos (show ((10 : Int) == 10) = true from rfl), if_pos (show ((10 : Int) == 10) = true from rfl), bnd_eq, if_neg (show ¬ ((10 : Int) == 11) = true by decide), h1, Option.bind_some, hj]
        rfl
    · have e : cT ⟨11, 0, 0, ks⟩ = jT wOr (ks.map fun k => par 11 k.Kind (cT k)) := by rw [cT, if_neg (by decide), if_neg (by decide), if_pos rfl, ksT_map]
      obtain ⟨hs, hn⟩ := key wOr e
      have hj : joinq ((ks.map fun k => par 11 k.Kind (cT k)).map str) (str [32, 111, 114, 32]) = some (str (cT ⟨11, 0, 0, ks⟩)) := by rw [e] at hz ⊢; exact joinq_jT hz (by rw [List.length_map]; omega)
      constructor
      · have h1 := p_kids (c := ⟨11, 0, 0, ks⟩) ks [] (fun k hm => ⟨(hs k hm).1, (hs k hm).2.2⟩) (by simp; omega)
        rw [List.nil_append, List.map_nil] at h1
        rw [FareCondtext]; dsimp only
        rw [if_neg (show ¬ ((11 : Int) == 9) = true by decide), bnd_eq, if_neg (show ¬ ((11 : Int) == 10) = true by decide), if_pos (show ((11 : Int) == 11) = true from rfl), h1, Option.bind_some]
        rw [show (mget (mput (mput [] (10 : Int) (str [32, 97, 110, 100, 32])) 11 (str [32, 111, 114, 32])) 11).getD ByteArray.empty = str [32, 111, 114, 32] from rfl, hj]
        rfl
      · have h1 := r_kids (c := ⟨11, 0, 0, ks⟩) ks [] (fun k hm => ⟨(hs k hm).2.1, (hs k hm).2.2⟩) (by simp; omega)
        rw [List.nil_append, List.map_nil] at h1
        rw [Fishref2CondText]; dsimp only
        rw [if_neg (show ¬ ((11 : Int) == 9) = true by decide), bnd_eq, if_neg (show ¬ ((11 : Int) == 10) = true by decide), if_pos (show ((11 : Int) == 11) = true from rfl), bnd_eq, if_pos (show ((11 : Int) == 11) = true from rfl), h1, Option.bind_some, hj]
        rfl
/-! the reader: marks and words -/
abbrev rdr (W : List (List UInt8)) (p : Nat) : FareReader := ⟨W.map str, ((p : Nat) : Int)⟩
theorem drop_get {α : Type} {l : List α} {p : Nat} {x : α} {r : List α} (h : l.drop p = x :: r) : l[p]? = some x ∧ p < l.length ∧ l.drop (p + 1) = r := by
  have h1 : l[p]? = some x := by
    have := List.getElem?_drop (xs := l) (i := p) (j := 0)
    rw [h] at this
    simpa using this.symm
  refine ⟨h1, (List.getElem?_eq_some_iff.1 h1).1, ?_⟩
  have := List.drop_drop (i := 1) (j := p) (l := l)
  rw [h] at this
  simpa using this.symm
theorem seq_ne {a b : List UInt8} (h : a ≠ b) : seq (str a) (str b) = false := by
  rw [Bool.eq_false_iff]
  exact fun k => h ((seq_iff _ _).1 k)
theorem w64_succ {p : Nat} (h : p < 1000000) : w64 (((p : Nat) : Int) + 1) = ((p + 1 : Nat) : Int) := by rw [w64_id (by omega)]; omega
section
variable {W : List (List UInt8)} (hW : W.length ≤ 200000)
theorem gx_word {p : Nat} {w r} (h : W.drop p = w :: r) : gx (W.map str) ((p : Nat) : Int) = some (str w) := by
  rw [gx_nat, List.getElem?_map, (drop_get h).1]; rfl
include hW in
theorem take_hit {p : Nat} {w r} (h : W.drop p = w :: r) : FareReadertake_v1 (str w) (rdr W p) = some (true, ((p + 1 : Nat) : Int)) := by
  obtain ⟨_, h1, _⟩ := drop_get h
  unfold FareReadertake_v1
  rw [if_pos (decide_eq_true (by simp; omega)), gx_word h, Option.bind_some, Option.bind_some, if_pos (seq_self _), w64_succ (by omega)]
theorem take_miss {p : Nat} {w} (_ : p ≤ W.length) (h : ∀ r, W.drop p ≠ w :: r) : FareReadertake_v1 (str w) (rdr W p) = some (false, ((p : Nat) : Int)) := by
  unfold FareReadertake_v1
  rcases Nat.lt_or_ge p W.length with h1 | h1
  · have hd := List.drop_eq_getElem_cons h1
    rw [if_pos (decide_eq_true (by simp; omega)), gx_word hd, Option.bind_some, Option.bind_some, if_neg]
    rw [seq_ne (fun e => h _ (e ▸ hd))]
    decide
  · rw [if_neg (by simp; omega), Option.bind_some, if_neg (by decide)]
include hW in
theorem must_hit {p : Nat} {w r} (h : W.drop p = w :: r) : FareReadermust_v1 (str w) (rdr W p) = some (some ((p + 1 : Nat) : Int)) := by
  unfold FareReadermust_v1
  rw [take_hit hW h, Option.bind_some]
  rfl
theorem must_miss {p : Nat} {w} (hp : p ≤ W.length) (h : ∀ r, W.drop p ≠ w :: r) : FareReadermust_v1 (str w) (rdr W p) = some none := by
  unfold FareReadermust_v1
  rw [take_miss hp h, Option.bind_some]
  rfl
include hW in
theorem word_hit {p : Nat} {w r} (h : W.drop p = w :: r) : FareReaderword_v1 (rdr W p) = some (some (str w, ((p + 1 : Nat) : Int))) := by
  obtain ⟨_, h1, _⟩ := drop_get h
  unfold FareReaderword_v1
  have e : w64 (((p + 1 : Nat) : Int) - 1) = ((p : Nat) : Int) := by rw [w64_id (by omega)]; omega
  rw [if_neg (by simp; omega), w64_succ (by omega), e, gx_word h]
  rfl
theorem word_end {p : Nat} (h : p = W.length) : FareReaderword_v1 (rdr W p) = some none := by
  unfold FareReaderword_v1
  rw [if_pos (by simp [h])]
include hW in
theorem number_hit {p : Nat} {n : Int} {r} (hn : Nu n) (h : W.drop p = Lib.itoa n :: r) : FareReadernumber_v1 (rdr W p) = some (some (n, ((p + 1 : Nat) : Int))) := by
  unfold FareReadernumber_v1
  rw [word_hit hW h, Option.bind_some]
  dsimp only
  rw [hn.2, Option.bind_some]
/-! the reader: lists -/
def uW (c : FareCond) : List (List UInt8) := parW 10 c.Kind (cW c)
def aW (c : FareCond) : List (List UInt8) := parW 11 c.Kind (cW c)
/-- E reads what X writes, ahead of words that Z permits -/
def Reads (W : List (List UInt8)) (X : FareCond → List (List UInt8)) (Z : List UInt8 → Prop) (fu : Nat) (E : FareReader → Option (Option (FareCond × Int))) : Prop :=
  ∀ (c : FareCond) (p : Nat) (rest : List (List UInt8)), Good c → p ≤ W.length → W.drop p = X c ++ rest → (∀ w r, rest = w :: r → Z w) → W.length + 5 ≤ fu + p → E (rdr W p) = some (some (c, ((p + (X c).length : Nat) : Int)))
theorem drop_app {α : Type} {l a b : List α} {p : Nat} (h : l.drop p = a ++ b) : l.drop (p + a.length) = b := by
  rw [← List.drop_drop, h, List.drop_left]
theorem drop_le {α : Type} {l a b : List α} {p : Nat} (h : l.drop p = a ++ b) (hp : p ≤ l.length) : p + a.length ≤ l.length := by
  have := congrArg List.length h
  rw [List.length_drop, List.length_append] at this
  omega
theorem fr_flat_len {w : List UInt8} {X : FareCond → List (List UInt8)} : ∀ r : List FareCond, r.length ≤ (r.flatMap fun k => w :: X k).length
  | [] => by simp
  | y :: r => by have := fr_flat_len (w := w) (X := X) r; simp only [List.flatMap_cons, List.length_append, List.length_cons]; omega
include hW in
theorem loop_reads {w : List UInt8} {X : FareCond → List (List UInt8)} {Z Z' : List UInt8 → Prop} {fu : Nat} {E : FareReader → Option (Option (FareCond × Int))} (hE : Reads W X Z fu E) (hZw : Z w) (hZ : ∀ v, Z' v → Z v ∧ v ≠ w)
    {F : Nat → List FareCond → Int → Option (Out (Option (FareCond × Int)) ((List FareCond) × Int))}
    (hF : ∀ n q p, F (n + 1) q p = ((FareReadertake_v1 (str w) (FareReader.mk (W.map str) p)).bind fun q86 => (if q86.1 then ((E (FareReader.mk (W.map str) q86.2)).bind fun q89 => match q89 with | none => some (.ret none) | some rr91 => ((apd q [rr91.1]).bind fun x104 => F n x104 rr91.2)) else some (.next (q, q86.2))))) :
    ∀ (r : List FareCond) (n : Nat) (q : List FareCond) (p : Nat) (rest : List (List UInt8)), (∀ k ∈ r, Good k) → p ≤ W.length → W.drop p = (r.flatMap fun k => w :: X k) ++ rest → (∀ v r, rest = v :: r → Z' v) → W.length + 5 ≤ fu + p → r.length + 1 ≤ n → q.length + r.length ≤ 1000000 →
      F n q ((p : Nat) : Int) = some (.next (q ++ r, ((p + (r.flatMap fun k => w :: X k).length : Nat) : Int)))
  | [], n, q, p, rest, _, hp, hd, hr, _, hn, _ => by
    obtain ⟨m, rfl⟩ : ∃ m, n = m + 1 := ⟨n - 1, by simp at hn; omega⟩
    rw [hF, take_miss hp (fun r e => by
      rw [hd] at e
      exact (hZ _ (hr w r (by simpa using e))).2 rfl), Option.bind_some, if_neg (by simp)]
    simp
  | k :: r, n, q, p, rest, hg, hp, hd, hr, hf, hn, hq => by
    obtain ⟨m, rfl⟩ : ∃ m, n = m + 1 := ⟨n - 1, by simp at hn; omega⟩
    simp only [List.length_cons] at hn hq
    have hd1 : W.drop p = w :: (X k ++ ((r.flatMap fun k => w :: X k) ++ rest)) := by rw [hd]; simp [List.flatMap_cons]
    obtain ⟨_, hlt, hd2⟩ := drop_get hd1
    have hd3 := drop_app hd2
    have hle := drop_le hd2 (by omega)
    rw [hF, take_hit hW hd1, Option.bind_some, if_pos rfl, hE k (p + 1) _ (hg k (by simp)) (by omega) hd2 (fun v s e => by
      cases r with
      | nil => exact (hZ v (hr v s (by simpa using e))).1
      | cons k2 r2 =>
        rw [List.flatMap_cons, List.cons_append, List.cons_append] at e
        injection e with e1 e2
        rw [← e1]; exact hZw) (by omega), Option.bind_some]
    dsimp only
    rw [apd_lt (by simp; omega), Option.bind_some, loop_reads hE hZw hZ hF r m (q ++ [k]) _ rest (fun y hy => hg y (by simp [hy])) hle hd3 hr (by omega) (by omega) (by simp; omega)]
    simp only [List.append_assoc, List.singleton_append, List.flatMap_cons, List.length_append, List.length_cons]
    congr 4
    omega
/-! names -/
/-- what the reader does at a name that it knows -/
def hitB (y0 : FareReader) (fu : Nat) (self : FareReader → Option (Option (FareCond × Int))) (k92 : Nat) (q108 : Int) : Option (Out (Option (FareCond × Int)) (Int × Int × Int × (List FareCond) × Int)) :=
  (((if (((k92 : Nat) : Int) == 9) then ((self (FareReader.mk y0.words q108)).bind fun q123 => match q123 with | none => some (.ret none) | some rr125 => some (.next ([rr125.1], rr125.2))) else some (.next ([], q108))) : Option (Out (Option (FareCond × Int)) ((List FareCond) × Int))).bind fun q113 => match q113 with | .ret r => some (.ret r) | .next (q116, q120) => ((FareReaderone_v1.loop3 y0 k92 fu 0 0 0 q120).bind fun q155 => match q155 with | .ret r => some (.ret r) | .next (_, q161, q162, q163) => some (.ret (some ((FareCond.mk ((k92 : Nat) : Int) q161 q162 q116), q163)))))
theorem names_run {y0 : FareReader} {fu : Nat} {self : FareReader → Option (Option (FareCond × Int))} {w : List UInt8} {z : Int} : ∀ (l : List (List UInt8)) (k : Nat) (a b c : Int) (d : List FareCond) (p : Int),
    (∃ j, l[j]? = some w ∧ FareReaderone_v1.loop1 y0 fu self (str w, z) (l.map str) k a b c d p = hitB y0 fu self (k + j) p) ∨ (w ∉ l ∧ FareReaderone_v1.loop1 y0 fu self (str w, z) (l.map str) k a b c d p = some (.next (a, b, c, d, p)))
  | [], k, a, b, c, d, p => .inr ⟨by simp, rfl⟩
  | x :: l, k, a, b, c, d, p => by
    rw [List.map_cons, FareReaderone_v1.loop1]
    by_cases h : w = x
    · subst h
      refine .inl ⟨0, rfl, ?_⟩
      rw [if_neg (by rw [seq_self]; decide)]
      rfl
    · rw [if_pos (by rw [seq_ne h]; rfl)]
      rcases names_run l (k + 1) a b c d p with ⟨j, h1, h2⟩ | ⟨h1, h2⟩
      · refine .inl ⟨j + 1, by simpa using h1, ?_⟩
        rw [h2]
        congr 1
        omega
      · exact .inr ⟨by simp [h, h1], h2⟩
theorem nm_idx {k : Int} {j : Nat} (h : 0 ≤ k ∧ k ≤ 9) (hj : nmL[j]? = some (nm k)) : ((j : Nat) : Int) = k := by
  have hl : j < 10 := (List.getElem?_eq_some_iff.1 hj).1
  have key : ∀ a b : Fin 10, nmL[a.val]? = some (nm (b.val : Int)) → a = b := by decide
  have := key ⟨j, hl⟩ ⟨k.toNat, by omega⟩ (by show nmL[j]? = some (nm ((k.toNat : Nat) : Int)); rw [hj, show ((k.toNat : Nat) : Int) = k by omega])
  have := congrArg Fin.val this
  simp at this
  omega
include hW in
theorem loop3_ok {kd a b : Int} {k : Nat} (hk : ((k : Nat) : Int) = kd) (ha : if 1 ≤ Farenumbers kd then Nu a else a = 0) (hb : if 2 ≤ Farenumbers kd then Nu b else b = 0) {p0 : Nat} {fu p : Nat} {rest} (hf : 3 ≤ fu) (hd : W.drop p = (nums kd a b).map Lib.itoa ++ rest) :
    ∃ j, FareReaderone_v1.loop3 (rdr W p0) k fu 0 0 0 ((p : Nat) : Int) = some (.next (j, a, b, ((p + (nums kd a b).length : Nat) : Int))) := by
  obtain ⟨f, rfl⟩ : ∃ f, fu = f + 3 := ⟨fu - 3, by omega⟩
  unfold nums at hd ⊢
  rw [FareReaderone_v1.loop3, hk]
  rcases nn_cases kd with e | e | e
  · rw [e] at ha hb ⊢
    rw [if_neg (by decide)] at ha hb
    subst ha hb
    exact ⟨0, by rw [if_neg (by decide)]; simp⟩
  · rw [e] at ha hb hd ⊢
    rw [if_pos (by decide)] at ha
    rw [if_neg (by decide)] at hb
    subst hb
    have n1 := number_hit hW (r := rest) ha (by rw [hd]; simp)
    rw [if_pos (by decide), if_pos (show ((0 : Int) == 0) = true from rfl)]
    dsimp only [rdr]
    rw [n1, Option.bind_some]
    dsimp only
    rw [FareReaderone_v1.loop3, hk, e]
    exact ⟨1, by rw [if_neg (by decide)]; simp; rfl⟩
  · rw [e] at ha hb hd ⊢
    rw [if_pos (by decide)] at ha hb
    have hd1 : W.drop p = Lib.itoa a :: Lib.itoa b :: rest := by rw [hd]; simp
    have n1 := number_hit hW ha hd1
    have n2 := number_hit hW hb (drop_get hd1).2.2
    rw [if_pos (by decide), if_pos (show ((0 : Int) == 0) = true from rfl)]
    dsimp only [rdr]
    rw [n1, Option.bind_some]
    dsimp only
    rw [FareReaderone_v1.loop3, hk, e, if_pos (by decide), if_neg (show ¬ (w64 (0 + 1) == 0) = true by decide), if_pos (show (w64 (0 + 1) == 1) = true by decide), n2, Option.bind_some]
    dsimp only
    rw [FareReaderone_v1.loop3, hk, e]
    exact ⟨2, by rw [if_neg (by decide)]; simp; exact ⟨by decide, by omega⟩⟩
end
/-! the reader: conditions -/
section
variable {W : List (List UInt8)} (hW : W.length ≤ 200000)
abbrev zU : List UInt8 → Prop := fun _ => True
abbrev zA : List UInt8 → Prop := fun w => w ≠ wAnd
abbrev zO : List UInt8 → Prop := fun w => w ≠ wAnd ∧ w ≠ wOr
theorem jW_cons (w : List UInt8) (x : List (List UInt8)) (r : List (List (List UInt8))) : jW w (x :: r) = x ++ r.flatMap fun y => w :: y := rfl
theorem flat_map' {w : List UInt8} {f : FareCond → List (List UInt8)} (r : List FareCond) : ((r.map f).flatMap fun y => w :: y) = r.flatMap fun k => w :: f k := by
  induction r with
  | nil => rfl
  | cons k r ih => rw [List.map_cons, List.flatMap_cons, List.flatMap_cons, ih]
include hW in
/-- a list of at least two, or the one -/
theorem list_reads {w : List UInt8} {kd : Int} {X Y : FareCond → List (List UInt8)} {Z Z' : List UInt8 → Prop} {fu : Nat} {E E' : FareReader → Option (Option (FareCond × Int))} (hE : Reads W X Z fu E) (hZw : Z w) (hZ : ∀ v, Z' v → Z v ∧ v ≠ w)
    {F : FareReader → Nat → List FareCond → Int → Option (Out (Option (FareCond × Int)) ((List FareCond) × Int))}
    (hF : ∀ y n q p, y.words = W.map str → F y (n + 1) q p = ((FareReadertake_v1 (str w) (FareReader.mk (W.map str) p)).bind fun q86 => (if q86.1 then ((E (FareReader.mk (W.map str) q86.2)).bind fun q89 => match q89 with | none => some (.ret none) | some rr91 => ((apd q [rr91.1]).bind fun x104 => F y n x104 rr91.2)) else some (.next (q, q86.2)))))
    (hE' : ∀ y, E' y = ((E y).bind fun q54 => match q54 with | none => some none | some rr56 => ((F y fu [rr56.1] rr56.2).bind fun q72 => match q72 with | .ret r => some r | .next (q77, q84) => (if (((q77.length : Nat) : Int) == 1) then ((gx q77 0).bind fun x111 => some (some (x111, q84))) else some (some ((FareCond.mk kd 0 0 q77), q84))))))
    (h1 : ∀ c, c.Kind ≠ kd → Y c = X c) (h2 : ∀ ks, 2 ≤ ks.length → Y ⟨kd, 0, 0, ks⟩ = jW w (ks.map X)) (hk : kd = 10 ∨ kd = 11) : Reads W Y Z' fu E' := by
  intro c p rest hg hp hd hr hf
  rw [hE']
  by_cases hc : c.Kind = kd
  · obtain ⟨ks, rfl, hl, hks⟩ : ∃ ks, c = ⟨kd, 0, 0, ks⟩ ∧ 2 ≤ ks.length ∧ ∀ k ∈ ks, Good k := by
      cases hg with
      | leaf h _ _ => simp only at hc; omega
      | not _ => simp only at hc; omega
      | grp _ hl hks => simp only at hc; subst hc; exact ⟨_, rfl, hl, hks⟩
    match ks, hl, hks with
    | k :: r, hl, hks =>
      rw [h2 _ hl, List.map_cons, jW_cons, flat_map'] at hd ⊢
      rw [List.append_assoc] at hd
      have hd2 := drop_app hd
      have hrl : 1 ≤ r.length := by simpa using hl
      have hlen := congrArg List.length hd
      rw [List.length_drop, List.length_append, List.length_append] at hlen
      have hfl := fr_flat_len (w := w) (X := X) r
      rw [hE k p _ (hks k (by simp)) hp hd (fun v s e => by
        cases r with
        | nil => simp at hrl
        | cons k2 r2 =>
          rw [List.flatMap_cons, List.cons_append, List.cons_append] at e
          injection e with e1 e2
          rw [← e1]; exact hZw) hf, Option.bind_some]
      dsimp only
      rw [loop_reads hW hE hZw hZ (fun n q p' => hF (rdr W p) n q p' rfl) r fu [k] (p + (X k).length) rest (fun y hy => hks y (by simp [hy])) (by omega) hd2 hr (by omega) (by omega) (by simp; omega), Option.bind_some]
      dsimp only
      rw [if_neg (by simp; omega)]
      simp only [List.singleton_append, List.length_append]
      congr 4
      omega
  · rw [h1 c hc] at hd ⊢
    have hlen := congrArg List.length hd
    rw [List.length_drop, List.length_append] at hlen
    rw [hE c p rest hg hp hd (fun v r e => (hZ v (hr v r e)).1) hf, Option.bind_some]
    dsimp only
    have hd2 := drop_app hd
    rw [loop_reads hW hE hZw hZ (fun n q p' => hF (rdr W p) n q p' rfl) [] fu [c] (p + (X c).length) rest (by simp) (by omega) (by simpa using hd2) hr (by omega) (by simp; omega) (by simp), Option.bind_some]
    simp
    rfl
theorem parW_same {pk pk' kd : Int} (h : kd ≠ 10) : parW pk kd = parW pk' kd := by
  funext Ws
  unfold parW
  simp [h]
theorem aW_eq {c : FareCond} (h : c.Kind ≠ 10) : aW c = uW c := by unfold aW uW; rw [parW_same (pk' := 10) h]
theorem cW_leaf {kd a b : Int} (h : 0 ≤ kd ∧ kd ≤ 8) : cW ⟨kd, a, b, []⟩ = nm kd :: (nums kd a b).map Lib.itoa := by rw [cW, if_neg (by omega), if_neg (by omega), if_neg (by omega)]
theorem cW_not (k : FareCond) : cW ⟨9, 0, 0, [k]⟩ = wNot :: uW k := by
  rw [cW, if_pos rfl, ksW]
  unfold uW parW
  simp
theorem cW_and (ks : List FareCond) : cW ⟨10, 0, 0, ks⟩ = jW wAnd (ks.map uW) := by
  rw [cW, if_neg (by decide), if_pos rfl, ksW_map]
  rfl
theorem cW_or (ks : List FareCond) : cW ⟨11, 0, 0, ks⟩ = jW wOr (ks.map aW) := by
  rw [cW, if_neg (by decide), if_neg (by decide), if_pos rfl, ksW_map]
  rfl
theorem uW_low {c : FareCond} (h : c.Kind ≠ 10 ∧ c.Kind ≠ 11) : uW c = cW c := by unfold uW parW; rw [if_neg (by omega)]
theorem uW_high {c : FareCond} (h : c.Kind = 10 ∨ c.Kind = 11) : uW c = [40] :: cW c ++ [[41]] := by unfold uW parW; rw [if_pos (by omega)]
theorem aW_low {c : FareCond} (h : c.Kind ≠ 11) : aW c = cW c := by unfold aW parW; rw [if_neg (by omega)]
include hW in
theorem and_reads {fu : Nat} {self : FareReader → Option (Option (FareCond × Int))} (hE : Reads W uW zU fu self) : Reads W aW zA fu (FareReaderand_v3 fu self) := by
  have h := list_reads (Z' := zA) hW (kd := 10) (Y := aW) (E' := FareReaderlist_v6 fu self 10 (str wAnd)) (F := fun y => FareReaderlist_v6.loop1 (str wAnd) y self) hE trivial (fun v hv => ⟨trivial, hv⟩)
    (fun y n q p hy => by rw [FareReaderlist_v6.loop1, hy]; rfl) (fun y => rfl) (fun c hc => aW_eq hc) (fun ks _ => by rw [aW_low (by show (10 : Int) ≠ 11; decide), cW_and]) (.inl rfl)
  intro c p rest h1 h2 h3 h4 h5
  unfold FareReaderand_v3
  rw [show (str [97, 110, 100]) = str wAnd from rfl, h c p rest h1 h2 h3 h4 h5, Option.bind_some]
include hW in
theorem or_reads {fu : Nat} {self : FareReader → Option (Option (FareCond × Int))} (hE : Reads W uW zU fu self) : Reads W cW zO fu (FareReaderor_v3 fu self) := by
  have h := list_reads (Z' := zO) hW (kd := 11) (Y := cW) (E' := FareReaderlist_v5 fu self 11 (str wOr)) (F := fun y => FareReaderlist_v5.loop1 (str wOr) y fu self) (and_reads hW hE) (show wOr ≠ wAnd by decide) (fun v hv => hv)
    (fun y n q p hy => by rw [FareReaderlist_v5.loop1, hy]; rfl) (fun y => rfl) (fun c hc => (aW_low hc).symm) (fun ks _ => cW_or ks) (.inr rfl)
  intro c p rest h1 h2 h3 h4 h5
  unfold FareReaderor_v3
  rw [show (str [111, 114]) = str wOr from rfl, h c p rest h1 h2 h3 h4 h5, Option.bind_some]
theorem names_list : [Farenames.f0, Farenames.f1, Farenames.f2, Farenames.f3, Farenames.f4, Farenames.f5, Farenames.f6, Farenames.f7, Farenames.f8, Farenames.f9] = nmL.map str := rfl
theorem nm_ne {k : Int} (h : 0 ≤ k ∧ k ≤ 9) : nm k ≠ [40] := by
  rcases nm_cases h with rfl | rfl | rfl | rfl | rfl | rfl | rfl | rfl | rfl | rfl <;> decide
theorem nm_in {k : Int} (h : 0 ≤ k ∧ k ≤ 9) : nm k ∈ nmL := by
  have hk : k.toNat < nmL.length := by show k.toNat < 10; omega
  unfold nm
  rw [List.getElem?_eq_getElem hk]
  exact List.getElem_mem hk
include hW in
/-- a word that is a name -/
theorem one_name {fu : Nat} {kd : Int} (h : 0 ≤ kd ∧ kd ≤ 9) {p : Nat} {r : List (List UInt8)} (hd : W.drop p = nm kd :: r) :
    FareReaderone_v1 (fu + 1) (rdr W p) = (hitB (rdr W p) fu (FareReaderone_v1 fu) kd.toNat ((p + 1 : Nat) : Int)).bind fun q91 => match q91 with | .ret r => some r | .next (_, _, _, _, _) => some none := by
  obtain ⟨_, hp, _⟩ := drop_get hd
  rw [FareReaderone_v1, take_miss (by omega) (fun r e => by rw [hd] at e; injection e with e _; exact nm_ne h e), Option.bind_some, if_neg (by simp)]
  dsimp only
  rw [word_hit hW hd, Option.bind_some]
  dsimp only
  rw [bnd_eq, names_list]
  rcases names_run (y0 := rdr W p) (fu := fu) (self := FareReaderone_v1 fu) (w := nm kd) (z := ((p + 1 : Nat) : Int)) nmL 0 0 0 0 [] ((p + 1 : Nat) : Int) with ⟨j, h1, h2⟩ | ⟨h1, _⟩
  · rw [h2, show 0 + j = kd.toNat by have := nm_idx h h1; omega]
    rfl
  · exact absurd (nm_in h) h1
include hW in
theorem one_reads : ∀ fu : Nat, Reads W uW zU fu (FareReaderone_v1 fu)
  | 0 => fun c p rest _ hp _ _ hf => absurd hf (by omega)
  | fu + 1 => fun c p rest hg hp hd _ hf => by
    have ih := one_reads fu
    by_cases hk : c.Kind = 10 ∨ c.Kind = 11
    · rw [uW_high hk] at hd ⊢
      have hd1 : W.drop p = [40] :: (cW c ++ ([41] :: rest)) := by rw [hd]; simp
      obtain ⟨_, hlt, hd2⟩ := drop_get hd1
      have hd3 := drop_app hd2
      rw [FareReaderone_v1, show str [40] = str [40] from rfl, take_hit hW hd1, Option.bind_some, if_pos rfl]
      dsimp only
      rw [or_reads hW ih c (p + 1) _ hg (by omega) hd2 (fun w r e => by injection e with e _; rw [← e]; decide) (by omega), Option.bind_some]
      dsimp only
      rw [must_hit hW hd3, Option.bind_some]
      dsimp only
      simp only [List.cons_append, List.length_cons, List.length_append, List.length_nil]
      congr 4
      omega
    · rw [uW_low (by omega)] at hd ⊢
      cases hg with
      | @leaf kd a b h ha hb =>
        rw [cW_leaf h] at hd ⊢
        have hd1 : W.drop p = nm kd :: ((nums kd a b).map Lib.itoa ++ rest) := hd
        obtain ⟨_, hlt, hd2⟩ := drop_get hd1
        obtain ⟨j, hj⟩ := loop3_ok hW (k := kd.toNat) (show ((kd.toNat : Nat) : Int) = kd by omega) ha hb (p0 := p) (fu := fu) (by omega) hd2
        rw [one_name hW (by omega) hd1, hitB, if_neg (by simp; omega), Option.bind_some]
        dsimp only
        rw [hj, Option.bind_some]
        dsimp only [Option.bind_some]
        rw [show ((kd.toNat : Nat) : Int) = kd by omega]
        simp only [List.length_cons, List.length_map]
        congr 4
        omega
      | @not k h =>
        rw [cW_not] at hd ⊢
        have hd1 : W.drop p = nm 9 :: (uW k ++ rest) := hd
        obtain ⟨_, hlt, hd2⟩ := drop_get hd1
        rw [one_name hW (by omega) hd1, hitB, if_pos (by decide), ih k (p + 1) _ h (by omega) hd2 (fun _ _ _ => trivial) (by omega), Option.bind_some]
        dsimp only [Option.bind_some]
        obtain ⟨f, rfl⟩ : ∃ f, fu = f + 1 := ⟨fu - 1, by omega⟩
        rw [FareReaderone_v1.loop3, if_neg (by decide), Option.bind_some]
        dsimp only [Option.bind_some]
        simp only [List.length_cons]
        congr 4
        omega
      | @grp kd ks h _ _ => exact absurd h hk
end
/-! rules and tariffs -/
abbrev wKm : List UInt8 := [107, 109]
abbrev wZones : List UInt8 := [122, 111, 110, 101, 115]
abbrev wBand : List UInt8 := [98, 97, 110, 100]
abbrev wRound : List UInt8 := [114, 111, 117, 110, 100]
abbrev wStop : List UInt8 := [115, 116, 111, 112]
def ddL : List (List UInt8) := [[], [112, 101, 114, 99, 101, 110, 116], [109, 105, 110, 117, 115], [112, 108, 117, 115], [102, 105, 120], [97, 116, 109, 111, 115, 116], [97, 116, 108, 101, 97, 115, 116]]
def dd (k : Int) : List UInt8 := ddL[k.toNat]?.getD []
theorem dd_cases {k : Int} (h : 1 ≤ k ∧ k ≤ 6) : k = 1 ∨ k = 2 ∨ k = 3 ∨ k = 4 ∨ k = 5 ∨ k = 6 := by omega
theorem dd_okw {k : Int} (h : 1 ≤ k ∧ k ≤ 6) : dd k ≠ [] ∧ ∀ x ∈ dd k, okw x := by
  rcases dd_cases h with rfl | rfl | rfl | rfl | rfl | rfl <;> (unfold okw; decide)
theorem dd_len {k : Int} (h : 1 ≤ k ∧ k ≤ 6) : (dd k).length ≤ 7 := by
  rcases dd_cases h with rfl | rfl | rfl | rfl | rfl | rfl <;> decide
def GoodR (r : FareRule) : Prop := Good r.If ∧ (1 ≤ r.Do ∧ r.Do ≤ 6) ∧ Nu r.N
def stT (b : Bool) : List UInt8 := if b then 32 :: wStop else []
def stW (b : Bool) : List (List UInt8) := if b then [wStop] else []
def rT (r : FareRule) : List UInt8 := cT r.If ++ 32 :: ([58] ++ 32 :: (dd r.Do ++ 32 :: (Lib.itoa r.N ++ stT r.Stop)))
def rW (r : FareRule) : List (List UInt8) := cW r.If ++ ([58] :: dd r.Do :: Lib.itoa r.N :: stW r.Stop)
theorem tok_colon : Tok [58] [[58]] := by
  intro L
  refine ⟨false, ?_⟩
  show wst (L, true) 58 = _
  unfold wst
  rw [if_neg (by decide), if_neg (by decide), if_pos rfl]
theorem tok_r {r : FareRule} (h : GoodR r) : Tok (rT r) (rW r) := by
  obtain ⟨h1, h2, h3⟩ := h
  have k1 := tok_word (itoa_ne h3.1.1) (itoa_okw h3.1.1)
  have k2 : Tok (Lib.itoa r.N ++ stT r.Stop) ([Lib.itoa r.N] ++ stW r.Stop) := by
    unfold stT stW
    cases r.Stop with
    | true => exact k1.sp (tok_word (by decide) (by unfold okw; decide))
    | false => simpa using k1
  have k3 := (tok_c h1).sp (tok_colon.sp ((tok_word (dd_okw h2).1 (dd_okw h2).2).sp k2))
  exact k3
def bT (b : FareBand) : List UInt8 := wBand ++ 32 :: (Lib.itoa b.Upto ++ 32 :: Lib.itoa b.Price)
def bW (b : FareBand) : List (List UInt8) := [wBand, Lib.itoa b.Upto, Lib.itoa b.Price]
def GoodB (b : FareBand) : Prop := Nu b.Upto ∧ Nu b.Price
theorem tok_b {b : FareBand} (h : GoodB b) : Tok (bT b) (bW b) :=
  (tok_word (w := wBand) (by decide) (by unfold okw; decide)).sp ((tok_word (itoa_ne h.1.1.1) (itoa_okw h.1.1.1)).sp (tok_word (itoa_ne h.2.1.1) (itoa_okw h.2.1.1)))
def oT (n : Int) : List UInt8 := wRound ++ 32 :: Lib.itoa n
theorem tok_o {n : Int} (h : Nu n) : Tok (oT n) [wRound, Lib.itoa n] :=
  (tok_word (w := wRound) (by decide) (by unfold okw; decide)).sp (tok_word (itoa_ne h.1.1) (itoa_okw h.1.1))
def hT (b : Bool) : List UInt8 := if b then wKm else wZones
theorem tok_h (b : Bool) : Tok (hT b) [hT b] := by
  cases b
  · exact tok_word (w := wZones) (by decide) (by unfold okw; decide)
  · exact tok_word (w := wKm) (by decide) (by unfold okw; decide)
def GoodT (t : FareTariff) : Prop := (∀ b ∈ t.Bands, GoodB b) ∧ Nu t.Round ∧ ∀ r ∈ t.Rules, GoodR r
/-- the lines -/
def tL (t : FareTariff) : List (List UInt8) := hT t.ByKm :: (t.Bands.map bT ++ (oT t.Round :: t.Rules.map rT))
def fl (L : List (List UInt8)) : List UInt8 := L.flatMap (· ++ [10])
def tarT (t : FareTariff) : List UInt8 := fl (tL t)
theorem fl_cons (x : List UInt8) (L : List (List UInt8)) : fl (x :: L) = x ++ 10 :: fl L := by unfold fl; rw [List.flatMap_cons]; simp
theorem fl_app (a b : List (List UInt8)) : fl (a ++ b) = fl a ++ fl b := by unfold fl; rw [List.flatMap_append]
/-- a letter of a line -/
def okl (x : UInt8) : Prop := okc x ∨ x = 58
theorem okl_asc {x : UInt8} (h : okl x) : x.toNat < 128 ∧ x ≠ 10 := by
  rcases h with (rfl | rfl | rfl | h | h) | rfl
  all_goals first | decide | (refine ⟨by omega, ?_⟩; rintro rfl; revert h; decide)
theorem okl_w {w : List UInt8} (h : ∀ x ∈ w, okw x) : ∀ x ∈ w, okl x := fun x m => .inl (h x m).c
theorem okl_sp {a b : List UInt8} (h : ∀ x ∈ a, okl x) (k : ∀ x ∈ b, okl x) : ∀ x ∈ a ++ 32 :: b, okl x := by
  intro x hx
  rcases List.mem_append.1 hx with hx | hx
  · exact h x hx
  · rcases List.mem_cons.1 hx with rfl | hx
    · exact .inl (.inl rfl)
    · exact k x hx
theorem okl_r {r : FareRule} (h : GoodR r) : ∀ x ∈ rT r, okl x := by
  obtain ⟨h1, h2, h3⟩ := h
  have k0 := okl_w (itoa_okw h3.1.1)
  have k2 : ∀ x ∈ Lib.itoa r.N ++ stT r.Stop, okl x := by
    unfold stT
    cases r.Stop with
    | true => exact okl_sp k0 (okl_w (w := wStop) (by unfold okw; decide))
    | false => simpa using k0
  exact okl_sp (fun x m => .inl (okc_c h1 x m)) (okl_sp (fun x m => .inr (List.mem_singleton.1 m)) (okl_sp (okl_w (dd_okw h2).2) k2))
theorem okl_b {b : FareBand} (h : GoodB b) : ∀ x ∈ bT b, okl x :=
  okl_sp (okl_w (w := wBand) (by unfold okw; decide)) (okl_sp (okl_w (itoa_okw h.1.1.1)) (okl_w (itoa_okw h.2.1.1)))
theorem okl_o {n : Int} (h : Nu n) : ∀ x ∈ oT n, okl x := okl_sp (okl_w (w := wRound) (by unfold okw; decide)) (okl_w (itoa_okw h.1.1))
theorem okl_h (b : Bool) : ∀ x ∈ hT b, okl x := by
  cases b
  · exact okl_w (w := wZones) (by unfold okw; decide)
  · exact okl_w (w := wKm) (by unfold okw; decide)
theorem okl_t {t : FareTariff} (h : GoodT t) : ∀ l ∈ tL t, ∀ x ∈ l, okl x := by
  intro l hl
  unfold tL at hl
  rcases List.mem_cons.1 hl with rfl | hl
  · exact okl_h _
  · rcases List.mem_append.1 hl with hl | hl
    · obtain ⟨b, hb, rfl⟩ := List.mem_map.1 hl
      exact okl_b (h.1 b hb)
    · rcases List.mem_cons.1 hl with rfl | hl
      · exact okl_o h.2.1
      · obtain ⟨r, hr, rfl⟩ := List.mem_map.1 hl
        exact okl_r (h.2.2 r hr)
/-- the words of a line -/
theorem words_line {t : List UInt8} {W : List (List UInt8)} (h : Tok t W) (ha : ∀ x ∈ t, okl x) (hz : t.length ≤ 100000) {fu : Nat} (hf : 100001 ≤ fu) : Farewords fu (str t) = some (W.map str) := by
  rw [words_ok (fun x m => (okl_asc (ha x m)).1) hz hf]
  obtain ⟨b, e⟩ := h []
  rw [e]
  rfl
/-- no more words than letters, and one -/
theorem words_len {t : List UInt8} : ∀ (S : List (List UInt8) × Bool), (t.foldl wst S).1.length ≤ S.1.length + t.length := by
  induction t with
  | nil => intro S; simp
  | cons c t ih =>
    intro S
    rw [List.foldl_cons]
    have h1 := ih (wst S c)
    have h2 : (wst S c).1.length ≤ S.1.length + 1 := by
      obtain ⟨L, b⟩ := S
      unfold wst
      split
      · simp
      · split
        · simp
        · cases b
          · simp
          · simp
    simp only [List.length_cons]
    omega
theorem tok_len {t : List UInt8} {W : List (List UInt8)} (h : Tok t W) : W.length ≤ t.length := by
  obtain ⟨b, e⟩ := h []
  have := words_len (t := t) ([], true)
  rw [e] at this
  simpa using this
/-! reading rules and lines -/
theorem deeds_list : [Faredeeds.f0, Faredeeds.f1, Faredeeds.f2, Faredeeds.f3, Faredeeds.f4, Faredeeds.f5, Faredeeds.f6] = ddL.map str := rfl
theorem deeds_hit {k : Int} (h : 1 ≤ k ∧ k ≤ 6) (z : Int) : FareReaderrule_v1.loop1 (str (dd k), z) (ddL.map str) 0 0 = k := by
  rcases dd_cases h with rfl | rfl | rfl | rfl | rfl | rfl <;> rfl
theorem rule_reads {r : FareRule} (h : GoodR r) (hW : (rW r).length ≤ 200000) {fu : Nat} (hf : (rW r).length + 5 ≤ fu) : FareReaderrule_v1 fu (rdr (rW r) 0) = some (some (r, (((rW r).length : Nat) : Int))) := by
  obtain ⟨h1, h2, h3⟩ := h
  have hd : (rW r).drop 0 = cW r.If ++ ([58] :: dd r.Do :: Lib.itoa r.N :: stW r.Stop) := rfl
  have hd1 := drop_app hd
  obtain ⟨_, l1, hd2⟩ := drop_get hd1
  obtain ⟨_, l2, hd3⟩ := drop_get hd2
  obtain ⟨_, l3, hd4⟩ := drop_get hd3
  have e0 := or_reads hW (one_reads hW fu) r.If 0 _ h1 (by omega) hd (fun w s e => by injection e with e _; rw [← e]; decide) (by omega)
  unfold FareReaderrule_v1
  rw [e0, Option.bind_some]
  dsimp only
  rw [show str [58] = str [58] from rfl, must_hit hW hd1, Option.bind_some]
  dsimp only
  rw [word_hit hW hd2, Option.bind_some]
  dsimp only
  rw [bnd_eq, deeds_list, bnd_eq, deeds_hit h2, if_neg (by simp; omega), number_hit hW h3 hd3, Option.bind_some]
  dsimp only
  have hlen : (rW r).length = 0 + (cW r.If).length + 1 + 1 + 1 + (stW r.Stop).length := by
    unfold rW
    simp
    omega
  cases hs : r.Stop with
  | true =>
    have hd5 : (rW r).drop (0 + (cW r.If).length + 1 + 1 + 1) = wStop :: [] := by rw [hd4, hs]; rfl
    rw [take_hit hW hd5, Option.bind_some, hlen, hs]
    obtain ⟨a, b, c, d⟩ := r
    simp only at hs
    subst hs
    rfl
  | false =>
    have hd5 : (rW r).drop (0 + (cW r.If).length + 1 + 1 + 1) = [] := by rw [hd4, hs]; rfl
    rw [take_miss (w := wStop) (by omega) (fun s e => by rw [hd5] at e; cases e), Option.bind_some, hlen, hs]
    obtain ⟨a, b, c, d⟩ := r
    simp only at hs
    subst hs
    rfl
theorem gx_line {Q : List (List UInt8)} {k : Nat} {x : List UInt8} {r} (h : Q.drop k = x :: r) : gx (Q.map str) ((k : Nat) : Int) = some (str x) := by
  rw [gx_nat, List.getElem?_map, (drop_get h).1]; rfl
section
variable {fu : Nat} (hfu : 100010 ≤ fu) {Q : List (List UInt8)}
include hfu
theorem band_step {b : FareBand} (hb : GoodB b) {k n : Nat} {r} (hQ : Q.drop k = bT b :: r) (km : Bool) (q : List FareBand) (hq : q.length ≤ 1000000) (R : Int) (s : List FareRule) (hz : (bT b).length ≤ 100000) :
    Faretariff.loop1 fu (Q.map str) (n + 1) k 1 km q R s = Faretariff.loop1 fu (Q.map str) n (k + 1) 1 km (q ++ [b]) R s := by
  have hW : (bW b).length ≤ 200000 := by simp [bW]
  have d0 : (bW b).drop 0 = wBand :: [Lib.itoa b.Upto, Lib.itoa b.Price] := rfl
  have d1 : (bW b).drop 1 = Lib.itoa b.Upto :: [Lib.itoa b.Price] := rfl
  have d2 : (bW b).drop 2 = Lib.itoa b.Price :: [] := rfl
  rw [Faretariff.loop1, gx_line hQ, Option.bind_some, words_line (tok_b hb) (okl_b hb) hz (by omega), Option.bind_some, if_neg (by decide), if_pos (by decide)]
  rw [show (FareReader.mk ((bW b).map str) 0) = rdr (bW b) 0 from rfl, take_hit hW d0, Option.bind_some, Option.bind_some]
  dsimp only
  rw [if_pos rfl, number_hit hW hb.1 d1, Option.bind_some]
  dsimp only
  rw [number_hit hW hb.2 d2, Option.bind_some]
  dsimp only
  rw [apd_lt (by simp; omega), Option.bind_some, Option.bind_some]
  dsimp only
  rw [Option.bind_some]
  dsimp only
  rw [if_neg (by simp [bW])]
theorem head_step {b : Bool} {n : Nat} {r} (hQ : Q.drop 0 = hT b :: r) : Faretariff.loop1 fu (Q.map str) (n + 1) 0 0 false [] 0 [] = Faretariff.loop1 fu (Q.map str) n 1 1 b [] 0 [] := by
  have d0 : [hT b].drop 0 = hT b :: [] := rfl
  have hW : [hT b].length ≤ 200000 := by simp
  rw [Faretariff.loop1, gx_line hQ, Option.bind_some, words_line (tok_h b) (okl_h b) (by cases b <;> decide) (by omega), Option.bind_some, if_pos (by decide)]
  rw [show (FareReader.mk ([hT b].map str) 0) = rdr [hT b] 0 from rfl]
  cases b with
  | true =>
    rw [show str [107, 109] = str wKm from rfl, take_hit hW (w := wKm) d0, Option.bind_some, if_neg (by decide), Option.bind_some]
    dsimp only
    rw [if_neg (by decide)]
  | false =>
    rw [show str [107, 109] = str wKm from rfl, take_miss (w := wKm) (by decide) (fun s e => by rw [d0] at e; injection e with e _; revert e; decide), Option.bind_some, if_pos (by decide)]
    dsimp only
    rw [show str [122, 111, 110, 101, 115] = str wZones from rfl, must_hit hW (w := wZones) d0, Option.bind_some]
    dsimp only
    rw [Option.bind_some]
    dsimp only
    rw [if_neg (by decide)]
theorem round_step {n : Int} (hn : Nu n) {k m : Nat} {r} (hQ : Q.drop k = oT n :: r) (km : Bool) (q : List FareBand) (s : List FareRule) : Faretariff.loop1 fu (Q.map str) (m + 1) k 1 km q 0 s = Faretariff.loop1 fu (Q.map str) m (k + 1) 2 km q n s := by
  have d0 : [wRound, Lib.itoa n].drop 0 = wRound :: [Lib.itoa n] := rfl
  have d1 : [wRound, Lib.itoa n].drop 1 = Lib.itoa n :: [] := rfl
  have hW : [wRound, Lib.itoa n].length ≤ 200000 := by simp
  have hl := itoa_len hn
  rw [Faretariff.loop1, gx_line hQ, Option.bind_some, words_line (tok_o hn) (okl_o hn) (by simp [oT]; omega) (by omega), Option.bind_some, if_neg (by decide), if_pos (by decide)]
  rw [show (FareReader.mk ([wRound, Lib.itoa n].map str) 0) = rdr [wRound, Lib.itoa n] 0 from rfl, show str [98, 97, 110, 100] = str wBand from rfl, take_miss (w := wBand) (by simp) (fun s e => by rw [d0] at e; injection e with e _; revert e; decide), Option.bind_some, Option.bind_some]
  dsimp only
  rw [if_neg (by decide), if_pos (by decide), show str [114, 111, 117, 110, 100] = str wRound from rfl, must_hit hW (w := wRound) d0, Option.bind_some]
  dsimp only
  rw [number_hit hW hn d1, Option.bind_some]
  dsimp only
  rw [Option.bind_some]
  dsimp only
  rw [Option.bind_some]
  dsimp only
  rw [Option.bind_some]
  dsimp only
  rw [if_neg (by simp)]
theorem rule_step {u : FareRule} (hu : GoodR u) {k m : Nat} {r} (hQ : Q.drop k = rT u :: r) (km : Bool) (q : List FareBand) (R : Int) (s : List FareRule) (hs : s.length ≤ 1000000) (hz : (rT u).length ≤ 100000) :
    Faretariff.loop1 fu (Q.map str) (m + 1) k 2 km q R s = Faretariff.loop1 fu (Q.map str) m (k + 1) 2 km q R (s ++ [u]) := by
  have hl := tok_len (tok_r hu)
  rw [Faretariff.loop1, gx_line hQ, Option.bind_some, words_line (tok_r hu) (okl_r hu) hz (by omega), Option.bind_some, if_neg (by decide), if_neg (by decide), Option.bind_some]
  dsimp only
  rw [if_neg (by decide), if_neg (by decide), show (FareReader.mk ((rW u).map str) 0) = rdr (rW u) 0 from rfl, rule_reads hu (by omega) (by omega), Option.bind_some]
  dsimp only
  rw [apd_lt (by simp; omega), Option.bind_some, Option.bind_some]
  dsimp only
  rw [Option.bind_some]
  dsimp only
  rw [Option.bind_some]
  dsimp only
  rw [if_neg (by simp)]
theorem bands_run : ∀ (bs : List FareBand) (k n : Nat) (r : List (List UInt8)) (q : List FareBand) (km : Bool) (R : Int) (s : List FareRule), (∀ b ∈ bs, GoodB b) → Q.drop k = bs.map bT ++ r → q.length + bs.length ≤ 1000000 →
    Faretariff.loop1 fu (Q.map str) (bs.length + n) k 1 km q R s = Faretariff.loop1 fu (Q.map str) n (k + bs.length) 1 km (q ++ bs) R s
  | [], k, n, r, q, km, R, s, _, _, _ => by simp
  | b :: bs, k, n, r, q, km, R, s, hg, hQ, hq => by
    simp only [List.length_cons] at hq
    have hb := hg b (by simp)
    have l1 := itoa_len hb.1
    have l2 := itoa_len hb.2
    obtain ⟨_, _, hd⟩ := drop_get (show Q.drop k = bT b :: (bs.map bT ++ r) from hQ)
    rw [show (b :: bs).length + n = (bs.length + n) + 1 by simp; omega, band_step hfu hb hQ km q (by omega) R s (by simp [bT]; omega), bands_run bs (k + 1) n r (q ++ [b]) km R s (fun y hy => hg y (by simp [hy])) hd (by simp; omega)]
    simp only [List.append_assoc, List.singleton_append, List.length_cons]
    rw [show k + 1 + bs.length = k + (bs.length + 1) by omega]
theorem rules_run : ∀ (us : List FareRule) (k : Nat) (q : List FareBand) (km : Bool) (R : Int) (s : List FareRule), (∀ u ∈ us, GoodR u ∧ (rT u).length ≤ 100000) → Q.drop k = us.map rT → s.length + us.length ≤ 1000000 →
    Faretariff.loop1 fu (Q.map str) us.length k 2 km q R s = some (.next (2, km, q, R, s ++ us))
  | [], k, q, km, R, s, _, _, _ => by simp [Faretariff.loop1]
  | u :: us, k, q, km, R, s, hg, hQ, hq => by
    simp only [List.length_cons] at hq
    obtain ⟨hu, hz⟩ := hg u (by simp)
    obtain ⟨_, _, hd⟩ := drop_get (show Q.drop k = rT u :: us.map rT from hQ)
    rw [List.length_cons, rule_step hfu hu hQ km q R s (by omega) hz, rules_run us (k + 1) q km R (s ++ [u]) (fun y hy => hg y (by simp [hy])) hd (by simp; omega)]
    simp
end
theorem within_ref : Fishref2within = Farewithin := rfl
theorem numbers_ref : Fishref2numbersOf = Farenumbers := rfl
/-! nodes and levels of a condition -/
mutual
def cN : FareCond → Nat
  | ⟨_, _, _, k⟩ => cNs k + 1
def cNs : List FareCond → Nat
  | [] => 0
  | x :: r => cN x + cNs r
end
mutual
def cL : FareCond → Nat
  | ⟨_, _, _, k⟩ => cLs k + 1
def cLs : List FareCond → Nat
  | [] => 0
  | x :: r => max (cL x) (cLs r)
end
theorem cN_eq (c : FareCond) : cN c = cNs c.Kids + 1 := by cases c; rw [cN]
theorem cL_eq (c : FareCond) : cL c = cLs c.Kids + 1 := by cases c; rw [cL]
theorem cL_pos (c : FareCond) : 1 ≤ cL c := by rw [cL_eq]; omega
theorem cN_pos (c : FareCond) : 1 ≤ cN c := by rw [cN_eq]; omega
mutual
theorem cN_sz : ∀ c : FareCond, cN c + 1 ≤ szFareCond c
  | ⟨_, _, _, k⟩ => by rw [cN, szFareCond]; have := cNs_sz k; omega
theorem cNs_sz : ∀ l : List FareCond, cNs l + 1 ≤ szsFareCond l
  | [] => by simp [cNs, szsFareCond]
  | x :: r => by rw [cNs, szsFareCond]; have := cN_sz x; have := cNs_sz r; omega
end
mutual
theorem cL_le : ∀ c : FareCond, cL c ≤ cN c
  | ⟨_, _, _, k⟩ => by rw [cN, cL]; have := cLs_le k; omega
theorem cLs_le : ∀ l : List FareCond, cLs l ≤ cNs l
  | [] => by simp [cNs, cLs]
  | x :: r => by rw [cNs, cLs]; have := cL_le x; have := cLs_le r; omega
end
theorem len_cNs : ∀ l : List FareCond, l.length ≤ cNs l
  | [] => by simp
  | x :: r => by rw [cNs]; have := cN_pos x; have := len_cNs r; simp only [List.length_cons]; omega
theorem mx_nat (a b : Nat) : mx (a : Int) (b : Int) = ((max a b : Nat) : Int) := by unfold mx; omega
mutual
theorem size_ok : ∀ (c : FareCond) (fu : Nat), cL c ≤ fu → cN c ≤ 1048576 → FareCondsize fu c = some ((cN c : Int), (cL c : Int))
  | _, 0, h, _ => absurd h (by have := cL_pos (by assumption); omega)
  | ⟨a, b, d, k⟩, fu + 1, h, hb => by
    rw [cL] at h; rw [cN] at hb
    have h2 := cLs_le k
    have e : FareCondsize.loop1 (FareCondsize fu) k 1 0 = some (((1 + cNs k : Nat) : Int), ((max 0 (cLs k) : Nat) : Int)) := sizes_ok k fu 1 0 (by omega) (by omega)
    rw [FareCondsize, e]
    simp only [Option.bind_some, cN, cL]
    rw [w64_id (by omega)]
    congr 2 <;> omega
theorem sizes_ok : ∀ (l : List FareCond) (fu a b : Nat), cLs l ≤ fu → cNs l + a ≤ 1048576 → FareCondsize.loop1 (FareCondsize fu) l (a : Int) (b : Int) = some (((a + cNs l : Nat) : Int), ((max b (cLs l) : Nat) : Int))
  | [], fu, a, b, _, _ => by simp [FareCondsize.loop1, cNs, cLs]
  | x :: r, fu, a, b, h, hb => by
    rw [cLs] at h; rw [cNs] at hb
    rw [FareCondsize.loop1, size_ok x fu (by omega) (by omega), Option.bind_some]
    rw [w64_id (by simp only; omega)]
    have e : ((a : Int) + (cN x : Int)) = ((a + cN x : Nat) : Int) := by omega
    simp only
    rw [e, mx_nat, sizes_ok r fu _ _ (by omega) (by omega), cNs, cLs]
    congr 3 <;> omega
end
mutual
theorem shape_ok : ∀ (c : FareCond) (fu : Nat) (left : Nat), cL c ≤ fu → left ≤ 40 → cN c ≤ 1048576 → ∃ lv lf : Int, Fishref2shape_v1 fu c (left : Int) = some (lv, lf) ∧ (cN c ≤ left → lv = cL c ∧ lf = ((left - cN c : Nat) : Int)) ∧ (left < cN c → lf < 0)
  | _, 0, _, h, _, _ => absurd h (by have := cL_pos (by assumption); omega)
  | ⟨a, b, d, k⟩, fu + 1, left, h, hl, hb => by
    rw [cL] at h; rw [cN] at hb
    have h2 := cLs_le k
    rw [Fishref2shape_v1, w64_id (by omega)]
    rcases Nat.eq_zero_or_pos left with h0 | h0
    · subst h0
      refine ⟨1, -1, by simp, by rw [cN]; omega, by omega⟩
    · obtain ⟨lv, lf, e1, e2, e3, e4⟩ := shapes_ok k fu 0 (left - 1) (by omega) (by omega) (by omega)
      have e : ((left : Int) - 1) = ((left - 1 : Nat) : Int) := by omega
      have hn : ¬ (((left - 1 : Nat) : Int) < 0) := by omega
      have e1' : Fishref2shape_v1.loop1 (Fishref2shape_v1 fu) k 0 (((left - 1 : Nat) : Nat) : Int) = some (lv, lf) := e1
      simp only [e, hn, decide_false, Bool.false_eq_true, if_false, e1', Option.bind_some]
      refine ⟨_, _, rfl, ?_, ?_⟩
      · intro hc
        rw [cN] at hc
        obtain ⟨p1, p2⟩ := e2 (by omega)
        rw [cL, cN, p1, p2, w64_id (by omega)]
        constructor <;> omega
      · intro hc; rw [cN] at hc; exact e3 (by omega)
theorem shapes_ok : ∀ (l : List FareCond) (fu a left : Nat), cLs l ≤ fu → left ≤ 40 → cNs l ≤ 1048576 → ∃ lv lf : Int, Fishref2shape_v1.loop1 (Fishref2shape_v1 fu) l (a : Int) (left : Int) = some (lv, lf) ∧ (cNs l ≤ left → lv = ((max a (cLs l) : Nat) : Int) ∧ lf = ((left - cNs l : Nat) : Int)) ∧ (left < cNs l → lf < 0) ∧ True
  | [], fu, a, left, _, _, _ => ⟨a, left, rfl, by simp [cNs, cLs], by simp [cNs], trivial⟩
  | x :: r, fu, a, left, h, hl, hb => by
    rw [cLs] at h; rw [cNs] at hb
    obtain ⟨lv, lf, e1, e2, e3⟩ := shape_ok x fu left (by omega) hl (by omega)
    rw [Fishref2shape_v1.loop1, e1, Option.bind_some]
    by_cases hx : cN x ≤ left
    · obtain ⟨p1, p2⟩ := e2 hx
      subst p1; subst p2
      have hn : ¬ (((left - cN x : Nat) : Int) < 0) := by omega
      simp only [hn, decide_false, Bool.false_eq_true, if_false, mx_nat]
      obtain ⟨lv, lf, q1, q2, q3, _⟩ := shapes_ok r fu (max a (cL x)) (left - cN x) (by omega) (by omega) (by omega)
      refine ⟨lv, lf, q1, ?_, ?_, trivial⟩
      · intro hc
        rw [cNs] at hc
        obtain ⟨r1, r2⟩ := q2 (by omega)
        rw [r1, r2, cNs, cLs]
        constructor <;> omega
      · intro hc; rw [cNs] at hc; exact q3 (by omega)
    · have hn := e3 (by omega)
      simp only [hn, decide_true, if_true]
      refine ⟨_, _, rfl, ?_, ?_, trivial⟩
      · intro hc; rw [cNs] at hc; omega
      · intro _; exact hn
end
theorem node_loop1 (s : FareCond → Option Int) : ∀ l, Fishref2nodeFault.loop1 s l = FareCondnode.loop1 s l
  | [] => rfl
  | x :: r => by simp only [Fishref2nodeFault.loop1, FareCondnode.loop1, node_loop1 s r]
theorem node_loop2 (s : FareCond → Option Int) : ∀ l, Fishref2nodeFault.loop2 s l = FareCondnode.loop1 s l
  | [] => rfl
  | x :: r => by simp only [Fishref2nodeFault.loop2, FareCondnode.loop1, node_loop2 s r]
theorem node_loop3 (s : FareCond → Option Int) : ∀ l, Fishref2nodeFault.loop3 s l = FareCondnode.loop1 s l
  | [] => rfl
  | x :: r => by simp only [Fishref2nodeFault.loop3, FareCondnode.loop1, node_loop3 s r]
theorem within_iff (x a b : Int) : Farewithin x a b = decide (a ≤ x ∧ x ≤ b) := by
  unfold Farewithin bnd
  by_cases h1 : a ≤ x <;> by_cases h2 : x ≤ b <;> simp [h1, h2]
theorem node_ref : ∀ (fu : Nat) (c : FareCond), Fishref2nodeFault fu c = FareCondnode fu c
  | 0, _ => rfl
  | fu + 1, c => by
    have ih : Fishref2nodeFault fu = FareCondnode fu := funext (node_ref fu)
    rw [Fishref2nodeFault, FareCondnode, ih]
    simp only [node_loop1, node_loop2, node_loop3, within_ref, numbers_ref, bnd_eq]
    by_cases hk : Farewithin c.Kind 0 11 = true
    · rw [within_iff, decide_eq_true_eq] at hk
      have hk' : Farewithin c.Kind 0 11 = true := by rw [within_iff]; exact decide_eq_true hk
      simp only [hk', Bool.not_true, Bool.false_eq_true, if_false]
      refine ite_same fun _ => ite_same fun _ => ?_
      · skip
        · by_cases h9 : c.Kind = 9
          · have e9 : (c.Kind == 9) = true := by simpa using h9
            have g9 : ¬ c.Kind > 9 := by omega
            have l9 : ¬ c.Kind < 9 := by omega
            simp only [e9, g9, l9, decide_false, Bool.false_eq_true, if_false, if_true]
            by_cases hl : ((c.Kids.length : Nat) : Int) = 1
            · have e1 : (((c.Kids.length : Nat) : Int) != 1) = false := by simp [hl]
              simp only [e1, Bool.false_eq_true, if_false] <;> rfl
            · have e1 : (((c.Kids.length : Nat) : Int) != 1) = true := by simpa using hl
              simp only [e1, if_true]
          · have e9 : (c.Kind == 9) = false := by simpa using h9
            by_cases hg : c.Kind > 9
            · have l9 : ¬ c.Kind < 9 := by omega
              have e10 : (if (c.Kind == 10) = true then (c.Kind == 10) else (c.Kind == 11)) = true := by
                have : c.Kind = 10 ∨ c.Kind = 11 := by omega
                rcases this with h | h <;> simp [h]
              simp only [e9, hg, l9, e10, decide_true, decide_false, Bool.false_eq_true, if_false, if_true]
              by_cases hl : ((c.Kids.length : Nat) : Int) < 2
              · simp only [hl, decide_true, if_true]
              · simp only [hl, decide_false, Bool.false_eq_true, if_false] <;> rfl
            · have l9 : c.Kind < 9 := by omega
              have e10 : (if (c.Kind == 10) = true then (c.Kind == 10) else (c.Kind == 11)) = false := by
                have h1 : (c.Kind == 10) = false := by simp; omega
                have h2 : (c.Kind == 11) = false := by simp; omega
                simp [h1, h2]
              simp only [e9, hg, l9, e10, decide_true, decide_false, Bool.false_eq_true, if_false, if_true] <;> rfl
    · have hk' : Farewithin c.Kind 0 11 = false := by simpa using hk
      simp only [hk', Bool.not_false, if_true]
mutual
theorem node_tot : ∀ (c : FareCond) (fu : Nat), cL c ≤ fu → Tot (FareCondnode fu c)
  | _, 0, h => absurd h (by have := cL_pos (by assumption); omega)
  | ⟨a, b, d, k⟩, fu + 1, h => by
    rw [cL] at h
    rw [FareCondnode]
    refine .ite (fun _ => .some _) fun _ => .bnd (.ite (fun _ => .some _) fun _ => .bnd (.ite (fun _ => .some _) fun _ => .bnd (.ite (fun _ => .some _) fun _ => .bind (nodes_tot k fu (by omega)) fun z _ => ?_)))
    cases z <;> exact .some _
theorem nodes_tot : ∀ (l : List FareCond) (fu : Nat), cLs l ≤ fu → Tot (FareCondnode.loop1 (FareCondnode fu) l)
  | [], _, _ => .some _
  | x :: r, fu, h => by
    rw [cLs] at h
    exact .bind (node_tot x fu (by omega)) fun z _ => .ite (fun _ => .some _) fun _ => nodes_tot r fu (by omega)
end
theorem cond_ref {fu : Nat} {c : FareCond} (hf : 1048576 ≤ fu) (hc : szFareCond c ≤ 1048576) : Fishref2CondFault fu c = FareCondcheck fu c ∧ Tot (FareCondcheck fu c) := by
  have h1 := cN_sz c
  have h2 := cL_le c
  obtain ⟨lv, lf, e1, e2, e3⟩ := shape_ok c fu 40 (by omega) (by omega) (by omega)
  have e1' : Fishref2shape_v1 fu c 40 = some (lv, lf) := e1
  unfold Fishref2CondFault FareCondcheck
  rw [e1', size_ok c fu (by omega) (by omega)]
  simp only [Option.bind_some, node_ref, bnd_eq]
  by_cases hn : cN c ≤ 40
  · obtain ⟨p1, p2⟩ := e2 hn
    have a1 : ¬ lf < 0 := by omega
    have a2 : ¬ ((cN c : Nat) : Int) > 40 := by omega
    simp only [a1, a2, p1, decide_false, Bool.false_eq_true, if_false]
    refine ⟨trivial, .ite (fun _ => .some _) fun _ => .bind (node_tot c fu (by omega)) fun _ _ => .some _⟩
  · have a1 := e3 (by omega)
    have a2 : ((cN c : Nat) : Int) > 40 := by omega
    simp only [a1, a2, decide_true, if_true]
    exact ⟨trivial, .some _⟩
theorem tariff_loop1 (t : FareTariff) : ∀ (r : List FareBand) (k : Nat), Fishref2TariffFault.loop1 t r k = FareCheckTariff.loop1 t r k
  | [], _ => rfl
  | x :: r, k => by simp only [Fishref2TariffFault.loop1, FareCheckTariff.loop1, within_ref, tariff_loop1 t r] <;> rfl
theorem bands_tot (t : FareTariff) (hl : t.Bands.length ≤ 9223372036854775807) : ∀ (r : List FareBand) (k : Nat), t.Bands.drop k = r → Tot (FareCheckTariff.loop1 t r k)
  | [], _, _ => .some _
  | x :: r, k, hd => by
    obtain ⟨d1, d2, d3⟩ := drop_cons hd
    rw [FareCheckTariff.loop1]
    refine .bnd (.ite (fun _ => .some _) fun _ => .bind (.ite (fun h => ?_) fun _ => .some _) fun _ _ => .ite (fun _ => .some _) fun _ => bands_tot t hl r (k + 1) d3)
    have hk : 0 < k := by have := of_decide_eq_true h; omega
    have hp := gx_prev (l := t.Bands) hk (by omega) hl
    exact .bind1 hp (.ite (fun _ => .some _) fun _ => .bind1 hp (.some _))
theorem tariff_loop2 {fu : Nat} (hf : 1048576 ≤ fu) : ∀ (r : List FareRule), (∀ x ∈ r, szFareCond x.If ≤ 1048576) → Fishref2TariffFault.loop2 fu r = FareCheckTariff.loop2 fu r ∧ Tot (FareCheckTariff.loop2 fu r)
  | [], _ => ⟨rfl, .some _⟩
  | x :: r, h => by
    obtain ⟨h1, h2⟩ := cond_ref hf (h x (by simp))
    obtain ⟨h3, h4⟩ := tariff_loop2 hf r (fun y hy => h y (by simp [hy]))
    obtain ⟨z, hz⟩ := h2
    simp only [Fishref2TariffFault.loop2, FareCheckTariff.loop2, h1, hz, Option.bind_some, within_ref, h3, bnd_eq]
    exact ⟨trivial, .ite (fun _ => .some _) fun _ => .ite (fun _ => .some _) fun _ => .ite (fun _ => .some _) fun _ => h4⟩
theorem rules_sz {t : FareTariff} (h : szFareTariff t ≤ 1048576) : ∀ x ∈ t.Rules, szFareCond x.If ≤ 1048576 := by
  intro x hx
  unfold szFareTariff at h
  have h1 := szL_mem (f := szFareRule) hx
  unfold szFareRule at h1
  have h2 : szL (fun x : FareRule => szFareCond x.If + 1) t.Rules = szL szFareRule t.Rules := rfl
  omega
theorem tariff_ref {fu : Nat} (hf : 1048576 ≤ fu) (t : FareTariff) (hl : t.Bands.length ≤ 9223372036854775807) (hz : szFareTariff t ≤ 1048576) : Fishref2TariffFault fu t = FareCheckTariff fu t ∧ Tot (FareCheckTariff fu t) := by
  unfold Fishref2TariffFault FareCheckTariff
  obtain ⟨h1, z2, h2⟩ := tariff_loop2 hf t.Rules (rules_sz hz)
  obtain ⟨z1, h3⟩ := bands_tot t hl t.Bands 0 rfl
  simp only [within_ref, tariff_loop1, bnd_eq, h1, h2, h3, Option.bind_some]
  refine ⟨by cases z1 <;> cases z2 <;> rfl, .ite (fun _ => .some _) fun _ => ?_⟩
  cases z1
  · exact .some _
  · refine .ite (fun _ => .some _) fun _ => ?_
    cases z2 <;> exact .some _
/-! what the check permits -/
theorem within_true {x l u : Int} (h : Farewithin x l u = true) : l ≤ x ∧ x ≤ u := by
  unfold Farewithin at h
  rw [bnd_eq] at h
  split at h
  · rename_i c
    exact ⟨of_decide_eq_true c, of_decide_eq_true h⟩
  · cases h
theorem ite_zero {b : Bool} {e : Int} {x : Option Int} (he : e ≠ 0) (h : (if b = true then some e else x) = some 0) : b = false ∧ x = some 0 := by
  cases b with
  | true => rw [if_pos rfl] at h; injection h with h; exact absurd h he
  | false => exact ⟨rfl, by simpa using h⟩
theorem nn_range {k : Int} (h : Farenumbers k ≠ 0) : 0 ≤ k ∧ k ≤ 8 := by
  unfold Farenumbers at h
  simp only [bnd_eq] at h
  repeat' split at h
  all_goals first | exact absurd rfl h | (simp at *; omega)
theorem nodes_good {self : FareCond → Option Int} (hs : ∀ c, self c = some 0 → Good c) : ∀ l : List FareCond, FareCondnode.loop1 self l = some (.next ()) → ∀ k ∈ l, Good k
  | [], _, k, h => by cases h
  | x :: r, h, k, hk => by
    rw [FareCondnode.loop1] at h
    obtain ⟨q, h1, h⟩ := Option.bind_eq_some_iff.1 h
    by_cases c : q = 0
    · subst c
      rw [if_neg (by decide)] at h
      rcases List.mem_cons.1 hk with rfl | hk
      · exact hs _ h1
      · exact nodes_good hs r h k hk
    · rw [if_pos (by simpa using c)] at h
      injection h with h
      cases h
theorem nodes_ret {self : FareCond → Option Int} : ∀ l : List FareCond, ∀ r, FareCondnode.loop1 self l = some (.ret r) → r ≠ 0
  | [], r, h => by rw [FareCondnode.loop1] at h; injection h with h; cases h
  | x :: l, r, h => by
    rw [FareCondnode.loop1] at h
    obtain ⟨q, h1, h⟩ := Option.bind_eq_some_iff.1 h
    by_cases c : q = 0
    · subst c
      rw [if_neg (by decide)] at h
      exact nodes_ret l r h
    · rw [if_pos (by simpa using c)] at h
      injection h with h
      injection h with h
      rw [← h]; exact c
theorem node_good : ∀ (fu : Nat) (c : FareCond), FareCondnode fu c = some 0 → Good c
  | 0, _, h => by cases h
  | fu + 1, ⟨kd, a, b, ks⟩, h => by
    rw [FareCondnode] at h
    dsimp only at h
    simp only [bnd_eq] at h
    obtain ⟨h1, h⟩ := ite_zero (by decide) h
    obtain ⟨h2, h⟩ := ite_zero (by decide) h
    obtain ⟨h3, h⟩ := ite_zero (by decide) h
    obtain ⟨h4, h⟩ := ite_zero (by decide) h
    obtain ⟨q, h5, h⟩ := Option.bind_eq_some_iff.1 h
    have k1 := within_true (by simpa using h1 : Farewithin kd 0 11 = true)
    have k2 : Farewithin a 0 28800 = true ∧ Farewithin b 0 28800 = true := by
      cases e : Farewithin a 0 28800 with
      | true => rw [e] at h2; exact ⟨rfl, by simpa using h2⟩
      | false => rw [e] at h2; simp at h2
    have ka := within_true k2.1
    have kb := within_true k2.2
    have h5' : FareCondnode.loop1 (FareCondnode fu) ks = some (.next ()) := by
      cases q with
      | next u => exact h5
      | ret r => dsimp only at h; injection h with h; exact absurd h (nodes_ret _ _ h5)
    have hk := nodes_good (fun c hc => node_good fu c hc) ks h5'
    have na : if 1 ≤ Farenumbers kd then Nu a else a = 0 := by
      split
      · exact nu_small (by omega)
      · rename_i c
        rw [if_pos (decide_eq_true (by omega))] at h3
        by_cases z : a = 0
        · exact z
        · rw [if_pos (by simpa using z)] at h3; cases h3
    have nb : if 2 ≤ Farenumbers kd then Nu b else b = 0 := by
      split
      · exact nu_small (by omega)
      · rename_i c
        by_cases z : b = 0
        · exact z
        · exfalso
          have z' : (b != 0) = true := by simpa using z
          by_cases c1 : Farenumbers kd < 1
          · rw [if_pos (decide_eq_true c1)] at h3
            by_cases y : (a != 0) = true
            · rw [if_pos y] at h3; cases h3
            · rw [if_neg y, if_pos (decide_eq_true (by omega)), if_pos z'] at h3; cases h3
          · rw [if_neg (by simpa using c1), if_pos (decide_eq_true (by omega)), if_pos z'] at h3; cases h3
    have z0 : Farenumbers kd = 0 → a = 0 ∧ b = 0 := fun e => by
      rw [e, if_neg (by decide)] at na nb
      exact ⟨na, nb⟩
    by_cases c9 : kd = 9
    · subst c9
      obtain ⟨rfl, rfl⟩ := z0 (by decide)
      rw [if_pos (by decide)] at h4
      by_cases z : ks.length = 1
      · match ks, z, hk with
        | [k], _, hk => exact Good.not (hk k (by simp))
      · rw [if_pos (by simp; omega)] at h4; cases h4
    · rw [if_neg (by simpa using c9)] at h4
      by_cases g : kd > 9
      · rw [if_pos (decide_eq_true g)] at h4
        by_cases z : ks.length < 2
        · rw [if_pos (decide_eq_true (by omega))] at h4; cases h4
        · have hn : Farenumbers kd = 0 := by
            rcases (show kd = 10 ∨ kd = 11 by omega) with rfl | rfl <;> decide
          obtain ⟨rfl, rfl⟩ := z0 hn
          exact Good.grp (by omega) (by omega) hk
      · rw [if_neg (by simpa using g), if_pos (decide_eq_true (by omega))] at h4
        have : ks = [] := by
          have := of_decide_eq_false h4
          exact List.eq_nil_of_length_eq_zero (by omega)
        subst this
        exact Good.leaf (by omega) na nb
/-- how long a text is -/
theorem jT_le {w : List UInt8} : ∀ l : List (List UInt8), (jT w l).length ≤ (l.map fun t => t.length + w.length + 2).sum
  | [] => by simp [jT]
  | x :: r => by
    have : ∀ r : List (List UInt8), (r.flatMap fun y => 32 :: w ++ 32 :: y).length = (r.map fun t => t.length + w.length + 2).sum := by
      intro r
      induction r with
      | nil => rfl
      | cons y r ih => rw [List.flatMap_cons, List.length_append, List.map_cons, List.sum_cons, ih]; simp; omega
    rw [jT, List.length_append, this, List.map_cons, List.sum_cons]
    omega
theorem nums_len {kd a b : Int} (ha : if 1 ≤ Farenumbers kd then Nu a else a = 0) (hb : if 2 ≤ Farenumbers kd then Nu b else b = 0) : ((nums kd a b).flatMap fun n => 32 :: Lib.itoa n).length ≤ 44 := by
  unfold nums
  rcases nn_cases kd with e | e | e
  · rw [e]; simp
  · rw [e] at ha ⊢
    rw [if_pos (by decide)] at ha
    have := itoa_len ha
    simp; omega
  · rw [e] at ha hb ⊢
    rw [if_pos (by decide)] at ha hb
    have := itoa_len ha
    have := itoa_len hb
    simp; omega
theorem cNs_sum : ∀ l : List FareCond, cNs l = (l.map cN).sum
  | [] => by rw [cNs]; rfl
  | x :: r => by rw [cNs, cNs_sum r]; rfl
theorem fr_sum_le {α : Type} {f g : α → Nat} : ∀ {l : List α}, (∀ x ∈ l, f x ≤ g x) → (l.map f).sum ≤ (l.map g).sum
  | [], _ => Nat.le_refl _
  | x :: l, h => by
    have := h x (by simp)
    have := fr_sum_le (l := l) (fun y m => h y (by simp [m]))
    simp only [List.map_cons, List.sum_cons]; omega
theorem fr_sum_mul {α : Type} {f : α → Nat} (m : Nat) : ∀ l : List α, (l.map fun x => m * f x).sum = m * (l.map f).sum
  | [] => rfl
  | x :: l => by simp only [List.map_cons, List.sum_cons, fr_sum_mul m l, Nat.mul_add]
theorem cT_len {c : FareCond} (h : Good c) : (cT c).length + 7 ≤ 57 * cN c := by
  induction h with
  | @leaf kd a b h ha hb =>
    have := nm_len (k := kd) (by omega)
    have := nums_len ha hb
    rw [cT, if_neg (by omega), if_neg (by omega), if_neg (by omega), cN, cNs, List.length_append]
    omega
  | @not k h ih =>
    have := par_len 9 k.Kind (cT k)
    rw [cT, if_pos rfl, ksT, cN, cNs, cNs]
    simp only [List.length_append, List.length_cons, List.headD_cons, List.length_nil]
    omega
  | @grp kd ks h hl hk ih =>
    have key : ∀ w : List UInt8, w.length ≤ 3 → (jT w (ks.map fun k => par kd k.Kind (cT k))).length + 7 ≤ 57 * cN ⟨kd, 0, 0, ks⟩ := by
      intro w hw
      have h1 := jT_le (w := w) (ks.map fun k => par kd k.Kind (cT k))
      rw [List.map_map] at h1
      have h2 := fr_sum_le (f := (fun t : List UInt8 => t.length + w.length + 2) ∘ fun k : FareCond => par kd k.Kind (cT k)) (g := fun k => 57 * cN k) (l := ks) (fun k m => by
        have := ih k m
        have := par_len kd k.Kind (cT k)
        simp only [Function.comp]; omega)
      rw [fr_sum_mul, ← cNs_sum] at h2
      rw [cN]
      omega
    rcases h with rfl | rfl
    · rw [cT, if_neg (by decide), if_pos rfl, ksT_map]
      exact key wAnd (by decide)
    · rw [cT, if_neg (by decide), if_neg (by decide), if_pos rfl, ksT_map]
      exact key wOr (by decide)
/-! texts cut at a byte -/
def jn (c : UInt8) : List (List UInt8) → List UInt8
  | [] => []
  | [a] => a
  | a :: b :: r => a ++ c :: jn c (b :: r)
theorem index_no (c : UInt8) : ∀ a : List UInt8, c ∉ a → Lib.index a [c] = -1
  | [], _ => rfl
  | b :: a, h => by
    have hb : ¬ c = b := fun e => h (by simp [e])
    have hp : ([c] : List UInt8).isPrefixOf (b :: a) = false := by simp [List.isPrefixOf, hb]
    rw [Lib.index, hp, index_no c a (fun m => h (by simp [m]))]
    rfl
theorem index_at (c : UInt8) (r : List UInt8) : ∀ a : List UInt8, c ∉ a → Lib.index (a ++ c :: r) [c] = (a.length : Int)
  | [], _ => by
    have hp : ([c] : List UInt8).isPrefixOf (c :: r) = true := by simp [List.isPrefixOf]
    rw [List.nil_append, Lib.index, hp]; rfl
  | b :: a, h => by
    have hb : ¬ c = b := fun e => h (by simp [e])
    have hp : ([c] : List UInt8).isPrefixOf (b :: (a ++ c :: r)) = false := by simp [List.isPrefixOf, hb]
    rw [List.cons_append, Lib.index, hp, index_at c r a (fun m => h (by simp [m]))]
    rw [if_neg (by decide), if_neg (by rw [beq_iff_eq]; omega)]
    simp
theorem split_jn (c : UInt8) : ∀ (P : List (List UInt8)) (s : ByteArray), P ≠ [] → (∀ a ∈ P, c ∉ a) → s.data.toList = jn c P → Lib.countB s (str [c]) + 1 = P.length ∧ Lib.splitB (str [c]) 0 (Lib.countB s (str [c])) s = P.map str
  | [], _, h, _, _ => absurd rfl h
  | [a], s, _, hc, hs => by
    have hi : Lib.indexB s (str [c]) = -1 := by
      unfold Lib.indexB
      rw [hs]
      exact index_no c a (hc a (by simp))
    rw [Lib.countB_miss s _ hi]
    refine ⟨rfl, ?_⟩
    rw [Lib.splitB_zero, List.map_cons, List.map_nil]
    congr 1
    exact ba_ext (by rw [hs]; rfl)
  | a :: b :: r, s, _, hc, hs => by
    have hi : Lib.indexB s (str [c]) = ((a.length : Nat) : Int) := by
      unfold Lib.indexB
      rw [hs]
      exact index_at c _ a (hc a (by simp))
    have h1 : (str [c]).size = 1 := rfl
    have hx : (s.extract (a.length + 1) s.size).data.toList = jn c (b :: r) := by
      rw [cut_list, List.take_of_length_le (by rw [← ba_size]; exact Nat.le_refl _), hs]
      show (a ++ c :: jn c (b :: r)).drop (a.length + 1) = _
      rw [← List.drop_drop, List.drop_left]
      rfl
    obtain ⟨k1, k2⟩ := split_jn c (b :: r) (s.extract (a.length + 1) s.size) (by simp) (fun x hx => hc x (by simp [List.mem_cons] at hx ⊢; exact .inr hx)) hx
    have hcnt : Lib.countB s (str [c]) = Lib.countB (s.extract (a.length + 1) s.size) (str [c]) + 1 := by
      rw [Lib.countB_hit s (str [c]) a.length (by rw [h1]; decide) hi, h1]; omega
    refine ⟨by rw [hcnt, k1]; rfl, ?_⟩
    rw [hcnt, Lib.splitB_hit (str [c]) 0 _ s a.length hi, h1, k2, List.map_cons, Nat.add_zero]
    congr 1
    refine ba_ext ?_
    rw [cut_list, hs, List.drop_zero]
    show (a ++ c :: jn c (b :: r)).take a.length = a
    rw [List.take_left]
theorem splitq_jn (c : UInt8) (P : List (List UInt8)) (s : ByteArray) (h0 : P ≠ []) (hc : ∀ a ∈ P, c ∉ a) (hs : s.data.toList = jn c P) (hz : s.size ≤ 1000000) : splitq s (str [c]) = some (P.map str) := by
  unfold splitq
  rw [if_pos ⟨by omega, (by decide : 1 ≤ 1)⟩, (split_jn c P s h0 hc hs).2]
theorem fl_jn : ∀ L : List (List UInt8), L ≠ [] → fl L = jn 10 L ++ [10]
  | [], h => absurd rfl h
  | [a], _ => by rw [fl_cons]; simp [fl, jn]
  | a :: b :: r, _ => by rw [fl_cons, fl_jn (b :: r) (by simp), jn]; simp
theorem cutsq_end (b : List UInt8) (hz : b.length ≤ 1000000) : cutsq (str (b ++ [10])) (str [10]) = some (str b, true) := by
  have h : Lib.hasSuffix (b ++ [10]) [10] = true := by unfold Lib.hasSuffix; simp [List.isSuffixOf]
  unfold cutsq
  rw [if_pos (by rw [str_size]; simp; omega)]
  dsimp only
  rw [h]
  unfold Lib.trimSuffix
  rw [if_pos h]
  congr 2
  simp
/-! writers -/
theorem sbw_str {y x : List UInt8} (h0 : x ≠ []) (h : y.length + x.length ≤ 2000000) : sbw (str y) (str x) = some (str (y ++ x)) := by
  unfold sbw
  rw [if_pos ⟨by rw [str_size]; exact List.length_pos_iff.2 h0, by rw [str_size, str_size]; omega⟩, str_app]
theorem fl_len (x : List UInt8) (L : List (List UInt8)) : (fl (x :: L)).length = x.length + 1 + (fl L).length := by rw [fl_cons]; simp; omega
theorem bands_text : ∀ (bs : List FareBand) (q : List UInt8), (∀ b ∈ bs, GoodB b) → q.length + (fl (bs.map bT)).length ≤ 1000000 →
    FareTarifftext.loop1 bs (str q) = some (str (q ++ fl (bs.map bT))) ∧ Fishref2TariffText.loop1 bs (str q) = some (str (q ++ fl (bs.map bT)))
  | [], q, _, _ => by simp [FareTarifftext.loop1, Fishref2TariffText.loop1, fl]
  | b :: bs, q, hg, hl => by
    obtain ⟨hb1, hb2⟩ := hg b (by simp)
    rw [List.map_cons, fl_len] at hl
    have l1 := itoa_len hb1
    have l2 := itoa_len hb2
    have e : [98, 97, 110, 100, 32] ++ Lib.itoa b.Upto ++ [32] ++ Lib.itoa b.Price ++ [10] = bT b ++ [10] := by simp [bT]
    have ne : bT b ++ [10] ≠ [] := by simp
    obtain ⟨k1, k2⟩ := bands_text bs (q ++ (bT b ++ [10])) (fun y hy => hg y (by simp [hy])) (by simp; omega)
    constructor
    · rw [FareTarifftext.loop1, itoa_str hb1.1, Option.bind_some, scat_str (by simp; omega), Option.bind_some, scat_str (by simp; omega), Option.bind_some, itoa_str hb2.1, Option.bind_some, scat_str (by simp; omega), Option.bind_some, scat_str (by simp; omega), Option.bind_some, e, sbw_str ne (by simp; omega), Option.bind_some, k1, List.map_cons, fl_cons]
      simp
    · rw [Fishref2TariffText.loop1, itoa_str hb1.1, Option.bind_some, scat_str (by simp; omega), Option.bind_some, scat_str (by simp; omega), Option.bind_some, itoa_str hb2.1, Option.bind_some, scat_str (by simp; omega), Option.bind_some, scat_str (by simp; omega), Option.bind_some, e, scat_str (by simp; omega), Option.bind_some, k2, List.map_cons, fl_cons]
      simp
theorem gx_dd {k : Int} (h : 1 ≤ k ∧ k ≤ 6) : gx (ddL.map str) k = some (str (dd k)) := by
  rcases dd_cases h with rfl | rfl | rfl | rfl | rfl | rfl <;> rfl
theorem rT_len (r : FareRule) : (cT r.If).length + 4 ≤ (rT r).length := by unfold rT; simp; omega
theorem rules_text {fu : Nat} : ∀ (us : List FareRule) (q : List UInt8), (∀ u ∈ us, GoodR u) → q.length + (fl (us.map rT)).length ≤ 1000000 → 1000010 ≤ fu →
    FareTarifftext.loop2 fu us (str q) = some (str (q ++ fl (us.map rT))) ∧ Fishref2TariffText.loop2 fu us (str q) = some (str (q ++ fl (us.map rT)))
  | [], q, _, _, _ => by simp [FareTarifftext.loop2, Fishref2TariffText.loop2, fl]
  | u :: us, q, hg, hl, hf => by
    obtain ⟨h1, h2, h3⟩ := hg u (by simp)
    rw [List.map_cons, fl_len] at hl
    have l1 := itoa_len h3
    have l2 := dd_len h2
    have l0 := rT_len u
    obtain ⟨c1, c2⟩ := c_text h1 fu (by omega) (by omega)
    obtain ⟨k1, k2⟩ := rules_text us (q ++ (rT u ++ [10])) (fun y hy => hg y (by simp [hy])) (by simp; omega) hf
    have e0 : cT u.If ++ [32, 58, 32] ++ dd u.Do ++ [32] ++ Lib.itoa u.N ++ (stT u.Stop ++ [10]) = rT u ++ [10] := by simp [rT]
    have ne : cT u.If ++ [32, 58, 32] ++ dd u.Do ++ [32] ++ Lib.itoa u.N ≠ [] := by simp
    have lr : (rT u).length = (cT u.If).length + 3 + (dd u.Do).length + 1 + (Lib.itoa u.N).length + (stT u.Stop).length := by unfold rT; simp; omega
    constructor
    · rw [FareTarifftext.loop2, c1, Option.bind_some, scat_str (by simp; omega), Option.bind_some, bnd_eq, deeds_list, gx_dd h2, Option.bind_some, scat_str (by simp; omega), Option.bind_some, scat_str (by simp; omega), Option.bind_some, itoa_str h3.1, Option.bind_some, scat_str (by simp; omega), Option.bind_some, sbw_str ne (by simp; omega), Option.bind_some]
      cases hs : u.Stop with
      | true =>
        rw [hs] at e0 lr
        have ls : (stT true).length = 5 := rfl
        rw [if_pos rfl, sbw_str (by simp) (by simp; omega), Option.bind_some, sbw_str (by simp) (by simp; omega), Option.bind_some]
        rw [show q ++ (cT u.If ++ [32, 58, 32] ++ dd u.Do ++ [32] ++ Lib.itoa u.N) ++ [32, 115, 116, 111, 112] ++ [10] = q ++ (rT u ++ [10]) by rw [← e0]; simp [stT], k1, List.map_cons, fl_cons]
        simp
      | false =>
        rw [hs] at e0 lr
        have ls : (stT false).length = 0 := rfl
        rw [if_neg (by decide), sbw_str (by simp) (by simp; omega), Option.bind_some]
        rw [show q ++ (cT u.If ++ [32, 58, 32] ++ dd u.Do ++ [32] ++ Lib.itoa u.N) ++ [10] = q ++ (rT u ++ [10]) by rw [← e0]; simp [stT], k1, List.map_cons, fl_cons]
        simp
    · rw [Fishref2TariffText.loop2, c2, Option.bind_some, scat_str (by simp; omega), Option.bind_some, show gx [(str []), (str [112, 101, 114, 99, 101, 110, 116]), (str [109, 105, 110, 117, 115]), (str [112, 108, 117, 115]), (str [102, 105, 120]), (str [97, 116, 109, 111, 115, 116]), (str [97, 116, 108, 101, 97, 115, 116])] u.Do = some (str (dd u.Do)) from gx_dd h2, Option.bind_some, scat_str (by simp; omega), Option.bind_some, scat_str (by simp; omega), Option.bind_some, itoa_str h3.1, Option.bind_some, scat_str (by simp; omega), Option.bind_some, scat_str (by simp; omega), Option.bind_some]
      cases hs : u.Stop with
      | true =>
        rw [hs] at e0 lr
        have ls : (stT true).length = 5 := rfl
        rw [if_pos rfl, scat_str (by simp; omega), Option.bind_some, Option.bind_some, scat_str (by simp; omega), Option.bind_some]
        rw [show q ++ (cT u.If ++ [32, 58, 32] ++ dd u.Do ++ [32] ++ Lib.itoa u.N) ++ [32, 115, 116, 111, 112] ++ [10] = q ++ (rT u ++ [10]) by rw [← e0]; simp [stT], k2, List.map_cons, fl_cons]
        simp
      | false =>
        rw [hs] at e0 lr
        have ls : (stT false).length = 0 := rfl
        rw [if_neg (by decide), Option.bind_some, scat_str (by simp; omega), Option.bind_some]
        rw [show q ++ (cT u.If ++ [32, 58, 32] ++ dd u.Do ++ [32] ++ Lib.itoa u.N) ++ [10] = q ++ (rT u ++ [10]) by rw [← e0]; simp [stT], k2, List.map_cons, fl_cons]
        simp
theorem tT_eq (t : FareTariff) : tarT t = hT t.ByKm ++ 10 :: (fl (t.Bands.map bT) ++ (oT t.Round ++ 10 :: fl (t.Rules.map rT))) := by
  unfold tarT tL
  rw [fl_cons, fl_app, fl_cons]
theorem t_text {t : FareTariff} (h : GoodT t) (hl : (tarT t).length ≤ 900000) {fu : Nat} (hf : 1000010 ≤ fu) : FareTarifftext fu t = some (str (tarT t)) ∧ Fishref2TariffText fu t = some (str (tarT t)) := by
  obtain ⟨h1, h2, h3⟩ := h
  have le := congrArg List.length (tT_eq t)
  simp only [List.length_append, List.length_cons] at le
  have lo := itoa_len h2
  have eo : [114, 111, 117, 110, 100, 32] ++ Lib.itoa t.Round ++ [10] = oT t.Round ++ [10] := by simp [oT]
  have lo2 : (oT t.Round).length = 6 + (Lib.itoa t.Round).length := by unfold oT; simp; omega
  obtain ⟨b1, b2⟩ := bands_text t.Bands (hT t.ByKm ++ [10]) h1 (by simp; omega)
  obtain ⟨r1, r2⟩ := rules_text (fu := fu) t.Rules (hT t.ByKm ++ [10] ++ fl (t.Bands.map bT) ++ (oT t.Round ++ [10])) h3 (by simp; omega) hf
  have es : hT t.ByKm ++ [10] ++ fl (t.Bands.map bT) ++ (oT t.Round ++ [10]) ++ fl (t.Rules.map rT) = tarT t := by rw [tT_eq]; simp
  constructor
  · unfold FareTarifftext
    have hm : (mget (mput (mput [] false (str [122, 111, 110, 101, 115, 10])) true (str [107, 109, 10])) t.ByKm).getD ByteArray.empty = str (hT t.ByKm ++ [10]) := by cases t.ByKm <;> rfl
    rw [hm, show ByteArray.empty = str [] from rfl, sbw_str (by simp) (by simp; omega), Option.bind_some, List.nil_append, b1, Option.bind_some, itoa_str h2.1, Option.bind_some, scat_str (by simp; omega), Option.bind_some, scat_str (by simp; omega), Option.bind_some, eo, sbw_str (by simp) (by simp; omega), Option.bind_some, r1, Option.bind_some, es]
  · unfold Fishref2TariffText
    have hm : (if t.ByKm = true then (str [107, 109, 10]) else (str [122, 111, 110, 101, 115, 10])) = str (hT t.ByKm ++ [10]) := by cases t.ByKm <;> rfl
    rw [bnd_eq, hm, b2, Option.bind_some, itoa_str h2.1, Option.bind_some, scat_str (by simp; omega), Option.bind_some, scat_str (by simp; omega), Option.bind_some, eo, scat_str (by simp; omega), Option.bind_some, r2, Option.bind_some, es]
/-! the tariff is read again -/
theorem fl_mem {L : List (List UInt8)} {x : List UInt8} (h : x ∈ L) : x.length + 1 ≤ (fl L).length := by
  induction L with
  | nil => cases h
  | cons y L ih =>
    rw [fl_len]
    rcases List.mem_cons.1 h with rfl | h
    · omega
    · have := ih h; omega
theorem fl_cnt : ∀ L : List (List UInt8), L.length ≤ (fl L).length
  | [] => by simp
  | y :: L => by have := fl_cnt L; rw [fl_len, List.length_cons]; omega
theorem tariff_reads {t : FareTariff} (h : GoodT t) (hl : (tarT t).length ≤ 90000) {fu : Nat} (hf : 1000010 ≤ fu) : Faretariff fu (str (tarT t)) = some (some t) := by
  have hne : tL t ≠ [] := by unfold tL; simp
  have ej : tarT t = jn 10 (tL t) ++ [10] := fl_jn _ hne
  have lj := congrArg List.length ej
  rw [List.length_append] at lj
  have l0 := fl_cnt (tL t)
  have l1 : (tL t).length = 1 + (t.Bands.length + (1 + t.Rules.length)) := by unfold tL; simp; omega
  have l2 : (tL t).length ≤ (tarT t).length := l0
  have hr : ∀ u ∈ t.Rules, (rT u).length ≤ 90000 := fun u hu => by
    have : rT u ∈ tL t := by unfold tL; simp only [List.mem_cons, List.mem_append, List.mem_map]; exact .inr (.inr (.inr ⟨u, hu, rfl⟩))
    have := fl_mem this
    have : (fl (tL t)).length = (tarT t).length := rfl
    omega
  have d0 : (tL t).drop 0 = hT t.ByKm :: (t.Bands.map bT ++ (oT t.Round :: t.Rules.map rT)) := rfl
  have d1 : (tL t).drop 1 = t.Bands.map bT ++ (oT t.Round :: t.Rules.map rT) := rfl
  have d2 := drop_app d1
  rw [List.length_map] at d2
  obtain ⟨_, _, d3⟩ := drop_get d2
  unfold Faretariff
  rw [ej, cutsq_end _ (by simp at lj; omega), Option.bind_some]
  dsimp only
  rw [if_neg (by decide), splitq_jn 10 (tL t) _ hne (fun a ha m => (okl_asc (okl_t h a ha 10 m)).2 rfl) rfl (by rw [str_size]; simp at lj; omega), Option.bind_some]
  rw [List.length_map, show (tL t).length = (t.Bands.length + (t.Rules.length + 1)) + 1 by omega, head_step (by omega) d0, bands_run (by omega) t.Bands 1 (t.Rules.length + 1) _ [] t.ByKm 0 [] h.1 d1 (by simp; omega), List.nil_append, round_step (by omega) h.2.1 d2 t.ByKm t.Bands [], rules_run (by omega) t.Rules _ t.Bands t.ByKm t.Round [] (fun u hu => ⟨h.2.2 u hu, by have := hr u hu; omega⟩) d3 (by simp; omega), Option.bind_some, List.nil_append]
  dsimp only
  rw [if_neg (by decide), (t_text h (by omega) hf).1, Option.bind_some, ← ej, seq_self]
  rfl
/-! a tariff is equal to itself -/
theorem conds_same {self : FareCond → FareCond → Option Bool} {L : List FareCond} : ∀ (l : List FareCond) (k : Nat), (∀ c ∈ l, self c c = some true) → L.drop k = l → SlicesEqualFuncLfareCond_v2.loop1 L self l k = some (.next ())
  | [], k, _, _ => rfl
  | c :: l, k, h, hd => by
    obtain ⟨d1, _, d3⟩ := drop_get hd
    rw [SlicesEqualFuncLfareCond_v2.loop1, gx_nat, d1, Option.bind_some, h c (by simp), Option.bind_some, if_neg (by decide)]
    exact conds_same l (k + 1) (fun y hy => h y (by simp [hy])) d3
theorem cond_same {c : FareCond} (h : Good c) : ∀ fu : Nat, (cT c).length + 1 ≤ fu → Fishref2SameCond fu c c = some true := by
  induction h with
  | @leaf kd a b h ha hb =>
    intro fu hf
    obtain ⟨f, rfl⟩ : ∃ f, fu = f + 1 := ⟨fu - 1, by omega⟩
    simp [Fishref2SameCond, SlicesEqualFuncLfareCond_v2, SlicesEqualFuncLfareCond_v2.loop1]
  | @not k h ih =>
    intro fu hf
    obtain ⟨f, rfl⟩ : ∃ f, fu = f + 1 := ⟨fu - 1, by omega⟩
    have e : cT ⟨9, 0, 0, [k]⟩ = wNot ++ 32 :: par 9 k.Kind (cT k) := by rw [cT, if_pos rfl, ksT]; rfl
    have hp := par_len 9 k.Kind (cT k)
    have el : (cT ⟨9, 0, 0, [k]⟩).length = 4 + (par 9 k.Kind (cT k)).length := by rw [e]; simp; omega
    have hk := conds_same (self := Fishref2SameCond f) (L := [k]) [k] 0 (fun c hc => by rw [List.mem_singleton.1 hc]; exact ih f (by omega)) rfl
    rw [Fishref2SameCond]
    dsimp only
    rw [SlicesEqualFuncLfareCond_v2, hk]
    simp
  | @grp kd ks h hl hk ih =>
    intro fu hf
    obtain ⟨f, rfl⟩ : ∃ f, fu = f + 1 := ⟨fu - 1, by omega⟩
    have key : ∀ w : List UInt8, cT ⟨kd, 0, 0, ks⟩ = jT w (ks.map fun k => par kd k.Kind (cT k)) → ∀ k ∈ ks, Fishref2SameCond f k k = some true := fun w hw k hm => by
      have h1 := jT_mem (w := w) (List.mem_map_of_mem (f := fun k : FareCond => par kd k.Kind (cT k)) hm) (by simpa using hl)
      rw [← hw] at h1
      have h2 := par_len kd k.Kind (cT k)
      exact ih k hm f (by omega)
    have hs : ∀ k ∈ ks, Fishref2SameCond f k k = some true := by
      rcases h with rfl | rfl
      · exact key wAnd (by rw [cT, if_neg (by decide), if_pos rfl, ksT_map])
      · exact key wOr (by rw [cT, if_neg (by decide), if_neg (by decide), if_pos rfl, ksT_map])
    have hk := conds_same (self := Fishref2SameCond f) (L := ks) ks 0 hs rfl
    rw [Fishref2SameCond]
    dsimp only
    rw [SlicesEqualFuncLfareCond_v2, hk]
    simp
theorem rules_same {fu : Nat} {L : List FareRule} : ∀ (l : List FareRule) (k : Nat), (∀ r ∈ l, Fishref2SameCond fu r.If r.If = some true) → L.drop k = l → SlicesEqualFuncLfareRule_v1.loop1 L fu l k = some (.next ())
  | [], k, _, _ => rfl
  | r :: l, k, h, hd => by
    obtain ⟨d1, _, d3⟩ := drop_get hd
    have e : Fishref2SameTariff_1 fu r r = some true := by unfold Fishref2SameTariff_1; rw [h r (by simp)]; simp
    rw [SlicesEqualFuncLfareRule_v1.loop1, gx_nat, d1, Option.bind_some, e, Option.bind_some, if_neg (by decide)]
    exact rules_same l (k + 1) (fun y hy => h y (by simp [hy])) d3
theorem bands_same {L : List FareBand} : ∀ (l : List FareBand) (k : Nat), L.drop k = l → SlicesEqualLfareBand.loop1 L l k = some (.next ())
  | [], k, _ => rfl
  | r :: l, k, hd => by
    obtain ⟨d1, _, d3⟩ := drop_get hd
    rw [SlicesEqualLfareBand.loop1, gx_nat, d1, Option.bind_some, if_neg (by simp)]
    exact bands_same l (k + 1) d3
theorem tariff_same {t : FareTariff} {fu : Nat} (h : ∀ r ∈ t.Rules, Fishref2SameCond fu r.If r.If = some true) : Fishref2SameTariff fu t t = some true := by
  unfold Fishref2SameTariff SlicesEqualLfareBand SlicesEqualFuncLfareRule_v1
  rw [bands_same t.Bands 0 rfl, rules_same t.Rules 0 h rfl]
  simp
/-! the check -/
theorem check_bands {t : FareTariff} : ∀ (l : List FareBand) (k : Nat), FareCheckTariff.loop1 t l k = some (.next ()) → ∀ b ∈ l, (1 ≤ b.Upto ∧ b.Upto ≤ 1000) ∧ 0 ≤ b.Price ∧ b.Price ≤ 100000
  | [], k, _, b, hb => by cases hb
  | x :: l, k, h, b, hb => by
    rw [FareCheckTariff.loop1, bnd_eq] at h
    have h1 : (if (!Farewithin x.Upto 1 1000) = true then true else !Farewithin x.Price 0 100000) = false := by
      rw [Bool.eq_false_iff]; intro c; rw [if_pos c] at h; injection h with h; cases h
    rw [if_neg (by rw [h1]; decide)] at h
    obtain ⟨q, _, h⟩ := Option.bind_eq_some_iff.1 h
    have h2 : q = false := by
      rw [Bool.eq_false_iff]; intro c; rw [if_pos c] at h; injection h with h; cases h
    rw [if_neg (by rw [h2]; decide)] at h
    rcases List.mem_cons.1 hb with rfl | hb
    · cases e : Farewithin b.Upto 1 1000 with
      | false => rw [e] at h1; simp at h1
      | true => rw [e] at h1; exact ⟨within_true e, within_true (by simpa using h1)⟩
    · exact check_bands l (k + 1) h b hb
theorem check_bands_ret {t : FareTariff} : ∀ (l : List FareBand) (k : Nat) (r : Int), FareCheckTariff.loop1 t l k = some (.ret r) → r ≠ 0
  | [], k, r, h => by rw [FareCheckTariff.loop1] at h; injection h with h; cases h
  | x :: l, k, r, h => by
    rw [FareCheckTariff.loop1, bnd_eq] at h
    by_cases c : (if (!Farewithin x.Upto 1 1000) = true then true else !Farewithin x.Price 0 100000) = true
    · rw [if_pos c] at h; injection h with h; injection h with h; rw [← h]; decide
    · rw [if_neg c] at h
      obtain ⟨q, _, h⟩ := Option.bind_eq_some_iff.1 h
      by_cases c2 : q = true
      · rw [if_pos c2] at h; injection h with h; injection h with h; rw [← h]; decide
      · rw [if_neg c2] at h; exact check_bands_ret l (k + 1) r h
theorem check_rules {fu : Nat} (hf : 1048576 ≤ fu) : ∀ (l : List FareRule), (∀ x ∈ l, szFareCond x.If ≤ 1048576) → FareCheckTariff.loop2 fu l = some (.next ()) → ∀ r ∈ l, GoodR r ∧ cN r.If ≤ 40
  | [], _, _, b, hb => by cases hb
  | x :: l, hz, h, r, hr => by
    rw [FareCheckTariff.loop2] at h
    obtain ⟨q, h1, h⟩ := Option.bind_eq_some_iff.1 h
    have h2 : q = 0 := by
      refine Decidable.byContradiction fun c => ?_
      rw [if_pos (by simpa using c)] at h; injection h with h; cases h
    subst h2
    rw [if_neg (by decide), bnd_eq] at h
    have h3 : Farewithin x.Do 1 6 = true := by
      cases e : Farewithin x.Do 1 6 with
      | true => rfl
      | false => rw [e] at h; injection h with h; cases h
    rw [if_neg (by rw [h3]; decide)] at h
    have h4 : Farewithin x.N 0 (if (x.Do == 1) = true then 200 else 100000) = true := by
      cases e : Farewithin x.N 0 (if (x.Do == 1) = true then 200 else 100000) with
      | true => rfl
      | false => rw [e] at h; injection h with h; cases h
    rw [if_neg (by rw [h4]; decide)] at h
    rcases List.mem_cons.1 hr with rfl | hr
    · have hs := hz r (by simp)
      have c1 := cN_sz r.If
      have c2 := cL_le r.If
      unfold FareCondcheck at h1
      rw [size_ok r.If fu (by omega) (by omega), Option.bind_some, bnd_eq] at h1
      dsimp only at h1
      obtain ⟨h5, h1⟩ := ite_zero (by decide) h1
      have h6 : FareCondnode fu r.If = some 0 := by
        obtain ⟨q, h6, h7⟩ := Option.bind_eq_some_iff.1 h1
        injection h7 with h7
        rw [h6, h7]
      have h7 : cN r.If ≤ 40 := by
        refine Decidable.byContradiction fun c => ?_
        rw [if_pos (decide_eq_true (by omega))] at h5; cases h5
      have k3 := within_true h3
      have k4 := within_true h4
      refine ⟨⟨node_good fu r.If h6, k3, nu_small ⟨k4.1, ?_⟩⟩, h7⟩
      have := k4.2
      split at this <;> omega
    · exact check_rules hf l (fun y hy => hz y (by simp [hy])) h r hr
theorem check_rules_ret {fu : Nat} : ∀ (l : List FareRule) (r : Int), FareCheckTariff.loop2 fu l = some (.ret r) → r ≠ 0
  | [], r, h => by rw [FareCheckTariff.loop2] at h; injection h with h; cases h
  | x :: l, r, h => by
    rw [FareCheckTariff.loop2] at h
    obtain ⟨q, h1, h⟩ := Option.bind_eq_some_iff.1 h
    by_cases c : (q != 0) = true
    · rw [if_pos c] at h; injection h with h; injection h with h; rw [← h]; simpa using c
    · rw [if_neg c, bnd_eq] at h
      by_cases c2 : (!Farewithin x.Do 1 6) = true
      · rw [if_pos c2] at h; injection h with h; injection h with h; rw [← h]; decide
      · rw [if_neg c2] at h
        by_cases c3 : (!Farewithin x.N 0 (if (x.Do == 1) = true then 200 else 100000)) = true
        · rw [if_pos c3] at h; injection h with h; injection h with h; rw [← h]; decide
        · rw [if_neg c3] at h; exact check_rules_ret l r h
theorem check_good {t : FareTariff} {fu : Nat} (hf : 1048576 ≤ fu) (hz : szFareTariff t ≤ 1048576) (h : FareCheckTariff fu t = some 0) : GoodT t ∧ (tarT t).length ≤ 65536 := by
  unfold FareCheckTariff at h
  rw [bnd_eq] at h
  obtain ⟨h1, h⟩ := ite_zero (by decide) h
  obtain ⟨q, h2, h⟩ := Option.bind_eq_some_iff.1 h
  have h2' : FareCheckTariff.loop1 t t.Bands 0 = some (.next ()) := by
    cases q with
    | next u => exact h2
    | ret r => dsimp only at h; injection h with h; exact absurd h (check_bands_ret _ _ _ h2)
  have hq : q = .next () := by rw [h2'] at h2; injection h2 with h2; exact h2.symm
  subst hq
  dsimp only at h
  obtain ⟨h3, h⟩ := ite_zero (by decide) h
  obtain ⟨q, h4, h⟩ := Option.bind_eq_some_iff.1 h
  have h4' : FareCheckTariff.loop2 fu t.Rules = some (.next ()) := by
    cases q with
    | next u => exact h4
    | ret r => dsimp only at h; injection h with h; exact absurd h (check_rules_ret _ _ h4)
  have hb := check_bands t.Bands 0 h2'
  have hr := check_rules hf t.Rules (rules_sz hz) h4'
  have ho := within_true (by simpa using h3 : Farewithin t.Round 1 100 = true)
  have hg : GoodT t := ⟨fun b m => ⟨nu_small (by have := hb b m; omega), nu_small (by have := hb b m; omega)⟩, nu_small (by omega), fun r m => (hr r m).1⟩
  refine ⟨hg, ?_⟩
  have hcnt : t.Bands.length ≤ 8 ∧ t.Rules.length ≤ 20 := by
    cases e : Farewithin ((t.Bands.length : Nat) : Int) 1 8 with
    | false => rw [e] at h1; simp at h1
    | true =>
      rw [e] at h1
      have k1 := within_true e
      have k2 := of_decide_eq_false (by simpa using h1 : decide (((t.Rules.length : Nat) : Int) > 20) = false)
      omega
  have flb : ∀ (L : List (List UInt8)) (m : Nat), (∀ x ∈ L, x.length + 1 ≤ m) → (fl L).length ≤ m * L.length := by
    intro L m
    induction L with
    | nil => intro _; simp [fl]
    | cons x L ih =>
      intro hx
      have := hx x (by simp)
      have := ih (fun y hy => hx y (by simp [hy]))
      rw [fl_len, List.length_cons, Nat.mul_add]
      omega
  have b1 := flb (t.Bands.map bT) 60 (fun x hx => by
    obtain ⟨b, hb, rfl⟩ := List.mem_map.1 hx
    have := itoa_len (hg.1 b hb).1
    have := itoa_len (hg.1 b hb).2
    simp [bT]; omega)
  have r1 := flb (t.Rules.map rT) 2400 (fun x hx => by
    obtain ⟨r, hr', rfl⟩ := List.mem_map.1 hx
    obtain ⟨⟨g1, g2, g3⟩, g4⟩ := hr r hr'
    have := itoa_len g3
    have := dd_len g2
    have := cT_len g1
    have : (stT r.Stop).length ≤ 5 := by cases r.Stop <;> decide
    simp [rT]; omega)
  have lo := itoa_len hg.2.1
  have lh : (hT t.ByKm).length ≤ 5 := by cases t.ByKm <;> decide
  have le := congrArg List.length (tT_eq t)
  simp only [List.length_append, List.length_cons, oT] at le
  rw [List.length_map] at b1 r1
  have m1 : 60 * t.Bands.length ≤ 60 * 8 := Nat.mul_le_mul_left _ hcnt.1
  have m2 : 2400 * t.Rules.length ≤ 2400 * 20 := Nat.mul_le_mul_left _ hcnt.2
  simp at le
  omega
theorem fares_true (n : Nat) : Fishlaw2fares (n + 60) = some true := by kernel_rfl
theorem FareTexts_law (x0 : FareTariff) (h0_0 : x0.Bands.length ≤ 9223372036854775807) (_ : x0.Rules.length ≤ 9223372036854775807) (z0 : szFareTariff x0 ≤ 1048576) : ∃ fu, Fishlaw2FareTexts fu x0 = some true := by
  refine ⟨1048576 + 60, ?_⟩
  obtain ⟨e1, e, e2⟩ := tariff_ref (fu := 1048576 + 60) (by omega) x0 h0_0 z0
  unfold Fishlaw2FareTexts FareText
  rw [e1, e2, fares_true, Option.bind_some]
  by_cases c : e = 0
  · subst c
    obtain ⟨hg, hl⟩ := check_good (by omega) z0 e2
    obtain ⟨t1, t2⟩ := t_text hg (by omega) (fu := 1048576 + 60) (by omega)
    rw [if_neg (by decide), t1, Option.bind_some, Option.bind_some, Option.bind_some, if_neg (by decide)]
    unfold FareRead
    rw [if_neg (by rw [str_size]; simp; omega), tariff_reads hg (by omega) (by omega), Option.bind_some]
    dsimp only
    rw [e2, Option.bind_some, if_neg (by decide), Option.bind_some, Option.bind_some, if_pos rfl, if_pos (show ((0 : Int) == 0) = true from rfl), t2, Option.bind_some, if_pos (seq_self _), if_pos (show ((0 : Int) == 0) = true from rfl), tariff_same (fun r hr => ?_)]
    · rfl
    · have h1 := cT_len (hg.2.2 r hr).1
      have h2 := cN_sz r.If
      have h3 := rules_sz z0 r hr
      have h4 : rT r ∈ tL x0 := by unfold tL; simp only [List.mem_cons, List.mem_append, List.mem_map]; exact .inr (.inr (.inr ⟨r, hr, rfl⟩))
      have h5 := fl_mem h4
      have h6 : (fl (tL x0)).length = (tarT x0).length := rfl
      have h7 := rT_len r
      exact cond_same (hg.2.2 r hr).1 _ (by omega)
  · have cb : (e != 0) = true := by simpa using c
    rw [if_pos cb, Option.bind_some, Option.bind_some, if_pos cb, Option.bind_some, if_pos rfl, if_pos (by simp)]
    rfl
end Go.Fp
