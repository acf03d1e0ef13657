/- FareReads: the mirror of the law is true of all texts. -/
import Derived.Test.YtfdifpegldailaaGreatDoorFareReadsM
import Derived.Test.YtfdifpegldailaaGreatDoorFpPlain
import Derived.Lib.ItoaLen
import Derived.Lib.AtoiTie
import Derived.Lib.SplitLaws
import Derived.Lib.CountLaws
import Derived.Lib.ItoaMem
import Derived.Lib.AtoiAllCases
import Derived.KernelRfl
namespace Go.Fp
theorem seq_iff (x y : ByteArray) : seq x y = true ↔ x.data.toList = y.data.toList := by unfold seq; exact beq_iff_eq
theorem ba_ext {x y : ByteArray} (h : x.data.toList = y.data.toList) : x = y := by
 cases x; cases y
 simp only at h
 congr 1
 exact Array.toList_inj.1 h
theorem ba_size (x : ByteArray) : x.size = x.data.toList.length := by rw [Array.length_toList]; rfl
theorem cut_list (s : ByteArray) (a b : Nat) : (s.extract a b).data.toList = (s.data.toList.take b).drop a := by
 rw [Lib.extract_data, List.drop_take]
theorem str_list (l : List UInt8) : (str l).data.toList = l := rfl
theorem str_size (l : List UInt8) : (str l).size = l.length := by rw [ba_size]
theorem seq_self (x : ByteArray) : seq x x = true := (seq_iff x x).2 rfl
theorem app_list (x y : ByteArray) : (x ++ y).data.toList = x.data.toList ++ y.data.toList := by simp
theorem str_app (a b : List UInt8) : str a ++ str b = str (a ++ b) := ba_ext (by rw [app_list])
theorem scat_in {a b : ByteArray} (h : a.size + b.size ≤ 9223372036854775807) : scat a b = some (a ++ b) := by unfold scat; rw [if_pos h]
theorem scat_str {a b : List UInt8} (h : a.length + b.length ≤ 9223372036854775807) : scat (str a) (str b) = some (str (a ++ b)) := by rw [scat_in (by rw [str_size, str_size]; exact h), str_app]
theorem str_back (x : ByteArray) : str x.data.toList = x := ba_ext rfl
def wst (S : List (List UInt8) × Bool) (c : UInt8) : List (List UInt8) × Bool :=
 if c = 32 then (S.1, true) else if c = 40 ∨ c = 41 then (S.1 ++ [[c]], true) else if S.2 then (S.1 ++ [[c]], false) else (S.1.dropLast ++ [(S.1.getLast?.getD []) ++ [c]], false)
theorem get_byte {s : ByteArray} {p : Nat} (h : p < s.size) : s.data.toList[p]? = some (s.get! p) := by
 have : s.get! p = s.data[p]! := rfl
 rw [this, Array.getElem?_toList]
 have h' : p < s.data.size := h
 rw [Array.getElem?_eq_getElem h', getElem!_pos s.data p h']
theorem dec_asc {s : ByteArray} {p : Nat} {b : UInt8} (h : s.data.toList[p]? = some b) (ha : b.toNat < 128) : Utf8.decode s p = (b.toNat, 1) := by
 have hp : p < s.size := by rw [ba_size]; exact (List.getElem?_eq_some_iff.1 h).1
 rw [get_byte hp] at h
 injection h with h
 subst h
 unfold Utf8.decode
 simp only [Nat.add_zero]
 rw [if_pos ha]
theorem enc_asc {b : UInt8} (ha : b.toNat < 128) : Utf8.encode ((b.toNat : Nat) : Int) = str [b] := by
 refine ba_ext ?_
 have hv : Utf8.valid ((b.toNat : Nat) : Int) = true := by unfold Utf8.valid; simp; omega
 unfold Utf8.encode
 simp only [hv, if_true, Int.toNat_natCast]
 rw [if_pos ha]
 simp
theorem w64_pred {n : Nat} (h : 0 < n) (h2 : n ≤ 9223372036854775807) : w64 (((n : Nat) : Int) - 1) = ((n - 1 : Nat) : Int) := by rw [w64_id (by omega)]; omega
theorem words_loop {s : ByteArray} (ha : ∀ x ∈ s.data.toList, x.toNat < 128) (hz : s.size ≤ 100000) : ∀ (n p : Nat) (L : List (List UInt8)) (b : Bool), L.length ≤ p → (∀ w ∈ L, w.length ≤ p) → (b = false → L ≠ []) → p ≤ s.size → s.size < p + n →
  Farewords.loop1 s n (L.map str) b p = some ((((s.data.toList.drop p).foldl wst (L, b)).1.map str), ((s.data.toList.drop p).foldl wst (L, b)).2, s.size)
 | 0, p, _, _, _, _, _, h1, h2 => absurd h2 (by omega)
 | n + 1, p, L, b, hl, hw, hb, h1, h2 => by
  rw [Farewords.loop1]
  rcases Nat.lt_or_ge p s.size with hp | hp
  ·rw [if_pos (decide_eq_true hp)]
   have hp' : p < s.data.toList.length := by rw [← ba_size]; exact hp
   obtain ⟨c, hc⟩ : ∃ c, s.data.toList[p]? = some c := ⟨_, List.getElem?_eq_getElem hp'⟩
   have hd : s.data.toList.drop p = c :: s.data.toList.drop (p + 1) := by
    have := List.drop_eq_getElem_cons hp'
    rw [List.getElem?_eq_getElem hp'] at hc
    injection hc with hc
    rw [← hc]; exact this
   have hca : c.toNat < 128 := ha c (List.mem_of_getElem? hc)
   have e1 := dec_asc hc hca
   have e2 := enc_asc hca
   rw [hd, List.foldl_cons]
   have k32 : ((((c.toNat : Nat) : Int) == 32) = true) ↔ c = 32 := by
    rw [beq_iff_eq]
    constructor
    ·intro h; exact UInt8.toNat_inj.1 (show c.toNat = 32 by omega)
    ·rintro rfl; rfl
   have k40 : ((((c.toNat : Nat) : Int) == 40) = true) ↔ c = 40 := by
    rw [beq_iff_eq]
    constructor
    ·intro h; exact UInt8.toNat_inj.1 (show c.toNat = 40 by omega)
    ·rintro rfl; rfl
   have k41 : ((((c.toNat : Nat) : Int) == 41) = true) ↔ c = 41 := by
    rw [beq_iff_eq]
    constructor
    ·intro h; exact UInt8.toNat_inj.1 (show c.toNat = 41 by omega)
    ·rintro rfl; rfl
   have happ : apd (L.map str) [str [c]] = some ((L ++ [[c]]).map str) := by rw [apd_lt (by rw [List.length_map]; simp; omega)]; simp
   rw [e1]
   simp only [bnd_eq]
   by_cases c1 : c = 32
   ·rw [if_pos (k32.2 c1), Option.bind_some]
    have hst : wst (L, b) c = (L, true) := by unfold wst; rw [if_pos c1]
    rw [hst]
    exact words_loop ha hz n (p + 1) L true (by omega) (fun w m => by have := hw w m; omega) (by simp) (by omega) (by omega)
   ·rw [if_neg (fun h => c1 (k32.1 h))]
    by_cases c2 : c = 40 ∨ c = 41
    ·have hq : (if (((c.toNat : Nat) : Int) == 40) = true then true else (((c.toNat : Nat) : Int) == 41)) = true := by
      rcases c2 with rfl | rfl <;> rfl
     have hst : wst (L, b) c = (L ++ [[c]], true) := by unfold wst; rw [if_neg c1, if_pos c2]
     rw [hq, if_pos rfl, e2, happ, hst]
     simp only [Option.bind_some]
     exact words_loop ha hz n (p + 1) (L ++ [[c]]) true (by simp; omega) (fun w m => by
      rcases List.mem_append.1 m with m | m
      ·have := hw w m; omega
      ·rw [List.mem_singleton.1 m]; simp) (by simp) (by omega) (by omega)
    ·have hq : (if (((c.toNat : Nat) : Int) == 40) = true then true else (((c.toNat : Nat) : Int) == 41)) = false := by
      have n40 : (((c.toNat : Nat) : Int) == 40) = false := by rw [Bool.eq_false_iff]; exact fun h => c2 (.inl (k40.1 h))
      have n41 : (((c.toNat : Nat) : Int) == 41) = false := by rw [Bool.eq_false_iff]; exact fun h => c2 (.inr (k41.1 h))
      rw [n40, n41]; rfl
     rw [hq, if_neg (by decide)]
     cases b with
     | true =>
      have hst : wst (L, true) c = (L ++ [[c]], false) := by unfold wst; rw [if_neg c1, if_neg c2, if_pos rfl]
      rw [if_pos rfl, e2, happ, hst]
      simp only [Option.bind_some]
      exact words_loop ha hz n (p + 1) (L ++ [[c]]) false (by simp; omega) (fun w m => by
       rcases List.mem_append.1 m with m | m
       ·have := hw w m; omega
       ·rw [List.mem_singleton.1 m]; simp) (by simp) (by omega) (by omega)
     | false =>
      have hne := hb rfl
      obtain ⟨M, u, rfl⟩ : ∃ M u, L = M ++ [u] := ⟨L.dropLast, L.getLast hne, (List.dropLast_concat_getLast hne).symm⟩
      have hlen : ((M ++ [u]).map str).length = M.length + 1 := by simp
      have hst : wst (M ++ [u], false) c = (M ++ [u ++ [c]], false) := by unfold wst; rw [if_neg c1, if_neg c2, if_neg (by simp)]; simp
      have hu : u.length ≤ p := hw u (by simp)
      have hM : M.length + 1 ≤ p := by simpa using hl
      rw [if_neg (by decide), hlen, w64_pred (by omega) (by omega), Nat.add_sub_cancel]
      have g1 : gx ((M ++ [u]).map str) ((M.length : Nat) : Int) = some (str u) := by rw [gx_nat]; simp
      have g2 : ix ((M ++ [u]).map str) ((M.length : Nat) : Int) = some () := ix_in (by omega) (by rw [hlen]; omega)
      have g3 : sx ((M ++ [u]).map str) ((M.length : Nat) : Int) (str (u ++ [c])) = some ((M ++ [u ++ [c]]).map str) := by
       rw [sx_in (by omega) (by rw [hlen]; omega)]
       simp
      rw [g1, Option.bind_some, e2, scat_str (by simp; omega), Option.bind_some, g2, Option.bind_some, g3, hst]
      simp only [Option.bind_some]
      exact words_loop ha hz n (p + 1) (M ++ [u ++ [c]]) false (by simp; omega) (fun w m => by
       rcases List.mem_append.1 m with m | m
       ·have := hw w (by simp [m]); omega
       ·rw [List.mem_singleton.1 m]; simp; omega) (by simp) (by omega) (by omega)
  ·rw [if_neg (by simp; omega)]
   have hpe : p = s.size := by omega
   rw [List.drop_of_length_le (by rw [← ba_size]; omega), hpe]
   rfl
theorem words_ok {l : List UInt8} (ha : ∀ x ∈ l, x.toNat < 128) (hz : l.length ≤ 100000) {fu : Nat} (hf : 100001 ≤ fu) : Farewords fu (str l) = some ((l.foldl wst ([], true)).1.map str) := by
 unfold Farewords
 have := words_loop (s := str l) ha (by rw [str_size]; exact hz) fu 0 [] true (by simp) (by simp) (by simp) (by omega) (by rw [str_size]; omega)
 rw [List.map_nil] at this
 rw [this]
 rfl
theorem ofNat_dig {u : Nat} (h : u < 10) : (UInt8.ofNat (48 + u)).toNat = 48 + u := by
 rw [UInt8.toNat_ofNat']; omega
theorem dig_ne (u : Nat) : Lib.decDigits u ≠ [] := by
 intro h
 have h1 := Lib.decDigits_length u
 rw [h, List.length_nil] at h1
 have h2 := Lib.nDigits_pos u
 omega
theorem itoa_head (n : Int) : (n < 0 ∧ Lib.itoa n = 45 :: Lib.decDigits n.natAbs) ∨ (0 ≤ n ∧ Lib.itoa n = Lib.decDigits n.natAbs) := by
 unfold Lib.itoa
 by_cases h : n < 0
 ·rw [if_pos h]; exact .inl ⟨h, rfl⟩
 ·rw [if_neg h, show n.toNat = n.natAbs by omega]; exact .inr ⟨by omega, rfl⟩
theorem dec_dig (u : Nat) : ∀ x ∈ Lib.decDigits u, 48 ≤ x.toNat ∧ x.toNat ≤ 57 := by
 induction u using Nat.strongRecOn with
 | ind u ih =>
  rw [Lib.decDigits]
  split
  ·intro x hx
   rw [List.mem_singleton.1 hx, ofNat_dig (by assumption)]
   omega
  ·intro x hx
   rcases List.mem_append.1 hx with h | h
   ·exact ih (u / 10) (by omega) x h
   ·rw [List.mem_singleton.1 h, ofNat_dig (by omega)]
    omega
theorem itoa_dig {n : Int} (h : 0 ≤ n) : ∀ x ∈ Lib.itoa n, 48 ≤ x.toNat ∧ x.toNat ≤ 57 := by
 rcases itoa_head n with ⟨h1, _⟩ | ⟨_, h2⟩
 ·omega
 ·rw [h2]; exact dec_dig _
theorem itoa_ne {n : Int} (h : 0 ≤ n) : Lib.itoa n ≠ [] := by
 rcases itoa_head n with ⟨h1, _⟩ | ⟨_, h2⟩
 ·omega
 ·rw [h2]; exact dig_ne _
theorem itoa_str {n : Int} (h : 0 ≤ n ∧ n ≤ 9223372036854775807) : itoa n = some (str (Lib.itoa n)) := by unfold itoa; rw [if_pos (by omega)]
def Nu (n : Int) : Prop := (0 ≤ n ∧ n ≤ 9223372036854775807) ∧ Farenumber (str (Lib.itoa n)) = some (some n)
def nmL : List (List UInt8) := [[97, 108, 119, 97, 121, 115], [99, 97, 114, 100], [97, 103, 101], [116, 105, 109, 101], [107, 109], [99, 111, 117, 110, 116], [116, 111, 117, 99, 104], [98, 101, 103, 105, 110], [102, 105, 110, 105, 115, 104], [110, 111, 116]]
abbrev wNot : List UInt8 := [110, 111, 116]
abbrev wAnd : List UInt8 := [97, 110, 100]
abbrev wOr : List UInt8 := [111, 114]
def nm (k : Int) : List UInt8 := nmL[k.toNat]?.getD []
def nums (kd a b : Int) : List Int := (if decide (1 ≤ Farenumbers kd) then [a] else []) ++ (if decide (2 ≤ Farenumbers kd) then [b] else [])
def par (pk kd : Int) (t : List UInt8) : List UInt8 := if kd = 11 ∨ kd = 10 ∧ pk ≠ 11 then 40 :: t ++ [41] else t
def parW (pk kd : Int) (W : List (List UInt8)) : List (List UInt8) := if kd = 11 ∨ kd = 10 ∧ pk ≠ 11 then [40] :: W ++ [[41]] else W
def jT (w : List UInt8) : List (List UInt8) → List UInt8
 | [] => []
 | x :: r => x ++ r.flatMap fun y => 32 :: w ++ 32 :: y
def jW (w : List UInt8) : List (List (List UInt8)) → List (List UInt8)
 | [] => []
 | x :: r => x ++ r.flatMap fun y => w :: y
mutual
def cT : FareCond → List UInt8
 | ⟨kd, a, b, ks⟩ => if kd = 9 then wNot ++ 32 :: (ksT 9 ks).headD [] else if kd = 10 then jT wAnd (ksT 10 ks) else if kd = 11 then jT wOr (ksT 11 ks) else nm kd ++ (nums kd a b).flatMap fun n => 32 :: Lib.itoa n
def ksT (pk : Int) : List FareCond → List (List UInt8)
 | [] => []
 | k :: r => par pk k.Kind (cT k) :: ksT pk r
end
mutual
def cW : FareCond → List (List UInt8)
 | ⟨kd, a, b, ks⟩ => if kd = 9 then wNot :: (ksW 9 ks).headD [] else if kd = 10 then jW wAnd (ksW 10 ks) else if kd = 11 then jW wOr (ksW 11 ks) else nm kd :: (nums kd a b).map Lib.itoa
def ksW (pk : Int) : List FareCond → List (List (List UInt8))
 | [] => []
 | k :: r => parW pk k.Kind (cW k) :: ksW pk r
end
theorem ksT_map (pk : Int) : ∀ l, ksT pk l = l.map fun k => par pk k.Kind (cT k)
 | [] => by rw [ksT]; rfl
 | k :: r => by rw [ksT, ksT_map pk r]; rfl
theorem ksW_map (pk : Int) : ∀ l, ksW pk l = l.map fun k => parW pk k.Kind (cW k)
 | [] => by rw [ksW]; rfl
 | k :: r => by rw [ksW, ksW_map pk r]; rfl
inductive Good : FareCond → Prop
 | leaf {kd a b : Int} (h : 0 ≤ kd ∧ kd ≤ 8) (ha : if 1 ≤ Farenumbers kd then Nu a else a = 0) (hb : if 2 ≤ Farenumbers kd then Nu b else b = 0) : Good ⟨kd, a, b, []⟩
 | not {k : FareCond} (h : Good k) : Good ⟨9, 0, 0, [k]⟩
 | grp {kd : Int} {ks : List FareCond} (h : kd = 10 ∨ kd = 11) (hl : 2 ≤ ks.length) (hk : ∀ k ∈ ks, Good k) : Good ⟨kd, 0, 0, ks⟩
def okc (x : UInt8) : Prop := x = 32 ∨ x = 40 ∨ x = 41 ∨ (48 ≤ x.toNat ∧ x.toNat ≤ 57) ∨ (97 ≤ x.toNat ∧ x.toNat ≤ 122)
def okw (x : UInt8) : Prop := (48 ≤ x.toNat ∧ x.toNat ≤ 57) ∨ (97 ≤ x.toNat ∧ x.toNat ≤ 122)
theorem okw.c {x : UInt8} (h : okw x) : okc x := .inr (.inr (.inr h))
theorem okw.ne {x : UInt8} (h : okw x) : x ≠ 32 ∧ ¬ (x = 40 ∨ x = 41) := by
 refine ⟨?_, ?_⟩
 ·rintro rfl; revert h; unfold okw; decide
 ·rintro (rfl | rfl) <;> (revert h; unfold okw; decide)
theorem itoa_okw {n : Int} (h : 0 ≤ n) : ∀ x ∈ Lib.itoa n, okw x := fun x m => .inl (itoa_dig h x m)
theorem nm_cases {k : Int} (h : 0 ≤ k ∧ k ≤ 9) : k = 0 ∨ k = 1 ∨ k = 2 ∨ k = 3 ∨ k = 4 ∨ k = 5 ∨ k = 6 ∨ k = 7 ∨ k = 8 ∨ k = 9 := by omega
theorem nm_okw {k : Int} (h : 0 ≤ k ∧ k ≤ 9) : nm k ≠ [] ∧ ∀ x ∈ nm k, okw x := by
 have : ∀ w ∈ nmL, w ≠ [] ∧ ∀ x ∈ w, okw x := by unfold okw; decide
 refine this _ ?_
 unfold nm
 have hk : k.toNat < nmL.length := by show k.toNat < 10; omega
 rw [List.getElem?_eq_getElem hk]
 exact List.getElem_mem hk
def Tok (t : List UInt8) (W : List (List UInt8)) : Prop := ∀ L, ∃ b, t.foldl wst (L, true) = (L ++ W, b)
theorem tok_run : ∀ (t : List UInt8) (L : List (List UInt8)) (u : List UInt8), (∀ x ∈ t, okw x) → t.foldl wst (L ++ [u], false) = (L ++ [u ++ t], false)
 | [], L, u, _ => by simp
 | x :: t, L, u, h => by
  obtain ⟨h1, h2⟩ := (h x (by simp)).ne
  have e : wst (L ++ [u], false) x = (L ++ [u ++ [x]], false) := by unfold wst; rw [if_neg h1, if_neg h2, if_neg (by simp)]; simp
  rw [List.foldl_cons, e, tok_run t L _ (fun y m => h y (by simp [m]))]
  simp
theorem tok_word {w : List UInt8} (h0 : w ≠ []) (h : ∀ x ∈ w, okw x) : Tok w [w] := by
 intro L
 cases w with
 | nil => exact absurd rfl h0
 | cons x t =>
  obtain ⟨h1, h2⟩ := (h x (by simp)).ne
  have e : wst (L, true) x = (L ++ [[x]], false) := by unfold wst; rw [if_neg h1, if_neg h2, if_pos rfl]
  rw [List.foldl_cons, e, tok_run t L [x] (fun y m => h y (by simp [m]))]
  exact ⟨false, rfl⟩
theorem Tok.sp {t u : List UInt8} {W V : List (List UInt8)} (h : Tok t W) (k : Tok u V) : Tok (t ++ 32 :: u) (W ++ V) := by
 intro L
 obtain ⟨b, e⟩ := h L
 obtain ⟨b2, e2⟩ := k (L ++ W)
 refine ⟨b2, ?_⟩
 have e3 : wst (L ++ W, b) 32 = (L ++ W, true) := by unfold wst; rw [if_pos rfl]
 rw [List.foldl_append, e, List.foldl_cons, e3, e2]
 simp
theorem Tok.paren {t : List UInt8} {W : List (List UInt8)} (h : Tok t W) : Tok (40 :: t ++ [41]) ([40] :: W ++ [[41]]) := by
 intro L
 have e0 : wst (L, true) 40 = (L ++ [[40]], true) := by unfold wst; rw [if_neg (by decide), if_pos (.inl rfl)]
 obtain ⟨b, e⟩ := h (L ++ [[40]])
 have e3 : wst (L ++ [[40]] ++ W, b) 41 = (L ++ [[40]] ++ W ++ [[41]], true) := by unfold wst; rw [if_neg (by decide), if_pos (.inr rfl)]
 refine ⟨true, ?_⟩
 rw [List.cons_append, List.foldl_cons, e0, List.foldl_append, e, List.foldl_cons, e3]
 simp
theorem Tok.par {pk kd : Int} {t : List UInt8} {W : List (List UInt8)} (h : Tok t W) : Tok (Go.Fp.par pk kd t) (parW pk kd W) := by
 unfold Go.Fp.par parW
 split
 ·exact h.paren
 ·exact h
inductive All2 {α β : Type} (P : α → β → Prop) : List α → List β → Prop
 | nil : All2 P [] []
 | cons {a : α} {b : β} {l : List α} {m : List β} (h : P a b) (k : All2 P l m) : All2 P (a :: l) (b :: m)
theorem tok_j {w : List UInt8} (hw0 : w ≠ []) (hw : ∀ x ∈ w, okw x) : ∀ (r : List (List UInt8)) (R : List (List (List UInt8))) {t : List UInt8} {W : List (List UInt8)}, Tok t W → All2 Tok r R → Tok (t ++ r.flatMap fun y => 32 :: w ++ 32 :: y) (W ++ R.flatMap fun y => w :: y)
 | [], _, t, W, h, .nil => by simpa using h
 | y :: r, _, t, W, h, .cons (b := V) h1 h2 => by
  have k := tok_j hw0 hw r _ ((h.sp (tok_word hw0 hw)).sp h1) h2
  simpa [List.flatMap_cons] using k
theorem fa_map {α β γ : Type} {P : β → γ → Prop} {f : α → β} {g : α → γ} : ∀ {l : List α}, (∀ x ∈ l, P (f x) (g x)) → All2 P (l.map f) (l.map g)
 | [], _ => .nil
 | x :: l, h => .cons (h x (by simp)) (fa_map fun y m => h y (by simp [m]))
theorem Tok.j {w : List UInt8} (hw0 : w ≠ []) (hw : ∀ x ∈ w, okw x) {r : List (List UInt8)} {R : List (List (List UInt8))} (h : All2 Tok r R) (hn : r ≠ []) : Tok (jT w r) (jW w R) := by
 cases h with
 | nil => exact absurd rfl hn
 | cons h1 h2 => exact tok_j hw0 hw _ _ h1 h2
theorem nums_nu {kd a b : Int} (ha : if 1 ≤ Farenumbers kd then Nu a else a = 0) (hb : if 2 ≤ Farenumbers kd then Nu b else b = 0) : ∀ n ∈ nums kd a b, Nu n := by
 intro n hn
 unfold nums at hn
 rcases List.mem_append.1 hn with h | h
 ·split at h
  ·rename_i c
   rw [if_pos (of_decide_eq_true c)] at ha
   rw [List.mem_singleton.1 h]; exact ha
  ·cases h
 ·split at h
  ·rename_i c
   rw [if_pos (of_decide_eq_true c)] at hb
   rw [List.mem_singleton.1 h]; exact hb
  ·cases h
theorem tok_nums : ∀ (l : List Int) {t : List UInt8} {W : List (List UInt8)}, (∀ n ∈ l, Nu n) → Tok t W → Tok (t ++ l.flatMap fun n => 32 :: Lib.itoa n) (W ++ l.map Lib.itoa)
 | [], t, W, _, h => by simpa using h
 | n :: l, t, W, hn, h => by
  have h1 := (hn n (by simp)).1
  have k := tok_nums l (fun m hm => hn m (by simp [hm])) (h.sp (tok_word (itoa_ne h1.1) (itoa_okw h1.1)))
  simpa [List.flatMap_cons] using k
theorem tok_c {c : FareCond} (h : Good c) : Tok (cT c) (cW c) := by
 induction h with
 | @leaf kd a b h ha hb =>
  rw [cT, cW, if_neg (by omega), if_neg (by omega), if_neg (by omega), if_neg (by omega), if_neg (by omega), if_neg (by omega)]
  obtain ⟨h1, h2⟩ := nm_okw (k := kd) (by omega)
  exact tok_nums _ (nums_nu ha hb) (tok_word h1 h2)
 | @not k h ih =>
  rw [cT, cW, if_pos rfl, if_pos rfl, ksT, ksW]
  exact (tok_word (w := wNot) (by decide) (by unfold okw; decide)).sp ih.par
 | @grp kd ks h hl hk ih =>
  have hn : ∀ f : FareCond → List UInt8, ks.map f ≠ [] := fun f e => by rw [List.map_eq_nil_iff] at e; subst e; simp at hl
  rcases h with rfl | rfl
  ·rw [cT, cW, if_neg (by decide), if_pos rfl, if_neg (by decide), if_pos rfl, ksT_map, ksW_map]
   exact Tok.j (by decide) (by unfold okw; decide) (fa_map fun x hx => (ih x hx).par) (hn _)
  ·rw [cT, cW, if_neg (by decide), if_neg (by decide), if_pos rfl, if_neg (by decide), if_neg (by decide), if_pos rfl, ksT_map, ksW_map]
   exact Tok.j (by decide) (by unfold okw; decide) (fa_map fun x hx => (ih x hx).par) (hn _)
theorem okc_j {w : List UInt8} (hw : ∀ x ∈ w, okw x) : ∀ l : List (List UInt8), (∀ t ∈ l, ∀ x ∈ t, okc x) → ∀ x ∈ jT w l, okc x
 | [], _, x, h => by cases h
 | t :: r, ht, x, h => by
  rcases List.mem_append.1 h with h | h
  ·exact ht t (by simp) x h
  ·obtain ⟨y, hy, h⟩ := List.mem_flatMap.1 h
   rcases List.mem_append.1 h with h | h
   ·rcases List.mem_cons.1 h with rfl | h
    ·exact .inl rfl
    ·exact (hw x h).c
   ·rcases List.mem_cons.1 h with rfl | h
    ·exact .inl rfl
    ·exact ht y (by simp [hy]) x h
theorem okc_par {pk kd : Int} {t : List UInt8} (h : ∀ x ∈ t, okc x) : ∀ x ∈ par pk kd t, okc x := by
 intro x hx
 unfold par at hx
 split at hx
 ·rcases List.mem_append.1 hx with hx | hx
  ·rcases List.mem_cons.1 hx with rfl | hx
   ·exact .inr (.inl rfl)
   ·exact h x hx
  ·rw [List.mem_singleton.1 hx]; exact .inr (.inr (.inl rfl))
 ·exact h x hx
theorem okc_c {c : FareCond} (h : Good c) : ∀ x ∈ cT c, okc x := by
 induction h with
 | @leaf kd a b h ha hb =>
  intro x hx
  rw [cT, if_neg (by omega), if_neg (by omega), if_neg (by omega)] at hx
  rcases List.mem_append.1 hx with hx | hx
  ·exact ((nm_okw (k := kd) (by omega)).2 x hx).c
  ·obtain ⟨n, hn, hx⟩ := List.mem_flatMap.1 hx
   rcases List.mem_cons.1 hx with rfl | hx
   ·exact .inl rfl
   ·exact (itoa_okw (nums_nu ha hb n hn).1.1 x hx).c
 | @not k h ih =>
  intro x hx
  rw [cT, if_pos rfl, ksT] at hx
  rcases List.mem_append.1 hx with hx | hx
  ·exact okw.c ((by unfold okw; decide : ∀ x ∈ wNot, okw x) x hx)
  ·rcases List.mem_cons.1 hx with rfl | hx
   ·exact .inl rfl
   ·exact okc_par ih x hx
 | @grp kd ks h hl hk ih =>
  rcases h with rfl | rfl
  ·rw [cT, if_neg (by decide), if_pos rfl, ksT_map]
   exact okc_j (by unfold okw; decide) _ (fun t ht => by obtain ⟨k, hk, rfl⟩ := List.mem_map.1 ht; exact okc_par (ih k hk))
  ·rw [cT, if_neg (by decide), if_neg (by decide), if_pos rfl, ksT_map]
   exact okc_j (by unfold okw; decide) _ (fun t ht => by obtain ⟨k, hk, rfl⟩ := List.mem_map.1 ht; exact okc_par (ih k hk))
theorem par_len (pk kd : Int) (t : List UInt8) : t.length ≤ (par pk kd t).length ∧ (par pk kd t).length ≤ t.length + 2 := by
 unfold par
 split <;> simp <;> omega
theorem flat_mem {w : List UInt8} : ∀ {r : List (List UInt8)} {t : List UInt8}, t ∈ r → t.length + w.length + 2 ≤ (r.flatMap fun y => 32 :: w ++ 32 :: y).length
 | [], _, h => by cases h
 | z :: r, t, h => by
  rw [List.flatMap_cons, List.length_append]
  rcases List.mem_cons.1 h with rfl | h
  ·simp; omega
  ·have := flat_mem (w := w) h; omega
theorem jT_mem {w : List UInt8} : ∀ {l : List (List UInt8)} {t : List UInt8}, t ∈ l → 2 ≤ l.length → t.length + 3 + w.length ≤ (jT w l).length + 1
 | [], t, h, _ => by cases h
 | [x], t, h, h2 => absurd h2 (by simp)
 | x :: y :: r, t, h, _ => by
  have e : (jT w (x :: y :: r)).length = x.length + (w.length + 2 + y.length) + (r.flatMap fun y => 32 :: w ++ 32 :: y).length := by
   simp [jT, List.flatMap_cons]; omega
  rcases List.mem_cons.1 h with rfl | h
  ·omega
  ·rcases List.mem_cons.1 h with rfl | h
   ·omega
   ·have := flat_mem (w := w) h
    omega
theorem join_jT (w : List UInt8) : ∀ l : List (List UInt8), Lib.join l (32 :: w ++ [32]) = jT w l
 | [] => rfl
 | x :: r => by
  rw [Lib.join_cons, jT]
  congr 1
  unfold Lib.joinTail
  rw [List.flatMap_def]
  congr 1
  refine List.map_congr_left fun y _ => ?_
  simp
theorem joinq_jT {w : List UInt8} {l : List (List UInt8)} (h : (jT w l).length ≤ 1000000) (hl : l.length ≤ 2000000) : joinq (l.map str) (str (32 :: w ++ [32])) = some (str (jT w l)) := by
 have e : (l.map str).map (fun x : ByteArray => x.data.toList) = l := by rw [List.map_map]; exact (List.map_congr_left fun x _ => rfl).trans (List.map_id _)
 unfold joinq
 rw [e, str_list, join_jT, if_pos ⟨by rw [List.length_map]; omega, by omega⟩]
theorem gx_nm {k : Int} (h : 0 ≤ k ∧ k ≤ 9) : gx (nmL.map str) k = some (str (nm k)) := by
 have hk : k.toNat < nmL.length := by show k.toNat < 10; omega
 unfold gx
 rw [if_pos h.1, List.getElem?_map]
 unfold nm
 rw [List.getElem?_eq_getElem hk]
 rfl
theorem p_kid {self : FareCond → Option ByteArray} {k c : FareCond} (h : self k = some (str (cT k))) (hl : (cT k).length ≤ 1000000) : FareCondtext_1_v3 self k c = some (str (par c.Kind k.Kind (cT k))) := by
 unfold FareCondtext_1_v3
 rw [h, Option.bind_some, bnd_eq]
 have e : (if (k.Kind == 10) = true then (if (c.Kind != 11) = true then true else (k.Kind == 11)) else (k.Kind == 11)) = decide (k.Kind = 11 ∨ k.Kind = 10 ∧ c.Kind ≠ 11) := by
  by_cases a : k.Kind = 10
  ·by_cases b : c.Kind = 11 <;> simp [a, b]
  ·by_cases b : k.Kind = 11 <;> simp [a, b]
 rw [e]
 unfold par
 by_cases hp : k.Kind = 11 ∨ k.Kind = 10 ∧ c.Kind ≠ 11
 ·rw [if_pos (decide_eq_true hp), if_pos hp, scat_str (by simp; omega), Option.bind_some, scat_str (by simp; omega)]
  rfl
 ·rw [if_neg (by simpa using hp), if_neg hp]
theorem r_kid {self : FareCond → Option ByteArray} {k c : FareCond} (h : self k = some (str (cT k))) (hl : (cT k).length ≤ 1000000) : Fishref2kidText self c k = some (str (par c.Kind k.Kind (cT k))) := by
 unfold Fishref2kidText
 rw [h, Option.bind_some, bnd_eq]
 have e : (if (k.Kind == 11) = true then true else (if (k.Kind == 10) = true then (c.Kind != 11) else false)) = decide (k.Kind = 11 ∨ k.Kind = 10 ∧ c.Kind ≠ 11) := by
  by_cases a : k.Kind = 10
  ·by_cases b : c.Kind = 11 <;> simp [a, b]
  ·by_cases b : k.Kind = 11 <;> simp [a, b]
 rw [e]
 unfold par
 by_cases hp : k.Kind = 11 ∨ k.Kind = 10 ∧ c.Kind ≠ 11
 ·rw [if_pos (decide_eq_true hp), if_pos hp, scat_str (by simp; omega), Option.bind_some, scat_str (by simp; omega)]
  rfl
 ·rw [if_neg (by simpa using hp), if_neg hp]
theorem p_kids {self : FareCond → Option ByteArray} {c : FareCond} : ∀ (l : List FareCond) (q : List (List UInt8)), (∀ k ∈ l, self k = some (str (cT k)) ∧ (cT k).length ≤ 1000000) → q.length + l.length ≤ 2000000 →
  FareCondtext.loop1 c self l (q.map str) = some ((q ++ l.map fun k => par c.Kind k.Kind (cT k)).map str)
 | [], q, _, _ => by simp [FareCondtext.loop1]
 | k :: r, q, h, hl => by
  simp only [List.length_cons] at hl
  obtain ⟨h1, h2⟩ := h k (by simp)
  rw [FareCondtext.loop1, p_kid h1 h2, Option.bind_some, apd_lt (by simp; omega), Option.bind_some]
  have := p_kids (c := c) r (q ++ [par c.Kind k.Kind (cT k)]) (fun y m => h y (by simp [m])) (by simp; omega)
  rw [List.map_append] at this
  rw [show q.map str ++ [str (par c.Kind k.Kind (cT k))] = q.map str ++ [par c.Kind k.Kind (cT k)].map str from rfl, this]
  simp
theorem r_kids {self : FareCond → Option ByteArray} {c : FareCond} : ∀ (l : List FareCond) (q : List (List UInt8)), (∀ k ∈ l, self k = some (str (cT k)) ∧ (cT k).length ≤ 1000000) → q.length + l.length ≤ 2000000 →
  Fishref2CondText.loop1 c self l (q.map str) = some ((q ++ l.map fun k => par c.Kind k.Kind (cT k)).map str)
 | [], q, _, _ => by simp [Fishref2CondText.loop1]
 | k :: r, q, h, hl => by
  simp only [List.length_cons] at hl
  obtain ⟨h1, h2⟩ := h k (by simp)
  rw [Fishref2CondText.loop1, r_kid h1 h2, Option.bind_some, apd_lt (by simp; omega), Option.bind_some]
  have := r_kids (c := c) r (q ++ [par c.Kind k.Kind (cT k)]) (fun y m => h y (by simp [m])) (by simp; omega)
  rw [List.map_append] at this
  rw [show q.map str ++ [str (par c.Kind k.Kind (cT k))] = q.map str ++ [par c.Kind k.Kind (cT k)].map str from rfl, this]
  simp
theorem itoa_len {n : Int} (h : Nu n) : (Lib.itoa n).length ≤ 21 := Lib.itoa_length_le n (by have := h.1; omega) h.1.2
theorem num_step {t : List UInt8} {n : Int} (h : Nu n) (ht : t.length ≤ 2000000) : ((itoa n).bind fun q => ((scat (str [32]) q).bind fun x => ((scat (str t) x).bind fun y => some y))) = some (str (t ++ 32 :: Lib.itoa n)) := by
 have := itoa_len h
 rw [itoa_str h.1, Option.bind_some, scat_str (by simp; omega), Option.bind_some, scat_str (by simp; omega)]
 simp
theorem nm_len {k : Int} (h : 0 ≤ k ∧ k ≤ 9) : (nm k).length ≤ 6 := by
 have : ∀ w ∈ nmL, w.length ≤ 6 := by decide
 refine this _ ?_
 unfold nm
 have hk : k.toNat < nmL.length := by show k.toNat < 10; omega
 rw [List.getElem?_eq_getElem hk]
 exact List.getElem_mem hk
theorem nn_cases (k : Int) : Farenumbers k = 0 ∨ Farenumbers k = 1 ∨ Farenumbers k = 2 := by
 unfold Farenumbers
 simp only [bnd_eq]
 repeat' split
 all_goals first | exact .inl rfl | exact .inr (.inl rfl) | exact .inr (.inr rfl)
theorem p_nums {kd a b : Int} {ks : List FareCond} (ha : if 1 ≤ Farenumbers kd then Nu a else a = 0) (hb : if 2 ≤ Farenumbers kd then Nu b else b = 0) {t : List UInt8} (ht : t.length ≤ 1000) :
  FareCondtext.loop2 ⟨kd, a, b, ks⟩ [a, b] 0 (str t) = some (str (t ++ (nums kd a b).flatMap fun n => 32 :: Lib.itoa n)) := by
 simp only [FareCondtext.loop2]
 unfold nums
 rcases nn_cases kd with e | e | e
 ·rw [e]; simp
 ·rw [e] at ha ⊢
  rw [if_pos (by decide)] at ha
  have h1 := num_step (t := t) ha (by omega)
  rw [if_pos (by decide), h1]
  simp
 ·rw [e] at ha hb ⊢
  rw [if_pos (by decide)] at ha hb
  have := itoa_len ha
  have h1 := num_step (t := t) ha (by omega)
  have h2 := num_step (t := t ++ 32 :: Lib.itoa a) hb (by simp; omega)
  rw [if_pos (by decide), h1, Option.bind_some, if_pos (by decide), h2]
  simp
theorem r_nums {kd a b : Int} {ks : List FareCond} (ha : if 1 ≤ Farenumbers kd then Nu a else a = 0) (hb : if 2 ≤ Farenumbers kd then Nu b else b = 0) {t : List UInt8} (ht : t.length ≤ 1000) {fu : Nat} (hf : 3 ≤ fu) :
  ∃ j, Fishref2CondText.loop3 ⟨kd, a, b, ks⟩ fu (str t) 0 = some (str (t ++ (nums kd a b).flatMap fun n => 32 :: Lib.itoa n), j) := by
 obtain ⟨f, rfl⟩ : ∃ f, fu = f + 3 := ⟨fu - 3, by omega⟩
 have hN : Fishref2numbersOf kd = Farenumbers kd := by rw [show Fishref2numbersOf = Farenumbers from rfl]
 unfold nums
 rw [Fishref2CondText.loop3]
 simp only [hN]
 rcases nn_cases kd with e | e | e
 ·rw [e]; exact ⟨0, by simp⟩
 ·rw [e] at ha ⊢
  rw [if_pos (by decide)] at ha
  have l1 := itoa_len ha
  rw [if_pos (by decide), show gx [a, b] 0 = some a from rfl, Option.bind_some, itoa_str ha.1, Option.bind_some, scat_str (by simp; omega), Option.bind_some, scat_str (by simp; omega), Option.bind_some, Fishref2CondText.loop3]
  simp only [hN, e]
  exact ⟨1, by rw [if_neg (by decide)]; simp; rfl⟩
 ·rw [e] at ha hb ⊢
  rw [if_pos (by decide)] at ha hb
  have l1 := itoa_len ha
  have l2 := itoa_len hb
  rw [if_pos (by decide), show gx [a, b] 0 = some a from rfl, Option.bind_some, itoa_str ha.1, Option.bind_some, scat_str (by simp; omega), Option.bind_some, scat_str (by simp; omega), Option.bind_some, Fishref2CondText.loop3]
  simp only [hN, e]
  rw [if_pos (by decide), show gx [a, b] (w64 (0 + 1)) = some b from rfl, Option.bind_some, itoa_str hb.1, Option.bind_some, scat_str (by simp; omega), Option.bind_some, scat_str (by simp; omega), Option.bind_some, Fishref2CondText.loop3]
  simp only [hN, e]
  exact ⟨2, by rw [if_neg (by decide)]; simp; rfl⟩
theorem kids_len {w : List UInt8} {pk : Int} {ks : List FareCond} (hl : 2 ≤ ks.length) : ks.length ≤ (jT w (ks.map fun k => par pk k.Kind (cT k))).length + 1 := by
 match ks, hl with
 | x :: r, _ =>
  simp only [List.map_cons, jT, List.length_append, List.length_cons]
  have : ∀ l : List FareCond, l.length ≤ (List.flatMap (fun y => 32 :: w ++ 32 :: y) (l.map fun k => par pk k.Kind (cT k))).length := by
   intro l
   induction l with
   | nil => simp
   | cons y l ih => simp only [List.map_cons, List.flatMap_cons, List.length_append, List.length_cons]; omega
  have := this r
  omega
theorem c_text {c : FareCond} (h : Good c) : ∀ fu : Nat, (cT c).length + 4 ≤ fu → (cT c).length ≤ 1000000 → FareCondtext fu c = some (str (cT c)) ∧ Fishref2CondText fu c = some (str (cT c)) := by
 induction h with
 | @leaf kd a b h ha hb =>
  intro fu hf hz
  obtain ⟨f, rfl⟩ : ∃ f, fu = f + 1 := ⟨fu - 1, by omega⟩
  have e : cT ⟨kd, a, b, []⟩ = nm kd ++ (nums kd a b).flatMap fun n => 32 :: Lib.itoa n := by rw [cT, if_neg (by omega), if_neg (by omega), if_neg (by omega)]
  have hnl := nm_len (k := kd) (by omega)
  have hn0 : 0 < (nm kd).length := List.length_pos_iff.2 (nm_okw (k := kd) (by omega)).1
  have hel := congrArg List.length e
  rw [List.length_append] at hel
  have n9 : (kd == 9) = false := by rw [Bool.eq_false_iff]; simp; omega
  have n10 : (kd == 10) = false := by rw [Bool.eq_false_iff]; simp; omega
  have n11 : (kd == 11) = false := by rw [Bool.eq_false_iff]; simp; omega
  obtain ⟨j, hj⟩ := r_nums (ks := []) ha hb (t := nm kd) (by omega) (fu := f) (by omega)
  constructor
  ·rw [FareCondtext]
   simp only [n9, n10, n11, bnd_eq, Bool.false_eq_true, if_false, Option.bind_some]
   have hg : gx [Farenames.f0, Farenames.f1, Farenames.f2, Farenames.f3, Farenames.f4, Farenames.f5, Farenames.f6, Farenames.f7, Farenames.f8, Farenames.f9] kd = some (str (nm kd)) := gx_nm (by omega)
   rw [hg, Option.bind_some, p_nums ha hb (by omega), e]
   rfl
  ·rw [Fishref2CondText]
   simp only [n9, n10, n11, bnd_eq, Bool.false_eq_true, if_false, Option.bind_some]
   have hg : gx [(str [97, 108, 119, 97, 121, 115]), (str [99, 97, 114, 100]), (str [97, 103, 101]), (str [116, 105, 109, 101]), (str [107, 109]), (str [99, 111, 117, 110, 116]), (str [116, 111, 117, 99, 104]), (str [98, 101, 103, 105, 110]), (str [102, 105, 110, 105, 115, 104])] kd = some (str (nm kd)) := by
    rcases nm_cases (k := kd) (by omega) with rfl | rfl | rfl | rfl | rfl | rfl | rfl | rfl | rfl | rfl
    all_goals first | rfl | omega
   rw [hg, Option.bind_some, hj, e]
   rfl
 | @not k h ih =>
  intro fu hf hz
  obtain ⟨f, rfl⟩ : ∃ f, fu = f + 1 := ⟨fu - 1, by omega⟩
  have e : cT ⟨9, 0, 0, [k]⟩ = wNot ++ 32 :: par 9 k.Kind (cT k) := by rw [cT, if_pos rfl, ksT]; rfl
  have hp := par_len 9 k.Kind (cT k)
  have el : (cT ⟨9, 0, 0, [k]⟩).length = 4 + (par 9 k.Kind (cT k)).length := by rw [e]; simp; omega
  obtain ⟨k1, k2⟩ := ih f (by omega) (by omega)
  constructor
  ·rw [FareCondtext]; dsimp only; rw [if_pos (show ((9 : Int) == 9) = true from rfl), show gx [k] 0 = some k from rfl, Option.bind_some, p_kid k1 (by omega), Option.bind_some, scat_str (by simp; omega), e]
   rfl
  ·rw [Fishref2CondText]; dsimp only; rw [if_pos (show ((9 : Int) == 9) = true from rfl), show gx [k] 0 = some k from rfl, Option.bind_some, r_kid k2 (by omega), Option.bind_some, scat_str (by simp; omega), e]
   rfl
 | @grp kd ks h hl hk ih =>
  intro fu hf hz
  obtain ⟨f, rfl⟩ : ∃ f, fu = f + 1 := ⟨fu - 1, by omega⟩
  have key : ∀ w : List UInt8, cT ⟨kd, 0, 0, ks⟩ = jT w (ks.map fun k => par kd k.Kind (cT k)) → (∀ k ∈ ks, FareCondtext f k = some (str (cT k)) ∧ Fishref2CondText f k = some (str (cT k)) ∧ (cT k).length ≤ 1000000) ∧ ks.length ≤ 1000001 := by
   intro w hw
   have h0 := kids_len (w := w) (pk := kd) hl
   rw [← hw] at h0
   refine ⟨fun k hm => ?_, by omega⟩
   have h1 := jT_mem (w := w) (List.mem_map_of_mem (f := fun k : FareCond => par kd k.Kind (cT k)) hm) (by simpa using hl)
   rw [← hw] at h1
   have h2 := par_len kd k.Kind (cT k)
   obtain ⟨k1, k2⟩ := ih k hm f (by omega) (by omega)
   exact ⟨k1, k2, by omega⟩
  rcases h with rfl | rfl
  ·have e : cT ⟨10, 0, 0, ks⟩ = jT wAnd (ks.map fun k => par 10 k.Kind (cT k)) := by rw [cT, if_neg (by decide), if_pos rfl, ksT_map]
   obtain ⟨hs, hn⟩ := key wAnd e
   have hj : joinq ((ks.map fun k => par 10 k.Kind (cT k)).map str) (str [32, 97, 110, 100, 32]) = some (str (cT ⟨10, 0, 0, ks⟩)) := by rw [e] at hz ⊢; exact joinq_jT hz (by rw [List.length_map]; omega)
   constructor
   ·have h1 := p_kids (c := ⟨10, 0, 0, ks⟩) ks [] (fun k hm => ⟨(hs k hm).1, (hs k hm).2.2⟩) (by simp; omega)
    rw [List.nil_append, List.map_nil] at h1
    rw [FareCondtext]; dsimp only
    rw [if_neg (show ¬ ((10 : Int) == 9) = true by decide), bnd_eq, if_pos (show ((10 : Int) == 10) = true from rfl), if_pos (show ((10 : Int) == 10) = true from rfl), h1, Option.bind_some]
    rw [show (mget (mput (mput [] (10 : Int) (str [32, 97, 110, 100, 32])) 11 (str [32, 111, 114, 32])) 10).getD ByteArray.empty = str [32, 97, 110, 100, 32] from rfl, hj]
    rfl
   ·have h1 := r_kids (c := ⟨10, 0, 0, ks⟩) ks [] (fun k hm => ⟨(hs k hm).2.1, (hs k hm).2.2⟩) (by simp; omega)
    rw [List.nil_append, List.map_nil] at h1
    rw [Fishref2CondText]; dsimp only
    rw [if_neg (show ¬ ((10 : Int) == 9) = true by decide), bnd_eq, if_pos (show ((10 : Int) == 10) = true from rfl), if_pos (show ((10 : Int) == 10) = true from rfl), bnd_eq, if_neg (show ¬ ((10 : Int) == 11) = true by decide), h1, Option.bind_some, hj]
    rfl
  ·have e : cT ⟨11, 0, 0, ks⟩ = jT wOr (ks.map fun k => par 11 k.Kind (cT k)) := by rw [cT, if_neg (by decide), if_neg (by decide), if_pos rfl, ksT_map]
   obtain ⟨hs, hn⟩ := key wOr e
   have hj : joinq ((ks.map fun k => par 11 k.Kind (cT k)).map str) (str [32, 111, 114, 32]) = some (str (cT ⟨11, 0, 0, ks⟩)) := by rw [e] at hz ⊢; exact joinq_jT hz (by rw [List.length_map]; omega)
   constructor
   ·have h1 := p_kids (c := ⟨11, 0, 0, ks⟩) ks [] (fun k hm => ⟨(hs k hm).1, (hs k hm).2.2⟩) (by simp; omega)
    rw [List.nil_append, List.map_nil] at h1
    rw [FareCondtext]; dsimp only
    rw [if_neg (show ¬ ((11 : Int) == 9) = true by decide), bnd_eq, if_neg (show ¬ ((11 : Int) == 10) = true by decide), if_pos (show ((11 : Int) == 11) = true from rfl), h1, Option.bind_some]
    rw [show (mget (mput (mput [] (10 : Int) (str [32, 97, 110, 100, 32])) 11 (str [32, 111, 114, 32])) 11).getD ByteArray.empty = str [32, 111, 114, 32] from rfl, hj]
    rfl
   ·have h1 := r_kids (c := ⟨11, 0, 0, ks⟩) ks [] (fun k hm => ⟨(hs k hm).2.1, (hs k hm).2.2⟩) (by simp; omega)
    rw [List.nil_append, List.map_nil] at h1
    rw [Fishref2CondText]; dsimp only
    rw [if_neg (show ¬ ((11 : Int) == 9) = true by decide), bnd_eq, if_neg (show ¬ ((11 : Int) == 10) = true by decide), if_pos (show ((11 : Int) == 11) = true from rfl), bnd_eq, if_pos (show ((11 : Int) == 11) = true from rfl), h1, Option.bind_some, hj]
    rfl
abbrev rdr (W : List (List UInt8)) (p : Nat) : FareReader := ⟨W.map str, ((p : Nat) : Int)⟩
theorem drop_get {α : Type} {l : List α} {p : Nat} {x : α} {r : List α} (h : l.drop p = x :: r) : l[p]? = some x ∧ p < l.length ∧ l.drop (p + 1) = r := by
 have h1 : l[p]? = some x := by
  have := List.getElem?_drop (xs := l) (i := p) (j := 0)
  rw [h] at this
  simpa using this.symm
 refine ⟨h1, (List.getElem?_eq_some_iff.1 h1).1, ?_⟩
 have := List.drop_drop (i := 1) (j := p) (l := l)
 rw [h] at this
 simpa using this.symm
theorem seq_ne {a b : List UInt8} (h : a ≠ b) : seq (str a) (str b) = false := by
 rw [Bool.eq_false_iff]
 exact fun k => h ((seq_iff _ _).1 k)
theorem w64_succ {p : Nat} (h : p < 4000000) : w64 (((p : Nat) : Int) + 1) = ((p + 1 : Nat) : Int) := by rw [w64_id (by omega)]; omega
section
variable {W : List (List UInt8)} (hW : W.length ≤ 200000)
theorem gx_word {p : Nat} {w r} (h : W.drop p = w :: r) : gx (W.map str) ((p : Nat) : Int) = some (str w) := by
 rw [gx_nat, List.getElem?_map, (drop_get h).1]; rfl
include hW in
theorem take_hit {p : Nat} {w r} (h : W.drop p = w :: r) : FareReadertake_v1 (str w) (rdr W p) = some (true, ((p + 1 : Nat) : Int)) := by
 obtain ⟨_, h1, _⟩ := drop_get h
 unfold FareReadertake_v1
 rw [if_pos (decide_eq_true (by simp; omega)), gx_word h, Option.bind_some, Option.bind_some, if_pos (seq_self _), w64_succ (by omega)]
theorem take_miss {p : Nat} {w} (_ : p ≤ W.length) (h : ∀ r, W.drop p ≠ w :: r) : FareReadertake_v1 (str w) (rdr W p) = some (false, ((p : Nat) : Int)) := by
 unfold FareReadertake_v1
 rcases Nat.lt_or_ge p W.length with h1 | h1
 ·have hd := List.drop_eq_getElem_cons h1
  rw [if_pos (decide_eq_true (by simp; omega)), gx_word hd, Option.bind_some, Option.bind_some, if_neg]
  rw [seq_ne (fun e => h _ (e ▸ hd))]
  decide
 ·rw [if_neg (by simp; omega), Option.bind_some, if_neg (by decide)]
include hW in
theorem must_hit {p : Nat} {w r} (h : W.drop p = w :: r) : FareReadermust_v1 (str w) (rdr W p) = some (some ((p + 1 : Nat) : Int)) := by
 unfold FareReadermust_v1
 rw [take_hit hW h, Option.bind_some]
 rfl
theorem must_miss {p : Nat} {w} (hp : p ≤ W.length) (h : ∀ r, W.drop p ≠ w :: r) : FareReadermust_v1 (str w) (rdr W p) = some none := by
 unfold FareReadermust_v1
 rw [take_miss hp h, Option.bind_some]
 rfl
include hW in
theorem word_hit {p : Nat} {w r} (h : W.drop p = w :: r) : FareReaderword_v1 (rdr W p) = some (some (str w, ((p + 1 : Nat) : Int))) := by
 obtain ⟨_, h1, _⟩ := drop_get h
 unfold FareReaderword_v1
 have e : w64 (((p + 1 : Nat) : Int) - 1) = ((p : Nat) : Int) := by rw [w64_id (by omega)]; omega
 rw [if_neg (by simp; omega), w64_succ (by omega), e, gx_word h]
 rfl
theorem word_end {p : Nat} (h : p = W.length) : FareReaderword_v1 (rdr W p) = some none := by
 unfold FareReaderword_v1
 rw [if_pos (by simp [h])]
include hW in
theorem number_hit {p : Nat} {n : Int} {r} (hn : Nu n) (h : W.drop p = Lib.itoa n :: r) : FareReadernumber_v1 (rdr W p) = some (some (n, ((p + 1 : Nat) : Int))) := by
 unfold FareReadernumber_v1
 rw [word_hit hW h, Option.bind_some]
 dsimp only
 rw [hn.2, Option.bind_some]
def uW (c : FareCond) : List (List UInt8) := parW 10 c.Kind (cW c)
def aW (c : FareCond) : List (List UInt8) := parW 11 c.Kind (cW c)
def Reads (W : List (List UInt8)) (X : FareCond → List (List UInt8)) (Z : List UInt8 → Prop) (fu : Nat) (E : FareReader → Option (Option (FareCond × Int))) : Prop :=
 ∀ (c : FareCond) (p : Nat) (rest : List (List UInt8)), Good c → p ≤ W.length → W.drop p = X c ++ rest → (∀ w r, rest = w :: r → Z w) → W.length + 5 ≤ fu + p → E (rdr W p) = some (some (c, ((p + (X c).length : Nat) : Int)))
theorem drop_app {α : Type} {l a b : List α} {p : Nat} (h : l.drop p = a ++ b) : l.drop (p + a.length) = b := by
 rw [← List.drop_drop, h, List.drop_left]
theorem drop_le {α : Type} {l a b : List α} {p : Nat} (h : l.drop p = a ++ b) (hp : p ≤ l.length) : p + a.length ≤ l.length := by
 have := congrArg List.length h
 rw [List.length_drop, List.length_append] at this
 omega
theorem fr_flat_len {w : List UInt8} {X : FareCond → List (List UInt8)} : ∀ r : List FareCond, r.length ≤ (r.flatMap fun k => w :: X k).length
 | [] => by simp
 | y :: r => by have := fr_flat_len (w := w) (X := X) r; simp only [List.flatMap_cons, List.length_append, List.length_cons]; omega
include hW in
theorem loop_reads {w : List UInt8} {X : FareCond → List (List UInt8)} {Z Z' : List UInt8 → Prop} {fu : Nat} {E : FareReader → Option (Option (FareCond × Int))} (hE : Reads W X Z fu E) (hZw : Z w) (hZ : ∀ v, Z' v → Z v ∧ v ≠ w)
  {F : Nat → List FareCond → Int → Option (Out (Option (FareCond × Int)) ((List FareCond) × Int))}
  (hF : ∀ n q p, F (n + 1) q p = ((FareReadertake_v1 (str w) (FareReader.mk (W.map str) p)).bind fun q86 => (if q86.1 then ((E (FareReader.mk (W.map str) q86.2)).bind fun q89 => match q89 with | none => some (.ret none) | some rr91 => ((apd q [rr91.1]).bind fun x104 => F n x104 rr91.2)) else some (.next (q, q86.2))))) :
  ∀ (r : List FareCond) (n : Nat) (q : List FareCond) (p : Nat) (rest : List (List UInt8)), (∀ k ∈ r, Good k) → p ≤ W.length → W.drop p = (r.flatMap fun k => w :: X k) ++ rest → (∀ v r, rest = v :: r → Z' v) → W.length + 5 ≤ fu + p → r.length + 1 ≤ n → q.length + r.length ≤ 1000000 →
   F n q ((p : Nat) : Int) = some (.next (q ++ r, ((p + (r.flatMap fun k => w :: X k).length : Nat) : Int)))
 | [], n, q, p, rest, _, hp, hd, hr, _, hn, _ => by
  obtain ⟨m, rfl⟩ : ∃ m, n = m + 1 := ⟨n - 1, by simp at hn; omega⟩
  rw [hF, take_miss hp (fun r e => by
   rw [hd] at e
   exact (hZ _ (hr w r (by simpa using e))).2 rfl), Option.bind_some, if_neg (by simp)]
  simp
 | k :: r, n, q, p, rest, hg, hp, hd, hr, hf, hn, hq => by
  obtain ⟨m, rfl⟩ : ∃ m, n = m + 1 := ⟨n - 1, by simp at hn; omega⟩
  simp only [List.length_cons] at hn hq
  have hd1 : W.drop p = w :: (X k ++ ((r.flatMap fun k => w :: X k) ++ rest)) := by rw [hd]; simp [List.flatMap_cons]
  obtain ⟨_, hlt, hd2⟩ := drop_get hd1
  have hd3 := drop_app hd2
  have hle := drop_le hd2 (by omega)
  rw [hF, take_hit hW hd1, Option.bind_some, if_pos rfl, hE k (p + 1) _ (hg k (by simp)) (by omega) hd2 (fun v s e => by
   cases r with
   | nil => exact (hZ v (hr v s (by simpa using e))).1
   | cons k2 r2 =>
    rw [List.flatMap_cons, List.cons_append, List.cons_append] at e
    injection e with e1 e2
    rw [← e1]; exact hZw) (by omega), Option.bind_some]
  dsimp only
  rw [apd_lt (by simp; omega), Option.bind_some, loop_reads hE hZw hZ hF r m (q ++ [k]) _ rest (fun y hy => hg y (by simp [hy])) hle hd3 hr (by omega) (by omega) (by simp; omega)]
  simp only [List.append_assoc, List.singleton_append, List.flatMap_cons, List.length_append, List.length_cons]
  congr 4
  omega
def hitB (y0 : FareReader) (fu : Nat) (self : FareReader → Option (Option (FareCond × Int))) (k92 : Nat) (q108 : Int) : Option (Out (Option (FareCond × Int)) (Int × Int × Int × (List FareCond) × Int)) :=
 (((if (((k92 : Nat) : Int) == 9) then ((self (FareReader.mk y0.words q108)).bind fun q123 => match q123 with | none => some (.ret none) | some rr125 => some (.next ([rr125.1], rr125.2))) else some (.next ([], q108))) : Option (Out (Option (FareCond × Int)) ((List FareCond) × Int))).bind fun q113 => match q113 with | .ret r => some (.ret r) | .next (q116, q120) => ((FareReaderone_v1.loop3 y0 k92 fu 0 0 0 q120).bind fun q155 => match q155 with | .ret r => some (.ret r) | .next (_, q161, q162, q163) => some (.ret (some ((FareCond.mk ((k92 : Nat) : Int) q161 q162 q116), q163)))))
theorem names_run {y0 : FareReader} {fu : Nat} {self : FareReader → Option (Option (FareCond × Int))} {w : List UInt8} {z : Int} : ∀ (l : List (List UInt8)) (k : Nat) (a b c : Int) (d : List FareCond) (p : Int),
  (∃ j, l[j]? = some w ∧ FareReaderone_v1.loop1 y0 fu self (str w, z) (l.map str) k a b c d p = hitB y0 fu self (k + j) p) ∨ (w ∉ l ∧ FareReaderone_v1.loop1 y0 fu self (str w, z) (l.map str) k a b c d p = some (.next (a, b, c, d, p)))
 | [], k, a, b, c, d, p => .inr ⟨by simp, rfl⟩
 | x :: l, k, a, b, c, d, p => by
  rw [List.map_cons, FareReaderone_v1.loop1]
  by_cases h : w = x
  ·subst h
   refine .inl ⟨0, rfl, ?_⟩
   rw [if_neg (by rw [seq_self]; decide)]
   rfl
  ·rw [if_pos (by rw [seq_ne h]; rfl)]
   rcases names_run l (k + 1) a b c d p with ⟨j, h1, h2⟩ | ⟨h1, h2⟩
   ·refine .inl ⟨j + 1, by simpa using h1, ?_⟩
    rw [h2]
    congr 1
    omega
   ·exact .inr ⟨by simp [h, h1], h2⟩
theorem nm_idx {k : Int} {j : Nat} (h : 0 ≤ k ∧ k ≤ 9) (hj : nmL[j]? = some (nm k)) : ((j : Nat) : Int) = k := by
 have hl : j < 10 := (List.getElem?_eq_some_iff.1 hj).1
 have key : ∀ a b : Fin 10, nmL[a.val]? = some (nm (b.val : Int)) → a = b := by decide
 have := key ⟨j, hl⟩ ⟨k.toNat, by omega⟩ (by show nmL[j]? = some (nm ((k.toNat : Nat) : Int)); rw [hj, show ((k.toNat : Nat) : Int) = k by omega])
 have := congrArg Fin.val this
 simp at this
 omega
include hW in
theorem loop3_ok {kd a b : Int} {k : Nat} (hk : ((k : Nat) : Int) = kd) (ha : if 1 ≤ Farenumbers kd then Nu a else a = 0) (hb : if 2 ≤ Farenumbers kd then Nu b else b = 0) {p0 : Nat} {fu p : Nat} {rest} (hf : 3 ≤ fu) (hd : W.drop p = (nums kd a b).map Lib.itoa ++ rest) :
  ∃ j, FareReaderone_v1.loop3 (rdr W p0) k fu 0 0 0 ((p : Nat) : Int) = some (.next (j, a, b, ((p + (nums kd a b).length : Nat) : Int))) := by
 obtain ⟨f, rfl⟩ : ∃ f, fu = f + 3 := ⟨fu - 3, by omega⟩
 unfold nums at hd ⊢
 rw [FareReaderone_v1.loop3, hk]
 rcases nn_cases kd with e | e | e
 ·rw [e] at ha hb ⊢
  rw [if_neg (by decide)] at ha hb
  subst ha hb
  exact ⟨0, by rw [if_neg (by decide)]; simp⟩
 ·rw [e] at ha hb hd ⊢
  rw [if_pos (by decide)] at ha
  rw [if_neg (by decide)] at hb
  subst hb
  have n1 := number_hit hW (r := rest) ha (by rw [hd]; simp)
  rw [if_pos (by decide), if_pos (show ((0 : Int) == 0) = true from rfl)]
  dsimp only [rdr]
  rw [n1, Option.bind_some]
  dsimp only
  rw [FareReaderone_v1.loop3, hk, e]
  exact ⟨1, by rw [if_neg (by decide)]; simp; rfl⟩
 ·rw [e] at ha hb hd ⊢
  rw [if_pos (by decide)] at ha hb
  have hd1 : W.drop p = Lib.itoa a :: Lib.itoa b :: rest := by rw [hd]; simp
  have n1 := number_hit hW ha hd1
  have n2 := number_hit hW hb (drop_get hd1).2.2
  rw [if_pos (by decide), if_pos (show ((0 : Int) == 0) = true from rfl)]
  dsimp only [rdr]
  rw [n1, Option.bind_some]
  dsimp only
  rw [FareReaderone_v1.loop3, hk, e, if_pos (by decide), if_neg (show ¬ (w64 (0 + 1) == 0) = true by decide), if_pos (show (w64 (0 + 1) == 1) = true by decide), n2, Option.bind_some]
  dsimp only
  rw [FareReaderone_v1.loop3, hk, e]
  exact ⟨2, by rw [if_neg (by decide)]; simp; exact ⟨by decide, by omega⟩⟩
end
section
variable {W : List (List UInt8)} (hW : W.length ≤ 200000)
abbrev zU : List UInt8 → Prop := fun _ => True
abbrev zA : List UInt8 → Prop := fun w => w ≠ wAnd
abbrev zO : List UInt8 → Prop := fun w => w ≠ wAnd ∧ w ≠ wOr
theorem jW_cons (w : List UInt8) (x : List (List UInt8)) (r : List (List (List UInt8))) : jW w (x :: r) = x ++ r.flatMap fun y => w :: y := rfl
theorem flat_map' {w : List UInt8} {f : FareCond → List (List UInt8)} (r : List FareCond) : ((r.map f).flatMap fun y => w :: y) = r.flatMap fun k => w :: f k := by
 induction r with
 | nil => rfl
 | cons k r ih => rw [List.map_cons, List.flatMap_cons, List.flatMap_cons, ih]
include hW in
theorem list_reads {w : List UInt8} {kd : Int} {X Y : FareCond → List (List UInt8)} {Z Z' : List UInt8 → Prop} {fu : Nat} {E E' : FareReader → Option (Option (FareCond × Int))} (hE : Reads W X Z fu E) (hZw : Z w) (hZ : ∀ v, Z' v → Z v ∧ v ≠ w)
  {F : FareReader → Nat → List FareCond → Int → Option (Out (Option (FareCond × Int)) ((List FareCond) × Int))}
  (hF : ∀ y n q p, y.words = W.map str → F y (n + 1) q p = ((FareReadertake_v1 (str w) (FareReader.mk (W.map str) p)).bind fun q86 => (if q86.1 then ((E (FareReader.mk (W.map str) q86.2)).bind fun q89 => match q89 with | none => some (.ret none) | some rr91 => ((apd q [rr91.1]).bind fun x104 => F y n x104 rr91.2)) else some (.next (q, q86.2)))))
  (hE' : ∀ y, E' y = ((E y).bind fun q54 => match q54 with | none => some none | some rr56 => ((F y fu [rr56.1] rr56.2).bind fun q72 => match q72 with | .ret r => some r | .next (q77, q84) => (if (((q77.length : Nat) : Int) == 1) then ((gx q77 0).bind fun x111 => some (some (x111, q84))) else some (some ((FareCond.mk kd 0 0 q77), q84))))))
  (h1 : ∀ c, c.Kind ≠ kd → Y c = X c) (h2 : ∀ ks, 2 ≤ ks.length → Y ⟨kd, 0, 0, ks⟩ = jW w (ks.map X)) (hk : kd = 10 ∨ kd = 11) : Reads W Y Z' fu E' := by
 intro c p rest hg hp hd hr hf
 rw [hE']
 by_cases hc : c.Kind = kd
 ·obtain ⟨ks, rfl, hl, hks⟩ : ∃ ks, c = ⟨kd, 0, 0, ks⟩ ∧ 2 ≤ ks.length ∧ ∀ k ∈ ks, Good k := by
   cases hg with
   | leaf h _ _ => simp only at hc; omega
   | not _ => simp only at hc; omega
   | grp _ hl hks => simp only at hc; subst hc; exact ⟨_, rfl, hl, hks⟩
  match ks, hl, hks with
  | k :: r, hl, hks =>
   rw [h2 _ hl, List.map_cons, jW_cons, flat_map'] at hd ⊢
   rw [List.append_assoc] at hd
   have hd2 := drop_app hd
   have hrl : 1 ≤ r.length := by simpa using hl
   have hlen := congrArg List.length hd
   rw [List.length_drop, List.length_append, List.length_append] at hlen
   have hfl := fr_flat_len (w := w) (X := X) r
   rw [hE k p _ (hks k (by simp)) hp hd (fun v s e => by
    cases r with
    | nil => simp at hrl
    | cons k2 r2 =>
     rw [List.flatMap_cons, List.cons_append, List.cons_append] at e
     injection e with e1 e2
     rw [← e1]; exact hZw) hf, Option.bind_some]
   dsimp only
   rw [loop_reads hW hE hZw hZ (fun n q p' => hF (rdr W p) n q p' rfl) r fu [k] (p + (X k).length) rest (fun y hy => hks y (by simp [hy])) (by omega) hd2 hr (by omega) (by omega) (by simp; omega), Option.bind_some]
   dsimp only
   rw [if_neg (by simp; omega)]
   simp only [List.singleton_append, List.length_append]
   congr 4
   omega
 ·rw [h1 c hc] at hd ⊢
  have hlen := congrArg List.length hd
  rw [List.length_drop, List.length_append] at hlen
  rw [hE c p rest hg hp hd (fun v r e => (hZ v (hr v r e)).1) hf, Option.bind_some]
  dsimp only
  have hd2 := drop_app hd
  rw [loop_reads hW hE hZw hZ (fun n q p' => hF (rdr W p) n q p' rfl) [] fu [c] (p + (X c).length) rest (by simp) (by omega) (by simpa using hd2) hr (by omega) (by simp; omega) (by simp), Option.bind_some]
  simp
  rfl
theorem parW_same {pk pk' kd : Int} (h : kd ≠ 10) : parW pk kd = parW pk' kd := by
 funext Ws
 unfold parW
 simp [h]
theorem aW_eq {c : FareCond} (h : c.Kind ≠ 10) : aW c = uW c := by unfold aW uW; rw [parW_same (pk' := 10) h]
theorem cW_leaf {kd a b : Int} (h : 0 ≤ kd ∧ kd ≤ 8) : cW ⟨kd, a, b, []⟩ = nm kd :: (nums kd a b).map Lib.itoa := by rw [cW, if_neg (by omega), if_neg (by omega), if_neg (by omega)]
theorem cW_not (k : FareCond) : cW ⟨9, 0, 0, [k]⟩ = wNot :: uW k := by
 rw [cW, if_pos rfl, ksW]
 unfold uW parW
 simp
theorem cW_and (ks : List FareCond) : cW ⟨10, 0, 0, ks⟩ = jW wAnd (ks.map uW) := by
 rw [cW, if_neg (by decide), if_pos rfl, ksW_map]
 rfl
theorem cW_or (ks : List FareCond) : cW ⟨11, 0, 0, ks⟩ = jW wOr (ks.map aW) := by
 rw [cW, if_neg (by decide), if_neg (by decide), if_pos rfl, ksW_map]
 rfl
theorem uW_low {c : FareCond} (h : c.Kind ≠ 10 ∧ c.Kind ≠ 11) : uW c = cW c := by unfold uW parW; rw [if_neg (by omega)]
theorem uW_high {c : FareCond} (h : c.Kind = 10 ∨ c.Kind = 11) : uW c = [40] :: cW c ++ [[41]] := by unfold uW parW; rw [if_pos (by omega)]
theorem aW_low {c : FareCond} (h : c.Kind ≠ 11) : aW c = cW c := by unfold aW parW; rw [if_neg (by omega)]
include hW in
theorem and_reads {fu : Nat} {self : FareReader → Option (Option (FareCond × Int))} (hE : Reads W uW zU fu self) : Reads W aW zA fu (FareReaderand_v3 fu self) := by
 have h := list_reads (Z' := zA) hW (kd := 10) (Y := aW) (E' := FareReaderlist_v6 fu self 10 (str wAnd)) (F := fun y => FareReaderlist_v6.loop1 (str wAnd) y self) hE trivial (fun v hv => ⟨trivial, hv⟩)
  (fun y n q p hy => by rw [FareReaderlist_v6.loop1, hy]; rfl) (fun y => rfl) (fun c hc => aW_eq hc) (fun ks _ => by rw [aW_low (by show (10 : Int) ≠ 11; decide), cW_and]) (.inl rfl)
 intro c p rest h1 h2 h3 h4 h5
 unfold FareReaderand_v3
 rw [show (str [97, 110, 100]) = str wAnd from rfl, h c p rest h1 h2 h3 h4 h5, Option.bind_some]
include hW in
theorem or_reads {fu : Nat} {self : FareReader → Option (Option (FareCond × Int))} (hE : Reads W uW zU fu self) : Reads W cW zO fu (FareReaderor_v3 fu self) := by
 have h := list_reads (Z' := zO) hW (kd := 11) (Y := cW) (E' := FareReaderlist_v5 fu self 11 (str wOr)) (F := fun y => FareReaderlist_v5.loop1 (str wOr) y fu self) (and_reads hW hE) (show wOr ≠ wAnd by decide) (fun v hv => hv)
  (fun y n q p hy => by rw [FareReaderlist_v5.loop1, hy]; rfl) (fun y => rfl) (fun c hc => (aW_low hc).symm) (fun ks _ => cW_or ks) (.inr rfl)
 intro c p rest h1 h2 h3 h4 h5
 unfold FareReaderor_v3
 rw [show (str [111, 114]) = str wOr from rfl, h c p rest h1 h2 h3 h4 h5, Option.bind_some]
theorem names_list : [Farenames.f0, Farenames.f1, Farenames.f2, Farenames.f3, Farenames.f4, Farenames.f5, Farenames.f6, Farenames.f7, Farenames.f8, Farenames.f9] = nmL.map str := rfl
theorem nm_ne {k : Int} (h : 0 ≤ k ∧ k ≤ 9) : nm k ≠ [40] := by
 rcases nm_cases h with rfl | rfl | rfl | rfl | rfl | rfl | rfl | rfl | rfl | rfl <;> decide
theorem nm_in {k : Int} (h : 0 ≤ k ∧ k ≤ 9) : nm k ∈ nmL := by
 have hk : k.toNat < nmL.length := by show k.toNat < 10; omega
 unfold nm
 rw [List.getElem?_eq_getElem hk]
 exact List.getElem_mem hk
include hW in
theorem one_name {fu : Nat} {kd : Int} (h : 0 ≤ kd ∧ kd ≤ 9) {p : Nat} {r : List (List UInt8)} (hd : W.drop p = nm kd :: r) :
  FareReaderone_v1 (fu + 1) (rdr W p) = (hitB (rdr W p) fu (FareReaderone_v1 fu) kd.toNat ((p + 1 : Nat) : Int)).bind fun q91 => match q91 with | .ret r => some r | .next (_, _, _, _, _) => some none := by
 obtain ⟨_, hp, _⟩ := drop_get hd
 rw [FareReaderone_v1, take_miss (by omega) (fun r e => by rw [hd] at e; injection e with e _; exact nm_ne h e), Option.bind_some, if_neg (by simp)]
 dsimp only
 rw [word_hit hW hd, Option.bind_some]
 dsimp only
 rw [bnd_eq, names_list]
 rcases names_run (y0 := rdr W p) (fu := fu) (self := FareReaderone_v1 fu) (w := nm kd) (z := ((p + 1 : Nat) : Int)) nmL 0 0 0 0 [] ((p + 1 : Nat) : Int) with ⟨j, h1, h2⟩ | ⟨h1, _⟩
 ·rw [h2, show 0 + j = kd.toNat by have := nm_idx h h1; omega]
  rfl
 ·exact absurd (nm_in h) h1
include hW in
theorem one_reads : ∀ fu : Nat, Reads W uW zU fu (FareReaderone_v1 fu)
 | 0 => fun c p rest _ hp _ _ hf => absurd hf (by omega)
 | fu + 1 => fun c p rest hg hp hd _ hf => by
  have ih := one_reads fu
  by_cases hk : c.Kind = 10 ∨ c.Kind = 11
  ·rw [uW_high hk] at hd ⊢
   have hd1 : W.drop p = [40] :: (cW c ++ ([41] :: rest)) := by rw [hd]; simp
   obtain ⟨_, hlt, hd2⟩ := drop_get hd1
   have hd3 := drop_app hd2
   rw [FareReaderone_v1, show str [40] = str [40] from rfl, take_hit hW hd1, Option.bind_some, if_pos rfl]
   dsimp only
   rw [or_reads hW ih c (p + 1) _ hg (by omega) hd2 (fun w r e => by injection e with e _; rw [← e]; decide) (by omega), Option.bind_some]
   dsimp only
   rw [must_hit hW hd3, Option.bind_some]
   dsimp only
   simp only [List.cons_append, List.length_cons, List.length_append, List.length_nil]
   congr 4
   omega
  ·rw [uW_low (by omega)] at hd ⊢
   cases hg with
   | @leaf kd a b h ha hb =>
    rw [cW_leaf h] at hd ⊢
    have hd1 : W.drop p = nm kd :: ((nums kd a b).map Lib.itoa ++ rest) := hd
    obtain ⟨_, hlt, hd2⟩ := drop_get hd1
    obtain ⟨j, hj⟩ := loop3_ok hW (k := kd.toNat) (show ((kd.toNat : Nat) : Int) = kd by omega) ha hb (p0 := p) (fu := fu) (by omega) hd2
    rw [one_name hW (by omega) hd1, hitB, if_neg (by simp; omega), Option.bind_some]
    dsimp only
    rw [hj, Option.bind_some]
    dsimp only [Option.bind_some]
    rw [show ((kd.toNat : Nat) : Int) = kd by omega]
    simp only [List.length_cons, List.length_map]
    congr 4
    omega
   | @not k h =>
    rw [cW_not] at hd ⊢
    have hd1 : W.drop p = nm 9 :: (uW k ++ rest) := hd
    obtain ⟨_, hlt, hd2⟩ := drop_get hd1
    rw [one_name hW (by omega) hd1, hitB, if_pos (by decide), ih k (p + 1) _ h (by omega) hd2 (fun _ _ _ => trivial) (by omega), Option.bind_some]
    dsimp only [Option.bind_some]
    obtain ⟨f, rfl⟩ : ∃ f, fu = f + 1 := ⟨fu - 1, by omega⟩
    rw [FareReaderone_v1.loop3, if_neg (by decide), Option.bind_some]
    dsimp only [Option.bind_some]
    simp only [List.length_cons]
    congr 4
    omega
   | @grp kd ks h _ _ => exact absurd h hk
end
abbrev wKm : List UInt8 := [107, 109]
abbrev wZones : List UInt8 := [122, 111, 110, 101, 115]
abbrev wBand : List UInt8 := [98, 97, 110, 100]
abbrev wRound : List UInt8 := [114, 111, 117, 110, 100]
abbrev wStop : List UInt8 := [115, 116, 111, 112]
def ddL : List (List UInt8) := [[], [112, 101, 114, 99, 101, 110, 116], [109, 105, 110, 117, 115], [112, 108, 117, 115], [102, 105, 120], [97, 116, 109, 111, 115, 116], [97, 116, 108, 101, 97, 115, 116]]
def dd (k : Int) : List UInt8 := ddL[k.toNat]?.getD []
theorem dd_cases {k : Int} (h : 1 ≤ k ∧ k ≤ 6) : k = 1 ∨ k = 2 ∨ k = 3 ∨ k = 4 ∨ k = 5 ∨ k = 6 := by omega
theorem dd_okw {k : Int} (h : 1 ≤ k ∧ k ≤ 6) : dd k ≠ [] ∧ ∀ x ∈ dd k, okw x := by
 rcases dd_cases h with rfl | rfl | rfl | rfl | rfl | rfl <;> (unfold okw; decide)
theorem dd_len {k : Int} (h : 1 ≤ k ∧ k ≤ 6) : (dd k).length ≤ 7 := by
 rcases dd_cases h with rfl | rfl | rfl | rfl | rfl | rfl <;> decide
def GoodR (r : FareRule) : Prop := Good r.If ∧ (1 ≤ r.Do ∧ r.Do ≤ 6) ∧ Nu r.N
def stT (b : Bool) : List UInt8 := if b then 32 :: wStop else []
def stW (b : Bool) : List (List UInt8) := if b then [wStop] else []
def rT (r : FareRule) : List UInt8 := cT r.If ++ 32 :: ([58] ++ 32 :: (dd r.Do ++ 32 :: (Lib.itoa r.N ++ stT r.Stop)))
def rW (r : FareRule) : List (List UInt8) := cW r.If ++ ([58] :: dd r.Do :: Lib.itoa r.N :: stW r.Stop)
theorem tok_colon : Tok [58] [[58]] := by
 intro L
 refine ⟨false, ?_⟩
 show wst (L, true) 58 = _
 unfold wst
 rw [if_neg (by decide), if_neg (by decide), if_pos rfl]
theorem tok_r {r : FareRule} (h : GoodR r) : Tok (rT r) (rW r) := by
 obtain ⟨h1, h2, h3⟩ := h
 have k1 := tok_word (itoa_ne h3.1.1) (itoa_okw h3.1.1)
 have k2 : Tok (Lib.itoa r.N ++ stT r.Stop) ([Lib.itoa r.N] ++ stW r.Stop) := by
  unfold stT stW
  cases r.Stop with
  | true => exact k1.sp (tok_word (by decide) (by unfold okw; decide))
  | false => simpa using k1
 have k3 := (tok_c h1).sp (tok_colon.sp ((tok_word (dd_okw h2).1 (dd_okw h2).2).sp k2))
 exact k3
def bT (b : FareBand) : List UInt8 := wBand ++ 32 :: (Lib.itoa b.Upto ++ 32 :: Lib.itoa b.Price)
def bW (b : FareBand) : List (List UInt8) := [wBand, Lib.itoa b.Upto, Lib.itoa b.Price]
def GoodB (b : FareBand) : Prop := Nu b.Upto ∧ Nu b.Price
theorem tok_b {b : FareBand} (h : GoodB b) : Tok (bT b) (bW b) :=
 (tok_word (w := wBand) (by decide) (by unfold okw; decide)).sp ((tok_word (itoa_ne h.1.1.1) (itoa_okw h.1.1.1)).sp (tok_word (itoa_ne h.2.1.1) (itoa_okw h.2.1.1)))
def oT (n : Int) : List UInt8 := wRound ++ 32 :: Lib.itoa n
theorem tok_o {n : Int} (h : Nu n) : Tok (oT n) [wRound, Lib.itoa n] :=
 (tok_word (w := wRound) (by decide) (by unfold okw; decide)).sp (tok_word (itoa_ne h.1.1) (itoa_okw h.1.1))
def hT (b : Bool) : List UInt8 := if b then wKm else wZones
theorem tok_h (b : Bool) : Tok (hT b) [hT b] := by
 cases b
 ·exact tok_word (w := wZones) (by decide) (by unfold okw; decide)
 ·exact tok_word (w := wKm) (by decide) (by unfold okw; decide)
def GoodT (t : FareTariff) : Prop := (∀ b ∈ t.Bands, GoodB b) ∧ Nu t.Round ∧ ∀ r ∈ t.Rules, GoodR r
def tL (t : FareTariff) : List (List UInt8) := hT t.ByKm :: (t.Bands.map bT ++ (oT t.Round :: t.Rules.map rT))
def fl (L : List (List UInt8)) : List UInt8 := L.flatMap (· ++ [10])
def tarT (t : FareTariff) : List UInt8 := fl (tL t)
theorem fl_cons (x : List UInt8) (L : List (List UInt8)) : fl (x :: L) = x ++ 10 :: fl L := by unfold fl; rw [List.flatMap_cons]; simp
theorem fl_app (a b : List (List UInt8)) : fl (a ++ b) = fl a ++ fl b := by unfold fl; rw [List.flatMap_append]
def okl (x : UInt8) : Prop := okc x ∨ x = 58
theorem okl_asc {x : UInt8} (h : okl x) : x.toNat < 128 ∧ x ≠ 10 := by
 rcases h with (rfl | rfl | rfl | h | h) | rfl
 all_goals first | decide | (refine ⟨by omega, ?_⟩; rintro rfl; revert h; decide)
theorem okl_w {w : List UInt8} (h : ∀ x ∈ w, okw x) : ∀ x ∈ w, okl x := fun x m => .inl (h x m).c
theorem okl_sp {a b : List UInt8} (h : ∀ x ∈ a, okl x) (k : ∀ x ∈ b, okl x) : ∀ x ∈ a ++ 32 :: b, okl x := by
 intro x hx
 rcases List.mem_append.1 hx with hx | hx
 ·exact h x hx
 ·rcases List.mem_cons.1 hx with rfl | hx
  ·exact .inl (.inl rfl)
  ·exact k x hx
theorem okl_r {r : FareRule} (h : GoodR r) : ∀ x ∈ rT r, okl x := by
 obtain ⟨h1, h2, h3⟩ := h
 have k0 := okl_w (itoa_okw h3.1.1)
 have k2 : ∀ x ∈ Lib.itoa r.N ++ stT r.Stop, okl x := by
  unfold stT
  cases r.Stop with
  | true => exact okl_sp k0 (okl_w (w := wStop) (by unfold okw; decide))
  | false => simpa using k0
 exact okl_sp (fun x m => .inl (okc_c h1 x m)) (okl_sp (fun x m => .inr (List.mem_singleton.1 m)) (okl_sp (okl_w (dd_okw h2).2) k2))
theorem okl_b {b : FareBand} (h : GoodB b) : ∀ x ∈ bT b, okl x :=
 okl_sp (okl_w (w := wBand) (by unfold okw; decide)) (okl_sp (okl_w (itoa_okw h.1.1.1)) (okl_w (itoa_okw h.2.1.1)))
theorem okl_o {n : Int} (h : Nu n) : ∀ x ∈ oT n, okl x := okl_sp (okl_w (w := wRound) (by unfold okw; decide)) (okl_w (itoa_okw h.1.1))
theorem okl_h (b : Bool) : ∀ x ∈ hT b, okl x := by
 cases b
 ·exact okl_w (w := wZones) (by unfold okw; decide)
 ·exact okl_w (w := wKm) (by unfold okw; decide)
theorem okl_t {t : FareTariff} (h : GoodT t) : ∀ l ∈ tL t, ∀ x ∈ l, okl x := by
 intro l hl
 unfold tL at hl
 rcases List.mem_cons.1 hl with rfl | hl
 ·exact okl_h _
 ·rcases List.mem_append.1 hl with hl | hl
  ·obtain ⟨b, hb, rfl⟩ := List.mem_map.1 hl
   exact okl_b (h.1 b hb)
  ·rcases List.mem_cons.1 hl with rfl | hl
   ·exact okl_o h.2.1
   ·obtain ⟨r, hr, rfl⟩ := List.mem_map.1 hl
    exact okl_r (h.2.2 r hr)
theorem words_line {t : List UInt8} {W : List (List UInt8)} (h : Tok t W) (ha : ∀ x ∈ t, okl x) (hz : t.length ≤ 100000) {fu : Nat} (hf : 100001 ≤ fu) : Farewords fu (str t) = some (W.map str) := by
 rw [words_ok (fun x m => (okl_asc (ha x m)).1) hz hf]
 obtain ⟨b, e⟩ := h []
 rw [e]
 rfl
theorem words_len {t : List UInt8} : ∀ (S : List (List UInt8) × Bool), (t.foldl wst S).1.length ≤ S.1.length + t.length := by
 induction t with
 | nil => intro S; simp
 | cons c t ih =>
  intro S
  rw [List.foldl_cons]
  have h1 := ih (wst S c)
  have h2 : (wst S c).1.length ≤ S.1.length + 1 := by
   obtain ⟨L, b⟩ := S
   unfold wst
   split
   ·simp
   ·split
    ·simp
    ·cases b
     ·simp
     ·simp
  simp only [List.length_cons]
  omega
theorem tok_len {t : List UInt8} {W : List (List UInt8)} (h : Tok t W) : W.length ≤ t.length := by
 obtain ⟨b, e⟩ := h []
 have := words_len (t := t) ([], true)
 rw [e] at this
 simpa using this
theorem deeds_list : [Faredeeds.f0, Faredeeds.f1, Faredeeds.f2, Faredeeds.f3, Faredeeds.f4, Faredeeds.f5, Faredeeds.f6] = ddL.map str := rfl
theorem deeds_hit {k : Int} (h : 1 ≤ k ∧ k ≤ 6) (z : Int) : FareReaderrule_v1.loop1 (str (dd k), z) (ddL.map str) 0 0 = k := by
 rcases dd_cases h with rfl | rfl | rfl | rfl | rfl | rfl <;> rfl
theorem rule_reads {r : FareRule} (h : GoodR r) (hW : (rW r).length ≤ 200000) {fu : Nat} (hf : (rW r).length + 5 ≤ fu) : FareReaderrule_v1 fu (rdr (rW r) 0) = some (some (r, (((rW r).length : Nat) : Int))) := by
 obtain ⟨h1, h2, h3⟩ := h
 have hd : (rW r).drop 0 = cW r.If ++ ([58] :: dd r.Do :: Lib.itoa r.N :: stW r.Stop) := rfl
 have hd1 := drop_app hd
 obtain ⟨_, l1, hd2⟩ := drop_get hd1
 obtain ⟨_, l2, hd3⟩ := drop_get hd2
 obtain ⟨_, l3, hd4⟩ := drop_get hd3
 have e0 := or_reads hW (one_reads hW fu) r.If 0 _ h1 (by omega) hd (fun w s e => by injection e with e _; rw [← e]; decide) (by omega)
 unfold FareReaderrule_v1
 rw [e0, Option.bind_some]
 dsimp only
 rw [show str [58] = str [58] from rfl, must_hit hW hd1, Option.bind_some]
 dsimp only
 rw [word_hit hW hd2, Option.bind_some]
 dsimp only
 rw [bnd_eq, deeds_list, bnd_eq, deeds_hit h2, if_neg (by simp; omega), number_hit hW h3 hd3, Option.bind_some]
 dsimp only
 have hlen : (rW r).length = 0 + (cW r.If).length + 1 + 1 + 1 + (stW r.Stop).length := by
  unfold rW
  simp
  omega
 cases hs : r.Stop with
 | true =>
  have hd5 : (rW r).drop (0 + (cW r.If).length + 1 + 1 + 1) = wStop :: [] := by rw [hd4, hs]; rfl
  rw [take_hit hW hd5, Option.bind_some, hlen, hs]
  obtain ⟨a, b, c, d⟩ := r
  simp only at hs
  subst hs
  rfl
 | false =>
  have hd5 : (rW r).drop (0 + (cW r.If).length + 1 + 1 + 1) = [] := by rw [hd4, hs]; rfl
  rw [take_miss (w := wStop) (by omega) (fun s e => by rw [hd5] at e; cases e), Option.bind_some, hlen, hs]
  obtain ⟨a, b, c, d⟩ := r
  simp only at hs
  subst hs
  rfl
theorem gx_line {Q : List (List UInt8)} {k : Nat} {x : List UInt8} {r} (h : Q.drop k = x :: r) : gx (Q.map str) ((k : Nat) : Int) = some (str x) := by
 rw [gx_nat, List.getElem?_map, (drop_get h).1]; rfl
section
variable {fu : Nat} (hfu : 100010 ≤ fu) {Q : List (List UInt8)}
include hfu
theorem band_step {b : FareBand} (hb : GoodB b) {k n : Nat} {r} (hQ : Q.drop k = bT b :: r) (km : Bool) (q : List FareBand) (hq : q.length ≤ 1000000) (R : Int) (s : List FareRule) (hz : (bT b).length ≤ 100000) :
  Faretariff.loop1 fu (Q.map str) (n + 1) k 1 km q R s = Faretariff.loop1 fu (Q.map str) n (k + 1) 1 km (q ++ [b]) R s := by
 have hW : (bW b).length ≤ 200000 := by simp [bW]
 have d0 : (bW b).drop 0 = wBand :: [Lib.itoa b.Upto, Lib.itoa b.Price] := rfl
 have d1 : (bW b).drop 1 = Lib.itoa b.Upto :: [Lib.itoa b.Price] := rfl
 have d2 : (bW b).drop 2 = Lib.itoa b.Price :: [] := rfl
 rw [Faretariff.loop1, gx_line hQ, Option.bind_some, words_line (tok_b hb) (okl_b hb) hz (by omega), Option.bind_some, if_neg (by decide), if_pos (by decide)]
 rw [show (FareReader.mk ((bW b).map str) 0) = rdr (bW b) 0 from rfl, take_hit hW d0, Option.bind_some, Option.bind_some]
 dsimp only
 rw [if_pos rfl, number_hit hW hb.1 d1, Option.bind_some]
 dsimp only
 rw [number_hit hW hb.2 d2, Option.bind_some]
 dsimp only
 rw [apd_lt (by simp; omega), Option.bind_some, Option.bind_some]
 dsimp only
 rw [Option.bind_some]
 dsimp only
 rw [if_neg (by simp [bW])]
theorem head_step {b : Bool} {n : Nat} {r} (hQ : Q.drop 0 = hT b :: r) : Faretariff.loop1 fu (Q.map str) (n + 1) 0 0 false [] 0 [] = Faretariff.loop1 fu (Q.map str) n 1 1 b [] 0 [] := by
 have d0 : [hT b].drop 0 = hT b :: [] := rfl
 have hW : [hT b].length ≤ 200000 := by simp
 rw [Faretariff.loop1, gx_line hQ, Option.bind_some, words_line (tok_h b) (okl_h b) (by cases b <;> decide) (by omega), Option.bind_some, if_pos (by decide)]
 rw [show (FareReader.mk ([hT b].map str) 0) = rdr [hT b] 0 from rfl]
 cases b with
 | true =>
  rw [show str [107, 109] = str wKm from rfl, take_hit hW (w := wKm) d0, Option.bind_some, if_neg (by decide), Option.bind_some]
  dsimp only
  rw [if_neg (by decide)]
 | false =>
  rw [show str [107, 109] = str wKm from rfl, take_miss (w := wKm) (by decide) (fun s e => by rw [d0] at e; injection e with e _; revert e; decide), Option.bind_some, if_pos (by decide)]
  dsimp only
  rw [show str [122, 111, 110, 101, 115] = str wZones from rfl, must_hit hW (w := wZones) d0, Option.bind_some]
  dsimp only
  rw [Option.bind_some]
  dsimp only
  rw [if_neg (by decide)]
theorem round_step {n : Int} (hn : Nu n) {k m : Nat} {r} (hQ : Q.drop k = oT n :: r) (km : Bool) (q : List FareBand) (s : List FareRule) : Faretariff.loop1 fu (Q.map str) (m + 1) k 1 km q 0 s = Faretariff.loop1 fu (Q.map str) m (k + 1) 2 km q n s := by
 have d0 : [wRound, Lib.itoa n].drop 0 = wRound :: [Lib.itoa n] := rfl
 have d1 : [wRound, Lib.itoa n].drop 1 = Lib.itoa n :: [] := rfl
 have hW : [wRound, Lib.itoa n].length ≤ 200000 := by simp
 have hl := itoa_len hn
 rw [Faretariff.loop1, gx_line hQ, Option.bind_some, words_line (tok_o hn) (okl_o hn) (by simp [oT]; omega) (by omega), Option.bind_some, if_neg (by decide), if_pos (by decide)]
 rw [show (FareReader.mk ([wRound, Lib.itoa n].map str) 0) = rdr [wRound, Lib.itoa n] 0 from rfl, show str [98, 97, 110, 100] = str wBand from rfl, take_miss (w := wBand) (by simp) (fun s e => by rw [d0] at e; injection e with e _; revert e; decide), Option.bind_some, Option.bind_some]
 dsimp only
 rw [if_neg (by decide), if_pos (by decide), show str [114, 111, 117, 110, 100] = str wRound from rfl, must_hit hW (w := wRound) d0, Option.bind_some]
 dsimp only
 rw [number_hit hW hn d1, Option.bind_some]
 dsimp only
 rw [Option.bind_some]
 dsimp only
 rw [Option.bind_some]
 dsimp only
 rw [Option.bind_some]
 dsimp only
 rw [if_neg (by simp)]
theorem rule_step {u : FareRule} (hu : GoodR u) {k m : Nat} {r} (hQ : Q.drop k = rT u :: r) (km : Bool) (q : List FareBand) (R : Int) (s : List FareRule) (hs : s.length ≤ 1000000) (hz : (rT u).length ≤ 100000) :
  Faretariff.loop1 fu (Q.map str) (m + 1) k 2 km q R s = Faretariff.loop1 fu (Q.map str) m (k + 1) 2 km q R (s ++ [u]) := by
 have hl := tok_len (tok_r hu)
 rw [Faretariff.loop1, gx_line hQ, Option.bind_some, words_line (tok_r hu) (okl_r hu) hz (by omega), Option.bind_some, if_neg (by decide), if_neg (by decide), Option.bind_some]
 dsimp only
 rw [if_neg (by decide), if_neg (by decide), show (FareReader.mk ((rW u).map str) 0) = rdr (rW u) 0 from rfl, rule_reads hu (by omega) (by omega), Option.bind_some]
 dsimp only
 rw [apd_lt (by simp; omega), Option.bind_some, Option.bind_some]
 dsimp only
 rw [Option.bind_some]
 dsimp only
 rw [Option.bind_some]
 dsimp only
 rw [if_neg (by simp)]
theorem bands_run : ∀ (bs : List FareBand) (k n : Nat) (r : List (List UInt8)) (q : List FareBand) (km : Bool) (R : Int) (s : List FareRule), (∀ b ∈ bs, GoodB b) → Q.drop k = bs.map bT ++ r → q.length + bs.length ≤ 1000000 →
  Faretariff.loop1 fu (Q.map str) (bs.length + n) k 1 km q R s = Faretariff.loop1 fu (Q.map str) n (k + bs.length) 1 km (q ++ bs) R s
 | [], k, n, r, q, km, R, s, _, _, _ => by simp
 | b :: bs, k, n, r, q, km, R, s, hg, hQ, hq => by
  simp only [List.length_cons] at hq
  have hb := hg b (by simp)
  have l1 := itoa_len hb.1
  have l2 := itoa_len hb.2
  obtain ⟨_, _, hd⟩ := drop_get (show Q.drop k = bT b :: (bs.map bT ++ r) from hQ)
  rw [show (b :: bs).length + n = (bs.length + n) + 1 by simp; omega, band_step hfu hb hQ km q (by omega) R s (by simp [bT]; omega), bands_run bs (k + 1) n r (q ++ [b]) km R s (fun y hy => hg y (by simp [hy])) hd (by simp; omega)]
  simp only [List.append_assoc, List.singleton_append, List.length_cons]
  rw [show k + 1 + bs.length = k + (bs.length + 1) by omega]
theorem rules_run : ∀ (us : List FareRule) (k : Nat) (q : List FareBand) (km : Bool) (R : Int) (s : List FareRule), (∀ u ∈ us, GoodR u ∧ (rT u).length ≤ 100000) → Q.drop k = us.map rT → s.length + us.length ≤ 1000000 →
  Faretariff.loop1 fu (Q.map str) us.length k 2 km q R s = some (.next (2, km, q, R, s ++ us))
 | [], k, q, km, R, s, _, _, _ => by simp [Faretariff.loop1]
 | u :: us, k, q, km, R, s, hg, hQ, hq => by
  simp only [List.length_cons] at hq
  obtain ⟨hu, hz⟩ := hg u (by simp)
  obtain ⟨_, _, hd⟩ := drop_get (show Q.drop k = rT u :: us.map rT from hQ)
  rw [List.length_cons, rule_step hfu hu hQ km q R s (by omega) hz, rules_run us (k + 1) q km R (s ++ [u]) (fun y hy => hg y (by simp [hy])) hd (by simp; omega)]
  simp
end
theorem within_ref : Fishref2within = Farewithin := rfl
theorem numbers_ref : Fishref2numbersOf = Farenumbers := rfl
mutual
def cN : FareCond → Nat
 | ⟨_, _, _, k⟩ => cNs k + 1
def cNs : List FareCond → Nat
 | [] => 0
 | x :: r => cN x + cNs r
end
mutual
def cL : FareCond → Nat
 | ⟨_, _, _, k⟩ => cLs k + 1
def cLs : List FareCond → Nat
 | [] => 0
 | x :: r => max (cL x) (cLs r)
end
theorem cL_eq (c : FareCond) : cL c = cLs c.Kids + 1 := by cases c; rw [cL]
theorem cL_pos (c : FareCond) : 1 ≤ cL c := by rw [cL_eq]; omega
mutual
theorem cN_sz : ∀ c : FareCond, cN c + 1 ≤ szFareCond c
 | ⟨_, _, _, k⟩ => by rw [cN, szFareCond]; have := cNs_sz k; omega
theorem cNs_sz : ∀ l : List FareCond, cNs l + 1 ≤ szsFareCond l
 | [] => by simp [cNs, szsFareCond]
 | x :: r => by rw [cNs, szsFareCond]; have := cN_sz x; have := cNs_sz r; omega
end
mutual
theorem cL_le : ∀ c : FareCond, cL c ≤ cN c
 | ⟨_, _, _, k⟩ => by rw [cN, cL]; have := cLs_le k; omega
theorem cLs_le : ∀ l : List FareCond, cLs l ≤ cNs l
 | [] => by simp [cNs, cLs]
 | x :: r => by rw [cNs, cLs]; have := cL_le x; have := cLs_le r; omega
end
theorem mx_nat (a b : Nat) : mx (a : Int) (b : Int) = ((max a b : Nat) : Int) := by unfold mx; omega
mutual
theorem size_ok : ∀ (c : FareCond) (fu : Nat), cL c ≤ fu → cN c ≤ 1048576 → FareCondsize fu c = some ((cN c : Int), (cL c : Int))
 | _, 0, h, _ => absurd h (by have := cL_pos (by assumption); omega)
 | ⟨a, b, d, k⟩, fu + 1, h, hb => by
  rw [cL] at h; rw [cN] at hb
  have h2 := cLs_le k
  have e : FareCondsize.loop1 (FareCondsize fu) k 1 0 = some (((1 + cNs k : Nat) : Int), ((max 0 (cLs k) : Nat) : Int)) := sizes_ok k fu 1 0 (by omega) (by omega)
  rw [FareCondsize, e]
  simp only [Option.bind_some, cN, cL]
  rw [w64_id (by omega)]
  congr 2 <;> omega
theorem sizes_ok : ∀ (l : List FareCond) (fu a b : Nat), cLs l ≤ fu → cNs l + a ≤ 1048576 → FareCondsize.loop1 (FareCondsize fu) l (a : Int) (b : Int) = some (((a + cNs l : Nat) : Int), ((max b (cLs l) : Nat) : Int))
 | [], fu, a, b, _, _ => by simp [FareCondsize.loop1, cNs, cLs]
 | x :: r, fu, a, b, h, hb => by
  rw [cLs] at h; rw [cNs] at hb
  rw [FareCondsize.loop1, size_ok x fu (by omega) (by omega), Option.bind_some]
  rw [w64_id (by simp only; omega)]
  have e : ((a : Int) + (cN x : Int)) = ((a + cN x : Nat) : Int) := by omega
  simp only
  rw [e, mx_nat, sizes_ok r fu _ _ (by omega) (by omega), cNs, cLs]
  congr 3 <;> omega
end
mutual
theorem shape_ok : ∀ (c : FareCond) (fu : Nat) (left : Nat), cL c ≤ fu → left ≤ 40 → cN c ≤ 1048576 → ∃ lv lf : Int, Fishref2shape_v1 fu c (left : Int) = some (lv, lf) ∧ (cN c ≤ left → lv = cL c ∧ lf = ((left - cN c : Nat) : Int)) ∧ (left < cN c → lf < 0)
 | _, 0, _, h, _, _ => absurd h (by have := cL_pos (by assumption); omega)
 | ⟨a, b, d, k⟩, fu + 1, left, h, hl, hb => by
  rw [cL] at h; rw [cN] at hb
  have h2 := cLs_le k
  rw [Fishref2shape_v1, w64_id (by omega)]
  rcases Nat.eq_zero_or_pos left with h0 | h0
  ·subst h0
   refine ⟨1, -1, by simp, by rw [cN]; omega, by omega⟩
  ·obtain ⟨lv, lf, e1, e2, e3, e4⟩ := shapes_ok k fu 0 (left - 1) (by omega) (by omega) (by omega)
   have e : ((left : Int) - 1) = ((left - 1 : Nat) : Int) := by omega
   have hn : ¬ (((left - 1 : Nat) : Int) < 0) := by omega
   have e1' : Fishref2shape_v1.loop1 (Fishref2shape_v1 fu) k 0 (((left - 1 : Nat) : Nat) : Int) = some (lv, lf) := e1
   simp only [e, hn, decide_false, Bool.false_eq_true, if_false, e1', Option.bind_some]
   refine ⟨_, _, rfl, ?_, ?_⟩
   ·intro hc
    rw [cN] at hc
    obtain ⟨p1, p2⟩ := e2 (by omega)
    rw [cL, cN, p1, p2, w64_id (by omega)]
    constructor <;> omega
   ·intro hc; rw [cN] at hc; exact e3 (by omega)
theorem shapes_ok : ∀ (l : List FareCond) (fu a left : Nat), cLs l ≤ fu → left ≤ 40 → cNs l ≤ 1048576 → ∃ lv lf : Int, Fishref2shape_v1.loop1 (Fishref2shape_v1 fu) l (a : Int) (left : Int) = some (lv, lf) ∧ (cNs l ≤ left → lv = ((max a (cLs l) : Nat) : Int) ∧ lf = ((left - cNs l : Nat) : Int)) ∧ (left < cNs l → lf < 0) ∧ True
 | [], fu, a, left, _, _, _ => ⟨a, left, rfl, by simp [cNs, cLs], by simp [cNs], trivial⟩
 | x :: r, fu, a, left, h, hl, hb => by
  rw [cLs] at h; rw [cNs] at hb
  obtain ⟨lv, lf, e1, e2, e3⟩ := shape_ok x fu left (by omega) hl (by omega)
  rw [Fishref2shape_v1.loop1, e1, Option.bind_some]
  by_cases hx : cN x ≤ left
  ·obtain ⟨p1, p2⟩ := e2 hx
   subst p1; subst p2
   have hn : ¬ (((left - cN x : Nat) : Int) < 0) := by omega
   simp only [hn, decide_false, Bool.false_eq_true, if_false, mx_nat]
   obtain ⟨lv, lf, q1, q2, q3, _⟩ := shapes_ok r fu (max a (cL x)) (left - cN x) (by omega) (by omega) (by omega)
   refine ⟨lv, lf, q1, ?_, ?_, trivial⟩
   ·intro hc
    rw [cNs] at hc
    obtain ⟨r1, r2⟩ := q2 (by omega)
    rw [r1, r2, cNs, cLs]
    constructor <;> omega
   ·intro hc; rw [cNs] at hc; exact q3 (by omega)
  ·have hn := e3 (by omega)
   simp only [hn, decide_true, if_true]
   refine ⟨_, _, rfl, ?_, ?_, trivial⟩
   ·intro hc; rw [cNs] at hc; omega
   ·intro _; exact hn
end
theorem node_loop1 (s : FareCond → Option Int) : ∀ l, Fishref2nodeFault.loop1 s l = FareCondnode.loop1 s l
 | [] => rfl
 | x :: r => by simp only [Fishref2nodeFault.loop1, FareCondnode.loop1, node_loop1 s r]
theorem node_loop2 (s : FareCond → Option Int) : ∀ l, Fishref2nodeFault.loop2 s l = FareCondnode.loop1 s l
 | [] => rfl
 | x :: r => by simp only [Fishref2nodeFault.loop2, FareCondnode.loop1, node_loop2 s r]
theorem node_loop3 (s : FareCond → Option Int) : ∀ l, Fishref2nodeFault.loop3 s l = FareCondnode.loop1 s l
 | [] => rfl
 | x :: r => by simp only [Fishref2nodeFault.loop3, FareCondnode.loop1, node_loop3 s r]
theorem within_iff (x a b : Int) : Farewithin x a b = decide (a ≤ x ∧ x ≤ b) := by
 unfold Farewithin bnd
 by_cases h1 : a ≤ x <;> by_cases h2 : x ≤ b <;> simp [h1, h2]
theorem node_ref : ∀ (fu : Nat) (c : FareCond), Fishref2nodeFault fu c = FareCondnode fu c
 | 0, _ => rfl
 | fu + 1, c => by
  have ih : Fishref2nodeFault fu = FareCondnode fu := funext (node_ref fu)
  rw [Fishref2nodeFault, FareCondnode, ih]
  simp only [node_loop1, node_loop2, node_loop3, within_ref, numbers_ref, bnd_eq]
  by_cases hk : Farewithin c.Kind 0 11 = true
  ·rw [within_iff, decide_eq_true_eq] at hk
   have hk' : Farewithin c.Kind 0 11 = true := by rw [within_iff]; exact decide_eq_true hk
   simp only [hk', Bool.not_true, Bool.false_eq_true, if_false]
   refine ite_same fun _ => ite_same fun _ => ?_
   ·skip
    ·by_cases h9 : c.Kind = 9
     ·have e9 : (c.Kind == 9) = true := by simpa using h9
      have g9 : ¬ c.Kind > 9 := by omega
      have l9 : ¬ c.Kind < 9 := by omega
      simp only [e9, g9, l9, decide_false, Bool.false_eq_true, if_false, if_true]
      by_cases hl : ((c.Kids.length : Nat) : Int) = 1
      ·have e1 : (((c.Kids.length : Nat) : Int) != 1) = false := by simp [hl]
       simp only [e1, Bool.false_eq_true, if_false] <;> rfl
      ·have e1 : (((c.Kids.length : Nat) : Int) != 1) = true := by simpa using hl
       simp only [e1, if_true]
     ·have e9 : (c.Kind == 9) = false := by simpa using h9
      by_cases hg : c.Kind > 9
      ·have l9 : ¬ c.Kind < 9 := by omega
       have e10 : (if (c.Kind == 10) = true then (c.Kind == 10) else (c.Kind == 11)) = true := by
        have : c.Kind = 10 ∨ c.Kind = 11 := by omega
        rcases this with h | h <;> simp [h]
       simp only [e9, hg, l9, e10, decide_true, decide_false, Bool.false_eq_true, if_false, if_true]
       by_cases hl : ((c.Kids.length : Nat) : Int) < 2
       ·simp only [hl, decide_true, if_true]
       ·simp only [hl, decide_false, Bool.false_eq_true, if_false] <;> rfl
      ·have l9 : c.Kind < 9 := by omega
       have e10 : (if (c.Kind == 10) = true then (c.Kind == 10) else (c.Kind == 11)) = false := by
        have h1 : (c.Kind == 10) = false := by simp; omega
        have h2 : (c.Kind == 11) = false := by simp; omega
        simp [h1, h2]
       simp only [e9, hg, l9, e10, decide_true, decide_false, Bool.false_eq_true, if_false, if_true] <;> rfl
  ·have hk' : Farewithin c.Kind 0 11 = false := by simpa using hk
   simp only [hk', Bool.not_false, if_true]
mutual
theorem node_tot : ∀ (c : FareCond) (fu : Nat), cL c ≤ fu → Tot (FareCondnode fu c)
 | _, 0, h => absurd h (by have := cL_pos (by assumption); omega)
 | ⟨a, b, d, k⟩, fu + 1, h => by
  rw [cL] at h
  rw [FareCondnode]
  refine .ite (fun _ => .some _) fun _ => .bnd (.ite (fun _ => .some _) fun _ => .bnd (.ite (fun _ => .some _) fun _ => .bnd (.ite (fun _ => .some _) fun _ => .bind (nodes_tot k fu (by omega)) fun z _ => ?_)))
  cases z <;> exact .some _
theorem nodes_tot : ∀ (l : List FareCond) (fu : Nat), cLs l ≤ fu → Tot (FareCondnode.loop1 (FareCondnode fu) l)
 | [], _, _ => .some _
 | x :: r, fu, h => by
  rw [cLs] at h
  exact .bind (node_tot x fu (by omega)) fun z _ => .ite (fun _ => .some _) fun _ => nodes_tot r fu (by omega)
end
theorem cond_ref {fu : Nat} {c : FareCond} (hf : 1048576 ≤ fu) (hc : szFareCond c ≤ 1048576) : Fishref2CondFault fu c = FareCondcheck fu c ∧ Tot (FareCondcheck fu c) := by
 have h1 := cN_sz c
 have h2 := cL_le c
 obtain ⟨lv, lf, e1, e2, e3⟩ := shape_ok c fu 40 (by omega) (by omega) (by omega)
 have e1' : Fishref2shape_v1 fu c 40 = some (lv, lf) := e1
 unfold Fishref2CondFault FareCondcheck
 rw [e1', size_ok c fu (by omega) (by omega)]
 simp only [Option.bind_some, node_ref, bnd_eq]
 by_cases hn : cN c ≤ 40
 ·obtain ⟨p1, p2⟩ := e2 hn
  have a1 : ¬ lf < 0 := by omega
  have a2 : ¬ ((cN c : Nat) : Int) > 40 := by omega
  simp only [a1, a2, p1, decide_false, Bool.false_eq_true, if_false]
  refine ⟨trivial, .ite (fun _ => .some _) fun _ => .bind (node_tot c fu (by omega)) fun _ _ => .some _⟩
 ·have a1 := e3 (by omega)
  have a2 : ((cN c : Nat) : Int) > 40 := by omega
  simp only [a1, a2, decide_true, if_true]
  exact ⟨trivial, .some _⟩
theorem tariff_loop1 (t : FareTariff) : ∀ (r : List FareBand) (k : Nat), Fishref2TariffFault.loop1 t r k = FareCheckTariff.loop1 t r k
 | [], _ => rfl
 | x :: r, k => by simp only [Fishref2TariffFault.loop1, FareCheckTariff.loop1, within_ref, tariff_loop1 t r] <;> rfl
theorem bands_tot (t : FareTariff) (hl : t.Bands.length ≤ 9223372036854775807) : ∀ (r : List FareBand) (k : Nat), t.Bands.drop k = r → Tot (FareCheckTariff.loop1 t r k)
 | [], _, _ => .some _
 | x :: r, k, hd => by
  obtain ⟨d1, d2, d3⟩ := drop_cons hd
  rw [FareCheckTariff.loop1]
  refine .bnd (.ite (fun _ => .some _) fun _ => .bind (.ite (fun h => ?_) fun _ => .some _) fun _ _ => .ite (fun _ => .some _) fun _ => bands_tot t hl r (k + 1) d3)
  have hk : 0 < k := by have := of_decide_eq_true h; omega
  have hp := gx_prev (l := t.Bands) hk (by omega) hl
  exact .bind1 hp (.ite (fun _ => .some _) fun _ => .bind1 hp (.some _))
theorem tariff_loop2 {fu : Nat} (hf : 1048576 ≤ fu) : ∀ (r : List FareRule), (∀ x ∈ r, szFareCond x.If ≤ 1048576) → Fishref2TariffFault.loop2 fu r = FareCheckTariff.loop2 fu r ∧ Tot (FareCheckTariff.loop2 fu r)
 | [], _ => ⟨rfl, .some _⟩
 | x :: r, h => by
  obtain ⟨h1, h2⟩ := cond_ref hf (h x (by simp))
  obtain ⟨h3, h4⟩ := tariff_loop2 hf r (fun y hy => h y (by simp [hy]))
  obtain ⟨z, hz⟩ := h2
  simp only [Fishref2TariffFault.loop2, FareCheckTariff.loop2, h1, hz, Option.bind_some, within_ref, h3, bnd_eq]
  exact ⟨trivial, .ite (fun _ => .some _) fun _ => .ite (fun _ => .some _) fun _ => .ite (fun _ => .some _) fun _ => h4⟩
theorem rules_sz {t : FareTariff} (h : szFareTariff t ≤ 1048576) : ∀ x ∈ t.Rules, szFareCond x.If ≤ 1048576 := by
 intro x hx
 unfold szFareTariff at h
 have h1 := szL_mem (f := szFareRule) hx
 unfold szFareRule at h1
 have h2 : szL (fun x : FareRule => szFareCond x.If + 1) t.Rules = szL szFareRule t.Rules := rfl
 omega
theorem tariff_ref {fu : Nat} (hf : 1048576 ≤ fu) (t : FareTariff) (hl : t.Bands.length ≤ 9223372036854775807) (hz : szFareTariff t ≤ 1048576) : Fishref2TariffFault fu t = FareCheckTariff fu t ∧ Tot (FareCheckTariff fu t) := by
 unfold Fishref2TariffFault FareCheckTariff
 obtain ⟨h1, z2, h2⟩ := tariff_loop2 hf t.Rules (rules_sz hz)
 obtain ⟨z1, h3⟩ := bands_tot t hl t.Bands 0 rfl
 simp only [within_ref, tariff_loop1, bnd_eq, h1, h2, h3, Option.bind_some]
 refine ⟨by cases z1 <;> cases z2 <;> rfl, .ite (fun _ => .some _) fun _ => ?_⟩
 cases z1
 ·exact .some _
 ·refine .ite (fun _ => .some _) fun _ => ?_
  cases z2 <;> exact .some _
theorem fr_sum_le {α : Type} {f g : α → Nat} : ∀ {l : List α}, (∀ x ∈ l, f x ≤ g x) → (l.map f).sum ≤ (l.map g).sum
 | [], _ => Nat.le_refl _
 | x :: l, h => by
  have := h x (by simp)
  have := fr_sum_le (l := l) (fun y m => h y (by simp [m]))
  simp only [List.map_cons, List.sum_cons]; omega
def jn (c : UInt8) : List (List UInt8) → List UInt8
 | [] => []
 | [a] => a
 | a :: b :: r => a ++ c :: jn c (b :: r)
theorem index_no (c : UInt8) : ∀ a : List UInt8, c ∉ a → Lib.index a [c] = -1
 | [], _ => rfl
 | b :: a, h => by
  have hb : ¬ c = b := fun e => h (by simp [e])
  have hp : ([c] : List UInt8).isPrefixOf (b :: a) = false := by simp [List.isPrefixOf, hb]
  rw [Lib.index, hp, index_no c a (fun m => h (by simp [m]))]
  rfl
theorem index_at (c : UInt8) (r : List UInt8) : ∀ a : List UInt8, c ∉ a → Lib.index (a ++ c :: r) [c] = (a.length : Int)
 | [], _ => by
  have hp : ([c] : List UInt8).isPrefixOf (c :: r) = true := by simp [List.isPrefixOf]
  rw [List.nil_append, Lib.index, hp]; rfl
 | b :: a, h => by
  have hb : ¬ c = b := fun e => h (by simp [e])
  have hp : ([c] : List UInt8).isPrefixOf (b :: (a ++ c :: r)) = false := by simp [List.isPrefixOf, hb]
  rw [List.cons_append, Lib.index, hp, index_at c r a (fun m => h (by simp [m]))]
  rw [if_neg (by decide), if_neg (by rw [beq_iff_eq]; omega)]
  simp
theorem split_jn (c : UInt8) : ∀ (P : List (List UInt8)) (s : ByteArray), P ≠ [] → (∀ a ∈ P, c ∉ a) → s.data.toList = jn c P → Lib.countB s (str [c]) + 1 = P.length ∧ Lib.splitB (str [c]) 0 (Lib.countB s (str [c])) s = P.map str
 | [], _, h, _, _ => absurd rfl h
 | [a], s, _, hc, hs => by
  have hi : Lib.indexB s (str [c]) = -1 := by
   unfold Lib.indexB
   rw [hs]
   exact index_no c a (hc a (by simp))
  rw [Lib.countB_miss s _ hi]
  refine ⟨rfl, ?_⟩
  rw [Lib.splitB_zero, List.map_cons, List.map_nil]
  congr 1
  exact ba_ext (by rw [hs]; rfl)
 | a :: b :: r, s, _, hc, hs => by
  have hi : Lib.indexB s (str [c]) = ((a.length : Nat) : Int) := by
   unfold Lib.indexB
   rw [hs]
   exact index_at c _ a (hc a (by simp))
  have h1 : (str [c]).size = 1 := rfl
  have hx : (s.extract (a.length + 1) s.size).data.toList = jn c (b :: r) := by
   rw [cut_list, List.take_of_length_le (by rw [← ba_size]; exact Nat.le_refl _), hs]
   show (a ++ c :: jn c (b :: r)).drop (a.length + 1) = _
   rw [← List.drop_drop, List.drop_left]
   rfl
  obtain ⟨k1, k2⟩ := split_jn c (b :: r) (s.extract (a.length + 1) s.size) (by simp) (fun x hx => hc x (by simp [List.mem_cons] at hx ⊢; exact .inr hx)) hx
  have hcnt : Lib.countB s (str [c]) = Lib.countB (s.extract (a.length + 1) s.size) (str [c]) + 1 := by
   rw [Lib.countB_hit s (str [c]) a.length (by rw [h1]; decide) hi, h1]; omega
  refine ⟨by rw [hcnt, k1]; rfl, ?_⟩
  rw [hcnt, Lib.splitB_hit (str [c]) 0 _ s a.length hi, h1, k2, List.map_cons, Nat.add_zero]
  congr 1
  refine ba_ext ?_
  rw [cut_list, hs, List.drop_zero]
  show (a ++ c :: jn c (b :: r)).take a.length = a
  rw [List.take_left]
def Fishref2TariffText.loop1 : (List FareBand) → ByteArray → Option ByteArray
 | [], q70 => some q70
 | x62 :: rest63, q70 => ((itoa x62.Upto).bind fun q77 => ((scat (str [98, 97, 110, 100, 32]) q77).bind fun x79 => ((scat x79 (str [32])).bind fun x81 => ((itoa x62.Price).bind fun q83 => ((scat x81 q83).bind fun x85 => ((scat x85 (str [10])).bind fun x87 => ((scat q70 x87).bind fun x89 => Fishref2TariffText.loop1 rest63 x89)))))))
def Fishref2TariffText.loop2 (fu : Nat) : (List FareRule) → ByteArray → Option ByteArray
 | [], q110 => some q110
 | x102 :: rest103, q110 => ((Fishref2CondText fu x102.If).bind fun q121 => ((scat q121 (str [32, 58, 32])).bind fun x123 => ((gx [(str []), (str [112, 101, 114, 99, 101, 110, 116]), (str [109, 105, 110, 117, 115]), (str [112, 108, 117, 115]), (str [102, 105, 120]), (str [97, 116, 109, 111, 115, 116]), (str [97, 116, 108, 101, 97, 115, 116])] x102.Do).bind fun x131 => ((scat x123 x131).bind fun x140 => ((scat x140 (str [32])).bind fun x142 => ((itoa x102.N).bind fun q144 => ((scat x142 q144).bind fun x146 => ((scat q110 x146).bind fun x148 => (((if x102.Stop then ((scat x148 (str [32, 115, 116, 111, 112])).bind fun x158 => some x158) else some x148) : Option ByteArray).bind fun q155 => ((scat q155 (str [10])).bind fun x160 => Fishref2TariffText.loop2 fu rest103 x160))))))))))
def Fishref2TariffText (fu : Nat) (x0 : FareTariff) : Option ByteArray := (bnd ((if x0.ByKm then (str [107, 109, 10]) else (str [122, 111, 110, 101, 115, 10])) : ByteArray) fun q56 => ((Fishref2TariffText.loop1 x0.Bands q56).bind fun q70 => ((itoa x0.Round).bind fun q91 => ((scat (str [114, 111, 117, 110, 100, 32]) q91).bind fun x93 => ((scat x93 (str [10])).bind fun x95 => ((scat q70 x95).bind fun x97 => ((Fishref2TariffText.loop2 fu x0.Rules x97).bind fun q110 => some q110)))))))
theorem splitq_jn (c : UInt8) (P : List (List UInt8)) (s : ByteArray) (h0 : P ≠ []) (hc : ∀ a ∈ P, c ∉ a) (hs : s.data.toList = jn c P) (hz : s.size ≤ 1000000) : splitq s (str [c]) = some (P.map str) := by
 unfold splitq
 rw [if_pos ⟨by omega, (by decide : 1 ≤ 1)⟩, (split_jn c P s h0 hc hs).2]
theorem fl_jn : ∀ L : List (List UInt8), L ≠ [] → fl L = jn 10 L ++ [10]
 | [], h => absurd rfl h
 | [a], _ => by rw [fl_cons]; simp [fl, jn]
 | a :: b :: r, _ => by rw [fl_cons, fl_jn (b :: r) (by simp), jn]; simp
theorem cutsq_end (b : List UInt8) (hz : b.length ≤ 1000000) : cutsq (str (b ++ [10])) (str [10]) = some (str b, true) := by
 have h : Lib.hasSuffix (b ++ [10]) [10] = true := by unfold Lib.hasSuffix; simp [List.isSuffixOf]
 unfold cutsq
 rw [if_pos (by rw [str_size]; simp; omega)]
 dsimp only
 rw [h]
 unfold Lib.trimSuffix
 rw [if_pos h]
 congr 2
 simp
theorem sbw_str {y x : List UInt8} (h0 : x ≠ []) (h : y.length + x.length ≤ 2000000) : sbw (str y) (str x) = some (str (y ++ x)) := by
 unfold sbw
 rw [if_pos ⟨by rw [str_size]; exact List.length_pos_iff.2 h0, by rw [str_size, str_size]; omega⟩, str_app]
theorem fl_len (x : List UInt8) (L : List (List UInt8)) : (fl (x :: L)).length = x.length + 1 + (fl L).length := by rw [fl_cons]; simp; omega
theorem bands_text : ∀ (bs : List FareBand) (q : List UInt8), (∀ b ∈ bs, GoodB b) → q.length + (fl (bs.map bT)).length ≤ 1000000 →
  FareTarifftext.loop1 bs (str q) = some (str (q ++ fl (bs.map bT))) ∧ Fishref2TariffText.loop1 bs (str q) = some (str (q ++ fl (bs.map bT)))
 | [], q, _, _ => by simp [FareTarifftext.loop1, Fishref2TariffText.loop1, fl]
 | b :: bs, q, hg, hl => by
  obtain ⟨hb1, hb2⟩ := hg b (by simp)
  rw [List.map_cons, fl_len] at hl
  have l1 := itoa_len hb1
  have l2 := itoa_len hb2
  have e : [98, 97, 110, 100, 32] ++ Lib.itoa b.Upto ++ [32] ++ Lib.itoa b.Price ++ [10] = bT b ++ [10] := by simp [bT]
  have ne : bT b ++ [10] ≠ [] := by simp
  obtain ⟨k1, k2⟩ := bands_text bs (q ++ (bT b ++ [10])) (fun y hy => hg y (by simp [hy])) (by simp; omega)
  constructor
  ·rw [FareTarifftext.loop1, itoa_str hb1.1, Option.bind_some, scat_str (by simp; omega), Option.bind_some, scat_str (by simp; omega), Option.bind_some, itoa_str hb2.1, Option.bind_some, scat_str (by simp; omega), Option.bind_some, scat_str (by simp; omega), Option.bind_some, e, sbw_str ne (by simp; omega), Option.bind_some, k1, List.map_cons, fl_cons]
   simp
  ·rw [Fishref2TariffText.loop1, itoa_str hb1.1, Option.bind_some, scat_str (by simp; omega), Option.bind_some, scat_str (by simp; omega), Option.bind_some, itoa_str hb2.1, Option.bind_some, scat_str (by simp; omega), Option.bind_some, scat_str (by simp; omega), Option.bind_some, e, scat_str (by simp; omega), Option.bind_some, k2, List.map_cons, fl_cons]
   simp
theorem gx_dd {k : Int} (h : 1 ≤ k ∧ k ≤ 6) : gx (ddL.map str) k = some (str (dd k)) := by
 rcases dd_cases h with rfl | rfl | rfl | rfl | rfl | rfl <;> rfl
theorem rT_len (r : FareRule) : (cT r.If).length + 4 ≤ (rT r).length := by unfold rT; simp; omega
theorem rules_text {fu : Nat} : ∀ (us : List FareRule) (q : List UInt8), (∀ u ∈ us, GoodR u) → q.length + (fl (us.map rT)).length ≤ 1000000 → 1000010 ≤ fu →
  FareTarifftext.loop2 fu us (str q) = some (str (q ++ fl (us.map rT))) ∧ Fishref2TariffText.loop2 fu us (str q) = some (str (q ++ fl (us.map rT)))
 | [], q, _, _, _ => by simp [FareTarifftext.loop2, Fishref2TariffText.loop2, fl]
 | u :: us, q, hg, hl, hf => by
  obtain ⟨h1, h2, h3⟩ := hg u (by simp)
  rw [List.map_cons, fl_len] at hl
  have l1 := itoa_len h3
  have l2 := dd_len h2
  have l0 := rT_len u
  obtain ⟨c1, c2⟩ := c_text h1 fu (by omega) (by omega)
  obtain ⟨k1, k2⟩ := rules_text us (q ++ (rT u ++ [10])) (fun y hy => hg y (by simp [hy])) (by simp; omega) hf
  have e0 : cT u.If ++ [32, 58, 32] ++ dd u.Do ++ [32] ++ Lib.itoa u.N ++ (stT u.Stop ++ [10]) = rT u ++ [10] := by simp [rT]
  have ne : cT u.If ++ [32, 58, 32] ++ dd u.Do ++ [32] ++ Lib.itoa u.N ≠ [] := by simp
  have lr : (rT u).length = (cT u.If).length + 3 + (dd u.Do).length + 1 + (Lib.itoa u.N).length + (stT u.Stop).length := by unfold rT; simp; omega
  constructor
  ·rw [FareTarifftext.loop2, c1, Option.bind_some, scat_str (by simp; omega), Option.bind_some, bnd_eq, deeds_list, gx_dd h2, Option.bind_some, scat_str (by simp; omega), Option.bind_some, scat_str (by simp; omega), Option.bind_some, itoa_str h3.1, Option.bind_some, scat_str (by simp; omega), Option.bind_some, sbw_str ne (by simp; omega), Option.bind_some]
   cases hs : u.Stop with
   | true =>
    rw [hs] at e0 lr
    have ls : (stT true).length = 5 := rfl
    rw [if_pos rfl, sbw_str (by simp) (by simp; omega), Option.bind_some, sbw_str (by simp) (by simp; omega), Option.bind_some]
    rw [show q ++ (cT u.If ++ [32, 58, 32] ++ dd u.Do ++ [32] ++ Lib.itoa u.N) ++ [32, 115, 116, 111, 112] ++ [10] = q ++ (rT u ++ [10]) by rw [← e0]; simp [stT], k1, List.map_cons, fl_cons]
    simp
   | false =>
    rw [hs] at e0 lr
    have ls : (stT false).length = 0 := rfl
    rw [if_neg (by decide), sbw_str (by simp) (by simp; omega), Option.bind_some]
    rw [show q ++ (cT u.If ++ [32, 58, 32] ++ dd u.Do ++ [32] ++ Lib.itoa u.N) ++ [10] = q ++ (rT u ++ [10]) by rw [← e0]; simp [stT], k1, List.map_cons, fl_cons]
    simp
  ·rw [Fishref2TariffText.loop2, c2, Option.bind_some, scat_str (by simp; omega), Option.bind_some, show gx [(str []), (str [112, 101, 114, 99, 101, 110, 116]), (str [109, 105, 110, 117, 115]), (str [112, 108, 117, 115]), (str [102, 105, 120]), (str [97, 116, 109, 111, 115, 116]), (str [97, 116, 108, 101, 97, 115, 116])] u.Do = some (str (dd u.Do)) from gx_dd h2, Option.bind_some, scat_str (by simp; omega), Option.bind_some, scat_str (by simp; omega), Option.bind_some, itoa_str h3.1, Option.bind_some, scat_str (by simp; omega), Option.bind_some, scat_str (by simp; omega), Option.bind_some]
   cases hs : u.Stop with
   | true =>
    rw [hs] at e0 lr
    have ls : (stT true).length = 5 := rfl
    rw [if_pos rfl, scat_str (by simp; omega), Option.bind_some, Option.bind_some, scat_str (by simp; omega), Option.bind_some]
    rw [show q ++ (cT u.If ++ [32, 58, 32] ++ dd u.Do ++ [32] ++ Lib.itoa u.N) ++ [32, 115, 116, 111, 112] ++ [10] = q ++ (rT u ++ [10]) by rw [← e0]; simp [stT], k2, List.map_cons, fl_cons]
    simp
   | false =>
    rw [hs] at e0 lr
    have ls : (stT false).length = 0 := rfl
    rw [if_neg (by decide), Option.bind_some, scat_str (by simp; omega), Option.bind_some]
    rw [show q ++ (cT u.If ++ [32, 58, 32] ++ dd u.Do ++ [32] ++ Lib.itoa u.N) ++ [10] = q ++ (rT u ++ [10]) by rw [← e0]; simp [stT], k2, List.map_cons, fl_cons]
    simp
theorem tT_eq (t : FareTariff) : tarT t = hT t.ByKm ++ 10 :: (fl (t.Bands.map bT) ++ (oT t.Round ++ 10 :: fl (t.Rules.map rT))) := by
 unfold tarT tL
 rw [fl_cons, fl_app, fl_cons]
theorem t_text {t : FareTariff} (h : GoodT t) (hl : (tarT t).length ≤ 900000) {fu : Nat} (hf : 1000010 ≤ fu) : FareTarifftext fu t = some (str (tarT t)) ∧ Fishref2TariffText fu t = some (str (tarT t)) := by
 obtain ⟨h1, h2, h3⟩ := h
 have le := congrArg List.length (tT_eq t)
 simp only [List.length_append, List.length_cons] at le
 have lo := itoa_len h2
 have eo : [114, 111, 117, 110, 100, 32] ++ Lib.itoa t.Round ++ [10] = oT t.Round ++ [10] := by simp [oT]
 have lo2 : (oT t.Round).length = 6 + (Lib.itoa t.Round).length := by unfold oT; simp; omega
 obtain ⟨b1, b2⟩ := bands_text t.Bands (hT t.ByKm ++ [10]) h1 (by simp; omega)
 obtain ⟨r1, r2⟩ := rules_text (fu := fu) t.Rules (hT t.ByKm ++ [10] ++ fl (t.Bands.map bT) ++ (oT t.Round ++ [10])) h3 (by simp; omega) hf
 have es : hT t.ByKm ++ [10] ++ fl (t.Bands.map bT) ++ (oT t.Round ++ [10]) ++ fl (t.Rules.map rT) = tarT t := by rw [tT_eq]; simp
 constructor
 ·unfold FareTarifftext
  have hm : (mget (mput (mput [] false (str [122, 111, 110, 101, 115, 10])) true (str [107, 109, 10])) t.ByKm).getD ByteArray.empty = str (hT t.ByKm ++ [10]) := by cases t.ByKm <;> rfl
  rw [hm, show ByteArray.empty = str [] from rfl, sbw_str (by simp) (by simp; omega), Option.bind_some, List.nil_append, b1, Option.bind_some, itoa_str h2.1, Option.bind_some, scat_str (by simp; omega), Option.bind_some, scat_str (by simp; omega), Option.bind_some, eo, sbw_str (by simp) (by simp; omega), Option.bind_some, r1, Option.bind_some, es]
 ·unfold Fishref2TariffText
  have hm : (if t.ByKm = true then (str [107, 109, 10]) else (str [122, 111, 110, 101, 115, 10])) = str (hT t.ByKm ++ [10]) := by cases t.ByKm <;> rfl
  rw [bnd_eq, hm, b2, Option.bind_some, itoa_str h2.1, Option.bind_some, scat_str (by simp; omega), Option.bind_some, scat_str (by simp; omega), Option.bind_some, eo, scat_str (by simp; omega), Option.bind_some, r2, Option.bind_some, es]
theorem fl_mem {L : List (List UInt8)} {x : List UInt8} (h : x ∈ L) : x.length + 1 ≤ (fl L).length := by
 induction L with
 | nil => cases h
 | cons y L ih =>
  rw [fl_len]
  rcases List.mem_cons.1 h with rfl | h
  ·omega
  ·have := ih h; omega
theorem fl_cnt : ∀ L : List (List UInt8), L.length ≤ (fl L).length
 | [] => by simp
 | y :: L => by have := fl_cnt L; rw [fl_len, List.length_cons]; omega
theorem tariff_reads {t : FareTariff} (h : GoodT t) (hl : (tarT t).length ≤ 90000) {fu : Nat} (hf : 1000010 ≤ fu) : Faretariff fu (str (tarT t)) = some (some t) := by
 have hne : tL t ≠ [] := by unfold tL; simp
 have ej : tarT t = jn 10 (tL t) ++ [10] := fl_jn _ hne
 have lj := congrArg List.length ej
 rw [List.length_append] at lj
 have l0 := fl_cnt (tL t)
 have l1 : (tL t).length = 1 + (t.Bands.length + (1 + t.Rules.length)) := by unfold tL; simp; omega
 have l2 : (tL t).length ≤ (tarT t).length := l0
 have hr : ∀ u ∈ t.Rules, (rT u).length ≤ 90000 := fun u hu => by
  have : rT u ∈ tL t := by unfold tL; simp only [List.mem_cons, List.mem_append, List.mem_map]; exact .inr (.inr (.inr ⟨u, hu, rfl⟩))
  have := fl_mem this
  have : (fl (tL t)).length = (tarT t).length := rfl
  omega
 have d0 : (tL t).drop 0 = hT t.ByKm :: (t.Bands.map bT ++ (oT t.Round :: t.Rules.map rT)) := rfl
 have d1 : (tL t).drop 1 = t.Bands.map bT ++ (oT t.Round :: t.Rules.map rT) := rfl
 have d2 := drop_app d1
 rw [List.length_map] at d2
 obtain ⟨_, _, d3⟩ := drop_get d2
 unfold Faretariff
 rw [ej, cutsq_end _ (by simp at lj; omega), Option.bind_some]
 dsimp only
 rw [if_neg (by decide), splitq_jn 10 (tL t) _ hne (fun a ha m => (okl_asc (okl_t h a ha 10 m)).2 rfl) rfl (by rw [str_size]; simp at lj; omega), Option.bind_some]
 rw [List.length_map, show (tL t).length = (t.Bands.length + (t.Rules.length + 1)) + 1 by omega, head_step (by omega) d0, bands_run (by omega) t.Bands 1 (t.Rules.length + 1) _ [] t.ByKm 0 [] h.1 d1 (by simp; omega), List.nil_append, round_step (by omega) h.2.1 d2 t.ByKm t.Bands [], rules_run (by omega) t.Rules _ t.Bands t.ByKm t.Round [] (fun u hu => ⟨h.2.2 u hu, by have := hr u hu; omega⟩) d3 (by simp; omega), Option.bind_some, List.nil_append]
 dsimp only
 rw [if_neg (by decide), (t_text h (by omega) hf).1, Option.bind_some, ← ej, seq_self]
 rfl
theorem conds_same {self : FareCond → FareCond → Option Bool} {L : List FareCond} : ∀ (l : List FareCond) (k : Nat), (∀ c ∈ l, self c c = some true) → L.drop k = l → SlicesEqualFuncLfareCond_v2.loop1 L self l k = some (.next ())
 | [], k, _, _ => rfl
 | c :: l, k, h, hd => by
  obtain ⟨d1, _, d3⟩ := drop_get hd
  rw [SlicesEqualFuncLfareCond_v2.loop1, gx_nat, d1, Option.bind_some, h c (by simp), Option.bind_some, if_neg (by decide)]
  exact conds_same l (k + 1) (fun y hy => h y (by simp [hy])) d3
theorem cond_same {c : FareCond} (h : Good c) : ∀ fu : Nat, (cT c).length + 1 ≤ fu → Fishref2SameCond fu c c = some true := by
 induction h with
 | @leaf kd a b h ha hb =>
  intro fu hf
  obtain ⟨f, rfl⟩ : ∃ f, fu = f + 1 := ⟨fu - 1, by omega⟩
  simp [Fishref2SameCond, SlicesEqualFuncLfareCond_v2, SlicesEqualFuncLfareCond_v2.loop1]
 | @not k h ih =>
  intro fu hf
  obtain ⟨f, rfl⟩ : ∃ f, fu = f + 1 := ⟨fu - 1, by omega⟩
  have e : cT ⟨9, 0, 0, [k]⟩ = wNot ++ 32 :: par 9 k.Kind (cT k) := by rw [cT, if_pos rfl, ksT]; rfl
  have hp := par_len 9 k.Kind (cT k)
  have el : (cT ⟨9, 0, 0, [k]⟩).length = 4 + (par 9 k.Kind (cT k)).length := by rw [e]; simp; omega
  have hk := conds_same (self := Fishref2SameCond f) (L := [k]) [k] 0 (fun c hc => by rw [List.mem_singleton.1 hc]; exact ih f (by omega)) rfl
  rw [Fishref2SameCond]
  dsimp only
  rw [SlicesEqualFuncLfareCond_v2, hk]
  simp
 | @grp kd ks h hl hk ih =>
  intro fu hf
  obtain ⟨f, rfl⟩ : ∃ f, fu = f + 1 := ⟨fu - 1, by omega⟩
  have key : ∀ w : List UInt8, cT ⟨kd, 0, 0, ks⟩ = jT w (ks.map fun k => par kd k.Kind (cT k)) → ∀ k ∈ ks, Fishref2SameCond f k k = some true := fun w hw k hm => by
   have h1 := jT_mem (w := w) (List.mem_map_of_mem (f := fun k : FareCond => par kd k.Kind (cT k)) hm) (by simpa using hl)
   rw [← hw] at h1
   have h2 := par_len kd k.Kind (cT k)
   exact ih k hm f (by omega)
  have hs : ∀ k ∈ ks, Fishref2SameCond f k k = some true := by
   rcases h with rfl | rfl
   ·exact key wAnd (by rw [cT, if_neg (by decide), if_pos rfl, ksT_map])
   ·exact key wOr (by rw [cT, if_neg (by decide), if_neg (by decide), if_pos rfl, ksT_map])
  have hk := conds_same (self := Fishref2SameCond f) (L := ks) ks 0 hs rfl
  rw [Fishref2SameCond]
  dsimp only
  rw [SlicesEqualFuncLfareCond_v2, hk]
  simp
theorem rules_same {fu : Nat} {L : List FareRule} : ∀ (l : List FareRule) (k : Nat), (∀ r ∈ l, Fishref2SameCond fu r.If r.If = some true) → L.drop k = l → SlicesEqualFuncLfareRule_v1.loop1 L fu l k = some (.next ())
 | [], k, _, _ => rfl
 | r :: l, k, h, hd => by
  obtain ⟨d1, _, d3⟩ := drop_get hd
  have e : Fishref2SameTariff_1 fu r r = some true := by unfold Fishref2SameTariff_1; rw [h r (by simp)]; simp
  rw [SlicesEqualFuncLfareRule_v1.loop1, gx_nat, d1, Option.bind_some, e, Option.bind_some, if_neg (by decide)]
  exact rules_same l (k + 1) (fun y hy => h y (by simp [hy])) d3
theorem bands_same {L : List FareBand} : ∀ (l : List FareBand) (k : Nat), L.drop k = l → SlicesEqualLfareBand.loop1 L l k = some (.next ())
 | [], k, _ => rfl
 | r :: l, k, hd => by
  obtain ⟨d1, _, d3⟩ := drop_get hd
  rw [SlicesEqualLfareBand.loop1, gx_nat, d1, Option.bind_some, if_neg (by simp)]
  exact bands_same l (k + 1) d3
theorem tariff_same {t : FareTariff} {fu : Nat} (h : ∀ r ∈ t.Rules, Fishref2SameCond fu r.If r.If = some true) : Fishref2SameTariff fu t t = some true := by
 unfold Fishref2SameTariff SlicesEqualLfareBand SlicesEqualFuncLfareRule_v1
 rw [bands_same t.Bands 0 rfl, rules_same t.Rules 0 h rfl]
 simp
def sp : List UInt8 → List (List UInt8)
 | [] => [[]]
 | c :: t => if c = 32 then [] :: sp t else match sp t with | [] => [[c]] | p :: r => (c :: p) :: r
def tkL : List UInt8 → List (List UInt8) × List UInt8
 | [] => ([], [])
 | c :: t => if c = 40 then ([40] :: (tkL t).1, (tkL t).2) else ([], c :: t)
def tkR : List UInt8 → Nat × List UInt8
 | [] => (0, [])
 | c :: t => if c = 41 then ((tkR t).1 + 1, (tkR t).2) else (0, c :: t)
def tk (w : List UInt8) : List (List UInt8) := (tkL w).1 ++ ((tkR (tkL w).2.reverse).2.reverse :: List.replicate (tkR (tkL w).2.reverse).1 [41])
def tks (t : List UInt8) : List (List UInt8) := (sp t).flatMap tk
theorem sp_ne : ∀ t, sp t ≠ []
 | [] => by simp [sp]
 | c :: t => by
  rw [sp]
  split
  ·simp
  ·split <;> simp
theorem sp_jn : ∀ t, jn 32 (sp t) = t ∧ ∀ p ∈ sp t, (32 : UInt8) ∉ p
 | [] => by simp [sp, jn]
 | c :: t => by
  obtain ⟨h1, h2⟩ := sp_jn t
  have h0 := sp_ne t
  rw [sp]
  split
  ·rename_i hc
   subst hc
   cases hs : sp t with
   | nil => exact absurd hs h0
   | cons p r =>
    rw [hs] at h1 h2
    refine ⟨by rw [jn, h1]; rfl, ?_⟩
    intro q hq
    rcases List.mem_cons.1 hq with rfl | hq
    ·simp
    ·exact h2 q hq
  ·rename_i hc
   cases hs : sp t with
   | nil => exact absurd hs h0
   | cons p r =>
    rw [hs] at h1 h2
    dsimp only
    refine ⟨?_, ?_⟩
    ·cases r with
     | nil => rw [jn] at h1 ⊢; rw [h1]
     | cons q r => rw [jn] at h1 ⊢; rw [← h1]; rfl
    ·intro q hq
     rcases List.mem_cons.1 hq with rfl | hq
     ·intro hm
      rcases List.mem_cons.1 hm with e | hm
      ·exact hc e.symm
      ·exact h2 p (by simp) hm
     ·exact h2 q (by simp [hq])
theorem sp_sp : ∀ t u, sp (t ++ 32 :: u) = sp t ++ sp u
 | [], u => by simp [sp]
 | c :: t, u => by
  rw [List.cons_append, sp, sp, sp_sp t u]
  split
  ·rfl
  ·cases hs : sp t with
   | nil => exact absurd hs (sp_ne t)
   | cons p r => rfl
theorem sp_word : ∀ w : List UInt8, (32 : UInt8) ∉ w → sp w = [w]
 | [], _ => rfl
 | c :: t, h => by
  rw [sp, if_neg (fun e => h (by simp [e])), sp_word t (fun m => h (by simp [m]))]
theorem sp_last : ∀ t : List UInt8, ∃ I p, sp t = I ++ [p] ∧ sp (t ++ [41]) = I ++ [p ++ [41]]
 | [] => ⟨[], [], rfl, rfl⟩
 | c :: t => by
  obtain ⟨I, p, h1, h2⟩ := sp_last t
  rw [List.cons_append, sp, sp, h1, h2]
  split
  ·exact ⟨[] :: I, p, rfl, rfl⟩
  ·cases I with
   | nil => exact ⟨[], c :: p, rfl, rfl⟩
   | cons q I => exact ⟨(c :: q) :: I, p, rfl, rfl⟩
theorem tk_open (p : List UInt8) : tk (40 :: p) = [40] :: tk p := by
 unfold tk
 rw [tkL, if_pos rfl]
 rfl
theorem tkL_snoc : ∀ p : List UInt8, tkL (p ++ [41]) = ((tkL p).1, (tkL p).2 ++ [41])
 | [] => rfl
 | c :: p => by
  rw [List.cons_append, tkL, tkL, tkL_snoc p]
  split <;> rfl
theorem tk_close (p : List UInt8) : tk (p ++ [41]) = tk p ++ [[41]] := by
 unfold tk
 rw [tkL_snoc]
 simp only [List.reverse_append, List.reverse_cons, List.reverse_nil, List.nil_append, List.singleton_append]
 rw [tkR, if_pos rfl]
 simp only [List.append_assoc, List.cons_append]
 rw [List.replicate_succ']
theorem tkL_word {w : List UInt8} (h : ∀ x ∈ w, okw x) : tkL w = ([], w) := by
 cases w with
 | nil => rfl
 | cons c t =>
  rw [tkL, if_neg]
  intro e
  have := (h c (by simp)).ne.2
  exact this (.inl e)
theorem tkR_word {w : List UInt8} (h : ∀ x ∈ w, okw x) : tkR w = (0, w) := by
 cases w with
 | nil => rfl
 | cons c t =>
  rw [tkR, if_neg]
  intro e
  have := (h c (by simp)).ne.2
  exact this (.inr e)
theorem tk_word {w : List UInt8} (h : ∀ x ∈ w, okw x) : tk w = [w] := by
 unfold tk
 rw [tkL_word h]
 dsimp only
 rw [tkR_word (fun x m => h x (List.mem_reverse.1 m))]
 simp
def TokR (t : List UInt8) (W : List (List UInt8)) : Prop := tks t = W
theorem TokR.sp {t u : List UInt8} {W V : List (List UInt8)} (h : TokR t W) (k : TokR u V) : TokR (t ++ 32 :: u) (W ++ V) := by
 unfold TokR tks at *
 rw [sp_sp, List.flatMap_append, h, k]
theorem tokR_word {w : List UInt8} (h : ∀ x ∈ w, okw x) : TokR w [w] := by
 unfold TokR tks
 rw [sp_word w (fun m => (h 32 m).ne.1 rfl)]
 simp [tk_word h]
theorem TokR.paren {t : List UInt8} {W : List (List UInt8)} (h : TokR t W) : TokR (40 :: t ++ [41]) ([40] :: W ++ [[41]]) := by
 unfold TokR tks at *
 obtain ⟨I, p, h1, h2⟩ := sp_last (40 :: t)
 rw [h2]
 have h3 : (Go.Fp.sp (40 :: t)).flatMap tk = [40] :: W := by
  rw [Go.Fp.sp, if_neg (by decide)]
  cases hs : Go.Fp.sp t with
  | nil => exact absurd hs (sp_ne t)
  | cons q r =>
   rw [hs] at h
   dsimp only
   rw [List.flatMap_cons, tk_open, List.cons_append, ← List.flatMap_cons, h]
 rw [h1] at h3
 rw [List.flatMap_append] at h3 ⊢
 rw [List.flatMap_singleton, tk_close, ← List.append_assoc]
 rw [List.flatMap_singleton] at h3
 rw [h3]
theorem TokR.par {pk kd : Int} {t : List UInt8} {W : List (List UInt8)} (h : TokR t W) : TokR (Go.Fp.par pk kd t) (parW pk kd W) := by
 unfold Go.Fp.par parW
 split
 ·exact h.paren
 ·exact h
theorem tokR_j {w : List UInt8} (hw : ∀ x ∈ w, okw x) : ∀ (r : List (List UInt8)) (R : List (List (List UInt8))) {t : List UInt8} {W : List (List UInt8)}, TokR t W → All2 TokR r R → TokR (t ++ r.flatMap fun y => 32 :: w ++ 32 :: y) (W ++ R.flatMap fun y => w :: y)
 | [], _, t, W, h, .nil => by simpa using h
 | y :: r, _, t, W, h, .cons (b := V) h1 h2 => by
  have k := tokR_j hw r _ ((h.sp (tokR_word hw)).sp h1) h2
  simpa [List.flatMap_cons] using k
theorem TokR.j {w : List UInt8} (hw : ∀ x ∈ w, okw x) {r : List (List UInt8)} {R : List (List (List UInt8))} (h : All2 TokR r R) (hn : r ≠ []) : TokR (jT w r) (jW w R) := by
 cases h with
 | nil => exact absurd rfl hn
 | cons h1 h2 => exact tokR_j hw _ _ h1 h2
theorem tokR_nums : ∀ (l : List Int) {t : List UInt8} {W : List (List UInt8)}, (∀ n ∈ l, Nu n) → TokR t W → TokR (t ++ l.flatMap fun n => 32 :: Lib.itoa n) (W ++ l.map Lib.itoa)
 | [], t, W, _, h => by simpa using h
 | n :: l, t, W, hn, h => by
  have h1 := (hn n (by simp)).1
  have k := tokR_nums l (fun m hm => hn m (by simp [hm])) (h.sp (tokR_word (itoa_okw h1.1)))
  simpa [List.flatMap_cons] using k
theorem tokR_c {c : FareCond} (h : Good c) : tks (cT c) = cW c := by
 show TokR _ _
 induction h with
 | @leaf kd a b h ha hb =>
  rw [cT, cW, if_neg (by omega), if_neg (by omega), if_neg (by omega), if_neg (by omega), if_neg (by omega), if_neg (by omega)]
  exact tokR_nums _ (nums_nu ha hb) (tokR_word (nm_okw (k := kd) (by omega)).2)
 | @not k h ih =>
  rw [cT, cW, if_pos rfl, if_pos rfl, ksT, ksW]
  exact (tokR_word (w := wNot) (by unfold okw; decide)).sp ih.par
 | @grp kd ks h hl hk ih =>
  have hn : ∀ f : FareCond → List UInt8, ks.map f ≠ [] := fun f e => by rw [List.map_eq_nil_iff] at e; subst e; simp at hl
  rcases h with rfl | rfl
  ·rw [cT, cW, if_neg (by decide), if_pos rfl, if_neg (by decide), if_pos rfl, ksT_map, ksW_map]
   exact TokR.j (by unfold okw; decide) (fa_map fun x hx => (ih x hx).par) (hn _)
  ·rw [cT, cW, if_neg (by decide), if_neg (by decide), if_pos rfl, if_neg (by decide), if_neg (by decide), if_pos rfl, ksT_map, ksW_map]
   exact TokR.j (by unfold okw; decide) (fa_map fun x hx => (ih x hx).par) (hn _)
theorem extr_str (l : List UInt8) (a b : Nat) : (str l).extract a b = str ((l.take b).drop a) := ba_ext (by rw [cut_list])
theorem tok2 : ∀ (p : List UInt8) (n : Nat) (q : List (List UInt8)), p.length + 1 ≤ n → q.length + p.length ≤ 2000000 → p.length ≤ 100000 → Fishref2tokens.loop2 n (str p) (q.map str) = some (str (tkL p).2, (q ++ (tkL p).1).map str)
 | [], n, q, hn, _, _ => by
  obtain ⟨m, rfl⟩ : ∃ m, n = m + 1 := ⟨n - 1, by simp at hn; omega⟩
  rw [Fishref2tokens.loop2, if_neg (by decide)]
  simp [tkL]
 | c :: t, n, q, hn, hq, hz => by
  obtain ⟨m, rfl⟩ : ∃ m, n = m + 1 := ⟨n - 1, by simp at hn; omega⟩
  simp only [List.length_cons] at hn hq hz
  rw [Fishref2tokens.loop2, tkL]
  have hp : haspq (str (c :: t)) (str [40]) = (40 == c) := by unfold haspq Lib.hasPrefix; simp [List.isPrefixOf]
  by_cases h : c = 40
  ·subst h
   rw [if_pos (by rw [hp]; rfl), if_pos rfl, apd_lt (by simp; omega), Option.bind_some]
   have hc : scut (str (40 :: t)) 1 (((str (40 :: t)).size : Nat) : Int) = some (str t) := by
    unfold scut
    rw [if_pos (by rw [str_size]; simp; omega), str_size]
    have : (str (40 :: t)).extract (Int.toNat 1) (Int.toNat (((40 :: t : List UInt8).length : Nat) : Int)) = str t := by
     rw [extr_str, Int.toNat_natCast, List.take_length]; rfl
    rw [this]
   rw [hc, Option.bind_some]
   have := tok2 t m (q ++ [[40]]) (by omega) (by simp; omega) (by omega)
   rw [List.map_append] at this
   rw [show q.map str ++ [str [40]] = q.map str ++ [[40]].map str from rfl, this]
   simp
  ·rw [if_neg (by rw [hp]; simp; exact fun e => h e.symm), if_neg h]
   simp
theorem tok3 : ∀ (v : List UInt8) (n : Nat) (j : Nat), v.length + 1 ≤ n → v.length ≤ 100000 → j + v.length ≤ 2000000 → Fishref2tokens.loop3 n (str v.reverse) ((j : Nat) : Int) = some (str (tkR v).2.reverse, ((j + (tkR v).1 : Nat) : Int))
 | [], n, j, hn, _, _ => by
  obtain ⟨m, rfl⟩ : ∃ m, n = m + 1 := ⟨n - 1, by simp at hn; omega⟩
  rw [Fishref2tokens.loop3, show hassq (str [].reverse) (str [41]) = some false from rfl, Option.bind_some, if_neg (by decide)]
  simp [tkR]
 | c :: t, n, j, hn, hz, hj => by
  obtain ⟨m, rfl⟩ : ∃ m, n = m + 1 := ⟨n - 1, by simp at hn; omega⟩
  simp only [List.length_cons] at hn hz hj
  have hs : hassq (str (c :: t).reverse) (str [41]) = some (41 == c) := by
   unfold hassq Lib.hasSuffix
   rw [if_pos (by rw [str_size]; simp; omega)]
   simp [List.isSuffixOf, List.isPrefixOf]
  rw [Fishref2tokens.loop3, hs, Option.bind_some, tkR]
  by_cases h : c = 41
  ·subst h
   have hl : (str (41 :: t).reverse).size = t.length + 1 := by rw [str_size]; simp
   have hc : scut (str (41 :: t).reverse) 0 (w64 ((((str (41 :: t).reverse).size : Nat) : Int) - 1)) = some (str t.reverse) := by
    rw [hl, w64_pred (by omega) (by omega), Nat.add_sub_cancel]
    unfold scut
    rw [if_pos (by rw [hl]; omega)]
    have : (str (41 :: t).reverse).extract (Int.toNat 0) (Int.toNat ((t.length : Nat) : Int)) = str t.reverse := by
     rw [extr_str, Int.toNat_natCast, List.reverse_cons, List.take_left' (by simp)]; rfl
    rw [this]
   rw [if_pos (show ((41 : UInt8) == 41) = true from rfl), hc, Option.bind_some, w64_succ (by omega), tok3 t m (j + 1) (by omega) (by omega) (by omega), if_pos rfl]
   simp only
   congr 3
   omega
  ·rw [if_neg (by simp; exact fun e => h e.symm), if_neg h]
   simp
theorem tok5 (b : Nat) (hb : b ≤ 100000) : ∀ (k n j : Nat) (q : List (List UInt8)), j + k = b → k + 1 ≤ n → q.length + k ≤ 2000000 → Fishref2tokens.loop5 ((b : Nat) : Int) n ((j : Nat) : Int) (q.map str) = some (((b : Nat) : Int), (q ++ List.replicate k [41]).map str)
 | 0, n, j, q, hj, hn, _ => by
  obtain ⟨m, rfl⟩ : ∃ m, n = m + 1 := ⟨n - 1, by omega⟩
  rw [Fishref2tokens.loop5, if_neg (by simp; omega), show j = b by omega]
  simp
 | k + 1, n, j, q, hj, hn, hq => by
  obtain ⟨m, rfl⟩ : ∃ m, n = m + 1 := ⟨n - 1, by omega⟩
  rw [Fishref2tokens.loop5, if_pos (by simp; omega), apd_lt (by simp; omega), Option.bind_some, w64_succ (by omega)]
  have := tok5 b hb k m (j + 1) (q ++ [[41]]) (by omega) (by omega) (by simp; omega)
  rw [List.map_append] at this
  rw [show q.map str ++ [str [41]] = q.map str ++ [[41]].map str from rfl, this, List.replicate_succ]
  simp
theorem tkR_len : ∀ v : List UInt8, (tkR v).1 + (tkR v).2.length = v.length
 | [] => rfl
 | c :: t => by
  have := tkR_len t
  rw [tkR]
  split <;> simp <;> omega
theorem tkL_len : ∀ v : List UInt8, (tkL v).1.length + (tkL v).2.length = v.length
 | [] => rfl
 | c :: t => by
  have := tkL_len t
  rw [tkL]
  split <;> simp <;> omega
theorem tk_len (w : List UInt8) : (tk w).length ≤ w.length + 1 := by
 have h1 := tkL_len w
 have h2 := tkR_len (tkL w).2.reverse
 rw [List.length_reverse] at h2
 unfold tk
 simp only [List.length_append, List.length_cons, List.length_replicate]
 omega
theorem tok1 {fu : Nat} (hf : 200000 ≤ fu) : ∀ (P : List (List UInt8)) (q : List (List UInt8)), (∀ p ∈ P, p.length ≤ 100000) → q.length + (P.map fun p => p.length + 1).sum ≤ 1000000 → Fishref2tokens.loop1 fu (P.map str) (q.map str) = some ((q ++ P.flatMap tk).map str)
 | [], q, _, _ => by simp [Fishref2tokens.loop1]
 | p :: P, q, hp, hq => by
  have h0 := hp p (by simp)
  have h1 := tkL_len p
  have h2 := tkR_len (tkL p).2.reverse
  have h3 := tk_len p
  rw [List.length_reverse] at h2
  simp only [List.map_cons, List.sum_cons] at hq
  rw [List.map_cons, Fishref2tokens.loop1, tok2 p fu q (by omega) (by omega) h0, Option.bind_some]
  dsimp only
  have k3 := tok3 (tkL p).2.reverse fu 0 (by simp; omega) (by simp; omega) (by simp; omega)
  rw [List.reverse_reverse] at k3
  rw [show (0 : Int) = ((0 : Nat) : Int) from rfl, k3, Option.bind_some]
  dsimp only
  rw [Nat.zero_add, apd_lt (by simp; omega), Option.bind_some]
  have k5 := tok5 (tkR (tkL p).2.reverse).1 (by omega) (tkR (tkL p).2.reverse).1 fu 0 (q ++ (tkL p).1 ++ [(tkR (tkL p).2.reverse).2.reverse]) (by omega) (by omega) (by simp; omega)
  rw [List.map_append] at k5
  rw [show (q ++ (tkL p).1).map str ++ [str (tkR (tkL p).2.reverse).2.reverse] = (q ++ (tkL p).1).map str ++ [(tkR (tkL p).2.reverse).2.reverse].map str from rfl, k5, Option.bind_some]
  dsimp only
  have e : q ++ (tkL p).1 ++ [(tkR (tkL p).2.reverse).2.reverse] ++ List.replicate (tkR (tkL p).2.reverse).1 [41] = q ++ tk p := by unfold tk; simp
  rw [e, tok1 hf P (q ++ tk p) (fun y hy => hp y (by simp [hy])) (by simp; omega), List.flatMap_cons]
  simp
theorem jn_len (c : UInt8) : ∀ P : List (List UInt8), P ≠ [] → (jn c P).length + 1 = (P.map fun p => p.length + 1).sum
 | [], h => absurd rfl h
 | [a], _ => by simp [jn]
 | a :: b :: r, _ => by
  have := jn_len c (b :: r) (by simp)
  rw [jn, List.map_cons, List.sum_cons, ← this]
  simp; omega
theorem mem_sum {P : List (List UInt8)} {p : List UInt8} (h : p ∈ P) : p.length + 1 ≤ (P.map fun p => p.length + 1).sum := by
 induction P with
 | nil => cases h
 | cons q P ih =>
  rw [List.map_cons, List.sum_cons]
  rcases List.mem_cons.1 h with rfl | h
  ·omega
  ·have := ih h; omega
theorem tokens_eq {x : List UInt8} (hz : x.length ≤ 70000) {fu : Nat} (hf : 200000 ≤ fu) : Fishref2tokens fu (str x) = some ((tks x).map str) := by
 obtain ⟨h1, h2⟩ := sp_jn x
 have h3 := jn_len 32 (sp x) (sp_ne x)
 rw [h1] at h3
 unfold Fishref2tokens
 rw [splitq_jn 32 (sp x) _ (sp_ne x) h2 h1.symm (by rw [str_size]; omega), Option.bind_some]
 have := tok1 hf (sp x) [] (fun p hp => by have := mem_sum hp; omega) (by simp; omega)
 rw [List.map_nil] at this
 rw [this]
 rfl
def wc (W : List (List UInt8)) (p : Nat) : Nat := ((W.take p).map fun w => w.length + 1).sum
theorem wc_succ {W : List (List UInt8)} {p : Nat} {w r} (h : W.drop p = w :: r) : wc W (p + 1) = wc W p + (w.length + 1) := by
 obtain ⟨h1, h2, _⟩ := drop_get h
 unfold wc
 have : W.take (p + 1) = W.take p ++ [w] := by
  rw [List.take_add_one, h1]; rfl
 rw [this, List.map_append, List.sum_append]
 simp
def uT (c : FareCond) : List UInt8 := par 10 c.Kind (cT c)
def aT (c : FareCond) : List UInt8 := par 11 c.Kind (cT c)
theorem drop_cases {α : Type} (l : List α) {p : Nat} (h : p ≤ l.length) : (p = l.length ∧ l.drop p = []) ∨ ∃ x r, l.drop p = x :: r ∧ p < l.length := by
 rcases Nat.lt_or_ge p l.length with k | k
 ·exact .inr ⟨_, _, List.drop_eq_getElem_cons k, k⟩
 ·exact .inl ⟨by omega, List.drop_of_length_le k⟩
section
variable {W : List (List UInt8)} (hW : W.length ≤ 200000)
def Snd (W : List (List UInt8)) (X : FareCond → List UInt8) (fu : Nat) (E : FareReader → Option (Option (FareCond × Int))) : Prop :=
 ∀ p : Nat, p ≤ W.length → W.length + 5 ≤ fu + p → E (rdr W p) = some none ∨ ∃ (c : FareCond) (p' : Nat), E (rdr W p) = some (some (c, ((p' : Nat) : Int))) ∧ p < p' ∧ p' ≤ W.length ∧ Good c ∧ wc W p + (X c).length + 1 ≤ wc W p'
include hW in
theorem take_tot (w : List UInt8) {p : Nat} (hp : p ≤ W.length) : (FareReadertake_v1 (str w) (rdr W p) = some (false, ((p : Nat) : Int)) ∧ ∀ r, W.drop p ≠ w :: r) ∨ (FareReadertake_v1 (str w) (rdr W p) = some (true, ((p + 1 : Nat) : Int)) ∧ p + 1 ≤ W.length ∧ wc W (p + 1) = wc W p + (w.length + 1) ∧ ∃ r, W.drop p = w :: r) := by
 rcases drop_cases W hp with ⟨_, h⟩ | ⟨x, r, h, hl⟩
 ·have k : ∀ r, W.drop p ≠ w :: r := fun r e => by rw [h] at e; cases e
  exact .inl ⟨take_miss hp k, k⟩
 ·by_cases e : x = w
  ·subst e; exact .inr ⟨take_hit hW h, hl, wc_succ h, r, h⟩
  ·have k : ∀ r, W.drop p ≠ w :: r := fun r k => by rw [h] at k; injection k with k _; exact e k
   exact .inl ⟨take_miss hp k, k⟩
include hW in
theorem must_tot (w : List UInt8) {p : Nat} (hp : p ≤ W.length) : FareReadermust_v1 (str w) (rdr W p) = some none ∨ (FareReadermust_v1 (str w) (rdr W p) = some (some ((p + 1 : Nat) : Int)) ∧ p + 1 ≤ W.length ∧ wc W (p + 1) = wc W p + (w.length + 1)) := by
 rcases take_tot hW w hp with ⟨h, _⟩ | ⟨h, h1, h2, _⟩
 ·left; unfold FareReadermust_v1; rw [h]; rfl
 ·right; refine ⟨?_, h1, h2⟩; unfold FareReadermust_v1; rw [h]; rfl
include hW in
theorem word_tot {p : Nat} (hp : p ≤ W.length) : (FareReaderword_v1 (rdr W p) = some none ∧ W.drop p = []) ∨ ∃ w r, W.drop p = w :: r ∧ FareReaderword_v1 (rdr W p) = some (some (str w, ((p + 1 : Nat) : Int))) ∧ p + 1 ≤ W.length ∧ wc W (p + 1) = wc W p + (w.length + 1) := by
 rcases drop_cases W hp with ⟨h0, h⟩ | ⟨x, r, h, hl⟩
 ·exact .inl ⟨word_end h0, h⟩
 ·exact .inr ⟨x, r, h, word_hit hW h, hl, wc_succ h⟩
theorem num_tot (w : List UInt8) (hw : w.length ≤ 1000000) : (Farenumber (str w) = some none ∧ ∃ v, Fishref2plain (str w) = some (v, false)) ∨ ∃ n, Farenumber (str w) = some (some n) ∧ Fishref2plain (str w) = some (n, true) ∧ w = Lib.itoa n ∧ Nu n := by
 obtain ⟨v, ok, ha⟩ : ∃ v ok, atoiq (str w) = some (v, ok) := by
  unfold atoiq
  rw [if_pos (by rw [str_size]; omega)]
  exact ⟨_, _, rfl⟩
 have hat : ok = true → Lib.atoiAll w = .ok v := by
  intro h
  unfold atoiq at ha
  rw [if_pos (by rw [str_size]; omega)] at ha
  injection ha with ha
  rw [str_list] at ha
  cases hh : Lib.atoiAll w with
  | ok u => rw [hh] at ha; injection ha with h1 h2; rw [h1]
  | range => rw [hh] at ha; injection ha with h1 h2; rw [h] at h2; cases h2
  | _ => rw [hh] at ha; injection ha with h1 h2; rw [h] at h2; cases h2
 cases ok with
 | false =>
  left
  constructor
  ·unfold Farenumber; rw [ha]; rfl
  ·unfold Fishref2plain; rw [ha]; exact ⟨v, rfl⟩
 | true =>
  have hv := Lib.atoiAll_bounds (hat rfl)
  by_cases c : v < 0
  ·left
   constructor
   ·unfold Farenumber; rw [ha]; simp [c]
   ·unfold Fishref2plain; rw [ha]
    have : ¬ v ≥ 0 := by omega
    exact ⟨v, by simp [this]⟩
  ·have c2 : v ≥ 0 := by omega
   have hi := itoa_str (n := v) (by omega)
   by_cases e : w = Lib.itoa v
   ·right
    have h1 : Farenumber (str w) = some (some v) := by
     unfold Farenumber; rw [ha]
     have : seq (str (Lib.itoa v)) (str w) = true := by rw [e]; exact seq_self _
     simp [c, hi, this]
    refine ⟨v, h1, ?_, e, ⟨by omega, by rw [← e]; exact h1⟩⟩
    unfold Fishref2plain; rw [ha]
    have : seq (str (Lib.itoa v)) (str w) = true := by rw [e]; exact seq_self _
    simp [c2, hi, this]
   ·left
    have hs : seq (str (Lib.itoa v)) (str w) = false := seq_ne (fun k => e k.symm)
    constructor
    ·unfold Farenumber; rw [ha]; simp [c, hi, hs]
    ·unfold Fishref2plain; rw [ha]; exact ⟨v, by simp [c2, hi, hs]⟩
include hW in
theorem number_tot {p : Nat} (hp : p ≤ W.length) (hw : ∀ w ∈ W, w.length ≤ 1000000) : FareReadernumber_v1 (rdr W p) = some none ∨ ∃ n, FareReadernumber_v1 (rdr W p) = some (some (n, ((p + 1 : Nat) : Int))) ∧ Nu n ∧ p + 1 ≤ W.length ∧ wc W (p + 1) = wc W p + ((Lib.itoa n).length + 1) := by
 unfold FareReadernumber_v1
 rcases word_tot hW hp with ⟨h, _⟩ | ⟨w, r, hd, h, h1, h2⟩
 ·left; rw [h]; rfl
 ·rw [h, Option.bind_some]
  dsimp only
  rcases num_tot w (hw w (List.mem_of_getElem? (drop_get hd).1)) with ⟨k, _⟩ | ⟨n, k, _, e, hn⟩
  ·left; rw [k]; rfl
  ·right; refine ⟨n, ?_, hn, h1, by rw [h2, e]⟩; rw [k]; rfl
include hW in
theorem loop_snd {w : List UInt8} {X : FareCond → List UInt8} {fu : Nat} {E : FareReader → Option (Option (FareCond × Int))} (hE : Snd W X fu E)
  {F : Nat → List FareCond → Int → Option (Out (Option (FareCond × Int)) ((List FareCond) × Int))}
  (hF : ∀ n q p, F (n + 1) q p = ((FareReadertake_v1 (str w) (FareReader.mk (W.map str) p)).bind fun q86 => (if q86.1 then ((E (FareReader.mk (W.map str) q86.2)).bind fun q89 => match q89 with | none => some (.ret none) | some rr91 => ((apd q [rr91.1]).bind fun x104 => F n x104 rr91.2)) else some (.next (q, q86.2))))) :
  ∀ (n : Nat) (q : List FareCond) (p : Nat), p ≤ W.length → W.length + 5 ≤ fu + p → W.length + 1 ≤ n + p → q.length + (W.length - p) ≤ 1000000 →
   F n q ((p : Nat) : Int) = some (.ret none) ∨ ∃ (r : List FareCond) (p' : Nat), F n q ((p : Nat) : Int) = some (.next (q ++ r, ((p' : Nat) : Int))) ∧ p ≤ p' ∧ p' ≤ W.length ∧ (∀ k ∈ r, Good k) ∧ wc W p + (r.map fun k => (X k).length + w.length + 2).sum ≤ wc W p'
 | 0, q, p, hp, _, hn, _ => absurd hn (by omega)
 | n + 1, q, p, hp, hf, hn, hq => by
  rw [hF]
  rcases take_tot hW w hp with ⟨h, _⟩ | ⟨h, h1, h2, _⟩
  ·right
   refine ⟨[], p, ?_, Nat.le_refl _, hp, by simp, by simp⟩
   rw [h, Option.bind_some, if_neg (by simp)]
   simp
  ·rw [h, Option.bind_some, if_pos rfl]
   rcases hE (p + 1) h1 (by omega) with k | ⟨c, p', k, k1, k2, k3, k4⟩
   ·left; rw [k]; rfl
   ·dsimp only
    rw [k, Option.bind_some]
    dsimp only
    rw [apd_lt (by simp; omega), Option.bind_some]
    rcases loop_snd hE hF n (q ++ [c]) p' k2 (by omega) (by omega) (by simp; omega) with k | ⟨r, p2, m, m1, m2, m3, m4⟩
    ·exact .inl k
    ·right
     refine ⟨c :: r, p2, by rw [m]; simp, by omega, m2, fun y hy => ?_, ?_⟩
     ·rcases List.mem_cons.1 hy with rfl | hy
      ·exact k3
      ·exact m3 y hy
     ·rw [List.map_cons, List.sum_cons]; omega
include hW in
theorem list_snd {w : List UInt8} {kd : Int} {X Y : FareCond → List UInt8} {fu : Nat} {E E' : FareReader → Option (Option (FareCond × Int))} (hE : Snd W X fu E)
  {F : FareReader → Nat → List FareCond → Int → Option (Out (Option (FareCond × Int)) ((List FareCond) × Int))}
  (hF : ∀ y n q p, y.words = W.map str → F y (n + 1) q p = ((FareReadertake_v1 (str w) (FareReader.mk (W.map str) p)).bind fun q86 => (if q86.1 then ((E (FareReader.mk (W.map str) q86.2)).bind fun q89 => match q89 with | none => some (.ret none) | some rr91 => ((apd q [rr91.1]).bind fun x104 => F y n x104 rr91.2)) else some (.next (q, q86.2)))))
  (hE' : ∀ y, E' y = ((E y).bind fun q54 => match q54 with | none => some none | some rr56 => ((F y fu [rr56.1] rr56.2).bind fun q72 => match q72 with | .ret r => some r | .next (q77, q84) => (if (((q77.length : Nat) : Int) == 1) then ((gx q77 0).bind fun x111 => some (some (x111, q84))) else some (some ((FareCond.mk kd 0 0 q77), q84))))))
  (h1 : ∀ c, (Y c).length ≤ (X c).length) (h2 : ∀ ks, Y ⟨kd, 0, 0, ks⟩ = jT w (ks.map X)) (hk : kd = 10 ∨ kd = 11) : Snd W Y fu E' := by
 intro p hp hf
 rw [hE']
 rcases hE p hp hf with k | ⟨c, p', k, k1, k2, k3, k4⟩
 ·left; rw [k]; rfl
 ·rw [k, Option.bind_some]
  dsimp only
  rcases loop_snd hW hE (fun n q p' => hF (rdr W p) n q p' rfl) fu [c] p' k2 (by omega) (by omega) (by simp; omega) with m | ⟨r, p2, m, m1, m2, m3, m4⟩
  ·left; rw [m]; rfl
  ·right
   rw [m, Option.bind_some]
   dsimp only
   cases r with
   | nil =>
    refine ⟨c, p2, rfl, by omega, m2, k3, ?_⟩
    have := h1 c
    simp at m4
    omega
   | cons k' r =>
    refine ⟨⟨kd, 0, 0, c :: k' :: r⟩, p2, ?_, by omega, m2, .grp hk (by simp) (fun y hy => ?_), ?_⟩
    ·rw [if_neg (by simp; omega)]
     rfl
    ·rcases List.mem_cons.1 hy with rfl | hy
     ·exact k3
     ·exact m3 y hy
    ·rw [h2]
     have h3 : (jT w ((c :: k' :: r).map X)).length = (X c).length + ((k' :: r).map fun k => (X k).length + w.length + 2).sum := by
      rw [List.map_cons, jT, List.length_append]
      congr 1
      generalize k' :: r = l
      induction l with
      | nil => rfl
      | cons y l ih => rw [List.map_cons, List.flatMap_cons, List.length_append, ih, List.map_cons, List.sum_cons]; simp; omega
     rw [h3]
     omega
theorem par_mono (kd : Int) (t : List UInt8) : (par 11 kd t).length ≤ (par 10 kd t).length := by
 unfold par
 by_cases a : kd = 11
 ·rw [if_pos (.inl a), if_pos (.inl a)]; exact Nat.le_refl _
 ·rw [if_neg (by simp [a])]
  split
  ·simp; omega
  ·exact Nat.le_refl _
theorem aT_and (ks : List FareCond) : aT ⟨10, 0, 0, ks⟩ = jT wAnd (ks.map uT) := by
 unfold aT par
 rw [if_neg (by simp), cT, if_neg (by decide), if_pos rfl, ksT_map]
 rfl
theorem cT_or (ks : List FareCond) : cT ⟨11, 0, 0, ks⟩ = jT wOr (ks.map aT) := by
 rw [cT, if_neg (by decide), if_neg (by decide), if_pos rfl, ksT_map]
 rfl
include hW in
theorem and_snd {fu : Nat} {self : FareReader → Option (Option (FareCond × Int))} (hE : Snd W uT fu self) : Snd W aT fu (FareReaderand_v3 fu self) := by
 have h := list_snd hW (kd := 10) (Y := aT) (E' := FareReaderlist_v6 fu self 10 (str wAnd)) (F := fun y => FareReaderlist_v6.loop1 (str wAnd) y self) hE
  (fun y n q p hy => by rw [FareReaderlist_v6.loop1, hy]; rfl) (fun y => rfl) (fun c => par_mono _ _) aT_and (.inl rfl)
 intro p hp hf
 unfold FareReaderand_v3
 rw [show (str [97, 110, 100]) = str wAnd from rfl]
 rcases h p hp hf with k | ⟨c, p', k, k1⟩
 ·left; rw [k]; rfl
 ·right; refine ⟨c, p', ?_, k1⟩; rw [k]; rfl
include hW in
theorem or_snd {fu : Nat} {self : FareReader → Option (Option (FareCond × Int))} (hE : Snd W uT fu self) : Snd W cT fu (FareReaderor_v3 fu self) := by
 have h := list_snd hW (kd := 11) (Y := cT) (E' := FareReaderlist_v5 fu self 11 (str wOr)) (F := fun y => FareReaderlist_v5.loop1 (str wOr) y fu self) (and_snd hW hE)
  (fun y n q p hy => by rw [FareReaderlist_v5.loop1, hy]; rfl) (fun y => rfl) (fun c => (par_len _ _ _).1) cT_or (.inr rfl)
 intro p hp hf
 unfold FareReaderor_v3
 rw [show (str [111, 114]) = str wOr from rfl]
 rcases h p hp hf with k | ⟨c, p', k, k1⟩
 ·left; rw [k]; rfl
 ·right; refine ⟨c, p', ?_, k1⟩; rw [k]; rfl
include hW in
theorem loop3_tot (hw : ∀ w ∈ W, w.length ≤ 1000000) {k : Nat} {p0 : Nat} {fu p : Nat} (hf : 3 ≤ fu) (hp : p ≤ W.length) :
  FareReaderone_v1.loop3 (rdr W p0) k fu 0 0 0 ((p : Nat) : Int) = some (.ret none) ∨ ∃ (j a b : Int) (p' : Nat), FareReaderone_v1.loop3 (rdr W p0) k fu 0 0 0 ((p : Nat) : Int) = some (.next (j, a, b, ((p' : Nat) : Int))) ∧ p ≤ p' ∧ p' ≤ W.length ∧
   (if 1 ≤ Farenumbers ((k : Nat) : Int) then Nu a else a = 0) ∧ (if 2 ≤ Farenumbers ((k : Nat) : Int) then Nu b else b = 0) ∧ wc W p + ((nums ((k : Nat) : Int) a b).flatMap fun n => 32 :: Lib.itoa n).length ≤ wc W p' := by
 obtain ⟨f, rfl⟩ : ∃ f, fu = f + 3 := ⟨fu - 3, by omega⟩
 unfold nums
 rw [FareReaderone_v1.loop3]
 rcases nn_cases ((k : Nat) : Int) with e | e | e
 ·rw [e]
  exact .inr ⟨0, 0, 0, p, by rw [if_neg (by decide)], Nat.le_refl _, hp, by simp, by simp, by simp⟩
 ·rw [e, if_pos (by decide), if_pos (show ((0 : Int) == 0) = true from rfl)]
  dsimp only [rdr]
  rcases number_tot hW hp hw with n1 | ⟨n, n1, n2, n3, n4⟩
  ·left; rw [n1]; rfl
  ·right
   rw [n1, Option.bind_some]
   dsimp only
   rw [FareReaderone_v1.loop3, e]
   exact ⟨w64 (0 + 1), n, 0, p + 1, by rw [if_neg (by decide)], by omega, n3, by simpa using n2, by simp, by simp; omega⟩
 ·rw [e, if_pos (by decide), if_pos (show ((0 : Int) == 0) = true from rfl)]
  dsimp only [rdr]
  rcases number_tot hW hp hw with n1 | ⟨n, n1, n2, n3, n4⟩
  ·left; rw [n1]; rfl
  ·rw [n1, Option.bind_some]
   dsimp only
   rw [FareReaderone_v1.loop3, e, if_pos (by decide), if_neg (show ¬ (w64 (0 + 1) == 0) = true by decide), if_pos (show (w64 (0 + 1) == 1) = true by decide)]
   rcases number_tot hW n3 hw with m1 | ⟨m, m1, m2, m3, m4⟩
   ·left; rw [m1]; rfl
   ·right
    rw [m1, Option.bind_some]
    dsimp only
    rw [FareReaderone_v1.loop3, e]
    exact ⟨w64 (w64 (0 + 1) + 1), n, m, p + 1 + 1, by rw [if_neg (by decide)], by omega, m3, by simpa using n2, by simpa using m2, by simp; omega⟩
theorem nm_get {j : Nat} {w : List UInt8} (h : nmL[j]? = some w) : w = nm ((j : Nat) : Int) ∧ j < 10 := by
 refine ⟨?_, (List.getElem?_eq_some_iff.1 h).1⟩
 unfold nm
 rw [Int.toNat_natCast, h]
 rfl
include hW in
theorem one_snd (hw : ∀ w ∈ W, w.length ≤ 1000000) : ∀ fu : Nat, Snd W uT fu (FareReaderone_v1 fu)
 | 0 => fun p hp hf => absurd hf (by omega)
 | fu + 1 => fun p hp hf => by
  have ih := one_snd hw fu
  rw [FareReaderone_v1, show str [40] = str [40] from rfl]
  rcases take_tot hW [40] hp with ⟨h, _⟩ | ⟨h, h1, h2, _⟩
  ·rw [h, Option.bind_some, if_neg (by simp)]
   dsimp only
   rcases word_tot hW hp with ⟨k, _⟩ | ⟨w, r, hd, k, k1, k2⟩
   ·left; rw [k]; rfl
   ·rw [k, Option.bind_some]
    dsimp only
    rw [bnd_eq, names_list]
    rcases names_run (y0 := rdr W p) (fu := fu) (self := FareReaderone_v1 fu) (w := w) (z := ((p + 1 : Nat) : Int)) nmL 0 0 0 0 [] ((p + 1 : Nat) : Int) with ⟨j, j1, j2⟩ | ⟨_, j2⟩
    ·rw [j2, Nat.zero_add, hitB]
     obtain ⟨e, hj⟩ := nm_get j1
     by_cases h9 : j = 9
     ·subst h9
      rw [if_pos (by decide)]
      rcases ih (p + 1) k1 (by omega) with m | ⟨c, p', m, m1, m2, m3, m4⟩
      ·left; rw [show FareReader.mk (rdr W p).words ((p + 1 : Nat) : Int) = rdr W (p + 1) from rfl, m]; rfl
      ·rw [show FareReader.mk (rdr W p).words ((p + 1 : Nat) : Int) = rdr W (p + 1) from rfl, m, Option.bind_some]
       dsimp only [Option.bind_some]
       obtain ⟨f, rfl⟩ : ∃ f, fu = f + 1 := ⟨fu - 1, by omega⟩
       rw [FareReaderone_v1.loop3, if_neg (by decide), Option.bind_some]
       right
       refine ⟨⟨9, 0, 0, [c]⟩, p', rfl, by omega, m2, .not m3, ?_⟩
       have : (uT ⟨9, 0, 0, [c]⟩).length = 4 + (uT c).length := by
        have : uT ⟨9, 0, 0, [c]⟩ = wNot ++ 32 :: uT c := by
         unfold uT
         rw [cT, if_pos rfl, ksT]
         simp [par]
        rw [this]; simp; omega
       have hl : w.length = 3 := by rw [e]; rfl
       omega
     ·rw [if_neg (by simp; omega), Option.bind_some]
      dsimp only
      rcases loop3_tot hW hw (k := j) (p0 := p) (fu := fu) (by omega) k1 with m | ⟨i, a, b, p', m, m1, m2, m3, m4, m5⟩
      ·left; rw [m]; rfl
      ·right
       rw [m, Option.bind_some]
       refine ⟨⟨((j : Nat) : Int), a, b, []⟩, p', rfl, by omega, m2, .leaf (by omega) m3 m4, ?_⟩
       have : uT ⟨((j : Nat) : Int), a, b, []⟩ = nm ((j : Nat) : Int) ++ (nums ((j : Nat) : Int) a b).flatMap fun n => 32 :: Lib.itoa n := by
        unfold uT par
        rw [if_neg (by simp; omega), cT, if_neg (by omega), if_neg (by omega), if_neg (by omega)]
       rw [this, List.length_append, ← e]
       omega
    ·left; rw [j2]; rfl
  ·rw [h, Option.bind_some, if_pos rfl]
   dsimp only
   rcases or_snd hW ih (p + 1) h1 (by omega) with m | ⟨c, p', m, m1, m2, m3, m4⟩
   ·left; rw [m]; rfl
   ·rw [m, Option.bind_some]
    dsimp only
    rcases must_tot hW [41] m2 with n | ⟨n, n1, n2⟩
    ·left; rw [show str [41] = str [41] from rfl, n]; rfl
    ·right
     rw [show str [41] = str [41] from rfl, n, Option.bind_some]
     refine ⟨c, p' + 1, rfl, by omega, n1, m3, ?_⟩
     have := (par_len 10 c.Kind (cT c)).2
     have : (uT c).length ≤ (cT c).length + 2 := this
     simp at h2 n2
     omega
end
abbrev prs (W : List (List UInt8)) (p : Nat) (b : Bool) : Fishref2Parser := ⟨(W.drop p).map str, b⟩
section
variable {W : List (List UInt8)} (hW : W.length ≤ 200000)
theorem next_hit {p : Nat} {w r} (h : W.drop p = w :: r) (b : Bool) : Fishref2Parsernext_v1 (prs W p b) = some (str w, (W.drop (p + 1)).map str, b) := by
 obtain ⟨_, hl, h1⟩ := drop_get h
 have h2 := congrArg List.length h
 rw [List.length_drop, List.length_cons] at h2
 rw [show prs W p b = ⟨(W.drop p).map str, b⟩ from rfl, h, List.map_cons]
 unfold Fishref2Parsernext_v1
 dsimp only
 rw [if_neg (by simp; omega), gx_zero]
 have : cutl (str w :: r.map str) 1 (((str w :: r.map str).length : Nat) : Int) = some (r.map str) := by
  rw [cutl_in (by omega) (by simp; omega) (by omega), Int.toNat_natCast, List.take_length]
  rfl
 rw [show (str w :: r.map str)[0]? = some (str w) from rfl, Option.bind_some, this, Option.bind_some, h1]
theorem next_end {p : Nat} (h : W.drop p = []) (b : Bool) : Fishref2Parsernext_v1 (prs W p b) = some (str [], [], true) := by
 rw [show prs W p b = ⟨(W.drop p).map str, b⟩ from rfl, h]
 rfl
theorem next_any (l : List ByteArray) (hl : l.length ≤ 9000000) (b : Bool) : ∃ w l', Fishref2Parsernext_v1 ⟨l, b⟩ = some (w, l', b || (l.length == 0)) ∧ l'.length ≤ l.length ∧ (w = str [] ∨ w ∈ l) ∧ ∀ x ∈ l', x ∈ l := by
 unfold Fishref2Parsernext_v1
 dsimp only
 cases l with
 | nil => exact ⟨str [], [], by simp, by simp, .inl rfl, by simp⟩
 | cons x r =>
  refine ⟨x, r, ?_, by simp, .inr (by simp), fun y hy => by simp [hy]⟩
  rw [if_neg (by simp; omega), gx_zero]
  have : cutl (x :: r) 1 (((x :: r).length : Nat) : Int) = some r := by
   rw [cutl_in (by omega) (by simp; omega) (by omega), Int.toNat_natCast, List.take_length]
   rfl
  rw [show (x :: r)[0]? = some x from rfl, Option.bind_some, this, Option.bind_some]
  simp
def Sim (W : List (List UInt8)) (fu : Nat) (E : FareReader → Option (Option (FareCond × Int))) (U : Fishref2Parser → Option (FareCond × (List ByteArray) × Bool)) : Prop :=
 ∀ p : Nat, p ≤ W.length → W.length + 5 ≤ fu + p → (E (rdr W p) = some none ∧ ∃ c l, U (prs W p false) = some (c, l, true) ∧ l.length ≤ W.length) ∨
  ∃ (c : FareCond) (p' : Nat), E (rdr W p) = some (some (c, ((p' : Nat) : Int))) ∧ p < p' ∧ p' ≤ W.length ∧ U (prs W p false) = some (c, (W.drop p').map str, false)
include hW in
theorem loop_sim {w : List UInt8} {fu : Nat} {E : FareReader → Option (Option (FareCond × Int))} {U : Fishref2Parser → Option (FareCond × (List ByteArray) × Bool)} (hE : Sim W fu E U)
  {F : Nat → List FareCond → Int → Option (Out (Option (FareCond × Int)) ((List FareCond) × Int))}
  (hF : ∀ n q p, F (n + 1) q p = ((FareReadertake_v1 (str w) (FareReader.mk (W.map str) p)).bind fun q86 => (if q86.1 then ((E (FareReader.mk (W.map str) q86.2)).bind fun q89 => match q89 with | none => some (.ret none) | some rr91 => ((apd q [rr91.1]).bind fun x104 => F n x104 rr91.2)) else some (.next (q, q86.2)))))
  {G : Nat → List FareCond → List ByteArray → Bool → Option ((List FareCond) × (List ByteArray) × Bool)}
  (hG : ∀ n q l b, G (n + 1) q l b = (((if !b then (if decide (((l.length : Nat) : Int) > 0) then ((gx l 0).bind fun x115 => some (seq x115 (str w))) else some false) else some false) : Option Bool).bind fun q111 => (if q111 then ((Fishref2Parsernext_v1 (Fishref2Parser.mk l b)).bind fun q126 => ((U (Fishref2Parser.mk q126.2.1 q126.2.2)).bind fun q133 => ((apd q [q133.1]).bind fun x148 => G n x148 q133.2.1 q133.2.2))) else some (q, l, b)))) :
  ∀ (n : Nat) (q : List FareCond) (p : Nat), p ≤ W.length → W.length + 5 ≤ fu + p → W.length + 1 ≤ n + p → 1 ≤ q.length → q.length + (W.length - p) ≤ 1000000 →
   (F n q ((p : Nat) : Int) = some (.ret none) ∧ ∃ q' l, G n q ((W.drop p).map str) false = some (q', l, true) ∧ l.length ≤ W.length ∧ 1 ≤ q'.length) ∨
   ∃ (q' : List FareCond) (p' : Nat), F n q ((p : Nat) : Int) = some (.next (q', ((p' : Nat) : Int))) ∧ p ≤ p' ∧ p' ≤ W.length ∧ G n q ((W.drop p).map str) false = some (q', (W.drop p').map str, false) ∧ 1 ≤ q'.length
 | 0, q, p, hp, _, hn, _, _ => absurd hn (by omega)
 | n + 1, q, p, hp, hf, hn, hq0, hq => by
  rw [hF, hG]
  rcases take_tot hW w hp with ⟨h, h0⟩ | ⟨h, h1, _, r, hd⟩
  ·right
   refine ⟨q, p, ?_, Nat.le_refl _, hp, ?_, hq0⟩
   ·rw [h, Option.bind_some, if_neg (by simp)]
   ·rw [if_pos (by decide)]
    rcases drop_cases W hp with ⟨_, e⟩ | ⟨x, r, e, _⟩
    ·rw [e]; rfl
    ·rw [e, List.map_cons, if_pos (by simp), gx_zero, show (str x :: r.map str)[0]? = some (str x) from rfl, Option.bind_some, seq_ne (fun k => h0 r (by rw [e, k])), Option.bind_some, if_neg (by decide)]
  ·have hg : gx ((W.drop p).map str) 0 = some (str w) := by rw [gx_zero, hd]; rfl
   have hpos : (((((W.drop p).map str).length : Nat) : Int) > 0) := by rw [hd]; simp
   rw [h, Option.bind_some, if_pos rfl, if_pos (by decide), if_pos (decide_eq_true hpos), hg, Option.bind_some, seq_self, Option.bind_some, if_pos rfl, show Fishref2Parser.mk ((W.drop p).map str) false = prs W p false from rfl, next_hit hd, Option.bind_some]
   dsimp only
   rcases hE (p + 1) h1 (by omega) with ⟨k, c, l, k1, k2⟩ | ⟨c, p', k, k1, k2, k3⟩
   ·left
    obtain ⟨m, rfl⟩ : ∃ m, n = m + 1 := ⟨n - 1, by omega⟩
    refine ⟨by rw [k]; rfl, q ++ [c], l, ?_, k2, by simp⟩
    rw [k1, Option.bind_some]
    dsimp only
    rw [apd_lt (by simp; omega), Option.bind_some, hG, if_neg (by decide), Option.bind_some, if_neg (by decide)]
   ·rw [k, Option.bind_some, k3, Option.bind_some]
    dsimp only
    rw [apd_lt (by simp; omega), Option.bind_some, Option.bind_some]
    rcases loop_sim hE hF hG n (q ++ [c]) p' k2 (by omega) (by omega) (by simp) (by simp; omega) with m | ⟨q', p2, m, m1, m2⟩
    ·exact .inl m
    ·exact .inr ⟨q', p2, m, by omega, m2⟩
include hW in
theorem list_sim {w : List UInt8} {kd : Int} {fu : Nat} {E E' : FareReader → Option (Option (FareCond × Int))} {U U' : Fishref2Parser → Option (FareCond × (List ByteArray) × Bool)} (hE : Sim W fu E U)
  {F : FareReader → Nat → List FareCond → Int → Option (Out (Option (FareCond × Int)) ((List FareCond) × Int))}
  (hF : ∀ y n q p, y.words = W.map str → F y (n + 1) q p = ((FareReadertake_v1 (str w) (FareReader.mk (W.map str) p)).bind fun q86 => (if q86.1 then ((E (FareReader.mk (W.map str) q86.2)).bind fun q89 => match q89 with | none => some (.ret none) | some rr91 => ((apd q [rr91.1]).bind fun x104 => F y n x104 rr91.2)) else some (.next (q, q86.2)))))
  (hE' : ∀ y, E' y = ((E y).bind fun q54 => match q54 with | none => some none | some rr56 => ((F y fu [rr56.1] rr56.2).bind fun q72 => match q72 with | .ret r => some r | .next (q77, q84) => (if (((q77.length : Nat) : Int) == 1) then ((gx q77 0).bind fun x111 => some (some (x111, q84))) else some (some ((FareCond.mk kd 0 0 q77), q84))))))
  {G : Nat → List FareCond → List ByteArray → Bool → Option ((List FareCond) × (List ByteArray) × Bool)}
  (hG : ∀ n q l b, G (n + 1) q l b = (((if !b then (if decide (((l.length : Nat) : Int) > 0) then ((gx l 0).bind fun x115 => some (seq x115 (str w))) else some false) else some false) : Option Bool).bind fun q111 => (if q111 then ((Fishref2Parsernext_v1 (Fishref2Parser.mk l b)).bind fun q126 => ((U (Fishref2Parser.mk q126.2.1 q126.2.2)).bind fun q133 => ((apd q [q133.1]).bind fun x148 => G n x148 q133.2.1 q133.2.2))) else some (q, l, b))))
  (hU' : ∀ y, U' y = ((U y).bind fun q68 => ((G fu [q68.1] q68.2.1 q68.2.2).bind fun q86 => match q86 with | (q91, q98, q105) => (if (((q91.length : Nat) : Int) == 1) then ((gx q91 0).bind fun x155 => some (x155, q98, q105)) else some ((FareCond.mk kd 0 0 q91), q98, q105))))) : Sim W fu E' U' := by
 intro p hp hf
 rw [hE', hU']
 rcases hE p hp hf with ⟨k, c, l, k1, k2⟩ | ⟨c, p', k, k1, k2, k3⟩
 ·left
  obtain ⟨m, hm⟩ : ∃ m, fu = m + 1 := ⟨fu - 1, by omega⟩
  have e : G fu [c] l true = some ([c], l, true) := by rw [hm, hG, if_neg (by decide), Option.bind_some, if_neg (by decide)]
  refine ⟨by rw [k]; rfl, c, l, ?_, k2⟩
  rw [k1, Option.bind_some]
  dsimp only
  rw [e]
  rfl
 ·rw [k, Option.bind_some, k3, Option.bind_some]
  dsimp only
  rcases loop_sim hW hE (fun n q p' => hF (rdr W p) n q p' rfl) hG fu [c] p' k2 (by omega) (by omega) (by simp) (by simp; omega) with ⟨m, q', l, m1, m2, m3⟩ | ⟨q', p2, m, m1, m2, m3, m4⟩
  ·left
   refine ⟨by rw [m]; rfl, ?_⟩
   rw [m1, Option.bind_some]
   dsimp only
   match q', m3 with
   | [x], _ => exact ⟨x, l, rfl, m2⟩
   | x :: y :: r, _ => exact ⟨⟨kd, 0, 0, x :: y :: r⟩, l, by rw [if_neg (by simp; omega)], m2⟩
  ·right
   rw [m, Option.bind_some, m3, Option.bind_some]
   dsimp only
   match q', m4 with
   | [x], _ => exact ⟨x, p2, rfl, by omega, m2, rfl⟩
   | x :: y :: r, _ => exact ⟨⟨kd, 0, 0, x :: y :: r⟩, p2, by rw [if_neg (by simp; omega)], by omega, m2, by rw [if_neg (by simp; omega)]⟩
include hW in
theorem and_sim {fu : Nat} {self : FareReader → Option (Option (FareCond × Int))} {u : Fishref2Parser → Option (FareCond × (List ByteArray) × Bool)} (hE : Sim W fu self u) : Sim W fu (FareReaderand_v3 fu self) (Fishref2Parserwhole_1_v2 fu u) := by
 have h := list_sim hW (kd := 10) (E' := FareReaderlist_v6 fu self 10 (str wAnd)) (F := fun y => FareReaderlist_v6.loop1 (str wAnd) y self) (U' := Fishref2Parserjoined_v4 fu u 10 (str wAnd)) (G := Fishref2Parserjoined_v4.loop1 (str wAnd) u) hE
  (fun y n q p hy => by rw [FareReaderlist_v6.loop1, hy]; rfl) (fun y => rfl) (fun n q l b => rfl) (fun y => rfl)
 intro p hp hf
 unfold FareReaderand_v3 Fishref2Parserwhole_1_v2
 rw [show (str [97, 110, 100]) = str wAnd from rfl]
 rcases h p hp hf with ⟨k, c, l, k1, k2⟩ | ⟨c, p', k, k1, k2, k3⟩
 ·exact .inl ⟨by rw [k]; rfl, c, l, by rw [k1]; rfl, k2⟩
 ·exact .inr ⟨c, p', by rw [k]; rfl, k1, k2, by rw [k3]; rfl⟩
include hW in
theorem or_sim {fu : Nat} {self : FareReader → Option (Option (FareCond × Int))} {u : Fishref2Parser → Option (FareCond × (List ByteArray) × Bool)} (hE : Sim W fu self u) : Sim W fu (FareReaderor_v3 fu self) (Fishref2Parserwhole_v2 fu u) := by
 have h := list_sim hW (kd := 11) (E' := FareReaderlist_v5 fu self 11 (str wOr)) (F := fun y => FareReaderlist_v5.loop1 (str wOr) y fu self) (U' := Fishref2Parserjoined_v3 fu u 11 (str wOr)) (G := Fishref2Parserjoined_v3.loop1 (str wOr) fu u) (and_sim hW hE)
  (fun y n q p hy => by rw [FareReaderlist_v5.loop1, hy]; rfl) (fun y => rfl) (fun n q l b => rfl) (fun y => rfl)
 intro p hp hf
 unfold FareReaderor_v3 Fishref2Parserwhole_v2
 rw [show (str [111, 114]) = str wOr from rfl]
 rcases h p hp hf with ⟨k, c, l, k1, k2⟩ | ⟨c, p', k, k1, k2, k3⟩
 ·exact .inl ⟨by rw [k]; rfl, c, l, by rw [k1]; rfl, k2⟩
 ·exact .inr ⟨c, p', by rw [k]; rfl, k1, k2, by rw [k3]; rfl⟩
theorem ixl_run (w : List UInt8) : ∀ (l : List (List UInt8)) (k : Nat), (∃ j, l[j]? = some w ∧ SlicesIndexLstring.loop1 (str w) (l.map str) k = .ret (((k + j : Nat)) : Int)) ∨ (w ∉ l ∧ SlicesIndexLstring.loop1 (str w) (l.map str) k = .next ())
 | [], k => .inr ⟨by simp, rfl⟩
 | x :: l, k => by
  rw [List.map_cons, SlicesIndexLstring.loop1]
  by_cases h : w = x
  ·subst h
   exact .inl ⟨0, rfl, by rw [if_pos (seq_self _)]; rfl⟩
  ·rw [if_neg (by rw [seq_ne h]; decide)]
   rcases ixl_run w l (k + 1) with ⟨j, h1, h2⟩ | ⟨h1, h2⟩
   ·exact .inl ⟨j + 1, by simpa using h1, by rw [h2]; congr 1; omega⟩
   ·exact .inr ⟨by simp [h, h1], h2⟩
theorem ixl_ok (w : List UInt8) (l : List (List UInt8)) : (∃ j, l[j]? = some w ∧ SlicesIndexLstring (l.map str) (str w) = ((j : Nat) : Int)) ∨ (w ∉ l ∧ SlicesIndexLstring (l.map str) (str w) = -1) := by
 unfold SlicesIndexLstring
 rcases ixl_run w l 0 with ⟨j, h1, h2⟩ | ⟨h1, h2⟩
 ·exact .inl ⟨j, h1, by rw [h2, bnd_eq]; simp⟩
 ·exact .inr ⟨h1, by rw [h2, bnd_eq]⟩
end
section
variable {W : List (List UInt8)} (hW : W.length ≤ 200000)
def nm9 : List (List UInt8) := nmL.take 9
abbrev ixN (w : ByteArray) : Int := SlicesIndexLstring [(str [97, 108, 119, 97, 121, 115]), (str [99, 97, 114, 100]), (str [97, 103, 101]), (str [116, 105, 109, 101]), (str [107, 109]), (str [99, 111, 117, 110, 116]), (str [116, 111, 117, 99, 104]), (str [98, 101, 103, 105, 110]), (str [102, 105, 110, 105, 115, 104])] w
theorem ixN_ok (w : List UInt8) : (∃ j, nm9[j]? = some w ∧ ixN (str w) = ((j : Nat) : Int)) ∨ (w ∉ nm9 ∧ ixN (str w) = -1) := ixl_ok w nm9
theorem nm_split {w : List UInt8} (h : w ∈ nmL) : w ∈ nm9 ∨ w = wNot := by
 have : ∀ w ∈ nmL, w ∈ nm9 ∨ w = wNot := by decide
 exact this w h
theorem nm9_sub {j : Nat} {w : List UInt8} (h : nm9[j]? = some w) : nmL[j]? = some w ∧ j < 9 := by
 have hl : j < 9 := (List.getElem?_eq_some_iff.1 h).1
 refine ⟨?_, hl⟩
 unfold nm9 at h
 rw [List.getElem?_take] at h
 rw [if_pos hl] at h
 exact h
theorem nmL_inj {i j : Nat} {w : List UInt8} (h : nmL[i]? = some w) (k : nmL[j]? = some w) : i = j := by
 have h1 := (List.getElem?_eq_some_iff.1 h).1
 have h2 := (List.getElem?_eq_some_iff.1 k).1
 have key : ∀ a b : Fin 10, nmL[a.val]? = nmL[b.val]? → a = b := by decide
 have := key ⟨i, h1⟩ ⟨j, h2⟩ (by rw [h, k])
 exact congrArg Fin.val this
theorem bad_or {b c : Bool} (h : (b || c) = true) : (if b = true then true else c) = true := by
 cases b
 ·exact h
 ·rfl
theorem plain_end : ∃ v, Fishref2plain (str []) = some (v, false) := by
 rcases num_tot [] (by simp) with ⟨_, h⟩ | ⟨n, _, _, e, hn⟩
 ·exact h
 ·exact absurd e.symm (itoa_ne hn.1.1)
theorem plain_any (w : ByteArray) (hw : w.size ≤ 1000000) : ∃ v b, Fishref2plain w = some (v, b) := by
 rcases num_tot w.data.toList (by rw [← ba_size]; exact hw) with ⟨_, v, h⟩ | ⟨n, _, h, _⟩
 ·rw [str_back] at h; exact ⟨v, false, h⟩
 ·rw [str_back] at h; exact ⟨n, true, h⟩
include hW in
theorem num_sim (hw : ∀ w ∈ W, w.length ≤ 1000000) {p : Nat} (hp : p ≤ W.length) :
  (FareReadernumber_v1 (rdr W p) = some none ∧ ∃ x l b v, Fishref2Parsernext_v1 (prs W p false) = some (x, l, b) ∧ Fishref2plain x = some v ∧ (b || !v.2) = true ∧ l.length ≤ W.length ∧ ∀ y ∈ l, y.size ≤ 1000000) ∨
  ∃ n x, FareReadernumber_v1 (rdr W p) = some (some (n, ((p + 1 : Nat) : Int))) ∧ Fishref2Parsernext_v1 (prs W p false) = some (x, (W.drop (p + 1)).map str, false) ∧ Fishref2plain x = some (n, true) ∧ p + 1 ≤ W.length := by
 unfold FareReadernumber_v1
 rcases word_tot hW hp with ⟨h, hd⟩ | ⟨w, r, hd, h, h1, _⟩
 ·left
  obtain ⟨v, hv⟩ := plain_end
  exact ⟨by rw [h]; rfl, str [], [], true, (v, false), next_end hd false, hv, rfl, by simp, by simp⟩
 ·rw [h, Option.bind_some]
  dsimp only
  have hwl := hw w (List.mem_of_getElem? (drop_get hd).1)
  rcases num_tot w hwl with ⟨k, v, hv⟩ | ⟨n, k, k2, _, _⟩
  ·left
   refine ⟨by rw [k]; rfl, str w, (W.drop (p + 1)).map str, false, (v, false), next_hit hd false, hv, rfl, by simp, ?_⟩
   intro y hy
   obtain ⟨z, hz, rfl⟩ := List.mem_map.1 hy
   rw [str_size]
   exact hw z (List.mem_of_mem_drop hz)
  ·right
   exact ⟨n, str w, by rw [k]; rfl, next_hit hd false, k2, h1⟩
theorem sz_mem {l : List ByteArray} {w : ByteArray} (h : w = str [] ∨ w ∈ l) (hl : ∀ y ∈ l, y.size ≤ 1000000) : w.size ≤ 1000000 := by
 rcases h with rfl | h
 ·decide
 ·exact hl w h
include hW in
theorem nums_sim (hw : ∀ w ∈ W, w.length ≤ 1000000) {q : ByteArray × (List ByteArray) × Bool} {k : Nat} (hk : ixN q.1 = ((k : Nat) : Int)) {p0 : Nat} {fu p : Nat} (hf : 3 ≤ fu) (hp : p ≤ W.length) :
  (FareReaderone_v1.loop3 (rdr W p0) k fu 0 0 0 ((p : Nat) : Int) = some (.ret none) ∧ ∃ j a b l, Fishref2Parserunit_v1.loop2 q fu 0 0 0 ((W.drop p).map str) false = some (j, a, b, l, true) ∧ l.length ≤ W.length) ∨
  ∃ (j a b : Int) (p' : Nat), FareReaderone_v1.loop3 (rdr W p0) k fu 0 0 0 ((p : Nat) : Int) = some (.next (j, a, b, ((p' : Nat) : Int))) ∧ p ≤ p' ∧ p' ≤ W.length ∧ Fishref2Parserunit_v1.loop2 q fu 0 0 0 ((W.drop p).map str) false = some (j, a, b, (W.drop p').map str, false) := by
 obtain ⟨f, rfl⟩ : ∃ f, fu = f + 3 := ⟨fu - 3, by omega⟩
 have hN : Fishref2numbersOf (ixN q.1) = Farenumbers ((k : Nat) : Int) := by rw [hk]; rfl
 have stop : ∀ (m : Nat) (j a b : Int) (l : List ByteArray) (bd : Bool), ¬ j < Farenumbers ((k : Nat) : Int) → Fishref2Parserunit_v1.loop2 q (m + 1) j a b l bd = some (j, a, b, l, bd) := fun m j a b l bd h => by
  rw [Fishref2Parserunit_v1.loop2]
  rw [show Fishref2numbersOf (SlicesIndexLstring [(str [97, 108, 119, 97, 121, 115]), (str [99, 97, 114, 100]), (str [97, 103, 101]), (str [116, 105, 109, 101]), (str [107, 109]), (str [99, 111, 117, 110, 116]), (str [116, 111, 117, 99, 104]), (str [98, 101, 103, 105, 110]), (str [102, 105, 110, 105, 115, 104])] q.1) = Farenumbers ((k : Nat) : Int) from hN, if_neg (by simpa using h)]
 have go : ∀ (m : Nat) (j a b : Int) (l : List ByteArray) (bd : Bool), j < Farenumbers ((k : Nat) : Int) → Fishref2Parserunit_v1.loop2 q (m + 1) j a b l bd = ((Fishref2Parsernext_v1 (Fishref2Parser.mk l bd)).bind fun q172 => ((Fishref2plain q172.1).bind fun q179 => (Fishref2Parserunit_v1.loop2 q m (w64 (j + 1)) (if (j == 0) then (q179.1, b) else (a, q179.1)).1 (if (j == 0) then (q179.1, b) else (a, q179.1)).2 q172.2.1 (if q172.2.2 then true else !q179.2)))) := fun m j a b l bd h => by
  rw [Fishref2Parserunit_v1.loop2]
  rw [show Fishref2numbersOf (SlicesIndexLstring [(str [97, 108, 119, 97, 121, 115]), (str [99, 97, 114, 100]), (str [97, 103, 101]), (str [116, 105, 109, 101]), (str [107, 109]), (str [99, 111, 117, 110, 116]), (str [116, 111, 117, 99, 104]), (str [98, 101, 103, 105, 110]), (str [102, 105, 110, 105, 115, 104])] q.1) = Farenumbers ((k : Nat) : Int) from hN, if_pos (decide_eq_true h)]
  rfl
 have w01 : w64 (0 + 1) = 1 := by decide
 have w12 : w64 (1 + 1) = 2 := by decide
 rw [FareReaderone_v1.loop3]
 rcases nn_cases ((k : Nat) : Int) with e | e | e
 ·right
  exact ⟨0, 0, 0, p, by rw [e, if_neg (by decide)], Nat.le_refl _, hp, stop (f + 2) _ _ _ _ _ (by rw [e]; decide)⟩
 ·rw [go (f + 2) _ _ _ _ _ (by rw [e]; decide)]
  rw [e, if_pos (by decide), if_pos (show ((0 : Int) == 0) = true from rfl)]
  dsimp only [rdr]
  rcases num_sim hW hw hp with ⟨n1, x, l, b, v, k1, k2, k3, k4, _⟩ | ⟨n, x, n1, k1, k2, k3⟩
  ·left
   refine ⟨by rw [n1]; rfl, ?_⟩
   rw [k1, Option.bind_some]
   dsimp only
   rw [k2, Option.bind_some, w01, stop (f + 1) _ _ _ _ _ (by rw [e]; decide)]
   exact ⟨_, _, _, l, by rw [bad_or k3], k4⟩
  ·right
   rw [n1, Option.bind_some]
   dsimp only
   rw [FareReaderone_v1.loop3, e, k1, Option.bind_some]
   dsimp only
   rw [k2, Option.bind_some, w01, stop (f + 1) _ _ _ _ _ (by rw [e]; decide)]
   exact ⟨1, n, 0, p + 1, by rw [if_neg (by decide)], by omega, k3, rfl⟩
 ·rw [go (f + 2) _ _ _ _ _ (by rw [e]; decide)]
  rw [e, if_pos (by decide), if_pos (show ((0 : Int) == 0) = true from rfl)]
  dsimp only [rdr]
  rcases num_sim hW hw hp with ⟨n1, x, l, b, v, k1, k2, k3, k4, k5⟩ | ⟨n, x, n1, k1, k2, k3⟩
  ·left
   refine ⟨by rw [n1]; rfl, ?_⟩
   rw [k1, Option.bind_some]
   dsimp only
   rw [k2, Option.bind_some, w01, bad_or k3, go (f + 1) _ _ _ _ _ (by rw [e]; decide)]
   obtain ⟨x2, l2, j1, j2, j3, _⟩ := next_any l (by omega) true
   obtain ⟨v2, b2, j4⟩ := plain_any x2 (sz_mem j3 k5)
   rw [j1, Option.bind_some]
   dsimp only
   rw [j4, Option.bind_some, w12, stop f _ _ _ _ _ (by rw [e]; decide)]
   exact ⟨_, _, _, l2, rfl, by omega⟩
  ·rw [n1, Option.bind_some]
   dsimp only
   rw [FareReaderone_v1.loop3, e, if_pos (by decide), if_neg (show ¬ (w64 (0 + 1) == 0) = true by decide), if_pos (show (w64 (0 + 1) == 1) = true by decide)]
   rw [k1, Option.bind_some]
   dsimp only
   rw [k2, Option.bind_some, w01, show (if false = true then true else !true) = false from rfl, go (f + 1) _ _ _ _ _ (by rw [e]; decide)]
   rcases num_sim hW hw k3 with ⟨m1, y, l, b, v, i1, i2, i3, i4, _⟩ | ⟨m, y, m1, i1, i2, i3⟩
   ·left
    refine ⟨by rw [m1]; rfl, ?_⟩
    rw [show Fishref2Parser.mk ((W.drop (p + 1)).map str) false = prs W (p + 1) false from rfl, i1, Option.bind_some]
    dsimp only
    rw [i2, Option.bind_some, w12, stop f _ _ _ _ _ (by rw [e]; decide)]
    exact ⟨_, _, _, l, by rw [bad_or i3], i4⟩
   ·right
    rw [m1, Option.bind_some]
    dsimp only
    rw [FareReaderone_v1.loop3, e, show Fishref2Parser.mk ((W.drop (p + 1)).map str) false = prs W (p + 1) false from rfl, i1, Option.bind_some]
    dsimp only
    rw [i2, Option.bind_some, w12, stop f _ _ _ _ _ (by rw [e]; decide)]
    exact ⟨2, n, m, p + 1 + 1, by rw [if_neg (by decide)], by omega, i3, rfl⟩
include hW in
theorem one_sim (hw : ∀ w ∈ W, w.length ≤ 1000000) : ∀ fu : Nat, Sim W fu (FareReaderone_v1 fu) (Fishref2Parserunit_v1 fu)
 | 0 => fun p hp hf => absurd hf (by omega)
 | fu + 1 => fun p hp hf => by
  have ih := one_sim hw fu
  rw [FareReaderone_v1, Fishref2Parserunit_v1]
  rcases take_tot hW [40] hp with ⟨h, h0⟩ | ⟨h, h1, _, r, hd⟩
  ·rw [show (str [40]) = str [40] from rfl, h, Option.bind_some, if_neg (by simp)]
   dsimp only
   rcases word_tot hW hp with ⟨k, hd⟩ | ⟨w, r, hd, k, k1, _⟩
   ·left
    refine ⟨by rw [k]; rfl, ⟨0, 0, 0, []⟩, [], ?_, by simp⟩
    rw [next_end hd, Option.bind_some]
    rfl
   ·rw [k, Option.bind_some]
    dsimp only
    rw [bnd_eq, names_list, next_hit hd, Option.bind_some]
    dsimp only
    rw [if_neg (by decide)]
    have n40 : seq (str w) (str [40]) = false := seq_ne (fun e => h0 r (by rw [hd, e]))
    by_cases c : w = wNot
    ·subst c
     rw [show (seq (str wNot) (str [110, 111, 116])) = true from rfl, if_pos rfl]
     rcases names_run (y0 := rdr W p) (fu := fu) (self := FareReaderone_v1 fu) (w := wNot) (z := ((p + 1 : Nat) : Int)) nmL 0 0 0 0 [] ((p + 1 : Nat) : Int) with ⟨j, j1, j2⟩ | ⟨j1, _⟩
     ·have hj : j = 9 := nmL_inj j1 (show nmL[9]? = some wNot from rfl)
      subst hj
      rw [j2, hitB, if_pos (by decide), show FareReader.mk (rdr W p).words ((p + 1 : Nat) : Int) = rdr W (p + 1) from rfl, show Fishref2Parser.mk ((W.drop (p + 1)).map str) false = prs W (p + 1) false from rfl]
      rcases ih (p + 1) k1 (by omega) with ⟨m, c, l, m1, m2⟩ | ⟨c, p', m, m1, m2, m3⟩
      ·left
       exact ⟨by rw [m]; rfl, ⟨9, 0, 0, [c]⟩, l, by rw [m1]; rfl, m2⟩
      ·right
       rw [m, m3, Option.bind_some]
       dsimp only [Option.bind_some]
       obtain ⟨f, rfl⟩ : ∃ f, fu = f + 1 := ⟨fu - 1, by omega⟩
       rw [FareReaderone_v1.loop3, if_neg (by decide), Option.bind_some]
       exact ⟨⟨9, 0, 0, [c]⟩, p', rfl, by omega, m2, rfl⟩
     ·exact absurd (by decide) j1
    ·rw [if_neg (by rw [show (seq (str w) (str [110, 111, 116])) = seq (str w) (str wNot) from rfl, seq_ne c]; decide), if_neg (by rw [n40]; decide)]
     rcases ixN_ok w with ⟨i, i1, i2⟩ | ⟨i1, i2⟩
     ·obtain ⟨i3, i4⟩ := nm9_sub i1
      rw [if_neg (by rw [show SlicesIndexLstring _ (str w) = _ from i2]; simp)]
      rcases names_run (y0 := rdr W p) (fu := fu) (self := FareReaderone_v1 fu) (w := w) (z := ((p + 1 : Nat) : Int)) nmL 0 0 0 0 [] ((p + 1 : Nat) : Int) with ⟨j, j1, j2⟩ | ⟨j1, _⟩
      ·have hj : j = i := nmL_inj j1 i3
       subst hj
       rw [j2, Nat.zero_add, hitB, if_neg (by simp; omega), Option.bind_some]
       dsimp only
       rcases nums_sim hW hw (q := (str w, (W.drop (p + 1)).map str, false)) (k := j) i2 (p0 := p) (fu := fu) (by omega) k1 with ⟨m, a, b, d, l, m1, m2⟩ | ⟨a, b, d, p', m, m1, m2, m3⟩
       ·left
        exact ⟨by rw [m]; rfl, ⟨ixN (str w), b, d, []⟩, l, by rw [m1]; rfl, m2⟩
       ·right
        rw [m, m3, Option.bind_some, Option.bind_some]
        refine ⟨⟨((j : Nat) : Int), b, d, []⟩, p', rfl, by omega, m2, ?_⟩
        rw [show SlicesIndexLstring _ (str w) = _ from i2]
        rfl
      ·exact absurd (List.mem_of_getElem? i3) j1
     ·rw [if_pos (by rw [show SlicesIndexLstring _ (str w) = _ from i2]; decide)]
      left
      rcases names_run (y0 := rdr W p) (fu := fu) (self := FareReaderone_v1 fu) (w := w) (z := ((p + 1 : Nat) : Int)) nmL 0 0 0 0 [] ((p + 1 : Nat) : Int) with ⟨j, j1, _⟩ | ⟨_, j2⟩
      ·rcases nm_split (List.mem_of_getElem? j1) with e | e
       ·exact absurd e i1
       ·exact absurd e c
      ·exact ⟨by rw [j2]; rfl, ⟨0, 0, 0, []⟩, (W.drop (p + 1)).map str, rfl, by simp⟩
  ·rw [show (str [40]) = str [40] from rfl, h, Option.bind_some, if_pos rfl, next_hit hd, Option.bind_some]
   dsimp only
   rw [if_neg (by decide), if_neg (show ¬ (seq (str [40]) (str [110, 111, 116])) = true by decide), if_pos (seq_self _), show Fishref2Parser.mk ((W.drop (p + 1)).map str) false = prs W (p + 1) false from rfl]
   rcases or_sim hW ih (p + 1) h1 (by omega) with ⟨m, c, l, m1, m2⟩ | ⟨c, p', m, m1, m2, m3⟩
   ·left
    refine ⟨by rw [m]; rfl, c, ?_⟩
    rw [m1, Option.bind_some]
    dsimp only
    obtain ⟨x2, l2, j1, j2, _, _⟩ := next_any l (by omega) true
    rw [j1, Option.bind_some]
    refine ⟨l2, ?_, by omega⟩
    by_cases e : (!(seq x2 (str [41]))) = true
    ·simp [e]
    ·simp [e]
   ·rw [m, Option.bind_some, m3, Option.bind_some]
    dsimp only
    rcases take_tot hW [41] m2 with ⟨t1, t2⟩ | ⟨t1, t2, _, r2, hd2⟩
    ·left
     have t3 : FareReadermust_v1 (str [41]) (rdr W p') = some none := must_miss m2 t2
     refine ⟨by rw [show FareReader.mk (rdr W p).words ((p' : Nat) : Int) = rdr W p' from rfl, t3]; rfl, c, ?_⟩
     rw [show Fishref2Parser.mk ((W.drop p').map str) false = prs W p' false from rfl]
     rcases drop_cases W m2 with ⟨_, e⟩ | ⟨x, r2, e, _⟩
     ·rw [next_end e, Option.bind_some]
      exact ⟨[], rfl, by simp⟩
     ·rw [next_hit e, Option.bind_some]
      dsimp only
      rw [show seq (str x) (str [41]) = false from seq_ne (fun k => t2 r2 (by rw [e, k]))]
      exact ⟨(W.drop (p' + 1)).map str, rfl, by simp⟩
    ·right
     refine ⟨c, p' + 1, ?_, by omega, t2, ?_⟩
     ·rw [show FareReader.mk (rdr W p).words ((p' : Nat) : Int) = rdr W p' from rfl, must_hit hW hd2]; rfl
     ·rw [show Fishref2Parser.mk ((W.drop p').map str) false = prs W p' false from rfl, next_hit hd2, Option.bind_some]
      dsimp only
      rw [show seq (str [41]) (str [41]) = true from rfl]
      rfl
end
theorem wc_le : ∀ (W : List (List UInt8)) (p : Nat), wc W p ≤ (W.map fun w => w.length + 1).sum
 | [], p => by simp [wc]
 | w :: W, 0 => by simp [wc]
 | w :: W, p + 1 => by
  have := wc_le W p
  unfold wc at this ⊢
  rw [List.take_succ_cons, List.map_cons, List.sum_cons, List.map_cons, List.sum_cons]
  omega
theorem tk_wsum (w : List UInt8) : ((tk w).map fun w => w.length + 1).sum ≤ 2 * (w.length + 1) := by
 have h1 := tkL_len w
 have h2 := tkR_len (tkL w).2.reverse
 rw [List.length_reverse] at h2
 have h3 : ∀ v : List UInt8, ((tkL v).1.map fun w => w.length + 1).sum = 2 * (tkL v).1.length := fun v => by
  induction v with
  | nil => rfl
  | cons c t ih =>
   rw [tkL]
   split
   ·simp only [List.map_cons, List.sum_cons, ih, List.length_cons, List.length_nil]; omega
   ·rfl
 have h4 : ∀ n : Nat, ((List.replicate n ([41] : List UInt8)).map fun w => w.length + 1).sum = 2 * n := fun n => by
  induction n with
  | zero => rfl
  | succ n ih => rw [List.replicate_succ, List.map_cons, List.sum_cons, ih]; simp; omega
 unfold tk
 rw [List.map_append, List.sum_append, List.map_cons, List.sum_cons, h3, h4]
 rw [List.length_reverse]
 omega
theorem tks_bounds (x : List UInt8) : (tks x).length ≤ x.length + 1 ∧ ((tks x).map fun w => w.length + 1).sum ≤ 2 * (x.length + 1) := by
 have h3 := jn_len 32 (sp x) (sp_ne x)
 rw [(sp_jn x).1] at h3
 have key : ∀ P : List (List UInt8), (P.flatMap tk).length ≤ (P.map fun p => p.length + 1).sum ∧ ((P.flatMap tk).map fun w => w.length + 1).sum ≤ 2 * (P.map fun p => p.length + 1).sum := by
  intro P
  induction P with
  | nil => simp
  | cons p P ih =>
   have a := tk_len p
   have b := tk_wsum p
   rw [List.flatMap_cons, List.map_cons, List.sum_cons, List.length_append, List.map_append, List.sum_append]
   omega
 have := key (sp x)
 rw [← h3] at this
 exact this
theorem mem_wsum {W : List (List UInt8)} {w : List UInt8} (h : w ∈ W) : w.length ≤ (W.map fun w => w.length + 1).sum := by
 have := mem_sum h; omega
theorem c_eta (c : FareCond) : FareCond.mk c.Kind c.A c.B c.Kids = c := by cases c; rfl
theorem condOf_S {x : List UInt8} (hz : x.length ≤ 70000) {fu : Nat} (hf : 1000010 ≤ fu) : ∃ c b, Fishref2condOf fu (str x) = some (c, b) ∧ (b = true → Good c ∧ x = cT c) := by
 obtain ⟨b1, b2⟩ := tks_bounds x
 have hW : (tks x).length ≤ 200000 := by omega
 have hw : ∀ w ∈ tks x, w.length ≤ 1000000 := fun w h => by have := mem_wsum h; omega
 unfold Fishref2condOf
 rw [tokens_eq hz (by omega), Option.bind_some, show Fishref2Parser.mk ((tks x).map str) false = prs (tks x) 0 false from rfl]
 rcases or_sim hW (one_sim hW hw fu) 0 (by omega) (by omega) with ⟨m, c, l, m1, m2⟩ | ⟨c, p', m, m1, m2, m3⟩
 ·rw [m1]
  refine ⟨c, false, ?_, nofun⟩
  rw [Option.bind_some]
  dsimp only
  rw [if_neg (by decide), Option.bind_some]
  dsimp only
  rw [c_eta]
 ·rw [m3, Option.bind_some]
  dsimp only
  rw [if_pos (by decide)]
  rcases or_snd hW (one_snd hW hw fu) 0 (by omega) (by omega) with k | ⟨c2, p2, k, k1, k2, k3, k4⟩
  ·rw [m] at k; cases k
  ·rw [m] at k
   injection k with k
   injection k with k
   injection k with e1 e2
   subst e1
   by_cases hl : ((((((tks x).drop p').map str).length : Nat) : Int) == 0) = true
   ·have hc : (cT c).length ≤ 200000 := by have := wc_le (tks x) p2; omega
    rw [if_pos hl, (c_text k3 fu (by omega) (by omega)).2]
    refine ⟨c, seq (str (cT c)) (str x), by rw [Option.bind_some, Option.bind_some, c_eta], fun hs => ⟨k3, ?_⟩⟩
    exact ((seq_iff _ _).1 hs).symm
   ·rw [if_neg hl]
    exact ⟨c, false, by rw [Option.bind_some, c_eta], nofun⟩
theorem condOf_C {c : FareCond} (h : Good c) (hz : (cT c).length ≤ 70000) {fu : Nat} (hf : 1000010 ≤ fu) : Fishref2condOf fu (str (cT c)) = some (c, true) := by
 obtain ⟨b1, b2⟩ := tks_bounds (cT c)
 have ht := tokR_c h
 rw [ht] at b1 b2
 have hW : (cW c).length ≤ 200000 := by omega
 have hw : ∀ w ∈ cW c, w.length ≤ 1000000 := fun w h => by have := mem_wsum h; omega
 have e0 := or_reads hW (one_reads hW fu) c 0 [] h (by omega) (by simp) (fun w r e => by cases e) (by omega)
 unfold Fishref2condOf
 rw [tokens_eq hz (by omega), Option.bind_some, ht, show Fishref2Parser.mk ((cW c).map str) false = prs (cW c) 0 false from rfl]
 rcases or_sim hW (one_sim hW hw fu) 0 (by omega) (by omega) with ⟨m, _⟩ | ⟨c2, p', m, m1, m2, m3⟩
 ·rw [e0] at m; cases m
 ·rw [e0] at m
  injection m with m
  injection m with m
  injection m with e1 e2
  subst e1
  have hp : (cW c).drop p' = [] := List.drop_of_length_le (by omega)
  rw [m3, Option.bind_some]
  dsimp only
  rw [if_pos (by decide), hp, if_pos (by decide), (c_text h fu (by omega) (by omega)).2, Option.bind_some, seq_self, Option.bind_some, c_eta]
abbrev sCol : List UInt8 := [32, 58, 32]
theorem cut_S (x : List UInt8) : (∃ a b, Lib.cut x sCol = (a, b, true) ∧ x = a ++ sCol ++ b) ∨ ∃ a b, Lib.cut x sCol = (a, b, false) := by
 unfold Lib.cut
 rcases Lib.index_spec x sCol with ⟨h, _⟩ | ⟨i, h, hi, ho, _⟩
 ·right
  rw [h, if_neg (by decide)]
  exact ⟨_, _, rfl⟩
 ·left
  rw [h, if_pos (by omega)]
  refine ⟨_, _, rfl, ?_⟩
  unfold Lib.occAt at ho
  obtain ⟨t, ht⟩ := List.isPrefixOf_iff_prefix.1 ho
  rw [Int.toNat_natCast]
  have h2 : x.drop (i + sCol.length) = t := by rw [← List.drop_drop, ← ht]; simp
  rw [h2, List.append_assoc, ht, List.take_append_drop]
theorem cut_C {a : List UInt8} (b : List UInt8) (h : (58 : UInt8) ∉ a) : Lib.cut (a ++ sCol ++ b) sCol = (a, b, true) := by
 have hi : Lib.index (a ++ sCol ++ b) sCol = ((a.length : Nat) : Int) := by
  refine Lib.index_first (by simp) ?_ ?_
  ·unfold Lib.occAt
   rw [List.append_assoc, List.drop_left]
   exact List.isPrefixOf_iff_prefix.2 ⟨b, rfl⟩
  ·intro j hj
   unfold Lib.occAt
   rw [Bool.eq_false_iff]
   intro ho
   obtain ⟨t, ht⟩ := List.isPrefixOf_iff_prefix.1 ho
   have h1 : ((a ++ sCol ++ b).drop j)[1]? = some 58 := by rw [← ht]; rfl
   rw [List.getElem?_drop, List.append_assoc] at h1
   rcases Nat.lt_or_ge (j + 1) a.length with k | k
   ·rw [List.getElem?_append_left k] at h1
    exact h (List.mem_of_getElem? h1)
   ·have e : j + 1 = a.length := by omega
    rw [List.getElem?_append_right k, e, Nat.sub_self] at h1
    injection h1 with h1
    cases h1
 unfold Lib.cut
 rw [hi, if_pos (by omega), Int.toNat_natCast]
 have h1 : (a ++ sCol ++ b).take a.length = a := by rw [List.append_assoc, List.take_left]
 have h2 : (a ++ sCol ++ b).drop (a.length + sCol.length) = b := by
  rw [← List.length_append, List.drop_left]
 rw [h1, h2]
theorem cutq_str {x a b : List UInt8} {t : Bool} (hz : x.length ≤ 1000000) (h : Lib.cut x sCol = (a, b, t)) : cutq (str x) (str [32, 58, 32]) = some (str a, str b, t) := by
 unfold cutq
 rw [if_pos (by rw [str_size]; omega), str_list, str_list, h]
theorem plain_nu {n : Int} (h : Nu n) : Fishref2plain (str (Lib.itoa n)) = some (n, true) := by
 have hl := itoa_len h
 rcases num_tot (Lib.itoa n) (by omega) with ⟨k, _⟩ | ⟨m, k, k2, _⟩
 ·rw [h.2] at k; cases k
 ·rw [h.2] at k
  injection k with k
  injection k with k
  subst k; exact k2
theorem splitq_sp (x : List UInt8) (hz : x.length ≤ 1000000) : splitq (str x) (str [32]) = some ((sp x).map str) :=
 splitq_jn 32 (sp x) _ (sp_ne x) (sp_jn x).2 (sp_jn x).1.symm (by rw [str_size]; omega)
theorem dd_get {j : Nat} {w : List UInt8} (h : ddL[j]? = some w) : w = dd ((j : Nat) : Int) ∧ j ≤ 6 := by
 refine ⟨?_, ?_⟩
 ·unfold dd
  rw [Int.toNat_natCast, h]
  rfl
 ·have : j < 7 := (List.getElem?_eq_some_iff.1 h).1
  omega
theorem dd_idx {k : Int} (h : 1 ≤ k ∧ k ≤ 6) : SlicesIndexLstring (ddL.map str) (str (dd k)) = k := by
 rcases dd_cases h with rfl | rfl | rfl | rfl | rfl | rfl <;> rfl
abbrev ixD (w : ByteArray) : Int := SlicesIndexLstring [(str []), (str [112, 101, 114, 99, 101, 110, 116]), (str [109, 105, 110, 117, 115]), (str [112, 108, 117, 115]), (str [102, 105, 120]), (str [97, 116, 109, 111, 115, 116]), (str [97, 116, 108, 101, 97, 115, 116])] w
theorem ixD_ok (w : List UInt8) : ixD (str w) > 0 → (1 ≤ ixD (str w) ∧ ixD (str w) ≤ 6) ∧ w = dd (ixD (str w)) := by
 intro h
 rcases ixl_ok w ddL with ⟨j, h1, h2⟩ | ⟨h1, h2⟩
 ·obtain ⟨h3, h4⟩ := dd_get h1
  have e : ixD (str w) = ((j : Nat) : Int) := h2
  rw [e] at h ⊢
  exact ⟨by omega, h3⟩
 ·have e : ixD (str w) = -1 := h2
  omega
theorem ruleOf_S {x : List UInt8} (hz : x.length ≤ 70000) {fu : Nat} (hf : 1000010 ≤ fu) : ∃ r b, Fishref2ruleOf fu (str x) = some (r, b) ∧ (b = true → GoodR r ∧ x = rT r) := by
 unfold Fishref2ruleOf
 rcases cut_S x with ⟨a, b, h, hx⟩ | ⟨a, b, h⟩
 ·have hl : x.length = a.length + 3 + b.length := by rw [hx]; simp; omega
  obtain ⟨c, bc, hc, hg⟩ := condOf_S (x := a) (by omega) hf
  rw [cutq_str (by omega) h, Option.bind_some]
  dsimp only
  rw [if_neg (by decide), hc, Option.bind_some, splitq_sp b (by omega), Option.bind_some]
  dsimp only
  cases bc with
  | false => exact ⟨_, false, rfl, nofun⟩
  | true =>
   obtain ⟨hg1, hg2⟩ := hg rfl
   rw [if_neg (by decide)]
   have hj := (sp_jn b).1
   have key : ∀ (d w : List UInt8) (st : Bool) (v : Int × Bool), (v.2 = true → w = Lib.itoa v.1 ∧ Nu v.1) → b = d ++ 32 :: (w ++ stT st) →
     ∃ r b, (bnd ((if v.2 then (decide (ixD (str d) > 0), c.Kind, c.A, c.B, c.Kids, ixD (str d), v.1, st) else (false, c.Kind, c.A, c.B, c.Kids, ixD (str d), v.1, st)) : Bool × Int × Int × Int × (List FareCond) × Int × Int × Bool) fun q121 => match q121 with | (q124, q125, q126, q127, q128, q132, q133, q134) => some ((FareRule.mk (FareCond.mk q125 q126 q127 q128) q132 q133 q134), q124)) = some (r, b) ∧ (b = true → GoodR r ∧ x = rT r) := by
    intro d w st v hv hb
    rw [bnd_eq]
    cases hv2 : v.2 with
    | false => exact ⟨_, false, rfl, nofun⟩
    | true =>
     obtain ⟨hv3, hv4⟩ := hv hv2
     rw [if_pos rfl]
     refine ⟨_, _, rfl, fun hd => ?_⟩
     obtain ⟨h1, h2⟩ := ixD_ok d (of_decide_eq_true hd)
     rw [c_eta]
     refine ⟨⟨hg1, h1, hv4⟩, ?_⟩
     unfold rT
     dsimp only
     rw [← hg2, ← h2, ← hv3, hx, hb]
     simp
   have pl : ∀ w : List UInt8, w.length ≤ 70000 → ∃ v : Int × Bool, Fishref2plain (str w) = some v ∧ (v.2 = true → w = Lib.itoa v.1 ∧ Nu v.1) := by
    intro w hw
    rcases num_tot w (by omega) with ⟨_, v, k⟩ | ⟨n, _, k, e, hn⟩
    ·exact ⟨(v, false), k, nofun⟩
    ·exact ⟨(n, true), k, fun _ => ⟨e, hn⟩⟩
   match hs : sp b with
   | [] => exact absurd hs (sp_ne b)
   | [d] => exact ⟨_, false, rfl, nofun⟩
   | [d, w] =>
    rw [hs] at hj
    have hb : b = d ++ 32 :: (w ++ stT false) := by rw [← hj]; simp [jn, stT]
    have hw : w.length ≤ 70000 := by have := congrArg List.length hb; simp at this; omega
    obtain ⟨v, hv1, hv2⟩ := pl w hw
    rw [if_neg (by simp), if_neg (by simp), if_neg (by simp), Option.bind_some, if_neg (by decide), show gx ([d, w].map str) 0 = some (str d) from rfl, Option.bind_some, show gx ([d, w].map str) 1 = some (str w) from rfl, Option.bind_some, hv1, Option.bind_some]
    exact key d w false v hv2 hb
   | [d, w, s] =>
    rw [hs] at hj
    rw [if_neg (by simp), if_neg (by simp), if_pos (by simp), show gx ([d, w, s].map str) 2 = some (str s) from rfl, Option.bind_some, Option.bind_some]
    by_cases c2 : s = wStop
    ·subst c2
     have hb : b = d ++ 32 :: (w ++ stT true) := by rw [← hj]; simp [jn, stT]
     have hw : w.length ≤ 70000 := by have := congrArg List.length hb; simp at this; omega
     obtain ⟨v, hv1, hv2⟩ := pl w hw
     rw [if_neg (by rw [show (str [115, 116, 111, 112]) = str wStop from rfl, seq_self]; decide), show gx ([d, w, wStop].map str) 0 = some (str d) from rfl, Option.bind_some, show gx ([d, w, wStop].map str) 1 = some (str w) from rfl, Option.bind_some, hv1, Option.bind_some]
     exact key d w true v hv2 hb
    ·rw [if_pos (by rw [show seq (str s) (str [115, 116, 111, 112]) = false from seq_ne c2]; rfl)]
     exact ⟨_, false, rfl, nofun⟩
   | d :: w :: s :: t :: r =>
    rw [if_neg (by simp; omega), if_pos (by simp; omega), Option.bind_some, if_pos rfl]
    exact ⟨_, false, rfl, nofun⟩
 ·rw [cutq_str (by omega) h, Option.bind_some]
  exact ⟨_, false, rfl, nofun⟩
theorem okc_58 {x : UInt8} (h : okc x) : x ≠ 58 := by
 rintro rfl
 revert h
 unfold okc
 decide
theorem ruleOf_C {r : FareRule} (h : GoodR r) (hz : (rT r).length ≤ 70000) {fu : Nat} (hf : 1000010 ≤ fu) : Fishref2ruleOf fu (str (rT r)) = some (r, true) := by
 obtain ⟨h1, h2, h3⟩ := h
 have e : rT r = cT r.If ++ sCol ++ (dd r.Do ++ 32 :: (Lib.itoa r.N ++ stT r.Stop)) := by unfold rT; simp
 have hl := rT_len r
 have hl2 : (rT r).length = (cT r.If).length + 3 + (dd r.Do ++ 32 :: (Lib.itoa r.N ++ stT r.Stop)).length := by rw [e]; simp; omega
 have hcut : Lib.cut (rT r) sCol = (cT r.If, dd r.Do ++ 32 :: (Lib.itoa r.N ++ stT r.Stop), true) := by rw [e]; exact cut_C _ (fun m => okc_58 (okc_c h1 58 m) rfl)
 unfold Fishref2ruleOf
 rw [cutq_str (by omega) hcut, Option.bind_some]
 dsimp only
 rw [if_neg (by decide), condOf_C h1 (by omega) hf, Option.bind_some, splitq_sp _ (by omega), Option.bind_some]
 dsimp only
 rw [if_neg (by decide)]
 have s1 : sp (dd r.Do) = [dd r.Do] := sp_word _ (fun m => ((dd_okw h2).2 32 m).ne.1 rfl)
 have s2 : sp (Lib.itoa r.N) = [Lib.itoa r.N] := sp_word _ (fun m => (itoa_okw h3.1.1 32 m).ne.1 rfl)
 have hix : ixD (str (dd r.Do)) = r.Do := dd_idx h2
 have hpos : decide (r.Do > 0) = true := decide_eq_true (by omega)
 obtain ⟨f, d, n, st⟩ := r
 dsimp only at *
 cases st with
 | false =>
  have hs : sp (dd d ++ 32 :: (Lib.itoa n ++ stT false)) = [dd d, Lib.itoa n] := by
   rw [show Lib.itoa n ++ stT false = Lib.itoa n by simp [stT], sp_sp, s1, s2]; rfl
  rw [hs, if_neg (by simp), if_neg (by simp), if_neg (by simp), Option.bind_some, if_neg (by decide), show gx ([dd d, Lib.itoa n].map str) 0 = some (str (dd d)) from rfl, Option.bind_some, show gx ([dd d, Lib.itoa n].map str) 1 = some (str (Lib.itoa n)) from rfl, Option.bind_some, plain_nu h3, Option.bind_some, bnd_eq, if_pos rfl]
  rw [show SlicesIndexLstring _ (str (dd d)) = d from hix]
  dsimp only
  rw [c_eta, hpos]
  rfl
 | true =>
  have hs : sp (dd d ++ 32 :: (Lib.itoa n ++ stT true)) = [dd d, Lib.itoa n, wStop] := by
   rw [show Lib.itoa n ++ stT true = Lib.itoa n ++ 32 :: wStop by simp [stT], sp_sp, sp_sp, s1, s2]; rfl
  rw [hs, if_neg (by simp), if_neg (by simp), if_pos (by simp), show gx ([dd d, Lib.itoa n, wStop].map str) 2 = some (str wStop) from rfl, Option.bind_some, Option.bind_some, if_neg (by rw [show (str [115, 116, 111, 112]) = str wStop from rfl, seq_self]; decide), show gx ([dd d, Lib.itoa n, wStop].map str) 0 = some (str (dd d)) from rfl, Option.bind_some, show gx ([dd d, Lib.itoa n, wStop].map str) 1 = some (str (Lib.itoa n)) from rfl, Option.bind_some, plain_nu h3, Option.bind_some, bnd_eq, if_pos rfl]
  rw [show SlicesIndexLstring _ (str (dd d)) = d from hix]
  dsimp only
  rw [c_eta, hpos]
  rfl
def ln : List UInt8 → List (List UInt8)
 | [] => [[]]
 | c :: t => if c = 10 then [] :: ln t else match ln t with | [] => [[c]] | p :: r => (c :: p) :: r
theorem ln_ne : ∀ t, ln t ≠ []
 | [] => by simp [ln]
 | c :: t => by
  rw [ln]
  split
  ·simp
  ·split <;> simp
theorem ln_jn : ∀ t, jn 10 (ln t) = t ∧ ∀ p ∈ ln t, (10 : UInt8) ∉ p
 | [] => by simp [ln, jn]
 | c :: t => by
  obtain ⟨h1, h2⟩ := ln_jn t
  have h0 := ln_ne t
  rw [ln]
  split
  ·rename_i hc
   subst hc
   cases hs : ln t with
   | nil => exact absurd hs h0
   | cons p r =>
    rw [hs] at h1 h2
    refine ⟨by rw [jn, h1]; rfl, ?_⟩
    intro q hq
    rcases List.mem_cons.1 hq with rfl | hq
    ·simp
    ·exact h2 q hq
  ·rename_i hc
   cases hs : ln t with
   | nil => exact absurd hs h0
   | cons p r =>
    rw [hs] at h1 h2
    dsimp only
    refine ⟨?_, ?_⟩
    ·cases r with
     | nil => rw [jn] at h1 ⊢; rw [h1]
     | cons q r => rw [jn] at h1 ⊢; rw [← h1]; rfl
    ·intro q hq
     rcases List.mem_cons.1 hq with rfl | hq
     ·intro hm
      rcases List.mem_cons.1 hm with e | hm
      ·exact hc e.symm
      ·exact h2 p (by simp) hm
     ·exact h2 q (by simp [hq])
theorem splitq_ln (x : List UInt8) (hz : x.length ≤ 1000000) : splitq (str x) (str [10]) = some ((ln x).map str) :=
 splitq_jn 10 (ln x) _ (ln_ne x) (ln_jn x).2 (ln_jn x).1.symm (by rw [str_size]; omega)
theorem cuts_S (x : List UInt8) (hz : x.length ≤ 1000000) : (∃ b, x = b ++ [10]) ∨ cutsq (str x) (str [10]) = some (str x, false) := by
 cases h : Lib.hasSuffix x [10] with
 | true =>
  left
  obtain ⟨b, hb⟩ := List.isSuffixOf_iff_suffix.1 h
  exact ⟨b, hb.symm⟩
 | false =>
  right
  unfold cutsq
  rw [if_pos (by rw [str_size]; omega)]
  have e : Lib.trimSuffix x [10] = x := by unfold Lib.trimSuffix; rw [if_neg (by rw [h]; decide)]
  rw [str_list, str_list, e, h]
theorem cutl_tail (x : ByteArray) (r : List ByteArray) (h : r.length ≤ 9000000) : cutl (x :: r) 1 (((x :: r).length : Nat) : Int) = some r := by
 rw [cutl_in (by omega) (by simp; omega) (by omega), Int.toNat_natCast, List.take_length]
 rfl
theorem hasp_S {p x : List UInt8} (h : haspq (str x) (str p) = true) : ∃ u, x = p ++ u := by
 obtain ⟨u, hu⟩ := List.isPrefixOf_iff_prefix.1 h
 exact ⟨u, hu.symm⟩
theorem plain_S (w : List UInt8) (hw : w.length ≤ 1000000) : ∃ v : Int × Bool, Fishref2plain (str w) = some v ∧ (v.2 = true → w = Lib.itoa v.1 ∧ Nu v.1) := by
 rcases num_tot w hw with ⟨_, v, k⟩ | ⟨n, _, k, e, hn⟩
 ·exact ⟨(v, false), k, nofun⟩
 ·exact ⟨(n, true), k, fun _ => ⟨e, hn⟩⟩
theorem tl1_S {f : Bool} {B : List FareBand} {R : Int} {S : List FareRule} : ∀ (L : List (List UInt8)) (n : Nat) (q : List FareBand), (∀ l ∈ L, l.length ≤ 70000) → L.length + 1 ≤ n → q.length + L.length ≤ 1000000 →
  (∃ t, Fishref2tariffOf.loop1 n (L.map str) f B R S q = some (.ret (t, false))) ∨ ∃ bs L', Fishref2tariffOf.loop1 n (L.map str) f B R S q = some (.next (L'.map str, f, B, R, S, q ++ bs)) ∧ L = bs.map bT ++ L' ∧ ∀ b ∈ bs, GoodB b
 | [], n, q, _, hn, _ => by
  obtain ⟨m, rfl⟩ : ∃ m, n = m + 1 := ⟨n - 1, by simp at hn; omega⟩
  right
  refine ⟨[], [], ?_, rfl, by simp⟩
  rw [Fishref2tariffOf.loop1, if_neg (by simp), Option.bind_some, if_neg (by decide)]
  simp
 | x :: L, n, q, hl, hn, hq => by
  obtain ⟨m, rfl⟩ : ∃ m, n = m + 1 := ⟨n - 1, by simp at hn; omega⟩
  simp only [List.length_cons] at hn hq
  have hx := hl x (by simp)
  have g0 : gx (str x :: L.map str) 0 = some (str x) := rfl
  rw [List.map_cons, Fishref2tariffOf.loop1, if_pos (by simp), g0, Option.bind_some, Option.bind_some]
  by_cases hp : haspq (str x) (str [98, 97, 110, 100, 32]) = true
  ·rw [if_pos hp, Option.bind_some, splitq_sp x (by omega), Option.bind_some]
   obtain ⟨u, hu⟩ := hasp_S hp
   have hs : sp x = wBand :: sp u := by rw [hu, show ([98, 97, 110, 100, 32] : List UInt8) ++ u = wBand ++ 32 :: u from rfl, sp_sp]; rfl
   by_cases h3 : (sp x).length = 3
   ·rw [if_neg (by simp [h3])]
    have hj := (sp_jn u).1
    match hu2 : sp u with
    | [] => rw [hs, hu2] at h3; simp at h3
    | [a] => rw [hs, hu2] at h3; simp at h3
    | a :: b :: c :: r => rw [hs, hu2] at h3; simp at h3
    | [a, b] =>
     rw [hu2] at hj
     have hb : x = wBand ++ 32 :: (a ++ 32 :: b) := by rw [hu, ← hj]; simp [jn]
     have hab := congrArg List.length hb
     simp at hab
     obtain ⟨v, v1, v2⟩ := plain_S a (by omega)
     obtain ⟨w, w1, w2⟩ := plain_S b (by omega)
     rw [hs, hu2, show gx ([wBand, a, b].map str) 1 = some (str a) from rfl, Option.bind_some, v1, Option.bind_some, show gx ([wBand, a, b].map str) 2 = some (str b) from rfl, Option.bind_some, w1, Option.bind_some, bnd_eq]
     cases hv : v.2 with
     | false => exact .inl ⟨_, rfl⟩
     | true =>
      cases hw : w.2 with
      | false => exact .inl ⟨_, rfl⟩
      | true =>
       obtain ⟨v3, v4⟩ := v2 hv
       obtain ⟨w3, w4⟩ := w2 hw
       rw [if_neg (by decide), apd_lt (by simp; omega), Option.bind_some, cutl_tail _ _ (by simp; omega), Option.bind_some]
       rcases tl1_S L m (q ++ [⟨v.1, w.1⟩]) (fun y hy => hl y (by simp [hy])) (by omega) (by simp; omega) with k | ⟨bs, L', k, k1, k2⟩
       ·exact .inl k
       ·right
        refine ⟨⟨v.1, w.1⟩ :: bs, L', by rw [k]; simp, ?_, fun y hy => ?_⟩
        ·rw [List.map_cons, List.cons_append, ← k1, hb, v3, w3]; rfl
        ·rcases List.mem_cons.1 hy with rfl | hy
         ·exact ⟨v4, w4⟩
         ·exact k2 y hy
   ·rw [if_pos (by simp; omega)]
    exact .inl ⟨_, rfl⟩
  ·right
   refine ⟨[], x :: L, ?_, rfl, by simp⟩
   rw [if_neg hp]
   simp
theorem tl1_C {f : Bool} {B : List FareBand} {R : Int} {S : List FareRule} {k : Int} {X : List (List UInt8)} (hX : X.length ≤ 1000000) : ∀ (bs : List FareBand) (n : Nat) (q : List FareBand), (∀ b ∈ bs, GoodB b) → bs.length + 1 ≤ n → q.length + bs.length ≤ 1000000 →
  Fishref2tariffOf.loop1 n ((bs.map bT ++ oT k :: X).map str) f B R S q = some (.next ((oT k :: X).map str, f, B, R, S, q ++ bs))
 | [], n, q, _, hn, _ => by
  obtain ⟨m, rfl⟩ : ∃ m, n = m + 1 := ⟨n - 1, by simp at hn; omega⟩
  have hp : haspq (str (oT k)) (str [98, 97, 110, 100, 32]) = false := rfl
  rw [List.map_nil, List.nil_append, List.map_cons, Fishref2tariffOf.loop1, if_pos (by simp), show gx (str (oT k) :: X.map str) 0 = some (str (oT k)) from rfl, Option.bind_some, Option.bind_some, hp, if_neg (by decide)]
  simp
 | b :: bs, n, q, hg, hn, hq => by
  obtain ⟨m, rfl⟩ : ∃ m, n = m + 1 := ⟨n - 1, by simp at hn; omega⟩
  simp only [List.length_cons] at hn hq
  obtain ⟨hb1, hb2⟩ := hg b (by simp)
  have l1 := itoa_len hb1
  have l2 := itoa_len hb2
  have hp : haspq (str (bT b)) (str [98, 97, 110, 100, 32]) = true := rfl
  have s1 : sp (Lib.itoa b.Upto) = [Lib.itoa b.Upto] := sp_word _ (fun m => (itoa_okw hb1.1.1 32 m).ne.1 rfl)
  have s2 : sp (Lib.itoa b.Price) = [Lib.itoa b.Price] := sp_word _ (fun m => (itoa_okw hb2.1.1 32 m).ne.1 rfl)
  have hs : sp (bT b) = [wBand, Lib.itoa b.Upto, Lib.itoa b.Price] := by
   unfold bT
   rw [sp_sp, sp_sp, s1, s2]; rfl
  have hz : (bT b).length ≤ 1000 := by unfold bT; simp; omega
  rw [List.map_cons, List.cons_append, List.map_cons, Fishref2tariffOf.loop1, if_pos (by simp; omega), show gx (str (bT b) :: (bs.map bT ++ oT k :: X).map str) 0 = some (str (bT b)) from rfl, Option.bind_some, Option.bind_some, hp, if_pos rfl, Option.bind_some, splitq_sp _ (by omega), Option.bind_some, hs, if_neg (by simp)]
  rw [show gx ([wBand, Lib.itoa b.Upto, Lib.itoa b.Price].map str) 1 = some (str (Lib.itoa b.Upto)) from rfl, Option.bind_some, plain_nu hb1, Option.bind_some, show gx ([wBand, Lib.itoa b.Upto, Lib.itoa b.Price].map str) 2 = some (str (Lib.itoa b.Price)) from rfl, Option.bind_some, plain_nu hb2, Option.bind_some, bnd_eq, if_neg (by simp), apd_lt (by simp; omega), Option.bind_some, cutl_tail _ _ (by simp; omega), Option.bind_some]
  rw [tl1_C hX bs m (q ++ [b]) (fun y hy => hg y (by simp [hy])) (by omega) (by simp; omega)]
  simp
theorem tl2_S {fu : Nat} (hf : 1000010 ≤ fu) {f : Bool} {B : List FareBand} {R : Int} {S : List FareRule} : ∀ (L : List (List UInt8)) (q : List FareRule), (∀ l ∈ L, l.length ≤ 70000) → q.length + L.length ≤ 1000000 →
  (∃ t, Fishref2tariffOf.loop2 fu (L.map str) f B R S q = some (.ret (t, false))) ∨ ∃ rs, Fishref2tariffOf.loop2 fu (L.map str) f B R S q = some (.next (f, B, R, S, q ++ rs)) ∧ L = rs.map rT ∧ ∀ r ∈ rs, GoodR r
 | [], q, _, _ => .inr ⟨[], by simp [Fishref2tariffOf.loop2], rfl, by simp⟩
 | x :: L, q, hl, hq => by
  simp only [List.length_cons] at hq
  obtain ⟨r, b, h1, h2⟩ := ruleOf_S (hl x (by simp)) hf
  rw [List.map_cons, Fishref2tariffOf.loop2, h1, Option.bind_some]
  dsimp only
  cases b with
  | false => exact .inl ⟨_, rfl⟩
  | true =>
   obtain ⟨h3, h4⟩ := h2 rfl
   rw [if_neg (by decide), apd_lt (by simp; omega), Option.bind_some]
   rcases tl2_S hf L (q ++ [r]) (fun y hy => hl y (by simp [hy])) (by simp; omega) with k | ⟨rs, k, k1, k2⟩
   ·exact .inl k
   ·right
    refine ⟨r :: rs, by rw [k]; simp, by rw [List.map_cons, ← k1, h4], fun y hy => ?_⟩
    rcases List.mem_cons.1 hy with rfl | hy
    ·exact h3
    ·exact k2 y hy
theorem tl2_C {fu : Nat} (hf : 1000010 ≤ fu) {f : Bool} {B : List FareBand} {R : Int} {S : List FareRule} : ∀ (rs q : List FareRule), (∀ r ∈ rs, GoodR r ∧ (rT r).length ≤ 70000) → q.length + rs.length ≤ 1000000 →
  Fishref2tariffOf.loop2 fu ((rs.map rT).map str) f B R S q = some (.next (f, B, R, S, q ++ rs))
 | [], q, _, _ => by simp [Fishref2tariffOf.loop2]
 | r :: rs, q, hg, hq => by
  simp only [List.length_cons] at hq
  obtain ⟨h1, h2⟩ := hg r (by simp)
  rw [List.map_cons, List.map_cons, Fishref2tariffOf.loop2, ruleOf_C h1 h2 hf, Option.bind_some, if_neg (by simp), apd_lt (by simp; omega), Option.bind_some]
  rw [tl2_C hf rs (q ++ [r]) (fun y hy => hg y (by simp [hy])) (by simp; omega)]
  simp
theorem scut_tail (p u : List UInt8) (h : u.length ≤ 1000000) {k : Int} (hk : k = ((p.length : Nat) : Int)) : scut (str (p ++ u)) k (((str (p ++ u)).size : Nat) : Int) = some (str u) := by
 subst hk
 unfold scut
 rw [if_pos (by rw [str_size]; simp; omega), str_size, extr_str, Int.toNat_natCast, Int.toNat_natCast, List.take_length, List.drop_left]
theorem jn_fl {L0 : List UInt8} {L : List (List UInt8)} {b : List UInt8} (h : jn 10 (L0 :: L) = b) : b ++ [10] = fl (L0 :: L) := by rw [fl_jn _ (by simp), h]
theorem tariffOf_S {x : List UInt8} (hz : x.length ≤ 70000) {fu : Nat} (hf : 1000010 ≤ fu) : ∃ t b, Fishref2tariffOf fu (str x) = some (t, b) ∧ (b = true → GoodT t ∧ x = tarT t) := by
 unfold Fishref2tariffOf
 rcases cuts_S x (by omega) with ⟨b, hx⟩ | h
 ·subst hx
  simp only [List.length_append, List.length_singleton] at hz
  obtain ⟨j1, _⟩ := ln_jn b
  rw [cutsq_end b (by omega), Option.bind_some]
  dsimp only
  rw [splitq_ln b (by omega), Option.bind_some, if_neg (by decide)]
  cases hs : ln b with
  | nil => exact absurd hs (ln_ne b)
  | cons L0 L =>
   rw [hs] at j1
   have hfl := jn_fl j1
   have hlen := congrArg List.length hfl
   rw [fl_len] at hlen
   simp only [List.length_append, List.length_singleton] at hlen
   have hcnt := fl_cnt L
   rw [List.map_cons, show gx (str L0 :: L.map str) 0 = some (str L0) from rfl]
   rw [Option.bind_some, Option.bind_some, Option.bind_some]
   have go : ∀ km : Bool, L0 = hT km → seq (str L0) (str [107, 109]) = km → ∃ t b', ((cutl (str L0 :: L.map str) 1 (((str L0 :: L.map str).length : Nat) : Int)).bind fun x103 => ((Fishref2tariffOf.loop1 fu x103 false [] 0 [] []).bind fun q114 => match q114 with | .ret r => some r | .next (q119, q123, q124, q128, q129, q133) => (((if (((q119).length : Int) == 0) then some true else ((gx q119 0).bind fun x229 => some (!(haspq x229 (str [114, 111, 117, 110, 100, 32]))))) : Option Bool).bind fun q226 => (if q226 then some ((FareTariff.mk false [] 0 []), false) else ((gx q119 0).bind fun x239 => ((scut x239 6 ((x239.size : Nat) : Int)).bind fun x248 => ((Fishref2plain x248).bind fun q250 => (if !q250.2 then some ((FareTariff.mk false [] 0 []), false) else ((cutl q119 1 ((q119).length : Int)).bind fun x253 => ((Fishref2tariffOf.loop2 fu x253 q123 q124 q128 q129 []).bind fun q264 => match q264 with | .ret r => some r | .next (_, _, _, _, q284) => some ((FareTariff.mk (seq (str L0) (str [107, 109])) q133 q250.1 q284), true))))))))))) = some (t, b') ∧ (b' = true → GoodT t ∧ b ++ [10] = tarT t) := by
    intro km h0 hk
    rw [cutl_tail _ _ (by simp; omega), Option.bind_some]
    rcases tl1_S (f := false) (B := []) (R := 0) (S := []) L fu [] (fun l hl => by have := fl_mem hl; omega) (by omega) (by simp; omega) with ⟨t, k⟩ | ⟨bs, L', k, k1, k2⟩
    ·rw [k]; exact ⟨t, false, rfl, nofun⟩
    ·rw [k, Option.bind_some]
     dsimp only
     cases L' with
     | nil => exact ⟨_, false, rfl, nofun⟩
     | cons o L2 =>
      have ho : o.length + (fl L2).length + 1 ≤ (fl L).length := by rw [k1, fl_app, List.length_append, fl_len]; omega
      have hcnt2 := fl_cnt L2
      rw [List.map_cons, show gx (str o :: L2.map str) 0 = some (str o) from rfl, if_neg (by simp; omega), Option.bind_some, Option.bind_some]
      cases hp : haspq (str o) (str [114, 111, 117, 110, 100, 32]) with
      | false => exact ⟨_, false, rfl, nofun⟩
      | true =>
       obtain ⟨u, hu⟩ := hasp_S hp
       subst hu
       simp only [List.length_append] at ho
       rw [if_neg (by decide), Option.bind_some, scut_tail _ u (by omega) (k := 6) rfl, Option.bind_some]
       obtain ⟨v, v1, v2⟩ := plain_S u (by omega)
       rw [v1, Option.bind_some]
       cases hv : v.2 with
       | false => exact ⟨_, false, rfl, nofun⟩
       | true =>
        obtain ⟨v3, v4⟩ := v2 hv
        rw [if_neg (by decide), cutl_tail _ _ (by simp; omega), Option.bind_some]
        rcases tl2_S hf (f := false) (B := []) (R := 0) (S := []) L2 [] (fun l hl => by have := fl_mem hl; omega) (by simp; omega) with ⟨t, m⟩ | ⟨rs, m, m1, m2⟩
        ·rw [m]; exact ⟨t, false, rfl, nofun⟩
        ·rw [m, Option.bind_some]
         dsimp only
         refine ⟨_, true, rfl, fun _ => ⟨⟨by simpa using k2, v4, by simpa using m2⟩, ?_⟩⟩
         rw [hfl, k1, m1, h0]
         unfold tarT tL oT
         dsimp only
         have hk' : seq (str (hT km)) (str [107, 109]) = km := by rw [← h0]; exact hk
         rw [hk', List.nil_append, List.nil_append, ← v3]
         rfl
   by_cases c1 : L0 = wZones
   ·rw [if_neg (by rw [show seq (str L0) (str [122, 111, 110, 101, 115]) = true from by rw [c1]; rfl]; decide), Option.bind_some, if_neg (by decide)]
    exact go false c1 (by rw [c1]; rfl)
   ·rw [if_pos (by rw [show seq (str L0) (str [122, 111, 110, 101, 115]) = false from seq_ne c1]; rfl), Option.bind_some]
    by_cases c2 : L0 = wKm
    ·rw [if_neg (by rw [show seq (str L0) (str [107, 109]) = true from by rw [c2]; rfl]; decide)]
     exact go true c2 (by rw [c2]; rfl)
    ·rw [if_pos (by rw [show seq (str L0) (str [107, 109]) = false from seq_ne c2]; rfl)]
     exact ⟨_, false, rfl, nofun⟩
 ·rw [h, Option.bind_some]
  dsimp only
  rw [splitq_ln x (by omega), Option.bind_some, if_pos (by decide), Option.bind_some, if_pos rfl]
  exact ⟨_, false, rfl, nofun⟩
theorem tariffOf_C {t : FareTariff} (h : GoodT t) (hz : (tarT t).length ≤ 70000) {fu : Nat} (hf : 1000010 ≤ fu) : Fishref2tariffOf fu (str (tarT t)) = some (t, true) := by
 obtain ⟨h1, h2, h3⟩ := h
 have hok := okl_t (t := t) ⟨h1, h2, h3⟩
 have hb : tarT t = jn 10 (tL t) ++ [10] := fl_jn _ (by simp [tL])
 have hlen := congrArg List.length hb
 simp only [List.length_append, List.length_singleton] at hlen
 have hcnt := fl_cnt (tL t)
 rw [show fl (tL t) = tarT t from rfl] at hcnt
 have hcl : (tL t).length = 1 + (t.Bands.length + (1 + t.Rules.length)) := by unfold tL; simp; omega
 have hoT : (oT t.Round).length ≤ 70000 := by
  have : oT t.Round ∈ tL t := by simp [tL]
  have := fl_mem this
  rw [show fl (tL t) = tarT t from rfl] at this
  omega
 have hrules : ∀ r ∈ t.Rules, GoodR r ∧ (rT r).length ≤ 70000 := fun r hr => by
  have : rT r ∈ tL t := by simp only [tL, List.mem_cons, List.mem_append]; exact .inr (.inr (.inr (List.mem_map_of_mem hr)))
  have := fl_mem this
  rw [show fl (tL t) = tarT t from rfl] at this
  exact ⟨h3 r hr, by omega⟩
 unfold Fishref2tariffOf
 rw [hb, cutsq_end _ (by omega), Option.bind_some]
 dsimp only
 rw [splitq_jn 10 (tL t) _ (by simp [tL]) (fun a ha hm => (okl_asc (hok a ha 10 hm)).2 rfl) (str_list _) (by rw [str_size]; omega), Option.bind_some]
 rw [show (tL t).map str = str (hT t.ByKm) :: (t.Bands.map bT ++ oT t.Round :: t.Rules.map rT).map str from rfl]
 rw [show gx (str (hT t.ByKm) :: (t.Bands.map bT ++ oT t.Round :: t.Rules.map rT).map str) 0 = some (str (hT t.ByKm)) from rfl, if_neg (by decide), Option.bind_some, Option.bind_some, Option.bind_some]
 have hh : (if (!(seq (str (hT t.ByKm)) (str [122, 111, 110, 101, 115]))) = true then some (!(seq (str (hT t.ByKm)) (str [107, 109]))) else some false) = some false := by
  cases t.ByKm <;> rfl
 have hk : seq (str (hT t.ByKm)) (str [107, 109]) = t.ByKm := by cases t.ByKm <;> rfl
 rw [hh, Option.bind_some, if_neg (by decide), cutl_tail _ _ (by simp; omega), Option.bind_some]
 rw [tl1_C (X := t.Rules.map rT) (by simp; omega) t.Bands fu [] h1 (by omega) (by simp; omega), Option.bind_some]
 dsimp only
 have hp : haspq (str (oT t.Round)) (str [114, 111, 117, 110, 100, 32]) = true := rfl
 have hsc : scut (str (oT t.Round)) 6 (((str (oT t.Round)).size : Nat) : Int) = some (str (Lib.itoa t.Round)) := scut_tail [114, 111, 117, 110, 100, 32] (Lib.itoa t.Round) (by have := itoa_len h2; omega) rfl
 rw [List.map_cons, show gx (str (oT t.Round) :: (t.Rules.map rT).map str) 0 = some (str (oT t.Round)) from rfl, if_neg (by simp; omega), Option.bind_some, hp, Option.bind_some, if_neg (by decide), Option.bind_some, hsc, Option.bind_some, plain_nu h2, Option.bind_some, if_neg (by simp), cutl_tail _ _ (by simp; omega), Option.bind_some]
 rw [tl2_C hf t.Rules [] hrules (by simp; omega), Option.bind_some]
 dsimp only
 rw [hk]
 rfl
theorem enc_le (r : Int) : (Utf8.encode r).data.toList.length ≤ 4 := by
 unfold Utf8.encode
 dsimp only
 generalize (if Utf8.valid r = true then r.toNat else Utf8.runeError) = c
 split
 ·exact (by decide : 1 ≤ 4)
 ·split
  ·exact (by decide : 2 ≤ 4)
  ·split
   ·exact (by decide : 3 ≤ 4)
   ·exact (by decide : 4 ≤ 4)
theorem dec_pos (s : ByteArray) (p : Nat) (h : p < s.size) : 1 ≤ (Utf8.decode s p).2 := Lib.decode_width_pos s p h
def wsum (L : List (List UInt8)) : Nat := (L.map fun w => w.length + 1).sum
theorem wsum_snoc (L : List (List UInt8)) (w : List UInt8) : wsum (L ++ [w]) = wsum L + (w.length + 1) := by unfold wsum; rw [List.map_append, List.sum_append]; simp
theorem words_any {s : ByteArray} (hz : s.size ≤ 100000) : ∀ (n p k : Nat) (L : List (List UInt8)) (b : Bool), k ≤ p → k ≤ s.size → L.length ≤ k → wsum L ≤ 5 * k → (b = false → L ≠ []) → s.size < k + n →
  ∃ L' b' p', Farewords.loop1 s n (L.map str) b p = some (L'.map str, b', p') ∧ L'.length ≤ s.size ∧ wsum L' ≤ 5 * s.size
 | 0, p, k, _, _, _, h2, _, _, _, h => absurd h (by omega)
 | n + 1, p, k, L, b, h1, h2, hl, hs, hb, h => by
  rw [Farewords.loop1]
  rcases Nat.lt_or_ge p s.size with hp | hp
  ·rw [if_pos (decide_eq_true hp)]
   have hd := dec_pos s p hp
   generalize hr : Utf8.decode s p = d at hd
   obtain ⟨c, w⟩ := d
   dsimp only at hd ⊢
   have he := enc_le ((c : Nat) : Int)
   rw [← str_back (Utf8.encode ((c : Nat) : Int))]
   generalize (Utf8.encode ((c : Nat) : Int)).data.toList = e at he
   have happ : apd (L.map str) [str e] = some ((L ++ [e]).map str) := by rw [apd_lt (by rw [List.length_map]; simp; omega)]; simp
   have hsn := wsum_snoc L e
   simp only [bnd_eq]
   have more : ∀ (L2 : List (List UInt8)) (b2 : Bool), L2.length ≤ k + 1 → wsum L2 ≤ 5 * (k + 1) → (b2 = false → L2 ≠ []) → ∃ L' b' p', Farewords.loop1 s n (L2.map str) b2 (p + w) = some (L'.map str, b', p') ∧ L'.length ≤ s.size ∧ wsum L' ≤ 5 * s.size :=
    fun L2 b2 a1 a2 a3 => words_any hz n (p + w) (k + 1) L2 b2 (by omega) (by omega) a1 a2 a3 (by omega)
   by_cases c1 : ((((c : Nat) : Int) == 32)) = true
   ·rw [if_pos c1, Option.bind_some]
    exact more L true (by omega) (by omega) (by simp)
   ·rw [if_neg c1]
    by_cases c2 : (if (((c : Nat) : Int) == 40) = true then true else (((c : Nat) : Int) == 41)) = true
    ·rw [if_pos c2, happ]
     simp only [Option.bind_some]
     exact more (L ++ [e]) true (by simp; omega) (by omega) (by simp)
    ·rw [if_neg c2]
     cases b with
     | true =>
      rw [if_pos rfl, happ]
      simp only [Option.bind_some]
      exact more (L ++ [e]) false (by simp; omega) (by omega) (by simp)
     | false =>
      have hne := hb rfl
      obtain ⟨M, u, rfl⟩ : ∃ M u, L = M ++ [u] := ⟨L.dropLast, L.getLast hne, (List.dropLast_concat_getLast hne).symm⟩
      have hlen : ((M ++ [u]).map str).length = M.length + 1 := by simp
      have hM : M.length + 1 ≤ k := by simpa using hl
      have hu := wsum_snoc M u
      have hv := wsum_snoc M (u ++ e)
      rw [List.length_append] at hv
      rw [if_neg (by decide), hlen, w64_pred (by omega) (by omega), Nat.add_sub_cancel]
      have g1 : gx ((M ++ [u]).map str) ((M.length : Nat) : Int) = some (str u) := by rw [gx_nat]; simp
      have g2 : ix ((M ++ [u]).map str) ((M.length : Nat) : Int) = some () := ix_in (by omega) (by rw [hlen]; omega)
      have g3 : sx ((M ++ [u]).map str) ((M.length : Nat) : Int) (str (u ++ e)) = some ((M ++ [u ++ e]).map str) := by
       rw [sx_in (by omega) (by rw [hlen]; omega)]
       simp
      rw [g1, Option.bind_some, scat_str (by omega), Option.bind_some, g2, Option.bind_some, g3]
      simp only [Option.bind_some]
      exact more (M ++ [u ++ e]) false (by simp; omega) (by omega) (by simp)
  ·rw [if_neg (by simp; omega)]
   exact ⟨L, b, p, rfl, by omega, by omega⟩
theorem words_tot (x : List UInt8) (hz : x.length ≤ 100000) {fu : Nat} (hf : 100001 ≤ fu) : ∃ W, Farewords fu (str x) = some (W.map str) ∧ W.length ≤ x.length ∧ wsum W ≤ 5 * x.length := by
 obtain ⟨L, b, p, h, h1, h2⟩ := words_any (s := str x) (by rw [str_size]; exact hz) fu 0 0 [] true (by omega) (by omega) (by simp) (by simp [wsum]) (by simp) (by rw [str_size]; omega)
 rw [str_size] at h1 h2
 refine ⟨L, ?_, h1, h2⟩
 unfold Farewords
 rw [List.map_nil] at h
 rw [h]
 rfl
theorem deeds_run {w : List UInt8} {z : Int} {P : Int → Prop} : ∀ (l : List (List UInt8)) (k : Nat) (q : Int), (q = 0 ∨ P q) → (∀ (j : Nat) (v : List UInt8), l[j]? = some v → 0 < k + j → w = v → P ((k + j : Nat) : Int)) →
  FareReaderrule_v1.loop1 (str w, z) (l.map str) k q = 0 ∨ P (FareReaderrule_v1.loop1 (str w, z) (l.map str) k q)
 | [], k, q, h, _ => h
 | v :: l, k, q, h, hP => by
  rw [List.map_cons, FareReaderrule_v1.loop1, bnd_eq, bnd_eq]
  refine deeds_run l (k + 1) _ ?_ (fun j u hj hk e => ?_)
  ·by_cases c : (if decide (((k : Nat) : Int) > 0) = true then seq (str w) (str v) else false) = true
   ·rw [if_pos c]
    right
    by_cases c2 : decide (((k : Nat) : Int) > 0) = true
    ·rw [if_pos c2] at c
     have := hP 0 v rfl (by have := of_decide_eq_true c2; omega) ((seq_iff _ _).1 c)
     exact this
    ·rw [if_neg c2] at c; cases c
   ·rw [if_neg c]; exact h
  ·have := hP (j + 1) u (by simpa using hj) (by omega) e
   rw [show k + 1 + j = k + (j + 1) by omega]
   exact this
theorem deeds_any (w : List UInt8) (z : Int) : FareReaderrule_v1.loop1 (str w, z) (ddL.map str) 0 0 = 0 ∨ ((1 ≤ FareReaderrule_v1.loop1 (str w, z) (ddL.map str) 0 0 ∧ FareReaderrule_v1.loop1 (str w, z) (ddL.map str) 0 0 ≤ 6) ∧ w = dd (FareReaderrule_v1.loop1 (str w, z) (ddL.map str) 0 0)) :=
 deeds_run (P := fun k => (1 ≤ k ∧ k ≤ 6) ∧ w = dd k) ddL 0 0 (.inl rfl) (fun j v hj hk e => by
  obtain ⟨h1, h2⟩ := dd_get hj
  rw [Nat.zero_add] at hk ⊢
  exact ⟨by omega, by rw [e]; exact h1⟩)
theorem rule_snd {W : List (List UInt8)} (hW : W.length ≤ 200000) (hw : ∀ w ∈ W, w.length ≤ 1000000) {fu : Nat} (hf : W.length + 5 ≤ fu) :
  FareReaderrule_v1 fu (rdr W 0) = some none ∨ ∃ (r : FareRule) (p : Nat), FareReaderrule_v1 fu (rdr W 0) = some (some (r, ((p : Nat) : Int))) ∧ GoodR r ∧ (rT r).length + 1 ≤ wsum W := by
 unfold FareReaderrule_v1
 rcases or_snd hW (one_snd hW hw fu) 0 (by omega) (by omega) with k | ⟨c, p, k, k1, k2, k3, k4⟩
 ·left; rw [k]; rfl
 ·rw [k, Option.bind_some]
  dsimp only
  rcases must_tot hW [58] k2 with m | ⟨m, m1, m2⟩
  ·left; rw [show FareReader.mk (W.map str) ((p : Nat) : Int) = rdr W p from rfl, m]; rfl
  ·rw [show FareReader.mk (W.map str) ((p : Nat) : Int) = rdr W p from rfl, m, Option.bind_some]
   dsimp only
   rcases word_tot hW m1 with ⟨n, _⟩ | ⟨d, s, _, n, n1, n2⟩
   ·left; rw [show FareReader.mk (W.map str) ((p + 1 : Nat) : Int) = rdr W (p + 1) from rfl, n]; rfl
   ·rw [show FareReader.mk (W.map str) ((p + 1 : Nat) : Int) = rdr W (p + 1) from rfl, n, Option.bind_some]
    dsimp only
    rw [bnd_eq, deeds_list, bnd_eq]
    rcases deeds_any d ((p + 1 + 1 : Nat) : Int) with e | ⟨e1, e2⟩
    ·left; rw [e]; rfl
    ·generalize FareReaderrule_v1.loop1 (str d, ((p + 1 + 1 : Nat) : Int)) (ddL.map str) 0 0 = D at e1 e2 ⊢
     rw [if_neg (by simp; omega)]
     rcases number_tot hW n1 hw with u | ⟨v, u, u1, u2, u3⟩
     ·left; rw [show FareReader.mk (W.map str) ((p + 1 + 1 : Nat) : Int) = rdr W (p + 1 + 1) from rfl, u]; rfl
     ·right
      rw [show FareReader.mk (W.map str) ((p + 1 + 1 : Nat) : Int) = rdr W (p + 1 + 1) from rfl, u, Option.bind_some]
      dsimp only
      rw [show FareReader.mk (W.map str) ((p + 1 + 1 + 1 : Nat) : Int) = rdr W (p + 1 + 1 + 1) from rfl, show str [115, 116, 111, 112] = str wStop from rfl]
      have hrl : ∀ st, (rT ⟨c, D, v, st⟩).length = (cT c).length + d.length + (Lib.itoa v).length + 4 + (stT st).length := by
       intro st
       unfold rT
       dsimp only
       rw [← e2]
       simp
       omega
      have h0 : wc W 0 = 0 := rfl
      simp only [List.length_singleton] at m2
      rcases take_tot hW wStop u2 with ⟨t, _⟩ | ⟨t, t1, t2, _⟩
      ·rw [t, Option.bind_some]
       refine ⟨_, _, rfl, ⟨k3, e1, u1⟩, ?_⟩
       have := wc_le W (p + 1 + 1 + 1)
       rw [hrl]
       unfold wsum
       simp [stT]
       omega
      ·rw [t, Option.bind_some]
       refine ⟨_, _, rfl, ⟨k3, e1, u1⟩, ?_⟩
       have := wc_le W (p + 1 + 1 + 1 + 1)
       rw [hrl]
       unfold wsum
       simp at t2
       simp [stT]
       omega
section
variable {Q : List (List UInt8)} {fu T : Nat}
def LOk (T : Nat) (X : Option (Out (Option FareTariff) (Int × Bool × (List FareBand) × Int × (List FareRule)))) : Prop :=
 X = some (.ret none) ∨ ∃ q km bs R rs, X = some (.next (q, km, bs, R, rs)) ∧ (2 ≤ q → Nu R) ∧ (∀ b ∈ bs, GoodB b) ∧ (∀ r ∈ rs, GoodR r) ∧ (fl (bs.map bT)).length + (fl (rs.map rT)).length ≤ T
theorem fl_snoc (L : List (List UInt8)) (x : List UInt8) : (fl (L ++ [x])).length = (fl L).length + (x.length + 1) := by rw [fl_app, List.length_append, fl_len]; rfl
theorem bT_len (b : FareBand) : (bT b).length = 6 + (Lib.itoa b.Upto).length + (Lib.itoa b.Price).length := by unfold bT; simp; omega
theorem lines_snd (hf : 1000010 ≤ fu) (hT : T ≤ 800000) : ∀ (rest : List (List UInt8)) (k : Nat) (q : Int) (km : Bool) (bs : List FareBand) (R : Int) (rs : List FareRule),
  Q.drop k = rest → (∀ l ∈ rest, l.length ≤ 70000) → (q = 0 ∨ q = 1 ∨ q = 2 ∧ Nu R) → (∀ b ∈ bs, GoodB b) → (∀ r ∈ rs, GoodR r) →
  (fl (bs.map bT)).length + (fl (rs.map rT)).length + 5 * (rest.map List.length).sum ≤ T → LOk T (Faretariff.loop1 fu (Q.map str) rest.length k q km bs R rs)
 | [], k, q, km, bs, R, rs, _, _, hq, hb, hr, hs => by
  right
  refine ⟨q, km, bs, R, rs, rfl, fun h => ?_, hb, hr, by simpa using hs⟩
  rcases hq with rfl | rfl | ⟨_, h2⟩
  ·omega
  ·omega
  ·exact h2
 | x :: rest, k, q, km, bs, R, rs, hd, hx, hq, hb, hr, hs => by
  rw [List.map_cons, List.sum_cons] at hs
  obtain ⟨W, w1, w2, w3⟩ := words_tot x (by have := hx x (by simp); omega) (fu := fu) (by omega)
  have hx0 := hx x (by simp)
  have hW : W.length ≤ 200000 := by omega
  have hw : ∀ w ∈ W, w.length ≤ 1000000 := fun w hm => by have := mem_wsum hm; unfold wsum at w3; omega
  have hbl := fl_cnt (bs.map bT)
  have hrl := fl_cnt (rs.map rT)
  rw [List.length_map] at hbl hrl
  have more : ∀ (q' : Int) (km' : Bool) (bs' : List FareBand) (R' : Int) (rs' : List FareRule) (c : Bool), (q' = 0 ∨ q' = 1 ∨ q' = 2 ∧ Nu R') → (∀ b ∈ bs', GoodB b) → (∀ r ∈ rs', GoodR r) →
    (fl (bs'.map bT)).length + (fl (rs'.map rT)).length ≤ (fl (bs.map bT)).length + (fl (rs.map rT)).length + wsum W → LOk T (if c = true then some (.ret none) else Faretariff.loop1 fu (Q.map str) rest.length (k + 1) q' km' bs' R' rs') := by
   intro q' km' bs' R' rs' c a1 a2 a3 a4
   cases c with
   | true => exact .inl rfl
   | false =>
    exact lines_snd hf hT rest (k + 1) q' km' bs' R' rs' (drop_get hd).2.2 (fun l hl => hx l (by simp [hl])) a1 a2 a3 (by omega)
  rw [List.length_cons, Faretariff.loop1, gx_line hd, Option.bind_some, w1, Option.bind_some, show FareReader.mk (W.map str) 0 = rdr W 0 from rfl]
  have h0 : wc W 0 = 0 := rfl
  rcases hq with rfl | rfl | ⟨rfl, hR⟩
  ·rw [if_pos (by decide), show (str [107, 109]) = str wKm from rfl, show (str [122, 111, 110, 101, 115]) = str wZones from rfl]
   rcases take_tot hW wKm (p := 0) (by omega) with ⟨t, _⟩ | ⟨t, _⟩
   ·rw [t, Option.bind_some, if_pos (by decide)]
    dsimp only
    rcases must_tot hW wZones (p := 0) (by omega) with m | ⟨m, _⟩
    ·left; rw [show FareReader.mk (W.map str) ((0 : Nat) : Int) = rdr W 0 from rfl, m]; rfl
    ·rw [show FareReader.mk (W.map str) ((0 : Nat) : Int) = rdr W 0 from rfl, m, Option.bind_some, Option.bind_some]
     exact more 1 false bs R rs _ (.inr (.inl rfl)) hb hr (by omega)
   ·rw [t, Option.bind_some, if_neg (by simp), Option.bind_some]
    exact more 1 true bs R rs _ (.inr (.inl rfl)) hb hr (by omega)
  ·rw [if_neg (by decide), if_pos (by decide), show (str [98, 97, 110, 100]) = str wBand from rfl, show (str [114, 111, 117, 110, 100]) = str wRound from rfl]
   rcases take_tot hW wBand (p := 0) (by omega) with ⟨t, _⟩ | ⟨t, t1, t2, _⟩
   ·rw [t, Option.bind_some, Option.bind_some]
    dsimp only
    rw [if_neg (by decide), if_pos (by decide), show FareReader.mk (W.map str) ((0 : Nat) : Int) = rdr W 0 from rfl]
    rcases must_tot hW wRound (p := 0) (by omega) with m | ⟨m, m1, m2⟩
    ·left; rw [m]; rfl
    ·rw [m, Option.bind_some]
     dsimp only
     rw [show FareReader.mk (W.map str) ((0 + 1 : Nat) : Int) = rdr W (0 + 1) from rfl]
     rcases number_tot hW m1 hw with n | ⟨v, n, n1, _⟩
     ·left; rw [n]; rfl
     ·rw [n, Option.bind_some, Option.bind_some]
      exact more 2 km bs v rs _ (.inr (.inr ⟨rfl, n1⟩)) hb hr (by omega)
   ·rw [t, Option.bind_some, Option.bind_some]
    dsimp only
    rw [if_pos rfl, show FareReader.mk (W.map str) ((0 + 1 : Nat) : Int) = rdr W (0 + 1) from rfl]
    rcases number_tot hW t1 hw with n | ⟨v, n, n1, n2, n3⟩
    ·left; rw [n]; rfl
    ·rw [n, Option.bind_some]
     dsimp only
     rw [show FareReader.mk (W.map str) ((0 + 1 + 1 : Nat) : Int) = rdr W (0 + 1 + 1) from rfl]
     rcases number_tot hW n2 hw with m | ⟨u, m, m1, m2, m3⟩
     ·left; rw [m]; rfl
     ·rw [m, Option.bind_some]
      dsimp only
      rw [apd_lt (by simp; omega), Option.bind_some, Option.bind_some]
      dsimp only
      rw [Option.bind_some]
      refine more 1 km (bs ++ [⟨v, u⟩]) R rs _ (.inr (.inl rfl)) (fun b hm => ?_) hr ?_
      ·rcases List.mem_append.1 hm with hm | hm
       ·exact hb b hm
       ·rw [List.mem_singleton.1 hm]; exact ⟨n1, m1⟩
      ·have e := wc_le W (0 + 1 + 1 + 1)
       rw [List.map_append, List.map_singleton, fl_snoc, bT_len]
       unfold wsum
       have t3 : wc W (0 + 1) = 0 + (4 + 1) := t2
       dsimp only
       omega
  ·rw [if_neg (by decide), if_neg (by decide), Option.bind_some]
   dsimp only
   rw [if_neg (by decide), if_neg (by decide), show FareReader.mk (W.map str) 0 = rdr W 0 from rfl]
   rcases rule_snd hW hw (fu := fu) (by omega) with n | ⟨r, p, n, n1, n2⟩
   ·left; rw [n]; rfl
   ·rw [n, Option.bind_some]
    dsimp only
    rw [apd_lt (by simp; omega), Option.bind_some, Option.bind_some]
    dsimp only
    rw [Option.bind_some]
    refine more 2 km bs R (rs ++ [r]) _ (.inr (.inr ⟨rfl, hR⟩)) hb (fun y hm => ?_) ?_
    ·rcases List.mem_append.1 hm with hm | hm
     ·exact hr y hm
     ·rw [List.mem_singleton.1 hm]; exact n1
    ·rw [List.map_append, List.map_singleton, fl_snoc]
     omega
theorem len_sum : ∀ L : List (List UInt8), (L.map List.length).sum ≤ (fl L).length
 | [] => by simp
 | x :: L => by have := len_sum L; rw [fl_len, List.map_cons, List.sum_cons]; omega
theorem fare_S {x : List UInt8} (hz : x.length ≤ 70000) (hf : 1000010 ≤ fu) : Faretariff fu (str x) = some none ∨ ∃ t, Faretariff fu (str x) = some (some t) ∧ GoodT t ∧ x = tarT t := by
 unfold Faretariff
 rcases cuts_S x (by omega) with ⟨b, hx⟩ | h
 ·rw [hx, cutsq_end b (by rw [hx] at hz; simp at hz; omega), Option.bind_some]
  dsimp only
  have hl : b.length + 1 = x.length := by rw [hx]; simp
  rw [if_neg (by decide), splitq_ln b (by omega), Option.bind_some, List.length_map]
  have hfl := fl_jn (ln b) (ln_ne b)
  rw [(ln_jn b).1] at hfl
  have hfl2 := congrArg List.length hfl
  simp only [List.length_append, List.length_singleton] at hfl2
  have hsum := len_sum (ln b)
  have := lines_snd (Q := ln b) (T := 400000) hf (by omega) (ln b) 0 0 false [] 0 [] rfl (fun l hl => by have := fl_mem hl; omega) (.inl rfl) (by simp) (by simp) (by simp [fl]; omega)
  rcases this with k | ⟨q, km, bs, R, rs, k, k1, k2, k3, k4⟩
  ·left; rw [k]; rfl
  ·rw [k, Option.bind_some]
   dsimp only
   by_cases c : decide (q < 2) = true
   ·left; rw [if_pos c]; rfl
   ·have c2 : 2 ≤ q := by simp at c; omega
    have hg : GoodT ⟨km, bs, R, rs⟩ := ⟨k2, k1 c2, k3⟩
    have hlen : (tarT ⟨km, bs, R, rs⟩).length ≤ 900000 := by
     have := itoa_len (k1 c2)
     have hh : (hT km).length ≤ 5 := by cases km <;> decide
     rw [tT_eq]
     simp only [List.length_append, List.length_cons, oT]
     simp
     omega
    rw [if_neg c, (t_text hg hlen hf).1, Option.bind_some, Option.bind_some]
    cases hs : seq (str (tarT ⟨km, bs, R, rs⟩)) (str (b ++ [10])) with
    | false => left; rfl
    | true => right; exact ⟨_, rfl, hg, ((seq_iff _ _).1 hs).symm⟩
 ·left; rw [h]; rfl
end
theorem jT_sum {w : List UInt8} (hw : 2 ≤ w.length) {l : List (List UInt8)} (hl : 2 ≤ l.length) : (l.map List.length).sum + 4 ≤ (jT w l).length := by
 match l, hl with
 | t :: y :: r, _ =>
  rw [jT, List.flatMap_cons]
  have : ∀ r : List (List UInt8), (r.map List.length).sum ≤ (r.flatMap fun y => 32 :: w ++ 32 :: y).length := fun r => by
   induction r with
   | nil => simp
   | cons a r ih => rw [List.flatMap_cons, List.map_cons, List.sum_cons, List.length_append]; simp only [List.length_append, List.length_cons] at ih ⊢; omega
  have := this r
  simp only [List.map_cons, List.sum_cons, List.length_append, List.length_cons]
  omega
theorem c_sz {c : FareCond} (h : Good c) : szFareCond c ≤ (cT c).length := by
 induction h with
 | @leaf kd a b h ha hb =>
  have : 2 ≤ (nm kd).length := by rcases nm_cases (k := kd) (by omega) with rfl | rfl | rfl | rfl | rfl | rfl | rfl | rfl | rfl | rfl <;> decide
  rw [cT, if_neg (by omega), if_neg (by omega), if_neg (by omega), szFareCond, szsFareCond, List.length_append]
  omega
 | @not k h ih =>
  have := par_len 9 k.Kind (cT k)
  rw [cT, if_pos rfl, ksT, szFareCond, szsFareCond, szsFareCond]
  simp only [List.length_append, List.length_cons, List.headD_cons, List.length_nil]
  omega
 | @grp kd ks h hl hk ih =>
  have key : ∀ w : List UInt8, 2 ≤ w.length → szFareCond ⟨kd, 0, 0, ks⟩ ≤ (jT w (ks.map fun k => par kd k.Kind (cT k))).length := by
   intro w hw
   have h1 := jT_sum hw (l := ks.map fun k => par kd k.Kind (cT k)) (by simpa using hl)
   rw [List.map_map] at h1
   have h2 := fr_sum_le (f := szFareCond) (g := List.length ∘ fun k : FareCond => par kd k.Kind (cT k)) (l := ks) (fun k m => by
    have := ih k m
    have := par_len kd k.Kind (cT k)
    simp only [Function.comp]; omega)
   rw [szFareCond, szsFareCond_eq]
   unfold szL
   omega
  rcases h with rfl | rfl
  ·rw [cT, if_neg (by decide), if_pos rfl, ksT_map]
   exact key wAnd (by decide)
  ·rw [cT, if_neg (by decide), if_neg (by decide), if_pos rfl, ksT_map]
   exact key wOr (by decide)
theorem fl_sum {α : Type} {f : α → List UInt8} {g : α → Nat} : ∀ {l : List α}, (∀ x ∈ l, g x ≤ (f x).length + 1) → (l.map g).sum ≤ (fl (l.map f)).length
 | [], _ => by simp
 | x :: l, h => by
  have := fl_sum (f := f) (g := g) (l := l) (fun y hy => h y (by simp [hy]))
  have := h x (by simp)
  rw [List.map_cons, List.sum_cons, List.map_cons, fl_len]
  omega
theorem t_sz {t : FareTariff} (h : GoodT t) : szFareTariff t ≤ (tarT t).length + 3 := by
 have h1 := fl_sum (f := bT) (g := sz1) (l := t.Bands) (fun b _ => by unfold sz1; omega)
 have h2 := fl_sum (f := rT) (g := szFareRule) (l := t.Rules) (fun r hr => by
  have := c_sz (h.2.2 r hr).1
  have := rT_len r
  unfold szFareRule
  omega)
 rw [tT_eq]
 simp only [List.length_append, List.length_cons]
 unfold szFareTariff szL
 omega
theorem fr_true (n : Nat) : Fishlaw2fares (n + 60) = some true := by kernel_rfl
theorem empty_same (fu : Nat) : Fishref2SameTariff fu ⟨false, [], 0, []⟩ ⟨false, [], 0, []⟩ = some true := tariff_same (fun r hr => absurd hr (by simp))
theorem FareReads_law (x0 : ByteArray) (_ : x0.size ≤ 9223372036854775807) : ∃ fu, Fishlaw2FareReads fu x0 = some true := by
 refine ⟨1048576 + 60, ?_⟩
 have same : ∀ (t : FareTariff) (e : Int), Fishref2SameTariff (1048576 + 60) t t = some true →
   ((((Fishlaw2fares (1048576 + 60)).bind fun q83 => (if q83 then (if (e == e) then ((Fishref2SameTariff (1048576 + 60) t t).bind fun q87 => some q87) else some false) else some false)) : Option Bool).bind fun q81 => some q81) = some true := by
  intro t e h
  rw [fr_true, Option.bind_some, if_pos rfl, if_pos (by simp), h]
  rfl
 unfold Fishlaw2FareReads FareRead Fishref2ReadTariff
 rw [← str_back x0]
 generalize x0.data.toList = x
 by_cases c : decide ((((str x).size : Nat) : Int) > 65536) = true
 ·rw [if_pos c, if_pos c, Option.bind_some, Option.bind_some]
  exact same _ 4 (empty_same _)
 ·have hz : x.length ≤ 65536 := by rw [str_size] at c; simp at c; omega
  rw [if_neg c, if_neg c]
  rcases fare_S (x := x) (fu := 1048576 + 60) (by omega) (by omega) with k | ⟨t, k, hg, hx⟩
  ·obtain ⟨t, b, h1, h2⟩ := tariffOf_S (x := x) (by omega) (fu := 1048576 + 60) (by omega)
   cases b with
   | true =>
    obtain ⟨h3, h4⟩ := h2 rfl
    have h5 := tariff_reads h3 (by rw [← h4]; omega) (fu := 1048576 + 60) (by omega)
    rw [← h4, k] at h5
    cases h5
   | false =>
    rw [k, h1, Option.bind_some, Option.bind_some, Option.bind_some]
    dsimp only
    exact same _ 10 (empty_same _)
  ·have hs := t_sz hg
   have h1 := tariffOf_C hg (by rw [← hx]; omega) (fu := 1048576 + 60) (by omega)
   rw [← hx] at h1 hs
   have hbl : t.Bands.length ≤ 9223372036854775807 := by
    have h1 := fl_cnt (t.Bands.map bT)
    have h2 : x.length = (tarT t).length := by rw [← hx]
    rw [tT_eq] at h2
    simp only [List.length_append, List.length_cons, List.length_map] at h1 h2
    omega
   obtain ⟨e1, e, e2⟩ := tariff_ref (fu := 1048576 + 60) (by omega) t hbl (by omega)
   rw [k, h1, Option.bind_some, Option.bind_some]
   dsimp only
   rw [if_neg (by decide), e1, e2, Option.bind_some]
   by_cases c : (e != 0) = true
   ·rw [if_pos c, Option.bind_some, Option.bind_some]
    exact same _ e (empty_same _)
   ·rw [if_neg c, Option.bind_some, Option.bind_some]
    refine same _ 0 (tariff_same (fun r hr => ?_))
    have h4 : rT r ∈ tL t := by unfold tL; simp only [List.mem_cons, List.mem_append, List.mem_map]; exact .inr (.inr (.inr ⟨r, hr, rfl⟩))
    have h5 := fl_mem h4
    have h6 : (fl (tL t)).length = x.length := by rw [hx]; rfl
    have h7 := rT_len r
    exact cond_same (hg.2.2 r hr).1 _ (by omega)
end Go.Fp
