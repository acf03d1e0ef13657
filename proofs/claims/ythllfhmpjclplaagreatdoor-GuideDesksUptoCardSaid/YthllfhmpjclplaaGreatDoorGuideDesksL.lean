/- GuideDesks: the mirror of the law is true of all days, journeys and scripts. -/
import Derived.Test.YthllfhmpjclplaaGreatDoorGuideDesksM
import Derived.Test.YthllfhmpjclplaaGreatDoorFpPlain
import Derived.Lib.ItoaLen
set_option maxRecDepth 10000
open Bool renaming false_eq_true → b2s, not_true → b2W, eq_iff_iff → b4l, not_false → b3R
open List renaming mem_cons → b2M, length_cons → b2v, mem_cons_self → b2A, mem_cons_of_mem → b2C, flatMap_cons → b3P, length_append → b2u, nil_append → b3c, not_mem_nil → b3X, length_nil → b3j, map_cons → b2L, all_cons → b4O, cons_append → b4w, all_append → b4B, drop_zero → b2U, getElem?_eq_some_iff → b2t, mem_of_getElem? → b2J, take_add_one → b4r, getElem?_take → b2H, filter_cons → b3A, filter_append → b3J, map_append → b3b, mem_append → b2X, getElem?_eq_getElem → b2q, sum_cons → b3Q, length_map → b2B, take_of_length_le → b3w, append_assoc → b2y, map_nil → b4y, eq_nil_of_length_eq_zero → b2z, pairwise_map → b4F, mem_map → b3f, getElem?_append_right → b2D, length_filter_le → b4n, nodup_append → b4q, mem_filter → b2F, length_singleton → b4o, append_nil → b3I, findSome?_cons → b3E, find?_append → b5g, find?_eq_none → b4Z, nodup_cons → b4m, length_eraseIdx_of_lt → b4t, mem_of_mem_eraseIdx → b5h, getLast?_eq_some_getLast → b4L, length_set → b3C, getElem?_set_self → b4C, take_length → b4J, filter_eq_self → b4T, getElem_mem → b3L, length_pos_iff → b4V, getElem?_map → b3l, mem_of_find?_eq_some → b5c, set_getElem_self → b3V, drop_eq_getElem_cons → b3h, length_take → b2S, length_drop → b2K, getElem?_set_ne → b3B, drop_eq_nil_of_le → b3d, replicate → b2N, eq_of_mem_replicate → b4A, length_replicate → b4b
open Option renaming bind_some → b2m, getD_some → b3D, map_some → b3y
open Nat renaming mul_one → b4i, eq_zero_or_pos → b2T, le_refl → b2Z, add_mul → b2R, mul_le_mul → b4G, not_lt_zero → b4U, sub_self → b4X, lt_or_ge → b2I, sub_zero → b4f
open Int renaming toNat_natCast → b3s
namespace Go.Fp
def tx (n : Int) : ByteArray := ⟨(Lib.itoa n).toArray⟩
theorem a8h {n : Int} (h : -9223372036854775808 ≤ n ∧ n ≤ 9223372036854775807) : itoa n = some (tx n) := by unfold itoa; rw [if_pos h]; rfl
theorem a8I {n : Int} (h : -9223372036854775808 ≤ n ∧ n ≤ 9223372036854775807) : (tx n).size ≤ 21 := by
 have := Lib.itoa_length_le n h.1 h.2
 unfold tx
 show ((Lib.itoa n).toArray).size ≤ 21
 simpa using this
theorem a3I {a b : ByteArray} (h : a.size + b.size ≤ 9223372036854775807) : a8j a b = some (a ++ b) := by unfold a8j; rw [if_pos h]
theorem a9R {y x : ByteArray} (h0 : 0 < x.size) (h : y.size + x.size < 4294967296) : sbw y x = some (y ++ x) := by unfold sbw; rw [if_pos ⟨h0, h⟩]
theorem a6J (m : List (Int × Bool)) (k j : Int) (v : Bool) : O2 (O1 m k v) j = if j = k then some v else O2 m j := by
 induction m with
 | nil => simp [O1, O2]
 | cons p r ih =>
  obtain ⟨a, b⟩ := p
  simp only [O1]
  by_cases h : k = a
  ·subst h
   simp only [beq_self_eq_true, if_true, O2]
   by_cases h2 : j = k <;> simp [h2]
  ·have hb : (k == a) = false := by simpa using h
   simp only [hb, b2s, if_false, O2]
   by_cases h2 : j = a
   ·subst h2; have : ¬ j = k := fun e => h e.symm; simp [this]
   ·have hb2 : (j == a) = false := by simpa using h2
    simp [hb2, ih]
def wi (x : Int) : Bool := U3 x 0 999999
theorem a9z : ∀ l, A9.loop2 l = F1.loop2 l
 | [] => rfl
 | x :: r => by simp only [A9.loop2, F1.loop2, a9z r]
theorem a9h : ∀ l, A9.loop3 l = F1.loop3 l
 | [] => rfl
 | x :: r => by simp only [A9.loop3, F1.loop3, a9h r]
theorem a8D : ∀ l, A9.loop4 l = F1.loop4 l
 | [] => rfl
 | x :: r => by simp only [A9.loop4, F1.loop4, a8D r]
theorem a8G : ∀ l, A9.loop1 l = F1.loop1 l
 | [] => rfl
 | x :: r => by simp only [A9.loop1, F1.loop1, a8G r, a9z, a9h]
def V1 (t : B1) : Prop := 1 ≤ t.Stops.length ∧ t.Stops.length ≤ 8 ∧ t.Legs.length + 1 = t.Stops.length ∧ ∀ g ∈ t.Legs, g.length ≤ 4
def a1X (d : B0) : Prop := d.Trains.length ≤ 12 ∧ d.Turns.length ≤ 8 ∧ (∀ t ∈ d.Trains, V1 t) ∧ ∀ g ∈ d.Turns, g.length ≤ 12
theorem a2Z : ∀ l, (F1.loop3 l = .ret 4) ∨ (F1.loop3 l = .next () ∧ ∀ g ∈ l, g.length ≤ 4)
 | [] => .inr ⟨rfl, by simp⟩
 | x :: r => by
  rw [F1.loop3]
  by_cases c : ((x.length : Nat) : Int) > 4
  ·rw [if_pos (by simpa using c)]; exact .inl rfl
  ·rw [if_neg (by simpa using c)]
   rcases a2Z r with h | ⟨h, k⟩
   ·exact .inl h
   ·refine .inr ⟨h, ?_⟩
    intro g hg
    rcases b2M.1 hg with rfl | hg
    ·omega
    ·exact k g hg
theorem a3w : ∀ l, (F1.loop2 l = .ret 1) ∨ (F1.loop2 l = .next ())
 | [] => .inr rfl
 | x :: r => by
  rw [F1.loop2]
  split
  ·exact .inl rfl
  ·exact a3w r
theorem a1Y : ∀ l, (∃ e, e ≠ 0 ∧ F1.loop4 l = .ret e) ∨ (F1.loop4 l = .next () ∧ ∀ g ∈ l, g.length ≤ 12)
 | [] => .inr ⟨rfl, by simp⟩
 | x :: r => by
  rw [F1.loop4]
  split
  ·exact .inl ⟨1, by decide, rfl⟩
  ·by_cases c : ((x.length : Nat) : Int) > 12
   ·rw [if_pos (by simpa using c)]; exact .inl ⟨4, by decide, rfl⟩
   ·rw [if_neg (by simpa using c)]
    rcases a1Y r with h | ⟨h, k⟩
    ·exact .inl h
    ·refine .inr ⟨h, ?_⟩
     intro g hg
     rcases b2M.1 hg with rfl | hg
     ·omega
     ·exact k g hg
theorem a1S : ∀ l, (∃ e, e ≠ 0 ∧ F1.loop1 l = .ret e) ∨ (F1.loop1 l = .next () ∧ ∀ t ∈ l, V1 t)
 | [] => .inr ⟨rfl, by simp⟩
 | x :: r => by
  rw [F1.loop1, J1]
  generalize hq : (if (((x.Stops).length : Int) == 0) = true then true else (((x.Legs).length : Int) != (w64 (((x.Stops).length : Int) - 1)))) = q
  cases q with
  | true => exact .inl ⟨1, by decide, rfl⟩
  | false =>
   rw [if_neg (by decide), J1]
   rcases a3w x.Legs with h | h
   ·rw [h]; exact .inl ⟨1, by decide, rfl⟩
   ·rw [h]
    dsimp only
    by_cases c : ((x.Stops.length : Nat) : Int) > 8
    ·rw [if_pos (by simpa using c)]; exact .inl ⟨4, by decide, rfl⟩
    ·rw [if_neg (by simpa using c), J1]
     rcases a2Z x.Legs with h3 | ⟨h3, k3⟩
     ·rw [h3]; exact .inl ⟨4, by decide, rfl⟩
     ·rw [h3]
      dsimp only
      rcases a1S r with h1 | ⟨h1, k1⟩
      ·exact .inl h1
      ·refine .inr ⟨h1, ?_⟩
       intro t ht
       rcases b2M.1 ht with rfl | ht
       ·split at hq
        ·cases hq
        ·rename_i hz
         rw [Q5 (by omega)] at hq
         have hq2 : ((t.Legs.length : Nat) : Int) = ((t.Stops.length : Nat) : Int) - 1 := by simpa using hq
         have hz2 : ¬ t.Stops.length = 0 := by simpa using hz
         exact ⟨by omega, by omega, by omega, k3⟩
       ·exact k1 t ht
theorem a6V (d : B0) : F1 d ≠ 0 ∨ (F1 d = 0 ∧ a1X d) := by
 rw [F1, J1]
 by_cases c : ((d.Trains.length : Nat) : Int) > 12 ∨ ((d.Turns.length : Nat) : Int) > 8
 ·left
  rw [if_pos (by rcases c with c | c <;> simp [c])]; decide
 ·have c1 : ¬ ((d.Trains.length : Nat) : Int) > 12 := fun h => c (.inl h)
  have c2 : ¬ ((d.Turns.length : Nat) : Int) > 8 := fun h => c (.inr h)
  rw [if_neg (by simp [c1, c2]), J1]
  rcases a1S d.Trains with ⟨e, he, h⟩ | ⟨h, k⟩
  ·rw [h]; exact .inl he
  ·rw [h]
   dsimp only
   rw [J1]
   rcases a1Y d.Turns with ⟨e, he, h4⟩ | ⟨h4, k4⟩
   ·rw [h4]; exact .inl he
   ·rw [h4]; exact .inr ⟨rfl, by omega, by omega, k, k4⟩
def a5n (x : B9) : List Int := [x.Station, x.Track, x.Arr, x.Dep]
def a5h (t : B1) : List (List Int) := [t.No, t.Stock] :: (t.Stops.map a5n ++ t.Legs)
theorem b1f : ∀ (l : List B9) (q : List (List Int)), q.length + l.length < 4294967296 → E5.loop2 l q = some (q ++ l.map a5n)
 | [], q, _ => by simp [E5.loop2]
 | x :: r, q, h => by
  simp only [b2v] at h
  rw [E5.loop2, M8 (by simp; omega), b2m, b1f r _ (by simp; omega)]
  simp [a5n]
theorem b0U : ∀ (l : List B1) (q : List (List Int)), (∀ t ∈ l, V1 t) → q.length + 17 * l.length < 4294967296 → E5.loop1 l q = some (q ++ l.flatMap a5h)
 | [], q, _, _ => by simp [E5.loop1]
 | t :: r, q, ht, h => by
  simp only [b2v] at h
  obtain ⟨t1, t2, t3, t4⟩ := ht t (b2A ..)
  rw [E5.loop1, M8 (by simp; omega), b2m, b1f _ _ (by simp; omega), b2m, M8 (by simp; omega), b2m,
   b0U r _ (fun t h => ht t (b2C _ h)) (by simp; omega)]
  simp [a5h]
theorem a6v {t : B1} (h : V1 t) : (a5h t).length ≤ 16 := by
 obtain ⟨t1, t2, t3, t4⟩ := h
 simp [a5h]; omega
theorem a8f {d : B0} (h : a1X d) : E5 d = some (d.Trains.flatMap a5h ++ d.Turns) := by
 obtain ⟨h1, h2, h3, h4⟩ := h
 have hl : ∀ l : List B1, (∀ t ∈ l, V1 t) → (l.flatMap a5h).length ≤ 16 * l.length := by
  intro l
  induction l with
  | nil => intro _; simp
  | cons t r ih =>
   intro ht
   have := a6v (ht t (b2A ..))
   have := ih fun t h => ht t (b2C _ h)
   simp only [b3P, b2u, b2v]; omega
 have := hl _ h3
 rw [E5, b0U _ _ h3 (by simp; omega), b2m, b3c, M8 (by omega)]
 rfl
theorem b0X : ∀ l : List Int, A9.loop6 l = if l.all wi then .next () else .ret 2
 | [] => rfl
 | x :: r => by
  rw [A9.loop6, b0X r]
  show (if (!wi x) = true then _ else _) = _
  cases h : wi x <;> simp [h]
theorem b1u (L : List (List Int)) : ∀ (r : List (List Int)) (k : Nat), L.drop k = r → A9.loop5 L r.length k = some (if r.all (·.all wi) then .next () else .ret 2)
 | [], k, _ => rfl
 | x :: r, k, hd => by
  obtain ⟨d1, d2, d3⟩ := C3 hd
  rw [b2v, A9.loop5, O0, d2, b2m, J1, b0X]
  cases h : x.all wi with
  | true => simp [h, b1u L r (k + 1) d3]
  | false => simp [h]
theorem a9c : ∀ (l : List Int) (b : Bool), I3.loop1 l b = (b && l.all wi)
 | [], b => by simp [I3.loop1]
 | x :: r, b => by
  rw [I3.loop1, J1, a9c r]
  show ((if b = true then wi x else false) && r.all wi) = _
  cases b <;> simp
theorem a9J : ∀ (l : List Int) (q : ByteArray), inL inI l → q.size + 22 * l.length < 4294967296 → ∃ z, K8.loop1 l q = some z ∧ z.size ≤ q.size + 22 * l.length
 | [], q, _, _ => ⟨q, rfl, by simp⟩
 | x :: r, q, hi, h => by
  simp only [b2v] at h
  have hx := hi x (b2A ..)
  have hs := a8I hx
  have s32 : (str [32]).size = 1 := rfl
  have e1 : (str [32] ++ tx x).size = 1 + (tx x).size := by rw [ByteArray.size_append, s32]
  have e4 : (q ++ (str [32] ++ tx x)).size = q.size + (1 + (tx x).size) := by rw [ByteArray.size_append, e1]
  obtain ⟨z, h1, h2⟩ := a9J r (q ++ (str [32] ++ tx x)) (fun y h => hi y (b2C _ h)) (by omega)
  refine ⟨z, ?_, by simp only [b2v]; omega⟩
  rw [K8.loop1, a8h hx, b2m, a3I (by omega), b2m, a3I (by omega), b2m]
  exact h1
theorem b2j {l : List Int} {w : ByteArray} (hi : inL inI l) (h : w.size + 22 * l.length < 4294967295) : ∃ z, K8 w l = some z ∧ 0 < z.size ∧ z.size ≤ w.size + 22 * l.length + 1 := by
 obtain ⟨z, h1, h2⟩ := a9J l w hi (by omega)
 have s10 : (str [10]).size = 1 := rfl
 have e : (z ++ str [10]).size = z.size + 1 := by rw [ByteArray.size_append, s10]
 exact ⟨z ++ str [10], by rw [K8, h1, b2m, a3I (by omega)]; rfl, by omega, by omega⟩
theorem wr {l : List Int} {w y : ByteArray} {b : Bool} (hi : inL inI l) (hw : w.size ≤ 5) (h : y.size + (22 * l.length + 6) < 4294967295) :
  ∃ z, I3 w l b y = some (b && l.all wi, z) ∧ z.size ≤ y.size + (22 * l.length + 6) := by
 obtain ⟨z, h1, h2, h3⟩ := b2j (w := w) hi (by omega)
 have e : (y ++ z).size = y.size + z.size := ByteArray.size_append
 exact ⟨y ++ z, by rw [I3, a9c, J1, h1, b2m, a9R h2 (by omega)]; rfl, by omega⟩
theorem b1d : ∀ (l : List B9) (y : ByteArray) (b : Bool), inL a1h l → y.size + 94 * l.length < 4294967000 →
  ∃ z, I4.loop2 l y b = some (z, b && (l.map a5n).all (·.all wi)) ∧ z.size ≤ y.size + 94 * l.length
 | [], y, b, _, _ => ⟨y, by simp [I4.loop2], by simp⟩
 | x :: r, y, b, hi, h => by
  simp only [b2v] at h
  have hx := hi x (b2A ..)
  obtain ⟨z, h1, h2⟩ := wr (l := a5n x) (w := str [115, 116, 111, 112]) (y := y) (b := b) (by
   intro v hv
   simp only [a5n, b2M, b3X, or_false] at hv
   rcases hv with rfl | rfl | rfl | rfl
   ·exact hx.1
   ·exact hx.2.1
   ·exact hx.2.2.1
   ·exact hx.2.2.2) (by decide) (by simp [a5n]; omega)
  simp only [a5n, b2v, b3j] at h2
  obtain ⟨z2, h3, h4⟩ := b1d r z (b && (a5n x).all wi) (fun y h => hi y (b2C _ h)) (by omega)
  refine ⟨z2, ?_, by simp only [b2v]; omega⟩
  rw [I4.loop2]
  rw [show [x.Station, x.Track, x.Arr, x.Dep] = a5n x from rfl, h1, b2m]
  dsimp only
  rw [h3, b2L, b4O, Bool.and_assoc]
theorem b0G (w : ByteArray) (hw : w.size ≤ 5) (F : List (List Int) → ByteArray → Bool → Option (ByteArray × Bool)) (hn : ∀ y b, F [] y b = some (y, b))
  (hc : ∀ x r y b, F (x :: r) y b = (I3 w x b y).bind fun q => F r q.2 q.1) (m : Nat) (hm : m ≤ 100) : ∀ (l : List (List Int)) (y : ByteArray) (b : Bool), inL (inL inI) l → (∀ g ∈ l, g.length ≤ m) → y.size + (22 * m + 6) * l.length < 4294960000 →
  ∃ z, F l y b = some (z, b && l.all (·.all wi)) ∧ z.size ≤ y.size + (22 * m + 6) * l.length
 | [], y, b, _, _, _ => ⟨y, by simp [hn], by simp⟩
 | x :: r, y, b, hi, hl, h => by
  simp only [b2v, Nat.mul_add, b4i] at h
  have hx := hi x (b2A ..)
  have hxl := hl x (b2A ..)
  obtain ⟨z, h1, h2⟩ := wr (l := x) (w := w) (y := y) (b := b) hx hw (by omega)
  obtain ⟨z2, h3, h4⟩ := b0G w hw F hn hc m hm r z (b && x.all wi) (fun y h => hi y (b2C _ h)) (fun g h => hl g (b2C _ h)) (by omega)
  refine ⟨z2, ?_, by simp only [b2v, Nat.mul_add, b4i]; omega⟩
  rw [hc, h1, b2m]
  dsimp only
  rw [h3, b4O, Bool.and_assoc]
theorem b0W : ∀ (l : List B1) (y : ByteArray) (b : Bool), inL a0r l → (∀ t ∈ l, V1 t) → y.size + 1700 * l.length < 4294900000 →
  ∃ z, I4.loop1 l y b = some (z, b && (l.flatMap a5h).all (·.all wi)) ∧ z.size ≤ y.size + 1700 * l.length
 | [], y, b, _, _, _ => ⟨y, by simp [I4.loop1], by simp⟩
 | t :: r, y, b, hi, hf, h => by
  simp only [b2v] at h
  obtain ⟨i1, i2, i3, i4⟩ := hi t (b2A ..)
  obtain ⟨t1, t2, t3, t4⟩ := hf t (b2A ..)
  obtain ⟨z, h1, h2⟩ := wr (l := [t.No, t.Stock]) (w := str [116, 114, 97, 105, 110]) (y := y) (b := b) (by
   intro v hv
   simp only [b2M, b3X, or_false] at hv
   rcases hv with rfl | rfl
   ·exact i1
   ·exact i2) (by decide) (by simp; omega)
  simp only [b2v, b3j] at h2
  obtain ⟨z2, h3, h4⟩ := b1d t.Stops z (b && [t.No, t.Stock].all wi) i3 (by omega)
  obtain ⟨z3, h5, h6⟩ := b0G (str [108, 101, 103]) (by decide) I4.loop3 (fun _ _ => rfl) (fun _ _ _ _ => rfl) 4 (by omega) t.Legs z2 ((b && [t.No, t.Stock].all wi) && (t.Stops.map a5n).all (·.all wi)) i4 t4 (by omega)
  obtain ⟨z4, h7, h8⟩ := b0W r z3 (((b && [t.No, t.Stock].all wi) && (t.Stops.map a5n).all (·.all wi)) && t.Legs.all (·.all wi)) (fun y h => hi y (b2C _ h)) (fun y h => hf y (b2C _ h)) (by omega)
  refine ⟨z4, ?_, by simp only [b2v]; omega⟩
  rw [I4.loop1, h1, b2m]
  dsimp only
  rw [h3, b2m]
  dsimp only
  rw [h5, b2m]
  dsimp only
  rw [h7]
  simp only [b3P, a5h, b4w, b4O, b4B, Bool.and_assoc, List.all_nil]
theorem a8i {d : B0} (hi : S5 d) : ∃ e b, A9 d = some e ∧ I4 d = some (b, e) ∧ (e = 0 → a1X d) := by
 rcases a6V d with h | ⟨h, k⟩
 ·refine ⟨F1 d, str [], ?_, ?_, fun e => absurd e h⟩
  ·revert h
   rw [A9, F1]
   simp only [a8G, a8D, J1]
   cases (if decide (((d.Trains).length : Int) > 12) = true then true else decide (((d.Turns).length : Int) > 8)) with
   | true => intro _; rfl
   | false =>
    simp only [b2s, if_false]
    cases F1.loop1 d.Trains with
    | ret r => intro _; rfl
    | next u =>
     dsimp only
     cases F1.loop4 d.Turns with
     | ret r => intro _; rfl
     | next u => intro h; exact absurd rfl h
  ·rw [I4, if_pos (by simpa using h)]
 ·obtain ⟨k1, k2, k3, k4⟩ := k
  have hnum := a8f ⟨k1, k2, k3, k4⟩
  obtain ⟨z, h1, h2⟩ := b0W d.Trains ByteArray.empty true hi.1 k3 (by simp; omega)
  have h2' : z.size ≤ 1700 * d.Trains.length := by simpa using h2
  obtain ⟨z2, h3, h4⟩ := b0G (str [116, 117, 114, 110]) (by decide) I4.loop4 (fun _ _ => rfl) (fun _ _ _ _ => rfl) 12 (by omega) d.Turns z (true && (d.Trains.flatMap a5h).all (·.all wi)) hi.2 k4 (by omega)
  have hT : A9 d = some (if (d.Trains.flatMap a5h ++ d.Turns).all (·.all wi) then 0 else 2) := by
   have h' := h
   rw [F1] at h'
   simp only [J1] at h'
   rw [A9]
   simp only [a8G, a8D, J1]
   cases hc : (if decide (((d.Trains).length : Int) > 12) = true then true else decide (((d.Turns).length : Int) > 8)) with
   | true => rw [hc] at h'; cases h'
   | false =>
    rw [hc] at h'
    simp only [b2s, if_false] at h' ⊢
    cases hA : F1.loop1 d.Trains with
    | ret r =>
     rw [hA] at h'
     rcases a1S d.Trains with ⟨e, he, hh⟩ | ⟨hh, _⟩
     ·rw [hA] at hh; injection hh with hh; dsimp only at h'; rw [hh] at h'; exact absurd h' he
     ·rw [hA] at hh; cases hh
    | next u =>
     rw [hA] at h'
     dsimp only at h' ⊢
     cases hB : F1.loop4 d.Turns with
     | ret r =>
      rw [hB] at h'
      rcases a1Y d.Turns with ⟨e, he, hh⟩ | ⟨hh, _⟩
      ·rw [hB] at hh; injection hh with hh; dsimp only at h'; rw [hh] at h'; exact absurd h' he
      ·rw [hB] at hh; cases hh
     | next u =>
      dsimp only
      rw [hnum, b2m, b1u _ _ 0 (b2U), b2m]
      cases (d.Trains.flatMap a5h ++ d.Turns).all (·.all wi) <;> rfl
  refine ⟨_, if (d.Trains.flatMap a5h ++ d.Turns).all (·.all wi) then z2 else str [], hT, ?_, fun _ => ⟨k1, k2, k3, k4⟩⟩
  rw [I4, if_neg (by simp [h]), h1, b2m]
  dsimp only
  rw [h3, b2m]
  dsimp only
  rw [b4B]
  cases hA : (d.Trains.flatMap a5h).all (·.all wi) <;> cases hB : d.Turns.all (·.all wi) <;> simp [hA, hB]
theorem b1c (t : B1) : ∀ (l : List B9) (k : Nat), C0.loop3 t l k = H9.loop2 t l k
 | [], _ => rfl
 | x :: r, k => by
  simp only [C0.loop3, H9.loop2, b1c t r]
  rfl
def a3F (l : List B9) : Prop := (∀ x ∈ l, 0 ≤ x.Station ∧ x.Station ≤ 11 ∧ 0 ≤ x.Arr ∧ x.Arr ≤ 28800 ∧ 0 ≤ x.Dep ∧ x.Dep ≤ 28800 ∧ x.Arr ≤ x.Dep) ∧ ∀ k x y, l[k]? = some x → l[k + 1]? = some y → x.Dep < y.Arr
theorem K5 (x a b : Int) : D5 x a b = true ↔ a ≤ x ∧ x ≤ b := by
 unfold D5 bnd
 by_cases h : x ≥ a <;> simp [h] <;> omega
theorem a2L (t : B1) (hl : t.Stops.length ≤ 9223372036854775807) : ∀ (r : List B9) (k : Nat), t.Stops.drop k = r →
  (∃ e, e ≠ 0 ∧ H9.loop2 t r k = some (.ret e)) ∨ (H9.loop2 t r k = some (.next ()) ∧ (∀ x ∈ r, 0 ≤ x.Station ∧ x.Station ≤ 11 ∧ 0 ≤ x.Arr ∧ x.Arr ≤ 28800 ∧ 0 ≤ x.Dep ∧ x.Dep ≤ 28800 ∧ x.Arr ≤ x.Dep) ∧ ∀ j x y, k ≤ j + 1 → t.Stops[j]? = some x → t.Stops[j + 1]? = some y → x.Dep < y.Arr)
 | [], k, hd => .inr ⟨rfl, by simp, fun j x y hj hx hy => by
   have := E8 hd
   have := (b2t.1 hy).1
   omega⟩
 | x :: r, k, hd => by
  obtain ⟨d1, d2, d3⟩ := C3 hd
  rw [H9.loop2, J1]
  cases c1 : D5 x.Station 0 11 with
  | false => exact .inl ⟨2, by decide, by simp⟩
  | true =>
   cases c2 : D5 x.Arr 0 28800 with
   | false => exact .inl ⟨2, by decide, by simp⟩
   | true =>
    cases c3 : D5 x.Dep 0 28800 with
    | false => exact .inl ⟨2, by decide, by simp⟩
    | true =>
     have w1 := (K5 _ _ _).1 c1
     have w2 := (K5 _ _ _).1 c2
     have w3 := (K5 _ _ _).1 c3
     simp only [b2W, b2s, if_false]
     by_cases c4 : x.Dep < x.Arr
     ·exact .inl ⟨5, by decide, by simp [c4]⟩
     ·simp only [decide_eq_false c4, b2s, if_false]
      rcases b2T k with c5 | c5
      ·subst c5
       simp only [Int.ofNat_eq_natCast, Int.natCast_zero, gt_iff_lt, Int.lt_irrefl, decide_false, b2s, if_false, b2m]
       rcases a2L t hl r 1 d3 with h | ⟨h, k1, k2⟩
       ·exact .inl h
       ·refine .inr ⟨h, ?_, fun j a b _ ha hb => k2 j a b (by omega) ha hb⟩
        intro y hy
        rcases b2M.1 hy with rfl | hy
        ·omega
        ·exact k1 y hy
      ·rw [if_pos (by simpa using c5), X7 c5 (by omega) hl, b2m, b2m]
       by_cases c6 : x.Arr ≤ (t.Stops[k - 1]'(by omega)).Dep
       ·exact .inl ⟨5, by decide, by simp [c6]⟩
       ·simp only [decide_eq_false c6, b2s, if_false]
        rcases a2L t hl r (k + 1) d3 with h | ⟨h, k1, k2⟩
        ·exact .inl h
        ·refine .inr ⟨h, ?_, fun j a b hj ha hb => ?_⟩
         ·intro y hy
          rcases b2M.1 hy with rfl | hy
          ·omega
          ·exact k1 y hy
         ·by_cases e : j + 1 = k
          ·subst e
           rw [d2] at hb
           injection hb with hb
           subst hb
           have : t.Stops[j + 1 - 1]'(by omega) = a := by
            have := b2t.1 ha
            obtain ⟨_, h2⟩ := this
            simpa using h2
           rw [this] at c6
           omega
          ·exact k2 j a b (by omega) ha hb
theorem a9w (t : B1) : ∀ l : List B1, C0.loop2 t l = if l.any (·.No == t.No) then .ret 6 else .next ()
 | [] => rfl
 | x :: r => by
  rw [C0.loop2, a9w t r]
  cases h : (x.No == t.No) <;> simp [h]
structure O5 (d : B0) : Prop where
 form : a1X d
 two : ∀ t ∈ d.Trains, 2 ≤ t.Stops.length
 stops : ∀ t ∈ d.Trains, a3F t.Stops
 nos : ∀ t ∈ d.Trains, 1 ≤ t.No ∧ t.No ≤ 9999
 apart : ∀ (i j : Nat) (s t : B1), i < j → d.Trains[i]? = some s → d.Trains[j]? = some t → s.No ≠ t.No
theorem b1i (d : B0) (hl : d.Trains.length ≤ 9223372036854775807) (hs : ∀ t ∈ d.Trains, t.Stops.length ≤ 9223372036854775807) : ∀ (r : List B1) (k : Nat) (q : List (Int × Bool)), d.Trains.drop k = r →
  (∀ n, (O2 q n).getD false = (d.Trains.take k).any (·.No == n)) →
  (∃ e, e ≠ 0 ∧ C0.loop1 d r k = some (.ret e) ∧ H9.loop1 r q = some (.ret e)) ∨
  (C0.loop1 d r k = some (.next ()) ∧ (∃ q', H9.loop1 r q = some (.next q')) ∧ (∀ t ∈ r, 2 ≤ t.Stops.length ∧ a3F t.Stops ∧ 1 ≤ t.No ∧ t.No ≤ 9999) ∧ ∀ i j s t, i < j → k ≤ j → d.Trains[i]? = some s → d.Trains[j]? = some t → s.No ≠ t.No)
 | [], k, q, hd, _ => .inr ⟨rfl, ⟨q, rfl⟩, by simp, fun i j s t _ hj _ ht => by
   have := E8 hd
   have := (b2t.1 ht).1
   omega⟩
 | t :: r, k, q, hd, hq => by
  obtain ⟨d1, d2, d3⟩ := C3 hd
  have htm : t ∈ d.Trains := b2J d2
  rw [C0.loop1, H9.loop1, a0P (by omega) (by omega) (by omega), b2m, J1, a9w, hq]
  rw [show C6 t.No 1 9999 = D5 t.No 1 9999 from rfl]
  cases c1 : D5 t.No 1 9999 with
  | false => exact .inl ⟨2, by decide, by simp, by simp⟩
  | true =>
   have w1 := (K5 _ _ _).1 c1
   simp only [b2W, b2s, if_false]
   have e0 : List.drop (Int.toNat 0) (List.take (((k : Nat) : Int).toNat) d.Trains) = d.Trains.take k := by simp
   rw [e0]
   cases c2 : (d.Trains.take k).any (·.No == t.No) with
   | true => exact .inl ⟨6, by decide, by simp, by simp⟩
   | false =>
    simp only [b2s, if_false]
    by_cases c3 : ((t.Stops.length : Nat) : Int) < 2
    ·exact .inl ⟨1, by decide, by simp [c3], by simp [c3]⟩
    ·simp only [decide_eq_false c3, b2s, if_false, b1c]
     rcases a2L t (hs t htm) t.Stops 0 rfl with ⟨e, he, h⟩ | ⟨h, k1, k2⟩
     ·exact .inl ⟨e, he, by rw [h]; rfl, by rw [h]; rfl⟩
     ·rw [h, b2m, b2m]
      dsimp only
      have hq2 : ∀ n, (O2 (O1 q t.No true) n).getD false = (d.Trains.take (k + 1)).any (·.No == n) := by
       intro n
       rw [a6J, b4r, d2]
       simp only [Option.toList_some, List.any_append, List.any_cons, List.any_nil, Bool.or_false]
       by_cases c : n = t.No
       ·subst c; simp
       ·have : (t.No == n) = false := by simpa using fun h => c h.symm
        rw [if_neg c, this, Bool.or_false]; exact hq n
      rcases b1i d hl hs r (k + 1) (O1 q t.No true) d3 hq2 with ⟨e, he, h1, h2⟩ | ⟨h1, ⟨q', h2⟩, h3, h4⟩
      ·exact .inl ⟨e, he, h1, h2⟩
      ·refine .inr ⟨h1, ⟨q', h2⟩, ?_, ?_⟩
       ·intro u hu
        rcases b2M.1 hu with rfl | hu
        ·exact ⟨by omega, ⟨k1, fun j x y hx hy => k2 j x y (by omega) hx hy⟩, w1.1, w1.2⟩
        ·exact h3 u hu
       ·intro i j s u hij hj hi hu
        by_cases e : j = k
        ·subst e
         rw [d2] at hu
         injection hu with hu
         subst hu
         intro e
         have : (d.Trains.take j).any (·.No == t.No) = true := by
          rw [List.any_eq_true]
          refine ⟨s, ?_, by simpa using e⟩
          apply b2J (i := i)
          rw [b2H, if_pos hij]; exact hi
         rw [this] at c2; cases c2
        ·exact h4 i j s u hij (by omega) hi hu
theorem a1k {d : B0} (hi : S5 d) : ∃ e, C0 d = some e ∧ H9 d = some e ∧ (e = 0 → O5 d) := by
 obtain ⟨e, b, h1, h2, h3⟩ := a8i hi
 rw [C0, H9, h1, h2, b2m, b2m]
 by_cases c : e = 0
 ·subst c
  have hf := h3 rfl
  simp only [bne_self_eq_false, b2s, if_false]
  rcases b1i d (by have := hf.1; omega) (fun t ht => by have := (hf.2.2.1 t ht).2.1; omega) d.Trains 0 [] rfl (by simp [O2]) with ⟨e, he, k1, k2⟩ | ⟨k1, ⟨q', k2⟩, k3, k4⟩
  ·exact ⟨e, by rw [k1]; rfl, by rw [k2]; rfl, fun h => absurd h he⟩
  ·refine ⟨0, by rw [k1]; rfl, by rw [k2]; rfl, fun _ => ⟨hf, fun t ht => (k3 t ht).1, fun t ht => (k3 t ht).2.1, fun t ht => (k3 t ht).2.2, fun i j s t hij hs ht => k4 i j s t hij (by omega) hs ht⟩⟩
 ·have : (e != 0) = true := by simpa using c
  simp only [this, if_true]
  exact ⟨e, rfl, rfl, fun h => absurd h c⟩
theorem a2Q : S5 J4 := by
 simp [S5, inL, a0r, a1h, inI, J4, L4, bnd]
theorem a0T : H9 J4 = some 0 := by
 obtain ⟨e, h1, h2, _⟩ := a1k a2Q
 have h3 : C0 J4 = some 0 := by kernel_rfl
 rw [h1] at h3
 injection h3 with h3
 rw [h2, h3]
theorem a4g {α : Type} {l : List α} {i : Int} {x : α} (h : gx l i = some x) : x ∈ l := b2J (W8 h).2.2
theorem a7M {α : Type} {l : List α} {i : Int} {x : α} (h : gx l i = some x) : 0 ≤ i ∧ i < l.length := by obtain ⟨h1, h2, _⟩ := W8 h; omega
abbrev RR := A1 × B9 × B9
def AF (t on : Nat) (a : B9) : List B9 → Nat → List RR
 | [], _ => []
 | b :: r, off => (⟨(t : Int), (on : Int), (off : Int)⟩, a, b) :: AF t on a r (off + 1)
def AS (t : Nat) : List B9 → Nat → List RR
 | [], _ => []
 | a :: r, on => AF t on a r (on + 1) ++ AS t r (on + 1)
def AT : List B1 → Nat → List RR
 | [], _ => []
 | x :: r, t => AS t x.Stops 0 ++ AT r (t + 1)
def fits (st at_ nt : Int) (q : RR) : Bool := !(q.1.Train == nt) && !(decide (q.2.1.Station ≠ st ∨ q.2.1.Dep < at_))
theorem rF (t on : Nat) (a : B9) : ∀ (r : List B9) (off : Nat), (AF t on a r off).map (·.1) = ridesF t on r.length off
 | [], _ => rfl
 | b :: r, off => by simp [AF, ridesF, rF t on a r (off + 1)]
theorem a6e {t on : Nat} {a : B9} : ∀ {r : List B9} {off : Nat} {q : RR}, q ∈ AF t on a r off → q.1.Train = (t : Int) ∧ q.1.On = (on : Int) ∧ q.2.1 = a
 | [], _, _, h => by simp [AF] at h
 | b :: r, off, q, h => by
  rcases b2M.1 h with rfl | h
  ·exact ⟨rfl, rfl, rfl⟩
  ·exact a6e h
theorem W2 {α : Type} {p : α → Bool} {b : Bool} : ∀ {l : List α}, (∀ x ∈ l, p x = b) → l.filter p = if b then l else []
 | [], _ => by cases b <;> rfl
 | x :: r, h => by
  have h1 := h x (b2A ..)
  have h2 := W2 (l := r) fun y hy => h y (b2C _ hy)
  rw [b3A, h1, h2]
  cases b <;> rfl
theorem rS (st at_ nt : Int) (t len : Nat) (ht : ¬ (t : Int) = nt) : ∀ (l : List B9) (on : Nat), on + l.length = len → ((AS t l on).filter (fits st at_ nt)).map (·.1) = ridesS st at_ t len l on
 | [], _, _ => rfl
 | a :: r, on, h => by
  simp only [b2v] at h
  rw [AS, ridesS, b3J, b3b, rS st at_ nt t len ht r (on + 1) (by omega)]
  congr 1
  have e : ∀ q ∈ AF t on a r (on + 1), fits st at_ nt q = !(decide (a.Station ≠ st ∨ a.Dep < at_)) := by
   intro q hq
   obtain ⟨h1, _, h3⟩ := a6e hq
   unfold fits
   have : (q.1.Train == nt) = false := by rw [h1]; simpa using ht
   rw [this, h3]; rfl
  rw [W2 e]
  by_cases c : a.Station ≠ st ∨ a.Dep < at_
  ·rw [if_pos c, if_neg (by simp [c])]; rfl
  ·rw [if_neg c, if_pos (by simpa using c), rF, show len - (on + 1) = r.length by omega]
theorem a9e {t : Nat} : ∀ {l : List B9} {on : Nat} {q : RR}, q ∈ AS t l on → q.1.Train = (t : Int)
 | [], _, _, h => by simp [AS] at h
 | a :: r, on, q, h => by
  rcases b2X.1 h with h | h
  ·exact (a6e h).1
  ·exact a9e h
theorem rT (st at_ nt : Int) : ∀ (l : List B1) (t : Nat), ((AT l t).filter (fits st at_ nt)).map (·.1) = ridesT st at_ nt l t
 | [], _ => rfl
 | x :: r, t => by
  rw [AT, ridesT, b3J, b3b, rT st at_ nt r (t + 1)]
  congr 1
  by_cases c : (t : Int) = nt
  ·rw [if_pos c, W2 (b := false)]
   ·rfl
   ·intro q hq
    unfold fits
    rw [a9e hq, beq_iff_eq.2 c]; rfl
  ·rw [if_neg c, rS st at_ nt t x.Stops.length c x.Stops 0 (by simp)]
theorem a9b {t on : Nat} {a : B9} {L : List B9} : ∀ {r : List B9} {off : Nat} {q : RR}, L.drop off = r → q ∈ AF t on a r off → ∃ k : Nat, off ≤ k ∧ q = (⟨(t : Int), (on : Int), (k : Int)⟩, a, q.2.2) ∧ L[k]? = some q.2.2
 | [], _, _, _, h => by simp [AF] at h
 | b :: r, off, q, hd, h => by
  obtain ⟨d1, d2, d3⟩ := C3 hd
  rcases b2M.1 h with rfl | h
  ·exact ⟨off, b2Z _, rfl, d2⟩
  ·obtain ⟨k, h1, h2⟩ := a9b d3 h
   exact ⟨k, by omega, h2⟩
theorem a9D {t : Nat} {L : List B9} : ∀ {l : List B9} {on : Nat} {q : RR}, L.drop on = l → q ∈ AS t l on → ∃ i k : Nat, i < k ∧ q = (⟨(t : Int), (i : Int), (k : Int)⟩, q.2.1, q.2.2) ∧ L[i]? = some q.2.1 ∧ L[k]? = some q.2.2
 | [], _, _, _, h => by simp [AS] at h
 | a :: r, on, q, hd, h => by
  obtain ⟨d1, d2, d3⟩ := C3 hd
  rcases b2X.1 h with h | h
  ·obtain ⟨k, h1, h2, h3⟩ := a9b d3 h
   obtain ⟨_, _, e⟩ := a6e h
   exact ⟨on, k, by omega, by rw [e]; exact h2, by rw [e]; exact d2, h3⟩
  ·exact a9D d3 h
theorem a9G {D : List B1} : ∀ {l : List B1} {t : Nat} {q : RR}, D.drop t = l → q ∈ AT l t → ∃ (u i k : Nat) (x : B1), i < k ∧ q = (⟨(u : Int), (i : Int), (k : Int)⟩, q.2.1, q.2.2) ∧ D[u]? = some x ∧ x.Stops[i]? = some q.2.1 ∧ x.Stops[k]? = some q.2.2
 | [], _, _, _, h => by simp [AT] at h
 | x :: r, t, q, hd, h => by
  obtain ⟨d1, d2, d3⟩ := C3 hd
  rcases b2X.1 h with h | h
  ·obtain ⟨i, k, h1, h2, h3, h4⟩ := a9D (L := x.Stops) b2U h
   exact ⟨t, i, k, x, h1, h2, d2, h3, h4⟩
  ·exact a9G d3 h
def AD (d : B0) : List RR := AT d.Trains 0
structure a7v (d : B0) (q : RR) (x : B1) : Prop where
 tr : gx d.Trains q.1.Train = some x
 on : gx x.Stops q.1.On = some q.2.1
 off : gx x.Stops q.1.Off = some q.2.2
 lt : q.1.On < q.1.Off
 mem : x ∈ d.Trains
 onm : q.2.1 ∈ x.Stops
 offm : q.2.2 ∈ x.Stops
theorem a1V {d : B0} {q : RR} (h : q ∈ AD d) : ∃ x, a7v d q x := by
 obtain ⟨u, i, k, x, h1, h2, h3, h4, h5⟩ := a9G (D := d.Trains) b2U h
 refine ⟨x, ?_, ?_, ?_, ?_, b2J h3, b2J h4, b2J h5⟩
 ·rw [h2]; show gx d.Trains (u : Int) = _; rw [O0]; exact h3
 ·rw [h2]; show gx x.Stops (i : Int) = _; rw [O0]; exact h4
 ·rw [h2]; show gx x.Stops (k : Int) = _; rw [O0]; exact h5
 ·rw [h2]; show (i : Int) < (k : Int); omega
theorem a4h {l : List B9} (h : a3F l) : ∀ (n i : Nat) (x y : B9), l[i]? = some x → l[i + n + 1]? = some y → x.Dep < y.Arr
 | 0, i, x, y, hx, hy => h.2 i x y hx hy
 | n + 1, i, x, y, hx, hy => by
  have hl := (b2t.1 hy).1
  have hz : l[i + 1]? = some l[i + 1] := b2q (by omega)
  have h1 := h.2 i x _ hx hz
  have h2 := a4h h n (i + 1) _ y hz (by rw [show i + 1 + n + 1 = i + (n + 1) + 1 by omega]; exact hy)
  have h3 := (h.1 _ (b2J hz)).2.2.2.2.2.2
  omega
theorem T2 {d : B0} (hd : O5 d) {q : RR} (h : q ∈ AD d) : 0 ≤ q.2.1.Dep ∧ q.2.1.Dep < q.2.2.Arr ∧ q.2.2.Arr ≤ 28800 ∧ 0 ≤ q.2.2.Station ∧ q.2.2.Station ≤ 11 ∧ 0 ≤ q.2.1.Station ∧ q.2.1.Station ≤ 11 ∧ 0 ≤ q.1.Train ∧ q.1.Train < 12 ∧ 0 ≤ q.1.On ∧ 0 ≤ q.1.Off ∧ q.1.Off < 8 := by
 obtain ⟨x, o⟩ := a1V h
 have hs := hd.stops x o.mem
 have a := hs.1 _ o.onm
 have b := hs.1 _ o.offm
 obtain ⟨e1, e2, e3⟩ := W8 o.on
 obtain ⟨f1, f2, f3⟩ := W8 o.off
 obtain ⟨t1, t2, _⟩ := W8 o.tr
 have hlt := o.lt
 have := a4h hs (q.1.Off.toNat - q.1.On.toNat - 1) q.1.On.toNat _ _ e3 (by rw [show q.1.On.toNat + (q.1.Off.toNat - q.1.On.toNat - 1) + 1 = q.1.Off.toNat by omega]; exact f3)
 have h8 := (hd.form.2.2.1 x o.mem).2.1
 have h12 := hd.form.1
 omega
theorem a7I (t on : Nat) (a : B9) : ∀ (r : List B9) (off : Nat), (AF t on a r off).length = r.length
 | [], _ => rfl
 | b :: r, off => by simp [AF, a7I t on a r]
theorem a7l (t : Nat) : ∀ (l : List B9) (on : Nat), 2 * (AS t l on).length + l.length = l.length * l.length
 | [], _ => rfl
 | a :: r, on => by
  have := a7l t r (on + 1)
  simp only [AS, b2u, a7I, b2v, b2R, Nat.mul_add, b4i, Nat.one_mul]; omega
theorem a7g : ∀ (l : List B1) (t : Nat), (∀ x ∈ l, x.Stops.length ≤ 8) → (AT l t).length ≤ 28 * l.length
 | [], _, _ => by simp [AT]
 | x :: r, t, h => by
  have h1 := a7g r (t + 1) fun y hy => h y (b2C _ hy)
  have h2 := h x (b2A ..)
  have h3 := a7l t x.Stops 0
  have h4 : 2 * (AS t x.Stops 0).length ≤ 56 := by
   generalize x.Stops.length = n at h2 h3
   have : n * n ≤ 8 * n := Nat.mul_le_mul_right _ h2
   omega
  simp only [AT, b2u, b2v]; omega
theorem a5u {d : B0} (hd : O5 d) : (AD d).length ≤ 336 := by
 have := a7g d.Trains 0 fun x hx => (hd.form.2.2.1 x hx).2.1
 have := hd.form.1
 unfold AD; omega
def P3 (ls : Int) (p r : RR) : Bool := !(r.1.Train == p.1.Train) && !(decide (r.2.1.Station ≠ p.2.2.Station ∨ r.2.1.Dep < p.2.2.Arr + ls))
theorem a5j (ls : Int) (p : RR) : P3 ls p = fits p.2.2.Station (p.2.2.Arr + ls) p.1.Train := rfl
def nx (ls : Int) (first : RR → Bool) (c : List RR) : RR → Bool := match c.getLast? with
 | none => first
 | some p => P3 ls p
def dfs (A : List RR) (ls : Int) (first fin : RR → Bool) : Nat → List RR → List (List RR)
 | 0, c => if c.getLast?.any fin then [c] else []
 | m + 1, c => (if c.getLast?.any fin then [c] else []) ++ (A.filter (nx ls first c)).flatMap fun r => dfs A ls first fin m (c ++ [r])
theorem a4G {α : Type} (g : α → Nat) : ∀ (l : List α), (l.map fun q => 1 + g q).sum = l.length + (l.map g).sum
 | [] => rfl
 | x :: r => by simp only [b2L, b3Q, a4G g r, b2v]; omega
theorem a4s {α : Type} (g : α → Nat) (z : Nat) : ∀ (l : List α), (l.map fun q => 1 + g q * z).sum = l.length + (l.map g).sum * z
 | [] => by simp
 | x :: r => by simp only [b2L, b3Q, a4s g z r, b2v, b2R]; omega
def later (D : RR → Int) (L : List RR) : Nat := (L.map fun a => (L.filter fun b => decide (D a < D b)).length).sum
theorem a1x {α : Type} {f g : α → Nat} : ∀ {l : List α}, (∀ x ∈ l, f x ≤ g x) → (l.map f).sum ≤ (l.map g).sum
 | [], _ => b2Z _
 | x :: r, h => by
  have h1 := h x (b2A ..)
  have h2 := a1x (l := r) fun y hy => h y (b2C _ hy)
  simp only [b2L, b3Q]; omega
theorem a1p {α : Type} (p : α → Bool) (f : α → Nat) : ∀ (l : List α), ((l.filter p).map f).sum ≤ (l.map f).sum
 | [] => b2Z _
 | x :: r => by
  have := a1p p f r
  rw [b3A]
  split <;> simp only [b2L, b3Q] <;> omega
theorem a2f {α : Type} (c : Nat) : ∀ (l : List α), (l.map fun _ => c).sum = c * l.length
 | [] => rfl
 | x :: r => by simp only [b2L, b3Q, a2f c r, b2v, Nat.mul_add]; omega
theorem a4i (D : RR → Int) : ∀ (L : List RR), 2 * later D L + L.length ≤ L.length * L.length
 | [] => b2Z _
 | x :: L => by
  have ih := a4i D L
  have e1 : ∀ a, ((x :: L).filter fun b => decide (D a < D b)).length = (if D a < D x then 1 else 0) + (L.filter fun b => decide (D a < D b)).length := by
   intro a
   rw [b3A]
   by_cases c : D a < D x
   ·rw [if_pos (by simpa using c), if_pos c]; simp; omega
   ·rw [if_neg (by simpa using c), if_neg c]; omega
  have e2 : ∀ (M : List RR) (f : RR → Nat), (M.map fun a => (if D a < D x then 1 else 0) + f a).sum = (M.filter fun a => decide (D a < D x)).length + (M.map f).sum := by
   intro M f
   induction M with
   | nil => rfl
   | cons y M ih =>
    simp only [b2L, b3Q, ih, b3A]
    by_cases c : D y < D x
    ·rw [if_pos c, if_pos (by simpa using c)]; simp; omega
    ·rw [if_neg c, if_neg (by simpa using c)]; omega
  have e3 : later D (x :: L) = (L.filter fun b => decide (D x < D b)).length + ((L.filter fun a => decide (D a < D x)).length + later D L) := by
   unfold later
   rw [List.map_congr_left fun a _ => e1 a, b2L, b3Q, if_neg (Int.lt_irrefl _), Nat.zero_add, e2]
  have e4 : (L.filter fun b => decide (D x < D b)).length + (L.filter fun a => decide (D a < D x)).length ≤ L.length := by
   clear ih e1 e2 e3
   induction L with
   | nil => simp
   | cons y L ih =>
    simp only [b3A, b2v]
    by_cases c1 : D x < D y
    ·have c2 : ¬ D y < D x := by omega
     simp only [decide_eq_true c1, decide_eq_false c2, if_true, b2s, if_false, b2v]; omega
    ·simp only [decide_eq_false c1, b2s, if_false]
     split <;> (try simp only [b2v]) <;> omega
  rw [e3]
  simp only [b2v, b2R, Nat.mul_add, b4i, Nat.one_mul]; omega
theorem a1O {α β : Type} (f : α → List β) : ∀ (l : List α), (l.flatMap f).length = (l.map fun x => (f x).length).sum
 | [] => rfl
 | x :: r => by simp [a1O f r]
section
variable {A : List RR} {ls : Int} {first fin : RR → Bool}
theorem a1T (c : List RR) (r : RR) : nx ls first (c ++ [r]) = P3 ls r := by simp [nx]
theorem b1J (c : List RR) : (dfs A ls first fin 0 c).length ≤ 1 := by rw [dfs]; split <;> simp
theorem b0i (c : List RR) (m : Nat) : (dfs A ls first fin (m + 1) c).length ≤ 1 + ((A.filter (nx ls first c)).map fun r => (dfs A ls first fin m (c ++ [r])).length).sum := by
 rw [dfs, b2u, a1O]
 have : (if c.getLast?.any fin then [c] else []).length ≤ 1 := by split <;> simp
 omega
def a0I (A : List RR) (ls : Int) : Nat := (A.map fun p => (A.filter (P3 ls p)).length).sum
theorem a8x : (dfs A ls first fin 4 []).length ≤ 1 + A.length + a0I A ls * (1 + A.length + a0I A ls) := by
 have b1 : ∀ c r, (dfs A ls first fin 1 (c ++ [r])).length ≤ 1 + (A.filter (P3 ls r)).length := by
  intro c r
  have this : (dfs A ls first fin 1 (c ++ [r])).length ≤ _ := b0i (c ++ [r]) 0
  rw [a1T] at this
  have h2 := a1x (l := A.filter (P3 ls r)) (f := fun q => (dfs A ls first fin 0 ((c ++ [r]) ++ [q])).length) (g := fun _ => 1) fun q _ => b1J _
  rw [a2f] at h2
  omega
 have b2 : ∀ c r, (dfs A ls first fin 2 (c ++ [r])).length ≤ 1 + A.length + a0I A ls := by
  intro c r
  have this : (dfs A ls first fin 2 (c ++ [r])).length ≤ _ := b0i (c ++ [r]) 1
  rw [a1T] at this
  have h2 := a1x (l := A.filter (P3 ls r)) (f := fun q => (dfs A ls first fin 1 ((c ++ [r]) ++ [q])).length) (g := fun q => 1 + (A.filter (P3 ls q)).length) fun q _ => b1 _ _
  have h3 := a1p (P3 ls r) (fun q => 1 + (A.filter (P3 ls q)).length) A
  have h4 : (A.map fun q => 1 + (A.filter (P3 ls q)).length).sum = A.length + a0I A ls := a4G _ _
  omega
 have b3 : ∀ c r, (dfs A ls first fin 3 (c ++ [r])).length ≤ 1 + (A.filter (P3 ls r)).length * (1 + A.length + a0I A ls) := by
  intro c r
  have this : (dfs A ls first fin 3 (c ++ [r])).length ≤ _ := b0i (c ++ [r]) 2
  rw [a1T] at this
  have h2 := a1x (l := A.filter (P3 ls r)) (f := fun q => (dfs A ls first fin 2 ((c ++ [r]) ++ [q])).length) (g := fun q => 1 + A.length + a0I A ls) fun q _ => b2 _ _
  rw [a2f, Nat.mul_comm] at h2
  omega
 have this : (dfs A ls first fin 4 []).length ≤ _ := b0i [] 3
 have h2 := a1x (l := A.filter (nx ls first [])) (f := fun q => (dfs A ls first fin 3 ([] ++ [q])).length) (g := fun q => 1 + (A.filter (P3 ls q)).length * (1 + A.length + a0I A ls)) fun q _ => b3 _ _
 have h3 := a1p (nx ls first []) (fun q => 1 + (A.filter (P3 ls q)).length * (1 + A.length + a0I A ls)) A
 have h4 : (A.map fun q => 1 + (A.filter (P3 ls q)).length * (1 + A.length + a0I A ls)).sum = A.length + a0I A ls * (1 + A.length + a0I A ls) := a4s _ _ _
 omega
end
theorem a3z {d : B0} (hd : O5 d) {ls : Int} (h0 : 0 ≤ ls) (first fin : RR → Bool) : (dfs (AD d) ls first fin 4 []).length < 4294967296 := by
 have h1 := a8x (A := AD d) (ls := ls) (first := first) (fin := fin)
 have h2 := a5u hd
 have h3 := a4i (fun q => q.2.1.Dep) (AD d)
 have h4 : a0I (AD d) ls ≤ later (fun q => q.2.1.Dep) (AD d) := by
  refine a1x fun p hp => ?_
  have : ∀ (M : List RR), (M.filter (P3 ls p)).length ≤ (M.filter fun b => decide (p.2.1.Dep < b.2.1.Dep)).length := by
   intro M
   induction M with
   | nil => exact b2Z _
   | cons y M ih =>
    rw [b3A, b3A]
    by_cases c : P3 ls p y = true
    ·have ht := T2 hd hp
     have : p.2.1.Dep < y.2.1.Dep := by
      unfold P3 at c
      simp at c
      omega
     rw [if_pos c, if_pos (by simpa using this)]
     simp; omega
    ·rw [if_neg c]
     split
     ·simp; omega
     ·exact ih
  exact this _
 have h5 : (AD d).length * (AD d).length ≤ 336 * 336 := b4G h2 h2
 have h6 : a0I (AD d) ls ≤ 56448 := by omega
 have h7 : a0I (AD d) ls * (1 + (AD d).length + a0I (AD d) ls) ≤ 56448 * (1 + 336 + 56448) := b4G h6 (by omega)
 omega
abbrev JJ (c : List RR) : A3 := ⟨c.map (·.1)⟩
theorem a5I {d : B0} {q : RR} {x : B1} (o : a7v d q x) : (if decide (q.1.Train < 0) = true then true else decide (q.1.Train ≥ ((d.Trains).length : Int))) = false ∧
  (if decide (q.1.On < 0) = true then true else (if decide (q.1.On ≥ ((x.Stops).length : Int)) = true then true else (if decide (q.1.Off < 0) = true then true else decide (q.1.Off ≥ ((x.Stops).length : Int))))) = false ∧ decide (q.1.On ≥ q.1.Off) = false := by
 have h1 := a7M o.tr
 have h2 := a7M o.on
 have h3 := a7M o.off
 have h4 := o.lt
 refine ⟨?_, ?_, decide_eq_false (by omega)⟩
 ·rw [if_neg (by simp; omega)]; exact decide_eq_false (by omega)
 ·rw [if_neg (by simp; omega), if_neg (by simp; omega), if_neg (by simp; omega)]; exact decide_eq_false (by omega)
theorem a5x {d : B0} (hd : O5 d) {ls : Int} (h0 : 0 ≤ ls ∧ ls ≤ 28800) {p r : RR} (hp : p ∈ AD d) (hr : r ∈ AD d) : ∃ e, D4 d ⟨[p.1, r.1]⟩ ls true = some e ∧ (e == 0) = P3 ls p r := by
 obtain ⟨x, ox⟩ := a1V hp
 obtain ⟨y, oy⟩ := a1V hr
 obtain ⟨p1, p2, p3⟩ := a5I ox
 obtain ⟨r1, r2, r3⟩ := a5I oy
 have tp := T2 hd hp
 rw [D4]
 rw [show C6 ls 0 28800 = D5 ls 0 28800 from rfl, (K5 ls 0 28800).2 h0]
 have hw : C6 (([p.1, r.1].length : Nat) : Int) 1 4 = true := rfl
 simp only [b2W, b2s, if_false]
 rw [hw]
 simp only [b2W, b2s, if_false]
 have hg0 : gx [p.1, r.1] (w64 (((1 : Nat) : Int) - 1)) = some p.1 := by rw [Q5 (by omega)]; rfl
 have e01 : (((0 : Nat) : Int) == 0) = true := rfl
 have e11 : (((0 + 1 : Nat) : Int) == 0) = false := rfl
 rw [D4.loop1, J1, p1]
 simp only [b2s, if_false, ox.tr, b2m, J1, p2, p3, e01, if_true]
 rw [D4.loop1, J1, r1]
 simp only [b2s, if_false, oy.tr, b2m, J1, r2, r3, e11]
 rw [show gx [p.1, r.1] (w64 (((0 + 1 : Nat) : Int) - 1)) = some p.1 from hg0]
 simp only [b2m, ox.tr, ox.off, oy.on, if_true]
 rw [Q5 (by omega)]
 unfold P3
 have e6 : (p.1.Train == r.1.Train) = (r.1.Train == p.1.Train) := by rw [b4l, beq_iff_eq, beq_iff_eq]; exact eq_comm
 rw [e6]
 cases c1 : (r.1.Train == p.1.Train) with
 | true => exact ⟨1, rfl, rfl⟩
 | false =>
  simp only [b2s, if_false, b2m]
  by_cases c2 : r.2.1.Station = p.2.2.Station
  ·have e2 : (r.2.1.Station != p.2.2.Station) = false := by simpa using c2
   rw [e2]
   simp only [b2s, if_false]
   by_cases c3 : r.2.1.Dep < p.2.2.Arr + ls
   ·rw [if_pos (by simpa using c3)]
    exact ⟨13, rfl, by simp [c3]⟩
   ·rw [if_neg (by simpa using c3), D4.loop1]
    exact ⟨0, rfl, by simp [c2, c3]⟩
  ·have e2 : (r.2.1.Station != p.2.2.Station) = true := by simpa using c2
   rw [e2]
   exact ⟨1, rfl, by simp [c2]⟩
section
variable {d : B0} (hd : O5 d) {ls : Int} (h0 : 0 ≤ ls ∧ ls ≤ 28800) {to st : Int} {c : List RR} (hc : ∀ q ∈ c, q ∈ AD d) (hcl : c.length ≤ 3) {D : RR → List (List RR)}
 {self : (List A1) → B0 → Int → (List A3) → Int → Int → Option (List A3)}
 (hself : ∀ r ∈ AD d, ∀ acc : List A3, acc.length + (D r).length < 4294967296 → self ((c ++ [r]).map (·.1)) d to acc st ls = some (acc ++ (D r).map JJ))
include hd h0 hc hcl hself
theorem b1e {x : B1} {t on : Nat} {a : B9} (hx : x.Stops.length ≤ 8) (hfirst : c = [] → a.Station = st) : ∀ (r : List B9) (off fu : Nat) (acc : List A3), x.Stops.drop off = r → r.length < fu → (∀ q ∈ AF t on a r off, q ∈ AD d) →
  acc.length + (((AF t on a r off).filter (nx ls (fun q => q.2.1.Station == st) c)).flatMap D).length < 4294967296 →
  ∃ w, B8.loop3 (c.map (·.1)) d to st ls self x t on fu (off : Int) acc = some (w, acc ++ (((AF t on a r off).filter (nx ls (fun q => q.2.1.Station == st) c)).flatMap D).map JJ)
 | _, _, 0, _, _, h, _, _ => absurd h (b4U _)
 | [], off, fu + 1, acc, hdr, _, _, _ => by
  have := E8 hdr
  rw [B8.loop3, if_neg (by simp; omega)]
  exact ⟨(off : Int), by simp [AF]⟩
 | b :: r, off, fu + 1, acc, hdr, hf, hA, hl => by
  obtain ⟨d1, d2, d3⟩ := C3 hdr
  simp only [b2v] at hf
  have hq : ((⟨(t : Int), (on : Int), (off : Int)⟩, a, b) : RR) ∈ AD d := hA _ (by simp [AF])
  have hA2 : ∀ q ∈ AF t on a r (off + 1), q ∈ AD d := fun q h => hA q (by simp [AF, h])
  rw [B8.loop3, if_pos (by simp; omega), E0, M8 (by simp; omega)]
  simp only [b2m, b3c]
  rw [M8 (by simp; omega), b2m, Q5 (x := (off : Int) + 1) (by omega)]
  have hn : ((off : Int) + 1) = ((off + 1 : Nat) : Int) := by omega
  have key : (if ((((c.map (·.1) ++ [⟨(t : Int), (on : Int), (off : Int)⟩] : List A1).length : Nat) : Int) == 1) = true then some true else ((a2M (c.map (·.1) ++ [⟨(t : Int), (on : Int), (off : Int)⟩]) (w64 ((((c.map (·.1) ++ [⟨(t : Int), (on : Int), (off : Int)⟩] : List A1).length : Nat) : Int) - 2)) (((c.map (·.1) ++ [⟨(t : Int), (on : Int), (off : Int)⟩] : List A1).length : Nat) : Int)).bind fun x254 => ((D4 d (A3.mk x254) ls true).bind fun q263 => some (q263 == 0)))) =
    some (nx ls (fun q => q.2.1.Station == st) c (⟨(t : Int), (on : Int), (off : Int)⟩, a, b)) := by
   rcases List.eq_nil_or_concat c with e | ⟨c', p, e⟩
   ·subst e
    simp [nx, hfirst rfl]
   ·rw [List.concat_eq_append] at e
    subst e
    rw [a1T, if_neg (by simp; omega), Q5 (by simp only [b2u, b2B, b2v, b3j] at hcl ⊢; omega)]
    have hpA := hc p (by simp)
    have hcut : a2M ((c' ++ [p]).map (·.1) ++ [⟨(t : Int), (on : Int), (off : Int)⟩] : List A1) ((((c' ++ [p]).map (·.1) ++ [⟨(t : Int), (on : Int), (off : Int)⟩] : List A1).length : Int) - 2) (((c' ++ [p]).map (·.1) ++ [⟨(t : Int), (on : Int), (off : Int)⟩] : List A1).length : Int) = some [p.1, ⟨(t : Int), (on : Int), (off : Int)⟩] := by
     rw [a0P (by simp only [b2u, b2B, b2v, b3j]; omega) (by omega) (Int.le_refl _)]
     congr 1
     rw [b3w (by omega), show (((((c' ++ [p]).map (·.1) ++ [⟨(t : Int), (on : Int), (off : Int)⟩] : List A1).length : Int) - 2).toNat) = (c'.map (·.1)).length from (by simp only [b2u, b2B, b2v, b3j]; omega)]
     rw [b3b, b2y, List.drop_left]
     rfl
    rw [hcut, b2m]
    obtain ⟨e, h1, h2⟩ := a5x hd h0 hpA hq
    rw [h1, b2m, h2]
  rw [key, b2m]
  simp only [AF, b3A] at hl ⊢
  have ih := b1e (t := t) (on := on) hx hfirst r (off + 1) fu
  cases cb : nx ls (fun q => q.2.1.Station == st) c (⟨(t : Int), (on : Int), (off : Int)⟩, a, b) with
  | false =>
   rw [cb] at hl
   simp only [b2s, if_false] at hl ⊢
   rw [hn]
   exact ih acc d3 (by omega) hA2 hl
  | true =>
   rw [cb] at hl
   simp only [if_true, b3P, b2u] at hl ⊢
   have hs := hself _ hq acc (by omega)
   rw [b3b] at hs
   rw [show ([(⟨(t : Int), (on : Int), (off : Int)⟩ : A1)]) = ([((⟨(t : Int), (on : Int), (off : Int)⟩, a, b) : RR)].map (·.1)) from rfl, hs, b2m, hn]
   obtain ⟨w, hw⟩ := ih (acc ++ (D (⟨(t : Int), (on : Int), (off : Int)⟩, a, b)).map JJ) d3 (by omega) hA2 (by simp only [b2u, b2B]; omega)
   exact ⟨w, by rw [hw, b3b, b2y]⟩
theorem b1q {x : B1} {t : Nat} (hx : x.Stops.length ≤ 8) {fu : Nat} (hfu : 10 ≤ fu) : ∀ (l : List B9) (on : Nat) (acc : List A3), x.Stops.drop on = l → (∀ q ∈ AS t l on, q ∈ AD d) →
  acc.length + (((AS t l on).filter (nx ls (fun q => q.2.1.Station == st) c)).flatMap D).length < 4294967296 →
  B8.loop2 (c.map (·.1)) d to st ls fu self x t l on acc = some (acc ++ (((AS t l on).filter (nx ls (fun q => q.2.1.Station == st) c)).flatMap D).map JJ)
 | [], on, acc, _, _, _ => by simp [B8.loop2, AS]
 | a :: r, on, acc, hdr, hA, hl => by
  obtain ⟨d1, d2, d3⟩ := C3 hdr
  have hA1 : ∀ q ∈ AF t on a r (on + 1), q ∈ AD d := fun q h => hA q (by simp [AS, h])
  have hA2 : ∀ q ∈ AS t r (on + 1), q ∈ AD d := fun q h => hA q (by simp [AS, h])
  simp only [AS, b3J, List.flatMap_append, b2u, b3b] at hl ⊢
  rw [B8.loop2, J1]
  have ih := b1q (t := t) hx hfu r (on + 1)
  by_cases cs : c = [] ∧ a.Station ≠ st
  ·obtain ⟨c1, c2⟩ := cs
   have e1 : (if ((((c.map (·.1)).length : Nat) : Int) == 0) = true then (a.Station != st) else false) = true := by rw [c1]; simpa using c2
   rw [e1, if_pos rfl]
   have e2 : (AF t on a r (on + 1)).filter (nx ls (fun q => q.2.1.Station == st) c) = [] := by
    rw [W2 (b := false)]
    ·rfl
    ·intro q hq
     obtain ⟨_, _, h3⟩ := a6e hq
     rw [c1]
     simp only [nx, List.getLast?_nil, h3]
     simpa using c2
   rw [e2] at hl ⊢
   simp only [List.flatMap_nil, b3j, Nat.zero_add, b4y, b3c] at hl ⊢
   exact ih acc d3 hA2 hl
  ·have e1 : (if ((((c.map (·.1)).length : Nat) : Int) == 0) = true then (a.Station != st) else false) = false := by
    by_cases c1 : c = []
    ·have : a.Station = st := Classical.byContradiction fun h => cs ⟨c1, h⟩
     rw [c1]; simpa using this
    ·rw [if_neg]
     intro h
     have h2 : (((c.map (·.1)).length : Nat) : Int) = 0 := by simpa using h
     rw [b2B] at h2
     exact c1 (b2z (by omega))
   rw [e1, if_neg (by decide)]
   have hrl : r.length < fu := by
    have := congrArg List.length d3
    simp at this
    omega
   obtain ⟨w, hw⟩ := b1e hd h0 hc hcl hself hx (fun h => Classical.byContradiction fun k => cs ⟨h, k⟩) r (on + 1) fu acc d3 hrl hA1 (by omega)
   rw [hw, b2m]
   dsimp only
   rw [ih _ d3 hA2 (by simp; simp at hl; omega), b2y]
theorem a9u {fu : Nat} (hfu : 10 ≤ fu) : ∀ (l : List B1) (t : Nat) (acc : List A3), (∀ x ∈ l, x.Stops.length ≤ 8) → (∀ q ∈ AT l t, q ∈ AD d) →
  acc.length + (((AT l t).filter (nx ls (fun q => q.2.1.Station == st) c)).flatMap D).length < 4294967296 →
  B8.loop1 (c.map (·.1)) d to st ls fu self l t acc = some (acc ++ (((AT l t).filter (nx ls (fun q => q.2.1.Station == st) c)).flatMap D).map JJ)
 | [], t, acc, _, _, _ => by simp [B8.loop1, AT]
 | x :: r, t, acc, h8, hA, hl => by
  have hA1 : ∀ q ∈ AS t x.Stops 0, q ∈ AD d := fun q h => hA q (by simp [AT, h])
  have hA2 : ∀ q ∈ AT r (t + 1), q ∈ AD d := fun q h => hA q (by simp [AT, h])
  simp only [AT, b3J, List.flatMap_append, b2u, b3b] at hl ⊢
  rw [B8.loop1, b1q hd h0 hc hcl hself (h8 x (b2A ..)) hfu x.Stops 0 acc b2U hA1 (by omega), b2m,
   a9u hfu r (t + 1) _ (fun y h => h8 y (b2C _ h)) hA2 (by simp; simp at hl; omega), b2y]
end
def a0m (to : Int) (q : RR) : Bool := if decide (to < 0) then true else (q.2.2.Station == to)
theorem a7s {d : B0} (hd : O5 d) {ls : Int} (h0 : 0 ≤ ls ∧ ls ≤ 28800) {to st : Int} : ∀ (m fu : Nat) (c : List RR) (acc : List A3), m + 20 ≤ fu → c.length + m = 4 → (∀ q ∈ c, q ∈ AD d) →
  acc.length + (dfs (AD d) ls (fun q => q.2.1.Station == st) (a0m to) m c).length < 4294967296 →
  B8 fu (c.map (·.1)) d to acc st ls = some (acc ++ (dfs (AD d) ls (fun q => q.2.1.Station == st) (a0m to) m c).map JJ)
 | _, 0, _, _, h, _, _, _ => absurd h (by omega)
 | m, fu + 1, c, acc, hfu, hcm, hc, hl => by
  rw [B8]
  have hA : (if decide ((((c.map (·.1)).length : Nat) : Int) > 0) = true then ((gx (c.map (·.1)) (w64 ((((c.map (·.1)).length : Nat) : Int) - 1))).bind fun x78 => ((gx d.Trains x78.Train).bind fun x88 => ((gx x88.Stops x78.Off).bind fun x103 => (bnd ((if decide (to < 0) then true else (x103.Station == to)) : Bool) fun q116 => (((if q116 then ((E0 (c.map (·.1))).bind fun q133 => ((apd acc [(A3.mk q133)]).bind fun x145 => some x145)) else some acc) : Option (List A3)).bind fun q123 => some q123))))) else some acc) =
    some (acc ++ (if c.getLast?.any (a0m to) then [c] else []).map JJ) := by
   rcases List.eq_nil_or_concat c with e | ⟨c', p, e⟩
   ·subst e; simp
   ·rw [List.concat_eq_append] at e
    subst e
    have hpA := hc p (by simp)
    obtain ⟨x, ox⟩ := a1V hpA
    have hg : gx ((c' ++ [p]).map (·.1)) (w64 (((((c' ++ [p]).map (·.1)).length : Nat) : Int) - 1)) = some p.1 := by
     rw [X7 (by simp) (b2Z _) (by simp only [b2u, b2B, b2v, b3j] at hcm ⊢; omega)]
     simp
    rw [if_pos (by simp), hg]
    simp only [b2m, ox.tr, ox.off, J1]
    rw [show (if decide (to < 0) = true then true else p.2.2.Station == to) = a0m to p from rfl]
    have hl1 : acc.length + (if (c' ++ [p]).getLast?.any (a0m to) then [c' ++ [p]] else []).length < 4294967296 := by
     cases m with
     | zero => rw [dfs] at hl; exact hl
     | succ m => rw [dfs, b2u] at hl; omega
    have e1 : (c' ++ [p]).getLast?.any (a0m to) = a0m to p := by simp
    rw [e1] at hl1 ⊢
    cases hfin : a0m to p with
    | false => simp
    | true =>
     rw [if_pos hfin] at hl1
     simp only [b2v, b3j] at hl1
     rw [if_pos rfl, if_pos rfl, E0]
     rw [M8 (by simp only [b2u, b2B, b2v, b3j] at hcm ⊢; omega), b2m, b2m, M8 (by simp only [b2v, b3j]; omega)]
     simp [JJ]
  rw [hA, b2m]
  cases m with
  | zero =>
   have e4 : ((((c.map (·.1)).length : Nat) : Int) == 4) = true := by rw [b2B, show c.length = 4 by omega]; rfl
   rw [e4, if_pos rfl, dfs]
  | succ m =>
   have e4 : ((((c.map (·.1)).length : Nat) : Int) == 4) = false := by rw [b2B]; simp; omega
   rw [e4, if_neg (by decide), dfs]
   rw [dfs, b2u] at hl
   have h1 := a9u hd h0 (to := to) (st := st) hc (by omega) (D := fun r => dfs (AD d) ls (fun q => q.2.1.Station == st) (a0m to) m (c ++ [r])) (self := B8 fu) (fun r hr acc ha =>
    a7s hd h0 m fu (c ++ [r]) acc (by omega) (by simp; omega) (by
     intro q hq
     rcases b2X.1 hq with hq | hq
     ·exact hc q hq
     ·simp at hq; subst hq; exact hr) ha) (fu := fu) (by omega) d.Trains 0 (acc ++ (if c.getLast?.any (a0m to) then [c] else []).map JJ) (fun x hx => (hd.form.2.2.1 x hx).2.1) (fun q h => h) (by
     rw [b2u, b2B]
     show _ + (((AD d).filter _).flatMap _).length < _
     omega)
   rw [h1, b2m, b3b, b2y]
   rfl
theorem b0B {d : B0} (hd : O5 d) {ls : Int} (h0 : 0 ≤ ls ∧ ls ≤ 28800) (st to : Int) {fu : Nat} (hfu : 40 ≤ fu) : S4 fu d st to ls = some ((dfs (AD d) ls (fun q => q.2.1.Station == st) (a0m to) 4 []).map JJ) := by
 have h := a7s hd h0 (to := to) (st := st) 4 fu [] [] (by omega) rfl (by simp) (by have := a3z hd h0.1 (fun q => q.2.1.Station == st) (a0m to); simpa using this)
 rw [S4]
 rw [show ([] : List A1) = ([] : List RR).map (·.1) from rfl, h]
 simp
theorem a1N {d : B0} {ls st at_ nt : Int} : Q2 ⟨d, ls⟩ st at_ nt = ((AD d).filter (fits st at_ nt)).map (·.1) := (rT st at_ nt d.Trains 0).symm
theorem a7f {d : B0} {ls : Int} {q : RR} (h : q ∈ AD d) : H8 ⟨d, ls⟩ q.1 = some q.2.2 := by
 obtain ⟨x, o⟩ := a1V h
 rw [H8]; simp only [o.tr, o.off, b2m]
theorem a9j {d : B0} {ls : Int} {q : RR} (h : q ∈ AD d) : J0 ⟨d, ls⟩ q.1 = some q.2.1 := by
 obtain ⟨x, o⟩ := a1V h
 rw [J0]; simp only [o.tr, o.on, b2m]
theorem a3k {d : B0} (hd : O5 d) {ls : Int} (h0 : 0 ≤ ls ∧ ls ≤ 28800) {q : RR} (h : q ∈ AD d) : P1 ⟨d, ls⟩ q.1 = some (((AD d).filter (P3 ls q)).map (·.1)) := by
 have := T2 hd h
 rw [P1, a7f h, b2m, J1]
 dsimp only
 rw [Q5 (by omega), a1N, a5j]
theorem a3e : ∀ (l q : List A1), q.length + l.length < 4294967296 → D2.loop1 l q = some (q ++ l)
 | [], q, _ => by simp [D2.loop1]
 | x :: r, q, h => by
  simp only [b2v] at h
  rw [D2.loop1, M8 (by simp; omega), b2m, a3e r _ (by simp; omega)]
  simp
theorem a9m {l q : List A1} (h : q.length + l.length < 4294967296) : D2 q l = some (q ++ l) := by
 rw [D2, a3e l q h]; rfl
theorem a2B : ∀ (n : Nat) (l : List Nat), l.Nodup → (∀ a ∈ l, a < n) → l.length ≤ n
 | 0, l, _, h => by
  cases l with
  | nil => simp
  | cons a r => exact absurd (h a (b2A ..)) (b4U _)
 | n + 1, l, hn, h => by
  have h1 := a2B n (l.erase n) (hn.erase n) fun a ha => by
   have h2 := h a (List.mem_of_mem_erase ha)
   have h3 : a ≠ n := fun e => by subst e; exact (hn.mem_erase_iff.1 ha).1 rfl
   omega
  by_cases c : n ∈ l
  ·have := List.length_erase_of_mem c; omega
  ·rw [List.erase_of_not_mem c] at h1; omega
section
variable {κ : Type} [BEq κ] [LawfulBEq κ]
theorem a4B {m : List (κ × Bool)} {k : κ} {v : Bool} (h : ∀ b, (k, b) ∉ m) : O1 m k v = m ++ [(k, v)] := by
 induction m with
 | nil => rfl
 | cons p r ih =>
  obtain ⟨a, b⟩ := p
  have h1 : (k == a) = false := by
   cases e : k == a with
   | false => rfl
   | true => have := eq_of_beq e; subst this; exact absurd (b2A ..) (h b)
  rw [O1, h1]
  simp only [b2s, if_false]
  rw [ih fun b hb => h b (b2C _ hb)]
  rfl
theorem a4w {m : List (κ × Bool)} (ht : ∀ k b, (k, b) ∈ m → b = true) (k : κ) : (O2 m k).getD false = true ↔ (k, true) ∈ m := by
 induction m with
 | nil => simp [O2]
 | cons p r ih =>
  obtain ⟨a, b⟩ := p
  have hb := ht a b (b2A ..)
  subst hb
  rw [O2]
  cases e : k == a with
  | true => have := eq_of_beq e; subst this; simp
  | false =>
   simp only [b2s, if_false]
   rw [ih fun k b h => ht k b (b2C _ h)]
   have : ¬ k = a := fun h => by subst h; simp at e
   simp [this]
end
def plc (q : RR) : F8 := ⟨q.1.Train, q.1.Off⟩
theorem a2A {d : B0} {ls : Int} {p q : RR} (hp : p ∈ AD d) (hq : q ∈ AD d) (h : plc p = plc q) : p.2.2 = q.2.2 ∧ ∀ r, P3 ls p r = P3 ls q r := by
 obtain ⟨x, ox⟩ := a1V hp
 obtain ⟨y, oy⟩ := a1V hq
 injection h with h1 h2
 have e1 := ox.tr
 rw [h1, oy.tr] at e1
 injection e1 with e1
 subst e1
 have e2 := ox.off
 rw [h2, oy.off] at e2
 injection e2 with e2
 exact ⟨e2.symm, fun r => by unfold P3; rw [h1, e2]⟩
structure Told (d : B0) (ls : Int) (P : RR → Prop) (M : List (F8 × Bool)) (N : List RR) : Prop where
 keys : ∀ p b, (p, b) ∈ M ↔ b = true ∧ ∃ r, P r ∧ plc r = p
 nodup : (M.map (·.1)).Nodup
 nexts : ∀ q, q ∈ N ↔ q ∈ AD d ∧ ∃ r, P r ∧ P3 ls r q = true
 len : N.length ≤ 336 * M.length
theorem Told.small {d : B0} (hd : O5 d) {ls : Int} {P : RR → Prop} {M : List (F8 × Bool)} {N : List RR} (hP : ∀ r, P r → r ∈ AD d) (h : Told d ls P M N) : M.length ≤ 96 := by
 have h1 : ((M.map (·.1)).map fun p => p.train.toNat * 8 + p.off.toNat).Nodup := by
  unfold List.Nodup
  rw [b4F]
  refine List.Pairwise.imp_of_mem ?_ h.nodup
  intro a b ha hb hab e
  obtain ⟨⟨p, u⟩, hp, rfl⟩ := b3f.1 ha
  obtain ⟨⟨q, v⟩, hq, rfl⟩ := b3f.1 hb
  obtain ⟨_, r, hr, rfl⟩ := (h.keys p u).1 hp
  obtain ⟨_, z, hz, rfl⟩ := (h.keys q v).1 hq
  have t1 := T2 hd (hP r hr)
  have t2 := T2 hd (hP z hz)
  apply hab
  simp only [plc] at e ⊢
  have e1 : r.1.Train = z.1.Train := by omega
  have e2 : r.1.Off = z.1.Off := by omega
  rw [e1, e2]
 have := a2B 96 _ h1 (by
  intro a ha
  obtain ⟨p, hp, rfl⟩ := b3f.1 ha
  obtain ⟨⟨p2, u⟩, hp2, rfl⟩ := b3f.1 hp
  obtain ⟨_, r, hr, rfl⟩ := (h.keys p2 u).1 hp2
  have t1 := T2 hd (hP r hr)
  simp only [plc]; omega)
 simpa using this
theorem a8r {d : B0} (hd : O5 d) {ls : Int} (h0 : 0 ≤ ls ∧ ls ≤ 28800) {Ms : List (List (F8 × Bool))} (hM : Ms.length < 4) : ∀ (S : List RR) (P : RR → Prop) (M : List (F8 × Bool)) (N : List RR), (∀ r, P r → r ∈ AD d) → (∀ q ∈ S, q ∈ AD d) → Told d ls P M N →
  ∃ M' N', H2.loop2 ⟨d, ls⟩ Ms.length (S.map (·.1)) (N.map (·.1)) (Ms ++ [M]) = some (N'.map (·.1), Ms ++ [M']) ∧ Told d ls (fun r => P r ∨ r ∈ S) M' N'
 | [], P, M, N, _, _, h => ⟨M, N, by simp [H2.loop2], by simpa using h⟩
 | q :: S, P, M, N, hP, hS, h => by
  have hq := hS q (b2A ..)
  have hS2 : ∀ q ∈ S, q ∈ AD d := fun z hz => hS z (b2C _ hz)
  have hP2 : ∀ r, (P r ∨ r = q) → r ∈ AD d := fun r hr => hr.elim (hP r) (fun e => e ▸ hq)
  have hg : mgx 4 (Ms ++ [M]) ((Ms.length : Nat) : Int) = some M := by
   unfold mgx
   rw [if_pos (by omega), O0, b2D (b2Z _), b4X]
   rfl
  have ht : ∀ k b, (k, b) ∈ M → b = true := fun k b hb => ((h.keys k b).1 hb).1
  have hm := a4w ht (plc q)
  rw [b2L, H2.loop2, hg, b2m]
  rw [show (F8.mk q.1.Train q.1.Off) = plc q from rfl]
  by_cases c : (O2 M (plc q)).getD false = true
  ·rw [if_pos c]
   obtain ⟨_, z, hz, e⟩ := (h.keys (plc q) true).1 (hm.1 c)
   have hst := a2A (ls := ls) (hP z hz) hq e
   have h2 : Told d ls (fun r => P r ∨ r = q) M N := by
    refine ⟨fun p b => ?_, h.nodup, fun w => ?_, h.len⟩
    ·rw [h.keys]
     constructor
     ·rintro ⟨h1, r, h2, h3⟩; exact ⟨h1, r, .inl h2, h3⟩
     ·rintro ⟨h1, r, h2 | rfl, h3⟩
      ·exact ⟨h1, r, h2, h3⟩
      ·exact ⟨h1, z, hz, e.trans h3⟩
    ·rw [h.nexts]
     constructor
     ·rintro ⟨h1, r, h2, h3⟩; exact ⟨h1, r, .inl h2, h3⟩
     ·rintro ⟨h1, r, h2 | rfl, h3⟩
      ·exact ⟨h1, r, h2, h3⟩
      ·exact ⟨h1, z, hz, by rw [hst.2]; exact h3⟩
   obtain ⟨M', N', k1, k2⟩ := a8r hd h0 hM S _ M N hP2 hS2 h2
   refine ⟨M', N', k1, ?_⟩
   have e : (fun r => (P r ∨ r = q) ∨ r ∈ S) = fun r => P r ∨ r ∈ q :: S := by
    funext r; simp [or_assoc]
   rw [← e]; exact k2
  ·rw [if_neg c]
   have hnew : ∀ b, (plc q, b) ∉ M := fun b hb => c (hm.2 (by have := ht _ _ hb; subst this; exact hb))
   rw [b2m, a3k hd h0 hq, b2m]
   have hsm := Told.small hd hP h
   have hAl := a5u hd
   have hfl := b4n (P3 ls q) (AD d)
   have hnl := h.len
   rw [a9m (by rw [b2B, b2B]; omega), b2m]
   have e2 : (((Ms.length : Nat) : Int)).toNat = Ms.length := by omega
   rw [e2, List.set_append_right _ _ (b2Z _), b4X, List.set_cons_zero, a4B hnew, ← b3b]
   have h2 : Told d ls (fun r => P r ∨ r = q) (M ++ [(plc q, true)]) (N ++ (AD d).filter (P3 ls q)) := by
    refine ⟨fun p b => ?_, ?_, fun w => ?_, ?_⟩
    ·rw [b2X, h.keys]
     constructor
     ·rintro (⟨h1, r, h2, h3⟩ | hh)
      ·exact ⟨h1, r, .inl h2, h3⟩
      ·simp at hh; exact ⟨hh.2, q, .inr rfl, hh.1.symm⟩
     ·rintro ⟨h1, r, h2 | rfl, h3⟩
      ·exact .inl ⟨h1, r, h2, h3⟩
      ·exact .inr (by simp [h1, h3])
    ·rw [b3b, b4q]
     refine ⟨h.nodup, by simp, ?_⟩
     intro a ha b hb e
     simp at hb
     subst hb
     subst e
     obtain ⟨⟨p, u⟩, hp, rfl⟩ := b3f.1 ha
     exact hnew u hp
    ·rw [b2X, h.nexts, b2F]
     constructor
     ·rintro (⟨h1, r, h2, h3⟩ | ⟨h1, h2⟩)
      ·exact ⟨h1, r, .inl h2, h3⟩
      ·exact ⟨h1, q, .inr rfl, h2⟩
     ·rintro ⟨h1, r, h2 | rfl, h3⟩
      ·exact .inl ⟨h1, r, h2, h3⟩
      ·exact .inr ⟨h1, h3⟩
    ·rw [b2u, b2u, b4o]; omega
   obtain ⟨M', N', k1, k2⟩ := a8r hd h0 hM S _ _ _ hP2 hS2 h2
   refine ⟨M', N', k1, ?_⟩
   have e : (fun r => (P r ∨ r = q) ∨ r ∈ S) = fun r => P r ∨ r ∈ q :: S := by
    funext r; simp [or_assoc]
   rw [← e]; exact k2
def SK (d : B0) (ls : Int) (F : List RR) : Nat → RR → Prop
 | 0, q => q ∈ F
 | k + 1, q => q ∈ AD d ∧ ∃ r, SK d ls F k r ∧ P3 ls r q = true
def a9Y (d : B0) (ls : Int) (F : List RR) (k : Nat) (M : List (F8 × Bool)) : Prop := ∀ p b, (p, b) ∈ M ↔ b = true ∧ ∃ r, SK d ls F k r ∧ plc r = p
theorem a8z {d : B0} {ls : Int} {F : List RR} (hF : ∀ q ∈ F, q ∈ AD d) : ∀ k r, SK d ls F k r → r ∈ AD d
 | 0, r, h => hF r h
 | k + 1, r, h => h.1
theorem a9O {d : B0} (hd : O5 d) {ls : Int} (h0 : 0 ≤ ls ∧ ls ≤ 28800) {F : List RR} (hF : ∀ q ∈ F, q ∈ AD d) : ∀ (n : Nat) (Ms : List (List (F8 × Bool))) (S : List RR), Ms.length + n = 4 → (∀ (k : Nat) M, Ms[k]? = some M → a9Y d ls F k M) → (∀ q, q ∈ S ↔ SK d ls F Ms.length q) →
  ∃ S' Ms', H2.loop1 ⟨d, ls⟩ n Ms.length (S.map (·.1)) Ms = some (S', Ms') ∧ Ms'.length = 4 ∧ ∀ (k : Nat) M, Ms'[k]? = some M → a9Y d ls F k M
 | 0, Ms, S, hn, hE, _ => ⟨_, Ms, rfl, by omega, hE⟩
 | n + 1, Ms, S, hn, hE, hS => by
  have hSA : ∀ q ∈ S, q ∈ AD d := fun q h => a8z hF _ q ((hS q).1 h)
  have h00 : Told d ls (fun _ => False) [] [] := ⟨by simp, by simp, by simp, by simp⟩
  obtain ⟨M', N', k1, k2⟩ := a8r hd h0 (Ms := Ms) (by omega) S (fun _ => False) [] [] (fun _ h => h.elim) hSA h00
  have hm : mst 4 Ms ((Ms.length : Nat) : Int) = some () := by unfold mst; rw [if_pos ⟨rfl, by omega⟩]
  rw [H2.loop1, hm, b2m]
  rw [show ([] : List A1) = ([] : List RR).map (·.1) from rfl, k1, b2m]
  dsimp only
  have e : Ms.length + 1 = (Ms ++ [M']).length := by simp
  rw [e]
  refine a9O hd h0 hF n (Ms ++ [M']) N' (by simp; omega) ?_ ?_
  ·intro k M hk
   by_cases c : k < Ms.length
   ·rw [List.getElem?_append_left c] at hk; exact hE k M hk
   ·have hk2 := (b2t.1 hk).1
    simp at hk2
    have : k = Ms.length := by omega
    subst this
    rw [b2D (b2Z _), b4X] at hk
    simp at hk
    subst hk
    intro p b
    rw [k2.keys]
    simp only [false_or, hS]
  ·intro q
   rw [k2.nexts, ← e]
   simp only [false_or, hS]
   rfl
theorem a8t {d : B0} (hd : O5 d) {ls : Int} (h0 : 0 ≤ ls ∧ ls ≤ 28800) {F : List RR} (hF : ∀ q ∈ F, q ∈ AD d) : ∃ Ms, H2 ⟨d, ls⟩ (F.map (·.1)) = some Ms ∧ Ms.length = 4 ∧ ∀ (k : Nat) M, Ms[k]? = some M → a9Y d ls F k M := by
 obtain ⟨S', Ms, h1, h2, h3⟩ := a9O hd h0 hF 4 [] F rfl (by simp) (fun q => Iff.rfl)
 refine ⟨Ms, ?_, h2, h3⟩
 have h1' : H2.loop1 ⟨d, ls⟩ 4 0 (F.map (·.1)) [] = some (S', Ms) := h1
 have hm : a9A 4 Ms = some () := by unfold a9A; rw [if_pos h2]
 rw [H2, h1', b2m]
 dsimp only
 rw [hm, b2m]
def Ext (A : List RR) (ls : Int) (first : RR → Bool) : List RR → List RR → Prop
 | _, [] => True
 | c, r :: s => r ∈ A ∧ nx ls first c r = true ∧ Ext A ls first (c ++ [r]) s
theorem a1u {A : List RR} {ls : Int} {first fin : RR → Bool} : ∀ (m : Nat) (c l : List RR), l ∈ dfs A ls first fin m c ↔ ∃ s, l = c ++ s ∧ s.length ≤ m ∧ l.getLast?.any fin = true ∧ Ext A ls first c s
 | 0, c, l => by
  rw [dfs]
  constructor
  ·intro h
   split at h
   ·rename_i hf
    simp at h
    subst h
    exact ⟨[], by simp, by simp, hf, trivial⟩
   ·simp at h
  ·rintro ⟨s, rfl, h1, h2, _⟩
   obtain rfl : s = [] := b2z (by omega)
   rw [b3I] at h2 ⊢
   rw [if_pos h2]; simp
 | m + 1, c, l => by
  rw [dfs, b2X, List.mem_flatMap]
  constructor
  ·rintro (h | ⟨r, hr, h⟩)
   ·split at h
    ·rename_i hf
     simp at h
     subst h
     exact ⟨[], by simp, by simp, hf, trivial⟩
    ·simp at h
   ·obtain ⟨s, h1, h2, h3, h4⟩ := (a1u m (c ++ [r]) l).1 h
    obtain ⟨r1, r2⟩ := b2F.1 hr
    exact ⟨r :: s, by rw [h1]; simp, by simp; omega, h3, r1, r2, h4⟩
  ·rintro ⟨s, h1, h2, h3, h4⟩
   cases s with
   | nil =>
    rw [b3I] at h1
    subst h1
    left
    rw [if_pos h3]; simp
   | cons r s =>
    right
    exact ⟨r, b2F.2 ⟨h4.1, h4.2.1⟩, (a1u m (c ++ [r]) l).2 ⟨s, by rw [h1]; simp, by simp at h2; omega, h3, h4.2.2⟩⟩
theorem Ext.snoc {A : List RR} {ls : Int} {first : RR → Bool} {q : RR} : ∀ (s c : List RR), Ext A ls first c (s ++ [q]) ↔ Ext A ls first c s ∧ q ∈ A ∧ nx ls first (c ++ s) q = true
 | [], c => by simp [Ext]
 | r :: s, c => by
  simp only [b4w, Ext, Ext.snoc s (c ++ [r]), b2y, b4w, b3c, and_assoc]
theorem a7r {d : B0} {ls : Int} {first : RR → Bool} {F : List RR} : ∀ (s c : List RR) (r q : RR) (k : Nat), c.getLast? = some r → SK d ls F k r → Ext (AD d) ls first c s → (c ++ s).getLast? = some q → SK d ls F (k + s.length) q
 | [], c, r, q, k, h1, h2, _, h4 => by
  rw [b3I, h1] at h4
  injection h4 with h4
  subst h4
  exact h2
 | z :: s, c, r, q, k, h1, h2, h3, h4 => by
  have hz : SK d ls F (k + 1) z := ⟨h3.1, r, h2, by have := h3.2.1; unfold nx at this; rw [h1] at this; exact this⟩
  have := a7r s (c ++ [z]) z q (k + 1) (by simp) hz h3.2.2 (by rw [b2y]; exact h4)
  rw [b2v]
  rwa [show k + (s.length + 1) = k + 1 + s.length by omega]
theorem a7E {d : B0} {ls : Int} {first : RR → Bool} {F : List RR} (hF : ∀ q ∈ F, q ∈ AD d ∧ first q = true) : ∀ (k : Nat) (q : RR), SK d ls F k q → ∃ z s, z ∈ F ∧ s.length = k ∧ Ext (AD d) ls first [] (z :: s) ∧ (z :: s).getLast? = some q
 | 0, q, h => ⟨q, [], h, rfl, ⟨(hF q h).1, (hF q h).2, trivial⟩, rfl⟩
 | k + 1, q, ⟨h1, r, h2, h3⟩ => by
  obtain ⟨z, s, k1, k2, k3, k4⟩ := a7E hF k r h2
  refine ⟨z, s ++ [q], k1, by simp [k2], ?_, List.getLast?_concat (l := z :: s)⟩
  rw [← b4w]
  refine (Ext.snoc _ _).2 ⟨k3, h1, ?_⟩
  rw [b3c]
  unfold nx
  rw [k4]; exact h3
theorem a7y {A : List RR} {ls : Int} {first : RR → Bool} : ∀ (s c : List RR), Ext A ls first c s → ∀ q ∈ s, q ∈ A
 | [], _, _, _, h => by simp at h
 | r :: s, c, h, q, hq => by
  rcases b2M.1 hq with rfl | hq
  ·exact h.1
  ·exact a7y s _ h.2.2 q hq
section
variable {d : B0} (hd : O5 d) {ls : Int} (h0 : 0 ≤ ls ∧ ls ≤ 28800)
def a1G (to : Int) (p : A2) (r : RR) : Bool := if (r.2.2.Station == to) = true then (r.2.2.Arr == p.Arr) else false
def a1e (A : List RR) (ls : Int) (fin : RR → Bool) : Nat → RR → Option (List RR)
 | 0, r => if fin r then some [] else none
 | n + 1, r => (A.filter (P3 ls r)).findSome? fun q => (a1e A ls fin n q).map (q :: ·)
theorem a6D {fin : RR → Bool} (hf : ∀ r q : RR, r.2.2 = q.2.2 → fin r = fin q) {n : Nat} {r q : RR} (hr : r ∈ AD d) (hq : q ∈ AD d) (h : plc r = plc q) : a1e (AD d) ls fin n r = a1e (AD d) ls fin n q := by
 obtain ⟨h1, h2⟩ := a2A (ls := ls) hr hq h
 cases n with
 | zero => rw [a1e, a1e, hf r q h1]
 | succ n => rw [a1e, a1e, show P3 ls r = P3 ls q from funext h2]
include hd h0 in
theorem a4k {to : Int} {p : A2} : ∀ (n : Nat) (r : RR) (s : List RR), r ∈ AD d → a1e (AD d) ls (a1G to p) n r = some s → r.2.2.Arr ≤ p.Arr
 | 0, r, s, hr, h => by
  rw [a1e] at h
  split at h
  ·rename_i hf
   unfold a1G at hf
   split at hf
   ·have : r.2.2.Arr = p.Arr := by simpa using hf
    omega
   ·cases hf
  ·cases h
 | n + 1, r, s, hr, h => by
  rw [a1e, List.findSome?_eq_some_iff] at h
  obtain ⟨l1, q, l2, h1, h2, _⟩ := h
  have hq : q ∈ (AD d).filter (P3 ls r) := by rw [h1]; simp
  obtain ⟨q1, q2⟩ := b2F.1 hq
  rw [Option.map_eq_some_iff] at h2
  obtain ⟨s', h3, _⟩ := h2
  have ih := a4k n q s' q1 h3
  have ht := T2 hd q1
  unfold P3 at q2
  simp at q2
  omega
def a9B (d : B0) (ls to : Int) (p : A2) (m : List (M6 × Bool)) : Prop := ∀ (r : RR) (n : Nat), r ∈ AD d → (O2 m ⟨r.1.Train, r.1.Off, (n : Int)⟩).getD false = true → a1e (AD d) ls (a1G to p) n r = none
theorem a8c {κ : Type} [BEq κ] [LawfulBEq κ] (m : List (κ × Bool)) (k j : κ) (v : Bool) : (O2 (O1 m k v) j).getD false = if (j == k) = true then v else (O2 m j).getD false := by
 induction m with
 | nil =>
  simp only [O1, O2]
  cases h : (j == k) <;> simp [h]
 | cons p r ih =>
  obtain ⟨a, b⟩ := p
  simp only [O1]
  cases h : (k == a) with
  | true =>
   have := eq_of_beq h
   subst this
   simp only [if_true, O2]
   cases h2 : (j == k) <;> simp [h2]
  | false =>
   simp only [b2s, if_false, O2]
   cases h2 : (j == a) with
   | true =>
    have := eq_of_beq h2
    subst this
    have : (j == k) = false := by
     cases h3 : (j == k) with
     | false => rfl
     | true => have := eq_of_beq h3; subst this; rw [h2] at h; cases h
    simp [this]
   | false => simp only [b2s, if_false]; exact ih
include hd h0 in
theorem a5w {to : Int} {p : A2} (hp : 1 ≤ p.Rides ∧ p.Rides ≤ 4) : ∀ (n fu : Nat) (c' : List RR) (r : RR) (m : List (M6 × Bool)), n + 2 ≤ fu → ((c' ++ [r]).length : Int) + n = p.Rides → (∀ q ∈ c' ++ [r], q ∈ AD d) → a9B d ls to p m →
  ∃ m', E6 fu ((c' ++ [r]).map (·.1)) ⟨d, ls⟩ p to m = some ((match a1e (AD d) ls (a1G to p) n r with | some s => (c' ++ [r] ++ s).map (·.1) | none => []), m') ∧ a9B d ls to p m'
 | _, 0, _, _, _, h, _, _, _ => absurd h (by omega)
 | n, fu + 1, c', r, m, hfu, hlen, hA, hm => by
  have hr : r ∈ AD d := hA r (by simp)
  have hl1 : 0 < ((c' ++ [r]).map (·.1)).length := by simp
  have hg : gx ((c' ++ [r]).map (·.1)) (w64 (((((c' ++ [r]).map (·.1)).length : Nat) : Int) - 1)) = some r.1 := by
   rw [X7 hl1 (b2Z _) (by rw [b2B]; omega)]
   simp
  rw [E6, hg, b2m, a7f hr, b2m]
  have hleft : w64 (p.Rides - ((((c' ++ [r]).map (·.1)).length : Nat) : Int)) = (n : Int) := by
   rw [b2B, Q5 (by omega)]; omega
  rw [hleft]
  cases n with
  | zero =>
   rw [if_pos (by rfl), J1, a1e]
   rw [show (if (r.2.2.Station == to) = true then (r.2.2.Arr == p.Arr) else false) = a1G to p r from rfl]
   cases a1G to p r with
   | true =>
    refine ⟨m, ?_, hm⟩
    have : nz ((c' ++ [r]).map (·.1)) = some () := by unfold nz; simp
    rw [if_pos rfl, this]
    simp
   | false => exact ⟨m, by simp, hm⟩
  | succ n =>
   have hz : (((n + 1 : Nat) : Int) == 0) = false := by simp; omega
   rw [hz, if_neg (by decide), J1]
   by_cases c1 : (O2 m ⟨r.1.Train, r.1.Off, ((n + 1 : Nat) : Int)⟩).getD false = true
   ·rw [c1]
    refine ⟨m, ?_, hm⟩
    rw [hm r (n + 1) hr c1]
    rfl
   ·have c1' : (O2 m ⟨r.1.Train, r.1.Off, ((n + 1 : Nat) : Int)⟩).getD false = false := by simpa using c1
    rw [c1']
    by_cases c2 : r.2.2.Arr > p.Arr
    ·refine ⟨m, ?_, hm⟩
     have : a1e (AD d) ls (a1G to p) (n + 1) r = none := by
      cases e : a1e (AD d) ls (a1G to p) (n + 1) r with
      | none => rfl
      | some s => have := a4k hd h0 (n + 1) r s hr e; omega
     rw [this]
     simp [c2]
    ·rw [decide_eq_false c2, if_neg (by decide), a3k hd h0 hr, b2m]
     have loop : ∀ (l : List RR) (m : List (M6 × Bool)), (∀ q ∈ l, q ∈ AD d) → a9B d ls to p m →
       ∃ m', E6.loop1 ((c' ++ [r]).map (·.1)) ⟨d, ls⟩ p to (E6 fu) (l.map (·.1)) [] m = some (match l.findSome? (fun q => (a1e (AD d) ls (a1G to p) n q).map (q :: ·)) with | some s => .ret ((c' ++ [r] ++ s).map (·.1), m') | none => .next ([], m')) ∧ a9B d ls to p m' := by
      intro l
      induction l with
      | nil => intro m _ hm; exact ⟨m, rfl, hm⟩
      | cons q l ih =>
       intro m hl hm
       have hq := hl q (b2A ..)
       obtain ⟨m1, k1, k2⟩ := a5w hp n fu (c' ++ [r]) q m (by omega) (by rw [b2u]; simp; simp at hlen; omega) (by
        intro z hz
        rcases b2X.1 hz with hz | hz
        ·exact hA z hz
        ·simp at hz; subst hz; exact hq) hm
       rw [b2L, E6.loop1, E0, M8 (by rw [b2B]; simp; simp at hlen; omega), b2m, b2m, b3c, M8 (by rw [b2B]; simp; simp at hlen; omega), b2m]
       rw [show (c' ++ [r]).map (·.1) ++ [q.1] = (c' ++ [r] ++ [q]).map (·.1) by simp, k1, b2m, b3E]
       cases e : a1e (AD d) ls (a1G to p) n q with
       | some s =>
        refine ⟨m1, ?_, k2⟩
        simp
       | none =>
        obtain ⟨m2, j1, j2⟩ := ih m1 (fun z h => hl z (b2C _ h)) k2
        exact ⟨m2, by simpa using j1, j2⟩
     obtain ⟨m1, k1, k2⟩ := loop ((AD d).filter (P3 ls r)) m (fun q h => (b2F.1 h).1) hm
     rw [k1, b2m]
     rw [show a1e (AD d) ls (a1G to p) (n + 1) r = ((AD d).filter (P3 ls r)).findSome? fun q => (a1e (AD d) ls (a1G to p) n q).map (q :: ·) from rfl]
     cases e : ((AD d).filter (P3 ls r)).findSome? fun q => (a1e (AD d) ls (a1G to p) n q).map (q :: ·) with
     | some s => exact ⟨m1, rfl, k2⟩
     | none =>
      refine ⟨O1 m1 ⟨r.1.Train, r.1.Off, ((n + 1 : Nat) : Int)⟩ true, rfl, ?_⟩
      intro z i hz h
      rw [a8c] at h
      split at h
      ·rename_i hk
       have hk := eq_of_beq hk
       injection hk with h1 h2 h3
       have : i = n + 1 := by omega
       subst this
       rw [a6D (fun a b h => by unfold a1G; rw [h]) hz hr (by unfold plc; rw [h1, h2])]
       exact e
      ·exact k2 z i hz h
def pt_ (c : List RR) : A2 := ⟨(c.head?.map (·.2.1.Dep)).getD 0, (c.getLast?.map (·.2.2.Arr)).getD 0, (c.length : Int)⟩
theorem a6S {A : List RR} {first : RR → Bool} {to : Int} (hto : 0 ≤ to) {p : A2} : ∀ (m n : Nat) (c' : List RR) (r : RR), ((c' ++ [r]).length : Int) + n = p.Rides → n ≤ m → ((c' ++ [r]).head?.map (·.2.1.Dep)).getD 0 = p.Dep →
  (dfs A ls first (a0m to) m (c' ++ [r])).find? (fun c => decide (pt_ c = p)) = (a1e A ls (a1G to p) n r).map (c' ++ [r] ++ ·) := by
 have lens : ∀ (m : Nat) (c : List RR) (l : List RR), l ∈ dfs A ls first (a0m to) m c → c.length ≤ l.length := by
  intro m c l h
  obtain ⟨s, h1, _⟩ := (a1u m c l).1 h
  rw [h1]; simp
 have fr : ∀ r : RR, a0m to r = (r.2.2.Station == to) := fun r => by unfold a0m; rw [if_neg (by simp; omega)]
 have hd0 : ∀ (c' : List RR) (r : RR), ((c' ++ [r]).head?.map (·.2.1.Dep)).getD 0 = p.Dep → (if (c' ++ [r]).getLast?.any (a0m to) then [c' ++ [r]] else []).find? (fun c => decide (pt_ c = p)) = if ((c' ++ [r]).length : Int) = p.Rides ∧ a1G to p r = true then some (c' ++ [r]) else none := by
  intro c' r hdep
  have e1 : (c' ++ [r]).getLast?.any (a0m to) = (r.2.2.Station == to) := by simp [fr]
  rw [e1]
  have hpt : pt_ (c' ++ [r]) = p ↔ ((c' ++ [r]).length : Int) = p.Rides ∧ r.2.2.Arr = p.Arr := by
   have hlast : ((c' ++ [r]).getLast?.map (·.2.2.Arr)).getD 0 = r.2.2.Arr := by simp
   unfold pt_
   rw [hdep, hlast]
   obtain ⟨a, b, c⟩ := p
   simp only [A2.mk.injEq, true_and]
   exact ⟨fun h => ⟨h.2, h.1⟩, fun h => ⟨h.2, h.1⟩⟩
  unfold a1G
  cases c1 : (r.2.2.Station == to) with
  | false => simp
  | true =>
   simp only [if_true, List.find?_cons, List.find?_nil]
   by_cases c2 : pt_ (c' ++ [r]) = p
   ·rw [decide_eq_true c2, if_pos ⟨(hpt.1 c2).1, by simpa using (hpt.1 c2).2⟩]
   ·rw [decide_eq_false c2, if_neg (fun h => c2 (hpt.2 ⟨h.1, by simpa using h.2⟩))]
 intro m
 induction m with
 | zero =>
  intro n c' r h1 h2 h3
  obtain rfl : n = 0 := by omega
  rw [dfs, hd0 c' r h3, a1e]
  cases h4 : a1G to p r with
  | true => rw [if_pos ⟨by omega, rfl⟩]; simp
  | false => rw [if_neg (fun h => by cases h.2)]; simp
 | succ m ih =>
  intro n c' r h1 h2 h3
  rw [dfs, b5g, hd0 c' r h3]
  cases n with
  | zero =>
   have hn : ((A.filter (nx ls first (c' ++ [r]))).flatMap fun q => dfs A ls first (a0m to) m (c' ++ [r] ++ [q])).find? (fun c => decide (pt_ c = p)) = none := by
    rw [b4Z]
    intro l hl
    obtain ⟨q, _, hq⟩ := List.mem_flatMap.1 hl
    have := lens _ _ _ hq
    rw [b2u, b4o] at this
    intro e
    have e := of_decide_eq_true e
    have : (l.length : Int) = p.Rides := by rw [← e]; rfl
    omega
   rw [hn, a1e]
   cases h4 : a1G to p r with
   | true => rw [if_pos ⟨by omega, rfl⟩]; simp
   | false => rw [if_neg (fun h => by cases h.2)]; simp
  | succ n =>
   rw [if_neg (fun h => by omega), Option.none_or, List.find?_flatMap, a1e, a1T]
   have : ∀ (l : List RR), (l.findSome? fun q => (dfs A ls first (a0m to) m (c' ++ [r] ++ [q])).find? (fun c => decide (pt_ c = p))) = (l.findSome? fun q => (a1e A ls (a1G to p) n q).map (q :: ·)).map (c' ++ [r] ++ ·) := by
    intro l
    induction l with
    | nil => rfl
    | cons q l ihl =>
     rw [b3E, b3E, ih n (c' ++ [r]) q (by rw [b2u]; simp; simp at h1; omega) (by omega) (by
      cases c' <;> simpa using h3), ihl]
     cases a1e A ls (a1G to p) n q with
     | none => simp
     | some s => simp
   exact this _
theorem a0h {α β : Type} {g : α → Option β} {a b : α → Bool} : ∀ {l : List α}, (∀ x ∈ l, g x ≠ none → a x = b x) → (l.filter a).findSome? g = (l.filter b).findSome? g
 | [], _ => rfl
 | x :: l, h => by
  have ih := a0h (l := l) fun y hy => h y (b2C _ hy)
  have hx := h x (b2A ..)
  rw [b3A, b3A]
  cases hg : g x with
  | none =>
   cases a x <;> cases b x <;> simp [b3E, hg, ih]
  | some y =>
   have := hx (by rw [hg]; simp)
   rw [this]
   cases b x with
   | true => simp [b3E, hg]
   | false => simpa using ih
include hd h0 in
theorem a8o {to st : Int} (hto : 0 ≤ to) {p : A2} (hp : 1 ≤ p.Rides ∧ p.Rides ≤ 4) {fu : Nat} (hfu : 10 ≤ fu) :
  I2 fu ⟨d, ls⟩ st to p = some (match (dfs (AD d) ls (fun q => q.2.1.Station == st) (a0m to) 4 []).find? (fun c => decide (pt_ c = p)) with | some c => JJ c | none => ⟨[]⟩) := by
 let g : RR → Option (List RR) := fun q => if q.2.1.Dep = p.Dep then (a1e (AD d) ls (a1G to p) (p.Rides - 1).toNat q).map (q :: ·) else none
 have loop : ∀ (l : List RR) (m : List (M6 × Bool)), (∀ q ∈ l, q ∈ AD d) → a9B d ls to p m →
   ∃ m', I2.loop1 ⟨d, ls⟩ to p fu (l.map (·.1)) [] m = some (match l.findSome? g with | some s => .ret (s.map (·.1), m') | none => .next ([], m')) := by
  intro l
  induction l with
  | nil => intro m _ _; exact ⟨m, rfl⟩
  | cons q l ih =>
   intro m hl hm
   have hq := hl q (b2A ..)
   rw [b2L, I2.loop1, a9j hq, b2m, b3E]
   by_cases c : q.2.1.Dep = p.Dep
   ·have e1 : (q.2.1.Dep != p.Dep) = false := by simpa using c
    have e2 : g q = (a1e (AD d) ls (a1G to p) (p.Rides - 1).toNat q).map (q :: ·) := if_pos c
    rw [e1, if_neg (by decide), e2]
    obtain ⟨m1, k1, k2⟩ := a5w hd h0 hp (p.Rides - 1).toNat fu [] q m (by omega) (by simp; omega) (by intro z hz; simp at hz; subst hz; exact hq) hm
    rw [show [q.1] = ([] ++ [q] : List RR).map (·.1) from rfl, k1, b2m]
    cases e : a1e (AD d) ls (a1G to p) (p.Rides - 1).toNat q with
    | some s => exact ⟨m1, by simp⟩
    | none =>
     obtain ⟨m2, j1⟩ := ih m1 (fun z h => hl z (b2C _ h)) k2
     exact ⟨m2, by simpa using j1⟩
   ·have e1 : (q.2.1.Dep != p.Dep) = true := by simpa using c
    have e2 : g q = none := if_neg c
    rw [e1, if_pos rfl, e2]
    exact ih m (fun z h => hl z (b2C _ h)) hm
 obtain ⟨m', k⟩ := loop ((AD d).filter (fits st p.Dep (-1))) [] (fun q h => (b2F.1 h).1) (fun r n _ h => by simp [O2] at h)
 have e1 : (dfs (AD d) ls (fun q => q.2.1.Station == st) (a0m to) 4 []).find? (fun c => decide (pt_ c = p)) = ((AD d).filter (fun q => q.2.1.Station == st)).findSome? g := by
  rw [dfs]
  simp only [List.getLast?_nil, Option.any_none, b2s, if_false, b3c]
  rw [List.find?_flatMap]
  show ((AD d).filter (fun q => q.2.1.Station == st)).findSome? _ = _
  have : ∀ (l : List RR), (l.findSome? fun q => (dfs (AD d) ls (fun q => q.2.1.Station == st) (a0m to) 3 [q]).find? (fun c => decide (pt_ c = p))) = l.findSome? g := by
   intro l
   induction l with
   | nil => rfl
   | cons q l ihl =>
    rw [b3E, b3E, ihl]
    by_cases c : q.2.1.Dep = p.Dep
    ·have := a6S (A := AD d) (ls := ls) (first := fun q => q.2.1.Station == st) hto (p := p) 3 (p.Rides - 1).toNat [] q (by simp; omega) (by omega) (by simpa using c)
     rw [b3c] at this
     rw [this, show g q = _ from if_pos c]
     rfl
    ·rw [show g q = none from if_neg c]
     have : (dfs (AD d) ls (fun q => q.2.1.Station == st) (a0m to) 3 [q]).find? (fun c => decide (pt_ c = p)) = none := by
      rw [b4Z]
      intro l hl e
      have e := of_decide_eq_true e
      obtain ⟨s, h1, _⟩ := (a1u 3 [q] l).1 hl
      apply c
      rw [← e, h1]; rfl
     rw [this]
  exact this _
 have e2 : ((AD d).filter (fits st p.Dep (-1))).findSome? g = ((AD d).filter (fun q => q.2.1.Station == st)).findSome? g := by
  refine a0h fun x hx hg => ?_
  have hdep : x.2.1.Dep = p.Dep := Classical.byContradiction fun c => hg (if_neg c)
  have ht := T2 hd hx
  unfold fits
  have : (x.1.Train == (-1)) = false := by
   have : ¬ x.1.Train = -1 := by omega
   simpa using this
  rw [this]
  by_cases c : x.2.1.Station = st
  ·simp [c]; omega
  ·simp [c]
 rw [I2, J1, a1N, k, b2m, e1, e2]
 cases ((AD d).filter (fun q => q.2.1.Station == st)).findSome? g with
 | some s => rfl
 | none => rfl
end
theorem a2c (x y : Int) : B3 x y < 0 ↔ x < y := by
 unfold B3 N2
 simp
 by_cases h : x < y
 ·simp [h]
 ·by_cases k : y < x <;> simp [h, k]
theorem U6 (x y : Int) : B3 x y = 0 ↔ x = y := by
 unfold B3 N2
 simp
 by_cases h : x < y
 ·simp [h]; omega
 ·by_cases k : y < x
  ·simp [h, k]; omega
  ·simp [h, k]; omega
theorem or3 (a b c : Int) : M4 [a, b, c] < 0 ↔ a < 0 ∨ a = 0 ∧ (b < 0 ∨ b = 0 ∧ c < 0) := by
 unfold M4
 simp only [M4.loop1, J1]
 by_cases ha : a = 0
 ·subst ha
  by_cases hb : b = 0
  ·subst hb
   by_cases hc : c = 0
   ·subst hc; simp
   ·simp [hc]
  ·simp [hb]
 ·simp [ha]
def a9o (p q : A2) : Prop := p.Dep < q.Dep ∨ p.Dep = q.Dep ∧ (p.Arr < q.Arr ∨ p.Arr = q.Arr ∧ p.Rides < q.Rides)
theorem a8O (p q : A2) : H5 p q < 0 ↔ a9o p q := by
 unfold H5 a9o
 rw [or3]
 simp only [a2c, U6]
theorem okP (l : List A2) : OkF H5 l := by
 refine ⟨fun x _ => by rw [a8O]; unfold a9o; omega, fun x _ y _ z _ => by rw [a8O, a8O, a8O]; unfold a9o; omega, fun x _ y _ => ?_⟩
 rw [a8O, a8O]
 unfold a9o
 intro h1 h2
 obtain ⟨a, b, c⟩ := x
 obtain ⟨a', b', c'⟩ := y
 simp only at h1 h2
 obtain rfl : a = a' := by omega
 obtain rfl : b = b' := by omega
 obtain rfl : c = c' := by omega
 rfl
structure Pts (out : List A2) (seen : List (A2 × Bool)) (T : A2 → Prop) : Prop where
 nd : out.Nodup
 mem : ∀ p, p ∈ out ↔ T p
 seen : ∀ p b, (p, b) ∈ seen ↔ b = true ∧ p ∈ out
 box : ∀ p ∈ out, 0 ≤ p.Dep ∧ p.Dep ≤ 28800 ∧ 0 ≤ p.Arr ∧ p.Arr ≤ 28800 ∧ 1 ≤ p.Rides ∧ p.Rides ≤ 4
theorem Pts.iff {out : List A2} {seen : List (A2 × Bool)} {T U : A2 → Prop} (h : Pts out seen T) (k : ∀ p, T p ↔ U p) : Pts out seen U := by
 have : T = U := by funext p; exact propext (k p)
 rwa [← this]
theorem Pts.small {out : List A2} {seen : List (A2 × Bool)} {T : A2 → Prop} (h : Pts out seen T) : out.length ≤ 3317990404 := by
 have h1 : (out.map fun p => (p.Dep.toNat * 28801 + p.Arr.toNat) * 4 + (p.Rides.toNat - 1)).Nodup := by
  unfold List.Nodup
  rw [b4F]
  refine List.Pairwise.imp_of_mem ?_ h.nd
  intro a b ha hb hne e
  apply hne
  have h1 := h.box a ha
  have h2 := h.box b hb
  obtain ⟨a1, a2, a3⟩ := a
  obtain ⟨b1, b2, b3⟩ := b
  simp only at h1 h2 e
  obtain rfl : a1 = b1 := by omega
  obtain rfl : a2 = b2 := by omega
  obtain rfl : a3 = b3 := by omega
  rfl
 have h2 := a2B 3317990404 _ h1 fun c hc => by
  obtain ⟨p, hp, rfl⟩ := b3f.1 hc
  have := h.box p hp
  omega
 rwa [b2B] at h2
section
variable {κ ν : Type} [BEq κ] [LawfulBEq κ]
theorem a7U {m : List (κ × ν)} {k : κ} {v : ν} (hn : (m.map (·.1)).Nodup) (h : (k, v) ∈ m) : O2 m k = some v := by
 induction m with
 | nil => cases h
 | cons p r ih =>
  obtain ⟨a, b⟩ := p
  rw [O2]
  have hn' := b4m.1 hn
  rcases b2M.1 h with h3 | h3
  ·injection h3 with h1 h2
   subst h1 h2
   simp
  ·have : ¬ k = a := fun e => hn'.1 (by subst e; exact b3f.2 ⟨(k, v), h3, rfl⟩)
   have e : (k == a) = false := by simpa using this
   rw [e]
   simp only [b2s, if_false]
   exact ih hn'.2 h3
theorem a6T {m : List (κ × ν)} {k : κ} (h : ∀ v, (k, v) ∉ m) : O2 m k = none := by
 induction m with
 | nil => rfl
 | cons p r ih =>
  obtain ⟨a, b⟩ := p
  rw [O2]
  have : ¬ k = a := fun e => by subst e; exact h b (b2A ..)
  have e : (k == a) = false := by simpa using this
  rw [e]
  simp only [b2s, if_false]
  exact ih fun v hv => h v (b2C _ hv)
theorem a1Q {m : List (κ × ν)} {k j : κ} {v w : ν} (hn : (m.map (·.1)).Nodup) : (j, w) ∈ O1 m k v ↔ (j = k ∧ w = v) ∨ (j ≠ k ∧ (j, w) ∈ m) := by
 induction m with
 | nil => simp [O1]
 | cons p r ih =>
  obtain ⟨a, b⟩ := p
  rw [O1]
  have hn' := b4m.1 hn
  by_cases c : k = a
  ·subst c
   simp only [beq_self_eq_true, if_true, b2M, Prod.mk.injEq]
   constructor
   ·rintro (h | h)
    ·exact .inl h
    ·refine .inr ⟨fun e => ?_, .inr h⟩
     subst e
     exact hn'.1 (b3f.2 ⟨_, h, rfl⟩)
   ·rintro (h | ⟨h1, h2 | h2⟩)
    ·exact .inl h
    ·exact absurd h2.1 h1
    ·exact .inr h2
  ·have e : (k == a) = false := by simpa using c
   rw [e]
   simp only [b2s, if_false, b2M, Prod.mk.injEq, ih hn'.2]
   constructor
   ·rintro (⟨h1, h2⟩ | h | ⟨h1, h2⟩)
    ·exact .inr ⟨fun x => c (x.symm.trans h1), .inl ⟨h1, h2⟩⟩
    ·exact .inl h
    ·exact .inr ⟨h1, .inr h2⟩
   ·rintro (h | ⟨h1, h2 | h2⟩)
    ·exact .inr (.inl h)
    ·exact .inl h2
    ·exact .inr (.inr ⟨h1, h2⟩)
theorem a8B {m : List (κ × ν)} {k : κ} {v : ν} (hn : (m.map (·.1)).Nodup) : ((O1 m k v).map (·.1)).Nodup := by
 induction m with
 | nil => simp [O1]
 | cons p r ih =>
  obtain ⟨a, b⟩ := p
  rw [O1]
  have hn' := b4m.1 hn
  by_cases c : k = a
  ·subst c
   simp only [beq_self_eq_true, if_true]
   exact hn
  ·have e : (k == a) = false := by simpa using c
   rw [e]
   simp only [b2s, if_false, b2L]
   refine b4m.2 ⟨fun h => ?_, ih hn'.2⟩
   obtain ⟨⟨j, w⟩, h1, h2⟩ := b3f.1 h
   simp only at h2
   subst h2
   rcases (a1Q hn'.2).1 h1 with ⟨h3, _⟩ | ⟨_, h3⟩
   ·exact c h3.symm
   ·exact hn'.1 (b3f.2 ⟨_, h3, rfl⟩)
end
structure a5B (M : List (Int × List A1)) (P : List RR) : Prop where
 nd : (M.map (·.1)).Nodup
 is : ∀ k L, (k, L) ∈ M → L = (P.filter (fun q => q.2.1.Dep == k)).map (·.1)
 all : ∀ q ∈ P, ∃ L, (q.2.1.Dep, L) ∈ M
 from_ : ∀ k L, (k, L) ∈ M → ∃ q ∈ P, q.2.1.Dep = k
theorem a3r {d : B0} {ls : Int} : ∀ (l P : List RR) (M : List (Int × List A1)), (∀ q ∈ l, q ∈ AD d) → P.length + l.length < 4294967296 → a5B M P →
  ∃ M', B5.loop1 ⟨d, ls⟩ (l.map (·.1)) M = some M' ∧ a5B M' (P ++ l)
 | [], P, M, _, _, h => ⟨M, rfl, by simpa using h⟩
 | q :: l, P, M, hA, hl, h => by
  have hq := hA q (b2A ..)
  simp only [b2v] at hl
  have hget : (O2 M q.2.1.Dep).getD [] = (P.filter (fun z => z.2.1.Dep == q.2.1.Dep)).map (·.1) := by
   by_cases c : ∃ L, (q.2.1.Dep, L) ∈ M
   ·obtain ⟨L, hL⟩ := c
    rw [a7U h.nd hL, b3D]
    exact h.is _ _ hL
   ·rw [a6T fun v hv => c ⟨v, hv⟩]
    have : P.filter (fun z => z.2.1.Dep == q.2.1.Dep) = [] := by
     rw [List.filter_eq_nil_iff]
     intro z hz e
     have e : z.2.1.Dep = q.2.1.Dep := by simpa using e
     obtain ⟨L, hL⟩ := h.all z hz
     rw [e] at hL
     exact c ⟨L, hL⟩
    rw [this]; rfl
  have hlen : ((P.filter (fun z => z.2.1.Dep == q.2.1.Dep)).map (·.1)).length ≤ P.length := by rw [b2B]; exact b4n _ _
  have hv : (P.filter (fun z => z.2.1.Dep == q.2.1.Dep)).map (·.1) ++ [q.1] = ((P ++ [q]).filter (fun z => z.2.1.Dep == q.2.1.Dep)).map (·.1) := by simp
  have hs : a5B (O1 M q.2.1.Dep (((P ++ [q]).filter (fun z => z.2.1.Dep == q.2.1.Dep)).map (·.1))) (P ++ [q]) := by
   refine ⟨a8B h.nd, fun k L hk => ?_, fun z hz => ?_, fun k L hk => ?_⟩
   ·rcases (a1Q h.nd).1 hk with ⟨h1, h2⟩ | ⟨h1, h2⟩
    ·rw [h1, h2]
    ·rw [h.is _ _ h2, b3J, b3b]
     have : (q.2.1.Dep == k) = false := by
      have : ¬ q.2.1.Dep = k := fun e => h1 e.symm
      simpa using this
     simp [this]
   ·by_cases c : z.2.1.Dep = q.2.1.Dep
    ·rw [c]; exact ⟨_, (a1Q h.nd).2 (.inl ⟨rfl, rfl⟩)⟩
    ·rcases b2X.1 hz with hz | hz
     ·obtain ⟨L, hL⟩ := h.all z hz
      exact ⟨L, (a1Q h.nd).2 (.inr ⟨c, hL⟩)⟩
     ·simp at hz; subst hz; exact absurd rfl c
   ·rcases (a1Q h.nd).1 hk with ⟨h1, h2⟩ | ⟨h1, h2⟩
    ·exact ⟨q, by simp, h1.symm⟩
    ·obtain ⟨z, h3, h4⟩ := h.from_ _ _ h2
     exact ⟨z, by simp [h3], h4⟩
  obtain ⟨M', k1, k2⟩ := a3r l (P ++ [q]) _ (fun z hz => hA z (b2C _ hz)) (by rw [b2u]; simp; omega) hs
  refine ⟨M', ?_, by simpa using k2⟩
  rw [b2L, B5.loop1, a9j hq]
  simp only [b2m, J1]
  rw [hget, M8 (by rw [b4o]; omega), b2m, hv]
  exact k1
section
variable {d : B0} (hd : O5 d) {ls : Int} {to dep : Int} (hdep : 0 ≤ dep ∧ dep ≤ 28800)
include hd hdep
theorem a6I {k : Nat} (hk : k < 4) {r : RR} (hr : r ∈ AD d) {e : F8} (he : plc r = e) {u : Bool} {out : List A2} {seen : List (A2 × Bool)} {T : A2 → Prop} (h : Pts out seen T) (o : Orc) :
  ∃ out' seen', B5.loop4.step ⟨d, ls⟩ to dep k e u out seen o = some (out', seen') ∧ Pts out' seen' (fun p => T p ∨ (r.2.2.Station = to ∧ p = ⟨dep, r.2.2.Arr, ((k + 1 : Nat) : Int)⟩)) := by
 obtain ⟨x, ox⟩ := a1V hr
 have ht := T2 hd hr
 subst he
 have e1 : gx d.Trains (plc r).train = some x := ox.tr
 have e2 : gx x.Stops (plc r).off = some r.2.2 := ox.off
 unfold B5.loop4.step
 simp only [e1, b2m, e2, J1]
 have hseen := a4w (m := seen) (fun p b hb => ((h.seen p b).1 hb).1) (A2.mk dep r.2.2.Arr ((k + 1 : Nat) : Int))
 rw [h.seen] at hseen
 by_cases c : r.2.2.Station = to
 ·have c' : (r.2.2.Station == to) = true := by simpa using c
  rw [c', if_pos rfl]
  cases c2 : (O2 seen (A2.mk dep r.2.2.Arr ((k + 1 : Nat) : Int))).getD false with
  | true =>
   have hin := (hseen.1 c2).2
   refine ⟨out, seen, rfl, h.iff fun p => ⟨.inl, ?_⟩⟩
   rintro (hp | ⟨_, hp⟩)
   ·exact hp
   ·rw [hp]; exact (h.mem _).1 hin
  | false =>
   have hnin : (A2.mk dep r.2.2.Arr ((k + 1 : Nat) : Int)) ∉ out := fun hin => by
    have := hseen.2 ⟨rfl, hin⟩
    rw [c2] at this; cases this
   have hs := h.small
   refine ⟨out ++ [⟨dep, r.2.2.Arr, ((k + 1 : Nat) : Int)⟩], O1 seen ⟨dep, r.2.2.Arr, ((k + 1 : Nat) : Int)⟩ true, ?_, ?_⟩
   ·rw [show (!false) = true from rfl, if_pos rfl, M8 (by rw [b4o]; omega)]
    rfl
   ·refine ⟨?_, fun p => ?_, fun p b => ?_, fun p hp => ?_⟩
    ·rw [b4q]
     exact ⟨h.nd, by simp, fun a ha b hb => by simp at hb; subst hb; exact fun e => hnin (e ▸ ha)⟩
    ·rw [b2X, h.mem]
     simp [c]
    ·rw [a4B (fun b hb => hnin ((h.seen _ _).1 hb).2), b2X, h.seen, b2X]
     simp only [List.mem_singleton, Prod.mk.injEq]
     constructor
     ·rintro (⟨h1, h2⟩ | ⟨h1, h2⟩)
      ·exact ⟨h1, .inl h2⟩
      ·exact ⟨h2, .inr h1⟩
     ·rintro ⟨h1, h2 | h2⟩
      ·exact .inl ⟨h1, h2⟩
      ·exact .inr ⟨h2, h1⟩
    ·rcases b2X.1 hp with hp | hp
     ·exact h.box p hp
     ·simp at hp
      subst hp
      simp only
      omega
 ·have c' : (r.2.2.Station == to) = false := by simpa using c
  rw [c']
  exact ⟨out, seen, rfl, h.iff fun p => ⟨.inl, fun hp => hp.elim id fun q => absurd q.1 c⟩⟩
theorem a6g {F : List RR} (hF : ∀ q ∈ F, q ∈ AD d) {k : Nat} (hk : k < 4) : ∀ (n : Nat) (left : List (F8 × Bool)) (st : List A2 × List (A2 × Bool)) (T : A2 → Prop) (o : Orc), left.length ≤ n → Pts st.1 st.2 T → (∀ e ∈ left, ∃ r, SK d ls F k r ∧ plc r = e.1) →
  ∃ st', a2V (fun x st => B5.loop4.step ⟨d, ls⟩ to dep k x.1 x.2 st.1 st.2) n left st o = some st' ∧ Pts st'.1 st'.2 (fun p => T p ∨ ∃ e ∈ left, ∃ r, SK d ls F k r ∧ plc r = e.1 ∧ r.2.2.Station = to ∧ p = ⟨dep, r.2.2.Arr, ((k + 1 : Nat) : Int)⟩)
 | 0, left, st, T, o, hl, hb, _ => by
  obtain rfl : left = [] := b2z (by omega)
  exact ⟨st, rfl, hb.iff (by simp)⟩
 | n + 1, left, st, T, o, hl, hb, he => by
  rw [a2V]
  cases hx : left[o [] % left.length]? with
  | none =>
   have h0 : left = [] := by
    rcases b2T left.length with z | z
    ·exact b2z z
    ·rw [b2q (Nat.mod_lt _ z)] at hx; cases hx
   subst h0
   exact ⟨st, rfl, hb.iff (by simp)⟩
  | some e =>
   obtain ⟨hi, hxe⟩ := b2t.1 hx
   have hp := a0s left _ hi
   rw [hxe] at hp
   have hem : e ∈ left := b2J hx
   obtain ⟨r, hr, hre⟩ := he e hem
   have hA := a8z hF k r hr
   obtain ⟨out1, seen1, s1, s2⟩ := a6I hd hdep hk hA hre (u := e.2) (ls := ls) (to := to) hb (o.sub 0)
   simp only
   rw [s1, b2m]
   obtain ⟨st', k1, k2⟩ := a6g hF hk n (left.eraseIdx (o [] % left.length)) (out1, seen1) _ (o.sub 1) (by rw [b4t hi]; omega) s2 (fun e h => he e (b5h h))
   refine ⟨st', k1, k2.iff fun p => ?_⟩
   have hmem : ∀ z, z ∈ left ↔ z = e ∨ z ∈ left.eraseIdx (o [] % left.length) := fun z => by rw [← hp.mem_iff, b2M]
   constructor
   ·rintro ((h | ⟨h1, h2⟩) | ⟨z, hz, y, h1, h2, h3⟩)
    ·exact .inl h
    ·exact .inr ⟨e, hem, r, hr, hre, h1, h2⟩
    ·exact .inr ⟨z, (hmem z).2 (.inr hz), y, h1, h2, h3⟩
   ·rintro (h | ⟨z, hz, y, h1, h2, h3, h4⟩)
    ·exact .inl (.inl h)
    ·rcases (hmem z).1 hz with rfl | hz
     ·have := (a2A (ls := ls) (a8z hF k y h1) hA (h2.trans hre.symm)).1
      exact .inl (.inr ⟨by rw [← this]; exact h3, by rw [h4, this]⟩)
     ·exact .inr ⟨z, hz, y, h1, h2, h3, h4⟩
theorem a5O {F : List RR} (hF : ∀ q ∈ F, q ∈ AD d) {Ms : List (List (F8 × Bool))} (hl : Ms.length = 4) (hM : ∀ (k : Nat) M, Ms[k]? = some M → a9Y d ls F k M) : ∀ (n k : Nat) (st : List A2 × List (A2 × Bool)) (T : A2 → Prop) (o : Orc), k + n = 4 → Pts st.1 st.2 T →
  ∃ st', a6F (fun x st => B5.loop3.step ⟨d, ls⟩ to dep Ms x st.1 st.2) n k st o = some st' ∧ Pts st'.1 st'.2 (fun p => T p ∨ ∃ j, k ≤ j ∧ j < 4 ∧ ∃ r, SK d ls F j r ∧ r.2.2.Station = to ∧ p = ⟨dep, r.2.2.Arr, ((j + 1 : Nat) : Int)⟩)
 | 0, k, st, T, o, hn, hb => ⟨st, rfl, hb.iff fun p => by
   constructor
   ·exact .inl
   ·rintro (h | ⟨j, h1, h2, _⟩)
    ·exact h
    ·omega⟩
 | n + 1, k, st, T, o, hn, hb => by
  have hk : k < Ms.length := by omega
  have hg : Ms[k]? = some Ms[k] := b2q hk
  have hE := hM k _ hg
  generalize Ms[k] = M at hg hE
  obtain ⟨s1, k1, k2⟩ := a6g hd hdep (ls := ls) (to := to) hF (k := k) (by omega) M.length M st T ((o.sub 0).sub 0) (b2Z _) hb (fun e he => ((hE e.1 e.2).1 he).2)
  have hstep : B5.loop3.step ⟨d, ls⟩ to dep Ms k st.1 st.2 (o.sub 0) = some s1 := by
   unfold B5.loop3.step
   rw [O0, hg, b2m]
   show Option.bind (B5.loop4 ⟨d, ls⟩ to dep k M st.1 st.2 ((o.sub 0).sub 0)) _ = _
   unfold B5.loop4
   rw [k1]; rfl
  obtain ⟨s2, m1, m2⟩ := a5O hF hl hM n (k + 1) s1 _ (o.sub 1) (by omega) k2
  refine ⟨s2, ?_, m2.iff fun p => ?_⟩
  ·rw [a6F, hstep, b2m]; exact m1
  ·constructor
   ·rintro ((h | ⟨e, he, r, h1, h2, h3⟩) | ⟨j, h1, h2, h3⟩)
    ·exact .inl h
    ·exact .inr ⟨k, b2Z _, by omega, r, h1, h3⟩
    ·exact .inr ⟨j, by omega, h2, h3⟩
   ·rintro (h | ⟨j, h1, h2, r, h3, h4⟩)
    ·exact .inl (.inl h)
    ·by_cases c : j = k
     ·subst c
      exact .inl (.inr ⟨(plc r, true), (hE _ _).2 ⟨rfl, r, h3, rfl⟩, r, h3, rfl, h4⟩)
     ·exact .inr ⟨j, by omega, h2, r, h3, h4⟩
end
section
variable {d : B0} (hd : O5 d) {ls : Int} (h0 : 0 ≤ ls ∧ ls ≤ 28800) {to : Int}
include hd h0
theorem a5L {F : List RR} (hF : ∀ q ∈ F, q ∈ AD d) : ∀ (n : Nat) (left : List (Int × List A1)) (st : List A2 × List (A2 × Bool)) (T : A2 → Prop) (o : Orc), left.length ≤ n → Pts st.1 st.2 T →
  (∀ e ∈ left, (0 ≤ e.1 ∧ e.1 ≤ 28800) ∧ e.2 = (F.filter (fun q => q.2.1.Dep == e.1)).map (·.1)) →
  ∃ st', a2V (fun x st => B5.loop2.step ⟨d, ls⟩ to x.1 x.2 st.1 st.2) n left st o = some st' ∧ Pts st'.1 st'.2 (fun p => T p ∨ ∃ e ∈ left, ∃ j, j < 4 ∧ ∃ r, SK d ls (F.filter (fun q => q.2.1.Dep == e.1)) j r ∧ r.2.2.Station = to ∧ p = ⟨e.1, r.2.2.Arr, ((j + 1 : Nat) : Int)⟩)
 | 0, left, st, T, o, hl, hb, _ => by
  obtain rfl : left = [] := b2z (by omega)
  exact ⟨st, rfl, hb.iff (by simp)⟩
 | n + 1, left, st, T, o, hl, hb, he => by
  rw [a2V]
  cases hx : left[o [] % left.length]? with
  | none =>
   have h0 : left = [] := by
    rcases b2T left.length with z | z
    ·exact b2z z
    ·rw [b2q (Nat.mod_lt _ z)] at hx; cases hx
   subst h0
   exact ⟨st, rfl, hb.iff (by simp)⟩
  | some e =>
   obtain ⟨hi, hxe⟩ := b2t.1 hx
   have hp := a0s left _ hi
   rw [hxe] at hp
   have hem : e ∈ left := b2J hx
   obtain ⟨hdep, hL⟩ := he e hem
   have hF' : ∀ q ∈ F.filter (fun q => q.2.1.Dep == e.1), q ∈ AD d := fun q h => hF q (b2F.1 h).1
   obtain ⟨Ms, m1, m2, m3⟩ := a8t hd h0 hF'
   obtain ⟨s1, k1, k2⟩ := a5O hd hdep (ls := ls) (to := to) hF' m2 m3 4 0 st T ((o.sub 0).sub 0) rfl hb
   have hstep : B5.loop2.step ⟨d, ls⟩ to e.1 e.2 st.1 st.2 (o.sub 0) = some s1 := by
    unfold B5.loop2.step
    rw [hL, m1, b2m]
    show Option.bind (B5.loop3 ⟨d, ls⟩ to e.1 Ms 4 st.1 st.2 ((o.sub 0).sub 0)) _ = _
    unfold B5.loop3
    rw [k1]; rfl
   simp only
   rw [hstep, b2m]
   obtain ⟨st', j1, j2⟩ := a5L hF n (left.eraseIdx (o [] % left.length)) s1 _ (o.sub 1) (by rw [b4t hi]; omega) k2 (fun e h => he e (b5h h))
   refine ⟨st', j1, j2.iff fun p => ?_⟩
   have hmem : ∀ z, z ∈ left ↔ z = e ∨ z ∈ left.eraseIdx (o [] % left.length) := fun z => by rw [← hp.mem_iff, b2M]
   constructor
   ·rintro ((h | ⟨j, _, h2, h3⟩) | ⟨z, hz, h3⟩)
    ·exact .inl h
    ·exact .inr ⟨e, hem, j, h2, h3⟩
    ·exact .inr ⟨z, (hmem z).2 (.inr hz), h3⟩
   ·rintro (h | ⟨z, hz, j, h2, h3⟩)
    ·exact .inl (.inl h)
    ·rcases (hmem z).1 hz with rfl | hz
     ·exact .inl (.inr ⟨j, Nat.zero_le _, h2, h3⟩)
     ·exact .inr ⟨z, hz, j, h2, h3⟩
end
theorem a2t {A : List RR} {ls : Int} {first fin : RR → Bool} {l : List RR} (h : l ∈ dfs A ls first fin 4 []) : l.length ≤ 4 ∧ l ≠ [] ∧ (∀ q ∈ l, q ∈ A) ∧ Ext A ls first [] l ∧ l.getLast?.any fin = true := by
 obtain ⟨s, h1, h2, h3, h4⟩ := (a1u 4 [] l).1 h
 rw [b3c] at h1
 subst h1
 exact ⟨h2, fun e => by subst e; simp at h3, a7y l [] h4, h4, h3⟩
theorem a4L {d : B0} (hd : O5 d) {ls : Int} (h0 : 0 ≤ ls ∧ ls ≤ 28800) {st to : Int} (hto : 0 ≤ to) : ∃ ps, B5 ⟨d, ls⟩ st to = some ps ∧ ps.length ≤ 3317990404 ∧ (∀ p, p ∈ ps ↔ ∃ c ∈ dfs (AD d) ls (fun q => q.2.1.Station == st) (a0m to) 4 [], pt_ c = p) ∧ ps.Nodup ∧ a6r H5 ps := by
 have hF : ∀ q ∈ (AD d).filter (fits st 0 (-1)), q ∈ AD d := fun q h => (b2F.1 h).1
 have hfit : ∀ q ∈ AD d, (fits st 0 (-1) q = true ↔ (q.2.1.Station == st) = true) := by
  intro q hq
  have ht := T2 hd hq
  unfold fits
  have e1 : (q.1.Train == (-1)) = false := by
   have : ¬ q.1.Train = -1 := by omega
   simpa using this
  rw [e1]
  simp
  omega
 obtain ⟨M, s1, s2⟩ := a3r (d := d) (ls := ls) ((AD d).filter (fits st 0 (-1))) [] [] hF (by
  have := b4n (fits st 0 (-1)) (AD d)
  have := a5u hd
  simp only [b3j]; omega) ⟨List.nodup_nil, by simp, by simp, by simp⟩
 rw [b3c] at s2
 have key : ∀ o, ∃ out seen, B5.o ⟨d, ls⟩ st to o = some (W0 H5 out) ∧ Pts out seen (fun p => ∃ c ∈ dfs (AD d) ls (fun q => q.2.1.Station == st) (a0m to) 4 [], pt_ c = p) := by
  intro o
  obtain ⟨⟨out, seen⟩, k1, k2⟩ := a5L hd h0 (to := to) hF M.length M ([], []) (fun _ => False) (o.sub 0) (b2Z _) ⟨List.nodup_nil, by simp, by simp, by simp⟩ (fun e he => by
   obtain ⟨q, h1, h2⟩ := s2.from_ e.1 e.2 he
   have := T2 hd (hF q h1)
   exact ⟨by omega, s2.is e.1 e.2 he⟩)
  refine ⟨out, seen, ?_, k2.iff fun p => ?_⟩
  ·unfold B5.o
   rw [J1, a1N, s1, b2m]
   show Option.bind (B5.loop2 ⟨d, ls⟩ to M [] [] (o.sub 0)) _ = _
   unfold B5.loop2
   rw [k1, b2m]
   show Option.bind (a7G H5 out) _ = _
   rw [a7K (okP out) (by have := k2.small; simp only at this; omega)]
   rfl
  ·constructor
   ·rintro (h | ⟨e, he, j, hj, r, h1, h2, h3⟩)
    ·exact h.elim
    ·obtain ⟨z, s, q1, q2, q3, q4⟩ := a7E (first := fun q => q.2.1.Station == st) (fun q hq => by
      have h4 := (b2F.1 hq).1
      exact ⟨hF q h4, (hfit q (hF q h4)).1 (b2F.1 h4).2⟩) j r h1
     refine ⟨z :: s, (a1u 4 [] _).2 ⟨z :: s, rfl, by simp; omega, ?_, q3⟩, ?_⟩
     ·rw [q4]
      simp [a0m, h2]
     ·have hz : z.2.1.Dep = e.1 := by simpa using (b2F.1 q1).2
      rw [h3]
      unfold pt_
      rw [q4]
      simp [hz, q2]
   ·rintro ⟨c, hc, rfl⟩
    obtain ⟨l1, l2, l3, l4, l5⟩ := a2t hc
    obtain ⟨b, s, rfl⟩ : ∃ b s, c = b :: s := by
     cases c with
     | nil => exact absurd rfl l2
     | cons b s => exact ⟨b, s, rfl⟩
    obtain ⟨z, hz⟩ : ∃ z, (b :: s).getLast? = some z := ⟨_, b4L (by simp)⟩
    have hbF : b ∈ (AD d).filter (fits st 0 (-1)) := b2F.2 ⟨l4.1, (hfit b l4.1).2 l4.2.1⟩
    obtain ⟨L, hL⟩ := s2.all b hbF
    have hb : SK d ls (((AD d).filter (fits st 0 (-1))).filter (fun q => q.2.1.Dep == b.2.1.Dep)) 0 b := b2F.2 ⟨hbF, by simp⟩
    have := a7r s [b] b z 0 rfl hb (by simpa using l4.2.2) hz
    rw [hz] at l5
    refine .inr ⟨(b.2.1.Dep, L), hL, 0 + s.length, by simp at l1; omega, z, this, ?_, ?_⟩
    ·simp [a0m] at l5
     rcases l5 with h | h
     ·omega
     ·exact h
    ·unfold pt_
     rw [hz]
     simp
 obtain ⟨out0, seen0, g1, g2⟩ := key (fun _ => 0)
 refine ⟨W0 H5 out0, a7N fun o => ?_, ?_, fun p => ?_, (R4 _ _).nodup_iff.2 g2.nd, a0u (okP _)⟩
 ·obtain ⟨out, seen, k1, k2⟩ := key o
  rw [k1]
  congr 1
  have hp : out.Perm out0 := (List.perm_ext_iff_of_nodup k2.nd g2.nd).2 fun p => by rw [k2.mem, g2.mem]
  refine a3V (okP _) ?_ (a0u (okP _)) (a0u (okP _))
  exact (R4 _ _).trans (hp.trans (R4 _ _).symm)
 ·rw [a1m]; exact g2.small
 ·rw [(R4 _ _).mem_iff, g2.mem]
theorem b0d (y : Int) : ∀ (l : List A2) (k : Nat), (∃ j, j < l.length ∧ B6.loop1 y l k = .ret (((k + j : Nat)) : Int) ∧ (∀ p ∈ l.take j, B7 p y = false)) ∨ (B6.loop1 y l k = .next () ∧ ∀ p ∈ l, B7 p y = false)
 | [], k => .inr ⟨rfl, by simp⟩
 | x :: l, k => by
  rw [B6.loop1]
  cases c : B7 x y with
  | true => exact .inl ⟨0, by simp, rfl, by simp⟩
  | false =>
   rw [if_neg (by decide)]
   rcases b0d y l (k + 1) with ⟨j, h1, h2, h3⟩ | ⟨h1, h2⟩
   ·refine .inl ⟨j + 1, by simp; omega, ?_, ?_⟩
    ·rw [h2, show k + 1 + j = k + (j + 1) by omega]
    ·intro p hp
     rw [List.take_succ_cons] at hp
     rcases b2M.1 hp with rfl | hp
     ·exact c
     ·exact h3 p hp
   ·exact .inr ⟨h1, fun p hp => by
     rcases b2M.1 hp with rfl | hp
     ·exact c
     ·exact h2 p hp⟩
theorem a2e (y : Int) (l : List A2) (hl : l.length ≤ 4294967296) : ∀ (n : Nat) (i j : Nat) (q : List A2), l.length - j < n → i ≤ j → j ≤ l.length → q.length = l.length → q.take i = (l.take j).filter (fun p => !B7 p y) → q.drop j = l.drop j →
  ∃ (i' : Nat) (j' : Int) (q' : List A2), D1.loop1 l y n (i : Int) (j : Int) q = some ((i' : Int), j', q') ∧ i' ≤ l.length ∧ q'.length = l.length ∧ q'.take i' = l.filter (fun p => !B7 p y)
 | 0, _, _, _, h, _, _, _, _, _ => absurd h (b4U _)
 | n + 1, i, j, q, h, hij, hj, hq, ht, hd => by
  rw [D1.loop1]
  by_cases c : j < l.length
  ·rw [decide_eq_true (by omega), if_pos rfl]
   have hg : q[j]? = l[j]? := by
    have : (q.drop j)[0]? = (l.drop j)[0]? := by rw [hd]
    simpa using this
   have hx : l[j]? = some l[j] := b2q c
   generalize l[j] = x at hx
   rw [O0, hg, hx, b2m]
   have hd1 : q.drop (j + 1) = l.drop (j + 1) := by
    have : (q.drop j).drop 1 = (l.drop j).drop 1 := by rw [hd]
    simpa [List.drop_drop, Nat.add_comm] using this
   have htk : l.take (j + 1) = l.take j ++ [x] := by
    rw [b4r, hx]; rfl
   rw [show w64 ((j : Int) + 1) = ((j + 1 : Nat) : Int) by rw [Q5 (by omega)]; omega]
   cases cp : B7 x y with
   | true =>
    rw [show (!true) = false from rfl, if_neg (by decide), b2m]
    refine a2e y l hl n i (j + 1) q (by omega) (by omega) (by omega) hq ?_ hd1
    rw [ht, htk, b3J]
    simp [cp]
   | false =>
    rw [show (!false) = true from rfl, if_pos rfl, a3f (by omega) (by omega), b2m, a3y (by omega) (by omega), b2m, b2m]
    simp only [b3s]
    rw [show w64 ((i : Int) + 1) = ((i + 1 : Nat) : Int) by rw [Q5 (by omega)]; omega]
    refine a2e y l hl n (i + 1) (j + 1) (q.set i x) (by omega) (by omega) (by omega) (by rw [b3C]; exact hq) ?_ ?_
    ·have hi : i < (q.set i x).length := by rw [b3C]; omega
     rw [b4r, b4C (by omega), htk, b3J, ← ht, List.take_set_of_le (b2Z _)]
     simp [cp]
    ·rw [List.drop_set_of_lt (by omega)]
     exact hd1
  ·rw [decide_eq_false (by omega), if_neg (by decide)]
   have : j = l.length := by omega
   refine ⟨i, j, q, rfl, by omega, hq, ?_⟩
   rw [ht, this, b4J]
theorem a8L (y : Int) (l : List A2) (hl : l.length ≤ 4294967296) {fu : Nat} (hf : l.length < fu) : D1 fu l y = some (l.filter (fun p => !B7 p y)) := by
 rw [D1]
 have hI : (∃ j, j < l.length ∧ B6 l y = (j : Int) ∧ (∀ p ∈ l.take j, B7 p y = false)) ∨ (B6 l y = -1 ∧ ∀ p ∈ l, B7 p y = false) := by
  rw [B6, J1]
  rcases b0d y l 0 with ⟨j, h1, h2, h3⟩ | ⟨h1, h2⟩
  ·rw [h2]; exact .inl ⟨j, h1, by simp, h3⟩
  ·rw [h1]; exact .inr ⟨rfl, h2⟩
 rcases hI with ⟨j, h1, h2, h3⟩ | ⟨h1, h2⟩
 ·rw [h2]
  have c : ((j : Int) == -1) = false := beq_eq_false_iff_ne.2 (by omega)
  rw [c, if_neg (by decide)]
  have hw : w64 ((j : Int) + 1) = ((j + 1 : Nat) : Int) := by rw [Q5 (by omega)]; omega
  rw [hw]
  have hx : l[j]? = some l[j] := b2q h1
  have hst : l.take j = (l.take (j + 1)).filter (fun p => !B7 p y) ∨ True := .inr trivial
  have hp : B7 (l[j]) y = true := by
   cases cp : B7 (l[j]) y with
   | true => rfl
   | false =>
    exfalso
    have key : ∀ (m : List A2) (k j : Nat), B6.loop1 y m k = .ret (((k + j : Nat)) : Int) → ∀ x, m[j]? = some x → B7 x y = true := by
     intro m
     induction m with
     | nil => intro k j h; cases h
     | cons z m ih =>
      intro k j h x hx
      rw [B6.loop1] at h
      cases cz : B7 z y with
      | true =>
       rw [cz, if_pos rfl] at h
       injection h with h
       have : j = 0 := by omega
       subst this
       simp at hx
       subst hx
       exact cz
      | false =>
       rw [cz, if_neg (by decide)] at h
       cases j with
       | zero =>
        exfalso
        rcases b0d y m (k + 1) with ⟨i, _, h4, _⟩ | ⟨h4, _⟩
        ·rw [h4] at h; injection h with h; omega
        ·rw [h4] at h; cases h
       | succ j =>
        exact ih (k + 1) j (by rw [h, show k + 1 + j = k + (j + 1) by omega]) x (by simpa using hx)
    rw [B6, J1] at h2
    rcases b0d y l 0 with ⟨i, _, h4, _⟩ | ⟨h4, _⟩
    ·rw [h4] at h2
     have h2 : (((0 + i : Nat)) : Int) = (j : Int) := h2
     obtain rfl : i = j := by omega
     have := key l 0 i h4 _ hx
     rw [cp] at this; cases this
    ·rw [h4] at h2
     have h2 : (-1 : Int) = (j : Int) := h2
     omega
  obtain ⟨i', j', q', k1, k2, k3, k4⟩ := a2e y l hl fu j (j + 1) l (by omega) (by omega) (by omega) rfl (by
   rw [b4r, hx, b3J]
   rw [b4T.2 (fun p hp => by rw [h3 p hp]; rfl)]
   simp [hp]) rfl
  rw [k1, b2m]
  show Option.bind (a2M q' 0 (i' : Int)) _ = _
  rw [a0P (by omega) (by omega) (by omega), b2m]
  simp [k4]
 ·rw [h1]
  rw [show ((-1 : Int) == -1) = true from rfl, if_pos rfl, b4T.2 (fun p hp => by rw [h2 p hp]; rfl)]
theorem a1P (l : List A2) (hl : l.length ≤ 4294967296) (htr : ∀ a b c : A2, C7 a b < 0 → C7 b c < 0 → C7 a c < 0) (hir : ∀ a : A2, ¬ C7 a a < 0) : ∀ (n : Nat) (i : Nat) (m : A2), l.length - i < n → i ≤ l.length → m ∈ l → (∀ p ∈ l.take i, ¬ C7 p m < 0) →
  ∃ (i' : Int) (m' : A2), D8.loop1 l n (i : Int) m.Dep m.Arr m.Rides = some (i', m'.Dep, m'.Arr, m'.Rides) ∧ m' ∈ l ∧ ∀ p ∈ l, ¬ C7 p m' < 0
 | 0, _, _, h, _, _, _ => absurd h (b4U _)
 | n + 1, i, m, h, hi, hm, hmin => by
  rw [D8.loop1]
  by_cases c : i < l.length
  ·rw [decide_eq_true (by omega), if_pos rfl]
   have hx : l[i]? = some l[i] := b2q c
   have hxl : l[i] ∈ l := b3L c
   generalize l[i] = x at hx hxl
   rw [O0, hx, b2m]
   have htk : l.take (i + 1) = l.take i ++ [x] := by
    rw [b4r, hx]; rfl
   rw [show w64 ((i : Int) + 1) = ((i + 1 : Nat) : Int) by rw [Q5 (by omega)]; omega]
   rw [show A2.mk m.Dep m.Arr m.Rides = m from rfl]
   by_cases cp : C7 x m < 0
   ·rw [decide_eq_true cp, if_pos rfl, b2m, b2m]
    refine a1P l hl htr hir n (i + 1) x (by omega) (by omega) hxl ?_
    intro p hp
    rw [htk] at hp
    rcases b2X.1 hp with hp | hp
    ·exact fun h => hmin p hp (htr _ _ _ h cp)
    ·simp at hp; subst hp; exact hir p
   ·rw [decide_eq_false cp, if_neg (by decide), b2m]
    refine a1P l hl htr hir n (i + 1) m (by omega) (by omega) hm ?_
    intro p hp
    rw [htk] at hp
    rcases b2X.1 hp with hp | hp
    ·exact hmin p hp
    ·simp at hp; subst hp; exact cp
  ·rw [decide_eq_false (by omega), if_neg (by decide)]
   refine ⟨i, m, rfl, hm, ?_⟩
   rwa [b3w (by omega)] at hmin
theorem a8n (l : List A2) (hl : l.length ≤ 4294967296) (hne : l ≠ []) {fu : Nat} (hf : l.length < fu) (htr : ∀ a b c : A2, C7 a b < 0 → C7 b c < 0 → C7 a c < 0) (hir : ∀ a : A2, ¬ C7 a a < 0) :
  ∃ m, D8 fu l = some m ∧ m ∈ l ∧ ∀ p ∈ l, ¬ C7 p m < 0 := by
 obtain ⟨x, r, rfl⟩ : ∃ x r, l = x :: r := by
  cases l with
  | nil => exact absurd rfl hne
  | cons x r => exact ⟨x, r, rfl⟩
 obtain ⟨i', m', k1, k2, k3⟩ := a1P (x :: r) hl htr hir fu 1 x (by omega) (by simp) (b2A ..) (by
  intro p hp
  simp at hp
  subst hp
  exact hir p)
 refine ⟨m', ?_, k2, k3⟩
 rw [D8, decide_eq_false (by simp; omega), if_neg (by decide)]
 rw [show gx (x :: r) 0 = some x from rfl, b2m]
 rw [show (1 : Int) = ((1 : Nat) : Int) from rfl, k1]
 rfl
theorem a7R {l : List RR} {q : RR} (h : l.getLast? = some q) (hs : l.length ≤ 4) : gx (l.map (·.1)) (w64 ((((l.map (·.1)).length : Nat) : Int) - 1)) = some q.1 := by
 have hne : l ≠ [] := fun e => by subst e; cases h
 have hp := b4V.2 hne
 rw [X7 (by rw [b2B]; exact hp) (b2Z _) (by rw [b2B]; omega)]
 rw [List.getLast?_eq_getElem?, b2t] at h
 obtain ⟨h1, h2⟩ := h
 simp [h2]
theorem a4R {d : B0} {l : List RR} {q : RR} (h : l.getLast? = some q) (hs : l.length ≤ 4) (hA : q ∈ AD d) : L2 d (JJ l) = some q.2.2.Arr := by
 obtain ⟨x, o⟩ := a1V hA
 rw [L2]
 rw [show (JJ l).Rides = l.map (·.1) from rfl, a7R h hs]
 simp only [b2m, o.tr, o.off]
theorem a3o {d : B0} {q : RR} {s : List RR} (hA : q ∈ AD d) : K4 d (JJ (q :: s)) = some q.2.1.Dep := by
 obtain ⟨x, o⟩ := a1V hA
 rw [K4]
 have : gx (JJ (q :: s)).Rides 0 = some q.1 := rfl
 rw [this]
 simp only [b2m, o.tr, o.on]
theorem a6l (a1 a2 a3 b1 b2 b3 : Int) : ∃ v, H3 [a1, a2, a3] [b1, b2, b3] = some v ∧ (v < 0 ↔ a1 < b1 ∨ a1 = b1 ∧ (a2 < b2 ∨ a2 = b2 ∧ a3 < b3)) := by
 have g0 : gx [b1, b2, b3] ((0 : Nat) : Int) = some b1 := rfl
 have g1 : gx [b1, b2, b3] ((0 + 1 : Nat) : Int) = some b2 := rfl
 have g2 : gx [b1, b2, b3] ((0 + 1 + 1 : Nat) : Int) = some b3 := rfl
 rw [H3]
 simp only [H3.loop1, g0, g1, g2, b2m]
 have n0 : decide (((0 : Nat) : Int) ≥ (([b1, b2, b3] : List Int).length : Int)) = false := by simp
 have n1 : decide (((0 + 1 : Nat) : Int) ≥ (([b1, b2, b3] : List Int).length : Int)) = false := by simp
 have n2 : decide (((0 + 1 + 1 : Nat) : Int) ≥ (([b1, b2, b3] : List Int).length : Int)) = false := by simp
 rw [n0, n1, n2]
 simp only [b2s, if_false]
 by_cases c1 : B3 a1 b1 = 0
 ·have e1 := (U6 _ _).1 c1
  rw [c1]
  by_cases c2 : B3 a2 b2 = 0
  ·have e2 := (U6 _ _).1 c2
   rw [c2]
   by_cases c3 : B3 a3 b3 = 0
   ·have e3 := (U6 _ _).1 c3
    rw [c3]
    refine ⟨0, rfl, ?_⟩
    omega
   ·have b : (B3 a3 b3 != 0) = true := by simpa using c3
    rw [b]
    refine ⟨B3 a3 b3, rfl, ?_⟩
    rw [a2c]; omega
  ·have b : (B3 a2 b2 != 0) = true := by simpa using c2
   have e2 : ¬ a2 = b2 := fun e => c2 ((U6 _ _).2 e)
   rw [b]
   refine ⟨B3 a2 b2, rfl, ?_⟩
   rw [a2c]; omega
 ·have b : (B3 a1 b1 != 0) = true := by simpa using c1
  have e1 : ¬ a1 = b1 := fun e => c1 ((U6 _ _).2 e)
  rw [b]
  refine ⟨B3 a1 b1, rfl, ?_⟩
  rw [a2c]; omega
theorem a5F (p q : A2) : C7 p q < 0 ↔ p.Arr < q.Arr ∨ p.Arr = q.Arr ∧ (p.Rides < q.Rides ∨ p.Rides = q.Rides ∧ -p.Dep < -q.Dep) := by
 unfold C7
 rw [or3]
 simp only [a2c, U6]
 omega
section
variable {d : B0} {L : List (List RR)} (hL : ∀ c ∈ L, c.length ≤ 4 ∧ c ≠ [] ∧ ∀ q ∈ c, q ∈ AD d) (hd : O5 d)
def a8T : Option (List RR) → List Int
 | none => []
 | some c => (fun p : A2 => [p.Arr, p.Rides, -p.Dep]) (pt_ c)
def a0N : List (List RR) → Option (List RR) → Option (List RR)
 | [], b => b
 | c :: r, none => a0N r (some c)
 | c :: r, some b => if C7 (pt_ c) (pt_ b) < 0 then a0N r (some c) else a0N r (some b)
include hd in
theorem a9r {c : List RR} (h : c.length ≤ 4 ∧ c ≠ [] ∧ ∀ q ∈ c, q ∈ AD d) : J8 (JJ c) d = some ((fun p : A2 => [p.Arr, p.Rides, -p.Dep]) (pt_ c)) := by
 obtain ⟨h4, hne, hA⟩ := h
 obtain ⟨b, s, rfl⟩ : ∃ b s, c = b :: s := by
  cases c with
  | nil => exact absurd rfl hne
  | cons b s => exact ⟨b, s, rfl⟩
 obtain ⟨z, hz⟩ : ∃ z, (b :: s).getLast? = some z := ⟨_, b4L (by simp)⟩
 have hzA : z ∈ AD d := hA z (List.mem_of_getLast? hz)
 have hbA := hA b (b2A ..)
 have h1 := T2 hd hzA
 have h2 := T2 hd hbA
 rw [J8, a4R hz h4 hzA, a3o hbA, b2m, b2m]
 unfold pt_
 rw [hz]
 simp only [List.head?_cons, b3y, b3D, JJ, b2B]
 rw [Q5 (by omega)]
 simp
include hL hd in
theorem V8 : ∀ (r : List (List RR)) (k : Nat) (b : Option (List RR)), L.drop k = r → (∀ c, b = some c → c.length ≤ 4 ∧ c ≠ [] ∧ ∀ q ∈ c, q ∈ AD d) →
  G7.loop1 (L.map JJ) d r.length k (a8T b) ((b.getD []).map (·.1)) = some (a8T (a0N r b), ((a0N r b).getD []).map (·.1))
 | [], k, b, _, _ => rfl
 | c :: r, k, b, hdr, hb => by
  obtain ⟨d1, d2, d3⟩ := C3 hdr
  have hc := hL c (b2J d2)
  rw [b2v, G7.loop1, O0, b3l, d2]
  simp only [b3y, b2m]
  rw [a9r hd hc, b2m, show nz ((fun p : A2 => [p.Arr, p.Rides, -p.Dep]) (pt_ c)) = some () from rfl, b2m]
  cases b with
  | none =>
   have := V8 r (k + 1) (some c) d3 (fun _ h => by injection h with h; exact h ▸ hc)
   simpa [a8T, a0N, JJ, J1] using this
  | some b =>
   obtain ⟨v, hv, hlt⟩ := a6l ((fun p : A2 => p.Arr) (pt_ c)) ((fun p : A2 => p.Rides) (pt_ c)) ((fun p : A2 => -p.Dep) (pt_ c)) ((fun p : A2 => p.Arr) (pt_ b)) ((fun p : A2 => p.Rides) (pt_ b)) ((fun p : A2 => -p.Dep) (pt_ b))
   have hv' : H3 ((fun p : A2 => [p.Arr, p.Rides, -p.Dep]) (pt_ c)) (a8T (some b)) = some v := hv
   have he : (a8T (some b)).isEmpty = false := rfl
   rw [he, if_neg (by decide), hv', b2m, b2m, J1]
   by_cases cp : C7 (pt_ c) (pt_ b) < 0
   ·have hvn : v < 0 := hlt.2 ((a5F _ _).1 cp)
    rw [decide_eq_true hvn, if_pos rfl]
    have := V8 r (k + 1) (some c) d3 (fun _ h => by injection h with h; exact h ▸ hc)
    rw [a0N, if_pos cp]
    exact this
   ·have hvn : ¬ v < 0 := fun h => cp ((a5F _ _).2 (hlt.1 h))
    rw [decide_eq_false hvn, if_neg (by decide)]
    have := V8 r (k + 1) (some b) d3 hb
    rw [a0N, if_neg cp]
    exact this
theorem a1H : ∀ (r P : List (List RR)) (b : Option (List RR)), (P = [] → b = none) → (∀ c, b = some c → P.find? (fun x => decide (pt_ x = pt_ c)) = some c ∧ ∀ x ∈ P, ¬ C7 (pt_ x) (pt_ c) < 0) → (b = none → P = []) →
  (a0N r b = none ∧ P ++ r = []) ∨ ∃ c, a0N r b = some c ∧ (P ++ r).find? (fun x => decide (pt_ x = pt_ c)) = some c ∧ ∀ x ∈ P ++ r, ¬ C7 (pt_ x) (pt_ c) < 0
 | [], P, b, _, h, h0 => by
  rw [b3I, a0N]
  cases b with
  | none => exact .inl ⟨rfl, h0 rfl⟩
  | some c => exact .inr ⟨c, rfl, h c rfl⟩
 | c :: r, P, none, _, _, h0 => by
  obtain rfl := h0 rfl
  rw [a0N]
  have := a1H r [c] (some c) (by simp) (fun x hx => by
   injection hx with hx
   subst hx
   refine ⟨by simp, fun x hx => ?_⟩
   simp at hx
   subst hx
   rw [a5F]
   omega) (by simp)
  simpa using this
 | c :: r, P, some b, h1, h, h0 => by
  obtain ⟨hb1, hb2⟩ := h b rfl
  rw [a0N]
  have e : P ++ c :: r = (P ++ [c]) ++ r := by simp
  rw [e]
  by_cases cp : C7 (pt_ c) (pt_ b) < 0
  ·rw [if_pos cp]
   have cp' := (a5F _ _).1 cp
   refine a1H r (P ++ [c]) (some c) (by simp) (fun x hx => ?_) (by simp)
   injection hx with hx
   subst hx
   have hno : ∀ x ∈ P, ¬ pt_ x = pt_ c := fun x hx e => hb2 x hx (by rw [e]; exact cp)
   refine ⟨?_, fun x hx => ?_⟩
   ·rw [b5g, b4Z.2 (fun x hx => by simpa using hno x hx)]
    simp
   ·rcases b2X.1 hx with hx | hx
    ·have := hb2 x hx
     rw [a5F] at this ⊢
     omega
    ·simp at hx
     subst hx
     rw [a5F]
     omega
  ·rw [if_neg cp]
   refine a1H r (P ++ [c]) (some b) (by simp) (fun x hx => ?_) (by simp)
   injection hx with hx
   subst hx
   refine ⟨by rw [b5g, hb1]; rfl, fun x hx => ?_⟩
   rcases b2X.1 hx with hx | hx
   ·exact hb2 x hx
   ·simp at hx
    subst hx
    exact cp
include hL hd in
theorem a2p : (L = [] ∧ G7 (L.map JJ) d = some (⟨[]⟩, false)) ∨ ∃ c, G7 (L.map JJ) d = some (JJ c, true) ∧ L.find? (fun x => decide (pt_ x = pt_ c)) = some c ∧ ∀ x ∈ L, ¬ C7 (pt_ x) (pt_ c) < 0 := by
 have h := V8 hL hd L 0 none b2U (by simp)
 have h' : G7.loop1 (L.map JJ) d (L.map JJ).length 0 [] [] = some (a8T (a0N L none), ((a0N L none).getD []).map (·.1)) := by rw [b2B]; exact h
 rw [G7, h', b2m]
 rcases a1H L [] none (by simp) (by simp) (by simp) with ⟨k1, k2⟩ | ⟨c, k1, k2, k3⟩
 ·rw [k1]
  exact .inl ⟨by simpa using k2, rfl⟩
 ·rw [k1]
  exact .inr ⟨c, rfl, by simpa using k2, by simpa using k3⟩
end
theorem a0R {α : Type} {p q : α → Bool} (h : ∀ x, q x = true → p x = true) : ∀ (l : List α), (l.filter p).find? q = l.find? q
 | [] => rfl
 | x :: l => by
  rw [b3A, List.find?_cons]
  cases hp : p x with
  | true => rw [if_pos rfl, List.find?_cons, a0R h l]
  | false =>
   have : q x = false := by
    cases hq : q x with
    | false => rfl
    | true => have := h x hq; rw [hp] at this; cases this
   rw [if_neg (by decide), a0R h l, this]
theorem a3p {J : List (List RR)} {ps : List A2} (mem : ∀ p, p ∈ ps ↔ ∃ c ∈ J, pt_ c = p) (F : A2 → Bool) {m : A2} (hm : m ∈ ps.filter F) (hmin : ∀ p ∈ ps.filter F, ¬ C7 p m < 0) {c : List RR}
  (hf : (J.filter (fun c => F (pt_ c))).find? (fun x => decide (pt_ x = pt_ c)) = some c) (hc : ∀ x ∈ J.filter (fun c => F (pt_ c)), ¬ C7 (pt_ x) (pt_ c) < 0) : J.find? (fun x => decide (pt_ x = m)) = some c := by
 obtain ⟨m1, m2⟩ := b2F.1 hm
 obtain ⟨c0, g1, g2⟩ := (mem m).1 m1
 have h1 := b2F.1 (b5c hf)
 have h2 := hmin (pt_ c) (b2F.2 ⟨(mem _).2 ⟨c, h1.1, rfl⟩, h1.2⟩)
 have h3 := hc c0 (b2F.2 ⟨g1, by rw [g2]; exact m2⟩)
 rw [g2] at h3
 rw [a5F] at h2 h3
 have e : pt_ c = m := by
  generalize pt_ c = p at h2 h3
  obtain ⟨a1, a2, a3⟩ := p
  obtain ⟨b1, b2, b3⟩ := m
  simp only at h2 h3
  obtain rfl : a1 = b1 := by omega
  obtain rfl : a2 = b2 := by omega
  obtain rfl : a3 = b3 := by omega
  rfl
 rw [e] at hf
 rwa [a0R (fun x hx => by rw [of_decide_eq_true hx]; exact m2)] at hf
section
variable {d : B0} {L : List (List RR)} (hL : ∀ c ∈ L, c.length ≤ 4 ∧ c ≠ [] ∧ ∀ q ∈ c, q ∈ AD d)
include hL
theorem a2P (at_ : Int) : ∀ (r : List (List RR)) (k : Nat) (acc : List (List RR)), L.drop k = r → acc.length + r.length < 4294967296 →
  H6.loop1 d at_ (L.map JJ) r.length k (acc.map JJ) = some ((acc ++ r.filter (fun c => !B7 (pt_ c) at_)).map JJ)
 | [], k, acc, _, _ => by simp [H6.loop1]
 | c :: r, k, acc, hdr, hl => by
  obtain ⟨d1, d2, d3⟩ := C3 hdr
  obtain ⟨h4, hne, hA⟩ := hL c (b2J d2)
  obtain ⟨b, s, rfl⟩ : ∃ b s, c = b :: s := by
   cases c with
   | nil => exact absurd rfl hne
   | cons b s => exact ⟨b, s, rfl⟩
  simp only [b2v] at hl
  rw [b2v, H6.loop1, O0, b3l, d2]
  simp only [b3y, b2m]
  rw [a3o (hA b (b2A ..)), b2m]
  have e : B7 (pt_ (b :: s)) at_ = decide (b.2.1.Dep < at_) := rfl
  by_cases c : b.2.1.Dep ≥ at_
  ·rw [decide_eq_true c, if_pos rfl, M8 (by rw [b2B]; simp; omega), b2m, b2m]
   have := a2P at_ r (k + 1) (acc ++ [b :: s]) d3 (by rw [b2u]; simp; omega)
   rw [b3b] at this
   rw [show [JJ (b :: s)] = [b :: s].map JJ from rfl, this, List.filter_cons_of_pos (by rw [e]; simp; omega)]
   simp
  ·rw [decide_eq_false c, if_neg (by decide), b2m]
   have := a2P at_ r (k + 1) acc d3 (by omega)
   rw [this, List.filter_cons_of_neg (by rw [e]; simp; omega)]
end
section
variable {d : B0} (hd : O5 d) {ls : Int} (h0 : 0 ≤ ls ∧ ls ≤ 28800) {st to : Int} (hto : 0 ≤ to) {ps : List A2} (hps : B5 ⟨d, ls⟩ st to = some ps) (hlen : ps.length ≤ 3317990404)
 (hmem : ∀ p, p ∈ ps ↔ ∃ c ∈ dfs (AD d) ls (fun q => q.2.1.Station == st) (a0m to) 4 [], pt_ c = p) {fu : Nat} (hfu : ps.length + 60 ≤ fu)
include hd h0 hto hps hlen hmem hfu
theorem a2E (at_ : Int) : ∃ j b, O6 fu ⟨d, ls⟩ st at_ to = some (j, b) ∧
  G7 (((dfs (AD d) ls (fun q => q.2.1.Station == st) (a0m to) 4 []).filter (fun c => !B7 (pt_ c) at_)).map JJ) d = some (j, b) := by
 have hL : ∀ c ∈ (dfs (AD d) ls (fun q => q.2.1.Station == st) (a0m to) 4 []).filter (fun c => !B7 (pt_ c) at_), c.length ≤ 4 ∧ c ≠ [] ∧ ∀ q ∈ c, q ∈ AD d := fun c hc => by
  obtain ⟨l1, l2, l3, _⟩ := a2t (b2F.1 hc).1
  exact ⟨l1, l2, l3⟩
 rw [O6, hps, b2m, a8L at_ ps (by omega) (by omega), b2m]
 by_cases c : ps.filter (fun p => !B7 p at_) = []
 ·rw [c]
  refine ⟨⟨[]⟩, false, rfl, ?_⟩
  rcases a2p hL hd with ⟨_, k⟩ | ⟨c', _, k2, _⟩
  ·exact k
  ·have h1 := b5c k2
   obtain ⟨h2, h3⟩ := b2F.1 h1
   have : pt_ c' ∈ ps.filter (fun p => !B7 p at_) := b2F.2 ⟨(hmem _).2 ⟨c', h2, rfl⟩, h3⟩
   rw [c] at this; cases this
 ·have hn : ((((ps.filter (fun p => !B7 p at_)).length : Nat) : Int) == 0) = false := by
   have := b4V.2 c
   have : ¬ (((ps.filter (fun p => !B7 p at_)).length : Nat) : Int) = 0 := by omega
   simpa using this
  have hfl := b4n (fun p => !B7 p at_) ps
  obtain ⟨m, m1, m2, m3⟩ := a8n _ (by omega) c (fu := fu) (by omega) (fun a b c => by rw [a5F, a5F, a5F]; omega) (fun a => by rw [a5F]; omega)
  rw [hn, if_neg (by decide), m1, b2m]
  obtain ⟨c0, g1, g2⟩ := (hmem m).1 (b2F.1 m2).1
  obtain ⟨l1, l2, _⟩ := a2t g1
  have hr : 1 ≤ m.Rides ∧ m.Rides ≤ 4 := by
   have := b4V.2 l2
   rw [← g2]
   show 1 ≤ (c0.length : Int) ∧ (c0.length : Int) ≤ 4
   omega
  rw [a8o hd h0 hto hr (by omega), b2m]
  rcases a2p hL hd with ⟨k, _⟩ | ⟨c', k1, k2, k3⟩
  ·have : c0 ∈ (dfs (AD d) ls (fun q => q.2.1.Station == st) (a0m to) 4 []).filter (fun c => !B7 (pt_ c) at_) := b2F.2 ⟨g1, by rw [g2]; exact (b2F.1 m2).2⟩
   rw [k] at this; cases this
  ·rw [a3p hmem _ m2 m3 k2 k3]
   exact ⟨JJ c', true, rfl, k1⟩
end
theorem a2w (l : List A1) : F7 l l = some true := by
 have key : ∀ (r : List A1) (k : Nat), l.drop k = r → F7.loop1 l r k = some (.next ()) := by
  intro r
  induction r with
  | nil => intro k _; rfl
  | cons v r ih =>
   intro k hd
   obtain ⟨d1, d2, d3⟩ := C3 hd
   rw [F7.loop1, O0, d2, b2m]
   simpa using ih (k + 1) d3
 rw [F7, bne_self_eq_false, key l 0 b2U]
 rfl
def a3j (d : B0) (p : A1) : Prop := ∃ t a b, gx d.Trains p.Train = some t ∧ gx t.Stops p.On = some a ∧ gx t.Stops p.Off = some b
theorem a0n {x : Int} {n : Nat} (hn : n ≤ 1000) : D5 x 0 (w64 ((n : Int) - 1)) = decide (0 ≤ x ∧ x < n) := by
 rw [Q5 (by omega)]
 cases h : D5 x 0 ((n : Int) - 1) with
 | true => have := (K5 _ _ _).1 h; exact (decide_eq_true (by omega)).symm
 | false =>
  refine (decide_eq_false ?_).symm
  intro c
  have := (K5 x 0 ((n : Int) - 1)).2 (by omega)
  rw [h] at this; cases this
theorem a9M {d : B0} (hd : O5 d) (j : A3) (hj : j.Rides.length ≤ 9223372036854775807) (ls : Int) (tm : Bool) : ∀ (r : List A1) (k : Nat), j.Rides.drop k = r → (0 < k → ∃ p, j.Rides[k - 1]? = some p ∧ a3j d p) →
  ∃ z, I6.loop1 ⟨d, ls⟩ j tm r k = some z ∧ D4.loop1 d j ls tm r k = some z ∧ (z = .next () → ∀ p ∈ r, a3j d p ∧ p.On < p.Off) ∧ ∀ e, z = .ret e → e ≠ 0
 | [], k, _, _ => ⟨_, rfl, rfl, fun _ => by simp, fun _ h => by cases h⟩
 | x :: r, k, hdr, hp => by
  obtain ⟨d1, d2, d3⟩ := C3 hdr
  have ht := hd.form.1
  rw [I6.loop1, D4.loop1, J1, a0n (show d.Trains.length ≤ 1000 by omega)]
  dsimp only
  by_cases c1 : 0 ≤ x.Train ∧ x.Train < d.Trains.length
  ·obtain ⟨t, ht1, ht2⟩ := a2K c1.1 c1.2
   have hs := (hd.form.2.2.1 t ht2).2.1
   have e1 : (if decide (x.Train < 0) = true then true else decide (x.Train ≥ ((d.Trains).length : Int))) = false := by
    rw [if_neg (by simp; omega)]; exact decide_eq_false (by omega)
   have e2 : (!decide (0 ≤ x.Train ∧ x.Train < d.Trains.length)) = false := by rw [decide_eq_true c1]; rfl
   rw [e1, e2]
   simp only [b2s, if_false, ht1, b2m, J1]
   rw [a0n (by omega), a0n (by omega)]
   by_cases c2 : 0 ≤ x.On ∧ x.On < t.Stops.length
   ·by_cases c3 : 0 ≤ x.Off ∧ x.Off < t.Stops.length
    ·obtain ⟨a, ha1, ha2⟩ := a2K c2.1 c2.2
     obtain ⟨b, hb1, hb2⟩ := a2K c3.1 c3.2
     have e3 : (if (!decide (0 ≤ x.On ∧ x.On < t.Stops.length)) = true then true else !decide (0 ≤ x.Off ∧ x.Off < t.Stops.length)) = false := by
      rw [decide_eq_true c2, decide_eq_true c3]; rfl
     have e4 : (if decide (x.On < 0) = true then true else (if decide (x.On ≥ ((t.Stops).length : Int)) = true then true else (if decide (x.Off < 0) = true then true else decide (x.Off ≥ ((t.Stops).length : Int))))) = false := by
      rw [if_neg (by simp; omega), if_neg (by simp; omega), if_neg (by simp; omega)]; exact decide_eq_false (by omega)
     rw [e3, e4]
     simp only [b2s, if_false]
     by_cases c4 : x.On ≥ x.Off
     ·exact ⟨.ret 1, by simp [c4], by simp [c4], (fun h => by cases h), (fun e h => by injection h with h; omega)⟩
     ·simp only [decide_eq_false c4, b2s, if_false]
      have hv : a3j d x := ⟨t, a, b, ht1, ha1, hb1⟩
      obtain ⟨z, z1, z2, z3, z4⟩ := a9M hd j hj ls tm r (k + 1) d3 (fun _ => ⟨x, d2, hv⟩)
      have hz : z = .next () → ∀ p ∈ x :: r, a3j d p ∧ p.On < p.Off := by
       intro h p hp
       rcases b2M.1 hp with rfl | hp
       ·exact ⟨hv, by omega⟩
       ·exact z3 h p hp
      rcases b2T k with c5 | c5
      ·subst c5
       simp only [Int.natCast_zero, beq_self_eq_true, if_true]
       exact ⟨z, z1, z2, hz, z4⟩
      ·have e5 : (((k : Nat) : Int) == 0) = false := by
        have : ¬ ((k : Nat) : Int) = 0 := by omega
        simpa using this
       rw [e5]
       obtain ⟨p, hp1, t2, a2, b2, hp2, hp3, hp4⟩ := hp c5
       have hpk : j.Rides[k - 1]'(by omega) = p := by
        obtain ⟨_, h⟩ := b2t.1 hp1
        exact h
       simp only [b2s, if_false]
       rw [X7 c5 (by omega) hj, hpk]
       simp only [b2m, hp2, hp4, ha1]
       have f1 : J0 ⟨d, ls⟩ x = some a := by rw [J0]; simp only [ht1, b2m, ha1]
       have f2 : H8 ⟨d, ls⟩ p = some b2 := by rw [H8]; simp only [hp2, b2m, hp4]
       simp only [f1, f2, b2m]
       have e6 : (x.Train == p.Train) = (p.Train == x.Train) := by rw [b4l, beq_iff_eq, beq_iff_eq]; exact eq_comm
       rw [e6]
       cases c6 : (p.Train == x.Train) with
       | true => exact ⟨.ret 1, by simp, by simp, (fun h => by cases h), (fun e h => by injection h with h; omega)⟩
       | false =>
        simp only [b2s, if_false]
        rw [b2m, b2m]
        cases c7 : (a.Station != b2.Station) with
        | true => exact ⟨.ret 1, by simp, by simp, (fun h => by cases h), (fun e h => by injection h with h; omega)⟩
        | false =>
         simp only [b2s, if_false]
         cases tm with
         | false => exact ⟨z, z1, z2, hz, z4⟩
         | true =>
          simp only [if_true, b2m]
          cases c8 : decide (a.Dep < w64 (b2.Arr + ls)) with
          | true => exact ⟨.ret 13, if_pos rfl, if_pos rfl, (fun h => by cases h), (fun e h => by injection h with h; omega)⟩
          | false => simp only [b2s, if_false]; exact ⟨z, z1, z2, hz, z4⟩
    ·have e3 : (if (!decide (0 ≤ x.On ∧ x.On < t.Stops.length)) = true then true else !decide (0 ≤ x.Off ∧ x.Off < t.Stops.length)) = true := by
      rw [decide_eq_true c2, decide_eq_false c3]; rfl
     have e4 : (if decide (x.On < 0) = true then true else (if decide (x.On ≥ ((t.Stops).length : Int)) = true then true else (if decide (x.Off < 0) = true then true else decide (x.Off ≥ ((t.Stops).length : Int))))) = true := by
      rw [if_neg (by simp; omega), if_neg (by simp; omega)]
      by_cases c : x.Off < 0
      ·rw [if_pos (by simpa using c)]
      ·rw [if_neg (by simpa using c)]; exact decide_eq_true (by omega)
     rw [e3, e4]
     exact ⟨.ret 3, by simp, by simp, (fun h => by cases h), (fun e h => by injection h with h; omega)⟩
   ·have e3 : (if (!decide (0 ≤ x.On ∧ x.On < t.Stops.length)) = true then true else !decide (0 ≤ x.Off ∧ x.Off < t.Stops.length)) = true := by
     rw [decide_eq_false c2]; rfl
    have e4 : (if decide (x.On < 0) = true then true else (if decide (x.On ≥ ((t.Stops).length : Int)) = true then true else (if decide (x.Off < 0) = true then true else decide (x.Off ≥ ((t.Stops).length : Int))))) = true := by
     by_cases c : x.On < 0
     ·rw [if_pos (by simpa using c)]
     ·rw [if_neg (by simpa using c), if_pos (by simp; omega)]
    rw [e3, e4]
    exact ⟨.ret 3, by simp, by simp, (fun h => by cases h), (fun e h => by injection h with h; omega)⟩
  ·have e1 : (if decide (x.Train < 0) = true then true else decide (x.Train ≥ ((d.Trains).length : Int))) = true := by
    by_cases c : x.Train < 0
    ·rw [if_pos (by simpa using c)]
    ·rw [if_neg (by simpa using c)]; exact decide_eq_true (by omega)
   rw [e1, decide_eq_false c1]
   exact ⟨.ret 3, by simp, by simp, (fun h => by cases h), (fun e h => by injection h with h; omega)⟩
theorem a4J {d : B0} (hd : O5 d) (j : A3) (ls : Int) (tm : Bool) (h0 : 0 ≤ ls ∧ ls ≤ 28800) :
  ∃ e, I6 ⟨d, ls⟩ j tm = some e ∧ D4 d j ls tm = some e ∧ (e = 0 → 1 ≤ j.Rides.length ∧ j.Rides.length ≤ 4 ∧ ∀ p ∈ j.Rides, a3j d p ∧ p.On < p.Off) := by
 rw [I6, D4]
 rw [show C6 ls 0 28800 = D5 ls 0 28800 from rfl, (K5 ls 0 28800).2 h0]
 rw [show C6 ((j.Rides.length : Nat) : Int) 1 4 = D5 ((j.Rides.length : Nat) : Int) 1 4 from rfl]
 cases c : D5 ((j.Rides.length : Nat) : Int) 1 4 with
 | false => exact ⟨4, by simp, by simp, fun h => by cases h⟩
 | true =>
  have w := (K5 _ _ _).1 c
  simp only [b2W, b2s, if_false]
  obtain ⟨z, z1, z2, z3, z4⟩ := a9M hd j (by omega) ls tm j.Rides 0 (b2U) (fun h => absurd h (Nat.lt_irrefl 0))
  rw [z1, z2]
  cases z with
  | ret r => exact ⟨r, rfl, rfl, fun h => absurd h (z4 r rfl)⟩
  | next u => exact ⟨0, rfl, rfl, fun _ => ⟨by omega, by omega, z3 rfl⟩⟩
theorem a0Q {l : List A1} (h : l.length < 4294967296) : E0 l = some l := by
 unfold E0; rw [M8 (by simpa using h)]; rfl
theorem a5b {l : List A4} (h : l.length < 4294967296) : K2 l = some l := by
 unfold K2; rw [M8 (by simpa using h)]; rfl
theorem a7x : ∀ (n k : Nat) (L : List (List Int)), k + n = L.length → (∀ g ∈ L, g.length < 4294967296) → J6.loop2 n k L = some L
 | 0, _, _, _, _ => rfl
 | n + 1, k, L, h, hg => by
  have hk : k < L.length := by omega
  have e : L3 L[k] = some L[k] := by
   unfold L3; rw [M8 (by simpa using hg _ (b3L hk))]; rfl
  rw [J6.loop2, V0 hk, b2m, e, b2m, a3f (by omega) (by omega), b2m, a3y (by omega) (by omega), b2m, b3s, b3V]
  exact a7x n (k + 1) L (by omega) hg
theorem a7u : ∀ (n k : Nat) (L : List (List Int)), k + n = L.length → (∀ g ∈ L, g.length < 4294967296) → J6.loop3 n k L = some L
 | 0, _, _, _, _ => rfl
 | n + 1, k, L, h, hg => by
  have hk : k < L.length := by omega
  have e : L3 L[k] = some L[k] := by
   unfold L3; rw [M8 (by simpa using hg _ (b3L hk))]; rfl
  rw [J6.loop3, V0 hk, b2m, e, b2m, a3f (by omega) (by omega), b2m, a3y (by omega) (by omega), b2m, b3s, b3V]
  exact a7u n (k + 1) L (by omega) hg
theorem a7m : ∀ (n k : Nat) (L : List B1), k + n = L.length → (∀ t ∈ L, V1 t) → J6.loop1 n k L = some L
 | 0, _, _, _, _ => rfl
 | n + 1, k, L, h, hg => by
  have hk : k < L.length := by omega
  obtain ⟨f1, f2, f3, f4⟩ := hg _ (b3L hk)
  have e : M3 L[k].Stops = some L[k].Stops := by
   unfold M3; rw [M8 (by simp; omega)]; rfl
  have e2 : K6 L[k].Legs = some L[k].Legs := by
   unfold K6; rw [M8 (by simp; omega)]; rfl
  rw [J6.loop1, V0 hk, b2m, e, b2m, e2, b2m, a7x _ 0 _ (by omega) (fun g hg' => by have := f4 g hg'; omega), b2m, b3s]
  rw [show (B1.mk L[k].No L[k].Stock L[k].Stops L[k].Legs) = L[k] from rfl, b3V]
  exact a7m n (k + 1) L (by omega) hg
theorem a3A {d : B0} (h : a1X d) : J6 d = some d := by
 obtain ⟨h1, h2, h3, h4⟩ := h
 have e : L7 d.Trains = some d.Trains := by
  unfold L7; rw [M8 (by simp; omega)]; rfl
 have e2 : K6 d.Turns = some d.Turns := by
  unfold K6; rw [M8 (by simp; omega)]; rfl
 rw [J6, e, b2m, e2, b2m, a7m _ 0 _ (by omega) h3, b2m, a7u _ 0 _ (by omega) (fun g hg => by have := h4 g hg; omega), b2m]
def fi {α : Type} (f : α → Bool) : List α → Nat → Option Nat
 | [], _ => none
 | x :: r, k => if f x then some k else fi f r (k + 1)
theorem a0Y {α : Type} {f : α → Bool} : ∀ {l : List α} {k i : Nat}, fi f l k = some i → k ≤ i ∧ i < k + l.length ∧ ∃ x, l[i - k]? = some x ∧ f x = true
 | [], _, _, h => by cases h
 | x :: r, k, i, h => by
  rw [fi] at h
  by_cases c : f x = true
  ·rw [if_pos c] at h; cases h; exact ⟨b2Z _, by simp, x, by simp, c⟩
  ·rw [if_neg c] at h
   obtain ⟨h1, h2, y, h3, h4⟩ := a0Y h
   refine ⟨by omega, by simp; omega, y, ?_, h4⟩
   rw [show i - k = (i - (k + 1)) + 1 by omega, List.getElem?_cons_succ]; exact h3
abbrev a4f (no : Int) : B1 → Bool := fun t => t.No == no
theorem a7n (no : Int) : ∀ (l : List B1) (k : Nat), E3.loop1 no l k = match fi (a4f no) l k with | some i => .ret (i : Int) | none => .next ()
 | [], _ => rfl
 | x :: r, k => by
  rw [E3.loop1, fi, show N7 x no = a4f no x from rfl]
  by_cases c : a4f no x = true
  ·rw [if_pos c, if_pos c]
  ·rw [if_neg c, if_neg c]; exact a7n no r (k + 1)
theorem a3Y (e : B0) (no : Int) : I0 e no = match fi (a4f no) e.Trains 0 with | some i => (i : Int) | none => -1 := by
 unfold I0 E3
 rw [a7n, J1]
 cases fi (a4f no) e.Trains 0 <;> rfl
theorem a3t (m : List (Int × Int)) (k j : Int) (v : Int) : O2 (O1 m k v) j = if j = k then some v else O2 m j := by
 induction m with
 | nil => simp [O1, O2]
 | cons p r ih =>
  obtain ⟨a, b⟩ := p
  simp only [O1]
  by_cases h : k = a
  ·subst h
   simp only [beq_self_eq_true, if_true, O2]
   by_cases h2 : j = k <;> simp [h2]
  ·have hb : (k == a) = false := by simpa using h
   simp only [hb, b2s, if_false, O2]
   by_cases h2 : j = a
   ·subst h2; have : ¬ j = k := fun e => h e.symm; simp [this]
   ·have hb2 : (j == a) = false := by simpa using h2
    simp [hb2, ih]
theorem a7i (no : Int) : ∀ (l : List B1) (k : Nat) (q : List (Int × Int)), (l.map (·.No)).Nodup → O2 (D6.loop1 l k q) no = match fi (a4f no) l k with | some i => some (i : Int) | none => O2 q no
 | [], _, _, _ => rfl
 | x :: r, k, q, h => by
  simp only [b2L, b4m] at h
  rw [D6.loop1, a7i no r (k + 1) _ h.2, fi]
  by_cases c : x.No = no
  ·have hn : fi (a4f no) r (k + 1) = none := by
    cases hf : fi (a4f no) r (k + 1) with
    | none => rfl
    | some i =>
     obtain ⟨_, _, y, h3, h4⟩ := a0Y hf
     have : y.No = no := by simpa [a4f] using h4
     exact absurd (b3f.2 ⟨y, b2J h3, this.trans c.symm⟩) h.1
   rw [hn, if_pos (by simpa [a4f] using c), a3t, if_pos c.symm]
  ·rw [if_neg (by simpa [a4f] using c), a3t, if_neg (fun h => c h.symm)]
theorem a9v {d : B0} (hd : O5 d) : (d.Trains.map (·.No)).Nodup := by
 rw [List.nodup_iff_pairwise_ne, b4F, List.pairwise_iff_getElem]
 intro i j hi hj hij
 exact hd.apart i j _ _ hij (b2q hi) (b2q hj)
theorem a5Z {e : B0} (he : O5 e) (no : Int) : O2 (D6.loop1 e.Trains 0 []) no = match fi (a4f no) e.Trains 0 with | some i => some (i : Int) | none => none := by
 rw [a7i no _ 0 [] (a9v he)]; rfl
abbrev a3C (st : Int) : B9 → Bool := fun s => s.Station == st
theorem a0t (d : B0) (ls : Int) (r : A1) : H8 ⟨d, ls⟩ r = G5 d r r.Off := rfl
theorem a0O (d : B0) (ls : Int) (r : A1) : J0 ⟨d, ls⟩ r = G5 d r r.On := rfl
structure VR (d : B0) (r : A1) (t : B1) (a b : B9) : Prop where
 tr : gx d.Trains r.Train = some t
 on : gx t.Stops r.On = some a
 off : gx t.Stops r.Off = some b
theorem VR.son {d : B0} {r : A1} {t : B1} {a b : B9} (h : VR d r t a b) : G5 d r r.On = some a := by
 rw [G5, h.tr, b2m, h.on, b2m]
theorem VR.soff {d : B0} {r : A1} {t : B1} {a b : B9} (h : VR d r t a b) : G5 d r r.Off = some b := by
 rw [G5, h.tr, b2m, h.off, b2m]
theorem VR.a_in {d : B0} (hd : O5 d) {r : A1} {t : B1} {a b : B9} (h : VR d r t a b) : 0 ≤ a.Station ∧ a.Station ≤ 11 ∧ 0 ≤ a.Dep ∧ a.Dep ≤ 28800 := by
 have := (hd.stops t (a4g h.tr)).1 a (a4g h.on); omega
theorem VR.b_in {d : B0} (hd : O5 d) {r : A1} {t : B1} {a b : B9} (h : VR d r t a b) : 0 ≤ b.Station ∧ b.Station ≤ 11 ∧ 0 ≤ b.Arr ∧ b.Arr ≤ 28800 := by
 have := (hd.stops t (a4g h.tr)).1 b (a4g h.off); omega
theorem b1l {d : B0} {ls tm : Int} {ms : List A4} {r : A1} {t : B1} {a b : B9} (h : VR d r t a b) : ∀ (l : List B9) (k : Nat), F4.loop1 r d.Trains d.Turns ls tm ms l k = some (match fi (a3C a.Station) l k with | some i => .ret (i : Int) | none => .next ())
 | [], _ => rfl
 | x :: q, k => by
  have e : N0 x r d.Trains d.Turns ls tm ms = some (a3C a.Station x) := by
   unfold N0; rw [show (D7.mk (B0.mk d.Trains d.Turns) ls) = ⟨d, ls⟩ from rfl, a0O, h.son]; rfl
  rw [F4.loop1, e, b2m, fi]
  by_cases c : a3C a.Station x = true
  ·rw [if_pos c, if_pos c]
  ·rw [if_neg c, if_neg c]; exact b1l h q (k + 1)
theorem b1m {d : B0} {ls tm : Int} {ms : List A4} {r : A1} {t : B1} {a b : B9} (h : VR d r t a b) : ∀ (l : List B9) (k : Nat), F5.loop1 r d.Trains d.Turns ls tm ms l k = some (match fi (a3C b.Station) l k with | some i => .ret (i : Int) | none => .next ())
 | [], _ => rfl
 | x :: q, k => by
  have e : M9 x r d.Trains d.Turns ls tm ms = some (a3C b.Station x) := by
   unfold M9; rw [show (D7.mk (B0.mk d.Trains d.Turns) ls) = ⟨d, ls⟩ from rfl, a0t, h.soff]; rfl
  rw [F5.loop1, e, b2m, fi]
  by_cases c : a3C b.Station x = true
  ·rw [if_pos c, if_pos c]
  ·rw [if_neg c, if_neg c]; exact b1m h q (k + 1)
theorem ag2 {e : B0} {t x : B1} {b : B9} {on : Int} (hx : x.Stops.length ≤ 8) : ∀ (r : List B9) (k n : Nat) (q2 q3 q4 : Int), x.Stops.drop k = r → r.length < n →
  ∃ z2 z3 z4, G0.loop2 e t b x on n (k : Int) q2 q3 q4 = some (match fi (a3C b.Station) r k with | some i => .ret (⟨I0 e t.No, on, (i : Int)⟩, true) | none => .next (((k + r.length : Nat) : Int), z2, z3, z4))
 | [], k, 0, _, _, _, _, hn => absurd hn (by simp)
 | [], k, n + 1, q2, q3, q4, hd, _ => by
  have hk : x.Stops.length ≤ k := by
   rcases b2I k x.Stops.length with h | h
   ·rw [b3h h] at hd; cases hd
   ·exact h
  rw [G0.loop2, if_neg (by simp; omega)]
  exact ⟨q2, q3, q4, by simp [fi]⟩
 | s :: r, k, 0, _, _, _, _, hn => absurd hn (by simp)
 | s :: r, k, n + 1, q2, q3, q4, hd, hn => by
  obtain ⟨d1, d2, d3⟩ := C3 hd
  rw [G0.loop2, if_pos (by simp; omega), O0, d2, b2m, fi]
  by_cases c : a3C b.Station s = true
  ·rw [if_pos c, if_pos c]; exact ⟨q2, q3, q4, rfl⟩
  ·rw [if_neg c, if_neg c, Q5 (by omega)]
   have := ag2 (e := e) (t := t) (b := b) (on := on) hx r (k + 1) n q2 q3 q4 d3 (by simp at hn; omega)
   obtain ⟨z2, z3, z4, h⟩ := this
   refine ⟨z2, z3, z4, ?_⟩
   rw [show ((k : Int) + 1) = ((k + 1 : Nat) : Int) by omega, h]
   simp only [b2v]
   rw [show k + 1 + r.length = k + (r.length + 1) by omega]
theorem ag1 {e : B0} {t x : B1} {a b : B9} {fu : Nat} (hfu : 20 ≤ fu) (hx : x.Stops.length ≤ 8) (h2 : 2 ≤ x.Stops.length) : ∀ (r : List B9) (k n : Nat) (q2 q3 q4 : Int), (x.Stops.take (x.Stops.length - 1)).drop k = r → r.length < n →
  ∃ z1 z2 z3 z4, G0.loop1 e fu t a b x n (k : Int) q2 q3 q4 = some (match fi (a3C a.Station) r k with | some i => (match fi (a3C b.Station) (x.Stops.drop (i + 1)) (i + 1) with | some j => .ret (⟨I0 e t.No, (i : Int), (j : Int)⟩, true) | none => .ret (⟨0, 0, 0⟩, false)) | none => .next (z1, z2, z3, z4))
 | [], k, 0, _, _, _, _, hn => absurd hn (by simp)
 | [], k, n + 1, q2, q3, q4, hd, _ => by
  have hk : x.Stops.length - 1 ≤ k := by
   rcases b2I k (x.Stops.length - 1) with h | h
   ·rw [b3h (by simp; omega)] at hd; cases hd
   ·exact h
  rw [G0.loop1, Q5 (by omega), if_neg (by simp; omega)]
  exact ⟨_, q2, q3, q4, by simp [fi]; rfl⟩
 | s :: r, k, 0, _, _, _, _, hn => absurd hn (by simp)
 | s :: r, k, n + 1, q2, q3, q4, hd, hn => by
  obtain ⟨d1, d2, d3⟩ := C3 hd
  rw [b2S] at d1
  rw [b2H, if_pos (by omega)] at d2
  rw [G0.loop1, Q5 (by omega), if_pos (by simp; omega), O0, d2, b2m, fi]
  by_cases c : a3C a.Station s = true
  ·have c' : (s.Station != a.Station) = false := by simpa [a3C] using c
   rw [c', if_neg (by decide), if_pos c, Q5 (by omega)]
   obtain ⟨z2, z3, z4, h⟩ := ag2 (e := e) (t := t) (b := b) (on := (k : Int)) hx (x.Stops.drop (k + 1)) (k + 1) fu q2 q3 q4 rfl (by rw [b2K]; omega)
   rw [show ((k : Int) + 1) = ((k + 1 : Nat) : Int) by omega, h, b2m]
   refine ⟨0, 0, 0, 0, ?_⟩
   dsimp only
   cases fi (a3C b.Station) (x.Stops.drop (k + 1)) (k + 1) <;> rfl
  ·have c' : (s.Station != a.Station) = true := by simpa [a3C] using c
   rw [c', if_pos rfl, if_neg c, Q5 (by omega)]
   have := ag1 (e := e) (t := t) (a := a) (b := b) hfu hx h2 r (k + 1) n q2 q3 q4 d3 (by simp at hn; omega)
   rw [show ((k : Int) + 1) = ((k + 1 : Nat) : Int) by omega]
   exact this
theorem a2y {α : Type} {f : α → Bool} : ∀ (l : List α) (k : Nat), fi f l k = (fi f l 0).map (· + k)
 | [], _ => rfl
 | x :: r, k => by
  rw [fi, fi]
  by_cases c : f x = true
  ·rw [if_pos c, if_pos c]; simp
  ·rw [if_neg c, if_neg c, a2y r (k + 1), a2y r (0 + 1), Option.map_map]
   refine congrArg (fun g => Option.map g _) (funext fun n => ?_)
   simp only [Function.comp_apply]; omega
theorem a4O {d e : B0} (he : O5 e) {ls tm : Int} {ms : List A4} {r : A1} {t : B1} {a b : B9} (h : VR d r t a b) {fu : Nat} (hfu : 20 ≤ fu) :
  ∃ q q' : A1 × Bool, O9 e (D6.loop1 e.Trains 0 []) r d.Trains d.Turns ls tm ms = some q ∧ G0 fu d e r = some q' ∧ q'.2 = q.2 ∧ (q.2 = true → q'.1 = q.1 ∧ ∃ t' a' b', VR e q.1 t' a' b') := by
 rw [O9, G0, h.tr, b2m, b2m, a5Z he, a3Y]
 cases hf : fi (a4f t.No) e.Trains 0 with
 | none =>
  refine ⟨_, _, rfl, rfl, rfl, fun h => by cases h⟩
 | some i =>
  obtain ⟨_, i2, x, i3, i4⟩ := a0Y hf
  simp only [b4f] at i3
  have hxm := b2J i3
  have hx := (he.form.2.2.1 x hxm).2.1
  have h2 := he.two x hxm
  have gi : gx e.Trains ((i : Nat) : Int) = some x := by rw [O0, i3]
  dsimp only
  rw [if_neg (by simp), if_neg (by simp), h.son, h.soff, b2m, b2m, b3D, gi, b2m, b2m]
  rw [Q5 (by omega), a0P (by omega) (by omega) (by omega), b2m]
  rw [show (((x.Stops.length : Nat) : Int) - 1).toNat = x.Stops.length - 1 by omega, show (0 : Int).toNat = 0 from rfl, b2U]
  rw [F4, b1l h, b2m]
  obtain ⟨z1, z2, z3, z4, hz⟩ := ag1 (e := e) (t := t) (x := x) (a := a) (b := b) hfu hx h2 (x.Stops.take (x.Stops.length - 1)) 0 fu 0 0 0 b2U (by rw [b2S]; omega)
  rw [Int.natCast_zero] at hz
  rw [hz, b2m]
  cases hs : fi (a3C a.Station) (x.Stops.take (x.Stops.length - 1)) 0 with
  | none => exact ⟨_, _, rfl, rfl, rfl, fun h => by cases h⟩
  | some j =>
   obtain ⟨_, j2, y, j3, j4⟩ := a0Y hs
   rw [b2S] at j2
   simp only [b4f] at j3
   rw [b2H, if_pos (by omega)] at j3
   dsimp only
   rw [b2m, if_neg (by simp), Q5 (by omega), a0P (by omega) (by omega) (by omega), b2m]
   rw [b3s, b4J, show (((j : Nat) : Int) + 1).toNat = j + 1 from rfl]
   rw [F5, b1m h, b2m]
   rw [a2y (x.Stops.drop (j + 1)) (j + 1)]
   cases hs2 : fi (a3C b.Station) (x.Stops.drop (j + 1)) 0 with
   | none => exact ⟨_, _, rfl, rfl, rfl, fun h => by cases h⟩
   | some k =>
    obtain ⟨_, k2, z, k3, k4⟩ := a0Y hs2
    simp only [b4f] at k3
    rw [b2K] at k2
    rw [List.getElem?_drop] at k3
    refine ⟨_, _, rfl, rfl, by simp, fun _ => ?_⟩
    have e1 : w64 (((j : Nat) : Int) + 1 + ((k : Nat) : Int)) = ((j + 1 + k : Nat) : Int) := by rw [Q5 (by omega)]; omega
    dsimp only
    rw [e1]
    refine ⟨?_, x, y, z, gi, by rw [O0, j3], by rw [O0, k3]⟩
    rw [a3Y, hf]; simp; omega
def okE (e : B0) (ov : List Bool) (q : List A1) (k : Nat) : Prop := ∀ i r, i < k → ov[i]? = some false → q[i]? = some r → ∃ t a b, VR e r t a b
theorem a8w {e : B0} {ov : List Bool} {q : List A1} {k : Nat} (h : okE e ov q k) {r : A1} (hr : ∃ t a b, VR e r t a b) : okE e ov (q.set k r) (k + 1) := by
 intro i y hi ho hy
 by_cases c : i = k
 ·subst c
  rw [List.getElem?_set] at hy
  split at hy
  ·split at hy
   ·cases hy; exact hr
   ·cases hy
  ·omega
 ·rw [b3B (fun h => c h.symm)] at hy
  exact h i y (by omega) ho hy
theorem a7e {e : B0} {ov : List Bool} {q : List A1} {k : Nat} (h : okE e ov q k) (ho : ov[k]? = some true) : okE e ov q (k + 1) := by
 intro i y hi ho' hy
 by_cases c : i = k
 ·subst c; rw [ho] at ho'; cases ho'
 ·exact h i y (by omega) ho' hy
section
variable {e : B0} (he : O5 e) {tm : Int} {ms : List A4} {R : List A1} (hR : R.length ≤ 4) {bg ov : List Bool} {Y : F3} {ar of : List Int}
 (hb : bg.length = R.length) (ho : ov.length = R.length) (ha : ar.length = R.length) (hv : okE Y.Newest ov R R.length) {fu : Nat} (hfu : 20 ≤ fu)
 {x1 at_ : Int} {X : C4} {st pl wh : Int}
include he hR hb ho ha hv hfu
theorem a2Y : ∀ (r : List A1) (k : Nat) (q : List A1), R.drop k = r → q.length = R.length → okE e ov q k →
  (∃ k' kd : Int, 0 ≤ k' ∧ H4.loop1 ⟨e, Y.Least⟩ (D6.loop1 e.Trains 0 []) bg Y.Newest.Trains Y.Newest.Turns Y.Least tm ms ov ar r k q = some (.ret ([], k', kd)) ∧
   C1.loop2 x1 e at_ Y fu X bg ov ar of r k q st pl wh = (C8 e at_ bg Y.Newest.Trains Y.Newest.Turns Y.Least Y.Time Y.Told (C4.mk (C2.mk X.Promise.From X.Promise.To X.Promise.Dep X.Promise.Arr 2 X.Promise.Journey) ov ar of pl wh)).bind fun z => some (.ret ([⟨at_, x1, k', kd, 0⟩], List.set Y.sold x1.toNat (C4.mk (C2.mk X.Promise.From X.Promise.To X.Promise.Dep X.Promise.Arr 2 X.Promise.Journey) ov ar of z.1 z.2)))) ∨
  (∃ q', H4.loop1 ⟨e, Y.Least⟩ (D6.loop1 e.Trains 0 []) bg Y.Newest.Trains Y.Newest.Turns Y.Least tm ms ov ar r k q = some (.next q') ∧
   C1.loop2 x1 e at_ Y fu X bg ov ar of r k q st pl wh = some (.next (q', st, pl, wh)) ∧ q'.length = R.length ∧ okE e ov q' R.length)
 | [], k, q, hdr, hq, hok => by
  have := E8 hdr
  exact .inr ⟨q, rfl, rfl, hq, fun i r hi => hok i r (by omega)⟩
 | x :: r, k, q, hdr, hq, hok => by
  obtain ⟨d1, d2, d3⟩ := C3 hdr
  have go := a2Y r (k + 1)
  have ko : k < ov.length := by omega
  rw [H4.loop1, C1.loop2, V0 ko, b2m, b2m]
  cases co : ov[k] with
  | true =>
   rw [if_pos rfl, if_pos rfl]
   exact go q d3 hq (a7e hok (by rw [b2q ko, co]))
  | false =>
   obtain ⟨t, a, b, hvr⟩ := hv k x d1 (by rw [b2q ko, co]) d2
   obtain ⟨z, z', h1, h2, h3, h4⟩ := a4O he (ls := Y.Least) (tm := tm) (ms := ms) hvr hfu
   rw [if_neg (by decide), if_neg (by decide)]
   dsimp only
   rw [h1, h2, b2m, b2m, h3]
   cases c2 : z.2 with
   | false => exact .inl ⟨k, 1, by omega, rfl, rfl⟩
   | true =>
    obtain ⟨h5, t', a', b', hvr'⟩ := h4 c2
    have kq : ((k : Nat) : Int) < q.length := by omega
    have kb : k < bg.length := by omega
    rw [h5, b2W, if_neg (by decide), if_neg (by decide), a3f (by omega) kq, b2m, b2m, a3y (by omega) kq, b2m, b2m, V0 kb, b2m, b2m, b3s]
    have hok' := a8w hok ⟨t', a', b', hvr'⟩
    have hq' : (q.set k z.1).length = R.length := by rw [b3C, hq]
    cases cb : bg[k] with
    | true => exact go _ d3 hq' hok'
    | false =>
     rcases b2T k with k0 | k0
     ·subst k0; exact go _ d3 hq' hok'
     ·have e5 : (((k : Nat) : Int) == 0) = false := by
       have : ¬ ((k : Nat) : Int) = 0 := by omega
       simpa using this
      have e6 : decide (((k : Nat) : Int) > 0) = true := decide_eq_true (by omega)
      have kp : k - 1 < ov.length := by omega
      rw [e5, e6, if_neg (by decide), b3R, if_pos rfl, b2m, b2m, if_neg (by decide), if_pos rfl]
      rw [X7 k0 (by omega) (by omega), b2m, b2m, X7 k0 (by omega) (by omega), b2m, b2m]
      obtain ⟨V, v1, v2⟩ : ∃ V, ((if (!ov[k - 1]) = true then ((gx (q.set k z.1) (w64 (((k : Nat) : Int) - 1))).bind fun y => (H8 ⟨e, Y.Least⟩ y).bind fun s => some s.Arr) else some (ar[k - 1]'(by omega))) : Option Int) = some V ∧
        ((if (!ov[k - 1]) = true then ((gx (q.set k z.1) (w64 (((k : Nat) : Int) - 1))).bind fun y => (gx (q.set k z.1) (w64 (((k : Nat) : Int) - 1))).bind fun u => (G5 e y u.Off).bind fun s => some s.Arr) else some (ar[k - 1]'(by omega))) : Option Int) = some V := by
       cases cp : ov[k - 1] with
       | true => exact ⟨_, rfl, rfl⟩
       | false =>
        obtain ⟨t2, a2, b2, hv2⟩ := hok (k - 1) (q[k - 1]'(by omega)) (by omega) (by rw [b2q kp, cp]) (b2q (by omega))
        rw [b3R, if_pos rfl, if_pos rfl, X7 k0 (by omega) (by omega), b2m, b2m, b2m, List.getElem_set_ne (by omega), a0t, hv2.soff]
        exact ⟨_, rfl, rfl⟩
      rw [v1, v2, b2m, b2m, a0O, hvr'.son, b2m, b2m, J1]
      by_cases cd : a'.Dep < w64 (V + Y.Least)
      ·rw [if_pos (decide_eq_true cd), if_pos (decide_eq_true cd)]
       exact .inl ⟨k, 2, by omega, rfl, rfl⟩
      ·rw [if_neg (by simpa using cd), if_neg (by simpa using cd)]
       exact go _ d3 hq' hok'
end
theorem ixb : ∀ (l : List Bool) (k : Nat), H7.loop1 true l k = match fi (true == ·) l k with | some i => .ret (i : Int) | none => .next ()
 | [], _ => rfl
 | x :: r, k => by
  rw [H7.loop1, fi]
  cases x with
  | true => rfl
  | false => exact ixb r (k + 1)
theorem a8X (l : List Bool) : H7 l true = match fi (true == ·) l 0 with | some i => (i : Int) | none => -1 := by
 unfold H7
 rw [ixb, J1]
 cases fi (true == ·) l 0 <;> rfl
theorem lk1 (at_ : Int) : ∀ (l : List B9) (a b : Int), (match E2.loop1 at_ l a b with | .ret r => r | .next (x, y) => (2, x, y)) = (2, (C8.loop2 at_ l a b).1, (C8.loop2 at_ l a b).2)
 | [], _, _ => rfl
 | x :: r, a, b => by
  rw [E2.loop1, C8.loop2]
  by_cases c : x.Arr ≥ at_
  ·rw [if_pos (decide_eq_true c), if_pos (decide_eq_true c)]
  ·rw [if_neg (by simpa using c), if_neg (by simpa using c)]; exact lk1 at_ r a b
def a9i (z : Int × Int) : Prop := 0 ≤ z.1 ∧ z.1 ≤ 11 ∧ 0 ≤ z.2 ∧ z.2 ≤ 28800
theorem lk2 (at_ : Int) : ∀ (l : List B9) (a b : Int), (∀ x ∈ l, 0 ≤ x.Station ∧ x.Station ≤ 11 ∧ 0 ≤ x.Arr ∧ x.Arr ≤ 28800) → a9i (a, b) → a9i (C8.loop2 at_ l a b)
 | [], _, _, _, h => h
 | x :: r, a, b, hl, h => by
  rw [C8.loop2]
  split
  ·exact hl x (b2A ..)
  ·exact lk2 at_ r a b (fun y hy => hl y (b2C _ hy)) h
def a6o (e : B0) (at_ : Int) (T : List B1) (U : List (List Int)) (R : List A1) (wh : Int) (i : Nat) : Option (Out (Int × Int) (Int × Int)) :=
 (gx R (i : Int)).bind fun x => (G5 (B0.mk T U) x x.On).bind fun q => (gx T x.Train).bind fun t =>
  (((if decide ((I0 e t.No) ≥ 0) then ((gx e.Trains (I0 e t.No)).bind fun y => ((a2M y.Stops 1 ((y.Stops).length : Int)).bind fun u => (bnd (C8.loop2 at_ u q.Station wh) fun q163 => match q163 with | (q173, q174) => some (q173, q174)))) else some (q.Station, wh)) : Option (Int × Int)).bind fun q131 => match q131 with | (q134, q135) => some (.ret (q134, q135)))
section
variable {e : B0} {at_ : Int} {bg : List Bool} {T : List B1} {U : List (List Int)} {X : C4} (hb : bg.length = X.Promise.Journey.Rides.length) (ho : X.over.length = X.Promise.Journey.Rides.length) (hf : X.offs.length = X.Promise.Journey.Rides.length)
include hb ho hf
theorem a7t (wh : Int) : ∀ (r : List A1) (k : Nat) (pl : Int), X.Promise.Journey.Rides.drop k = r →
  C8.loop1 e at_ bg T U X r k pl wh = match fi (true == ·) (bg.drop k) k with | some i => a6o e at_ T U X.Promise.Journey.Rides wh i | none => (E2.loop2 X.over X.offs r.length k pl).bind fun z => some (.next (z, wh))
 | [], k, pl, hdr => by
  have := E8 hdr
  rw [b3d (by omega)]; rfl
 | x :: r, k, pl, hdr => by
  obtain ⟨d1, d2, d3⟩ := C3 hdr
  have kb : k < bg.length := by omega
  have ko : k < X.over.length := by omega
  have kf : k < X.offs.length := by omega
  rw [C8.loop1, b3h kb, fi, V0 ko, b2m, b2v, E2.loop2, V0 ko, b2m, V0 kf, b2m, V0 kb]
  obtain ⟨V, v1⟩ : ∃ V, (if X.over[k] = true then some (X.offs[k]) else some pl) = some V := by split <;> exact ⟨_, rfl⟩
  rw [v1, b2m, b2m, b2m]
  cases bg[k] with
  | false => exact a7t wh r (k + 1) V d3
  | true =>
   rw [b2W, if_neg (by decide), if_pos (by decide)]; dsimp only; unfold a6o; rw [O0, d2, b2m]
end
theorem lv2 {ov : List Bool} {of : List Int} (ho : of.length = ov.length) (hr : ∀ x ∈ of, 0 ≤ x ∧ x ≤ 11) : ∀ (n k : Nat) (pl : Int), k + n = ov.length → 0 ≤ pl ∧ pl ≤ 11 → ∃ z, E2.loop2 ov of n k pl = some z ∧ 0 ≤ z ∧ z ≤ 11
 | 0, _, pl, _, h => ⟨pl, rfl, h⟩
 | n + 1, k, pl, hk, h => by
  have ko : k < ov.length := by omega
  have kf : k < of.length := by omega
  rw [E2.loop2, V0 ko, b2m, V0 kf, b2m]
  split
  ·rw [b2m]; exact lv2 ho hr n (k + 1) _ (by omega) (hr _ (b3L kf))
  ·rw [b2m]; exact lv2 ho hr n (k + 1) _ (by omega) h
theorem a4K {d e : B0} (hd : O5 d) (he : O5 e) {at_ : Int} (hat : 0 ≤ at_ ∧ at_ ≤ 28800) {bg : List Bool} {X : C4} (hb : bg.length = X.Promise.Journey.Rides.length) (ho : X.over.length = X.Promise.Journey.Rides.length) (hf : X.offs.length = X.Promise.Journey.Rides.length)
  (hv : okE d X.over X.Promise.Journey.Rides X.Promise.Journey.Rides.length) (hbo : ∀ i : Nat, bg[i]? = some true → X.over[i]? = some false) (hr : ∀ x ∈ X.offs, 0 ≤ x ∧ x ≤ 11) (hF : 0 ≤ X.Promise.From ∧ X.Promise.From ≤ 11) (ls tm : Int) (ms : List A4) (a1 a2 a3 a4 a5 a6 : Int) (l1 : List Int) (tm' ls' : Int) (ms' : List A4) :
  ∃ z, E2 e (D6.loop1 e.Trains 0 []) bg at_ d.Trains d.Turns ls tm ms X.Promise.From a1 a2 a3 a4 X.Promise.Journey.Rides X.over l1 X.offs a5 a6 = some (2, z.1, z.2) ∧ C8 e at_ bg d.Trains d.Turns ls' tm' ms' X = some z ∧ a9i z := by
 rw [E2, C8, a7t hb ho hf _ _ 0 _ b2U, b2U, a8X]
 cases hi : fi (true == ·) bg 0 with
 | none =>
  obtain ⟨z, z1, z2⟩ := lv2 (ov := X.over) (of := X.offs) (by omega) hr X.over.length 0 X.Promise.From (by omega) hF
  rw [if_neg (by simp)]
  dsimp only
  rw [← ho, z1, b2m, b2m]
  exact ⟨(z, at_), rfl, rfl, z2.1, z2.2, hat.1, hat.2⟩
 | some i =>
  obtain ⟨_, i2, b, i3, i4⟩ := a0Y hi
  simp only [b4f] at i3
  have : b = true := by cases b <;> first | rfl | cases i4
  subst this
  have ir : i < X.Promise.Journey.Rides.length := by omega
  obtain ⟨t, a, b, hvr⟩ := hv i _ ir (hbo i i3) (b2q ir)
  rw [if_pos (by simp)]
  dsimp only
  unfold a6o
  rw [V0 ir, b2m, b2m, show (D7.mk (B0.mk d.Trains d.Turns) ls) = ⟨d, ls⟩ from rfl, a0O, show (B0.mk d.Trains d.Turns) = d from rfl, hvr.son, hvr.tr, b2m, b2m, b2m, b2m, a5Z he, a3Y]
  have ha := hvr.a_in hd
  cases hf : fi (a4f t.No) e.Trains 0 with
  | none =>
   refine ⟨(a.Station, at_), rfl, rfl, ha.1, ha.2.1, hat.1, hat.2⟩
  | some j =>
   obtain ⟨_, j2, x, j3, _⟩ := a0Y hf
   simp only [b4f] at j3
   have hxm := b2J j3
   have h2 := he.two x hxm
   have gi : gx e.Trains ((j : Nat) : Int) = some x := by rw [O0, j3]
   dsimp only
   rw [if_pos (by rfl), if_pos (by simp), b3D, gi, b2m, b2m, a0P (by omega) (by omega) (by omega), b2m, b2m, J1, J1]
   have k1 := lk1 at_ ((x.Stops.take ((x.Stops.length : Nat) : Int).toNat).drop (1 : Int).toNat) a.Station at_
   have k2 := lk2 at_ ((x.Stops.take ((x.Stops.length : Nat) : Int).toNat).drop (1 : Int).toNat) a.Station at_ (fun y hy => by
    have := (he.stops x hxm).1 y (List.mem_of_mem_take (List.mem_of_mem_drop hy)); omega) ⟨ha.1, ha.2.1, hat.1, hat.2⟩
   refine ⟨_, ?_, rfl, k2⟩
   rw [← k1]
   cases E2.loop1 at_ ((x.Stops.take ((x.Stops.length : Nat) : Int).toNat).drop (1 : Int).toNat) a.Station at_ <;> rfl
theorem a6y {α : Type} {l : List α} {k : Nat} {x : α} {P : α → Prop} (h : ∀ y ∈ l, P y) (hx : P x) : ∀ y ∈ l.set k x, P y := fun y hy => by
 rcases List.mem_or_eq_of_mem_set hy with h' | rfl
 ·exact h y h'
 ·exact hx
section
variable {d : B0} {R : List A1} {Y0 : G3} {Y : F3} (h0 : Y0.net.Day = d) (hY : Y.Newest = d) {at_ : Int}
include h0 hY
theorem a6G (hd : O5 d) : ∀ (r : List A1) (k : Nat) (bg ov : List Bool) (ar of : List Int), R.drop k = r → bg.length = R.length → ov.length = R.length → ar.length = R.length → of.length = R.length → okE d ov R R.length → (∀ i : Nat, bg[i]? = some true → i < k ∧ ov[i]? = some false) → (∀ x ∈ of, 0 ≤ x ∧ x ≤ 11) →
  ∃ bg' ov' ar' of', F6.loop1 at_ Y0 r k bg ov ar of = some (bg', ov', ar', of') ∧ C1.loop1 at_ Y r k bg ov ar of = some (bg', ov', ar', of') ∧ bg'.length = R.length ∧ ov'.length = R.length ∧ ar'.length = R.length ∧ of'.length = R.length ∧ okE d ov' R R.length ∧ (∀ i : Nat, bg'[i]? = some true → ov'[i]? = some false) ∧ (∀ x ∈ of', 0 ≤ x ∧ x ≤ 11)
 | [], k, bg, ov, ar, of, _, l1, l2, l3, l4, ok, hb, hf => ⟨bg, ov, ar, of, rfl, rfl, l1, l2, l3, l4, ok, fun i h => (hb i h).2, hf⟩
 | x :: r, k, bg, ov, ar, of, hdr, l1, l2, l3, l4, ok, hb, hf => by
  obtain ⟨d1, d2, d3⟩ := C3 hdr
  have ko : k < ov.length := by omega
  rw [F6.loop1, C1.loop1, V0 ko, b2m, b2m]
  cases co : ov[k] with
  | true =>
   rw [b2W, if_pos rfl, if_neg (by decide), b2m, b2m]
   exact a6G hd r (k + 1) bg ov ar of d3 l1 l2 l3 l4 ok (fun i h => ⟨by have := (hb i h).1; omega, (hb i h).2⟩) hf
  | false =>
   have co' : ov[k]? = some false := by rw [b2q ko, co]
   obtain ⟨t, a, b, hv⟩ := ok k x d1 co' d2
   have hbi := hv.b_in hd
   have f1 : H8 Y0.net x = some b := by rw [show Y0.net = ⟨Y0.net.Day, Y0.net.least⟩ from rfl, h0, a0t, hv.soff]
   have f2 : J0 Y0.net x = some a := by rw [show Y0.net = ⟨Y0.net.Day, Y0.net.least⟩ from rfl, h0, a0O, hv.son]
   rw [b3R, if_neg (by decide), if_pos rfl, f1, f2, hY, hv.soff, hv.son]
   simp only [b2m]
   by_cases c : b.Arr ≤ at_
   ·rw [if_pos (decide_eq_true c)]
    simp only [b2m, a3f (show (0 : Int) ≤ (k : Nat) by omega) (show ((k : Nat) : Int) < ov.length by omega), a3y (show (0 : Int) ≤ (k : Nat) by omega) (show ((k : Nat) : Int) < ov.length by omega), a3f (show (0 : Int) ≤ (k : Nat) by omega) (show ((k : Nat) : Int) < ar.length by omega), a3y (show (0 : Int) ≤ (k : Nat) by omega) (show ((k : Nat) : Int) < ar.length by omega), a3f (show (0 : Int) ≤ (k : Nat) by omega) (show ((k : Nat) : Int) < of.length by omega), a3y (show (0 : Int) ≤ (k : Nat) by omega) (show ((k : Nat) : Int) < of.length by omega), b3s]
    refine a6G hd r (k + 1) bg (ov.set k true) (ar.set k b.Arr) (of.set k b.Station) d3 l1 (by rw [b3C, l2]) (by rw [b3C, l3]) (by rw [b3C, l4]) (fun i y hi ho hy => ?_) (fun i h => ?_) (a6y hf ⟨hbi.1, hbi.2.1⟩)
    ·by_cases e : k = i
     ·subst e; rw [b4C ko] at ho; cases ho
     ·rw [b3B e] at ho; exact ok i y hi ho hy
    ·have := hb i h
     refine ⟨by omega, ?_⟩
     rw [b3B (by omega)]; exact this.2
   ·rw [if_neg (by simpa using c)]
    simp only [b2m, a3f (show (0 : Int) ≤ (k : Nat) by omega) (show ((k : Nat) : Int) < bg.length by omega), a3y (show (0 : Int) ≤ (k : Nat) by omega) (show ((k : Nat) : Int) < bg.length by omega), b3s]
    refine a6G hd r (k + 1) (bg.set k (decide (a.Dep ≤ at_))) ov ar of d3 (by rw [b3C, l1]) l2 l3 l4 ok (fun i h => ?_) hf
    by_cases e : k = i
    ·subst e; exact ⟨by omega, co'⟩
    ·rw [b3B e] at h
     exact ⟨by have := (hb i h).1; omega, (hb i h).2⟩
theorem a6u {e : B0} {ls x1 : Int} {bg ov : List Bool} {q : List A1} {z : Int × Int} (hb : bg.length = R.length) (ho : ov.length = R.length) (hq : q.length = R.length) (hv : okE d ov R R.length) (hw : okE e ov q R.length) : ∀ (r : List A1) (k : Nat) (m : List A4), R.drop k = r → m.length + r.length ≤ 4 →
  ∃ m', F6.loop2 x1 ⟨e, ls⟩ at_ Y0 bg ov (q, z.1, z.2) r k m = some m' ∧ C1.loop3 x1 e at_ Y bg ov q r k m = some m' ∧ m'.length ≤ 4
 | [], k, m, _, hm => ⟨m, rfl, rfl, by simpa using hm⟩
 | x :: r, k, m, hdr, hm => by
  obtain ⟨d1, d2, d3⟩ := C3 hdr
  have ko : k < ov.length := by omega
  have kb : k < bg.length := by omega
  have kq : k < q.length := by omega
  simp only [b2v] at hm
  rw [F6.loop2, C1.loop3, V0 ko, b2m, V0 kb, b2m, V0 kq]
  cases co : ov[k] with
  | true =>
   simp only [if_true, b2m]
   exact a6u hb ho hq hv hw r (k + 1) m d3 (by omega)
  | false =>
   rw [if_neg (by decide)]
   cases bg[k] with
   | true =>
    simp only [if_true, b2m]
    exact a6u hb ho hq hv hw r (k + 1) m d3 (by omega)
   | false =>
    have co' : ov[k]? = some false := by rw [b2q ko, co]
    obtain ⟨t, a, b, hv1⟩ := hv k x d1 co' d2
    obtain ⟨t', a', b', hv2⟩ := hw k q[k] d1 co' (b2q kq)
    have f2 : J0 Y0.net x = some a := by rw [show Y0.net = ⟨Y0.net.Day, Y0.net.least⟩ from rfl, h0, a0O, hv1.son]
    simp only [b2m, b2s, if_false]
    rw [a0O, hv2.son, f2, hY, hv1.son]
    simp only [b2m]
    obtain ⟨m2, e2, l2⟩ : ∃ m2, (if (a'.Track != a.Track) = true then (apd m [A4.mk at_ x1 ((k : Nat) : Int) 4 a'.Track]).bind fun y => some y else some m) = some m2 ∧ m2.length ≤ m.length + 1 := by
     split
     ·rw [M8 (by simp; omega)]; exact ⟨_, rfl, by simp⟩
     ·exact ⟨m, rfl, by omega⟩
    rw [e2]
    simp only [b2m]
    exact a6u hb ho hq hv hw r (k + 1) m2 d3 (by omega)
end
def toS (p : C5) : C4 := ⟨p.Promise, p.over, p.arrived, p.ends, p.station, p.when⟩
structure a3S (d : B0) (p : C5) : Prop where
 n1 : 1 ≤ p.Promise.Journey.Rides.length
 n4 : p.Promise.Journey.Rides.length ≤ 4
 ov : p.over.length = p.Promise.Journey.Rides.length
 ar : p.arrived.length = p.Promise.Journey.Rides.length
 en : p.ends.length = p.Promise.Journey.Rides.length
 ok : p.Promise.State = 1 → okE d p.over p.Promise.Journey.Rides p.Promise.Journey.Rides.length
 fr : 0 ≤ p.Promise.From ∧ p.Promise.From ≤ 11
 to : 0 ≤ p.Promise.To ∧ p.Promise.To ≤ 11
 ea : ∀ x ∈ p.ends, 0 ≤ x ∧ x ≤ 11
 st : a9i (p.station, p.when)
theorem a2D {α : Type} {l : List α} {n : Nat} (h : l.length = n) (h1 : 1 ≤ n) (h4 : n ≤ 4) : ∃ x, gx l (w64 ((n : Int) - 1)) = some x ∧ l[n - 1]? = some x := by
 subst h
 exact ⟨_, X7 h1 (b2Z _) (by omega), b2q (by omega)⟩
theorem a5p {d e : B0} (hd : O5 d) (he : O5 e) {fu : Nat} (hfu : 20 ≤ fu) {at_ : Int} (hat : 0 ≤ at_ ∧ at_ ≤ 28800) {ls tm tm' : Int} {P : List C5} {ms ms' : List A4} {i : Nat} {p : C5} (hp : P[i]? = some p) (hs : p.Promise.State = 1) (hi : a3S d p) :
  ∃ m p', F6 (i : Int) ⟨e, ls⟩ (D6.loop1 e.Trains 0 []) at_ ⟨⟨d, ls⟩, tm, P, ms⟩ = some (m, P.set i p') ∧ C1 fu (i : Int) e at_ ⟨d, ls, tm', P.map toS, ms'⟩ = some (m, (P.set i p').map toS) ∧ a3S e p' ∧ m.length ≤ 5 := by
 obtain ⟨⟨From, To, Dep, Arr, State, ⟨R⟩⟩, over, arrived, ends, station, when⟩ := p
 obtain ⟨n1, n4, l1, l2, l3, ok, fr, to, ea, st⟩ := hi
 simp only at n1 n4 l1 l2 l3 ok fr to ea st hs
 subst hs
 have ok := ok rfl
 have hb : ∀ i : Nat, (b2N R.length false)[i]? = some true → i < 0 ∧ over[i]? = some false := fun i h => by
  have := b4A (b2J h); cases this
 rw [F6, C1]
 dsimp only
 rw [O0, hp, b2m, O0, b3l, hp, b3y, b2m, toS]
 dsimp only
 rw [l1, a5N (by omega), b2m, b2m]
 obtain ⟨bg', ov', ar', of', p1, p2, k1, k2, k3, k4, k5, k6, k7⟩ := a6G (Y0 := ⟨⟨d, ls⟩, tm, P, ms⟩) (Y := ⟨d, ls, tm', P.map toS, ms'⟩) (at_ := at_) rfl rfl hd R 0 (b2N R.length false) over arrived ends b2U (by simp) l1 l2 l3 ok hb ea
 rw [p1, p2, b2m, b2m]
 dsimp only
 obtain ⟨lo, q1, q2⟩ := a2D k2 n1 n4
 rw [q1, b2m, b2m, b3s]
 cases lo with
 | true =>
  rw [if_pos rfl, if_pos rfl]
  exact ⟨[], ⟨⟨From, To, Dep, Arr, 3, ⟨R⟩⟩, ov', ar', of', station, when⟩, rfl, by rw [List.map_set]; rfl, ⟨n1, n4, k2, k3, k4, (fun h => by cases h), fr, to, k7, st⟩, by simp⟩
 | false =>
  rw [if_neg (by decide), if_neg (by decide), H4, a0Q (by omega), b2m, b2m]
  have hok0 : okE e ov' R 0 := fun i r h => by omega
  rcases a2Y he (tm := tm) (ms := ms) n4 k1 k2 k3 (Y := ⟨d, ls, tm', P.map toS, ms'⟩) k5 hfu (x1 := (i : Int)) (at_ := at_) (of := of') (X := ⟨⟨From, To, Dep, Arr, 1, ⟨R⟩⟩, over, arrived, ends, station, when⟩) (st := 1) (pl := station) (wh := when) R 0 R b2U rfl hok0 with ⟨k', kd, h0, h1, h2⟩ | ⟨q', h1, h2, h3, h4⟩
  ·dsimp only at h1 h2
   rw [h1, h2, b2m]
   obtain ⟨z, z1, z2, z3⟩ := a4K hd he hat (bg := bg') (X := ⟨⟨From, To, Dep, Arr, 2, ⟨R⟩⟩, ov', ar', of', station, when⟩) k1 k2 k4 k5 k6 k7 fr ls tm ms To Dep Arr 1 station when ar' tm' ls ms'
   dsimp only at z1 z2
   dsimp only
   rw [b2m, if_pos (by simpa using h0), z1, z2, b2m, b2m, b2m, b3s]
   exact ⟨_, ⟨⟨From, To, Dep, Arr, 2, ⟨R⟩⟩, ov', ar', of', z.1, z.2⟩, rfl, by rw [List.map_set]; rfl, ⟨n1, n4, k2, k3, k4, (fun h => by cases h), fr, to, k7, z3⟩, by simp⟩
  ·dsimp only at h1 h2
   rw [h1, h2, b2m, b2m]
   dsimp only
   rw [b2m, if_neg (by simp)]
   obtain ⟨m', m1, m2, m3⟩ := a6u (Y0 := ⟨⟨d, ls⟩, tm, P, ms⟩) (Y := ⟨d, ls, tm', P.map toS, ms'⟩) (at_ := at_) rfl rfl (e := e) (ls := ls) (x1 := (i : Int)) (z := ((-1 : Int), (0 : Int))) k1 k2 h3 k5 h4 R 0 [] b2U (by simpa using n4)
   dsimp only at m1
   dsimp only
   rw [m1, b2m]
   try rw [b2m]
   try dsimp only
   rw [m2, b2m]
   obtain ⟨ql, q3, q4⟩ := a2D h3 n1 n4
   obtain ⟨rl, q5, q6⟩ := a2D (l := R) rfl n1 n4
   obtain ⟨t, a, b, hv1⟩ := k5 (R.length - 1) rl (by omega) q2 q6
   obtain ⟨t', a', b', hv2⟩ := h4 (R.length - 1) ql (by omega) q2 q4
   try dsimp only
   rw [h3, q3, q5]
   simp only [b2m]
   rw [a0t, a0t, hv1.soff, hv2.soff]
   simp only [b2m]
   obtain ⟨mm, e2, l2'⟩ : ∃ m2, (if decide (b'.Arr > b.Arr) = true then (apd m' [A4.mk at_ (i : Int) (w64 ((R.length : Int) - 1)) 3 b'.Arr]).bind fun y => some y else some m') = some m2 ∧ m2.length ≤ 5 := by
    split
    ·rw [M8 (by simp; omega)]; exact ⟨_, rfl, by simp; omega⟩
    ·exact ⟨m', rfl, by omega⟩
   rw [e2]
   simp only [b2m]
   exact ⟨mm, ⟨⟨From, To, Dep, Arr, 1, ⟨q'⟩⟩, ov', ar', of', station, when⟩, rfl, by rw [List.map_set]; rfl, ⟨by simpa [h3] using n1, by simpa [h3] using n4, by simpa [h3] using k2, by simpa [h3] using k3, by simpa [h3] using k4, (fun _ => by simpa [h3] using h4), fr, to, k7, st⟩, l2'⟩
theorem a3S.any {d e : B0} {p : C5} (h : a3S d p) (hs : p.Promise.State ≠ 1) : a3S e p := ⟨h.n1, h.n4, h.ov, h.ar, h.en, fun k => absurd k hs, h.fr, h.to, h.ea, h.st⟩
theorem a5G {d e : B0} (hd : O5 d) (he : O5 e) {fu : Nat} (hfu : 20 ≤ fu) {at_ : Int} (hat : 0 ≤ at_ ∧ at_ ≤ 28800) {ls tm : Int} {ms : List A4} {P0 : List C5} {S0 : List C4} : ∀ (n k : Nat) (m : List A4) (P : List C5), k + n = P.length → P.length ≤ 100 → m.length ≤ 5 * k →
  (∀ (i : Nat) p, P[i]? = some p → i < k → a3S e p) → (∀ (i : Nat) p, P[i]? = some p → k ≤ i → a3S d p) →
  ∃ m' P', D6.loop2 at_ ⟨⟨d, ls⟩, tm, P0, ms⟩ e (D6.loop1 e.Trains 0 []) n k m P = some (m', P') ∧ G6.loop1 e at_ ⟨d, ls, tm, S0, ms⟩ fu n k m (P.map toS) = some (m', P'.map toS) ∧ P'.length = P.length ∧ (∀ p ∈ P', a3S e p) ∧ m'.length ≤ 500
 | 0, k, m, P, hk, hP, hm, h1, _ => ⟨m, P, rfl, rfl, rfl, fun p hp => by
   obtain ⟨i, hi, rfl⟩ := List.getElem_of_mem hp
   exact h1 i _ (b2q hi) (by omega), by omega⟩
 | n + 1, k, m, P, hk, hP, hm, h1, h2 => by
  have kp : k < P.length := by omega
  have hp : P[k]? = some P[k] := b2q kp
  have hi := h2 k _ hp (b2Z _)
  rw [D6.loop2, G6.loop1, O0, hp, b2m, O0, b3l, hp, b3y, b2m, toS]
  dsimp only
  by_cases c : P[k].Promise.State = 1
  ·obtain ⟨mm, p', e1, e2, e3, e4⟩ := a5p hd he hfu hat (ls := ls) (tm := at_) (tm' := at_) (ms := ms) (ms' := ms) hp c hi
   rw [c, beq_self_eq_true, if_pos rfl, if_pos rfl, e1, e2, b2m, b2m, M8 (by dsimp only; omega), b2m, b2m, b2m]
   obtain ⟨m', P', g1, g2, g3, g4, g5⟩ := a5G hd he hfu hat (ls := ls) (tm := tm) (ms := ms) (P0 := P0) (S0 := S0) n (k + 1) (m ++ mm) (P.set k p') (by rw [b3C]; omega) (by rw [b3C]; omega) (by rw [b2u]; omega) (fun i p hp' hi' => by
     by_cases ck : k = i
     ·subst ck; rw [b4C kp] at hp'; cases hp'; exact e3
     ·rw [b3B ck] at hp'; exact h1 i p hp' (by omega)) (fun i p hp' hi' => by
     rw [b3B (by omega)] at hp'; exact h2 i p hp' (by omega))
   exact ⟨m', P', g1, g2, by rw [g3, b3C], g4, g5⟩
  ·have cb : (P[k].Promise.State == 1) = false := by simpa using c
   rw [cb, if_neg (by decide), if_neg (by decide), b2m, b2m]
   exact a5G hd he hfu hat n (k + 1) m P (by omega) hP (by omega) (fun i p hp' hi' => by
     by_cases ck : i = k
     ·subst ck; rw [hp] at hp'; cases hp'; exact hi.any c
     ·exact h1 i p hp' (by omega)) (fun i p hp' hi' => h2 i p hp' (by omega))
theorem a8s {d e : B0} (hd : O5 d) (hi : S5 e) {fu : Nat} (hfu : 20 ≤ fu) (at_ : Int) {ls tm : Int} (ht : 0 ≤ tm ∧ tm ≤ 28800) {ms : List A4} (hms : ms.length + 500 < 4294967296) {P : List C5} (hP : P.length ≤ 100) (hp : ∀ p ∈ P, a3S d p) :
  ∃ f, C0 e = some f ∧ ∃ m c P' d' tm' ms', D6 e at_ ⟨⟨d, ls⟩, tm, P, ms⟩ = some (m, c, P', d'.Trains, d'.Turns, ls, tm', ms') ∧
   (if (f == 0) = true then G6 fu e at_ ⟨d, ls, tm, P.map toS, ms⟩ else some ([], f, P.map toS, d.Trains, d.Turns, tm, ms)) = some (m, c, P'.map toS, d'.Trains, d'.Turns, tm', ms') ∧
   O5 d' ∧ (0 ≤ tm' ∧ tm' ≤ 28800) ∧ ms'.length ≤ ms.length + 500 ∧ P'.length ≤ 100 ∧ ∀ p ∈ P', a3S d' p := by
 obtain ⟨f, f1, f2, f3⟩ := a1k hi
 refine ⟨f, f1, ?_⟩
 rw [D6, G6, f2, b2m]
 dsimp only
 by_cases c : f = 0
 ·have he := f3 c
  subst c
  rw [bne_self_eq_false, if_neg (by decide), beq_self_eq_true, if_pos rfl]
  by_cases c1 : at_ < tm
  ·rw [if_pos (decide_eq_true c1), if_pos (decide_eq_true c1)]
   exact ⟨_, _, P, d, tm, ms, rfl, rfl, hd, ht, by omega, hP, hp⟩
  ·simp only [decide_eq_false c1, b2s, if_false]
   by_cases c2 : at_ > 28800
   ·rw [if_pos (decide_eq_true c2), if_pos (decide_eq_true c2)]
    exact ⟨_, _, P, d, tm, ms, rfl, rfl, hd, ht, by omega, hP, hp⟩
   ·simp only [decide_eq_false c2, b2s, if_false]
    rw [a3A he.form, b2m, J1, b2B]
    obtain ⟨m', P', g1, g2, g3, g4, g5⟩ := a5G hd he hfu (at_ := at_) (by omega) (ls := ls) (tm := tm) (ms := ms) (P0 := P) (S0 := P.map toS) P.length 0 [] P (by omega) hP (by simp) (fun i p _ h => by omega) (fun i p h _ => hp p (b2J h))
    rw [g1, g2, b2m, b2m]
    dsimp only
    rw [M8 (by omega), b2m, b2m]
    exact ⟨m', 0, P', e, at_, _, rfl, rfl, he, by omega, by rw [b2u]; omega, by omega, g4⟩
 ·rw [if_pos (by simpa using c), if_neg (by simpa using c)]
  exact ⟨_, _, P, d, tm, ms, rfl, rfl, hd, ht, by omega, hP, hp⟩
theorem a7X {d : B0} (hd : O5 d) (j : A3) (at_ : Int) {ls tm : Int} (h0 : 0 ≤ ls ∧ ls ≤ 28800) (ht : 0 ≤ tm ∧ tm ≤ 28800) {ms : List A4} {P : List C5} (hP : P.length ≤ 100) (hp : ∀ p ∈ P, a3S d p) :
  ∃ id c tm' P', O8 j at_ ⟨⟨d, ls⟩, tm, P, ms⟩ = some (id, c, tm', P') ∧ M1 j at_ ⟨d, ls, tm, P.map toS, ms⟩ = some (id, c, tm', P'.map toS) ∧ (0 ≤ tm' ∧ tm' ≤ 28800) ∧ P'.length ≤ 100 ∧ ∀ p ∈ P', a3S d p := by
 obtain ⟨f, f1, f2, f3⟩ := a4J hd j ls true h0
 rw [O8, M1]
 dsimp only
 rw [f1, f2, b2m, b2m]
 by_cases c : f = 0
 ·obtain ⟨n1, n4, hv⟩ := f3 c
  subst c
  obtain ⟨x, x1, x2⟩ : ∃ x, gx j.Rides 0 = some x ∧ x ∈ j.Rides := a2K (by omega) (by omega)
  obtain ⟨y, y1, y2⟩ := a2D (l := j.Rides) rfl n1 n4
  obtain ⟨⟨t, a, a', v1, v2, v3⟩, _⟩ := hv x x2
  obtain ⟨⟨t', b', b, w1, w2, w3⟩, _⟩ := hv y (b2J y2)
  have hx : VR d x t a a' := ⟨v1, v2, v3⟩
  have hy : VR d y t' b' b := ⟨w1, w2, w3⟩
  have ha := hx.a_in hd
  have hb := hy.b_in hd
  have L : K4 d j = some a.Dep := by rw [K4, x1, b2m, v1, b2m, v2, b2m]
  have A : L2 d j = some b.Arr := by rw [L2, y1, b2m, w1, b2m, w3, b2m]
  rw [bne_self_eq_false, if_neg (by decide), if_neg (by decide), x1, y1, L, A]
  simp only [b2m]
  rw [a0O, a0t, hx.son, hy.soff, b2B]
  simp only [b2m]
  by_cases c1 : ((P.length : Nat) : Int) ≥ 100
  ·rw [if_pos (decide_eq_true c1), if_pos (decide_eq_true c1)]
   exact ⟨_, _, _, P, rfl, rfl, ht, hP, hp⟩
  ·simp only [decide_eq_false c1, b2s, if_false]
   by_cases c2 : at_ < tm
   ·rw [if_pos (decide_eq_true c2), if_pos (decide_eq_true c2)]
    exact ⟨_, _, _, P, rfl, rfl, ht, hP, hp⟩
   ·simp only [decide_eq_false c2, b2s, if_false]
    by_cases c3 : at_ > 28800
    ·rw [if_pos (decide_eq_true c3), if_pos (decide_eq_true c3)]
     exact ⟨_, _, _, P, rfl, rfl, ht, hP, hp⟩
    ·simp only [decide_eq_false c3, b2s, if_false]
     by_cases c4 : a.Dep < at_
     ·rw [if_pos (decide_eq_true c4), if_pos (decide_eq_true c4)]
      exact ⟨_, _, _, P, rfl, rfl, ht, hP, hp⟩
     ·simp only [decide_eq_false c4, b2s, if_false]
      rw [a5N (by omega), a5N (by omega), a0Q (by omega)]
      simp only [b2m]
      rw [M8 (by simp; omega), M8 (by simp; omega)]
      simp only [b2m]
      refine ⟨_, _, at_, P ++ [⟨⟨a.Station, b.Station, a.Dep, b.Arr, 1, ⟨j.Rides⟩⟩, b2N j.Rides.length false, b2N j.Rides.length 0, b2N j.Rides.length 0, 0, 0⟩], rfl, ?_, by omega, by simp; omega, fun p hp' => ?_⟩
      ·simp [toS]
      ·rcases b2X.1 hp' with h | h
       ·exact hp p h
       ·obtain rfl := List.mem_singleton.1 h
        refine ⟨n1, n4, b4b, b4b, b4b, fun _ i r _ _ hr => ?_, ⟨ha.1, ha.2.1⟩, ⟨hb.1, hb.2.1⟩, fun x hx => ?_, by simp [a9i]⟩
        ·obtain ⟨⟨t, a, b, q1, q2, q3⟩, _⟩ := hv r (b2J hr)
         exact ⟨t, a, b, q1, q2, q3⟩
        ·have := b4A hx; omega
 ·rw [if_pos (by simpa using c), if_pos (by simpa using c)]
  exact ⟨_, _, _, P, rfl, rfl, ht, hP, hp⟩
theorem a5y (l : List B9) : H1 l l = some true := by
 have key : ∀ (r : List B9) (k : Nat), l.drop k = r → H1.loop1 l r k = some (.next ()) := by
  intro r
  induction r with
  | nil => intro k _; rfl
  | cons v r ih =>
   intro k hd
   have hk : k < l.length := by
    rcases b2I k l.length with c | c
    ·exact c
    ·rw [b3d c] at hd; cases hd
   rw [b3h hk] at hd
   injection hd with d1 d2
   rw [H1.loop1, V0 hk, b2m, d1]
   simp only [beq_self_eq_true, Bool.and_self, b2W, b2s, if_false]
   exact ih (k + 1) d2
 unfold H1
 rw [bne_self_eq_false, if_neg (by decide), key l 0 rfl]; rfl
theorem a6d (l : List Int) : J2 l l = some true := by
 have key : ∀ (r : List Int) (k : Nat), l.drop k = r → J2.loop1 l r k = some (.next ()) := by
  intro r
  induction r with
  | nil => intro k _; rfl
  | cons v r ih =>
   intro k hd
   have hk : k < l.length := by
    rcases b2I k l.length with c | c
    ·exact c
    ·rw [b3d c] at hd; cases hd
   rw [b3h hk] at hd
   injection hd with d1 d2
   rw [J2.loop1, V0 hk, b2m, d1]
   simp only [bne_self_eq_false, b2s, if_false]
   exact ih (k + 1) d2
 unfold J2
 rw [bne_self_eq_false, if_neg (by decide), key l 0 rfl]; rfl
theorem a1Z (l : List (List Int)) : F2 l l = some true := by
 have key : ∀ (r : List (List Int)) (k : Nat), l.drop k = r → F2.loop1 l r k = some (.next ()) := by
  intro r
  induction r with
  | nil => intro k _; rfl
  | cons v r ih =>
   intro k hd
   have hk : k < l.length := by
    rcases b2I k l.length with c | c
    ·exact c
    ·rw [b3d c] at hd; cases hd
   rw [b3h hk] at hd
   injection hd with d1 d2
   rw [F2.loop1, V0 hk, b2m, d1, a6d, b2m, b2W, if_neg (by decide)]
   exact ih (k + 1) d2
 unfold F2
 rw [bne_self_eq_false, if_neg (by decide), key l 0 rfl]; rfl
theorem a4N (t : B1) : N9 t t = some true := by
 unfold N9
 simp only [beq_self_eq_true, if_true, a5y, b2m, a1Z]
theorem a3Z (l : List B1) : E4 l l = some true := by
 have key : ∀ (r : List B1) (k : Nat), l.drop k = r → E4.loop1 l r k = some (.next ()) := by
  intro r
  induction r with
  | nil => intro k _; rfl
  | cons v r ih =>
   intro k hd
   have hk : k < l.length := by
    rcases b2I k l.length with c | c
    ·exact c
    ·rw [b3d c] at hd; cases hd
   rw [b3h hk] at hd
   injection hd with d1 d2
   rw [E4.loop1, V0 hk, b2m, d1, a4N, b2m, b2W, if_neg (by decide)]
   exact ih (k + 1) d2
 unfold E4
 rw [bne_self_eq_false, if_neg (by decide), key l 0 rfl]; rfl
theorem a4e (d : B0) : N6 d d = some true := by
 unfold N6
 simp only [a3Z, a1Z, b2m, if_true]
theorem b0H {a b : Int} (h : 0 ≤ a ∧ a ≤ 28800) (k : 0 ≤ b ∧ b ≤ 28800) : 0 ≤ mx a b ∧ mx a b ≤ 28800 := by unfold mx; split <;> assumption
theorem instead_ok {d : B0} (hd : O5 d) (x1 : Int) {ls tm : Int} (h0 : 0 ≤ ls ∧ ls ≤ 28800) (ht : 0 ≤ tm ∧ tm ≤ 28800) {ms : List A4} {P : List C5} (hP : P.length ≤ 100) (hp : ∀ p ∈ P, a3S d p) {fu : Nat} (hfu : 3317990464 ≤ fu) :
  ∃ z, M2 fu x1 ⟨⟨d, ls⟩, tm, P, ms⟩ = some z ∧ L1 fu x1 ⟨d, ls, tm, P.map toS, ms⟩ = some z := by
 rw [M2, L1]
 dsimp only
 rw [a0n (by omega), b2B, J1]
 by_cases c : 0 ≤ x1 ∧ x1 < P.length
 ·have e1 : (if decide (x1 < 0) = true then true else decide (x1 ≥ ((P.length : Nat) : Int))) = false := by
   rw [if_neg (by simp; omega)]; exact decide_eq_false (by omega)
  obtain ⟨k, rfl⟩ := Int.eq_ofNat_of_zero_le c.1
  have kp : k < P.length := by omega
  have hi := hp _ (b3L kp)
  rw [decide_eq_true c, e1, V0 kp, O0, b3l, b2q kp]
  simp only [b2W, b2s, if_false, b3y, b2m]
  rw [show (toS P[k]).Promise = P[k].Promise from rfl, show (toS P[k]).place = P[k].station from rfl, show (toS P[k]).when = P[k].when from rfl]
  cases c1 : (P[k].Promise.State != 2) with
  | true => exact ⟨_, rfl, rfl⟩
  | false =>
   simp only [b2s, if_false]
   cases c2 : (P[k].station == P[k].Promise.To) with
   | true => exact ⟨_, rfl, rfl⟩
   | false =>
    simp only [b2s, if_false]
    obtain ⟨s1, s2, s3, s4⟩ := hi.st
    dsimp only at s1 s2 s3 s4
    have hm := b0H (a := P[k].when) ⟨s3, s4⟩ ht
    obtain ⟨ps, p1, p2, p3, _⟩ := a4L hd h0 (st := P[k].station) (to := P[k].Promise.To) hi.to.1
    obtain ⟨j, b, j1, j2⟩ := a2E hd h0 hi.to.1 p1 p2 p3 (fu := fu) (by omega) (mx P[k].when tm)
    have z : K1 ls P[k].station P[k].Promise.To (mx P[k].when tm) true true = 0 := by
     unfold K1
     simp only [show ∀ a b c, C6 a b c = D5 a b c from fun _ _ _ => rfl, J1]
     rw [(K5 _ _ _).2 h0, (K5 _ _ _).2 ⟨s1, s2⟩, (K5 _ _ _).2 hi.to, (K5 _ _ _).2 hm, c2]
     rfl
    have hJ := fun (c : List RR) (h : c ∈ dfs (AD d) ls (fun q => q.2.1.Station == P[k].station) (a0m P[k].Promise.To) 4 []) => (show c.length ≤ 4 ∧ c ≠ [] ∧ ∀ q ∈ c, q ∈ AD d from ⟨(a2t h).1, (a2t h).2.1, (a2t h).2.2.1⟩)
    have hsm := a3z hd h0.1 (fun q => q.2.1.Station == P[k].station) (a0m P[k].Promise.To)
    have hL := a2P hJ (mx P[k].when tm) _ 0 [] b2U (by simpa using hsm)
    rw [b4y, b3c] at hL
    rw [j1, H6, z, bne_self_eq_false, if_neg (by decide), b0B hd h0 _ _ (by omega), b2m, b2m, b2B, hL, b2m, j2]
    simp only [b2m]
    cases b <;> exact ⟨_, rfl, rfl⟩
 ·have e1 : (if decide (x1 < 0) = true then true else decide (x1 ≥ ((P.length : Nat) : Int))) = true := by
   by_cases c : x1 < 0
   ·rw [if_pos (by simpa using c)]
   ·rw [if_neg (by simpa using c)]; exact decide_eq_true (by omega)
  rw [decide_eq_false c, e1]
  exact ⟨_, rfl, rfl⟩
section
variable {d : B0} {P : List C5} (hp : ∀ p ∈ P, a3S d p) (hP : P.length ≤ 100)
include hp hP
theorem a5r {Y0 : G3} {Y : F3} (h0 : Y0.promises = P) (hY : Y.sold = P.map toS) : ∀ (n k : Nat) (q : List C2), k + n = P.length → q.length = k → G1.loop1 Y0 n k q = some (q ++ (P.drop k).map (·.Promise)) ∧ F0.loop1 Y n k q = some (q ++ (P.drop k).map (·.Promise))
 | 0, k, q, hk, _ => by
  rw [G1.loop1, F0.loop1, b3d (by omega), b4y, b3I]
  exact ⟨rfl, rfl⟩
 | n + 1, k, q, hk, hq => by
  have kp : k < P.length := by omega
  have hi := hp _ (b3L kp)
  have h4 := hi.n4
  obtain ⟨g1, g2⟩ := a5r h0 hY n (k + 1) (q ++ [P[k].Promise]) (by omega) (by simp; omega)
  rw [G1.loop1, F0.loop1, h0, hY, V0 kp, O0, b3l, b2q kp, b3y, b2m, b2m, show (toS P[k]).Promise = P[k].Promise from rfl, a0Q (by omega), b2m, b2m]
  rw [show (C2.mk P[k].Promise.From P[k].Promise.To P[k].Promise.Dep P[k].Promise.Arr P[k].Promise.State (A3.mk P[k].Promise.Journey.Rides)) = P[k].Promise from rfl, M8 (by simp; omega), b2m, b2m, g1, g2, b3h kp, b2L]
  simp
theorem b0I {Y0 : G3} (h0 : Y0.promises = P) : G1 Y0 = some (P.map (·.Promise)) := by
 rw [G1, h0, (a5r hp hP h0 (Y := ⟨⟨[], []⟩, 0, 0, P.map toS, []⟩) rfl P.length 0 [] (by omega) rfl).1]; simp
theorem b0S {Y : F3} (hY : Y.sold = P.map toS) : F0 Y = some (P.map (·.Promise)) := by
 rw [F0, hY, b2B, (a5r hp hP (Y0 := ⟨⟨⟨[], []⟩, 0⟩, 0, P, []⟩) rfl hY P.length 0 [] (by omega) rfl).2]; simp
end
theorem a5X (l : List C2) : D3 l l = some true := by
 have key : ∀ (r : List C2) (k : Nat), l.drop k = r → D3.loop1 l r k = some (.next ()) := by
  intro r
  induction r with
  | nil => intro k _; rfl
  | cons v r ih =>
   intro k hd
   obtain ⟨d1, d2, d3⟩ := C3 hd
   rw [D3.loop1, O0, d2, b2m, O3, a2w]
   simpa using ih (k + 1) d3
 rw [D3, bne_self_eq_false, key l 0 b2U]
 rfl
theorem a3a (l : List A4) : E9 l l = some true := by
 have key : ∀ (r : List A4) (k : Nat), l.drop k = r → E9.loop1 l r k = some (.next ()) := by
  intro r
  induction r with
  | nil => intro k _; rfl
  | cons v r ih =>
   intro k hd
   obtain ⟨d1, d2, d3⟩ := C3 hd
   rw [E9.loop1, O0, d2, b2m]
   simpa using ih (k + 1) d3
 rw [E9, bne_self_eq_false, key l 0 b2U]
 rfl
theorem a6a {σ α β : Type} {x : Option α} {f : α → Option β} (Q : Option β → Prop) (I : σ → Prop) (g : σ → α) (h : ∃ s, x = some (g s) ∧ I s) (k : ∀ s, I s → Q (f (g s))) : Q (x.bind f) := by
 obtain ⟨s, rfl, hs⟩ := h
 exact k s hs
structure a7H (n : Nat) (s : B0 × Int × List C5 × List A4) : Prop where
 day : O5 s.1
 time : 0 ≤ s.2.1 ∧ s.2.1 ≤ 28800
 few : s.2.2.1.length ≤ 100
 all : ∀ p ∈ s.2.2.1, a3S s.1 p
 told : s.2.2.2.length + 500 * n < 4294967296
theorem a7H.less {n m : Nat} {s} (h : a7H n s) (hm : m ≤ n) : a7H m s := ⟨h.day, h.time, h.few, h.all, by have := h.told; omega⟩
abbrev BT := List B1 × List (List Int) × Int × List C4 × List A4 × List B1 × List (List Int) × Int × Int × List C5 × List A4
theorem a2x {x1 : Int} (h0 : 0 ≤ x1 ∧ x1 ≤ 28800) {x2 : List B0} (i2 : inL S5 x2) {x3 : List A3} {fu : Nat} (hfu : 3317990464 ≤ fu) : ∀ (n : Nat) (sc : List Int) (s : B0 × Int × List C5 × List A4), sc.length < n → a7H (sc.length + 1) s →
  ∃ sc' s', E7.loop2 x1 x2 x3 fu n sc s.1.Trains s.1.Turns s.2.1 (s.2.2.1.map toS) s.2.2.2 s.1.Trains s.1.Turns x1 s.2.1 s.2.2.1 s.2.2.2 = some (.next (sc', s'.1.Trains, s'.1.Turns, s'.2.1, s'.2.2.1.map toS, s'.2.2.2, s'.1.Trains, s'.1.Turns, x1, s'.2.1, s'.2.2.1, s'.2.2.2)) ∧ a7H 0 s'
 | 0, _, _, h, _ => absurd h (by omega)
 | n + 1, sc, (d, tm, P, ms), hn, hI => by
  obtain ⟨hd, ht, hP, hp, hm⟩ := id hI
  dsimp only at hd ht hP hp hm
  rw [E7.loop2]
  by_cases c : sc.length ≥ 3
  ·obtain ⟨a, a1, _⟩ := a2K (l := sc) (i := 0) (by omega) (by omega)
   obtain ⟨b, b1, _⟩ := a2K (l := sc) (i := 1) (by omega) (by omega)
   obtain ⟨w, w1, _⟩ := a2K (l := sc) (i := 2) (by omega) (by omega)
   rw [if_pos (decide_eq_true (by omega)), a1, b1, w1, a0P (by omega) (by omega) (by omega)]
   simp only [b2m]
   refine a6a (fun z : Option (Out Bool (List Int × BT)) => ∃ sc' s', z = some (.next (sc', s'.1.Trains, s'.1.Turns, s'.2.1, s'.2.2.1.map toS, s'.2.2.2, s'.1.Trains, s'.1.Turns, x1, s'.2.1, s'.2.2.1, s'.2.2.2)) ∧ a7H 0 s') (a7H (sc.length - 3 + 1)) (fun s => (.next (s.1.Trains, s.1.Turns, s.2.1, s.2.2.1.map toS, s.2.2.2, s.1.Trains, s.1.Turns, x1, s.2.1, s.2.2.1, s.2.2.2) : Out Bool BT)) ?_ ?_
   ·rw [show (B0.mk d.Trains d.Turns) = d from rfl]
    by_cases ca : a = 0
    ·rw [if_pos (by simpa using ca)]
     obtain ⟨z, z1, z2⟩ := instead_ok hd b h0 ht (ms := ms) hP hp hfu
     rw [z1, z2, b2m, b2m, bne_self_eq_false, bne_self_eq_false, if_neg (by decide), if_neg (by decide), O4, a2w]
     exact ⟨(d, tm, P, ms), rfl, hI.less (by omega)⟩
    ·rw [if_neg (by simpa using ca), J1]
     by_cases cn : a = 1 ∧ 0 ≤ b ∧ b < x2.length
     ·obtain ⟨e, e1, e2⟩ := a2K cn.2.1 cn.2.2
      rw [if_pos (show (if (a == 1) = true then (if decide (b ≥ 0) = true then decide (b < ((x2.length : Nat) : Int)) else false) else false) = true by rw [if_pos (by simpa using cn.1), if_pos (decide_eq_true cn.2.1)]; exact decide_eq_true cn.2.2), e1]
      simp only [b2m]
      obtain ⟨f, f1, m, cc, P', d', tm', ms', n1, n2, n3, n4, n5, n6, n7⟩ := a8s hd (i2 e e2) (fu := fu) (by omega) w (ls := x1) ht (ms := ms) (by omega) hP hp
      rw [n1, f1]
      simp only [b2m]
      refine a6a (fun z : Option (Out Bool BT) => ∃ s : B0 × Int × List C5 × List A4, z = some (.next (s.1.Trains, s.1.Turns, s.2.1, s.2.2.1.map toS, s.2.2.2, s.1.Trains, s.1.Turns, x1, s.2.1, s.2.2.1, s.2.2.2)) ∧ a7H (sc.length - 3 + 1) s) (fun _ : Unit => True) (fun _ => (m, cc, P'.map toS, d'.Trains, d'.Turns, tm', ms')) ⟨(), ?_, trivial⟩ (fun _ _ => ?_)
      ·rw [← n2]
       split
       ·cases G6 fu e w ⟨d, x1, tm, P.map toS, ms⟩ <;> rfl
       ·rfl
      ·dsimp only
       rw [bne_self_eq_false, if_neg (by decide), a3a]
       exact ⟨(d', tm', P', ms'), rfl, n3, n4, n6, n7, by dsimp only; omega⟩
     ·rw [if_neg (show ¬ (if (a == 1) = true then (if decide (b ≥ 0) = true then decide (b < ((x2.length : Nat) : Int)) else false) else false) = true by
       intro h
       split at h
       ·rename_i h1
        split at h
        ·rename_i h2
         exact cn ⟨by simpa using h1, by simpa using h2, by simpa using h⟩
        ·cases h
       ·cases h), J1]
      by_cases cs : 0 ≤ b ∧ b < x3.length
      ·obtain ⟨j, e1, _⟩ := a2K cs.1 cs.2
       obtain ⟨id, cc, tm', P', n1, n2, n3, n4, n5⟩ := a7X hd j w h0 ht (ms := ms) hP hp
       rw [if_pos (show (if decide (b ≥ 0) = true then decide (b < ((x3.length : Nat) : Int)) else false) = true by rw [if_pos (decide_eq_true cs.1)]; exact decide_eq_true cs.2), e1]
       simp only [b2m]
       rw [n1, n2]
       simp only [b2m]
       rw [J1, if_neg (by simp)]
       exact ⟨(d, tm', P', ms), rfl, hd, n3, n4, n5, by dsimp only; omega⟩
      ·rw [if_neg (show ¬ (if decide (b ≥ 0) = true then decide (b < ((x3.length : Nat) : Int)) else false) = true by
        intro h
        split at h
        ·rename_i h2
         exact cs ⟨by simpa using h2, by simpa using h⟩
        ·cases h)]
       exact ⟨(d, tm, P, ms), rfl, hI.less (by omega)⟩
   ·rintro ⟨d', tm', P', ms'⟩ hI'
    obtain ⟨k1, k2, k3, k4, k5⟩ := id hI'
    dsimp only at k1 k2 k3 k4 k5 ⊢
    rw [b0I k4 k3 rfl, b0S k4 k3 rfl, b2m, b2m, a5X, b2m, b2W, if_neg (by decide), N4, a5b (by dsimp only; omega), b2m, b2m, a3a, b2m, b2m, b2W, if_neg (by decide)]
    have hl : ((sc.take ((sc.length : Nat) : Int).toNat).drop (3 : Int).toNat).length = sc.length - 3 := by
     rw [b2K, b3s, b4J]; rfl
    exact a2x h0 i2 hfu n _ (d', tm', P', ms') (by rw [hl]; omega) (by rw [hl]; exact hI')
  ·rw [if_neg (by simp; omega)]
   exact ⟨sc, (d, tm, P, ms), rfl, hI.less (by omega)⟩
theorem a5A : P7 J4 40 = some (some (J4.Trains, J4.Turns, 40, 0, [], []), 0) := by
 obtain ⟨e, h1, h2, h3⟩ := a1k a2Q
 have he : e = 0 := by rw [a0T] at h2; injection h2 with h2; exact h2.symm
 rw [P7, P5, a0T, b2m, if_neg (by decide), (K5 40 0 28800).2 (by decide), b2W, if_neg (by decide), b2m, if_neg (by decide), a3A (h3 he).form]
 rfl
theorem a1s : Q3 = some true := by
 obtain ⟨e, h1, h2, h3⟩ := a1k a2Q
 have he : e = 0 := by rw [a0T] at h2; injection h2 with h2; exact h2.symm
 rw [Q3, J1, a5A, b2m]
 dsimp only
 rw [beq_self_eq_true, if_pos rfl, N5]
 dsimp only
 rw [show (B0.mk J4.Trains J4.Turns) = J4 from rfl, a3A (h3 he).form, b2m, b2m, J1, a4e, b2m, b2m]
theorem a5E {x0 : B0} {x1 : Int} {x2 : List B0} {x3 : List A3} {x4 : List Int} (i0 : S5 x0) (i2 : inL S5 x2) (z4 : szL sz1 x4 ≤ 1048576) : ∃ fu, E7 fu x0 x1 x2 x3 x4 = some true := by
 have h4 : x4.length ≤ 1048576 := by
  have : ∀ l : List Int, l.length ≤ szL sz1 l := fun l => by induction l with
   | nil => simp
   | cons x r ih => simp [szL, sz1] at ih ⊢; omega
  have := this x4; omega
 obtain ⟨f, f1, f2, f3⟩ := a1k i0
 refine ⟨3317990464 + x4.length + 1, ?_⟩
 rw [E7, P7, P5, f2, b2m]
 by_cases c : f = 0
 ·subst c
  rw [bne_self_eq_false, if_neg (by decide)]
  by_cases cl : 0 ≤ x1 ∧ x1 ≤ 28800
  ·have hd := f3 rfl
   rw [(K5 _ _ _).2 cl, b2W, if_neg (by decide), b2m, bne_self_eq_false, if_neg (by decide), a3A hd.form, b2m, b2m]
   dsimp only
   have e1 : (if (0 : Int) == 0 then (if decide (x1 < 0) then true else decide (x1 > 28800)) else false) = false := by
    rw [if_pos (by decide), if_neg (by simp; omega)]; exact decide_eq_false (by omega)
   obtain ⟨sc', s', g1, g2⟩ := a2x cl i2 (x3 := x3) (fu := 3317990464 + x4.length + 1) (by omega) (3317990464 + x4.length + 1) x4 (x0, 0, [], []) (by omega) ⟨hd, ⟨Int.le_refl 0, (by decide : (0 : Int) ≤ 28800)⟩, by simp, fun p h => (by cases h), by dsimp only; simp; omega⟩
   simp only [b4y] at g1
   rw [f1, b2m, J1, e1, J1, if_neg (by decide), a1s, b2m, b2W, if_neg (by decide), b2m, bne_self_eq_false, if_neg (by decide), if_neg (by decide), g1, b2m]
   dsimp only
   rw [N5, show (B0.mk s'.1.Trains s'.1.Turns) = s'.1 from rfl, a3A g2.day.form, b2m, b2m, a4e, b2m]
  ·have ew : D5 x1 0 28800 = false := by
    cases h : D5 x1 0 28800 with
    | false => rfl
    | true => exact absurd ((K5 _ _ _).1 h) cl
   have e1 : (if (0 : Int) == 0 then (if decide (x1 < 0) then true else decide (x1 > 28800)) else false) = true := by
    rw [if_pos (by decide)]
    by_cases c : x1 < 0
    ·rw [if_pos (by simpa using c)]
    ·rw [if_neg (by simpa using c)]; exact decide_eq_true (by omega)
   rw [ew, b3R, if_pos rfl, b2m, if_pos (by decide), b2m]
   dsimp only
   rw [f1, b2m, J1, e1, J1, if_pos rfl, a1s, b2m, b2W, if_neg (by decide), b2m, bne_self_eq_false, if_neg (by decide), if_pos (by decide)]
 ·have cb : (f != 0) = true := by simpa using c
  have ce : (f == 0) = false := by simpa using c
  rw [if_pos cb, b2m, if_pos cb, b2m]
  dsimp only
  simp only [f1, b2m, J1, ce, b2s, if_false, a1s, b2W, bne_self_eq_false, cb, if_true]
theorem GuideDesks_law (x0 : B0) (x1 : Int) (x2 : List B0) (x3 : List A3) (x4 : List Int) (_ : x0.Trains.length ≤ 9223372036854775807) (_ : x0.Turns.length ≤ 9223372036854775807) (_ : -9223372036854775808 ≤ x1 ∧ x1 ≤ 9223372036854775807) (_ : x2.length ≤ 9223372036854775807) (_ : x3.length ≤ 9223372036854775807) (_ : x4.length ≤ 9223372036854775807)
  (i0 : S5 x0) (i2 : (inL S5) x2) (_ : (inL a0E) x3) (_ : (inL inI) x4) (_ : a1J x0 ≤ 1048576) (_ : szL a1J x2 ≤ 1048576) (_ : szL X0 x3 ≤ 1048576) (z4 : szL sz1 x4 ≤ 1048576) : ∃ fu, E7 fu x0 x1 x2 x3 x4 = some true := a5E i0 i2 z4
end Go.Fp
