/- GuideBoards: the mirror of the law is true of all days, stations and times. -/
import Derived.Test.YtpcebngchmgckaaGreatDoorGuideBoardsM
import Derived.Test.YtpcebngchmgckaaGreatDoorFpPlain
import Derived.Lib.ItoaLen
import Derived.KernelRfl
namespace Go.Fp
def tx (n : Int) : ByteArray := ⟨(Lib.itoa n).toArray⟩
theorem itoa_tx {n : Int} (h : -9223372036854775808 ≤ n ∧ n ≤ 9223372036854775807) : itoa n = some (tx n) := by unfold itoa; rw [if_pos h]; rfl
theorem tx_size {n : Int} (h : -9223372036854775808 ≤ n ∧ n ≤ 9223372036854775807) : (tx n).size ≤ 21 := by
 have := Lib.itoa_length_le n h.1 h.2
 unfold tx
 show ((Lib.itoa n).toArray).size ≤ 21
 simpa using this
theorem scat_in {a b : ByteArray} (h : a.size + b.size ≤ 9223372036854775807) : scat a b = some (a ++ b) := by unfold scat; rw [if_pos h]
theorem sbw_in {y x : ByteArray} (h0 : 0 < x.size) (h : y.size + x.size < 4294967296) : sbw y x = some (y ++ x) := by unfold sbw; rw [if_pos ⟨h0, h⟩]
theorem mget_put (m : List (Int × Bool)) (k j : Int) (v : Bool) : mget (mput m k v) j = if j = k then some v else mget m j := by
 induction m with
 | nil => simp [mput, mget]
 | cons p r ih =>
  obtain ⟨a, b⟩ := p
  simp only [mput]
  by_cases h : k = a
  ·subst h
   simp only [beq_self_eq_true, if_true, mget]
   by_cases h2 : j = k <;> simp [h2]
  ·have hb : (k == a) = false := by simpa using h
   simp only [hb, Bool.false_eq_true, if_false, mget]
   by_cases h2 : j = a
   ·subst h2; have : ¬ j = k := fun e => h e.symm; simp [this]
   ·have hb2 : (j == a) = false := by simpa using h2
    simp [hb2, ih]
def wi (x : Int) : Bool := Planwithin x 0 999999
theorem form2 : ∀ l, Fishref2TextFault.loop2 l = Planform.loop2 l
 | [] => rfl
 | x :: r => by simp only [Fishref2TextFault.loop2, Planform.loop2, form2 r]
theorem form3 : ∀ l, Fishref2TextFault.loop3 l = Planform.loop3 l
 | [] => rfl
 | x :: r => by simp only [Fishref2TextFault.loop3, Planform.loop3, form3 r]
theorem form4 : ∀ l, Fishref2TextFault.loop4 l = Planform.loop4 l
 | [] => rfl
 | x :: r => by simp only [Fishref2TextFault.loop4, Planform.loop4, form4 r]
theorem form1 : ∀ l, Fishref2TextFault.loop1 l = Planform.loop1 l
 | [] => rfl
 | x :: r => by simp only [Fishref2TextFault.loop1, Planform.loop1, form1 r, form2, form3]
def trainForm (t : ApiTrain) : Prop := 1 ≤ t.Stops.length ∧ t.Stops.length ≤ 8 ∧ t.Legs.length + 1 = t.Stops.length ∧ ∀ g ∈ t.Legs, g.length ≤ 4
def dayForm (d : ApiDay) : Prop := d.Trains.length ≤ 12 ∧ d.Turns.length ≤ 8 ∧ (∀ t ∈ d.Trains, trainForm t) ∧ ∀ g ∈ d.Turns, g.length ≤ 12
theorem form3_out : ∀ l, (Planform.loop3 l = .ret 4) ∨ (Planform.loop3 l = .next () ∧ ∀ g ∈ l, g.length ≤ 4)
 | [] => .inr ⟨rfl, by simp⟩
 | x :: r => by
  rw [Planform.loop3]
  by_cases c : ((x.length : Nat) : Int) > 4
  ·rw [if_pos (by simpa using c)]; exact .inl rfl
  ·rw [if_neg (by simpa using c)]
   rcases form3_out r with h | ⟨h, k⟩
   ·exact .inl h
   ·refine .inr ⟨h, ?_⟩
    intro g hg
    rcases List.mem_cons.1 hg with rfl | hg
    ·omega
    ·exact k g hg
theorem form2_out : ∀ l, (Planform.loop2 l = .ret 1) ∨ (Planform.loop2 l = .next ())
 | [] => .inr rfl
 | x :: r => by
  rw [Planform.loop2]
  split
  ·exact .inl rfl
  ·exact form2_out r
theorem form4_out : ∀ l, (∃ e, e ≠ 0 ∧ Planform.loop4 l = .ret e) ∨ (Planform.loop4 l = .next () ∧ ∀ g ∈ l, g.length ≤ 12)
 | [] => .inr ⟨rfl, by simp⟩
 | x :: r => by
  rw [Planform.loop4]
  split
  ·exact .inl ⟨1, by decide, rfl⟩
  ·by_cases c : ((x.length : Nat) : Int) > 12
   ·rw [if_pos (by simpa using c)]; exact .inl ⟨4, by decide, rfl⟩
   ·rw [if_neg (by simpa using c)]
    rcases form4_out r with h | ⟨h, k⟩
    ·exact .inl h
    ·refine .inr ⟨h, ?_⟩
     intro g hg
     rcases List.mem_cons.1 hg with rfl | hg
     ·omega
     ·exact k g hg
theorem form1_out : ∀ l, (∃ e, e ≠ 0 ∧ Planform.loop1 l = .ret e) ∨ (Planform.loop1 l = .next () ∧ ∀ t ∈ l, trainForm t)
 | [] => .inr ⟨rfl, by simp⟩
 | x :: r => by
  rw [Planform.loop1, bnd_eq]
  generalize hq : (if (((x.Stops).length : Int) == 0) = true then true else (((x.Legs).length : Int) != (w64 (((x.Stops).length : Int) - 1)))) = q
  cases q with
  | true => exact .inl ⟨1, by decide, rfl⟩
  | false =>
   rw [if_neg (by decide), bnd_eq]
   rcases form2_out x.Legs with h | h
   ·rw [h]; exact .inl ⟨1, by decide, rfl⟩
   ·rw [h]
    dsimp only
    by_cases c : ((x.Stops.length : Nat) : Int) > 8
    ·rw [if_pos (by simpa using c)]; exact .inl ⟨4, by decide, rfl⟩
    ·rw [if_neg (by simpa using c), bnd_eq]
     rcases form3_out x.Legs with h3 | ⟨h3, k3⟩
     ·rw [h3]; exact .inl ⟨4, by decide, rfl⟩
     ·rw [h3]
      dsimp only
      rcases form1_out r with h1 | ⟨h1, k1⟩
      ·exact .inl h1
      ·refine .inr ⟨h1, ?_⟩
       intro t ht
       rcases List.mem_cons.1 ht with rfl | ht
       ·split at hq
        ·cases hq
        ·rename_i hz
         rw [w64_id (by omega)] at hq
         have hq2 : ((t.Legs.length : Nat) : Int) = ((t.Stops.length : Nat) : Int) - 1 := by simpa using hq
         have hz2 : ¬ t.Stops.length = 0 := by simpa using hz
         exact ⟨by omega, by omega, by omega, k3⟩
       ·exact k1 t ht
theorem form_out (d : ApiDay) : Planform d ≠ 0 ∨ (Planform d = 0 ∧ dayForm d) := by
 rw [Planform, bnd_eq]
 by_cases c : ((d.Trains.length : Nat) : Int) > 12 ∨ ((d.Turns.length : Nat) : Int) > 8
 ·left
  rw [if_pos (by rcases c with c | c <;> simp [c])]; decide
 ·have c1 : ¬ ((d.Trains.length : Nat) : Int) > 12 := fun h => c (.inl h)
  have c2 : ¬ ((d.Turns.length : Nat) : Int) > 8 := fun h => c (.inr h)
  rw [if_neg (by simp [c1, c2]), bnd_eq]
  rcases form1_out d.Trains with ⟨e, he, h⟩ | ⟨h, k⟩
  ·rw [h]; exact .inl he
  ·rw [h]
   dsimp only
   rw [bnd_eq]
   rcases form4_out d.Turns with ⟨e, he, h4⟩ | ⟨h4, k4⟩
   ·rw [h4]; exact .inl he
   ·rw [h4]; exact .inr ⟨rfl, by omega, by omega, k, k4⟩
def numS (x : ApiStop) : List Int := [x.Station, x.Track, x.Arr, x.Dep]
def numT (t : ApiTrain) : List (List Int) := [t.No, t.Stock] :: (t.Stops.map numS ++ t.Legs)
theorem num2 : ∀ (l : List ApiStop) (q : List (List Int)), q.length + l.length < 4294967296 → Fishref2numbersIn.loop2 l q = some (q ++ l.map numS)
 | [], q, _ => by simp [Fishref2numbersIn.loop2]
 | x :: r, q, h => by
  simp only [List.length_cons] at h
  rw [Fishref2numbersIn.loop2, apd_lt (by simp; omega), Option.bind_some, num2 r _ (by simp; omega)]
  simp [numS]
theorem num1 : ∀ (l : List ApiTrain) (q : List (List Int)), (∀ t ∈ l, trainForm t) → q.length + 17 * l.length < 4294967296 → Fishref2numbersIn.loop1 l q = some (q ++ l.flatMap numT)
 | [], q, _, _ => by simp [Fishref2numbersIn.loop1]
 | t :: r, q, ht, h => by
  simp only [List.length_cons] at h
  obtain ⟨t1, t2, t3, t4⟩ := ht t (List.mem_cons_self ..)
  rw [Fishref2numbersIn.loop1, apd_lt (by simp; omega), Option.bind_some, num2 _ _ (by simp; omega), Option.bind_some, apd_lt (by simp; omega), Option.bind_some,
   num1 r _ (fun t h => ht t (List.mem_cons_of_mem _ h)) (by simp; omega)]
  simp [numT]
theorem numT_len {t : ApiTrain} (h : trainForm t) : (numT t).length ≤ 16 := by
 obtain ⟨t1, t2, t3, t4⟩ := h
 simp [numT]; omega
theorem num_all {d : ApiDay} (h : dayForm d) : Fishref2numbersIn d = some (d.Trains.flatMap numT ++ d.Turns) := by
 obtain ⟨h1, h2, h3, h4⟩ := h
 have hl : ∀ l : List ApiTrain, (∀ t ∈ l, trainForm t) → (l.flatMap numT).length ≤ 16 * l.length := by
  intro l
  induction l with
  | nil => intro _; simp
  | cons t r ih =>
   intro ht
   have := numT_len (ht t (List.mem_cons_self ..))
   have := ih fun t h => ht t (List.mem_cons_of_mem _ h)
   simp only [List.flatMap_cons, List.length_append, List.length_cons]; omega
 have := hl _ h3
 rw [Fishref2numbersIn, num1 _ _ h3 (by simp; omega), Option.bind_some, List.nil_append, apd_lt (by omega)]
 rfl
theorem num6 : ∀ l : List Int, Fishref2TextFault.loop6 l = if l.all wi then .next () else .ret 2
 | [] => rfl
 | x :: r => by
  rw [Fishref2TextFault.loop6, num6 r]
  show (if (!wi x) = true then _ else _) = _
  cases h : wi x <;> simp [h]
theorem num5 (L : List (List Int)) : ∀ (r : List (List Int)) (k : Nat), L.drop k = r → Fishref2TextFault.loop5 L r.length k = some (if r.all (·.all wi) then .next () else .ret 2)
 | [], k, _ => rfl
 | x :: r, k, hd => by
  obtain ⟨d1, d2, d3⟩ := drop_cons hd
  rw [List.length_cons, Fishref2TextFault.loop5, gx_nat, d2, Option.bind_some, bnd_eq, num6]
  cases h : x.all wi with
  | true => simp [h, num5 L r (k + 1) d3]
  | false => simp [h]
theorem flag1 : ∀ (l : List Int) (b : Bool), PlanText_1_v1.loop1 l b = (b && l.all wi)
 | [], b => by simp [PlanText_1_v1.loop1]
 | x :: r, b => by
  rw [PlanText_1_v1.loop1, bnd_eq, flag1 r]
  show ((if b = true then wi x else false) && r.all wi) = _
  cases b <;> simp
theorem sent1 : ∀ (l : List Int) (q : ByteArray), inL inI l → q.size + 22 * l.length < 4294967296 → ∃ z, Plansentence.loop1 l q = some z ∧ z.size ≤ q.size + 22 * l.length
 | [], q, _, _ => ⟨q, rfl, by simp⟩
 | x :: r, q, hi, h => by
  simp only [List.length_cons] at h
  have hx := hi x (List.mem_cons_self ..)
  have hs := tx_size hx
  have s32 : (str [32]).size = 1 := rfl
  have e1 : (str [32] ++ tx x).size = 1 + (tx x).size := by rw [ByteArray.size_append, s32]
  have e4 : (q ++ (str [32] ++ tx x)).size = q.size + (1 + (tx x).size) := by rw [ByteArray.size_append, e1]
  obtain ⟨z, h1, h2⟩ := sent1 r (q ++ (str [32] ++ tx x)) (fun y h => hi y (List.mem_cons_of_mem _ h)) (by omega)
  refine ⟨z, ?_, by simp only [List.length_cons]; omega⟩
  rw [Plansentence.loop1, itoa_tx hx, Option.bind_some, scat_in (by omega), Option.bind_some, scat_in (by omega), Option.bind_some]
  exact h1
theorem sent {l : List Int} {w : ByteArray} (hi : inL inI l) (h : w.size + 22 * l.length < 4294967295) : ∃ z, Plansentence w l = some z ∧ 0 < z.size ∧ z.size ≤ w.size + 22 * l.length + 1 := by
 obtain ⟨z, h1, h2⟩ := sent1 l w hi (by omega)
 have s10 : (str [10]).size = 1 := rfl
 have e : (z ++ str [10]).size = z.size + 1 := by rw [ByteArray.size_append, s10]
 exact ⟨z ++ str [10], by rw [Plansentence, h1, Option.bind_some, scat_in (by omega)]; rfl, by omega, by omega⟩
theorem wr {l : List Int} {w y : ByteArray} {b : Bool} (hi : inL inI l) (hw : w.size ≤ 5) (h : y.size + (22 * l.length + 6) < 4294967295) :
  ∃ z, PlanText_1_v1 w l b y = some (b && l.all wi, z) ∧ z.size ≤ y.size + (22 * l.length + 6) := by
 obtain ⟨z, h1, h2, h3⟩ := sent (w := w) hi (by omega)
 have e : (y ++ z).size = y.size + z.size := ByteArray.size_append
 exact ⟨y ++ z, by rw [PlanText_1_v1, flag1, bnd_eq, h1, Option.bind_some, sbw_in h2 (by omega)]; rfl, by omega⟩
theorem txt2 : ∀ (l : List ApiStop) (y : ByteArray) (b : Bool), inL InApiStop l → y.size + 94 * l.length < 4294967000 →
  ∃ z, PlanText.loop2 l y b = some (z, b && (l.map numS).all (·.all wi)) ∧ z.size ≤ y.size + 94 * l.length
 | [], y, b, _, _ => ⟨y, by simp [PlanText.loop2], by simp⟩
 | x :: r, y, b, hi, h => by
  simp only [List.length_cons] at h
  have hx := hi x (List.mem_cons_self ..)
  obtain ⟨z, h1, h2⟩ := wr (l := numS x) (w := str [115, 116, 111, 112]) (y := y) (b := b) (by
   intro v hv
   simp only [numS, List.mem_cons, List.not_mem_nil, or_false] at hv
   rcases hv with rfl | rfl | rfl | rfl
   ·exact hx.1
   ·exact hx.2.1
   ·exact hx.2.2.1
   ·exact hx.2.2.2) (by decide) (by simp [numS]; omega)
  simp only [numS, List.length_cons, List.length_nil] at h2
  obtain ⟨z2, h3, h4⟩ := txt2 r z (b && (numS x).all wi) (fun y h => hi y (List.mem_cons_of_mem _ h)) (by omega)
  refine ⟨z2, ?_, by simp only [List.length_cons]; omega⟩
  rw [PlanText.loop2]
  rw [show [x.Station, x.Track, x.Arr, x.Dep] = numS x from rfl, h1, Option.bind_some]
  dsimp only
  rw [h3, List.map_cons, List.all_cons, Bool.and_assoc]
theorem txt3 (w : ByteArray) (hw : w.size ≤ 5) (F : List (List Int) → ByteArray → Bool → Option (ByteArray × Bool)) (hn : ∀ y b, F [] y b = some (y, b))
  (hc : ∀ x r y b, F (x :: r) y b = (PlanText_1_v1 w x b y).bind fun q => F r q.2 q.1) (m : Nat) (hm : m ≤ 100) : ∀ (l : List (List Int)) (y : ByteArray) (b : Bool), inL (inL inI) l → (∀ g ∈ l, g.length ≤ m) → y.size + (22 * m + 6) * l.length < 4294960000 →
  ∃ z, F l y b = some (z, b && l.all (·.all wi)) ∧ z.size ≤ y.size + (22 * m + 6) * l.length
 | [], y, b, _, _, _ => ⟨y, by simp [hn], by simp⟩
 | x :: r, y, b, hi, hl, h => by
  simp only [List.length_cons, Nat.mul_add, Nat.mul_one] at h
  have hx := hi x (List.mem_cons_self ..)
  have hxl := hl x (List.mem_cons_self ..)
  obtain ⟨z, h1, h2⟩ := wr (l := x) (w := w) (y := y) (b := b) hx hw (by omega)
  obtain ⟨z2, h3, h4⟩ := txt3 w hw F hn hc m hm r z (b && x.all wi) (fun y h => hi y (List.mem_cons_of_mem _ h)) (fun g h => hl g (List.mem_cons_of_mem _ h)) (by omega)
  refine ⟨z2, ?_, by simp only [List.length_cons, Nat.mul_add, Nat.mul_one]; omega⟩
  rw [hc, h1, Option.bind_some]
  dsimp only
  rw [h3, List.all_cons, Bool.and_assoc]
theorem txt1 : ∀ (l : List ApiTrain) (y : ByteArray) (b : Bool), inL InApiTrain l → (∀ t ∈ l, trainForm t) → y.size + 1700 * l.length < 4294900000 →
  ∃ z, PlanText.loop1 l y b = some (z, b && (l.flatMap numT).all (·.all wi)) ∧ z.size ≤ y.size + 1700 * l.length
 | [], y, b, _, _, _ => ⟨y, by simp [PlanText.loop1], by simp⟩
 | t :: r, y, b, hi, hf, h => by
  simp only [List.length_cons] at h
  obtain ⟨i1, i2, i3, i4⟩ := hi t (List.mem_cons_self ..)
  obtain ⟨t1, t2, t3, t4⟩ := hf t (List.mem_cons_self ..)
  obtain ⟨z, h1, h2⟩ := wr (l := [t.No, t.Stock]) (w := str [116, 114, 97, 105, 110]) (y := y) (b := b) (by
   intro v hv
   simp only [List.mem_cons, List.not_mem_nil, or_false] at hv
   rcases hv with rfl | rfl
   ·exact i1
   ·exact i2) (by decide) (by simp; omega)
  simp only [List.length_cons, List.length_nil] at h2
  obtain ⟨z2, h3, h4⟩ := txt2 t.Stops z (b && [t.No, t.Stock].all wi) i3 (by omega)
  obtain ⟨z3, h5, h6⟩ := txt3 (str [108, 101, 103]) (by decide) PlanText.loop3 (fun _ _ => rfl) (fun _ _ _ _ => rfl) 4 (by omega) t.Legs z2 ((b && [t.No, t.Stock].all wi) && (t.Stops.map numS).all (·.all wi)) i4 t4 (by omega)
  obtain ⟨z4, h7, h8⟩ := txt1 r z3 (((b && [t.No, t.Stock].all wi) && (t.Stops.map numS).all (·.all wi)) && t.Legs.all (·.all wi)) (fun y h => hi y (List.mem_cons_of_mem _ h)) (fun y h => hf y (List.mem_cons_of_mem _ h)) (by omega)
  refine ⟨z4, ?_, by simp only [List.length_cons]; omega⟩
  rw [PlanText.loop1, h1, Option.bind_some]
  dsimp only
  rw [h3, Option.bind_some]
  dsimp only
  rw [h5, Option.bind_some]
  dsimp only
  rw [h7]
  simp only [List.flatMap_cons, numT, List.cons_append, List.all_cons, List.all_append, Bool.and_assoc, List.all_nil]
theorem text_ok {d : ApiDay} (hi : InApiDay d) : ∃ e b, Fishref2TextFault d = some e ∧ PlanText d = some (b, e) ∧ (e = 0 → dayForm d) := by
 rcases form_out d with h | ⟨h, k⟩
 ·refine ⟨Planform d, str [], ?_, ?_, fun e => absurd e h⟩
  ·revert h
   rw [Fishref2TextFault, Planform]
   simp only [form1, form4, bnd_eq]
   cases (if decide (((d.Trains).length : Int) > 12) = true then true else decide (((d.Turns).length : Int) > 8)) with
   | true => intro _; rfl
   | false =>
    simp only [Bool.false_eq_true, if_false]
    cases Planform.loop1 d.Trains with
    | ret r => intro _; rfl
    | next u =>
     dsimp only
     cases Planform.loop4 d.Turns with
     | ret r => intro _; rfl
     | next u => intro h; exact absurd rfl h
  ·rw [PlanText, if_pos (by simpa using h)]
 ·obtain ⟨k1, k2, k3, k4⟩ := k
  have hnum := num_all ⟨k1, k2, k3, k4⟩
  obtain ⟨z, h1, h2⟩ := txt1 d.Trains ByteArray.empty true hi.1 k3 (by simp; omega)
  have h2' : z.size ≤ 1700 * d.Trains.length := by simpa using h2
  obtain ⟨z2, h3, h4⟩ := txt3 (str [116, 117, 114, 110]) (by decide) PlanText.loop4 (fun _ _ => rfl) (fun _ _ _ _ => rfl) 12 (by omega) d.Turns z (true && (d.Trains.flatMap numT).all (·.all wi)) hi.2 k4 (by omega)
  have hT : Fishref2TextFault d = some (if (d.Trains.flatMap numT ++ d.Turns).all (·.all wi) then 0 else 2) := by
   have h' := h
   rw [Planform] at h'
   simp only [bnd_eq] at h'
   rw [Fishref2TextFault]
   simp only [form1, form4, bnd_eq]
   cases hc : (if decide (((d.Trains).length : Int) > 12) = true then true else decide (((d.Turns).length : Int) > 8)) with
   | true => rw [hc] at h'; cases h'
   | false =>
    rw [hc] at h'
    simp only [Bool.false_eq_true, if_false] at h' ⊢
    cases hA : Planform.loop1 d.Trains with
    | ret r =>
     rw [hA] at h'
     rcases form1_out d.Trains with ⟨e, he, hh⟩ | ⟨hh, _⟩
     ·rw [hA] at hh; injection hh with hh; dsimp only at h'; rw [hh] at h'; exact absurd h' he
     ·rw [hA] at hh; cases hh
    | next u =>
     rw [hA] at h'
     dsimp only at h' ⊢
     cases hB : Planform.loop4 d.Turns with
     | ret r =>
      rw [hB] at h'
      rcases form4_out d.Turns with ⟨e, he, hh⟩ | ⟨hh, _⟩
      ·rw [hB] at hh; injection hh with hh; dsimp only at h'; rw [hh] at h'; exact absurd h' he
      ·rw [hB] at hh; cases hh
     | next u =>
      dsimp only
      rw [hnum, Option.bind_some, num5 _ _ 0 (List.drop_zero), Option.bind_some]
      cases (d.Trains.flatMap numT ++ d.Turns).all (·.all wi) <;> rfl
  refine ⟨_, if (d.Trains.flatMap numT ++ d.Turns).all (·.all wi) then z2 else str [], hT, ?_, fun _ => ⟨k1, k2, k3, k4⟩⟩
  rw [PlanText, if_neg (by simp [h]), h1, Option.bind_some]
  dsimp only
  rw [h3, Option.bind_some]
  dsimp only
  rw [List.all_append]
  cases hA : (d.Trains.flatMap numT).all (·.all wi) <;> cases hB : d.Turns.all (·.all wi) <;> simp [hA, hB]
theorem chk2 (t : ApiTrain) : ∀ (l : List ApiStop) (k : Nat), Fishref2GuideFault.loop3 t l k = GuideCheck.loop2 t l k
 | [], _ => rfl
 | x :: r, k => by
  simp only [Fishref2GuideFault.loop3, GuideCheck.loop2, chk2 t r]
  rfl
def stopsOk (l : List ApiStop) : Prop := (∀ x ∈ l, 0 ≤ x.Station ∧ x.Station ≤ 11 ∧ 0 ≤ x.Arr ∧ x.Arr ≤ 28800 ∧ 0 ≤ x.Dep ∧ x.Dep ≤ 28800 ∧ x.Arr ≤ x.Dep) ∧ ∀ k x y, l[k]? = some x → l[k + 1]? = some y → x.Dep < y.Arr
theorem within_iff (x a b : Int) : Guidewithin x a b = true ↔ a ≤ x ∧ x ≤ b := by
 unfold Guidewithin bnd
 by_cases h : x ≥ a <;> simp [h] <;> omega
theorem chk2_out (t : ApiTrain) (hl : t.Stops.length ≤ 9223372036854775807) : ∀ (r : List ApiStop) (k : Nat), t.Stops.drop k = r →
  (∃ e, e ≠ 0 ∧ GuideCheck.loop2 t r k = some (.ret e)) ∨ (GuideCheck.loop2 t r k = some (.next ()) ∧ (∀ x ∈ r, 0 ≤ x.Station ∧ x.Station ≤ 11 ∧ 0 ≤ x.Arr ∧ x.Arr ≤ 28800 ∧ 0 ≤ x.Dep ∧ x.Dep ≤ 28800 ∧ x.Arr ≤ x.Dep) ∧ ∀ j x y, k ≤ j + 1 → t.Stops[j]? = some x → t.Stops[j + 1]? = some y → x.Dep < y.Arr)
 | [], k, hd => .inr ⟨rfl, by simp, fun j x y hj hx hy => by
   have := drop_nil hd
   have := (List.getElem?_eq_some_iff.1 hy).1
   omega⟩
 | x :: r, k, hd => by
  obtain ⟨d1, d2, d3⟩ := drop_cons hd
  rw [GuideCheck.loop2, bnd_eq]
  cases c1 : Guidewithin x.Station 0 11 with
  | false => exact .inl ⟨2, by decide, by simp⟩
  | true =>
   cases c2 : Guidewithin x.Arr 0 28800 with
   | false => exact .inl ⟨2, by decide, by simp⟩
   | true =>
    cases c3 : Guidewithin x.Dep 0 28800 with
    | false => exact .inl ⟨2, by decide, by simp⟩
    | true =>
     have w1 := (within_iff _ _ _).1 c1
     have w2 := (within_iff _ _ _).1 c2
     have w3 := (within_iff _ _ _).1 c3
     simp only [Bool.not_true, Bool.false_eq_true, if_false]
     by_cases c4 : x.Dep < x.Arr
     ·exact .inl ⟨5, by decide, by simp [c4]⟩
     ·simp only [decide_eq_false c4, Bool.false_eq_true, if_false]
      rcases Nat.eq_zero_or_pos k with c5 | c5
      ·subst c5
       simp only [Int.ofNat_eq_natCast, Int.natCast_zero, gt_iff_lt, Int.lt_irrefl, decide_false, Bool.false_eq_true, if_false, Option.bind_some]
       rcases chk2_out t hl r 1 d3 with h | ⟨h, k1, k2⟩
       ·exact .inl h
       ·refine .inr ⟨h, ?_, fun j a b _ ha hb => k2 j a b (by omega) ha hb⟩
        intro y hy
        rcases List.mem_cons.1 hy with rfl | hy
        ·omega
        ·exact k1 y hy
      ·rw [if_pos (by simpa using c5), gx_prev c5 (by omega) hl, Option.bind_some, Option.bind_some]
       by_cases c6 : x.Arr ≤ (t.Stops[k - 1]'(by omega)).Dep
       ·exact .inl ⟨5, by decide, by simp [c6]⟩
       ·simp only [decide_eq_false c6, Bool.false_eq_true, if_false]
        rcases chk2_out t hl r (k + 1) d3 with h | ⟨h, k1, k2⟩
        ·exact .inl h
        ·refine .inr ⟨h, ?_, fun j a b hj ha hb => ?_⟩
         ·intro y hy
          rcases List.mem_cons.1 hy with rfl | hy
          ·omega
          ·exact k1 y hy
         ·by_cases e : j + 1 = k
          ·subst e
           rw [d2] at hb
           injection hb with hb
           subst hb
           have : t.Stops[j + 1 - 1]'(by omega) = a := by
            have := List.getElem?_eq_some_iff.1 ha
            obtain ⟨_, h2⟩ := this
            simpa using h2
           rw [this] at c6
           omega
          ·exact k2 j a b (by omega) ha hb
theorem chkno (t : ApiTrain) : ∀ l : List ApiTrain, Fishref2GuideFault.loop2 t l = if l.any (·.No == t.No) then .ret 6 else .next ()
 | [] => rfl
 | x :: r => by
  rw [Fishref2GuideFault.loop2, chkno t r]
  cases h : (x.No == t.No) <;> simp [h]
structure DayOk (d : ApiDay) : Prop where
 form : dayForm d
 two : ∀ t ∈ d.Trains, 2 ≤ t.Stops.length
 stops : ∀ t ∈ d.Trains, stopsOk t.Stops
 nos : ∀ t ∈ d.Trains, 1 ≤ t.No ∧ t.No ≤ 9999
 apart : ∀ (i j : Nat) (s t : ApiTrain), i < j → d.Trains[i]? = some s → d.Trains[j]? = some t → s.No ≠ t.No
theorem chk1 (d : ApiDay) (hl : d.Trains.length ≤ 9223372036854775807) (hs : ∀ t ∈ d.Trains, t.Stops.length ≤ 9223372036854775807) : ∀ (r : List ApiTrain) (k : Nat) (q : List (Int × Bool)), d.Trains.drop k = r →
  (∀ n, (mget q n).getD false = (d.Trains.take k).any (·.No == n)) →
  (∃ e, e ≠ 0 ∧ Fishref2GuideFault.loop1 d r k = some (.ret e) ∧ GuideCheck.loop1 r q = some (.ret e)) ∨
  (Fishref2GuideFault.loop1 d r k = some (.next ()) ∧ (∃ q', GuideCheck.loop1 r q = some (.next q')) ∧ (∀ t ∈ r, 2 ≤ t.Stops.length ∧ stopsOk t.Stops ∧ 1 ≤ t.No ∧ t.No ≤ 9999) ∧ ∀ i j s t, i < j → k ≤ j → d.Trains[i]? = some s → d.Trains[j]? = some t → s.No ≠ t.No)
 | [], k, q, hd, _ => .inr ⟨rfl, ⟨q, rfl⟩, by simp, fun i j s t _ hj _ ht => by
   have := drop_nil hd
   have := (List.getElem?_eq_some_iff.1 ht).1
   omega⟩
 | t :: r, k, q, hd, hq => by
  obtain ⟨d1, d2, d3⟩ := drop_cons hd
  have htm : t ∈ d.Trains := List.mem_of_getElem? d2
  rw [Fishref2GuideFault.loop1, GuideCheck.loop1, cutl_in (by omega) (by omega) (by omega), Option.bind_some, bnd_eq, chkno, hq]
  rw [show Fishref2within t.No 1 9999 = Guidewithin t.No 1 9999 from rfl]
  cases c1 : Guidewithin t.No 1 9999 with
  | false => exact .inl ⟨2, by decide, by simp, by simp⟩
  | true =>
   have w1 := (within_iff _ _ _).1 c1
   simp only [Bool.not_true, Bool.false_eq_true, if_false]
   have e0 : List.drop (Int.toNat 0) (List.take (((k : Nat) : Int).toNat) d.Trains) = d.Trains.take k := by simp
   rw [e0]
   cases c2 : (d.Trains.take k).any (·.No == t.No) with
   | true => exact .inl ⟨6, by decide, by simp, by simp⟩
   | false =>
    simp only [Bool.false_eq_true, if_false]
    by_cases c3 : ((t.Stops.length : Nat) : Int) < 2
    ·exact .inl ⟨1, by decide, by simp [c3], by simp [c3]⟩
    ·simp only [decide_eq_false c3, Bool.false_eq_true, if_false, chk2]
     rcases chk2_out t (hs t htm) t.Stops 0 rfl with ⟨e, he, h⟩ | ⟨h, k1, k2⟩
     ·exact .inl ⟨e, he, by rw [h]; rfl, by rw [h]; rfl⟩
     ·rw [h, Option.bind_some, Option.bind_some]
      dsimp only
      have hq2 : ∀ n, (mget (mput q t.No true) n).getD false = (d.Trains.take (k + 1)).any (·.No == n) := by
       intro n
       rw [mget_put, List.take_add_one, d2]
       simp only [Option.toList_some, List.any_append, List.any_cons, List.any_nil, Bool.or_false]
       by_cases c : n = t.No
       ·subst c; simp
       ·have : (t.No == n) = false := by simpa using fun h => c h.symm
        rw [if_neg c, this, Bool.or_false]; exact hq n
      rcases chk1 d hl hs r (k + 1) (mput q t.No true) d3 hq2 with ⟨e, he, h1, h2⟩ | ⟨h1, ⟨q', h2⟩, h3, h4⟩
      ·exact .inl ⟨e, he, h1, h2⟩
      ·refine .inr ⟨h1, ⟨q', h2⟩, ?_, ?_⟩
       ·intro u hu
        rcases List.mem_cons.1 hu with rfl | hu
        ·exact ⟨by omega, ⟨k1, fun j x y hx hy => k2 j x y (by omega) hx hy⟩, w1.1, w1.2⟩
        ·exact h3 u hu
       ·intro i j s u hij hj hi hu
        by_cases e : j = k
        ·subst e
         rw [d2] at hu
         injection hu with hu
         subst hu
         intro e
         have : (d.Trains.take j).any (·.No == t.No) = true := by
          rw [List.any_eq_true]
          refine ⟨s, ?_, by simpa using e⟩
          apply List.mem_of_getElem? (i := i)
          rw [List.getElem?_take, if_pos hij]; exact hi
         rw [this] at c2; cases c2
        ·exact h4 i j s u hij (by omega) hi hu
theorem check_ok {d : ApiDay} (hi : InApiDay d) : ∃ e, Fishref2GuideFault d = some e ∧ GuideCheck d = some e ∧ (e = 0 → DayOk d) := by
 obtain ⟨e, b, h1, h2, h3⟩ := text_ok hi
 rw [Fishref2GuideFault, GuideCheck, h1, h2, Option.bind_some, Option.bind_some]
 by_cases c : e = 0
 ·subst c
  have hf := h3 rfl
  simp only [bne_self_eq_false, Bool.false_eq_true, if_false]
  rcases chk1 d (by have := hf.1; omega) (fun t ht => by have := (hf.2.2.1 t ht).2.1; omega) d.Trains 0 [] rfl (by simp [mget]) with ⟨e, he, k1, k2⟩ | ⟨k1, ⟨q', k2⟩, k3, k4⟩
  ·exact ⟨e, by rw [k1]; rfl, by rw [k2]; rfl, fun h => absurd h he⟩
  ·refine ⟨0, by rw [k1]; rfl, by rw [k2]; rfl, fun _ => ⟨hf, fun t ht => (k3 t ht).1, fun t ht => (k3 t ht).2.1, fun t ht => (k3 t ht).2.2, fun i j s t hij hs ht => k4 i j s t hij (by omega) hs ht⟩⟩
 ·have : (e != 0) = true := by simpa using c
  simp only [this, if_true]
  exact ⟨e, rfl, rfl, fun h => absurd h c⟩
theorem rngO_same {α σ : Type} {f : α → σ → Orc → Option σ} {st : σ} : ∀ (n : Nat) (left : List α) (o : Orc), (∀ x ∈ left, ∀ o, f x st o = some st) → rngO f n left st o = some st
 | 0, _, _, _ => rfl
 | n + 1, left, o, h => by
  rw [rngO]
  cases k : left[o [] % left.length]? with
  | none => rfl
  | some x =>
   simp only
   rw [h x (List.mem_of_getElem? k), Option.bind_some]
   exact rngO_same n _ _ (fun y hy => h y (List.mem_of_mem_eraseIdx hy))
theorem rngO_single {α σ : Type} {f : α → σ → Orc → Option σ} {x : α} {st st' : σ} (h : ∀ o, f x st o = some st') (n : Nat) (o : Orc) : rngO f (n + 1) [x] st o = some st' := by
 rw [rngO]
 simp only [List.length_singleton, Nat.mod_one, List.getElem?_cons_zero, h, Option.bind_some, List.eraseIdx_cons_zero]
 cases n <;> simp [rngO]
def smallNet : GuideNet := ⟨Fishlaw2small, 40⟩
abbrev smallE : List (List (GuidePlace × Bool)) := [[(⟨0, 1⟩, true), (⟨0, 2⟩, true)], [(⟨1, 1⟩, true)], [], []]
abbrev smallP : GuidePoint := ⟨100, 400, 2⟩
theorem small_ends : GuideNetends smallNet [⟨0, 0, 1⟩, ⟨0, 0, 2⟩] = some smallE := by kernel_rfl
theorem small4_0 (o : Orc) : GuideNetpoints.loop4 smallNet 3 100 0 [(⟨0, 1⟩, true), (⟨0, 2⟩, true)] [] [] o = some ([], []) := by
 unfold GuideNetpoints.loop4
 refine rngO_same _ _ _ ?_
 intro x hx o
 simp only [List.mem_cons, List.not_mem_nil, or_false] at hx
 rcases hx with rfl | rfl
 ·kernel_rfl
 ·kernel_rfl
theorem small4_1 (o : Orc) : GuideNetpoints.loop4 smallNet 3 100 1 [(⟨1, 1⟩, true)] [] [] o = some ([smallP], [(smallP, true)]) := by
 unfold GuideNetpoints.loop4
 exact rngO_single (fun o => by kernel_rfl) _ _
theorem small3 (o : Orc) : GuideNetpoints.loop3 smallNet 3 100 smallE 4 [] [] o = some ([smallP], [(smallP, true)]) := by
 have s0 : ∀ o, GuideNetpoints.loop3.step smallNet 3 100 smallE 0 [] [] o = some ([], []) := by
  intro o
  show Option.bind (GuideNetpoints.loop4 smallNet 3 100 0 [(⟨0, 1⟩, true), (⟨0, 2⟩, true)] [] [] (o.sub 0)) _ = _
  rw [small4_0]; rfl
 have s1 : ∀ o, GuideNetpoints.loop3.step smallNet 3 100 smallE 1 [] [] o = some ([smallP], [(smallP, true)]) := by
  intro o
  show Option.bind (GuideNetpoints.loop4 smallNet 3 100 1 [(⟨1, 1⟩, true)] [] [] (o.sub 0)) _ = _
  rw [small4_1]; rfl
 have s2 : ∀ o, GuideNetpoints.loop3.step smallNet 3 100 smallE 2 [smallP] [(smallP, true)] o = some ([smallP], [(smallP, true)]) := by intro o; rfl
 have s3 : ∀ o, GuideNetpoints.loop3.step smallNet 3 100 smallE 3 [smallP] [(smallP, true)] o = some ([smallP], [(smallP, true)]) := by intro o; rfl
 unfold GuideNetpoints.loop3
 simp only [cntO, s0, s1, s2, s3, Option.bind_some, Nat.zero_add, Nat.reduceAdd]
theorem small_points : GuideNetpoints smallNet 0 3 = some [smallP] := by
 refine same_of fun o => ?_
 have h1 : GuideNetpoints.loop1 smallNet (GuideNetrides smallNet 0 0 (-1)) [] = some [(100, [⟨0, 0, 1⟩, ⟨0, 0, 2⟩])] := by kernel_rfl
 have h2 : ∀ o, GuideNetpoints.loop2 smallNet 3 [(100, [⟨0, 0, 1⟩, ⟨0, 0, 2⟩])] [] [] o = some ([smallP], [(smallP, true)]) := by
  intro o
  unfold GuideNetpoints.loop2
  refine rngO_single (fun o => ?_) _ _
  dsimp only
  unfold GuideNetpoints.loop2.step
  rw [small_ends, Option.bind_some]
  show Option.bind (GuideNetpoints.loop3 smallNet 3 100 smallE 4 [] [] (o.sub 0)) _ = _
  rw [small3]; rfl
 have h3 : srtF GuidecomparePoints [smallP] = some [smallP] := by kernel_rfl
 unfold GuideNetpoints.o
 rw [bnd_eq, h1, Option.bind_some]
 show Option.bind (GuideNetpoints.loop2 smallNet 3 [(100, [⟨0, 0, 1⟩, ⟨0, 0, 2⟩])] [] [] (o.sub 0)) _ = _
 rw [h2, Option.bind_some]
 dsimp only
 rw [h3]; rfl
theorem small_in : InApiDay Fishlaw2small := by
 simp [InApiDay, inL, InApiTrain, InApiStop, inI, Fishlaw2small, Fishlaw2small_1, bnd]
theorem small_check : GuideCheck Fishlaw2small = some 0 := by
 obtain ⟨e, h1, h2, _⟩ := check_ok small_in
 have h3 : Fishref2GuideFault Fishlaw2small = some 0 := by kernel_rfl
 rw [h1] at h3
 injection h3 with h3
 rw [h2, h3]
theorem small_asked : Guidecheck Fishlaw2small 40 0 3 [0] = some 0 := by
 unfold Guidecheck GuidecheckLeast
 rw [small_check]
 kernel_rfl
theorem small_best (n : Nat) : ((SlicesDeleteFuncLguidePoint_v1 (n + 60) [smallP] 0).bind fun q64 => (if (((q64.length : Nat) : Int) == 0) then some ((GuideJourney.mk []), false) else ((SlicesMinFuncLguidePoint_v1 (n + 60) q64).bind fun q76 => ((GuideNetleastOf (n + 60) smallNet 0 3 q76).bind fun q83 => some (q83, true))))) = some (⟨[⟨0, 0, 1⟩, ⟨1, 0, 1⟩]⟩, true) := by kernel_rfl
theorem guides_true (n : Nat) : Fishlaw2guides (n + 60) = some true := by
 have h1 : GuideNetearliest (n + 60) smallNet 0 0 3 = some (⟨[⟨0, 0, 1⟩, ⟨1, 0, 1⟩]⟩, true) := by
  rw [GuideNetearliest, small_points, Option.bind_some]
  exact small_best n
 have h2 : GuideEarliest (n + 60) Fishlaw2small 0 0 3 40 = some (⟨[⟨0, 0, 1⟩, ⟨1, 0, 1⟩]⟩, 0) := by
  rw [GuideEarliest, small_asked, Option.bind_some]
  show (((GuideNetearliest (n + 60) smallNet 0 0 3).bind _) : Option (GuideJourney × Int)) = _
  rw [h1]; rfl
 rw [Fishlaw2guides, bnd_eq, h2]
 rfl
section stable
theorem gx_mid {α : Type} {A T : List α} {x : α} {i : Int} (h : i = (A.length : Int)) : gx (A ++ x :: T) i = some x := by
 subst h; simp [gx]
theorem ix_mid {α : Type} {A T : List α} {x : α} {i : Int} (h : i = (A.length : Int)) : ix (A ++ x :: T) i = some () := by
 subst h; unfold ix; rw [if_pos]; simp; omega
theorem sx_mid {α : Type} {A T : List α} {x v : α} {i : Int} (h : i = (A.length : Int)) : sx (A ++ x :: T) i v = some (A ++ v :: T) := by
 subst h; unfold sx; rw [if_pos]
 ·simp
 ·simp; omega
def Lt (D : GuideRow → Int) (x y : GuideRow) : Prop := D x < D y
theorem Lt.trans {D : GuideRow → Int} {x y z : GuideRow} (h : Lt D x y) (k : Lt D y z) : Lt D x z := by unfold Lt at *; omega
theorem Lt.irr {D : GuideRow → Int} {x : GuideRow} (h : Lt D x x) : False := by unfold Lt at h; omega
theorem Lt.le {D : GuideRow → Int} {x y : GuideRow} (h : Lt D x y) : D x ≤ D y := by unfold Lt at h; omega
variable {D : GuideRow → Int} {V : GuideRow → Prop}
theorem ins2 (hC : ∀ x y, V x → V y → (GuideBoard_2 x y < 0 ↔ D x < D y)) : ∀ (n : Nat) (S A T : List GuideRow) (x : GuideRow), S.length < n → A.length + S.length < 1000000 → (∀ y ∈ S, V y) → V x → (∀ y ∈ S, D y ≠ D x) → S.Pairwise (Lt D) →
  ∃ j R, SlicesinsertionSortCmpFuncguiderow_v1.loop2 (A.length : Int) n ((A.length + S.length : Nat) : Int) (A ++ (S ++ x :: T)) = some (j, A ++ (R ++ T)) ∧ R.Perm (S ++ [x]) ∧ R.Pairwise (Lt D)
 | 0, S, _, _, _, hn, _, _, _, _, _ => absurd hn (by omega)
 | n + 1, S, A, T, x, hn, hb, hV, hx, hlt, hs => by
  rcases List.eq_nil_or_concat S with rfl | ⟨S', y, rfl⟩
  ·refine ⟨_, [x], by simp [SlicesinsertionSortCmpFuncguiderow_v1.loop2]; exact rfl, by simp, by simp⟩
  ·simp only [List.concat_eq_append] at *
   simp only [List.length_append, List.length_cons, List.length_nil] at hn hb
   have hc2 := hC x y hx (hV y (by simp))
   have hj : w64 (((A.length + (S' ++ [y]).length : Nat) : Int) - 1) = ((A.length + S'.length : Nat) : Int) := by
    rw [w64_id (by simp; omega)]; simp; omega
   have hg : decide (((A.length + (S' ++ [y]).length : Nat) : Int) > (A.length : Int)) = true := by simp; omega
   have e1 : gx (A ++ ((S' ++ [y]) ++ x :: T)) ((A.length + (S' ++ [y]).length : Nat) : Int) = some x := by
    rw [← List.append_assoc A]; exact gx_mid (by simp)
   have e2 : gx (A ++ ((S' ++ [y]) ++ x :: T)) ((A.length + S'.length : Nat) : Int) = some y := by
    rw [show A ++ ((S' ++ [y]) ++ x :: T) = (A ++ S') ++ y :: (x :: T) by simp]; exact gx_mid (by simp)
   rw [SlicesinsertionSortCmpFuncguiderow_v1.loop2]
   simp only [hg, if_true, hj, e1, e2, Option.bind_some]
   by_cases hlt2 : D x < D y
   ·have hd : decide (GuideBoard_2 x y < 0) = true := by simpa using hc2.2 hlt2
    have e3 : ix (A ++ ((S' ++ [y]) ++ x :: T)) ((A.length + (S' ++ [y]).length : Nat) : Int) = some () := by
     rw [← List.append_assoc A]; exact ix_mid (by simp)
    have e4 : sx (A ++ ((S' ++ [y]) ++ x :: T)) ((A.length + (S' ++ [y]).length : Nat) : Int) y = some ((A ++ S') ++ y :: (y :: T)) := by
     rw [← List.append_assoc A, sx_mid (by simp)]; simp
    have e5 : ix ((A ++ S') ++ y :: (y :: T)) ((A.length + S'.length : Nat) : Int) = some () := ix_mid (by simp)
    have e6 : sx ((A ++ S') ++ y :: (y :: T)) ((A.length + S'.length : Nat) : Int) x = some (A ++ (S' ++ x :: (y :: T))) := by
     rw [sx_mid (by simp)]; simp
    simp only [hd, if_true, e3, e4, e5, e6, Option.bind_some]
    have hs2 := List.pairwise_append.1 hs
    obtain ⟨j, R, r1, r2, r3⟩ := ins2 hC n S' A (y :: T) x (by omega) (by omega) (fun z hz => hV z (by simp [hz])) hx (fun z hz => hlt z (by simp [hz])) hs2.1
    refine ⟨j, R ++ [y], by rw [r1]; simp, ?_, ?_⟩
    ·exact (r2.append_right [y]).trans (by simpa using (List.Perm.swap y x []).append_left S')
    ·refine List.pairwise_append.2 ⟨r3, by simp, ?_⟩
     intro z hz w hw
     simp at hw; subst hw
     rcases List.mem_append.1 (r2.subset hz) with h | h
     ·exact hs2.2.2 z h w (by simp)
     ·simp at h; subst h; exact hlt2
   ·have hd : decide (GuideBoard_2 x y < 0) = false := by simpa using fun h => hlt2 (hc2.1 h)
    simp only [hd, Bool.false_eq_true, if_false]
    refine ⟨_, (S' ++ [y]) ++ [x], by simp; exact rfl, List.Perm.refl _, ?_⟩
    refine List.pairwise_append.2 ⟨hs, by simp, ?_⟩
    intro z hz w hw
    simp at hw; subst hw
    have hyx : Lt D y w := by
     have := hlt y (by simp)
     unfold Lt; omega
    rcases List.mem_append.1 hz with h | h
    ·exact ((List.pairwise_append.1 hs).2.2 z h y (by simp)).trans hyx
    ·simp at h; subst h; exact hyx
theorem ins1 (hC : ∀ x y, V x → V y → (GuideBoard_2 x y < 0 ↔ D x < D y)) (fu : Nat) : ∀ (U : List GuideRow) (n : Nat) (S A T : List GuideRow), U.length < n → S.length + U.length < fu → A.length + S.length + U.length < 1000000 → (∀ y ∈ S, V y) → (∀ y ∈ U, V y) → (∀ y ∈ S, ∀ u ∈ U, D y ≠ D u) → U.Pairwise (fun a b => D a ≠ D b) → S.Pairwise (Lt D) →
  ∃ j R, SlicesinsertionSortCmpFuncguiderow_v1.loop1 (A.length : Int) ((A.length + S.length + U.length : Nat) : Int) fu n ((A.length + S.length : Nat) : Int) (A ++ (S ++ (U ++ T))) = some (j, A ++ (R ++ T)) ∧ R.Perm (S ++ U) ∧ R.Pairwise (Lt D)
 | [], n, S, A, T, hn, _, _, _, _, _, _, hs => by
  obtain ⟨n, rfl⟩ : ∃ m, n = m + 1 := ⟨n - 1, by simp at hn; omega⟩
  exact ⟨_, S, by simp [SlicesinsertionSortCmpFuncguiderow_v1.loop1]; exact rfl, by simp, hs⟩
 | u :: U, n, S, A, T, hn, hf, hb, hV, hU, hlt, hu, hs => by
  obtain ⟨n, rfl⟩ : ∃ m, n = m + 1 := ⟨n - 1, by simp at hn; omega⟩
  simp only [List.length_cons] at hn hf hb
  obtain ⟨j, R, r1, r2, r3⟩ := ins2 hC fu S A (U ++ T) u (by omega) (by omega) hV (hU u (by simp)) (fun y hy => hlt y hy u (by simp)) hs
  have hl := r2.length_eq
  simp only [List.length_append, List.length_cons, List.length_nil] at hl
  rw [List.pairwise_cons] at hu
  have hmem : ∀ y ∈ R, y ∈ S ∨ y = u := by intro y hy; simpa using r2.subset hy
  obtain ⟨j', R', q1, q2, q3⟩ := ins1 hC fu U n R A T (by omega) (by omega) (by omega) (fun y hy => (hmem y hy).elim (hV y) (fun e => e ▸ hU u (by simp))) (fun y hy => hU y (by simp [hy]))
   (fun y hy v hv => (hmem y hy).elim (fun h => hlt y h v (by simp [hv])) (fun e => e ▸ hu.1 v hv)) hu.2 r3
  refine ⟨j', R', ?_, q2.trans (by simpa using r2.append_right U), q3⟩
  rw [SlicesinsertionSortCmpFuncguiderow_v1.loop1]
  have h1 : decide (((A.length + S.length : Nat) : Int) < ((A.length + S.length + (u :: U).length : Nat) : Int)) = true := by simp; omega
  have h2 : w64 (((A.length + S.length : Nat) : Int) + 1) = ((A.length + R.length : Nat) : Int) := by
   rw [w64_id (by omega)]; omega
  have h3 : ((A.length + S.length + (u :: U).length : Nat) : Int) = ((A.length + R.length + U.length : Nat) : Int) := by simp; omega
  simp only [h1, if_true]
  simp only [List.cons_append, r1, Option.bind_some, h2, h3]
  exact q1
theorem ins_ok (hC : ∀ x y, V x → V y → (GuideBoard_2 x y < 0 ↔ D x < D y)) {fu : Nat} {A X T : List GuideRow} (hf : X.length + 1 < fu) (hb : A.length + X.length < 1000000) (hV : ∀ y ∈ X, V y) (hu : X.Pairwise (fun a b => D a ≠ D b)) :
  ∃ R, SlicesinsertionSortCmpFuncguiderow_v1 fu (A ++ (X ++ T)) (A.length : Int) ((A.length + X.length : Nat) : Int) = some (A ++ (R ++ T)) ∧ R.Perm X ∧ R.Pairwise (Lt D) := by
 unfold SlicesinsertionSortCmpFuncguiderow_v1
 have h2 : w64 ((A.length : Int) + 1) = ((A.length + 1 : Nat) : Int) := by rw [w64_id (by omega)]; omega
 rw [h2]
 cases X with
 | nil =>
  obtain ⟨f, rfl⟩ : ∃ m, fu = m + 1 := ⟨fu - 1, by omega⟩
  refine ⟨[], ?_, by simp, by simp⟩
  rw [SlicesinsertionSortCmpFuncguiderow_v1.loop1]
  have h1 : decide (((A.length + 1 : Nat) : Int) < ((A.length + ([] : List GuideRow).length : Nat) : Int)) = false := by simp; omega
  simp only [h1, Bool.false_eq_true, if_false, Option.bind_some]
 | cons x X =>
  simp only [List.length_cons] at hf hb
  rw [List.pairwise_cons] at hu
  obtain ⟨j, R, r1, r2, r3⟩ := ins1 hC fu X fu [x] A T (by omega) (by simp; omega) (by simp; omega) (by simpa using hV x (by simp)) (fun y hy => hV y (by simp [hy])) (by simpa using hu.1) hu.2 (by simp)
  have h3 : ((A.length + (x :: X).length : Nat) : Int) = ((A.length + [x].length + X.length : Nat) : Int) := by simp; omega
  refine ⟨R, ?_, r2, r3⟩
  rw [h3]
  simp only [List.length_cons, List.length_nil, Nat.zero_add, List.cons_append, List.nil_append] at r1 ⊢
  rw [r1]; rfl
theorem swap1 : ∀ (X2 : List GuideRow) (n : Nat) (Y2 Y1 X1 A M T : List GuideRow), X2.length = Y2.length → X1.length = Y1.length → X2.length < n → A.length + Y1.length + X2.length + M.length + X1.length + Y2.length < 1000000 →
  ∃ j, SlicesswapRangeCmpFuncguiderow_v1.loop1 (A.length : Int) ((A.length + Y1.length + X2.length + M.length : Nat) : Int) ((Y1.length + X2.length : Nat) : Int) n (Y1.length : Int) (A ++ (Y1 ++ (X2 ++ (M ++ (X1 ++ (Y2 ++ T)))))) = some (j, A ++ ((Y1 ++ Y2) ++ (M ++ ((X1 ++ X2) ++ T))))
 | [], n, Y2, Y1, X1, A, M, T, h1, _, hn, _ => by
  obtain ⟨n, rfl⟩ : ∃ m, n = m + 1 := ⟨n - 1, by omega⟩
  obtain rfl : Y2 = [] := by simpa using h1.symm
  exact ⟨_, by simp [SlicesswapRangeCmpFuncguiderow_v1.loop1]; exact rfl⟩
 | x :: X2, n, Y2, Y1, X1, A, M, T, h1, h2, hn, hb => by
  obtain ⟨n, rfl⟩ : ∃ m, n = m + 1 := ⟨n - 1, by omega⟩
  cases Y2 with
  | nil => simp at h1
  | cons y Y2 =>
   simp only [List.length_cons] at h1 hn hb
   obtain ⟨j, hj⟩ := swap1 X2 n Y2 (Y1 ++ [y]) (X1 ++ [x]) A M T (by omega) (by simp; omega) (by omega) (by simp; omega)
   refine ⟨j, ?_⟩
   rw [SlicesswapRangeCmpFuncguiderow_v1.loop1]
   have g1 : decide ((Y1.length : Int) < ((Y1.length + (x :: X2).length : Nat) : Int)) = true := by simp; omega
   have g2 : w64 (((A.length + Y1.length + (x :: X2).length + M.length : Nat) : Int) + (Y1.length : Int)) = ((A ++ (Y1 ++ (x :: X2 ++ (M ++ X1)))).length : Int) := by
    rw [w64_id (by simp; omega)]; simp; omega
   have g3 : w64 ((A.length : Int) + (Y1.length : Int)) = ((A ++ Y1).length : Int) := by
    rw [w64_id (by omega)]; simp
   have g4 : w64 ((Y1.length : Int) + 1) = ((Y1 ++ [y]).length : Int) := by rw [w64_id (by omega)]; simp
   have d1 : A ++ (Y1 ++ (x :: X2 ++ (M ++ (X1 ++ (y :: Y2 ++ T))))) = (A ++ (Y1 ++ (x :: X2 ++ (M ++ X1)))) ++ y :: (Y2 ++ T) := by simp
   have d2 : A ++ (Y1 ++ (x :: X2 ++ (M ++ (X1 ++ (y :: Y2 ++ T))))) = (A ++ Y1) ++ x :: (X2 ++ (M ++ (X1 ++ (y :: Y2 ++ T)))) := by simp
   have e1 : gx (A ++ (Y1 ++ (x :: X2 ++ (M ++ (X1 ++ (y :: Y2 ++ T)))))) ((A ++ (Y1 ++ (x :: X2 ++ (M ++ X1)))).length : Int) = some y := by rw [d1]; exact gx_mid rfl
   have e2 : gx (A ++ (Y1 ++ (x :: X2 ++ (M ++ (X1 ++ (y :: Y2 ++ T)))))) ((A ++ Y1).length : Int) = some x := by rw [d2]; exact gx_mid rfl
   have e3 : ix (A ++ (Y1 ++ (x :: X2 ++ (M ++ (X1 ++ (y :: Y2 ++ T)))))) ((A ++ Y1).length : Int) = some () := by rw [d2]; exact ix_mid rfl
   have e4 : sx (A ++ (Y1 ++ (x :: X2 ++ (M ++ (X1 ++ (y :: Y2 ++ T)))))) ((A ++ Y1).length : Int) y = some ((A ++ (Y1 ++ (y :: X2 ++ (M ++ X1)))) ++ y :: (Y2 ++ T)) := by rw [d2, sx_mid rfl]; simp
   have g5 : (A ++ (Y1 ++ (x :: X2 ++ (M ++ X1)))).length = (A ++ (Y1 ++ (y :: X2 ++ (M ++ X1)))).length := by simp
   have e5 : ix ((A ++ (Y1 ++ (y :: X2 ++ (M ++ X1)))) ++ y :: (Y2 ++ T)) ((A ++ (Y1 ++ (x :: X2 ++ (M ++ X1)))).length : Int) = some () := ix_mid (by rw [g5])
   have e6 : sx ((A ++ (Y1 ++ (y :: X2 ++ (M ++ X1)))) ++ y :: (Y2 ++ T)) ((A ++ (Y1 ++ (x :: X2 ++ (M ++ X1)))).length : Int) x = some (A ++ ((Y1 ++ [y]) ++ (X2 ++ (M ++ ((X1 ++ [x]) ++ (Y2 ++ T)))))) := by rw [sx_mid (by rw [g5])]; simp
   simp only [g1, if_true, g2, g3, g4, e1, e2, e3, e4, e5, e6, Option.bind_some]
   have k1 : ((A.length + (Y1 ++ [y]).length + X2.length + M.length : Nat) : Int) = ((A.length + Y1.length + (x :: X2).length + M.length : Nat) : Int) := by simp; omega
   have k2 : (((Y1 ++ [y]).length + X2.length : Nat) : Int) = ((Y1.length + (x :: X2).length : Nat) : Int) := by simp; omega
   rw [k1, k2] at hj
   rw [hj]; simp
theorem swap_ok {fu : Nat} {A X M Y T : List GuideRow} {a b n : Int} (h : X.length = Y.length) (hf : X.length < fu) (hb : A.length + X.length + M.length + Y.length < 1000000) (ha : a = (A.length : Int)) (hb2 : b = ((A.length + X.length + M.length : Nat) : Int)) (hn : n = (X.length : Int)) :
  SlicesswapRangeCmpFuncguiderow_v1 fu (A ++ (X ++ (M ++ (Y ++ T)))) a b n = some (A ++ (Y ++ (M ++ (X ++ T)))) := by
 obtain ⟨j, hj⟩ := swap1 X fu Y [] [] A M T h rfl hf (by simpa using hb)
 unfold SlicesswapRangeCmpFuncguiderow_v1
 simp only [List.length_nil, Nat.zero_add, List.nil_append, Nat.add_zero] at hj
 subst ha hb2 hn
 have : (0 : Int) = ((0 : Nat) : Int) := rfl
 rw [this, hj]; rfl
theorem rot1 (fu : Nat) : ∀ (n : Nat) (X Y A T : List GuideRow), X.length + Y.length < n → X ≠ [] → Y ≠ [] → X.length + Y.length < fu → A.length + X.length + Y.length < 1000000 →
  ∃ (X' Y' A' T' : List GuideRow), SlicesrotateCmpFuncguiderow_v1.loop1 ((A.length + X.length : Nat) : Int) fu n (X.length : Int) (Y.length : Int) (A ++ (X ++ (Y ++ T))) = some ((X'.length : Int), (X'.length : Int), A' ++ (X' ++ (Y' ++ T')))
   ∧ Y'.length = X'.length ∧ A'.length + X'.length = A.length + X.length ∧ A' ++ (Y' ++ (X' ++ T')) = A ++ (Y ++ (X ++ T)) ∧ X'.length ≤ X.length
 | 0, _, _, _, _, h, _, _, _, _ => absurd h (by omega)
 | n + 1, X, Y, A, T, hn, hX, hY, hf, hb => by
  have lx : 0 < X.length := List.length_pos_iff.2 hX
  have ly : 0 < Y.length := List.length_pos_iff.2 hY
  rw [SlicesrotateCmpFuncguiderow_v1.loop1]
  by_cases h1 : X.length = Y.length
  ·refine ⟨X, Y, A, T, ?_, h1.symm, rfl, rfl, Nat.le_refl _⟩
   simp [h1]
  ·have hne : ((X.length : Int) != (Y.length : Int)) = true := by simp; omega
   simp only [hne, if_true]
   by_cases h2 : Y.length < X.length
   ·have hd : decide ((X.length : Int) > (Y.length : Int)) = true := by simp; omega
    obtain ⟨X1, X2, rfl, hl⟩ : ∃ X1 X2, X = X1 ++ X2 ∧ X1.length = Y.length := ⟨X.take Y.length, X.drop Y.length, by simp, by simp; omega⟩
    simp only [List.length_append] at *
    have e1 := swap_ok (fu := fu) (A := A) (X := X1) (M := X2) (Y := Y) (T := T) (a := w64 (((A.length + (X1.length + X2.length) : Nat) : Int) - ((X1.length + X2.length : Nat) : Int))) (b := ((A.length + (X1.length + X2.length) : Nat) : Int)) (n := (Y.length : Int)) hl (by omega) (by omega)
     (by rw [w64_id (by omega)]; omega) (by omega) (by omega)
    obtain ⟨X', Y', A', T', r1, r2, r3, r4, r5⟩ := rot1 fu n X2 X1 (A ++ Y) T (by omega) (by intro h; subst h; simp at h2; omega) (by intro h; subst h; simp at hl; omega) (by omega) (by simp; omega)
    refine ⟨X', Y', A', T', ?_, r2, by simp at r3; omega, by rw [r4]; simp, by omega⟩
    simp only [hd, if_true, List.append_assoc] at *
    rw [e1]
    have e2 : w64 (((X1.length + X2.length : Nat) : Int) - (Y.length : Int)) = (X2.length : Int) := by rw [w64_id (by omega)]; omega
    have e3 : ((A ++ Y).length + X2.length : Nat) = A.length + (X1.length + X2.length) := by simp; omega
    simp only [Option.bind_some, e2]
    rw [e3, show (X1.length : Int) = (Y.length : Int) by rw [hl]] at r1
    exact r1
   ·have hd : decide ((X.length : Int) > (Y.length : Int)) = false := by simp; omega
    obtain ⟨Y1, Y2, rfl, hl⟩ : ∃ Y1 Y2, Y = Y1 ++ Y2 ∧ Y2.length = X.length := ⟨Y.take (Y.length - X.length), Y.drop (Y.length - X.length), by simp, by simp; omega⟩
    simp only [List.length_append] at *
    have e1 := swap_ok (fu := fu) (A := A) (X := X) (M := Y1) (Y := Y2) (T := T) (a := w64 (((A.length + X.length : Nat) : Int) - (X.length : Int))) (b := w64 (w64 (((A.length + X.length : Nat) : Int) + ((Y1.length + Y2.length : Nat) : Int)) - (X.length : Int))) (n := (X.length : Int)) hl.symm (by omega) (by omega)
     (by rw [w64_id (by omega)]; omega) (by rw [w64_id (x := ((A.length + X.length : Nat) : Int) + _) (by omega), w64_id (by omega)]; omega) rfl
    obtain ⟨X', Y', A', T', r1, r2, r3, r4, r5⟩ := rot1 fu n Y2 Y1 A (X ++ T) (by omega) (by intro h; subst h; simp at hl; omega) (by intro h; subst h; simp at h1 h2; omega) (by omega) (by omega)
    refine ⟨X', Y', A', T', ?_, r2, by omega, by rw [r4]; simp, by omega⟩
    simp only [hd, Bool.false_eq_true, if_false, List.append_assoc] at *
    rw [e1]
    have e2 : w64 (((Y1.length + Y2.length : Nat) : Int) - (X.length : Int)) = (Y1.length : Int) := by rw [w64_id (by omega)]; omega
    simp only [Option.bind_some, e2]
    rw [hl] at r1
    exact r1
theorem rot_ok {fu : Nat} {A X Y T : List GuideRow} {a m b : Int} (hX : X ≠ []) (hY : Y ≠ []) (hf : X.length + Y.length < fu) (hb : A.length + X.length + Y.length < 500000) (ha : a = (A.length : Int)) (hm : m = ((A.length + X.length : Nat) : Int)) (hb2 : b = ((A.length + X.length + Y.length : Nat) : Int)) :
  SlicesrotateCmpFuncguiderow_v1 fu (A ++ (X ++ (Y ++ T))) a m b = some (A ++ (Y ++ (X ++ T))) := by
 subst ha hm hb2
 unfold SlicesrotateCmpFuncguiderow_v1
 obtain ⟨X', Y', A', T', r1, r2, r3, r4, r5⟩ := rot1 fu fu X Y A T hf hX hY hf (by omega)
 have e1 : w64 (((A.length + X.length : Nat) : Int) - (A.length : Int)) = (X.length : Int) := by rw [w64_id (by omega)]; omega
 have e2 : w64 (((A.length + X.length + Y.length : Nat) : Int) - ((A.length + X.length : Nat) : Int)) = (Y.length : Int) := by rw [w64_id (by omega)]; omega
 rw [e1, e2, r1]
 simp only [Option.bind_some]
 have hl : A'.length + X'.length + Y'.length + T'.length = A.length + X.length + Y.length + T.length := by
  have := congrArg List.length r4; simp at this; omega
 have e3 := swap_ok (fu := fu) (A := A') (X := X') (M := []) (Y := Y') (T := T') (a := w64 (((A.length + X.length : Nat) : Int) - (X'.length : Int))) (b := ((A.length + X.length : Nat) : Int)) (n := (X'.length : Int)) r2.symm (by omega) (by simp; omega)
  (by rw [w64_id (by omega)]; omega) (by simp; omega) rfl
 simp only [List.nil_append] at e3
 rw [e3, Option.bind_some, r4]
def bs (test : Int → Option Bool) : Nat → Int → Int → Option (Int × Int)
 | 0, _, _ => none
 | n + 1, i, j => if decide (i < j) then (test (w64 (Int.fdiv (IntKind.wrap .u64 (w64 (i + j))) (2 ^ (min (Int.toNat 1) (IntKind.bits .u64)))))).bind fun c =>
   if c then bs test n (w64 (w64 (Int.fdiv (IntKind.wrap .u64 (w64 (i + j))) (2 ^ (min (Int.toNat 1) (IntKind.bits .u64)))) + 1)) j else bs test n i (w64 (Int.fdiv (IntKind.wrap .u64 (w64 (i + j))) (2 ^ (min (Int.toNat 1) (IntKind.bits .u64))))) else some (i, j)
theorem half_eq {a b : Nat} (h : a + b < 2000000) : w64 (Int.fdiv (IntKind.wrap .u64 (w64 ((a : Int) + (b : Int)))) (2 ^ (min (Int.toNat 1) (IntKind.bits .u64)))) = (((a + b) / 2 : Nat) : Int) := by
 rw [w64_id (x := (a : Int) + b) (by omega)]
 have e1 : IntKind.wrap .u64 ((a : Int) + b) = ((a + b : Nat) : Int) := by
  unfold IntKind.wrap; simp [IntKind.bits]; omega
 have e2 : (2 ^ (min (Int.toNat 1) (IntKind.bits .u64)) : Int) = 2 := by decide
 rw [e1, e2, Int.fdiv_eq_ediv_of_nonneg _ (by decide)]
 rw [w64_id (by omega)]; omega
theorem bs_ok (p : Nat → Bool) (test : Int → Option Bool) : ∀ (n lo hi : Nat), hi - lo < n → lo ≤ hi → hi < 1000000 → (∀ k : Nat, lo ≤ k → k < hi → test (k : Int) = some (p k)) → (∀ k k', lo ≤ k → k ≤ k' → k' < hi → p k' = true → p k = true) →
  ∃ r : Nat, lo ≤ r ∧ r ≤ hi ∧ bs test n lo hi = some ((r : Int), (r : Int)) ∧ (∀ k, lo ≤ k → k < r → p k = true) ∧ (∀ k, r ≤ k → k < hi → p k = false)
 | 0, _, _, h, _, _, _, _ => absurd h (by omega)
 | n + 1, lo, hi, h, hle, hb, ht, hm => by
  rw [bs]
  by_cases hlt : lo < hi
  ·have hd : decide ((lo : Int) < (hi : Int)) = true := by simp; omega
   have hh := half_eq (a := lo) (b := hi) (by omega)
   have t1 := ht ((lo + hi) / 2) (by omega) (by omega)
   simp only [hd, if_true, hh, t1, Option.bind_some]
   cases hp : p ((lo + hi) / 2) with
   | true =>
    have e : w64 ((((lo + hi) / 2 : Nat) : Int) + 1) = (((lo + hi) / 2 + 1 : Nat) : Int) := by rw [w64_id (by omega)]; omega
    simp only [if_true, e]
    obtain ⟨r, r1, r2, r3, r4, r5⟩ := bs_ok p test n ((lo + hi) / 2 + 1) hi (by omega) (by omega) hb (fun k h1 h2 => ht k (by omega) h2) (fun k k' h1 h2 h3 => hm k k' (by omega) h2 h3)
    refine ⟨r, by omega, r2, r3, ?_, r5⟩
    intro k k1 k2
    rcases Nat.lt_or_ge k ((lo + hi) / 2 + 1) with h1 | h1
    ·exact hm k ((lo + hi) / 2) k1 (by omega) (by omega) hp
    ·exact r4 k h1 k2
   | false =>
    simp only [Bool.false_eq_true, if_false]
    obtain ⟨r, r1, r2, r3, r4, r5⟩ := bs_ok p test n lo ((lo + hi) / 2) (by omega) (by omega) (by omega) (fun k h1 h2 => ht k h1 (by omega)) (fun k k' h1 h2 h3 => hm k k' h1 h2 (by omega))
    refine ⟨r, r1, by omega, r3, r4, ?_⟩
    intro k k1 k2
    rcases Nat.lt_or_ge k ((lo + hi) / 2) with h1 | h1
    ·exact r5 k k1 h1
    ·cases hk : p k with
     | false => rfl
     | true => have := hm ((lo + hi) / 2) k (by omega) h1 k2 hk; rw [hp] at this; cases this
  ·have hd : decide ((lo : Int) < (hi : Int)) = false := by simp; omega
   obtain rfl : lo = hi := by omega
   refine ⟨lo, Nat.le_refl _, Nat.le_refl _, by simp, ?_, ?_⟩
   ·intro k h1 h2; omega
   ·intro k h1 h2; omega
theorem obind_congr {α β : Type} {o : Option α} {f g : α → Option β} (h : ∀ x, f x = g x) : o.bind f = o.bind g := by cases o <;> simp [h]
theorem sym1_bs (x0 : List GuideRow) (x1 : Int) : ∀ (n : Nat) (i j : Int), SlicessymMergeCmpFuncguiderow_v1.loop1 x0 x1 n i j = bs (fun h => (gx x0 h).bind fun u => (gx x0 x1).bind fun v => some (decide (GuideBoard_2 u v < 0))) n i j
 | 0, _, _ => rfl
 | n + 1, i, j => by
  rw [SlicessymMergeCmpFuncguiderow_v1.loop1, bs]
  split
  ·simp only [Option.bind_assoc, Option.bind_some]
   refine obind_congr fun u => obind_congr fun v => ?_
   simp only [bnd_eq, sym1_bs x0 x1 n]
   cases decide (GuideBoard_2 u v < 0) <;> rfl
  ·rfl
theorem sym3_bs (x0 : List GuideRow) (x2 : Int) : ∀ (n : Nat) (i j : Int), SlicessymMergeCmpFuncguiderow_v1.loop3 x0 x2 n i j = bs (fun h => (gx x0 x2).bind fun u => (gx x0 h).bind fun v => some (!(decide (GuideBoard_2 u v < 0)))) n i j
 | 0, _, _ => rfl
 | n + 1, i, j => by
  rw [SlicessymMergeCmpFuncguiderow_v1.loop3, bs]
  split
  ·simp only [Option.bind_assoc, Option.bind_some]
   refine obind_congr fun u => obind_congr fun v => ?_
   simp only [bnd_eq, sym3_bs x0 x2 n]
   cases decide (GuideBoard_2 u v < 0) <;> rfl
  ·rfl
theorem sym5_bs (x0 : List GuideRow) (x1 x2 x3 : Int) : ∀ (n : Nat) (i j : Int), SlicessymMergeCmpFuncguiderow_v1.loop5 x0 x1 x2 x3 n i j = bs (fun h => (gx x0 (w64 ((w64 ((w64 ((w64 (Int.fdiv (IntKind.wrap .u64 (w64 (x1 + x3))) (2 ^ (min (Int.toNat 1) (IntKind.bits .u64))))) + x2)) - 1)) - h))).bind fun u => (gx x0 h).bind fun v => some (!(decide (GuideBoard_2 u v < 0)))) n i j
 | 0, _, _ => rfl
 | n + 1, i, j => by
  rw [SlicessymMergeCmpFuncguiderow_v1.loop5, bs]
  split
  ·simp only [Option.bind_assoc, Option.bind_some]
   refine obind_congr fun u => obind_congr fun v => ?_
   simp only [bnd_eq, sym5_bs x0 x1 x2 x3 n]
   cases decide (GuideBoard_2 u v < 0) <;> rfl
  ·rfl
theorem bub1 : ∀ (Y1 : List GuideRow) (n : Nat) (A T : List GuideRow) (x : GuideRow), Y1.length < n → A.length + Y1.length < 1000000 →
  ∃ j, SlicessymMergeCmpFuncguiderow_v1.loop2 ((A.length + Y1.length + 1 : Nat) : Int) n (A.length : Int) (A ++ (x :: (Y1 ++ T))) = some (j, A ++ (Y1 ++ x :: T))
 | [], n, A, T, x, hn, hb => by
  obtain ⟨n, rfl⟩ : ∃ m, n = m + 1 := ⟨n - 1, by simp at hn; omega⟩
  have h1 : w64 (((A.length + ([] : List GuideRow).length + 1 : Nat) : Int) - 1) = (A.length : Int) := by rw [w64_id (by simp; omega)]; simp
  rw [SlicessymMergeCmpFuncguiderow_v1.loop2, h1]
  exact ⟨_, by simp; exact rfl⟩
 | y :: Y1, n, A, T, x, hn, hb => by
  simp only [List.length_cons] at hn hb
  obtain ⟨n, rfl⟩ : ∃ m, n = m + 1 := ⟨n - 1, by omega⟩
  obtain ⟨j, hj⟩ := bub1 Y1 n (A ++ [y]) T x (by omega) (by simp; omega)
  refine ⟨j, ?_⟩
  have h1 : w64 (((A.length + (y :: Y1).length + 1 : Nat) : Int) - 1) = ((A.length + Y1.length + 1 : Nat) : Int) := by rw [w64_id (by simp; omega)]; simp; omega
  have h2 : decide ((A.length : Int) < ((A.length + Y1.length + 1 : Nat) : Int)) = true := by simp; omega
  have h3 : w64 ((A.length : Int) + 1) = ((A ++ [y]).length : Int) := by rw [w64_id (by omega)]; simp
  have h3' : ((A ++ [y]).length : Int) = ((A ++ [x]).length : Int) := by simp
  have d1 : A ++ (x :: (y :: Y1 ++ T)) = (A ++ [x]) ++ y :: (Y1 ++ T) := by simp
  have e1 : gx (A ++ (x :: (y :: Y1 ++ T))) ((A ++ [y]).length : Int) = some y := by rw [d1]; exact gx_mid h3'
  have e2 : gx (A ++ (x :: (y :: Y1 ++ T))) (A.length : Int) = some x := gx_mid rfl
  have e3 : ix (A ++ (x :: (y :: Y1 ++ T))) (A.length : Int) = some () := ix_mid rfl
  have e4 : sx (A ++ (x :: (y :: Y1 ++ T))) (A.length : Int) y = some ((A ++ [y]) ++ y :: (Y1 ++ T)) := by rw [sx_mid rfl]; simp
  have e5 : ix ((A ++ [y]) ++ y :: (Y1 ++ T)) ((A ++ [y]).length : Int) = some () := ix_mid rfl
  have e6 : sx ((A ++ [y]) ++ y :: (Y1 ++ T)) ((A ++ [y]).length : Int) x = some ((A ++ [y]) ++ x :: (Y1 ++ T)) := sx_mid rfl
  rw [SlicessymMergeCmpFuncguiderow_v1.loop2]
  simp only [h1, h2, if_true, h3, e1, e2, e3, e4, e5, e6, Option.bind_some]
  have k : (((A ++ [y]).length + Y1.length + 1 : Nat) : Int) = ((A.length + (y :: Y1).length + 1 : Nat) : Int) := by simp; omega
  rw [k] at hj
  rw [hj]; simp
theorem bub2 : ∀ (n : Nat) (X2 : List GuideRow) (A T : List GuideRow) (y : GuideRow), X2.length < n → A.length + X2.length < 1000000 →
  ∃ j, SlicessymMergeCmpFuncguiderow_v1.loop4 (A.length : Int) n ((A.length + X2.length : Nat) : Int) (A ++ (X2 ++ y :: T)) = some (j, A ++ (y :: (X2 ++ T)))
 | 0, _, _, _, _, h, _ => absurd h (by omega)
 | n + 1, X2, A, T, y, hn, hb => by
  rw [SlicessymMergeCmpFuncguiderow_v1.loop4]
  rcases List.eq_nil_or_concat X2 with rfl | ⟨S, x, rfl⟩
  ·exact ⟨_, by simp; exact rfl⟩
  ·simp only [List.concat_eq_append] at *
   simp only [List.length_append, List.length_cons, List.length_nil] at hn hb
   obtain ⟨j, hj⟩ := bub2 n S A (x :: T) y (by omega) (by omega)
   refine ⟨j, ?_⟩
   have h1 : decide (((A.length + (S ++ [x]).length : Nat) : Int) > (A.length : Int)) = true := by simp; omega
   have h2 : w64 (((A.length + (S ++ [x]).length : Nat) : Int) - 1) = ((A.length + S.length : Nat) : Int) := by rw [w64_id (by simp; omega)]; simp; omega
   have d1 : A ++ ((S ++ [x]) ++ y :: T) = (A ++ S) ++ x :: (y :: T) := by simp
   have d2 : A ++ ((S ++ [x]) ++ y :: T) = (A ++ (S ++ [x])) ++ y :: T := by simp
   have e1 : gx (A ++ ((S ++ [x]) ++ y :: T)) ((A.length + S.length : Nat) : Int) = some x := by rw [d1]; exact gx_mid (by simp)
   have e2 : gx (A ++ ((S ++ [x]) ++ y :: T)) ((A.length + (S ++ [x]).length : Nat) : Int) = some y := by rw [d2]; exact gx_mid (by simp)
   have e3 : ix (A ++ ((S ++ [x]) ++ y :: T)) ((A.length + (S ++ [x]).length : Nat) : Int) = some () := by rw [d2]; exact ix_mid (by simp)
   have e4 : sx (A ++ ((S ++ [x]) ++ y :: T)) ((A.length + (S ++ [x]).length : Nat) : Int) x = some ((A ++ S) ++ x :: (x :: T)) := by rw [d2, sx_mid (by simp)]; simp
   have e5 : ix ((A ++ S) ++ x :: (x :: T)) ((A.length + S.length : Nat) : Int) = some () := ix_mid (by simp)
   have e6 : sx ((A ++ S) ++ x :: (x :: T)) ((A.length + S.length : Nat) : Int) y = some (A ++ (S ++ y :: (x :: T))) := by rw [sx_mid (by simp)]; simp
   simp only [h1, if_true, h2, e1, e2, e3, e4, e5, e6, Option.bind_some]
   rw [hj]; simp
theorem gx_dv {d : List GuideRow} {k : Nat} (h : k < d.length) : gx d (k : Int) = some (d.getD k default) := by
 rw [gx_nat, List.getD_eq_getElem?_getD, List.getElem?_eq_getElem h]; rfl
theorem dv_X {A X Z : List GuideRow} {k : Nat} (h1 : A.length ≤ k) (h2 : k < A.length + X.length) : (A ++ (X ++ Z)).getD k default = X.getD (k - A.length) default := by
 simp only [List.getD_eq_getElem?_getD]
 rw [List.getElem?_append_right h1, List.getElem?_append_left (by omega)]
theorem dv_Y {A X Y T : List GuideRow} {k : Nat} (h1 : A.length + X.length ≤ k) (h2 : k < A.length + X.length + Y.length) : (A ++ (X ++ (Y ++ T))).getD k default = Y.getD (k - (A.length + X.length)) default := by
 rw [show A ++ (X ++ (Y ++ T)) = (A ++ X) ++ (Y ++ T) by simp, dv_X (by simp; omega) (by simp; omega)]; simp
theorem getD_mem {X : List GuideRow} {k : Nat} (h : k < X.length) : X.getD k default ∈ X := by
 rw [List.getD_eq_getElem?_getD, List.getElem?_eq_getElem h]; exact List.getElem_mem h
theorem pw_getD {R : GuideRow → GuideRow → Prop} {X : List GuideRow} (h : X.Pairwise R) {i j : Nat} (h1 : i < j) (h2 : j < X.length) : R (X.getD i default) (X.getD j default) := by
 rw [List.getD_eq_getElem?_getD, List.getD_eq_getElem?_getD, List.getElem?_eq_getElem h2, List.getElem?_eq_getElem (Nat.lt_trans h1 h2)]
 exact List.pairwise_iff_getElem.1 h i j (Nat.lt_trans h1 h2) h2 h1
theorem pw_le {X : List GuideRow} (h : X.Pairwise (Lt D)) {i j : Nat} (h1 : i ≤ j) (h2 : j < X.length) : D (X.getD i default) ≤ D (X.getD j default) := by
 rcases Nat.lt_or_eq_of_le h1 with h3 | rfl
 ·exact (pw_getD h h3 h2).le
 ·exact Int.le_refl _
theorem take_getD {X : List GuideRow} {n : Nat} {x : GuideRow} (h : x ∈ X.take n) : ∃ i, i < n ∧ i < X.length ∧ x = X.getD i default := by
 obtain ⟨i, hi, e⟩ := List.mem_iff_getElem.1 h
 simp only [List.length_take] at hi
 refine ⟨i, by omega, by omega, ?_⟩
 rw [List.getD_eq_getElem?_getD, List.getElem?_eq_getElem (by omega), ← e]; simp
theorem drop_getD {X : List GuideRow} {n : Nat} {x : GuideRow} (h : x ∈ X.drop n) : ∃ i, n ≤ i ∧ i < X.length ∧ x = X.getD i default := by
 obtain ⟨i, hi, e⟩ := List.mem_iff_getElem.1 h
 simp only [List.length_drop] at hi
 refine ⟨n + i, by omega, by omega, ?_⟩
 rw [List.getD_eq_getElem?_getD, List.getElem?_eq_getElem (by omega), ← e]; simp
theorem sym_ok (hC : ∀ x y, V x → V y → (GuideBoard_2 x y < 0 ↔ D x < D y)) : ∀ (fu : Nat) (A X Y T : List GuideRow) (a m b : Int), a = (A.length : Int) → m = ((A.length + X.length : Nat) : Int) → b = ((A.length + X.length + Y.length : Nat) : Int) → X ≠ [] → Y ≠ [] → X.length + Y.length + 2 < fu →
  A.length + X.length + Y.length < 500000 → (∀ x ∈ X, V x) → (∀ y ∈ Y, V y) → (∀ x ∈ X, ∀ y ∈ Y, D x ≠ D y) → X.Pairwise (Lt D) → Y.Pairwise (Lt D) →
  ∃ R, SlicessymMergeCmpFuncguiderow_v1 fu (A ++ (X ++ (Y ++ T))) a m b = some (A ++ (R ++ T)) ∧ R.Perm (X ++ Y) ∧ R.Pairwise (Lt D)
 | 0, _, _, _, _, _, _, _, _, _, _, _, _, h, _, _, _, _, _, _ => absurd h (by omega)
 | fu + 1, A, X, Y, T, a, m, b, ha, hm, hb, hX, hY, hf, hz, vX, vY, hlt, sX, sY => by
  have lx : 0 < X.length := List.length_pos_iff.2 hX
  have ly : 0 < Y.length := List.length_pos_iff.2 hY
  have hdl : (A ++ (X ++ (Y ++ T))).length = A.length + X.length + Y.length + T.length := by simp; omega
  rw [SlicessymMergeCmpFuncguiderow_v1]
  by_cases c1 : X.length = 1
  ·obtain ⟨x, rfl⟩ := List.length_eq_one_iff.1 c1
   have hd : (w64 (m - a) == 1) = true := by rw [w64_id (by omega)]; simp; omega
   rw [if_pos hd, sym1_bs]
   obtain ⟨r, r1, r2, r3, r4, r5⟩ := bs_ok (fun k => decide (D ((A ++ ([x] ++ (Y ++ T))).getD k default) < D x)) (fun h => (gx (A ++ ([x] ++ (Y ++ T))) h).bind fun u => (gx (A ++ ([x] ++ (Y ++ T))) a).bind fun v => some (decide (GuideBoard_2 u v < 0))) fu (A.length + [x].length) (A.length + [x].length + Y.length) (by omega) (by omega) (by omega)
    (by
     intro k k1 k2
     rw [gx_dv (by omega), ha, show A ++ ([x] ++ (Y ++ T)) = A ++ x :: (Y ++ T) by rfl, gx_mid rfl]
     have e2 := hC ((A ++ x :: (Y ++ T)).getD k default) x (by rw [show A ++ x :: (Y ++ T) = A ++ ([x] ++ (Y ++ T)) by rfl, dv_Y k1 k2]; exact vY _ (getD_mem (by omega))) (vX x (by simp))
     simp only [Option.bind_some]
     congr 1; exact decide_eq_decide.2 e2)
    (by
     intro k k' k1 k2 k3 h
     simp only [decide_eq_true_eq] at h ⊢
     rw [dv_Y (by omega) k3] at h
     rw [dv_Y k1 (by omega)]
     exact Int.lt_of_le_of_lt (pw_le sY (by omega) (by omega)) h)
   subst ha hm hb
   rw [r3]
   simp only [Option.bind_some]
   obtain ⟨j, hj⟩ := bub1 (Y.take (r - (A.length + 1))) fu A (Y.drop (r - (A.length + 1)) ++ T) x (by simp; omega) (by simp; omega)
   simp only [List.length_cons, List.length_nil, Nat.zero_add] at r1 r2 r4 r5 c1
   have hr : ((A.length + (Y.take (r - (A.length + 1))).length + 1 : Nat) : Int) = (r : Int) := by simp; omega
   rw [hr] at hj
   have hdd : A ++ ([x] ++ (Y ++ T)) = A ++ (x :: (Y.take (r - (A.length + 1)) ++ (Y.drop (r - (A.length + 1)) ++ T))) := by
    rw [← List.append_assoc (Y.take _), List.take_append_drop]; rfl
   rw [hdd, hj]
   simp only [Option.bind_some]
   refine ⟨Y.take (r - (A.length + 1)) ++ x :: Y.drop (r - (A.length + 1)), by simp, ?_, ?_⟩
   ·have := (List.perm_middle (a := x) (l₁ := Y.take (r - (A.length + 1))) (l₂ := Y.drop (r - (A.length + 1))))
    rw [List.take_append_drop] at this; exact this
   ·have hs := sY
    rw [← List.take_append_drop (r - (A.length + 1)) Y, List.pairwise_append] at hs
    refine List.pairwise_append.2 ⟨hs.1, List.pairwise_cons.2 ⟨?_, hs.2.1⟩, ?_⟩
    ·intro y hy
     obtain ⟨i, i1, i2, rfl⟩ := drop_getD hy
     have h5 := r5 (A.length + 1 + i) (by omega) (by omega)
     rw [show A ++ ([x] ++ (Y ++ T)) = A ++ ([x] ++ (Y ++ T)) from rfl, dv_Y (by simp) (by simp; omega)] at h5
     simp only [List.length_cons, List.length_nil, Nat.zero_add, Nat.add_sub_cancel_left, decide_eq_false_iff_not] at h5
     have := hlt x (by simp) _ (getD_mem i2)
     unfold Lt; omega
    ·intro y hy z hz'
     rcases List.mem_cons.1 hz' with rfl | h
     ·obtain ⟨i, i1, i2, rfl⟩ := take_getD hy
      have h4 := r4 (A.length + 1 + i) (by omega) (by omega)
      rw [dv_Y (by simp) (by simp; omega)] at h4
      simp only [List.length_cons, List.length_nil, Nat.zero_add, Nat.add_sub_cancel_left, decide_eq_true_eq] at h4
      exact h4
     ·exact hs.2.2 y hy z h
  have hd1 : ¬ (w64 (m - a) == 1) = true := by rw [w64_id (by omega)]; simp; omega
  rw [if_neg hd1]
  by_cases c2 : Y.length = 1
  ·obtain ⟨y, rfl⟩ := List.length_eq_one_iff.1 c2
   have hd : (w64 (b - m) == 1) = true := by rw [w64_id (by omega)]; simp; omega
   rw [if_pos hd, sym3_bs]
   obtain ⟨r, r1, r2, r3, r4, r5⟩ := bs_ok (fun k => !(decide (D y < D ((A ++ (X ++ ([y] ++ T))).getD k default)))) (fun h => (gx (A ++ (X ++ ([y] ++ T))) m).bind fun u => (gx (A ++ (X ++ ([y] ++ T))) h).bind fun v => some (!(decide (GuideBoard_2 u v < 0)))) fu A.length (A.length + X.length) (by omega) (by omega) (by omega)
    (by
     intro k k1 k2
     have hgm : gx (A ++ (X ++ ([y] ++ T))) m = some y := by
      rw [show A ++ (X ++ ([y] ++ T)) = (A ++ X) ++ y :: T by simp]; exact gx_mid (by rw [hm]; simp)
     rw [hgm, gx_dv (by omega)]
     have e2 := hC y ((A ++ (X ++ ([y] ++ T))).getD k default) (vY y (by simp)) (by rw [dv_X k1 k2]; exact vX _ (getD_mem (by omega)))
     simp only [Option.bind_some]
     congr 2; exact decide_eq_decide.2 e2)
    (by
     intro k k' k1 k2 k3 h
     simp only [Bool.not_eq_true', decide_eq_false_iff_not] at h ⊢
     rw [dv_X (by omega) k3] at h
     rw [dv_X k1 (by omega)]
     have := pw_le sX (i := k - A.length) (j := k' - A.length) (by omega) (by omega)
     omega)
   subst ha hm hb
   rw [r3]
   simp only [Option.bind_some]
   have hr : ((A ++ X.take (r - A.length)).length : Int) = (r : Int) := by simp; omega
   obtain ⟨j, hj⟩ := bub2 fu (X.drop (r - A.length)) (A ++ X.take (r - A.length)) T y (by simp; omega) (by simp; omega)
   have hr2 : (((A ++ X.take (r - A.length)).length + (X.drop (r - A.length)).length : Nat) : Int) = ((A.length + X.length : Nat) : Int) := by simp; omega
   rw [hr2, hr] at hj
   have hdd : A ++ (X ++ ([y] ++ T)) = (A ++ X.take (r - A.length)) ++ (X.drop (r - A.length) ++ y :: T) := by
    rw [List.append_assoc A, ← List.append_assoc (X.take _), List.take_append_drop]; rfl
   rw [hdd, hj]
   simp only [Option.bind_some]
   refine ⟨X.take (r - A.length) ++ y :: X.drop (r - A.length), by simp, ?_, ?_⟩
   ·refine (List.perm_middle (a := y) (l₁ := X.take (r - A.length)) (l₂ := X.drop (r - A.length))).trans ?_
    rw [List.take_append_drop]
    exact (List.perm_append_comm (l₁ := [y]) (l₂ := X))
   ·have hs := sX
    rw [← List.take_append_drop (r - A.length) X, List.pairwise_append] at hs
    refine List.pairwise_append.2 ⟨hs.1, List.pairwise_cons.2 ⟨?_, hs.2.1⟩, ?_⟩
    ·intro x hx
     obtain ⟨i, i1, i2, rfl⟩ := drop_getD hx
     have h5 := r5 (A.length + i) (by omega) (by omega)
     rw [dv_X (by omega) (by omega)] at h5
     simp only [Nat.add_sub_cancel_left, Bool.not_eq_false', decide_eq_true_eq] at h5
     exact h5
    ·intro x hx z hz'
     rcases List.mem_cons.1 hz' with rfl | h
     ·obtain ⟨i, i1, i2, rfl⟩ := take_getD hx
      have h4 := r4 (A.length + i) (by omega) (by omega)
      rw [dv_X (by omega) (by omega)] at h4
      simp only [Nat.add_sub_cancel_left, Bool.not_eq_true', decide_eq_false_iff_not] at h4
      have := hlt _ (getD_mem i2) z (by simp)
      unfold Lt; omega
     ·exact hs.2.2 x hx z h
  have hd2 : ¬ (w64 (b - m) == 1) = true := by rw [w64_id (by omega)]; simp; omega
  rw [if_neg hd2]
  subst ha hm hb
  -- the middle
  have hmid := half_eq (a := A.length) (b := A.length + X.length + Y.length) (by omega)
  generalize hM : (A.length + (A.length + X.length + Y.length)) / 2 = mid at hmid
  simp only [sym5_bs, hmid, bnd_eq]
  obtain ⟨s0, r0, hpair, hcase⟩ : ∃ s0 r0 : Nat, (if decide (((A.length + X.length : Nat) : Int) > (mid : Int)) = true then (w64 (w64 ((mid : Int) + ((A.length + X.length : Nat) : Int)) - ((A.length + X.length + Y.length : Nat) : Int)), (mid : Int)) else ((A.length : Int), ((A.length + X.length : Nat) : Int))) = ((s0 : Int), (r0 : Int))
    ∧ ((mid < A.length + X.length ∧ s0 + (A.length + X.length + Y.length) = mid + (A.length + X.length) ∧ r0 = mid) ∨ (A.length + X.length ≤ mid ∧ s0 = A.length ∧ r0 = A.length + X.length)) := by
   by_cases h : mid < A.length + X.length
   ·refine ⟨mid + (A.length + X.length) - (A.length + X.length + Y.length), mid, ?_, .inl ⟨h, by omega, rfl⟩⟩
    rw [if_pos (by simp; omega), w64_id (x := (mid : Int) + _) (by omega), w64_id (by omega)]
    congr 1; omega
   ·refine ⟨A.length, A.length + X.length, ?_, .inr ⟨by omega, rfl, rfl⟩⟩
    rw [if_neg (by simp; omega)]
  have hq1 : w64 (w64 ((mid : Int) + ((A.length + X.length : Nat) : Int)) - 1) = ((mid + (A.length + X.length) - 1 : Nat) : Int) := by
   rw [w64_id (x := (mid : Int) + _) (by omega), w64_id (by omega)]; omega
  simp only [hpair, hq1]
  obtain ⟨r, r1, r2, r3, r4, r5⟩ := bs_ok (fun k => !(decide (D ((A ++ (X ++ (Y ++ T))).getD (mid + (A.length + X.length) - 1 - k) default) < D ((A ++ (X ++ (Y ++ T))).getD k default)))) (fun h => (gx (A ++ (X ++ (Y ++ T))) (w64 (((mid + (A.length + X.length) - 1 : Nat) : Int) - h))).bind fun u => (gx (A ++ (X ++ (Y ++ T))) h).bind fun v => some (!(decide (GuideBoard_2 u v < 0)))) fu s0 r0 (by omega) (by omega) (by omega)
   (by
    intro k k1 k2
    have e0 : w64 (((mid + (A.length + X.length) - 1 : Nat) : Int) - (k : Int)) = ((mid + (A.length + X.length) - 1 - k : Nat) : Int) := by rw [w64_id (by omega)]; omega
    simp only [e0]
    rw [gx_dv (by omega), gx_dv (by omega)]
    have e2 := hC ((A ++ (X ++ (Y ++ T))).getD (mid + (A.length + X.length) - 1 - k) default) ((A ++ (X ++ (Y ++ T))).getD k default)
     (by rw [dv_Y (by omega) (by omega)]; exact vY _ (getD_mem (by omega))) (by rw [dv_X (by omega) (by omega)]; exact vX _ (getD_mem (by omega)))
    simp only [Option.bind_some]
    congr 2; exact decide_eq_decide.2 e2)
   (by
    intro k k' k1 k2 k3 h
    simp only [Bool.not_eq_true', decide_eq_false_iff_not] at h ⊢
    rw [dv_Y (by omega) (by omega), dv_X (by omega) (by omega)] at h
    rw [dv_Y (by omega) (by omega), dv_X (by omega) (by omega)]
    have h1 := pw_le sX (i := k - A.length) (j := k' - A.length) (by omega) (by omega)
    have h2 := pw_le sY (i := mid + (A.length + X.length) - 1 - k' - (A.length + X.length)) (j := mid + (A.length + X.length) - 1 - k - (A.length + X.length)) (by omega) (by omega)
    omega)
  rw [r3]
  simp only [Option.bind_some]
  have he : w64 (w64 ((mid : Int) + ((A.length + X.length : Nat) : Int)) - (r : Int)) = ((mid + (A.length + X.length) - r : Nat) : Int) := by
   rw [w64_id (x := (mid : Int) + _) (by omega), w64_id (by omega)]; omega
  simp only [he]
  -- the four parts
  obtain ⟨X1, X2, eX, lX1⟩ : ∃ X1 X2, X = X1 ++ X2 ∧ A.length + X1.length = r := ⟨X.take (r - A.length), X.drop (r - A.length), (List.take_append_drop _ _).symm, by simp; omega⟩
  obtain ⟨Y1, Y2, eY, lY1⟩ : ∃ Y1 Y2, Y = Y1 ++ Y2 ∧ A.length + X.length + Y1.length = mid + (A.length + X.length) - r := ⟨Y.take (mid - r), Y.drop (mid - r), (List.take_append_drop _ _).symm, by simp; omega⟩
  have lXe : X.length = X1.length + X2.length := by rw [eX]; simp
  have lYe : Y.length = Y1.length + Y2.length := by rw [eY]; simp
  have sX' := sX; have sY' := sY
  rw [eX, List.pairwise_append] at sX'
  rw [eY, List.pairwise_append] at sY'
  have gX : ∀ i, i < X.length → (A ++ (X ++ (Y ++ T))).getD (A.length + i) default = X.getD i default := fun i hi => by rw [dv_X (by omega) (by omega)]; congr 1; omega
  have gY : ∀ i, i < Y.length → (A ++ (X ++ (Y ++ T))).getD (A.length + X.length + i) default = Y.getD i default := fun i hi => by rw [dv_Y (by omega) (by omega)]; congr 1; omega
  have q1 : ∀ x ∈ X1, ∀ y ∈ Y2, Lt D x y := by
   intro x hx y hy
   have hxX : x ∈ X := by rw [eX]; simp [hx]
   have hyY : y ∈ Y := by rw [eY]; simp [hy]
   have eX1 : X1 = X.take X1.length := by rw [eX]; simp
   have eY2 : Y2 = Y.drop Y1.length := by rw [eY]; simp
   rw [eX1] at hx; rw [eY2] at hy
   obtain ⟨i, i1, i2, rfl⟩ := take_getD hx
   obtain ⟨j, j1, j2, rfl⟩ := drop_getD hy
   have h4 := r4 (r - 1) (by omega) (by omega)
   simp only [Bool.not_eq_true', decide_eq_false_iff_not] at h4
   rw [show mid + (A.length + X.length) - 1 - (r - 1) = A.length + X.length + Y1.length by omega, gY _ (by omega), show r - 1 = A.length + (X1.length - 1) by omega, gX _ (by omega)] at h4
   have h1 := pw_le sX (i := i) (j := X1.length - 1) (by omega) (by omega)
   have h2 := pw_le sY (i := Y1.length) (j := j) (by omega) (by omega)
   have h3 := hlt _ hxX _ hyY
   unfold Lt; omega
  have q2 : ∀ y ∈ Y1, ∀ x ∈ X2, Lt D y x := by
   intro y hy x hx
   have eX2 : X2 = X.drop X1.length := by rw [eX]; simp
   have eY1 : Y1 = Y.take Y1.length := by rw [eY]; simp
   rw [eX2] at hx; rw [eY1] at hy
   obtain ⟨i, i1, i2, rfl⟩ := drop_getD hx
   obtain ⟨j, j1, j2, rfl⟩ := take_getD hy
   have h5 := r5 r (by omega) (by omega)
   simp only [Bool.not_eq_false', decide_eq_true_eq] at h5
   rw [show mid + (A.length + X.length) - 1 - r = A.length + X.length + (Y1.length - 1) by omega, gY _ (by omega), show r = A.length + X1.length by omega, gX _ (by omega)] at h5
   have h1 := pw_le sX (i := X1.length) (j := i) (by omega) (by omega)
   have h2 := pw_le sY (i := j) (j := Y1.length - 1) (by omega) (by omega)
   unfold Lt; omega
  -- the lower half
  obtain ⟨R1, s1, p1, w1⟩ : ∃ R1, (∀ k : List GuideRow → Option (List GuideRow), (if (if decide ((A.length : Int) < (r : Int)) = true then decide ((r : Int) < (mid : Int)) else false) = true then (SlicessymMergeCmpFuncguiderow_v1 fu (A ++ (X1 ++ (Y1 ++ (X2 ++ (Y2 ++ T))))) (A.length : Int) (r : Int) (mid : Int)).bind k else k (A ++ (X1 ++ (Y1 ++ (X2 ++ (Y2 ++ T)))))) = k (A ++ (R1 ++ (X2 ++ (Y2 ++ T))))) ∧ R1.Perm (X1 ++ Y1) ∧ R1.Pairwise (Lt D) := by
   by_cases hc : A.length < r ∧ r < mid
   ·obtain ⟨R1, e1, e2, e3⟩ := sym_ok hC fu A X1 Y1 (X2 ++ (Y2 ++ T)) (A.length : Int) (r : Int) (mid : Int) rfl (by omega) (by omega) (by intro h; subst h; simp at lX1; omega) (by intro h; subst h; simp at lY1; omega) (by omega) (by omega)
     (fun x hx => vX x (by rw [eX]; simp [hx])) (fun y hy => vY y (by rw [eY]; simp [hy])) (fun x hx y hy => hlt x (by rw [eX]; simp [hx]) y (by rw [eY]; simp [hy])) sX'.1 sY'.1
    refine ⟨R1, fun k => ?_, e2, e3⟩
    rw [if_pos (by simp; omega), e1]; rfl
   ·refine ⟨X1 ++ Y1, fun k => ?_, List.Perm.refl _, ?_⟩
    ·rw [if_neg (by simp; omega)]; simp
    ·rcases Nat.lt_or_ge A.length r with h | h
     ·have : Y1 = [] := List.length_eq_zero_iff.1 (by omega)
      subst this; simpa using sX'.1
     ·have : X1 = [] := List.length_eq_zero_iff.1 (by omega)
      subst this; simpa using sY'.1
  have lR1 : A.length + R1.length = mid := by have := p1.length_eq; simp at this; omega
  -- the upper half
  obtain ⟨R2, s2, p2, w2⟩ : ∃ R2, (if (if decide ((mid : Int) < ((mid + (A.length + X.length) - r : Nat) : Int)) = true then decide (((mid + (A.length + X.length) - r : Nat) : Int) < ((A.length + X.length + Y.length : Nat) : Int)) else false) = true then (SlicessymMergeCmpFuncguiderow_v1 fu (A ++ (R1 ++ (X2 ++ (Y2 ++ T)))) (mid : Int) ((mid + (A.length + X.length) - r : Nat) : Int) ((A.length + X.length + Y.length : Nat) : Int)).bind (fun q => some q) else some (A ++ (R1 ++ (X2 ++ (Y2 ++ T))))) = some (A ++ ((R1 ++ R2) ++ T)) ∧ R2.Perm (X2 ++ Y2) ∧ R2.Pairwise (Lt D) := by
   by_cases hc : mid < mid + (A.length + X.length) - r ∧ mid + (A.length + X.length) - r < A.length + X.length + Y.length
   ·obtain ⟨R2, e1, e2, e3⟩ := sym_ok hC fu (A ++ R1) X2 Y2 T (mid : Int) ((mid + (A.length + X.length) - r : Nat) : Int) ((A.length + X.length + Y.length : Nat) : Int) (by simp; omega) (by simp; omega) (by simp; omega) (by intro h; subst h; simp at lXe; omega) (by intro h; subst h; simp at lYe; omega) (by omega) (by simp; omega)
     (fun x hx => vX x (by rw [eX]; simp [hx])) (fun y hy => vY y (by rw [eY]; simp [hy])) (fun x hx y hy => hlt x (by rw [eX]; simp [hx]) y (by rw [eY]; simp [hy])) sX'.2.1 sY'.2.1
    refine ⟨R2, ?_, e2, e3⟩
    rw [if_pos (by simp; omega), show A ++ (R1 ++ (X2 ++ (Y2 ++ T))) = (A ++ R1) ++ (X2 ++ (Y2 ++ T)) by simp, e1]; simp
   ·refine ⟨X2 ++ Y2, ?_, List.Perm.refl _, ?_⟩
    ·rw [if_neg (by simp; omega)]; simp
    ·rcases Nat.lt_or_ge mid (mid + (A.length + X.length) - r) with h | h
     ·have : Y2 = [] := List.length_eq_zero_iff.1 (by omega)
      subst this; simpa using sX'.2.1
     ·have : X2 = [] := List.length_eq_zero_iff.1 (by omega)
      subst this; simpa using sY'.2.1
  refine ⟨R1 ++ R2, ?_, ?_, ?_⟩
  ·have hs := s1 (fun q => if (if decide ((mid : Int) < ((mid + (A.length + X.length) - r : Nat) : Int)) = true then decide (((mid + (A.length + X.length) - r : Nat) : Int) < ((A.length + X.length + Y.length : Nat) : Int)) else false) = true then (SlicessymMergeCmpFuncguiderow_v1 fu q (mid : Int) ((mid + (A.length + X.length) - r : Nat) : Int) ((A.length + X.length + Y.length : Nat) : Int)).bind (fun q => some q) else some q)
   have hs2 := hs.trans s2
   by_cases hc : r < A.length + X.length ∧ A.length + X.length < mid + (A.length + X.length) - r
   ·rw [if_pos (by simp; omega)]
    have hro := rot_ok (fu := fu) (A := A ++ X1) (X := X2) (Y := Y1) (T := Y2 ++ T) (a := (r : Int)) (m := ((A.length + X.length : Nat) : Int)) (b := ((mid + (A.length + X.length) - r : Nat) : Int)) (by intro h; subst h; simp at lXe; omega) (by intro h; subst h; simp at lY1; omega) (by omega) (by simp; omega) (by simp; omega) (by simp; omega) (by simp; omega)
    have hdd : A ++ (X ++ (Y ++ T)) = (A ++ X1) ++ (X2 ++ (Y1 ++ (Y2 ++ T))) := by rw [eX, eY]; simp
    rw [hdd, hro, Option.bind_some, show (A ++ X1) ++ (Y1 ++ (X2 ++ (Y2 ++ T))) = A ++ (X1 ++ (Y1 ++ (X2 ++ (Y2 ++ T)))) by simp]
    exact hs2
   ·rw [if_neg (by simp; omega)]
    have hdd : A ++ (X ++ (Y ++ T)) = A ++ (X1 ++ (Y1 ++ (X2 ++ (Y2 ++ T)))) := by
     rw [eX, eY]
     rcases Nat.lt_or_ge r (A.length + X.length) with h | h
     ·have : Y1 = [] := List.length_eq_zero_iff.1 (by omega)
      subst this; simp
     ·have : X2 = [] := List.length_eq_zero_iff.1 (by omega)
      subst this; simp
    rw [hdd]
    exact hs2
  ·refine (p1.append p2).trans ?_
   rw [eX, eY]
   have : (Y1 ++ (X2 ++ Y2)).Perm (X2 ++ (Y1 ++ Y2)) := by
    rw [← List.append_assoc, ← List.append_assoc]; exact List.perm_append_comm.append_right _
   simpa using this.append_left X1
  ·refine List.pairwise_append.2 ⟨w1, w2, ?_⟩
   intro x hx y hy
   rcases List.mem_append.1 (p1.subset hx) with h1 | h1 <;> rcases List.mem_append.1 (p2.subset hy) with h2 | h2
   ·exact sX'.2.2 x h1 y h2
   ·exact q1 x h1 y h2
   ·exact q2 x h1 y h2
   ·exact sY'.2.2 x h1 y h2
inductive Bl (D : GuideRow → Int) (k : Nat) : List GuideRow → Prop where
 | last (L : List GuideRow) : L.length ≤ k → L.Pairwise (Lt D) → Bl D k L
 | cons (B L : List GuideRow) : B.length = k → B.Pairwise (Lt D) → (∀ x ∈ B, ∀ y ∈ L, D x ≠ D y) → Bl D k L → Bl D k (B ++ L)
theorem blocks (hC : ∀ x y, V x → V y → (GuideBoard_2 x y < 0 ↔ D x < D y)) {fu : Nat} (hf : 30 ≤ fu) : ∀ (m : Nat) (A L : List GuideRow), L.length < m → A.length + L.length ≤ 100000 → (∀ y ∈ L, V y) → L.Pairwise (fun a b => D a ≠ D b) →
  ∃ a b q L', SlicesstableCmpFuncguiderow_v1.loop1 ((A.length + L.length : Nat) : Int) fu m (A.length : Int) ((A.length + 20 : Nat) : Int) (A ++ L) = some (a, b, q) ∧ SlicesinsertionSortCmpFuncguiderow_v1 fu q a ((A.length + L.length : Nat) : Int) = some (A ++ L') ∧ L'.Perm L ∧ Bl D 20 L'
 | 0, _, _, h, _, _, _ => absurd h (by omega)
 | m + 1, A, L, h, hb, hV, hu => by
  rw [SlicesstableCmpFuncguiderow_v1.loop1]
  by_cases c : L.length < 20
  ·have d : decide (((A.length + 20 : Nat) : Int) ≤ ((A.length + L.length : Nat) : Int)) = false := by simp; omega
   obtain ⟨R, r1, r2, r3⟩ := ins_ok hC (fu := fu) (A := A) (X := L) (T := []) (by omega) (by omega) hV hu
   simp only [List.append_nil] at r1
   exact ⟨_, _, _, R, by rw [d]; rfl, r1, r2, .last R (by rw [r2.length_eq]; omega) r3⟩
  ·obtain ⟨B, L1, rfl, lB⟩ : ∃ B L1, L = B ++ L1 ∧ B.length = 20 := ⟨L.take 20, L.drop 20, (List.take_append_drop _ _).symm, by simp; omega⟩
   simp only [List.length_append] at h hb c
   rw [List.pairwise_append] at hu
   have d : decide (((A.length + 20 : Nat) : Int) ≤ ((A.length + (B ++ L1).length : Nat) : Int)) = true := by simp; omega
   obtain ⟨R, r1, r2, r3⟩ := ins_ok hC (fu := fu) (A := A) (X := B) (T := L1) (by omega) (by omega) (fun y hy => hV y (by simp [hy])) hu.1
   have lR : R.length = 20 := by rw [r2.length_eq, lB]
   obtain ⟨a, b, q, L', e1, e2, e3, e4⟩ := blocks hC hf m (A ++ R) L1 (by omega) (by simp; omega) (fun y hy => hV y (by simp [hy])) hu.2.1
   have x1 : ((A.length + 20 : Nat) : Int) = ((A.length + B.length : Nat) : Int) := by rw [lB]
   have x2 : w64 (((A.length + B.length : Nat) : Int) + 20) = (((A ++ R).length + 20 : Nat) : Int) := by rw [w64_id (by omega)]; simp; omega
   have x3 : ((A.length + B.length : Nat) : Int) = ((A ++ R).length : Int) := by simp; omega
   have x4 : ((A.length + (B ++ L1).length : Nat) : Int) = (((A ++ R).length + L1.length : Nat) : Int) := by simp; omega
   refine ⟨a, b, q, R ++ L', ?_, ?_, r2.append e3, .cons R L' lR r3 (fun x hx y hy => hu.2.2 x (r2.subset hx) y (e3.subset hy)) e4⟩
   ·rw [d, x1, r1]
    simp only [if_true, Option.bind_some]
    rw [x2, x3, x4, ← List.append_assoc]; exact e1
   ·rw [x4, e2, List.append_assoc]
theorem merges (hC : ∀ x y, V x → V y → (GuideBoard_2 x y < 0 ↔ D x < D y)) {fu : Nat} {k : Nat} (hk : 1 ≤ k) (hk2 : k ≤ 100000) : ∀ (m : Nat) (A L : List GuideRow), L.length < m → L.length + 3 ≤ fu → A.length + L.length ≤ 100000 → (∀ y ∈ L, V y) → Bl D k L →
  ∃ a b q L', SlicesstableCmpFuncguiderow_v1.loop3 ((A.length + L.length : Nat) : Int) fu (k : Int) m (A.length : Int) ((A.length + 2 * k : Nat) : Int) (A ++ L) = some (a, b, q) ∧ (if decide (w64 (a + (k : Int)) < ((A.length + L.length : Nat) : Int)) then SlicessymMergeCmpFuncguiderow_v1 fu q a (w64 (a + (k : Int))) ((A.length + L.length : Nat) : Int) else some q) = some (A ++ L') ∧ L'.Perm L ∧ Bl D (2 * k) L'
 | 0, _, _, h, _, _, _, _ => absurd h (by omega)
 | m + 1, A, L, h, hf, hb, hV, hB => by
  have wk : ∀ n : Nat, n ≤ 300000 → w64 ((n : Int) + (k : Int)) = ((n + k : Nat) : Int) := fun n hn => by rw [w64_id (by omega)]; omega
  have w2 : w64 (2 * (k : Int)) = ((2 * k : Nat) : Int) := by rw [w64_id (by omega)]; omega
  rw [SlicesstableCmpFuncguiderow_v1.loop3]
  cases hB with
  | last L hl hs =>
   have d : decide (((A.length + 2 * k : Nat) : Int) ≤ ((A.length + L.length : Nat) : Int)) = false := by simp; omega
   have d2 : decide (((A.length + k : Nat) : Int) < ((A.length + L.length : Nat) : Int)) = false := by simp; omega
   refine ⟨_, _, _, L, by rw [d]; rfl, ?_, .refl _, .last L (by omega) hs⟩
   rw [wk _ (by omega), d2]; rfl
  | cons B L1 lB sB hx hB =>
   simp only [List.length_append] at h hf hb
   cases hB with
   | last _ hl hs =>
    by_cases c0 : L1 = []
    ·subst c0
     have d : decide (((A.length + 2 * k : Nat) : Int) ≤ ((A.length + (B ++ []).length : Nat) : Int)) = false := by simp; omega
     have d2 : decide (((A.length + k : Nat) : Int) < ((A.length + (B ++ []).length : Nat) : Int)) = false := by simp; omega
     refine ⟨_, _, _, B, by rw [d]; rfl, ?_, by simp, .last B (by omega) sB⟩
     rw [wk _ (by omega), d2, List.append_nil]; rfl
    ·have lp : 0 < L1.length := List.length_pos_iff.2 c0
     obtain ⟨R, r1, r2, r3⟩ := sym_ok hC fu A B L1 [] (A.length : Int) ((A.length + k : Nat) : Int) ((A.length + (B ++ L1).length : Nat) : Int) rfl (by rw [lB]) (by simp; omega) (by intro e; subst e; simp at lB; omega) c0 (by omega) (by omega) (fun y hy => hV y (by simp [hy])) (fun y hy => hV y (by simp [hy])) hx sB hs
     simp only [List.append_nil] at r1
     have lR : R.length = k + L1.length := by rw [r2.length_eq]; simp [lB]
     by_cases c : L1.length = k
     ·have d : decide (((A.length + 2 * k : Nat) : Int) ≤ ((A.length + (B ++ L1).length : Nat) : Int)) = true := by simp; omega
      have x1 : ((A.length + (B ++ L1).length : Nat) : Int) = ((A.length + 2 * k : Nat) : Int) := by simp; omega
      obtain ⟨m, rfl⟩ : ∃ m', m = m' + 1 := ⟨m - 1, by omega⟩
      have x2 : w64 (((A.length + 2 * k : Nat) : Int) + w64 (2 * (k : Int))) = ((A.length + 4 * k : Nat) : Int) := by rw [w2, w64_id (by omega)]; omega
      have d2 : decide (((A.length + 4 * k : Nat) : Int) ≤ ((A.length + 2 * k : Nat) : Int)) = false := by simp; omega
      have d3 : decide (((A.length + 2 * k + k : Nat) : Int) < ((A.length + 2 * k : Nat) : Int)) = false := by simp; omega
      refine ⟨((A.length + 2 * k : Nat) : Int), ((A.length + 4 * k : Nat) : Int), A ++ R, R, ?_, ?_, r2, .last R (by omega) r3⟩
      ·rw [d, wk _ (by omega)]
       rw [x1] at r1 ⊢
       simp only [if_true, r1, Option.bind_some, SlicesstableCmpFuncguiderow_v1.loop3, x2, d2, Bool.false_eq_true, if_false]
      ·rw [wk _ (by omega), x1, d3]; rfl
     ·have d : decide (((A.length + 2 * k : Nat) : Int) ≤ ((A.length + (B ++ L1).length : Nat) : Int)) = false := by simp; omega
      have d2 : decide (((A.length + k : Nat) : Int) < ((A.length + (B ++ L1).length : Nat) : Int)) = true := by simp; omega
      refine ⟨_, _, _, R, by rw [d]; rfl, ?_, r2, .last R (by omega) r3⟩
      rw [wk _ (by omega), d2]; exact r1
   | cons B2 L2 lB2 sB2 hx2 hB2 =>
    simp only [List.length_append] at h hf hb
    obtain ⟨R, r1, r2, r3⟩ := sym_ok hC fu A B B2 L2 (A.length : Int) ((A.length + k : Nat) : Int) ((A.length + 2 * k : Nat) : Int) rfl (by rw [lB]) (by omega) (by intro e; subst e; simp at lB; omega) (by intro e; subst e; simp at lB2; omega) (by omega) (by omega) (fun y hy => hV y (by simp [hy])) (fun y hy => hV y (by simp [hy])) (fun x hx' y hy => hx x hx' y (by simp [hy])) sB sB2
    have lR : R.length = 2 * k := by rw [r2.length_eq]; simp [lB, lB2]; omega
    obtain ⟨a, b, q, L', e1, e2, e3, e4⟩ := merges (fu := fu) hC hk hk2 m (A ++ R) L2 (by omega) (by omega) (by simp; omega) (fun y hy => hV y (by simp [hy])) hB2
    have d : decide (((A.length + 2 * k : Nat) : Int) ≤ ((A.length + (B ++ (B2 ++ L2)).length : Nat) : Int)) = true := by simp; omega
    have x1 : ((A.length + (B ++ (B2 ++ L2)).length : Nat) : Int) = (((A ++ R).length + L2.length : Nat) : Int) := by simp; omega
    have x2 : w64 (((A.length + 2 * k : Nat) : Int) + w64 (2 * (k : Int))) = (((A ++ R).length + 2 * k : Nat) : Int) := by rw [w2, w64_id (by omega)]; simp; omega
    have x3 : ((A.length + 2 * k : Nat) : Int) = ((A ++ R).length : Int) := by simp; omega
    refine ⟨a, b, q, R ++ L', ?_, ?_, ?_, .cons R L' lR r3 ?_ e4⟩
    ·rw [d, wk _ (by omega)]
     simp only [if_true] at r1 ⊢
     rw [r1, Option.bind_some, x2, x3, x1, ← List.append_assoc]; exact e1
    ·rw [x1, e2, List.append_assoc]
    ·rw [← List.append_assoc]; exact r2.append e3
    ·intro x hx' y hy
     rcases List.mem_append.1 (r2.subset hx') with h1 | h1
     ·exact hx x h1 y (by simp [e3.subset hy])
     ·exact hx2 x h1 y (e3.subset hy)
theorem Bl.sorted {k : Nat} : ∀ {L : List GuideRow}, Bl D k L → L.length ≤ k → L.Pairwise (Lt D)
 | _, .last _ _ h, _ => h
 | _, .cons B L lB sB _ _, h => by
  simp only [List.length_append] at h
  obtain rfl : L = [] := List.length_eq_zero_iff.1 (by omega)
  simpa using sB
theorem doubles (hC : ∀ x y, V x → V y → (GuideBoard_2 x y < 0 ↔ D x < D y)) {fu : Nat} : ∀ (m : Nat) (k : Nat) (L : List GuideRow), 1 ≤ k → k ≤ 200000 → L.length < k + m → L.length + 3 ≤ fu → 0 < m → L.length ≤ 100000 → (∀ y ∈ L, V y) → Bl D k L →
  ∃ b R, SlicesstableCmpFuncguiderow_v1.loop2 (L.length : Int) fu m (k : Int) L = some (b, R) ∧ R.Perm L ∧ R.Pairwise (Lt D)
 | 0, _, _, _, _, _, _, h, _, _, _ => absurd h (by omega)
 | m + 1, k, L, hk, hk2, h, hf, _, hb, hV, hB => by
  rw [SlicesstableCmpFuncguiderow_v1.loop2]
  by_cases c : k < L.length
  ·have d : decide ((k : Int) < (L.length : Int)) = true := by simp; omega
   obtain ⟨a, b, q, L', e1, e2, e3, e4⟩ := merges hC hk (by omega) fu [] L (by omega) hf (by simp; omega) hV hB
   have lL := e3.length_eq
   obtain ⟨b', R, f1, f2, f3⟩ := doubles (fu := fu) hC m (2 * k) L' (by omega) (by omega) (by omega) (by omega) (by omega) (by omega) (fun y hy => hV y (e3.subset hy)) e4
   have w1 : w64 (2 * (k : Int)) = ((2 * k : Nat) : Int) := by rw [w64_id (by omega)]; omega
   have w2 : w64 ((k : Int) * 2) = ((2 * k : Nat) : Int) := by rw [w64_id (by omega)]; omega
   simp only [List.nil_append, List.length_nil, Nat.zero_add] at e1 e2
   have z : (0 : Int) = ((0 : Nat) : Int) := rfl
   refine ⟨b', R, ?_, f2.trans e3, f3⟩
   rw [d, w1, w2]
   rw [z, e1]
   simp only [if_true, Option.bind_some]
   rw [← lL] at e2 ⊢
   split at e2
   ·rename_i g; rw [if_pos g, e2]; exact f1
   ·rename_i g; rw [if_neg g]; cases e2; exact f1
  ·have d : decide ((k : Int) < (L.length : Int)) = false := by simp; omega
   exact ⟨_, L, by rw [d]; rfl, .refl _, hB.sorted (by omega)⟩
theorem stable_ok (hC : ∀ x y, V x → V y → (GuideBoard_2 x y < 0 ↔ D x < D y)) {fu : Nat} {X : List GuideRow} (hf : X.length + 60 ≤ fu) (hn : X.length ≤ 100000) (hV : ∀ y ∈ X, V y) (hu : X.Pairwise (fun a b => D a ≠ D b)) :
  ∃ R, SlicesSortStableFuncLguiderow_v1 fu X = some R ∧ R.Perm X ∧ R.Pairwise (Lt D) := by
 unfold SlicesSortStableFuncLguiderow_v1 SlicesstableCmpFuncguiderow_v1
 obtain ⟨a, b, q, L', e1, e2, e3, e4⟩ := blocks hC (fu := fu) (by omega) fu [] X (by omega) (by simp; omega) hV hu
 have lL := e3.length_eq
 obtain ⟨b', R, f1, f2, f3⟩ := doubles hC (fu := fu) fu 20 L' (by omega) (by omega) (by omega) (by omega) (by omega) (by omega) (fun y hy => hV y (e3.subset hy)) e4
 simp only [List.nil_append, List.length_nil, Nat.zero_add] at e1 e2
 rw [lL] at f1
 have z : (0 : Int) = ((0 : Nat) : Int) := rfl
 have z2 : (20 : Int) = ((20 : Nat) : Int) := rfl
 refine ⟨R, ?_, f2.trans e3, f3⟩
 rw [z, z2, e1]
 simp only [Option.bind_some]
 rw [e2, Option.bind_some, f1]; rfl
end stable
theorem cmpi_lt (x y : Int) : CmpCompareint x y < 0 ↔ x < y := by
 unfold CmpCompareint CmpisNaNint
 simp
 by_cases h : x < y
 ·simp [h]
 ·by_cases k : y < x <;> simp [h, k]
theorem cmpi_zero (x y : Int) : CmpCompareint x y = 0 ↔ x = y := by
 unfold CmpCompareint CmpisNaNint
 simp
 by_cases h : x < y
 ·simp [h]; omega
 ·by_cases k : y < x
  ·simp [h, k]; omega
  ·simp [h, k]; omega
theorem or3 (a b c : Int) : CmpOrint [a, b, c] < 0 ↔ a < 0 ∨ a = 0 ∧ (b < 0 ∨ b = 0 ∧ c < 0) := by
 unfold CmpOrint
 simp only [CmpOrint.loop1, bnd_eq]
 by_cases ha : a = 0
 ·subst ha
  by_cases hb : b = 0
  ·subst hb
   by_cases hc : c = 0
   ·subst hc; simp
   ·simp [hc]
  ·simp [hb]
 ·simp [ha]
theorem cmp_three (a1 a2 a3 b1 b2 b3 : Int) : ∃ v, SlicesCompareLint [a1, a2, a3] [b1, b2, b3] = some v ∧ (v < 0 ↔ a1 < b1 ∨ a1 = b1 ∧ (a2 < b2 ∨ a2 = b2 ∧ a3 < b3)) := by
 have g0 : gx [b1, b2, b3] ((0 : Nat) : Int) = some b1 := rfl
 have g1 : gx [b1, b2, b3] ((0 + 1 : Nat) : Int) = some b2 := rfl
 have g2 : gx [b1, b2, b3] ((0 + 1 + 1 : Nat) : Int) = some b3 := rfl
 rw [SlicesCompareLint]
 simp only [SlicesCompareLint.loop1, g0, g1, g2, Option.bind_some]
 have n0 : decide (((0 : Nat) : Int) ≥ (([b1, b2, b3] : List Int).length : Int)) = false := by simp
 have n1 : decide (((0 + 1 : Nat) : Int) ≥ (([b1, b2, b3] : List Int).length : Int)) = false := by simp
 have n2 : decide (((0 + 1 + 1 : Nat) : Int) ≥ (([b1, b2, b3] : List Int).length : Int)) = false := by simp
 rw [n0, n1, n2]
 simp only [Bool.false_eq_true, if_false]
 by_cases c1 : CmpCompareint a1 b1 = 0
 ·have e1 := (cmpi_zero _ _).1 c1
  rw [c1]
  by_cases c2 : CmpCompareint a2 b2 = 0
  ·have e2 := (cmpi_zero _ _).1 c2
   rw [c2]
   by_cases c3 : CmpCompareint a3 b3 = 0
   ·have e3 := (cmpi_zero _ _).1 c3
    rw [c3]
    refine ⟨0, rfl, ?_⟩
    omega
   ·have b : (CmpCompareint a3 b3 != 0) = true := by simpa using c3
    rw [b]
    refine ⟨CmpCompareint a3 b3, rfl, ?_⟩
    rw [cmpi_lt]; omega
  ·have b : (CmpCompareint a2 b2 != 0) = true := by simpa using c2
   have e2 : ¬ a2 = b2 := fun e => c2 ((cmpi_zero _ _).2 e)
   rw [b]
   refine ⟨CmpCompareint a2 b2, rfl, ?_⟩
   rw [cmpi_lt]; omega
 ·have b : (CmpCompareint a1 b1 != 0) = true := by simpa using c1
  have e1 : ¬ a1 = b1 := fun e => c1 ((cmpi_zero _ _).2 e)
  rw [b]
  refine ⟨CmpCompareint a1 b1, rfl, ?_⟩
  rw [cmpi_lt]; omega
def ptS (S : List ApiStop) (st : Int) (k : Nat) (dep : Int) : Int := match S[k]? with
 | some s => if s.Station == st then s.Dep else dep
 | none => dep
def noT : ApiTrain := ApiTrain.mk 0 0 [] []
def planS (P : List ApiTrain) (no : Int) : List ApiStop := ((P.find? fun s => s.No == no).getD noT).Stops
def rowA (P : List ApiTrain) (st : Int) (t : ApiTrain) (to : Int) (x : ApiStop) (k : Nat) : GuideRow :=
 ⟨⟨ptS (planS P t.No) st k x.Dep, mx 0 (x.Dep - ptS (planS P t.No) st k x.Dep), t.No, to, x.Track, false⟩, (k : Int)⟩
def rowB (t : ApiTrain) (to : Int) (x : ApiStop) (k : Nat) : GuideRow := ⟨⟨x.Dep, 0, t.No, to, -1, true⟩, (k : Int)⟩
def pickR (f : ApiStop → Nat → GuideRow) (st now : Int) : List ApiStop → Nat → List GuideRow
 | [], _ => []
 | x :: r, k => if x.Station = st then (if now ≤ (f x k).Line.Time + (f x k).Line.Late then f x k :: pickR f st now r (k + 1) else pickR f st now r (k + 1)) else pickR f st now r (k + 1)
theorem pickR_len (f : ApiStop → Nat → GuideRow) (st now : Int) : ∀ (r : List ApiStop) (k : Nat), (pickR f st now r k).length ≤ r.length
 | [], _ => Nat.le_refl _
 | x :: r, k => by
  have ih := pickR_len f st now r (k + 1)
  rw [pickR]
  split
  ·split
   ·simp only [List.length_cons]; omega
   ·simp only [List.length_cons]; omega
  ·simp only [List.length_cons]; omega
theorem mx0 (x : Int) : mx 0 x = if 0 < x then x else 0 := by
 unfold mx
 by_cases h : 0 < x
 ·rw [if_pos h]
 ·rw [if_neg h]
def DepOk (S : List ApiStop) : Prop := ∀ x ∈ S, 0 ≤ x.Dep ∧ x.Dep ≤ 28800
theorem ptS_in {S : List ApiStop} (hS : DepOk S) {dep : Int} (hd : 0 ≤ dep ∧ dep ≤ 28800) (st : Int) (k : Nat) : 0 ≤ ptS S st k dep ∧ ptS S st k dep ≤ 28800 := by
 unfold ptS
 split
 ·rename_i s hs
  split
  ·exact hS s (List.mem_of_getElem? hs)
  ·exact hd
 ·exact hd
theorem late_in {S : List ApiStop} (hS : DepOk S) {dep : Int} (hd : 0 ≤ dep ∧ dep ≤ 28800) (st : Int) (k : Nat) : 0 ≤ mx 0 (dep - ptS S st k dep) ∧ mx 0 (dep - ptS S st k dep) ≤ 28800 := by
 have := ptS_in hS hd st k
 rw [mx0]
 split <;> omega
theorem plan_at {S : List ApiStop} (hS : DepOk S) {dep : Int} (hd : 0 ≤ dep ∧ dep ≤ 28800) (st : Int) (k : Nat) (tr : Int) :
  (((if decide (((k : Nat) : Int) < ((S).length : Int)) then ((gx S ((k : Nat) : Int)).bind fun x131 => some (x131.Station == st)) else some false) : Option Bool).bind fun q128 => (((if q128 then ((gx S ((k : Nat) : Int)).bind fun x148 => some (x148.Dep, mx 0 (w64 (dep - x148.Dep)))) else some (dep, 0)) : Option (Int × Int)).bind fun q141 => match q141 with | (q144, q145) => some (q144, q145, tr)))
   = some (ptS S st k dep, mx 0 (dep - ptS S st k dep), tr) := by
 unfold ptS
 cases h : S[k]? with
 | none =>
  have hk : S.length ≤ k := by simpa using h
  rw [decide_eq_false (by omega), if_neg (by decide)]
  simp [mx]
 | some s =>
  obtain ⟨hlt, e⟩ := List.getElem?_eq_some_iff.1 h
  have hs := hS s (List.mem_of_getElem? h)
  rw [decide_eq_true (by omega), if_pos rfl, gx_nat, h]
  simp only [Option.bind_some]
  cases c : (s.Station == st) with
  | true => simp only [if_true, Option.bind_some]; rw [w64_id (by omega)]
  | false => simp [mx]
theorem progA {P : List ApiTrain} {m : List (Int × ApiTrain)} {st now : Int} {t : ApiTrain} {last : ApiStop} (hl : gx t.Stops (w64 (((t.Stops).length : Int) - 1)) = some last) (hm : (mget m t.No).getD noT = (P.find? fun s => s.No == t.No).getD noT) (hP : DepOk (planS P t.No)) :
  ∀ (r : List ApiStop) (k : Nat) (q : List GuideRow), DepOk r → q.length + r.length < 4294967296 → GuideBoard_1_v1.loop1 t false st m now r k q = some (q ++ pickR (rowA P st t last.Station) st now r k)
 | [], k, q, _, _ => by simp [GuideBoard_1_v1.loop1, pickR]
 | x :: r, k, q, hr, hq => by
  have hx := hr x (by simp)
  have hr' : DepOk r := fun y hy => hr y (by simp [hy])
  simp only [List.length_cons] at hq
  rw [GuideBoard_1_v1.loop1, pickR]
  by_cases c : x.Station = st
  ·have h1 := ptS_in hP hx st k
   have h2 := late_in hP hx st k
   rw [if_neg (by simpa using c), if_pos c, hl, Option.bind_some, if_neg (by decide), bnd_eq, show (mget m t.No).getD (ApiTrain.mk 0 0 [] []) = (P.find? fun s => s.No == t.No).getD noT from hm]
   rw [show (((P.find? fun s => s.No == t.No).getD noT).Stops) = planS P t.No from rfl, plan_at hP hx st k x.Track, Option.bind_some]
   simp only
   rw [w64_id (by omega)]
   by_cases d : now ≤ ptS (planS P t.No) st k x.Dep + mx 0 (x.Dep - ptS (planS P t.No) st k x.Dep)
   ·rw [decide_eq_true d, if_pos rfl, apd_lt (by simp; omega), Option.bind_some, Option.bind_some, progA hl hm hP r (k + 1) _ hr' (by simp; omega), if_pos (show now ≤ (rowA P st t last.Station x k).Line.Time + (rowA P st t last.Station x k).Line.Late from d)]
    simp [rowA]
   ·rw [decide_eq_false d, if_neg (by decide), Option.bind_some, progA hl hm hP r (k + 1) _ hr' (by omega), if_neg (show ¬ now ≤ (rowA P st t last.Station x k).Line.Time + (rowA P st t last.Station x k).Line.Late from d)]
  ·rw [if_pos (by simpa using c), if_neg c, progA hl hm hP r (k + 1) q hr' (by omega)]
theorem progB {m : List (Int × ApiTrain)} {st now : Int} {t : ApiTrain} {last : ApiStop} (hl : gx t.Stops (w64 (((t.Stops).length : Int) - 1)) = some last) :
  ∀ (r : List ApiStop) (k : Nat) (q : List GuideRow), DepOk r → q.length + r.length < 4294967296 → GuideBoard_1_v1.loop1 t true st m now r k q = some (q ++ pickR (rowB t last.Station) st now r k)
 | [], k, q, _, _ => by simp [GuideBoard_1_v1.loop1, pickR]
 | x :: r, k, q, hr, hq => by
  have hx := hr x (by simp)
  have hr' : DepOk r := fun y hy => hr y (by simp [hy])
  simp only [List.length_cons] at hq
  rw [GuideBoard_1_v1.loop1, pickR]
  by_cases c : x.Station = st
  ·rw [if_neg (by simpa using c), if_pos c, hl, Option.bind_some, if_pos rfl, Option.bind_some]
   simp only
   rw [w64_id (by omega)]
   by_cases d : now ≤ x.Dep + 0
   ·rw [decide_eq_true d, if_pos rfl, apd_lt (by simp; omega), Option.bind_some, Option.bind_some, progB hl r (k + 1) _ hr' (by simp; omega), if_pos (show now ≤ (rowB t last.Station x k).Line.Time + (rowB t last.Station x k).Line.Late from d)]
    simp [rowB]
   ·rw [decide_eq_false d, if_neg (by decide), Option.bind_some, progB hl r (k + 1) _ hr' (by omega), if_neg (show ¬ now ≤ (rowB t last.Station x k).Line.Time + (rowB t last.Station x k).Line.Late from d)]
  ·rw [if_pos (by simpa using c), if_neg c, progB hl r (k + 1) q hr' (by omega)]
def lastS (t : ApiTrain) : ApiStop := (t.Stops[t.Stops.length - 1]?).getD default
def fore (t : ApiTrain) : List ApiStop := t.Stops.take (t.Stops.length - 1)
structure Tok (t : ApiTrain) : Prop where
 len : 2 ≤ t.Stops.length ∧ t.Stops.length ≤ 8
 dep : DepOk t.Stops
 no : 1 ≤ t.No ∧ t.No ≤ 9999
theorem Tok.last {t : ApiTrain} (h : Tok t) : gx t.Stops (w64 (((t.Stops).length : Int) - 1)) = some (lastS t) := by
 have := h.len
 rw [w64_id (by omega), show ((t.Stops.length : Int) - 1) = ((t.Stops.length - 1 : Nat) : Int) by omega, gx_nat]
 unfold lastS
 rw [List.getElem?_eq_getElem (by omega)]; rfl
theorem Tok.cut {t : ApiTrain} (h : Tok t) : cutl t.Stops 0 (w64 (((t.Stops).length : Int) - 1)) = some (fore t) := by
 have := h.len
 rw [w64_id (by omega), cutl_in (by omega) (by omega) (by omega)]
 unfold fore
 rw [show ((t.Stops.length : Int) - 1).toNat = t.Stops.length - 1 by omega]; rfl
theorem Tok.fdep {t : ApiTrain} (h : Tok t) : DepOk (fore t) := fun x hx => h.dep x (List.mem_of_mem_take hx)
theorem Tok.flen {t : ApiTrain} (h : Tok t) : (fore t).length ≤ 7 := by have := h.len; unfold fore; simp; omega
theorem tok {d : ApiDay} (h : DayOk d) {t : ApiTrain} (ht : t ∈ d.Trains) : Tok t :=
 ⟨⟨h.two t ht, (h.form.2.2.1 t ht).2.1⟩, fun x hx => by have := (h.stops t ht).1 x hx; omega, h.nos t ht⟩
def rowsA (P : List ApiTrain) (st now : Int) (t : ApiTrain) : List GuideRow := pickR (rowA P st t (lastS t).Station) st now (fore t) 0
def rowsB (st now : Int) (t : ApiTrain) : List GuideRow := pickR (rowB t (lastS t).Station) st now (fore t) 0
theorem rowsA_len {P : List ApiTrain} {st now : Int} {t : ApiTrain} (h : Tok t) : (rowsA P st now t).length ≤ 7 := Nat.le_trans (pickR_len _ _ _ _ _) h.flen
theorem rowsB_len {st now : Int} {t : ApiTrain} (h : Tok t) : (rowsB st now t).length ≤ 7 := Nat.le_trans (pickR_len _ _ _ _ _) h.flen
theorem planOk {P : List ApiTrain} (hP : ∀ t ∈ P, Tok t) (no : Int) : DepOk (planS P no) := by
 unfold planS
 cases h : P.find? (fun s => s.No == no) with
 | none => intro x hx; simp [noT] at hx
 | some t => exact (hP t (List.mem_of_find?_eq_some h)).dep
theorem boardA {P : List ApiTrain} (hP : ∀ t ∈ P, Tok t) {m : List (Int × ApiTrain)} {st now : Int} {t : ApiTrain} (h : Tok t) (hm : (mget m t.No).getD noT = (P.find? fun s => s.No == t.No).getD noT) {q : List GuideRow} (hq : q.length < 100000) :
  GuideBoard_1_v1 t false st m now q = some (q ++ rowsA P st now t) := by
 have := h.flen
 rw [GuideBoard_1_v1, h.cut, Option.bind_some, progA h.last hm (planOk hP _) _ _ _ h.fdep (by omega)]; rfl
theorem boardB {m : List (Int × ApiTrain)} {st now : Int} {t : ApiTrain} (h : Tok t) {q : List GuideRow} (hq : q.length < 100000) : GuideBoard_1_v1 t true st m now q = some (q ++ rowsB st now t) := by
 have := h.flen
 rw [GuideBoard_1_v1, h.cut, Option.bind_some, progB h.last _ _ _ h.fdep (by omega)]; rfl
theorem mget_mput {ν : Type} (m : List (Int × ν)) (k j : Int) (v : ν) : mget (mput m k v) j = if j = k then some v else mget m j := by
 induction m with
 | nil => simp [mput, mget]
 | cons p r ih =>
  obtain ⟨a, b⟩ := p
  simp only [mput]
  by_cases h : k = a
  ·subst h
   simp only [beq_self_eq_true, if_true, mget]
   by_cases h2 : j = k <;> simp [h2]
  ·have hb : (k == a) = false := by simpa using h
   simp only [hb, Bool.false_eq_true, if_false, mget]
   by_cases h2 : j = a
   ·subst h2; have : ¬ j = k := fun e => h e.symm; simp [this]
   ·have hb2 : (j == a) = false := by simpa using h2
    simp [hb2, ih]
theorem loop3 {P : List ApiTrain} (hP : ∀ t ∈ P, Tok t) {m : List (Int × ApiTrain)} (hm : ∀ no, (mget m no).getD noT = (P.find? fun s => s.No == no).getD noT) {st now : Int} : ∀ (l : List ApiTrain) (q : List GuideRow) (r : List (Int × Bool)), (∀ t ∈ l, Tok t) → q.length + 7 * l.length < 100000 →
  ∃ r', GuideBoard.loop3 st now m l q r = some (q ++ l.flatMap (rowsA P st now), r') ∧ ∀ no, (mget r' no).getD false = (l.any (fun s => s.No == no) || (mget r no).getD false)
 | [], q, r, _, _ => ⟨r, by simp [GuideBoard.loop3], by simp⟩
 | t :: l, q, r, ht, hq => by
  simp only [List.length_cons] at hq
  have h1 := ht t (by simp)
  have h2 := rowsA_len (P := P) (st := st) (now := now) h1
  obtain ⟨r', e1, e2⟩ := loop3 hP hm l (q ++ rowsA P st now t) (mput r t.No true) (fun x hx => ht x (by simp [hx])) (by simp; omega)
  refine ⟨r', by rw [GuideBoard.loop3, boardA hP h1 (hm _) (by omega), Option.bind_some, e1]; simp, fun no => ?_⟩
  rw [e2 no, mget_mput, List.any_cons]
  by_cases c : no = t.No
  ·subst c; simp
  ·rw [if_neg c, show (t.No == no) = false by simpa using fun e => c e.symm]; rfl
theorem loop4 {m : List (Int × ApiTrain)} {runs : List (Int × Bool)} {st now : Int} : ∀ (l : List ApiTrain) (q : List GuideRow), (∀ t ∈ l, Tok t) → q.length + 7 * l.length < 100000 →
  GuideBoard.loop4 st now m runs l q = some (q ++ (l.filter fun t => !(mget runs t.No).getD false).flatMap (rowsB st now))
 | [], q, _, _ => by simp [GuideBoard.loop4]
 | t :: l, q, ht, hq => by
  simp only [List.length_cons] at hq
  have h1 := ht t (by simp)
  have h2 := rowsB_len (st := st) (now := now) h1
  rw [GuideBoard.loop4, List.filter_cons]
  by_cases c : (!(mget runs t.No).getD false) = true
  ·rw [if_pos c, if_pos c, boardB h1 (by omega), Option.bind_some, loop4 l _ (fun x hx => ht x (by simp [hx])) (by simp; omega)]; simp
  ·rw [if_neg c, if_neg c, loop4 l _ (fun x hx => ht x (by simp [hx])) (by omega)]
theorem loop2 : ∀ (l : List ApiTrain) (m : List (Int × ApiTrain)) (no : Int), l.Pairwise (fun s t => s.No ≠ t.No) → mget (GuideBoard.loop2 l m) no = match l.find? (fun s => s.No == no) with | some t => some t | none => mget m no
 | [], _, _, _ => rfl
 | x :: l, m, no, h => by
  rw [List.pairwise_cons] at h
  rw [GuideBoard.loop2, loop2 l _ no h.2, List.find?_cons]
  by_cases c : x.No = no
  ·subst c
   have : l.find? (fun s => s.No == x.No) = none := by
    rw [List.find?_eq_none]
    intro y hy e
    exact h.1 y hy (by simpa using e : y.No = x.No).symm
   rw [this, mget_mput, beq_self_eq_true]; simp
  ·rw [show (x.No == no) = false by simpa using c]
   simp only
   rw [mget_mput, if_neg (fun e => c e.symm)]
def toR (r : GuideRow) : Fishref2Row := ⟨r.Line, r.stop⟩
theorem byNo_loop (no : Int) : ∀ (l : List ApiTrain) (k : Nat), (SlicesIndexFuncLapiTrain_v1.loop1 no l k = .next () ∧ l.find? (fun s => s.No == no) = none) ∨ ∃ (j : Nat) (q : ApiTrain), SlicesIndexFuncLapiTrain_v1.loop1 no l k = .ret ((k + j : Nat) : Int) ∧ l[j]? = some q ∧ l.find? (fun s => s.No == no) = some q
 | [], k => .inl ⟨rfl, rfl⟩
 | x :: l, k => by
  rw [SlicesIndexFuncLapiTrain_v1.loop1, List.find?_cons, Fishref2byNo_1_v1]
  cases c : (x.No == no) with
  | true => exact .inr ⟨0, x, by simp, rfl, rfl⟩
  | false =>
   rcases byNo_loop no l (k + 1) with ⟨h1, h2⟩ | ⟨j, q, h1, h2, h3⟩
   ·exact .inl ⟨by simpa using h1, h2⟩
   ·refine .inr ⟨j + 1, q, ?_, by simpa using h2, h3⟩
    rw [if_neg (by decide), h1, show k + 1 + j = k + (j + 1) by omega]
theorem byNo_cases (d : ApiDay) (no : Int) : (Fishref2byNo d no = -1 ∧ d.Trains.find? (fun s => s.No == no) = none) ∨ ∃ q, 0 ≤ Fishref2byNo d no ∧ gx d.Trains (Fishref2byNo d no) = some q ∧ d.Trains.find? (fun s => s.No == no) = some q := by
 unfold Fishref2byNo SlicesIndexFuncLapiTrain_v1
 rcases byNo_loop no d.Trains 0 with ⟨h1, h2⟩ | ⟨j, q, h1, h2, h3⟩
 ·exact .inl ⟨by rw [h1]; rfl, h2⟩
 ·refine .inr ⟨q, ?_, ?_, h3⟩
  ·rw [h1, bnd_eq]; simp only; omega
  ·rw [h1, bnd_eq]; simp only [Nat.zero_add]; rw [gx_nat]; exact h2
theorem byNo_any (d : ApiDay) (no : Int) : decide (Fishref2byNo d no ≥ 0) = d.Trains.any (fun s => s.No == no) := by
 rcases byNo_cases d no with ⟨h1, h2⟩ | ⟨q, h1, _, h3⟩
 ·rw [h1, List.find?_eq_none] at *
  rw [decide_eq_false (by omega)]
  symm
  rw [List.any_eq_false]
  exact h2
 ·rw [decide_eq_true h1]
  symm
  rw [List.any_eq_true]
  exact ⟨q, List.mem_of_find?_eq_some h3, by simpa using List.find?_some h3⟩
theorem ref_at (d : ApiDay) (no st dep : Int) (k : Nat) :
  (((if decide ((Fishref2byNo d no) ≥ 0) then ((gx d.Trains (Fishref2byNo d no)).bind fun x138 => (if decide (((k : Nat) : Int) < ((x138.Stops).length : Int)) then ((gx d.Trains (Fishref2byNo d no)).bind fun x154 => ((gx x154.Stops ((k : Nat) : Int)).bind fun x169 => some (x169.Station == st))) else some false)) else some false) : Option Bool).bind fun q135 => ((if q135 then ((gx d.Trains (Fishref2byNo d no)).bind fun x185 => ((gx x185.Stops ((k : Nat) : Int)).bind fun x200 => some x200.Dep)) else some dep) : Option Int))
   = some (ptS (planS d.Trains no) st k dep) := by
 unfold planS ptS
 rcases byNo_cases d no with ⟨h1, h2⟩ | ⟨q, h1, h2, h3⟩
 ·rw [h1, decide_eq_false (by omega), if_neg (by decide), h2]
  simp [noT]
 ·rw [decide_eq_true h1, if_pos rfl, h2, h3]
  simp only [Option.bind_some, Option.getD_some]
  cases h : q.Stops[k]? with
  | none =>
   have hk : q.Stops.length ≤ k := by simpa using h
   rw [decide_eq_false (by omega), if_neg (by decide)]
   simp
  | some s =>
   obtain ⟨hlt, e⟩ := List.getElem?_eq_some_iff.1 h
   rw [decide_eq_true (by omega), if_pos rfl, gx_nat, h]
   simp only [Option.bind_some]
   cases c : (s.Station == st) <;> simp
theorem ref_add {now : Int} {x : GuideRow} {q : List GuideRow} (h : -9223372036854775808 ≤ x.Line.Time + x.Line.Late ∧ x.Line.Time + x.Line.Late ≤ 9223372036854775807) (hq : q.length < 100000) :
  Fishref2BoardOf_1_v1 x.Line x.stop now (q.map toR) = some ((if now ≤ x.Line.Time + x.Line.Late then q ++ [x] else q).map toR) := by
 unfold Fishref2BoardOf_1_v1
 rw [w64_id h]
 by_cases c : now ≤ x.Line.Time + x.Line.Late
 ·rw [decide_eq_true c, if_pos rfl, if_pos c, apd_lt (by simp; omega)]
  simp [toR]
 ·rw [decide_eq_false c, if_neg (by decide), if_neg c]; rfl
theorem refA {d : ApiDay} {st now : Int} {t : ApiTrain} {last : ApiStop} (hl : gx t.Stops (w64 (((t.Stops).length : Int) - 1)) = some last) (hP : DepOk (planS d.Trains t.No)) :
  ∀ (r : List ApiStop) (k : Nat) (q : List GuideRow), DepOk r → q.length + r.length < 100000 → Fishref2BoardOf.loop2 d st now t r k (q.map toR) = some ((q ++ pickR (rowA d.Trains st t last.Station) st now r k).map toR)
 | [], k, q, _, _ => by simp [Fishref2BoardOf.loop2, pickR]
 | x :: r, k, q, hr, hq => by
  have hx := hr x (by simp)
  have hr' : DepOk r := fun y hy => hr y (by simp [hy])
  simp only [List.length_cons] at hq
  rw [Fishref2BoardOf.loop2, pickR]
  by_cases c : x.Station = st
  ·have h1 := ptS_in hP hx st k
   have h2 := late_in hP hx st k
   rw [if_neg (by simpa using c), if_pos c, hl, Option.bind_some, ← Option.bind_assoc, ref_at d t.No st x.Dep k, Option.bind_some, w64_id (by omega)]
   have h3 := ref_add (now := now) (x := rowA d.Trains st t last.Station x k) (q := q) (by simp only [rowA]; omega) (by omega)
   refine Eq.trans (congrArg (fun z => Option.bind z fun q209 => Fishref2BoardOf.loop2 d st now t r (k + 1) q209) h3) ?_
   show Option.bind (some _) _ = _
   rw [Option.bind_some]
   by_cases e : now ≤ (rowA d.Trains st t last.Station x k).Line.Time + (rowA d.Trains st t last.Station x k).Line.Late
   ·rw [if_pos e, if_pos e, refA hl hP r (k + 1) _ hr' (by simp; omega)]; simp
   ·rw [if_neg e, if_neg e, refA hl hP r (k + 1) _ hr' (by omega)]
  ·rw [if_pos (by simpa using c), if_neg c, refA hl hP r (k + 1) q hr' (by omega)]
theorem refB {st now : Int} {t : ApiTrain} {last : ApiStop} (hl : gx t.Stops (w64 (((t.Stops).length : Int) - 1)) = some last) :
  ∀ (r : List ApiStop) (k : Nat) (q : List GuideRow), DepOk r → q.length + r.length < 100000 → Fishref2BoardOf.loop4 st now t r k (q.map toR) = some ((q ++ pickR (rowB t last.Station) st now r k).map toR)
 | [], k, q, _, _ => by simp [Fishref2BoardOf.loop4, pickR]
 | x :: r, k, q, hr, hq => by
  have hx := hr x (by simp)
  have hr' : DepOk r := fun y hy => hr y (by simp [hy])
  simp only [List.length_cons] at hq
  rw [Fishref2BoardOf.loop4, pickR]
  by_cases c : x.Station = st
  ·rw [if_pos (by simpa using c), if_pos c, hl, Option.bind_some]
   have h3 := ref_add (now := now) (x := rowB t last.Station x k) (q := q) (by simp only [rowB]; omega) (by omega)
   refine Eq.trans (congrArg (fun z => Option.bind z fun q209 => Fishref2BoardOf.loop4 st now t r (k + 1) q209) h3) ?_
   show Option.bind (some _) _ = _
   rw [Option.bind_some]
   by_cases e : now ≤ (rowB t last.Station x k).Line.Time + (rowB t last.Station x k).Line.Late
   ·rw [if_pos e, if_pos e, refB hl r (k + 1) _ hr' (by simp; omega)]; simp
   ·rw [if_neg e, if_neg e, refB hl r (k + 1) _ hr' (by omega)]
  ·rw [if_neg (by simpa using c), if_neg c, refB hl r (k + 1) q hr' (by omega)]
theorem ref1 {d : ApiDay} (hP : ∀ t ∈ d.Trains, Tok t) {st now : Int} : ∀ (l : List ApiTrain) (q : List GuideRow), (∀ t ∈ l, Tok t) → q.length + 7 * l.length < 90000 →
  Fishref2BoardOf.loop1 d st now l (q.map toR) = some ((q ++ l.flatMap (rowsA d.Trains st now)).map toR)
 | [], q, _, _ => by simp [Fishref2BoardOf.loop1]
 | t :: l, q, ht, hq => by
  simp only [List.length_cons] at hq
  have h1 := ht t (by simp)
  have h2 := rowsA_len (P := d.Trains) (st := st) (now := now) h1
  have h3 := h1.flen
  rw [Fishref2BoardOf.loop1, h1.cut, Option.bind_some, refA h1.last (planOk hP _) _ _ _ h1.fdep (by omega), Option.bind_some]
  rw [show pickR (rowA d.Trains st t (lastS t).Station) st now (fore t) 0 = rowsA d.Trains st now t from rfl, ref1 hP l _ (fun x hx => ht x (by simp [hx])) (by simp; omega)]; simp
theorem ref3 {d : ApiDay} {st now : Int} : ∀ (l : List ApiTrain) (q : List GuideRow), (∀ t ∈ l, Tok t) → q.length + 7 * l.length < 90000 →
  Fishref2BoardOf.loop3 d st now l (q.map toR) = some ((q ++ (l.filter fun t => !d.Trains.any (fun s => s.No == t.No)).flatMap (rowsB st now)).map toR)
 | [], q, _, _ => by simp [Fishref2BoardOf.loop3]
 | t :: l, q, ht, hq => by
  simp only [List.length_cons] at hq
  have h1 := ht t (by simp)
  have h2 := rowsB_len (st := st) (now := now) h1
  have h3 := h1.flen
  rw [Fishref2BoardOf.loop3, byNo_any, List.filter_cons]
  cases c : d.Trains.any (fun s => s.No == t.No) with
  | true => rw [if_pos rfl, Bool.not_true, if_neg (by decide), ref3 l q (fun x hx => ht x (by simp [hx])) (by omega)]
  | false =>
   rw [if_neg (by decide), Bool.not_false, if_pos rfl, h1.cut, Option.bind_some, refB h1.last _ _ _ h1.fdep (by omega), Option.bind_some]
   rw [show pickR (rowB t (lastS t).Station) st now (fore t) 0 = rowsB st now t from rfl, ref3 l _ (fun x hx => ht x (by simp [hx])) (by simp; omega)]; simp
def kD (r : GuideRow) : Int := r.Line.Time * 1000000 + r.Line.No * 100 + r.stop
def rV (r : GuideRow) : Prop := 0 ≤ r.Line.Time ∧ r.Line.Time ≤ 28800 ∧ 1 ≤ r.Line.No ∧ r.Line.No ≤ 9999 ∧ 0 ≤ r.stop ∧ r.stop ≤ 50
theorem kD_lex {x y : GuideRow} (hx : rV x) (hy : rV y) : kD x < kD y ↔ x.Line.Time < y.Line.Time ∨ x.Line.Time = y.Line.Time ∧ (x.Line.No < y.Line.No ∨ x.Line.No = y.Line.No ∧ x.stop < y.stop) := by
 unfold rV at hx hy
 unfold kD
 omega
theorem cmpRow {x y : GuideRow} (hx : rV x) (hy : rV y) : GuideBoard_2 x y < 0 ↔ kD x < kD y := by
 rw [GuideBoard_2, or3, kD_lex hx hy]
 simp only [cmpi_lt, cmpi_zero]
theorem cmpRef {x y : GuideRow} (hx : rV x) (hy : rV y) : Fishref2BoardOf_2T (toR x) (toR y) < 0 ↔ kD x < kD y := by
 obtain ⟨v, h1, h2⟩ := cmp_three x.Line.Time x.Line.No x.stop y.Line.Time y.Line.No y.stop
 rw [Fishref2BoardOf_2T, Fishref2BoardOf_2]
 simp only [toR]
 rw [h1, Option.bind_some, Option.getD_some, h2, kD_lex hx hy]
theorem pickR_in {f : ApiStop → Nat → GuideRow} {no : Int} (hf : ∀ x k, (f x k).stop = (k : Int) ∧ (f x k).Line.No = no) (st now : Int) (hT : ∀ (x : ApiStop) (k : Nat), 0 ≤ x.Dep ∧ x.Dep ≤ 28800 → 0 ≤ (f x k).Line.Time ∧ (f x k).Line.Time ≤ 28800) : ∀ (r : List ApiStop) (k : Nat), DepOk r →
  (∀ y ∈ pickR f st now r k, y.Line.No = no ∧ (k : Int) ≤ y.stop ∧ y.stop < ((k + r.length : Nat) : Int) ∧ 0 ≤ y.Line.Time ∧ y.Line.Time ≤ 28800) ∧ (pickR f st now r k).Pairwise (fun a b => a.stop ≠ b.stop)
 | [], _, _ => ⟨fun y hy => by simp [pickR] at hy, by simp [pickR]⟩
 | x :: r, k, hr => by
  obtain ⟨h1, h2⟩ := pickR_in hf st now hT r (k + 1) (fun y hy => hr y (by simp [hy]))
  have h3 : ∀ y ∈ pickR f st now r (k + 1), y.Line.No = no ∧ (k : Int) ≤ y.stop ∧ y.stop < ((k + (x :: r).length : Nat) : Int) ∧ 0 ≤ y.Line.Time ∧ y.Line.Time ≤ 28800 := fun y hy => by
   have := h1 y hy
   simp only [List.length_cons]
   omega
  have hx := hT x k (hr x (by simp))
  have hfx := hf x k
  rw [pickR]
  split
  ·split
   ·refine ⟨fun y hy => ?_, List.pairwise_cons.2 ⟨fun y hy => ?_, h2⟩⟩
    ·rcases List.mem_cons.1 hy with rfl | hy
     ·simp only [List.length_cons]; omega
     ·exact h3 y hy
    ·have := h1 y hy; omega
   ·exact ⟨h3, h2⟩
  ·exact ⟨h3, h2⟩
theorem rowsA_in {P : List ApiTrain} (hP : ∀ t ∈ P, Tok t) {st now : Int} {t : ApiTrain} (h : Tok t) : (∀ y ∈ rowsA P st now t, y.Line.No = t.No ∧ rV y) ∧ (rowsA P st now t).Pairwise (fun a b => a.stop ≠ b.stop) := by
 obtain ⟨h1, h2⟩ := pickR_in (f := rowA P st t (lastS t).Station) (no := t.No) (fun x k => ⟨rfl, rfl⟩) st now (fun x k hx => ptS_in (planOk hP _) hx st k) (fore t) 0 h.fdep
 refine ⟨fun y hy => ?_, h2⟩
 have := h1 y hy; have := h.flen; have := h.no
 unfold rV
 omega
theorem rowsB_in {st now : Int} {t : ApiTrain} (h : Tok t) : (∀ y ∈ rowsB st now t, y.Line.No = t.No ∧ rV y) ∧ (rowsB st now t).Pairwise (fun a b => a.stop ≠ b.stop) := by
 obtain ⟨h1, h2⟩ := pickR_in (f := rowB t (lastS t).Station) (no := t.No) (fun x k => ⟨rfl, rfl⟩) st now (fun x k hx => hx) (fore t) 0 h.fdep
 refine ⟨fun y hy => ?_, h2⟩
 have := h1 y hy; have := h.flen; have := h.no
 unfold rV
 omega
theorem kD_ne {x y : GuideRow} (hx : rV x) (hy : rV y) (h : x.Line.No ≠ y.Line.No ∨ x.stop ≠ y.stop) : kD x ≠ kD y := by
 unfold rV at hx hy
 unfold kD
 omega
def allR (d p : ApiDay) (st now : Int) : List GuideRow := d.Trains.flatMap (rowsA p.Trains st now) ++ (p.Trains.filter fun t => !d.Trains.any (fun s => s.No == t.No)).flatMap (rowsB st now)
theorem flatR_len {f : ApiTrain → List GuideRow} : ∀ {l : List ApiTrain}, (∀ t ∈ l, (f t).length ≤ 7) → (l.flatMap f).length ≤ 7 * l.length
 | [], _ => by simp
 | t :: l, h => by
  have h1 := h t (by simp)
  have h2 := flatR_len (f := f) (l := l) (fun x hx => h x (by simp [hx]))
  rw [List.flatMap_cons, List.length_append, List.length_cons]; omega
theorem flat_ne {f : ApiTrain → List GuideRow} {l : List ApiTrain} (h1 : ∀ t ∈ l, (∀ y ∈ f t, y.Line.No = t.No ∧ rV y) ∧ (f t).Pairwise (fun a b => a.stop ≠ b.stop)) (h2 : l.Pairwise (fun s t => s.No ≠ t.No)) : (l.flatMap f).Pairwise (fun a b => kD a ≠ kD b) := by
 rw [List.pairwise_flatMap]
 refine ⟨fun t ht => ?_, ?_⟩
 ·obtain ⟨g1, g2⟩ := h1 t ht
  exact g2.imp_of_mem fun ha hb hne => kD_ne (g1 _ ha).2 (g1 _ hb).2 (.inr hne)
 ·refine h2.imp_of_mem fun {s t} hs ht hne x hx y hy => ?_
  have e1 := (h1 s hs).1 x hx
  have e2 := (h1 t ht).1 y hy
  exact kD_ne e1.2 e2.2 (.inl (by rw [e1.1, e2.1]; exact hne))
theorem toks {d : ApiDay} (h : DayOk d) : ∀ t ∈ d.Trains, Tok t := fun _ ht => tok h ht
theorem nos_apart {d : ApiDay} (h : DayOk d) : d.Trains.Pairwise (fun s t => s.No ≠ t.No) := by
 rw [List.pairwise_iff_getElem]
 intro i j hi hj hij
 exact h.apart i j _ _ hij (List.getElem?_eq_getElem hi) (List.getElem?_eq_getElem hj)
theorem allR_ok {d p : ApiDay} (hd : DayOk d) (hp : DayOk p) (st now : Int) : (allR d p st now).length ≤ 200 ∧ (∀ y ∈ allR d p st now, rV y) ∧ (allR d p st now).Pairwise (fun a b => kD a ≠ kD b) := by
 have td := toks hd
 have tp := toks hp
 have tf : ∀ t ∈ p.Trains.filter (fun t => !d.Trains.any (fun s => s.No == t.No)), Tok t := fun t ht => tp t (List.mem_filter.1 ht).1
 have mA : ∀ y ∈ d.Trains.flatMap (rowsA p.Trains st now), rV y ∧ ∃ t ∈ d.Trains, y.Line.No = t.No := fun y hy => by
  obtain ⟨t, ht, hy⟩ := List.mem_flatMap.1 hy
  exact ⟨((rowsA_in tp (td t ht)).1 y hy).2, t, ht, ((rowsA_in tp (td t ht)).1 y hy).1⟩
 have mB : ∀ y ∈ (p.Trains.filter fun t => !d.Trains.any (fun s => s.No == t.No)).flatMap (rowsB st now), rV y ∧ ∀ t ∈ d.Trains, t.No ≠ y.Line.No := fun y hy => by
  obtain ⟨t, ht, hy⟩ := List.mem_flatMap.1 hy
  have h1 := (rowsB_in (tf t ht)).1 y hy
  refine ⟨h1.2, fun s hs e => ?_⟩
  have h2 := (List.mem_filter.1 ht).2
  rw [Bool.not_eq_true', List.any_eq_false] at h2
  exact h2 s hs (by rw [e, h1.1]; exact beq_self_eq_true _)
 refine ⟨?_, ?_, ?_⟩
 ·have h1 := flatR_len (f := rowsA p.Trains st now) (l := d.Trains) (fun t ht => rowsA_len (td t ht))
  have h2 := flatR_len (f := rowsB st now) (l := p.Trains.filter fun t => !d.Trains.any (fun s => s.No == t.No)) (fun t ht => rowsB_len (tf t ht))
  have h3 := List.length_filter_le (fun t => !d.Trains.any (fun s => s.No == t.No)) p.Trains
  have h4 := hd.form.1
  have h5 := hp.form.1
  unfold allR
  rw [List.length_append]
  omega
 ·intro y hy
  rcases List.mem_append.1 hy with h | h
  ·exact (mA y h).1
  ·exact (mB y h).1
 ·refine List.pairwise_append.2 ⟨flat_ne (fun t ht => rowsA_in tp (td t ht)) (nos_apart hd), flat_ne (fun t ht => rowsB_in (tf t ht)) ((nos_apart hp).filter _), ?_⟩
  intro x hx y hy
  obtain ⟨h1, t, ht, h2⟩ := mA x hx
  obtain ⟨h3, h4⟩ := mB y hy
  exact kD_ne h1 h3 (.inl (by rw [h2]; exact h4 t ht))
theorem prog5 : ∀ (l : List GuideRow) (q : List GuideLine), q.length + l.length < 100000 → GuideBoard.loop5 l q = some (q ++ l.map (·.Line))
 | [], q, _ => by simp [GuideBoard.loop5]
 | x :: l, q, h => by
  simp only [List.length_cons] at h
  rw [GuideBoard.loop5, apd_lt (by simp; omega), Option.bind_some, prog5 l _ (by simp; omega)]; simp
theorem ref5 : ∀ (l : List Fishref2Row) (q : List GuideLine), q.length + l.length < 100000 → Fishref2BoardOf.loop5 l q = some (q ++ l.map (·.Line))
 | [], q, _ => by simp [Fishref2BoardOf.loop5]
 | x :: l, q, h => by
  simp only [List.length_cons] at h
  rw [Fishref2BoardOf.loop5, apd_lt (by simp; omega), Option.bind_some, ref5 l _ (by simp; omega)]; simp
theorem line_self (l : List GuideLine) : SlicesEqualLguideLine l l = some true := by
 unfold SlicesEqualLguideLine
 have key : ∀ (m : List GuideLine) (k : Nat), l.drop k = m → SlicesEqualLguideLine.loop1 l m k = some (.next ()) := by
  intro m
  induction m with
  | nil => intro k _; rfl
  | cons a m ih =>
   intro k h
   obtain ⟨d1, d2, d3⟩ := drop_cons h
   rw [SlicesEqualLguideLine.loop1, gx_nat, d2]
   simp only [Option.bind_some, beq_self_eq_true, Bool.and_self, Bool.not_true, Bool.false_eq_true, if_false]
   exact ih _ d3
 rw [key l 0 rfl]
 simp
theorem board_ok {d p : ApiDay} (hd : DayOk d) (hp : DayOk p) {st now rows : Int} (hr : 0 ≤ rows ∧ rows ≤ 40) {fu : Nat} (hf : 300 ≤ fu) :
  ∃ l, ((GuideBoard.loop3 st now (GuideBoard.loop2 p.Trains []) d.Trains [] []).bind fun q130 => match q130 with | (q140, q147) => ((GuideBoard.loop4 st now (GuideBoard.loop2 p.Trains []) q147 p.Trains q140).bind fun q178 => ((SlicesSortStableFuncLguiderow_v1 fu q178).bind fun q205 => ((cutl q205 0 (mn rows ((q205.length : Nat) : Int))).bind fun x214 => ((GuideBoard.loop5 x214 []).bind fun q234 => some (q234, (0 : Int))))))) = some (l, 0)
   ∧ Fishref2BoardOf d p st now rows = some l := by
 obtain ⟨n1, n2, n3⟩ := allR_ok hd hp st now
 have td := toks hd
 have tp := toks hp
 have c1 := hd.form.1
 have c2 := hp.form.1
 have hm : ∀ no, (mget (GuideBoard.loop2 p.Trains []) no).getD noT = (p.Trains.find? fun s => s.No == no).getD noT := fun no => by
  rw [loop2 p.Trains [] no (nos_apart hp)]
  cases p.Trains.find? (fun s => s.No == no) <;> rfl
 obtain ⟨r', e1, e2⟩ := loop3 (st := st) (now := now) tp hm d.Trains [] [] td (by simp; omega)
 have lA := flatR_len (f := rowsA p.Trains st now) (l := d.Trains) (fun t ht => rowsA_len (td t ht))
 have e3 := loop4 (m := GuideBoard.loop2 p.Trains []) (runs := r') (st := st) (now := now) p.Trains (d.Trains.flatMap (rowsA p.Trains st now)) tp (by omega)
 have e4 : (p.Trains.filter fun t => !(mget r' t.No).getD false) = p.Trains.filter fun t => !d.Trains.any (fun s => s.No == t.No) := by
  refine List.filter_congr fun t _ => ?_
  rw [e2 t.No]; simp [mget]
 rw [e4] at e3
 obtain ⟨R, s1, s2, s3⟩ := stable_ok (V := rV) (D := kD) (fun x y hx hy => cmpRow hx hy) (fu := fu) (X := allR d p st now) (by omega) (by omega) n2 n3
 have lR := s2.length_eq
 have hn : mn rows ((R.length : Nat) : Int) = ((min rows.toNat R.length : Nat) : Int) := by
  unfold mn; split <;> omega
 have g1 : Fishref2BoardOf.loop1 p st now d.Trains [] = some ((d.Trains.flatMap (rowsA p.Trains st now)).map toR) := by
  have := ref1 (d := p) tp (st := st) (now := now) d.Trains [] td (by simp; omega)
  simpa using this
 have g2 : Fishref2BoardOf.loop3 d st now p.Trains ((d.Trains.flatMap (rowsA p.Trains st now)).map toR) = some ((allR d p st now).map toR) := ref3 (d := d) p.Trains _ tp (by omega)
 have mV : ∀ y ∈ (allR d p st now).map toR, ∃ x ∈ allR d p st now, toR x = y ∧ rV x := fun y hy => by
  obtain ⟨x, hx, e⟩ := List.mem_map.1 hy
  exact ⟨x, hx, e, n2 x hx⟩
 have hok : OkF Fishref2BoardOf_2T ((allR d p st now).map toR) := by
  refine ⟨fun a ha => ?_, fun a ha b hb c hc => ?_, fun a ha b hb => ?_⟩
  ·obtain ⟨x, _, rfl, vx⟩ := mV a ha
   rw [cmpRef vx vx]; omega
  ·obtain ⟨x, _, rfl, vx⟩ := mV a ha
   obtain ⟨y, _, rfl, vy⟩ := mV b hb
   obtain ⟨z, _, rfl, vz⟩ := mV c hc
   rw [cmpRef vx vy, cmpRef vy vz, cmpRef vx vz]; omega
  ·obtain ⟨x, hx, rfl, vx⟩ := mV a ha
   obtain ⟨y, hy, rfl, vy⟩ := mV b hb
   rw [cmpRef vx vy, cmpRef vy vx]
   intro h1 h2
   have he : kD x = kD y := by omega
   obtain ⟨i, hi, rfl⟩ := List.mem_iff_getElem.1 hx
   obtain ⟨j, hj, rfl⟩ := List.mem_iff_getElem.1 hy
   rw [List.pairwise_iff_getElem] at n3
   rcases Nat.lt_trichotomy i j with h | h | h
   ·exact absurd he (n3 i j hi hj h)
   ·subst h; rfl
   ·exact absurd he.symm (n3 j i hj hi h)
 have hs : isortF Fishref2BoardOf_2T ((allR d p st now).map toR) = R.map toR := by
  have hpm := isortF_perm Fishref2BoardOf_2T ((allR d p st now).map toR)
  refine asc_one (hok.sub fun x hx => hpm.mem_iff.1 hx) (hpm.trans (s2.map toR).symm) (isortF_asc hok) ?_
  unfold AscF
  rw [List.pairwise_map]
  refine s3.imp_of_mem fun {a b} ha hb h => ?_
  rw [cmpRef (n2 b (s2.mem_iff.1 hb)) (n2 a (s2.mem_iff.1 ha))]
  unfold Lt at h; omega
 refine ⟨(R.take (min rows.toNat R.length)).map (·.Line), ?_, ?_⟩
 ·rw [e1, Option.bind_some]
  simp only [List.nil_append]
  rw [e3, Option.bind_some, show d.Trains.flatMap (rowsA p.Trains st now) ++ (p.Trains.filter fun t => !d.Trains.any (fun s => s.No == t.No)).flatMap (rowsB st now) = allR d p st now from rfl, s1, Option.bind_some, hn, cutl_in (by omega) (by omega) (by omega), Option.bind_some]
  rw [prog5 _ _ (by simp; omega), Option.bind_some]
  simp
 ·rw [Fishref2BoardOf, g1, Option.bind_some, g2, Option.bind_some, srtF_of hok (by simp; omega), hs, Option.bind_some, List.length_map, hn, cutl_in (by omega) (by omega) (by simp; omega), Option.bind_some]
  rw [ref5 _ _ (by simp; omega), Option.bind_some]
  simp [List.map_take]; rfl
theorem days1 {x0 x1 : ApiDay} {e f : Int} (h : GuideCheck x0 = some e) (k : GuideCheck x1 = some f) : GuideBoard.loop1 x0 x1 2 0 = some (if e = 0 then (if f = 0 then .next () else .ret ([], f)) else .ret ([], e)) := by
 have g0 : gx [x0, x1] ((0 : Nat) : Int) = some x0 := rfl
 have g1 : gx [x0, x1] ((0 + 1 : Nat) : Int) = some x1 := rfl
 rw [GuideBoard.loop1, g0, Option.bind_some, h, Option.bind_some]
 by_cases c : e = 0
 ·subst c
  rw [bne_self_eq_false, if_neg (by decide), if_pos rfl, GuideBoard.loop1, g1, Option.bind_some, k, Option.bind_some]
  by_cases c : f = 0
  ·subst c; rw [bne_self_eq_false, if_neg (by decide), if_pos rfl]; rfl
  ·rw [if_pos (by simpa using c), if_neg c]
 ·rw [if_pos (by simpa using c), if_neg c]
theorem within_no {x a b : Int} (h : ¬ (a ≤ x ∧ x ≤ b)) : Guidewithin x a b = false := by
 cases k : Guidewithin x a b with
 | true => exact absurd ((within_iff _ _ _).1 k) h
 | false => rfl
theorem GuideBoards_law (x0 : ApiDay) (x1 : ApiDay) (x2 : Int) (x3 : Int) (x4 : Int) (_ : x0.Trains.length ≤ 9223372036854775807) (_ : x0.Turns.length ≤ 9223372036854775807) (_ : x1.Trains.length ≤ 9223372036854775807) (_ : x1.Turns.length ≤ 9223372036854775807)
  (_ : -9223372036854775808 ≤ x2 ∧ x2 ≤ 9223372036854775807) (_ : -9223372036854775808 ≤ x3 ∧ x3 ≤ 9223372036854775807) (_ : -9223372036854775808 ≤ x4 ∧ x4 ≤ 9223372036854775807) (i0 : InApiDay x0) (i1 : InApiDay x1) : ∃ fu, Fishlaw2GuideBoards fu x0 x1 x2 x3 x4 = some true := by
 refine ⟨340 + 60, ?_⟩
 obtain ⟨e, h1, h2, h3⟩ := check_ok i0
 obtain ⟨f, k1, k2, k3⟩ := check_ok i1
 have hg := guides_true 340
 rw [Fishlaw2GuideBoards, GuideBoard, days1 h2 k2, Option.bind_some, h1]
 by_cases ce : e = 0
 ·subst ce
  by_cases cf : f = 0
  ·subst cf
   rw [if_pos rfl, if_pos rfl]
   simp only
   by_cases cs : 0 ≤ x2 ∧ x2 ≤ 11
   ·have b1 : decide (x2 < 0) = false := decide_eq_false (by omega)
    have b2 : decide (x2 ≥ 12) = false := decide_eq_false (by omega)
    rw [(within_iff x2 0 11).2 cs, Bool.not_true, if_neg (by decide), bnd_eq]
    by_cases cn : 0 ≤ x3 ∧ x3 ≤ 28800
    ·have b3 : decide (x3 < 0) = false := decide_eq_false (by omega)
     have b4 : decide (x3 > 28800) = false := decide_eq_false (by omega)
     rw [(within_iff x3 0 28800).2 cn, Bool.not_true]
     simp only [Bool.false_eq_true, if_false]
     by_cases cr : 0 ≤ x4 ∧ x4 ≤ 40
     ·have b5 : decide (x4 < 0) = false := decide_eq_false (by omega)
      have b6 : decide (x4 > 40) = false := decide_eq_false (by omega)
      obtain ⟨l, e1, e2⟩ := board_ok (h3 rfl) (k3 rfl) (st := x2) (now := x3) cr (fu := 340 + 60) (by omega)
      rw [(within_iff x4 0 40).2 cr, Bool.not_true]
      simp only [Bool.false_eq_true, if_false]
      rw [bnd_eq, e1]
      simp only [Option.bind_some, beq_self_eq_true, if_true, k1, b1, b2, b3, b4, b5, b6, Bool.false_eq_true, if_false, bnd_eq, bne_self_eq_false, hg, e2, line_self]
     ·have b56 : (if decide (x4 < 0) then true else decide (x4 > 40)) = true := by
       by_cases c : x4 < 0
       ·rw [decide_eq_true c]; rfl
       ·rw [decide_eq_false c, if_neg (by decide)]; exact decide_eq_true (by omega)
      rw [within_no cr, Bool.not_false, if_pos rfl]
      simp only [Option.bind_some, beq_self_eq_true, if_true, k1, b1, b2, b3, b4, b56, Bool.false_eq_true, if_false, bnd_eq]
      simp only [hg, Option.bind_some, if_true, beq_self_eq_true, show ((2 : Int) != 0) = true from rfl]
      simp
    ·have b34 : (if decide (x3 < 0) then true else (if decide (x3 > 28800) then true else (if decide (x4 < 0) then true else decide (x4 > 40)))) = true := by
      by_cases c : x3 < 0
      ·rw [decide_eq_true c]; rfl
      ·rw [decide_eq_false c, if_neg (by decide), decide_eq_true (by omega)]; rfl
     rw [within_no cn, Bool.not_false]
     simp only [if_true]
     simp only [Option.bind_some, beq_self_eq_true, if_true, k1, b1, b2, b34, Bool.false_eq_true, if_false, bnd_eq]
     simp only [hg, Option.bind_some, if_true, beq_self_eq_true, show ((2 : Int) != 0) = true from rfl]
     simp
   ·have b12 : (if decide (x2 < 0) then true else decide (x2 ≥ 12)) = true := by
     by_cases c : x2 < 0
     ·rw [decide_eq_true c]; rfl
     ·rw [decide_eq_false c, if_neg (by decide)]; exact decide_eq_true (by omega)
    rw [within_no cs, Bool.not_false, if_pos rfl]
    simp only [Option.bind_some, beq_self_eq_true, if_true, k1, b12, bnd_eq, show ((3 : Int) == 0) = false from rfl, Bool.false_eq_true, if_false]
    simp only [hg, Option.bind_some, if_true, beq_self_eq_true, show ((3 : Int) != 0) = true from rfl]
    simp
  ·have c2 : (f != 0) = true := by simpa using cf
   have c3 : (f == 0) = false := by simpa using cf
   rw [if_pos rfl, if_neg cf]
   simp only [Option.bind_some, beq_self_eq_true, if_true, k1, bnd_eq, c3, Bool.false_eq_true, if_false]
   simp only [c2, hg, Option.bind_some, if_true, beq_self_eq_true]
   simp
 ·have c2 : (e != 0) = true := by simpa using ce
  have c3 : (e == 0) = false := by simpa using ce
  rw [if_neg ce]
  simp only [Option.bind_some, bnd_eq, c3, Bool.false_eq_true, if_false]
  simp only [c2, hg, Option.bind_some, if_true, beq_self_eq_true]
  simp
end Go.Fp
