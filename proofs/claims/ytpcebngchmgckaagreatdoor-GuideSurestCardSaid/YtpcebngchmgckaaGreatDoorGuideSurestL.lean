/- GuideSurest: the mirror of the law is true of all days, stations, times and odds. -/
import Derived.Test.YtpcebngchmgckaaGreatDoorGuideSurestM
import Derived.Test.YtpcebngchmgckaaGreatDoorFpPlain
import Derived.Lib.ItoaLen
import Derived.KernelRfl
namespace Go.Fp
def tx (n : Int) : ByteArray := ⟨(Lib.itoa n).toArray⟩
theorem itoa_tx {n : Int} (h : -9223372036854775808 ≤ n ∧ n ≤ 9223372036854775807) : itoa n = some (tx n) := by unfold itoa; rw [if_pos h]; rfl
theorem tx_size {n : Int} (h : -9223372036854775808 ≤ n ∧ n ≤ 9223372036854775807) : (tx n).size ≤ 21 := by
 have := Lib.itoa_length_le n h.1 h.2
 unfold tx
 show ((Lib.itoa n).toArray).size ≤ 21
 simpa using this
theorem scat_in {a b : ByteArray} (h : a.size + b.size ≤ 9223372036854775807) : scat a b = some (a ++ b) := by unfold scat; rw [if_pos h]
theorem sbw_in {y x : ByteArray} (h0 : 0 < x.size) (h : y.size + x.size < 4294967296) : sbw y x = some (y ++ x) := by unfold sbw; rw [if_pos ⟨h0, h⟩]
theorem mget_put (m : List (Int × Bool)) (k j : Int) (v : Bool) : mget (mput m k v) j = if j = k then some v else mget m j := by
 induction m with
 | nil => simp [mput, mget]
 | cons p r ih =>
  obtain ⟨a, b⟩ := p
  simp only [mput]
  by_cases h : k = a
  ·subst h
   simp only [beq_self_eq_true, if_true, mget]
   by_cases h2 : j = k <;> simp [h2]
  ·have hb : (k == a) = false := by simpa using h
   simp only [hb, Bool.false_eq_true, if_false, mget]
   by_cases h2 : j = a
   ·subst h2; have : ¬ j = k := fun e => h e.symm; simp [this]
   ·have hb2 : (j == a) = false := by simpa using h2
    simp [hb2, ih]
def wi (x : Int) : Bool := Planwithin x 0 999999
theorem form2 : ∀ l, Fishref2TextFault.loop2 l = Planform.loop2 l
 | [] => rfl
 | x :: r => by simp only [Fishref2TextFault.loop2, Planform.loop2, form2 r]
theorem form3 : ∀ l, Fishref2TextFault.loop3 l = Planform.loop3 l
 | [] => rfl
 | x :: r => by simp only [Fishref2TextFault.loop3, Planform.loop3, form3 r]
theorem form4 : ∀ l, Fishref2TextFault.loop4 l = Planform.loop4 l
 | [] => rfl
 | x :: r => by simp only [Fishref2TextFault.loop4, Planform.loop4, form4 r]
theorem form1 : ∀ l, Fishref2TextFault.loop1 l = Planform.loop1 l
 | [] => rfl
 | x :: r => by simp only [Fishref2TextFault.loop1, Planform.loop1, form1 r, form2, form3]
def trainForm (t : ApiTrain) : Prop := 1 ≤ t.Stops.length ∧ t.Stops.length ≤ 8 ∧ t.Legs.length + 1 = t.Stops.length ∧ ∀ g ∈ t.Legs, g.length ≤ 4
def dayForm (d : ApiDay) : Prop := d.Trains.length ≤ 12 ∧ d.Turns.length ≤ 8 ∧ (∀ t ∈ d.Trains, trainForm t) ∧ ∀ g ∈ d.Turns, g.length ≤ 12
theorem form3_out : ∀ l, (Planform.loop3 l = .ret 4) ∨ (Planform.loop3 l = .next () ∧ ∀ g ∈ l, g.length ≤ 4)
 | [] => .inr ⟨rfl, by simp⟩
 | x :: r => by
  rw [Planform.loop3]
  by_cases c : ((x.length : Nat) : Int) > 4
  ·rw [if_pos (by simpa using c)]; exact .inl rfl
  ·rw [if_neg (by simpa using c)]
   rcases form3_out r with h | ⟨h, k⟩
   ·exact .inl h
   ·refine .inr ⟨h, ?_⟩
    intro g hg
    rcases List.mem_cons.1 hg with rfl | hg
    ·omega
    ·exact k g hg
theorem form2_out : ∀ l, (Planform.loop2 l = .ret 1) ∨ (Planform.loop2 l = .next ())
 | [] => .inr rfl
 | x :: r => by
  rw [Planform.loop2]
  split
  ·exact .inl rfl
  ·exact form2_out r
theorem form4_out : ∀ l, (∃ e, e ≠ 0 ∧ Planform.loop4 l = .ret e) ∨ (Planform.loop4 l = .next () ∧ ∀ g ∈ l, g.length ≤ 12)
 | [] => .inr ⟨rfl, by simp⟩
 | x :: r => by
  rw [Planform.loop4]
  split
  ·exact .inl ⟨1, by decide, rfl⟩
  ·by_cases c : ((x.length : Nat) : Int) > 12
   ·rw [if_pos (by simpa using c)]; exact .inl ⟨4, by decide, rfl⟩
   ·rw [if_neg (by simpa using c)]
    rcases form4_out r with h | ⟨h, k⟩
    ·exact .inl h
    ·refine .inr ⟨h, ?_⟩
     intro g hg
     rcases List.mem_cons.1 hg with rfl | hg
     ·omega
     ·exact k g hg
theorem form1_out : ∀ l, (∃ e, e ≠ 0 ∧ Planform.loop1 l = .ret e) ∨ (Planform.loop1 l = .next () ∧ ∀ t ∈ l, trainForm t)
 | [] => .inr ⟨rfl, by simp⟩
 | x :: r => by
  rw [Planform.loop1, bnd_eq]
  generalize hq : (if (((x.Stops).length : Int) == 0) = true then true else (((x.Legs).length : Int) != (w64 (((x.Stops).length : Int) - 1)))) = q
  cases q with
  | true => exact .inl ⟨1, by decide, rfl⟩
  | false =>
   rw [if_neg (by decide), bnd_eq]
   rcases form2_out x.Legs with h | h
   ·rw [h]; exact .inl ⟨1, by decide, rfl⟩
   ·rw [h]
    dsimp only
    by_cases c : ((x.Stops.length : Nat) : Int) > 8
    ·rw [if_pos (by simpa using c)]; exact .inl ⟨4, by decide, rfl⟩
    ·rw [if_neg (by simpa using c), bnd_eq]
     rcases form3_out x.Legs with h3 | ⟨h3, k3⟩
     ·rw [h3]; exact .inl ⟨4, by decide, rfl⟩
     ·rw [h3]
      dsimp only
      rcases form1_out r with h1 | ⟨h1, k1⟩
      ·exact .inl h1
      ·refine .inr ⟨h1, ?_⟩
       intro t ht
       rcases List.mem_cons.1 ht with rfl | ht
       ·split at hq
        ·cases hq
        ·rename_i hz
         rw [w64_id (by omega)] at hq
         have hq2 : ((t.Legs.length : Nat) : Int) = ((t.Stops.length : Nat) : Int) - 1 := by simpa using hq
         have hz2 : ¬ t.Stops.length = 0 := by simpa using hz
         exact ⟨by omega, by omega, by omega, k3⟩
       ·exact k1 t ht
theorem form_out (d : ApiDay) : Planform d ≠ 0 ∨ (Planform d = 0 ∧ dayForm d) := by
 rw [Planform, bnd_eq]
 by_cases c : ((d.Trains.length : Nat) : Int) > 12 ∨ ((d.Turns.length : Nat) : Int) > 8
 ·left
  rw [if_pos (by rcases c with c | c <;> simp [c])]; decide
 ·have c1 : ¬ ((d.Trains.length : Nat) : Int) > 12 := fun h => c (.inl h)
  have c2 : ¬ ((d.Turns.length : Nat) : Int) > 8 := fun h => c (.inr h)
  rw [if_neg (by simp [c1, c2]), bnd_eq]
  rcases form1_out d.Trains with ⟨e, he, h⟩ | ⟨h, k⟩
  ·rw [h]; exact .inl he
  ·rw [h]
   dsimp only
   rw [bnd_eq]
   rcases form4_out d.Turns with ⟨e, he, h4⟩ | ⟨h4, k4⟩
   ·rw [h4]; exact .inl he
   ·rw [h4]; exact .inr ⟨rfl, by omega, by omega, k, k4⟩
def numS (x : ApiStop) : List Int := [x.Station, x.Track, x.Arr, x.Dep]
def numT (t : ApiTrain) : List (List Int) := [t.No, t.Stock] :: (t.Stops.map numS ++ t.Legs)
theorem num2 : ∀ (l : List ApiStop) (q : List (List Int)), q.length + l.length < 4294967296 → Fishref2numbersIn.loop2 l q = some (q ++ l.map numS)
 | [], q, _ => by simp [Fishref2numbersIn.loop2]
 | x :: r, q, h => by
  simp only [List.length_cons] at h
  rw [Fishref2numbersIn.loop2, apd_lt (by simp; omega), Option.bind_some, num2 r _ (by simp; omega)]
  simp [numS]
theorem num1 : ∀ (l : List ApiTrain) (q : List (List Int)), (∀ t ∈ l, trainForm t) → q.length + 17 * l.length < 4294967296 → Fishref2numbersIn.loop1 l q = some (q ++ l.flatMap numT)
 | [], q, _, _ => by simp [Fishref2numbersIn.loop1]
 | t :: r, q, ht, h => by
  simp only [List.length_cons] at h
  obtain ⟨t1, t2, t3, t4⟩ := ht t (List.mem_cons_self ..)
  rw [Fishref2numbersIn.loop1, apd_lt (by simp; omega), Option.bind_some, num2 _ _ (by simp; omega), Option.bind_some, apd_lt (by simp; omega), Option.bind_some,
   num1 r _ (fun t h => ht t (List.mem_cons_of_mem _ h)) (by simp; omega)]
  simp [numT]
theorem numT_len {t : ApiTrain} (h : trainForm t) : (numT t).length ≤ 16 := by
 obtain ⟨t1, t2, t3, t4⟩ := h
 simp [numT]; omega
theorem num_all {d : ApiDay} (h : dayForm d) : Fishref2numbersIn d = some (d.Trains.flatMap numT ++ d.Turns) := by
 obtain ⟨h1, h2, h3, h4⟩ := h
 have hl : ∀ l : List ApiTrain, (∀ t ∈ l, trainForm t) → (l.flatMap numT).length ≤ 16 * l.length := by
  intro l
  induction l with
  | nil => intro _; simp
  | cons t r ih =>
   intro ht
   have := numT_len (ht t (List.mem_cons_self ..))
   have := ih fun t h => ht t (List.mem_cons_of_mem _ h)
   simp only [List.flatMap_cons, List.length_append, List.length_cons]; omega
 have := hl _ h3
 rw [Fishref2numbersIn, num1 _ _ h3 (by simp; omega), Option.bind_some, List.nil_append, apd_lt (by omega)]
 rfl
theorem num6 : ∀ l : List Int, Fishref2TextFault.loop6 l = if l.all wi then .next () else .ret 2
 | [] => rfl
 | x :: r => by
  rw [Fishref2TextFault.loop6, num6 r]
  show (if (!wi x) = true then _ else _) = _
  cases h : wi x <;> simp [h]
theorem num5 (L : List (List Int)) : ∀ (r : List (List Int)) (k : Nat), L.drop k = r → Fishref2TextFault.loop5 L r.length k = some (if r.all (·.all wi) then .next () else .ret 2)
 | [], k, _ => rfl
 | x :: r, k, hd => by
  obtain ⟨d1, d2, d3⟩ := drop_cons hd
  rw [List.length_cons, Fishref2TextFault.loop5, gx_nat, d2, Option.bind_some, bnd_eq, num6]
  cases h : x.all wi with
  | true => simp [h, num5 L r (k + 1) d3]
  | false => simp [h]
theorem flag1 : ∀ (l : List Int) (b : Bool), PlanText_1_v1.loop1 l b = (b && l.all wi)
 | [], b => by simp [PlanText_1_v1.loop1]
 | x :: r, b => by
  rw [PlanText_1_v1.loop1, bnd_eq, flag1 r]
  show ((if b = true then wi x else false) && r.all wi) = _
  cases b <;> simp
theorem sent1 : ∀ (l : List Int) (q : ByteArray), inL inI l → q.size + 22 * l.length < 4294967296 → ∃ z, Plansentence.loop1 l q = some z ∧ z.size ≤ q.size + 22 * l.length
 | [], q, _, _ => ⟨q, rfl, by simp⟩
 | x :: r, q, hi, h => by
  simp only [List.length_cons] at h
  have hx := hi x (List.mem_cons_self ..)
  have hs := tx_size hx
  have s32 : (str [32]).size = 1 := rfl
  have e1 : (str [32] ++ tx x).size = 1 + (tx x).size := by rw [ByteArray.size_append, s32]
  have e4 : (q ++ (str [32] ++ tx x)).size = q.size + (1 + (tx x).size) := by rw [ByteArray.size_append, e1]
  obtain ⟨z, h1, h2⟩ := sent1 r (q ++ (str [32] ++ tx x)) (fun y h => hi y (List.mem_cons_of_mem _ h)) (by omega)
  refine ⟨z, ?_, by simp only [List.length_cons]; omega⟩
  rw [Plansentence.loop1, itoa_tx hx, Option.bind_some, scat_in (by omega), Option.bind_some, scat_in (by omega), Option.bind_some]
  exact h1
theorem sent {l : List Int} {w : ByteArray} (hi : inL inI l) (h : w.size + 22 * l.length < 4294967295) : ∃ z, Plansentence w l = some z ∧ 0 < z.size ∧ z.size ≤ w.size + 22 * l.length + 1 := by
 obtain ⟨z, h1, h2⟩ := sent1 l w hi (by omega)
 have s10 : (str [10]).size = 1 := rfl
 have e : (z ++ str [10]).size = z.size + 1 := by rw [ByteArray.size_append, s10]
 exact ⟨z ++ str [10], by rw [Plansentence, h1, Option.bind_some, scat_in (by omega)]; rfl, by omega, by omega⟩
theorem wr {l : List Int} {w y : ByteArray} {b : Bool} (hi : inL inI l) (hw : w.size ≤ 5) (h : y.size + (22 * l.length + 6) < 4294967295) :
  ∃ z, PlanText_1_v1 w l b y = some (b && l.all wi, z) ∧ z.size ≤ y.size + (22 * l.length + 6) := by
 obtain ⟨z, h1, h2, h3⟩ := sent (w := w) hi (by omega)
 have e : (y ++ z).size = y.size + z.size := ByteArray.size_append
 exact ⟨y ++ z, by rw [PlanText_1_v1, flag1, bnd_eq, h1, Option.bind_some, sbw_in h2 (by omega)]; rfl, by omega⟩
theorem txt2 : ∀ (l : List ApiStop) (y : ByteArray) (b : Bool), inL InApiStop l → y.size + 94 * l.length < 4294967000 →
  ∃ z, PlanText.loop2 l y b = some (z, b && (l.map numS).all (·.all wi)) ∧ z.size ≤ y.size + 94 * l.length
 | [], y, b, _, _ => ⟨y, by simp [PlanText.loop2], by simp⟩
 | x :: r, y, b, hi, h => by
  simp only [List.length_cons] at h
  have hx := hi x (List.mem_cons_self ..)
  obtain ⟨z, h1, h2⟩ := wr (l := numS x) (w := str [115, 116, 111, 112]) (y := y) (b := b) (by
   intro v hv
   simp only [numS, List.mem_cons, List.not_mem_nil, or_false] at hv
   rcases hv with rfl | rfl | rfl | rfl
   ·exact hx.1
   ·exact hx.2.1
   ·exact hx.2.2.1
   ·exact hx.2.2.2) (by decide) (by simp [numS]; omega)
  simp only [numS, List.length_cons, List.length_nil] at h2
  obtain ⟨z2, h3, h4⟩ := txt2 r z (b && (numS x).all wi) (fun y h => hi y (List.mem_cons_of_mem _ h)) (by omega)
  refine ⟨z2, ?_, by simp only [List.length_cons]; omega⟩
  rw [PlanText.loop2]
  rw [show [x.Station, x.Track, x.Arr, x.Dep] = numS x from rfl, h1, Option.bind_some]
  dsimp only
  rw [h3, List.map_cons, List.all_cons, Bool.and_assoc]
theorem txt3 (w : ByteArray) (hw : w.size ≤ 5) (F : List (List Int) → ByteArray → Bool → Option (ByteArray × Bool)) (hn : ∀ y b, F [] y b = some (y, b))
  (hc : ∀ x r y b, F (x :: r) y b = (PlanText_1_v1 w x b y).bind fun q => F r q.2 q.1) (m : Nat) (hm : m ≤ 100) : ∀ (l : List (List Int)) (y : ByteArray) (b : Bool), inL (inL inI) l → (∀ g ∈ l, g.length ≤ m) → y.size + (22 * m + 6) * l.length < 4294960000 →
  ∃ z, F l y b = some (z, b && l.all (·.all wi)) ∧ z.size ≤ y.size + (22 * m + 6) * l.length
 | [], y, b, _, _, _ => ⟨y, by simp [hn], by simp⟩
 | x :: r, y, b, hi, hl, h => by
  simp only [List.length_cons, Nat.mul_add, Nat.mul_one] at h
  have hx := hi x (List.mem_cons_self ..)
  have hxl := hl x (List.mem_cons_self ..)
  obtain ⟨z, h1, h2⟩ := wr (l := x) (w := w) (y := y) (b := b) hx hw (by omega)
  obtain ⟨z2, h3, h4⟩ := txt3 w hw F hn hc m hm r z (b && x.all wi) (fun y h => hi y (List.mem_cons_of_mem _ h)) (fun g h => hl g (List.mem_cons_of_mem _ h)) (by omega)
  refine ⟨z2, ?_, by simp only [List.length_cons, Nat.mul_add, Nat.mul_one]; omega⟩
  rw [hc, h1, Option.bind_some]
  dsimp only
  rw [h3, List.all_cons, Bool.and_assoc]
theorem txt1 : ∀ (l : List ApiTrain) (y : ByteArray) (b : Bool), inL InApiTrain l → (∀ t ∈ l, trainForm t) → y.size + 1700 * l.length < 4294900000 →
  ∃ z, PlanText.loop1 l y b = some (z, b && (l.flatMap numT).all (·.all wi)) ∧ z.size ≤ y.size + 1700 * l.length
 | [], y, b, _, _, _ => ⟨y, by simp [PlanText.loop1], by simp⟩
 | t :: r, y, b, hi, hf, h => by
  simp only [List.length_cons] at h
  obtain ⟨i1, i2, i3, i4⟩ := hi t (List.mem_cons_self ..)
  obtain ⟨t1, t2, t3, t4⟩ := hf t (List.mem_cons_self ..)
  obtain ⟨z, h1, h2⟩ := wr (l := [t.No, t.Stock]) (w := str [116, 114, 97, 105, 110]) (y := y) (b := b) (by
   intro v hv
   simp only [List.mem_cons, List.not_mem_nil, or_false] at hv
   rcases hv with rfl | rfl
   ·exact i1
   ·exact i2) (by decide) (by simp; omega)
  simp only [List.length_cons, List.length_nil] at h2
  obtain ⟨z2, h3, h4⟩ := txt2 t.Stops z (b && [t.No, t.Stock].all wi) i3 (by omega)
  obtain ⟨z3, h5, h6⟩ := txt3 (str [108, 101, 103]) (by decide) PlanText.loop3 (fun _ _ => rfl) (fun _ _ _ _ => rfl) 4 (by omega) t.Legs z2 ((b && [t.No, t.Stock].all wi) && (t.Stops.map numS).all (·.all wi)) i4 t4 (by omega)
  obtain ⟨z4, h7, h8⟩ := txt1 r z3 (((b && [t.No, t.Stock].all wi) && (t.Stops.map numS).all (·.all wi)) && t.Legs.all (·.all wi)) (fun y h => hi y (List.mem_cons_of_mem _ h)) (fun y h => hf y (List.mem_cons_of_mem _ h)) (by omega)
  refine ⟨z4, ?_, by simp only [List.length_cons]; omega⟩
  rw [PlanText.loop1, h1, Option.bind_some]
  dsimp only
  rw [h3, Option.bind_some]
  dsimp only
  rw [h5, Option.bind_some]
  dsimp only
  rw [h7]
  simp only [List.flatMap_cons, numT, List.cons_append, List.all_cons, List.all_append, Bool.and_assoc, List.all_nil]
theorem text_ok {d : ApiDay} (hi : InApiDay d) : ∃ e b, Fishref2TextFault d = some e ∧ PlanText d = some (b, e) ∧ (e = 0 → dayForm d) := by
 rcases form_out d with h | ⟨h, k⟩
 ·refine ⟨Planform d, str [], ?_, ?_, fun e => absurd e h⟩
  ·revert h
   rw [Fishref2TextFault, Planform]
   simp only [form1, form4, bnd_eq]
   cases (if decide (((d.Trains).length : Int) > 12) = true then true else decide (((d.Turns).length : Int) > 8)) with
   | true => intro _; rfl
   | false =>
    simp only [Bool.false_eq_true, if_false]
    cases Planform.loop1 d.Trains with
    | ret r => intro _; rfl
    | next u =>
     dsimp only
     cases Planform.loop4 d.Turns with
     | ret r => intro _; rfl
     | next u => intro h; exact absurd rfl h
  ·rw [PlanText, if_pos (by simpa using h)]
 ·obtain ⟨k1, k2, k3, k4⟩ := k
  have hnum := num_all ⟨k1, k2, k3, k4⟩
  obtain ⟨z, h1, h2⟩ := txt1 d.Trains ByteArray.empty true hi.1 k3 (by simp; omega)
  have h2' : z.size ≤ 1700 * d.Trains.length := by simpa using h2
  obtain ⟨z2, h3, h4⟩ := txt3 (str [116, 117, 114, 110]) (by decide) PlanText.loop4 (fun _ _ => rfl) (fun _ _ _ _ => rfl) 12 (by omega) d.Turns z (true && (d.Trains.flatMap numT).all (·.all wi)) hi.2 k4 (by omega)
  have hT : Fishref2TextFault d = some (if (d.Trains.flatMap numT ++ d.Turns).all (·.all wi) then 0 else 2) := by
   have h' := h
   rw [Planform] at h'
   simp only [bnd_eq] at h'
   rw [Fishref2TextFault]
   simp only [form1, form4, bnd_eq]
   cases hc : (if decide (((d.Trains).length : Int) > 12) = true then true else decide (((d.Turns).length : Int) > 8)) with
   | true => rw [hc] at h'; cases h'
   | false =>
    rw [hc] at h'
    simp only [Bool.false_eq_true, if_false] at h' ⊢
    cases hA : Planform.loop1 d.Trains with
    | ret r =>
     rw [hA] at h'
     rcases form1_out d.Trains with ⟨e, he, hh⟩ | ⟨hh, _⟩
     ·rw [hA] at hh; injection hh with hh; dsimp only at h'; rw [hh] at h'; exact absurd h' he
     ·rw [hA] at hh; cases hh
    | next u =>
     rw [hA] at h'
     dsimp only at h' ⊢
     cases hB : Planform.loop4 d.Turns with
     | ret r =>
      rw [hB] at h'
      rcases form4_out d.Turns with ⟨e, he, hh⟩ | ⟨hh, _⟩
      ·rw [hB] at hh; injection hh with hh; dsimp only at h'; rw [hh] at h'; exact absurd h' he
      ·rw [hB] at hh; cases hh
     | next u =>
      dsimp only
      rw [hnum, Option.bind_some, num5 _ _ 0 (List.drop_zero), Option.bind_some]
      cases (d.Trains.flatMap numT ++ d.Turns).all (·.all wi) <;> rfl
  refine ⟨_, if (d.Trains.flatMap numT ++ d.Turns).all (·.all wi) then z2 else str [], hT, ?_, fun _ => ⟨k1, k2, k3, k4⟩⟩
  rw [PlanText, if_neg (by simp [h]), h1, Option.bind_some]
  dsimp only
  rw [h3, Option.bind_some]
  dsimp only
  rw [List.all_append]
  cases hA : (d.Trains.flatMap numT).all (·.all wi) <;> cases hB : d.Turns.all (·.all wi) <;> simp [hA, hB]
theorem chk2 (t : ApiTrain) : ∀ (l : List ApiStop) (k : Nat), Fishref2GuideFault.loop3 t l k = GuideCheck.loop2 t l k
 | [], _ => rfl
 | x :: r, k => by
  simp only [Fishref2GuideFault.loop3, GuideCheck.loop2, chk2 t r]
  rfl
def stopsOk (l : List ApiStop) : Prop := (∀ x ∈ l, 0 ≤ x.Station ∧ x.Station ≤ 11 ∧ 0 ≤ x.Arr ∧ x.Arr ≤ 28800 ∧ 0 ≤ x.Dep ∧ x.Dep ≤ 28800 ∧ x.Arr ≤ x.Dep) ∧ ∀ k x y, l[k]? = some x → l[k + 1]? = some y → x.Dep < y.Arr
theorem within_iff (x a b : Int) : Guidewithin x a b = true ↔ a ≤ x ∧ x ≤ b := by
 unfold Guidewithin bnd
 by_cases h : x ≥ a <;> simp [h] <;> omega
theorem chk2_out (t : ApiTrain) (hl : t.Stops.length ≤ 9223372036854775807) : ∀ (r : List ApiStop) (k : Nat), t.Stops.drop k = r →
  (∃ e, e ≠ 0 ∧ GuideCheck.loop2 t r k = some (.ret e)) ∨ (GuideCheck.loop2 t r k = some (.next ()) ∧ (∀ x ∈ r, 0 ≤ x.Station ∧ x.Station ≤ 11 ∧ 0 ≤ x.Arr ∧ x.Arr ≤ 28800 ∧ 0 ≤ x.Dep ∧ x.Dep ≤ 28800 ∧ x.Arr ≤ x.Dep) ∧ ∀ j x y, k ≤ j + 1 → t.Stops[j]? = some x → t.Stops[j + 1]? = some y → x.Dep < y.Arr)
 | [], k, hd => .inr ⟨rfl, by simp, fun j x y hj hx hy => by
   have := drop_nil hd
   have := (List.getElem?_eq_some_iff.1 hy).1
   omega⟩
 | x :: r, k, hd => by
  obtain ⟨d1, d2, d3⟩ := drop_cons hd
  rw [GuideCheck.loop2, bnd_eq]
  cases c1 : Guidewithin x.Station 0 11 with
  | false => exact .inl ⟨2, by decide, by simp⟩
  | true =>
   cases c2 : Guidewithin x.Arr 0 28800 with
   | false => exact .inl ⟨2, by decide, by simp⟩
   | true =>
    cases c3 : Guidewithin x.Dep 0 28800 with
    | false => exact .inl ⟨2, by decide, by simp⟩
    | true =>
     have w1 := (within_iff _ _ _).1 c1
     have w2 := (within_iff _ _ _).1 c2
     have w3 := (within_iff _ _ _).1 c3
     simp only [Bool.not_true, Bool.false_eq_true, if_false]
     by_cases c4 : x.Dep < x.Arr
     ·exact .inl ⟨5, by decide, by simp [c4]⟩
     ·simp only [decide_eq_false c4, Bool.false_eq_true, if_false]
      rcases Nat.eq_zero_or_pos k with c5 | c5
      ·subst c5
       simp only [Int.ofNat_eq_natCast, Int.natCast_zero, gt_iff_lt, Int.lt_irrefl, decide_false, Bool.false_eq_true, if_false, Option.bind_some]
       rcases chk2_out t hl r 1 d3 with h | ⟨h, k1, k2⟩
       ·exact .inl h
       ·refine .inr ⟨h, ?_, fun j a b _ ha hb => k2 j a b (by omega) ha hb⟩
        intro y hy
        rcases List.mem_cons.1 hy with rfl | hy
        ·omega
        ·exact k1 y hy
      ·rw [if_pos (by simpa using c5), gx_prev c5 (by omega) hl, Option.bind_some, Option.bind_some]
       by_cases c6 : x.Arr ≤ (t.Stops[k - 1]'(by omega)).Dep
       ·exact .inl ⟨5, by decide, by simp [c6]⟩
       ·simp only [decide_eq_false c6, Bool.false_eq_true, if_false]
        rcases chk2_out t hl r (k + 1) d3 with h | ⟨h, k1, k2⟩
        ·exact .inl h
        ·refine .inr ⟨h, ?_, fun j a b hj ha hb => ?_⟩
         ·intro y hy
          rcases List.mem_cons.1 hy with rfl | hy
          ·omega
          ·exact k1 y hy
         ·by_cases e : j + 1 = k
          ·subst e
           rw [d2] at hb
           injection hb with hb
           subst hb
           have : t.Stops[j + 1 - 1]'(by omega) = a := by
            have := List.getElem?_eq_some_iff.1 ha
            obtain ⟨_, h2⟩ := this
            simpa using h2
           rw [this] at c6
           omega
          ·exact k2 j a b (by omega) ha hb
theorem chkno (t : ApiTrain) : ∀ l : List ApiTrain, Fishref2GuideFault.loop2 t l = if l.any (·.No == t.No) then .ret 6 else .next ()
 | [] => rfl
 | x :: r => by
  rw [Fishref2GuideFault.loop2, chkno t r]
  cases h : (x.No == t.No) <;> simp [h]
structure DayOk (d : ApiDay) : Prop where
 form : dayForm d
 two : ∀ t ∈ d.Trains, 2 ≤ t.Stops.length
 stops : ∀ t ∈ d.Trains, stopsOk t.Stops
 nos : ∀ t ∈ d.Trains, 1 ≤ t.No ∧ t.No ≤ 9999
 apart : ∀ (i j : Nat) (s t : ApiTrain), i < j → d.Trains[i]? = some s → d.Trains[j]? = some t → s.No ≠ t.No
theorem chk1 (d : ApiDay) (hl : d.Trains.length ≤ 9223372036854775807) (hs : ∀ t ∈ d.Trains, t.Stops.length ≤ 9223372036854775807) : ∀ (r : List ApiTrain) (k : Nat) (q : List (Int × Bool)), d.Trains.drop k = r →
  (∀ n, (mget q n).getD false = (d.Trains.take k).any (·.No == n)) →
  (∃ e, e ≠ 0 ∧ Fishref2GuideFault.loop1 d r k = some (.ret e) ∧ GuideCheck.loop1 r q = some (.ret e)) ∨
  (Fishref2GuideFault.loop1 d r k = some (.next ()) ∧ (∃ q', GuideCheck.loop1 r q = some (.next q')) ∧ (∀ t ∈ r, 2 ≤ t.Stops.length ∧ stopsOk t.Stops ∧ 1 ≤ t.No ∧ t.No ≤ 9999) ∧ ∀ i j s t, i < j → k ≤ j → d.Trains[i]? = some s → d.Trains[j]? = some t → s.No ≠ t.No)
 | [], k, q, hd, _ => .inr ⟨rfl, ⟨q, rfl⟩, by simp, fun i j s t _ hj _ ht => by
   have := drop_nil hd
   have := (List.getElem?_eq_some_iff.1 ht).1
   omega⟩
 | t :: r, k, q, hd, hq => by
  obtain ⟨d1, d2, d3⟩ := drop_cons hd
  have htm : t ∈ d.Trains := List.mem_of_getElem? d2
  rw [Fishref2GuideFault.loop1, GuideCheck.loop1, cutl_in (by omega) (by omega) (by omega), Option.bind_some, bnd_eq, chkno, hq]
  rw [show Fishref2within t.No 1 9999 = Guidewithin t.No 1 9999 from rfl]
  cases c1 : Guidewithin t.No 1 9999 with
  | false => exact .inl ⟨2, by decide, by simp, by simp⟩
  | true =>
   have w1 := (within_iff _ _ _).1 c1
   simp only [Bool.not_true, Bool.false_eq_true, if_false]
   have e0 : List.drop (Int.toNat 0) (List.take (((k : Nat) : Int).toNat) d.Trains) = d.Trains.take k := by simp
   rw [e0]
   cases c2 : (d.Trains.take k).any (·.No == t.No) with
   | true => exact .inl ⟨6, by decide, by simp, by simp⟩
   | false =>
    simp only [Bool.false_eq_true, if_false]
    by_cases c3 : ((t.Stops.length : Nat) : Int) < 2
    ·exact .inl ⟨1, by decide, by simp [c3], by simp [c3]⟩
    ·simp only [decide_eq_false c3, Bool.false_eq_true, if_false, chk2]
     rcases chk2_out t (hs t htm) t.Stops 0 rfl with ⟨e, he, h⟩ | ⟨h, k1, k2⟩
     ·exact .inl ⟨e, he, by rw [h]; rfl, by rw [h]; rfl⟩
     ·rw [h, Option.bind_some, Option.bind_some]
      dsimp only
      have hq2 : ∀ n, (mget (mput q t.No true) n).getD false = (d.Trains.take (k + 1)).any (·.No == n) := by
       intro n
       rw [mget_put, List.take_add_one, d2]
       simp only [Option.toList_some, List.any_append, List.any_cons, List.any_nil, Bool.or_false]
       by_cases c : n = t.No
       ·subst c; simp
       ·have : (t.No == n) = false := by simpa using fun h => c h.symm
        rw [if_neg c, this, Bool.or_false]; exact hq n
      rcases chk1 d hl hs r (k + 1) (mput q t.No true) d3 hq2 with ⟨e, he, h1, h2⟩ | ⟨h1, ⟨q', h2⟩, h3, h4⟩
      ·exact .inl ⟨e, he, h1, h2⟩
      ·refine .inr ⟨h1, ⟨q', h2⟩, ?_, ?_⟩
       ·intro u hu
        rcases List.mem_cons.1 hu with rfl | hu
        ·exact ⟨by omega, ⟨k1, fun j x y hx hy => k2 j x y (by omega) hx hy⟩, w1.1, w1.2⟩
        ·exact h3 u hu
       ·intro i j s u hij hj hi hu
        by_cases e : j = k
        ·subst e
         rw [d2] at hu
         injection hu with hu
         subst hu
         intro e
         have : (d.Trains.take j).any (·.No == t.No) = true := by
          rw [List.any_eq_true]
          refine ⟨s, ?_, by simpa using e⟩
          apply List.mem_of_getElem? (i := i)
          rw [List.getElem?_take, if_pos hij]; exact hi
         rw [this] at c2; cases c2
        ·exact h4 i j s u hij (by omega) hi hu
theorem check_ok {d : ApiDay} (hi : InApiDay d) : ∃ e, Fishref2GuideFault d = some e ∧ GuideCheck d = some e ∧ (e = 0 → DayOk d) := by
 obtain ⟨e, b, h1, h2, h3⟩ := text_ok hi
 rw [Fishref2GuideFault, GuideCheck, h1, h2, Option.bind_some, Option.bind_some]
 by_cases c : e = 0
 ·subst c
  have hf := h3 rfl
  simp only [bne_self_eq_false, Bool.false_eq_true, if_false]
  rcases chk1 d (by have := hf.1; omega) (fun t ht => by have := (hf.2.2.1 t ht).2.1; omega) d.Trains 0 [] rfl (by simp [mget]) with ⟨e, he, k1, k2⟩ | ⟨k1, ⟨q', k2⟩, k3, k4⟩
  ·exact ⟨e, by rw [k1]; rfl, by rw [k2]; rfl, fun h => absurd h he⟩
  ·refine ⟨0, by rw [k1]; rfl, by rw [k2]; rfl, fun _ => ⟨hf, fun t ht => (k3 t ht).1, fun t ht => (k3 t ht).2.1, fun t ht => (k3 t ht).2.2, fun i j s t hij hs ht => k4 i j s t hij (by omega) hs ht⟩⟩
 ·have : (e != 0) = true := by simpa using c
  simp only [this, if_true]
  exact ⟨e, rfl, rfl, fun h => absurd h c⟩
theorem rngO_same {α σ : Type} {f : α → σ → Orc → Option σ} {st : σ} : ∀ (n : Nat) (left : List α) (o : Orc), (∀ x ∈ left, ∀ o, f x st o = some st) → rngO f n left st o = some st
 | 0, _, _, _ => rfl
 | n + 1, left, o, h => by
  rw [rngO]
  cases k : left[o [] % left.length]? with
  | none => rfl
  | some x =>
   simp only
   rw [h x (List.mem_of_getElem? k), Option.bind_some]
   exact rngO_same n _ _ (fun y hy => h y (List.mem_of_mem_eraseIdx hy))
theorem rngO_single {α σ : Type} {f : α → σ → Orc → Option σ} {x : α} {st st' : σ} (h : ∀ o, f x st o = some st') (n : Nat) (o : Orc) : rngO f (n + 1) [x] st o = some st' := by
 rw [rngO]
 simp only [List.length_singleton, Nat.mod_one, List.getElem?_cons_zero, h, Option.bind_some, List.eraseIdx_cons_zero]
 cases n <;> simp [rngO]
def smallNet : GuideNet := ⟨Fishlaw2small, 40⟩
abbrev smallE : List (List (GuidePlace × Bool)) := [[(⟨0, 1⟩, true), (⟨0, 2⟩, true)], [(⟨1, 1⟩, true)], [], []]
abbrev smallP : GuidePoint := ⟨100, 400, 2⟩
theorem small_ends : GuideNetends smallNet [⟨0, 0, 1⟩, ⟨0, 0, 2⟩] = some smallE := by kernel_rfl
theorem small4_0 (o : Orc) : GuideNetpoints.loop4 smallNet 3 100 0 [(⟨0, 1⟩, true), (⟨0, 2⟩, true)] [] [] o = some ([], []) := by
 unfold GuideNetpoints.loop4
 refine rngO_same _ _ _ ?_
 intro x hx o
 simp only [List.mem_cons, List.not_mem_nil, or_false] at hx
 rcases hx with rfl | rfl
 ·kernel_rfl
 ·kernel_rfl
theorem small4_1 (o : Orc) : GuideNetpoints.loop4 smallNet 3 100 1 [(⟨1, 1⟩, true)] [] [] o = some ([smallP], [(smallP, true)]) := by
 unfold GuideNetpoints.loop4
 exact rngO_single (fun o => by kernel_rfl) _ _
theorem small3 (o : Orc) : GuideNetpoints.loop3 smallNet 3 100 smallE 4 [] [] o = some ([smallP], [(smallP, true)]) := by
 have s0 : ∀ o, GuideNetpoints.loop3.step smallNet 3 100 smallE 0 [] [] o = some ([], []) := by
  intro o
  show Option.bind (GuideNetpoints.loop4 smallNet 3 100 0 [(⟨0, 1⟩, true), (⟨0, 2⟩, true)] [] [] (o.sub 0)) _ = _
  rw [small4_0]; rfl
 have s1 : ∀ o, GuideNetpoints.loop3.step smallNet 3 100 smallE 1 [] [] o = some ([smallP], [(smallP, true)]) := by
  intro o
  show Option.bind (GuideNetpoints.loop4 smallNet 3 100 1 [(⟨1, 1⟩, true)] [] [] (o.sub 0)) _ = _
  rw [small4_1]; rfl
 have s2 : ∀ o, GuideNetpoints.loop3.step smallNet 3 100 smallE 2 [smallP] [(smallP, true)] o = some ([smallP], [(smallP, true)]) := by intro o; rfl
 have s3 : ∀ o, GuideNetpoints.loop3.step smallNet 3 100 smallE 3 [smallP] [(smallP, true)] o = some ([smallP], [(smallP, true)]) := by intro o; rfl
 unfold GuideNetpoints.loop3
 simp only [cntO, s0, s1, s2, s3, Option.bind_some, Nat.zero_add, Nat.reduceAdd]
theorem small_points : GuideNetpoints smallNet 0 3 = some [smallP] := by
 refine same_of fun o => ?_
 have h1 : GuideNetpoints.loop1 smallNet (GuideNetrides smallNet 0 0 (-1)) [] = some [(100, [⟨0, 0, 1⟩, ⟨0, 0, 2⟩])] := by kernel_rfl
 have h2 : ∀ o, GuideNetpoints.loop2 smallNet 3 [(100, [⟨0, 0, 1⟩, ⟨0, 0, 2⟩])] [] [] o = some ([smallP], [(smallP, true)]) := by
  intro o
  unfold GuideNetpoints.loop2
  refine rngO_single (fun o => ?_) _ _
  dsimp only
  unfold GuideNetpoints.loop2.step
  rw [small_ends, Option.bind_some]
  show Option.bind (GuideNetpoints.loop3 smallNet 3 100 smallE 4 [] [] (o.sub 0)) _ = _
  rw [small3]; rfl
 have h3 : srtF GuidecomparePoints [smallP] = some [smallP] := by kernel_rfl
 unfold GuideNetpoints.o
 rw [bnd_eq, h1, Option.bind_some]
 show Option.bind (GuideNetpoints.loop2 smallNet 3 [(100, [⟨0, 0, 1⟩, ⟨0, 0, 2⟩])] [] [] (o.sub 0)) _ = _
 rw [h2, Option.bind_some]
 dsimp only
 rw [h3]; rfl
theorem small_in : InApiDay Fishlaw2small := by
 simp [InApiDay, inL, InApiTrain, InApiStop, inI, Fishlaw2small, Fishlaw2small_1, bnd]
theorem small_check : GuideCheck Fishlaw2small = some 0 := by
 obtain ⟨e, h1, h2, _⟩ := check_ok small_in
 have h3 : Fishref2GuideFault Fishlaw2small = some 0 := by kernel_rfl
 rw [h1] at h3
 injection h3 with h3
 rw [h2, h3]
theorem small_asked : Guidecheck Fishlaw2small 40 0 3 [0] = some 0 := by
 unfold Guidecheck GuidecheckLeast
 rw [small_check]
 kernel_rfl
theorem small_best (n : Nat) : ((SlicesDeleteFuncLguidePoint_v1 (n + 60) [smallP] 0).bind fun q64 => (if (((q64.length : Nat) : Int) == 0) then some ((GuideJourney.mk []), false) else ((SlicesMinFuncLguidePoint_v1 (n + 60) q64).bind fun q76 => ((GuideNetleastOf (n + 60) smallNet 0 3 q76).bind fun q83 => some (q83, true))))) = some (⟨[⟨0, 0, 1⟩, ⟨1, 0, 1⟩]⟩, true) := by kernel_rfl
theorem guides_true (n : Nat) : Fishlaw2guides (n + 60) = some true := by
 have h1 : GuideNetearliest (n + 60) smallNet 0 0 3 = some (⟨[⟨0, 0, 1⟩, ⟨1, 0, 1⟩]⟩, true) := by
  rw [GuideNetearliest, small_points, Option.bind_some]
  exact small_best n
 have h2 : GuideEarliest (n + 60) Fishlaw2small 0 0 3 40 = some (⟨[⟨0, 0, 1⟩, ⟨1, 0, 1⟩]⟩, 0) := by
  rw [GuideEarliest, small_asked, Option.bind_some]
  show (((GuideNetearliest (n + 60) smallNet 0 0 3).bind _) : Option (GuideJourney × Int)) = _
  rw [h1]; rfl
 rw [Fishlaw2guides, bnd_eq, h2]
 rfl
theorem gx_mem {α : Type} {l : List α} {i : Int} {x : α} (h : gx l i = some x) : x ∈ l := List.mem_of_getElem? (gx_some h).2.2
theorem gx_lt {α : Type} {l : List α} {i : Int} {x : α} (h : gx l i = some x) : 0 ≤ i ∧ i < l.length := by obtain ⟨h1, h2, _⟩ := gx_some h; omega
def validR (d : ApiDay) (p : GuideRide) : Prop := ∃ t a b, gx d.Trains p.Train = some t ∧ gx t.Stops p.On = some a ∧ gx t.Stops p.Off = some b
theorem within_len {x : Int} {n : Nat} (hn : n ≤ 1000) : Guidewithin x 0 (w64 ((n : Int) - 1)) = decide (0 ≤ x ∧ x < n) := by
 rw [w64_id (by omega)]
 cases h : Guidewithin x 0 ((n : Int) - 1) with
 | true => have := (within_iff _ _ _).1 h; exact (decide_eq_true (by omega)).symm
 | false =>
  refine (decide_eq_false ?_).symm
  intro c
  have := (within_iff x 0 ((n : Int) - 1)).2 (by omega)
  rw [h] at this; cases this
structure OddOk (n : Nat) (o : GuideOdds) : Prop where
 tr : 0 ≤ o.Train ∧ o.Train < n
 len : o.Weight.length = o.Late.length
 small : o.Late.length ≤ 6
 pos : 1 ≤ o.Late.length
 late : ∀ x ∈ o.Late, 0 ≤ x ∧ x ≤ 28800
 weight : ∀ x ∈ o.Weight, 1 ≤ x ∧ x ≤ 10
theorem odds3 (o : GuideOdds) : ∀ (l : List Int) (k : Nat), Fishref2OddsFault.loop3 o l k = GuidecheckOdds.loop2 o l k
 | [], _ => rfl
 | x :: r, k => by
  simp only [Fishref2OddsFault.loop3, GuidecheckOdds.loop2, odds3 o r]
  rfl
theorem odds3_out (o : GuideOdds) (hw : o.Weight.length = o.Late.length) (hs : o.Late.length ≤ 6) : ∀ (r : List Int) (k : Nat), o.Late.drop k = r →
  (∃ e, e ≠ 0 ∧ GuidecheckOdds.loop2 o r k = some (.ret e)) ∨ (GuidecheckOdds.loop2 o r k = some (.next ()) ∧ (∀ x ∈ r, 0 ≤ x ∧ x ≤ 28800) ∧ ∀ x ∈ o.Weight.drop k, 1 ≤ x ∧ x ≤ 10)
 | [], k, hd => .inr ⟨rfl, by simp, by
   have := drop_nil hd
   rw [List.drop_eq_nil_of_le (by omega)]; simp⟩
 | x :: r, k, hd => by
  obtain ⟨d1, d2, d3⟩ := drop_cons hd
  have hwk : k < o.Weight.length := by omega
  rw [GuidecheckOdds.loop2, gx_at hwk]
  have hdw : o.Weight.drop k = o.Weight[k] :: o.Weight.drop (k + 1) := List.drop_eq_getElem_cons hwk
  generalize o.Weight[k] = w at hdw
  cases c1 : Guidewithin x 0 28800 with
  | false => exact .inl ⟨2, by decide, by simp⟩
  | true =>
   simp only [Bool.not_true, Bool.false_eq_true, if_false, Option.bind_some]
   cases c2 : Guidewithin w 1 10 with
   | false => exact .inl ⟨2, by decide, by simp⟩
   | true =>
    simp only [Bool.not_true, Bool.false_eq_true, if_false]
    have w1 := (within_iff _ _ _).1 c1
    have w2 := (within_iff _ _ _).1 c2
    have fin : (∃ e, e ≠ 0 ∧ GuidecheckOdds.loop2 o r (k + 1) = some (.ret e)) ∨ (GuidecheckOdds.loop2 o r (k + 1) = some (.next ()) ∧ (∀ y ∈ x :: r, 0 ≤ y ∧ y ≤ 28800) ∧ ∀ y ∈ o.Weight.drop k, 1 ≤ y ∧ y ≤ 10) := by
     rcases odds3_out o hw hs r (k + 1) d3 with h | ⟨h, k1, k2⟩
     ·exact .inl h
     ·refine .inr ⟨h, ?_, ?_⟩
      ·intro y hy
       rcases List.mem_cons.1 hy with rfl | hy
       ·exact w1
       ·exact k1 y hy
      ·rw [hdw]
       intro y hy
       rcases List.mem_cons.1 hy with rfl | hy
       ·exact w2
       ·exact k2 y hy
    rcases Nat.eq_zero_or_pos k with c3 | c3
    ·have e0 : decide (((k : Nat) : Int) > 0) = false := by rw [c3]; rfl
     rw [e0]
     simp only [Bool.false_eq_true, if_false, Option.bind_some]
     exact fin
    ·rw [if_pos (by simpa using c3), gx_prev c3 (by omega) (by omega), Option.bind_some, Option.bind_some]
     split
     ·exact .inl ⟨5, by decide, rfl⟩
     ·exact fin
theorem oddsno (o : GuideOdds) : ∀ l : List GuideOdds, Fishref2OddsFault.loop2 o l = if l.any (·.Train == o.Train) then .ret 6 else .next ()
 | [] => rfl
 | x :: r => by
  rw [Fishref2OddsFault.loop2, oddsno o r]
  cases h : (x.Train == o.Train) <;> simp [h]
theorem oddshas (o : GuideOdds) (l : List GuideOdds) : SlicesContainsFuncLguideOdds_v1 l o = l.any (·.Train == o.Train) := by
 have key : ∀ (r : List GuideOdds) (k : Nat), SlicesIndexFuncLguideOdds_v1.loop1 o r k = if r.any (·.Train == o.Train) then .ret ((k + r.findIdx (·.Train == o.Train) : Nat) : Int) else .next () := by
  intro r
  induction r with
  | nil => intro k; rfl
  | cons x r ih =>
   intro k
   rw [SlicesIndexFuncLguideOdds_v1.loop1, GuidecheckOdds_1_v1, ih]
   rw [List.any_cons, List.findIdx_cons]
   cases h : (x.Train == o.Train) with
   | true => simp
   | false =>
    simp only [Bool.false_or, Bool.false_eq_true, if_false, cond_false]
    rw [show k + 1 + List.findIdx (fun x => x.Train == o.Train) r = k + (List.findIdx (fun x => x.Train == o.Train) r + 1) by omega]
 rw [SlicesContainsFuncLguideOdds_v1, SlicesIndexFuncLguideOdds_v1, key l 0, bnd_eq]
 cases l.any (·.Train == o.Train) with
 | true => simp only [if_true]; exact decide_eq_true (by omega)
 | false => rfl
theorem odds1 (d : ApiDay) (hn : d.Trains.length ≤ 12) (L : List GuideOdds) (hL : L.length ≤ 12) : ∀ (r : List GuideOdds) (k : Nat), L.drop k = r →
  (∃ e, e ≠ 0 ∧ Fishref2OddsFault.loop1 d L r k = some (.ret e) ∧ GuidecheckOdds.loop1 d L r k = some (.ret e)) ∨ (Fishref2OddsFault.loop1 d L r k = some (.next ()) ∧ GuidecheckOdds.loop1 d L r k = some (.next ()) ∧ ∀ o ∈ r, OddOk d.Trains.length o)
 | [], _, _ => .inr ⟨rfl, rfl, by simp⟩
 | o :: r, k, hd => by
  obtain ⟨d1, d2, d3⟩ := drop_cons hd
  rw [Fishref2OddsFault.loop1, GuidecheckOdds.loop1, bnd_eq, within_len (by omega), cutl_in (by omega) (by omega) (by omega), Option.bind_some, Option.bind_some, bnd_eq, oddsno, oddshas]
  by_cases c1 : 0 ≤ o.Train ∧ o.Train < d.Trains.length
  ·have e1 : (if decide (o.Train < 0) = true then true else decide (o.Train ≥ ((d.Trains).length : Int))) = false := by
    rw [if_neg (by simp; omega)]; exact decide_eq_false (by omega)
   rw [e1, decide_eq_true c1]
   simp only [Bool.not_true, Bool.false_eq_true, if_false]
   cases (List.drop (Int.toNat 0) (List.take (((k : Nat) : Int).toNat) L)).any (·.Train == o.Train) with
   | true => exact .inl ⟨6, by decide, rfl, rfl⟩
   | false =>
    simp only [Bool.false_eq_true, if_false]
    by_cases c2 : o.Late.length = o.Weight.length
    ·have e2 : (((o.Late.length : Nat) : Int) != ((o.Weight.length : Nat) : Int)) = false := by rw [c2]; simp
     rw [e2]
     simp only [Bool.false_eq_true, if_false]
     rw [show Fishref2within ((o.Late.length : Nat) : Int) 1 6 = Guidewithin ((o.Late.length : Nat) : Int) 1 6 from rfl]
     cases c3 : Guidewithin ((o.Late.length : Nat) : Int) 1 6 with
     | false => exact .inl ⟨4, by decide, by simp, by simp⟩
     | true =>
      have w := (within_iff _ _ _).1 c3
      simp only [Bool.not_true, Bool.false_eq_true, if_false, odds3]
      rcases odds3_out o c2.symm (by omega) o.Late 0 List.drop_zero with ⟨e, he, h⟩ | ⟨h, k1, k2⟩
      ·exact .inl ⟨e, he, by rw [h]; rfl, by rw [h]; rfl⟩
      ·rw [h, Option.bind_some, Option.bind_some]
       dsimp only
       rcases odds1 d hn L hL r (k + 1) d3 with h | ⟨h1, h2, h3⟩
       ·exact .inl h
       ·refine .inr ⟨h1, h2, ?_⟩
        intro u hu
        rcases List.mem_cons.1 hu with rfl | hu
        ·exact ⟨c1, c2.symm, by omega, by omega, k1, by simpa using k2⟩
        ·exact h3 u hu
    ·have e2 : (((o.Late.length : Nat) : Int) != ((o.Weight.length : Nat) : Int)) = true := by
      have : ¬ ((o.Late.length : Nat) : Int) = ((o.Weight.length : Nat) : Int) := by omega
      simpa using this
     rw [e2]
     exact .inl ⟨1, by decide, rfl, rfl⟩
  ·have e1 : (if decide (o.Train < 0) = true then true else decide (o.Train ≥ ((d.Trains).length : Int))) = true := by
    by_cases c : o.Train < 0
    ·rw [if_pos (by simpa using c)]
    ·rw [if_neg (by simpa using c)]; exact decide_eq_true (by omega)
   rw [e1, decide_eq_false c1]
   exact .inl ⟨3, by decide, rfl, rfl⟩
theorem odds_ok (d : ApiDay) (hn : d.Trains.length ≤ 12) (L : List GuideOdds) : ∃ e, Fishref2OddsFault d L = some e ∧ GuidecheckOdds d L = some e ∧ (e = 0 → ∀ o ∈ L, OddOk d.Trains.length o) := by
 rw [Fishref2OddsFault, GuidecheckOdds]
 by_cases c : ((L.length : Nat) : Int) > 12
 ·rw [if_pos (by simpa using c), if_pos (by simpa using c)]
  exact ⟨4, rfl, rfl, fun h => by cases h⟩
 ·rw [if_neg (by simpa using c), if_neg (by simpa using c)]
  rcases odds1 d hn L (by omega) L 0 List.drop_zero with ⟨e, he, h1, h2⟩ | ⟨h1, h2, h3⟩
  ·exact ⟨e, by rw [h1]; rfl, by rw [h2]; rfl, fun h => absurd h he⟩
  ·exact ⟨0, by rw [h1]; rfl, by rw [h2]; rfl, fun _ => h3⟩
theorem index_loop (x : Int) : ∀ (l : List Int) (k : Nat), (SlicesIndexLint.loop1 x l k = .next () ∧ x ∉ l) ∨ (∃ j : Nat, SlicesIndexLint.loop1 x l k = .ret (((k + j : Nat) : Nat) : Int) ∧ l[j]? = some x)
 | [], k => .inl ⟨rfl, by simp⟩
 | y :: r, k => by
  by_cases h : x = y
  ·subst h; exact .inr ⟨0, by simp [SlicesIndexLint.loop1], rfl⟩
  ·have hb : (x == y) = false := by simpa using h
   rcases index_loop x r (k + 1) with ⟨h1, h2⟩ | ⟨j, h1, h2⟩
   ·exact .inl ⟨by simp [SlicesIndexLint.loop1, hb, h1], by simp [h, h2]⟩
   ·refine .inr ⟨j + 1, ?_, by simpa using h2⟩
    simp only [SlicesIndexLint.loop1, hb, Bool.false_eq_true, if_false, h1]
    have e : k + 1 + j = k + (j + 1) := by omega
    rw [e]
theorem index_cases (l : List Int) (x : Int) : (SlicesIndexLint l x = -1 ∧ x ∉ l) ∨ (∃ j : Nat, SlicesIndexLint l x = (j : Int) ∧ l[j]? = some x) := by
 unfold SlicesIndexLint
 rcases index_loop x l 0 with ⟨h1, h2⟩ | ⟨j, h1, h2⟩
 ·exact .inl ⟨by simp [h1, bnd_eq], h2⟩
 ·exact .inr ⟨j, by simp [h1, bnd_eq], h2⟩
theorem contains_eq (l : List Int) (x : Int) : SlicesContainsLint l x = l.contains x := by
 unfold SlicesContainsLint
 rcases index_cases l x with ⟨h1, h2⟩ | ⟨j, h1, h2⟩
 ·rw [h1]; simp [h2]
 ·rw [h1]; have := List.mem_of_getElem? h2; simp [this]
theorem mgi_put (m : List (Int × Int)) (k j v : Int) : (mget (mput m k v) j).getD 0 = if j = k then v else (mget m j).getD 0 := by
 induction m with
 | nil =>
  simp only [mput, mget]
  by_cases h : j = k <;> simp [h]
 | cons p r ih =>
  obtain ⟨a, b⟩ := p
  simp only [mput]
  by_cases h : k = a
  ·subst h
   simp only [beq_self_eq_true, if_true, mget]
   by_cases h2 : j = k <;> simp [h2]
  ·have hb : (k == a) = false := by simpa using h
   simp only [hb, Bool.false_eq_true, if_false, mget]
   by_cases h2 : j = a
   ·subst h2; have : ¬ j = k := fun e => h e.symm; simp [this]
   ·have hb2 : (j == a) = false := by simpa using h2
    simp only [hb2, Bool.false_eq_true, if_false]
    exact ih
section
variable {d : ApiDay} {ls : Int} {j : GuideJourney} {od : List GuideOdds} {tr : List Int}
def val (m : List (Int × Int)) (t : Int) : Int := (mget m t).getD 0
structure Agr (od : List GuideOdds) (tr : List Int) (i : Nat) (m m' : List (Int × Int)) : Prop where
 same : ∀ (k : Nat) (t : Int), k < i → tr[k]? = some t → val m t = val m' t
 none : ∀ t, (∀ o ∈ od, o.Train ≠ t) → val m t = 0
 b : ∀ t, 0 ≤ val m t ∧ val m t ≤ 28800
theorem Agr.down {i : Nat} {m m' : List (Int × Int)} (h : Agr od tr (i + 1) m m') : Agr od tr i m m' := ⟨fun k t hk => h.same k t (by omega), h.none, h.b⟩
theorem Agr.put {i : Nat} {m m' : List (Int × Int)} (h : Agr od tr i m m') (hn : tr.Nodup) {t v : Int} (ht : tr[i]? = some t) (ho : ∃ o ∈ od, o.Train = t) (hv : 0 ≤ v ∧ v ≤ 28800) : Agr od tr (i + 1) (mput m t v) (mput m' t v) := by
 refine ⟨fun k u hk hu => ?_, fun u hu => ?_, fun u => ?_⟩
 ·unfold val
  rw [mgi_put, mgi_put]
  by_cases c : u = t
  ·rw [if_pos c, if_pos c]
  ·rw [if_neg c, if_neg c]
   have : k ≠ i := fun e => by subst e; rw [ht] at hu; injection hu with hu; exact c hu.symm
   exact h.same k u (by omega) hu
 ·unfold val
  obtain ⟨o, o1, o2⟩ := ho
  rw [mgi_put, if_neg (fun e => hu o o1 (o2.trans e.symm))]
  exact h.none u hu
 ·unfold val
  rw [mgi_put]
  split
  ·exact hv
  ·exact h.b u
theorem Agr.zero {i : Nat} {m m' : List (Int × Int)} (h : Agr od tr i m m') (hn : tr.Nodup) {t : Int} (ht : tr[i]? = some t) (ho : ∀ o ∈ od, o.Train ≠ t) : Agr od tr (i + 1) m (mput m' t 0) := by
 refine ⟨fun k u hk hu => ?_, h.none, h.b⟩
 by_cases c : u = t
 ·subst c
  rw [h.none u ho]
  unfold val
  rw [mgi_put, if_pos rfl]
 ·have : k ≠ i := fun e => by subst e; rw [ht] at hu; injection hu with hu; exact c hu.symm
  rw [h.same k u (by omega) hu]
  unfold val
  rw [mgi_put, if_neg c]
theorem idx2 (t : Int) {i : Nat} (ht : tr[i]? = some t) : ∀ (r : List GuideOdds) (k : Nat), SlicesIndexFuncLguideOdds_v2.loop1 tr (i : Int) r k = some (if r.any (·.Train == t) then .ret ((k + r.findIdx (·.Train == t) : Nat) : Int) else .next ())
 | [], k => rfl
 | x :: r, k => by
  rw [SlicesIndexFuncLguideOdds_v2.loop1, GuideNetcount_1_1_v1, gx_nat, ht, Option.bind_some, Option.bind_some, idx2 t ht r]
  rw [List.any_cons, List.findIdx_cons]
  cases h : (x.Train == t) with
  | true => simp
  | false =>
   simp only [Bool.false_or, Bool.false_eq_true, if_false, cond_false]
   rw [show k + 1 + List.findIdx (fun x => x.Train == t) r = k + (List.findIdx (fun x => x.Train == t) r + 1) by omega]
def bad (d : ApiDay) (ls : Int) (j : GuideJourney) (m : List (Int × Int)) : List GuideRide → Nat → Option Bool
 | [], _ => some false
 | x :: r, k => (gx j.Rides (w64 (((k : Nat) : Int) - 1))).bind fun p => (GuideNetoff ⟨d, ls⟩ p).bind fun a => (GuideNeton ⟨d, ls⟩ x).bind fun b => if decide ((w64 ((w64 (a.Arr + ((mget m p.Train).getD 0))) + ls)) > (w64 (b.Dep + ((mget m x.Train).getD 0)))) then some true else bad d ls j m r (k + 1)
theorem bad_in (hr : ∀ p ∈ j.Rides, validR d p) (hl : j.Rides.length ≤ 4) (m : List (Int × Int)) : ∀ (r : List GuideRide) (k : Nat), 0 < k → j.Rides.drop k = r → ∃ b, bad d ls j m r k = some b
 | [], _, _, _ => ⟨false, rfl⟩
 | x :: r, k, hk, hd => by
  obtain ⟨d1, d2, d3⟩ := drop_cons hd
  obtain ⟨b, hb⟩ := bad_in hr hl m r (k + 1) (by omega) d3
  have hp := gx_prev (l := j.Rides) hk (by omega) (by omega)
  obtain ⟨t, s1, s2, g1, g2, g3⟩ := hr x (List.mem_of_getElem? d2)
  obtain ⟨t', s1', s2', g1', g2', g3'⟩ := hr _ (List.getElem_mem (show k - 1 < j.Rides.length by omega))
  rw [bad, hp, Option.bind_some, GuideNetoff]
  simp only [g1', g3', Option.bind_some]
  rw [GuideNeton]
  simp only [g1, g2, Option.bind_some, hb]
  split
  ·exact ⟨true, rfl⟩
  ·exact ⟨b, rfl⟩
theorem bad_prog (w : Int) (m : List (Int × Int)) (c : GuideCases) : ∀ (r : List GuideRide) (k : Nat), 0 < k → GuideNetcount_1_v1.loop2 w m c j ⟨d, ls⟩ r k = (bad d ls j m r k).bind fun b => some (if b then .ret (m, c.holds, w64 (c.all + w), c.late) else .next ())
 | [], _, _ => rfl
 | x :: r, k, hk => by
  rw [GuideNetcount_1_v1.loop2, bad, if_pos (by simpa using hk), bad_prog w m c r (k + 1) (by omega)]
  cases gx j.Rides (w64 (((k : Nat) : Int) - 1)) with
  | none => rfl
  | some p =>
   simp only [Option.bind_some]
   cases GuideNetoff ⟨d, ls⟩ p with
   | none => rfl
   | some a =>
    simp only [Option.bind_some]
    cases GuideNeton ⟨d, ls⟩ x with
    | none => rfl
    | some b =>
     simp only [Option.bind_some]
     split <;> rfl
theorem bad_ref (w a h l : Int) (m' : List (Int × Int)) (hl : j.Rides.length ≤ 4) : ∀ (r : List GuideRide) (k fu : Nat), 0 < k → j.Rides.drop k = r → r.length < fu → ∃ q, Fishref2Cases_1_v1.loop1 w a j d m' ls h l fu (k : Int) = (bad d ls j m' r k).bind fun b => some (if b then .ret (m', w64 (a + w), h, l) else .next q)
 | _, _, 0, _, _, h => absurd h (Nat.not_lt_zero _)
 | [], k, fu + 1, hk, hd, _ => by
  have := drop_nil hd
  rw [Fishref2Cases_1_v1.loop1, if_neg (by simp; omega)]
  exact ⟨(k : Int), rfl⟩
 | x :: r, k, fu + 1, hk, hd, hf => by
  obtain ⟨d1, d2, d3⟩ := drop_cons hd
  simp only [List.length_cons] at hf
  obtain ⟨q, hq⟩ := bad_ref w a h l m' hl r (k + 1) fu (by omega) d3 (by omega)
  refine ⟨q, ?_⟩
  rw [Fishref2Cases_1_v1.loop1, if_pos (by simp; omega), w64_id (x := (k : Int) + 1) (by omega), show ((k : Int) + 1) = ((k + 1 : Nat) : Int) by omega, hq, bad]
  cases hp : gx j.Rides (w64 (((k : Nat) : Int) - 1)) with
  | none => rfl
  | some p =>
   rw [Option.bind_some, Option.bind_some, gx_nat, d2, Option.bind_some, GuideNetoff, GuideNeton]
   dsimp only
   cases gx d.Trains p.Train with
   | none => rfl
   | some x1 =>
    simp only [Option.bind_some]
    cases gx x1.Stops p.Off with
    | none => rfl
    | some s1 =>
     simp only [Option.bind_some]
     cases gx d.Trains x.Train with
     | none => rfl
     | some x2 =>
      simp only [Option.bind_some]
      cases gx x2.Stops x.On with
      | none => rfl
      | some s2 =>
       simp only [Option.bind_some]
       split <;> rfl
theorem bad_same {n : Nat} {m m' : List (Int × Int)} (h : ∀ p ∈ j.Rides, val m p.Train = val m' p.Train) : ∀ (r : List GuideRide) (k : Nat), (∀ p ∈ r, p ∈ j.Rides) → bad d ls j m r k = bad d ls j m' r k
 | [], _, _ => rfl
 | x :: r, k, hr => by
  have hx : (mget m x.Train).getD 0 = (mget m' x.Train).getD 0 := h x (hr x (List.mem_cons_self ..))
  rw [bad, bad, bad_same (n := n) h r (k + 1) fun p q => hr p (List.mem_cons_of_mem _ q), hx]
  cases hp : gx j.Rides (w64 (((k : Nat) : Int) - 1)) with
  | none => rfl
  | some p =>
   have hy : (mget m p.Train).getD 0 = (mget m' p.Train).getD 0 := h p (gx_mem hp)
   rw [Option.bind_some, Option.bind_some, hy]
theorem find2 {self : Int → Int → (List Int) → Int → GuideJourney → ApiDay → (List (Int × Int)) → Int → Int → Int → (List GuideOdds) → Option ((List (Int × Int)) × Int × Int × Int)} {w t : Int} {i : Nat} (ht : tr[i]? = some t) : ∀ (r : List GuideOdds), r.any (·.Train == t) = true →
  ∃ o ∈ r, o.Train = t ∧ r[r.findIdx (·.Train == t)]? = some o ∧ ∀ {m' : List (Int × Int)} {a h l : Int}, Fishref2Cases_1_v1.loop2 (i : Int) w tr j d ls od self r m' a h l = ((Fishref2Cases_1_v1.loop3 (i : Int) w tr j d ls od self o o.Late 0 m' a h l).bind fun q => match q with | (q195, q196, q197, q198) => some (.ret (q195, q196, q197, q198)))
 | [], h => by cases h
 | o :: r, h => by
  cases c : (o.Train == t) with
  | true =>
   refine ⟨o, List.mem_cons_self .., by simpa using c, by rw [List.findIdx_cons, c]; rfl, fun {m' a h l} => ?_⟩
   rw [Fishref2Cases_1_v1.loop2, gx_nat, ht, Option.bind_some, c, if_pos rfl]
  | false =>
   rw [List.any_cons, c, Bool.false_or] at h
   obtain ⟨u, h1, h2, h3, h4⟩ := find2 ht r h
   refine ⟨u, List.mem_cons_of_mem _ h1, h2, by rw [List.findIdx_cons, c]; exact h3, fun {m' a h l} => ?_⟩
   rw [Fishref2Cases_1_v1.loop2, gx_nat, ht, Option.bind_some, c, if_neg (by decide)]
   exact h4
variable (hr : ∀ p ∈ j.Rides, validR d p) (hj : 1 ≤ j.Rides.length ∧ j.Rides.length ≤ 4) (hod : ∀ o ∈ od, OddOk d.Trains.length o) (hn : tr.Nodup) (htr : ∀ p ∈ j.Rides, p.Train ∈ tr) (htl : tr.length ≤ 4)
def Cnt (h a l H A L W : Int) : Prop := h ≤ H ∧ H - h ≤ A - a ∧ a + 1 ≤ A ∧ A ≤ a + W ∧ 0 ≤ L ∧ L ≤ 28800 * H
include hr hj hod hn htr htl
theorem cases_same : ∀ (n i fu : Nat) (w h a l : Int) (m m' : List (Int × Int)), i + n = tr.length → n + 20 ≤ fu → Agr od tr i m m' → 1 ≤ w → 0 ≤ h → h ≤ a → a + w * 60 ^ n ≤ 12960000 → 0 ≤ l → l ≤ 28800 * h →
  ∃ m1 m1' H A L, GuideNetcount_1_v1 fu (i : Int) w tr od m ⟨h, a, l⟩ j ⟨d, ls⟩ = some (m1, H, A, L) ∧ Fishref2Cases_1_v1 fu (i : Int) w tr a j d m' ls h l od = some (m1', A, H, L) ∧ Agr od tr i m1 m1' ∧ Cnt h a l H A L (w * 60 ^ n)
 | _, _, 0, _, _, _, _, _, _, _, h, _, _, _, _, _, _, _ => absurd h (by omega)
 | 0, i, fu + 1, w, h, a, l, m, m', hi, hfu, hA, hw, h1, h2, h3, h4, h5 => by
  simp only [Int.pow_zero, Int.mul_one] at h3
  rw [GuideNetcount_1_v1, Fishref2Cases_1_v1, if_neg (by simp; omega), if_pos (by simp; omega)]
  have hs : ∀ p ∈ j.Rides, val m p.Train = val m' p.Train := by
   intro p hp
   obtain ⟨k, hk⟩ := List.getElem?_of_mem (htr p hp)
   exact hA.same k _ (by have := (List.getElem?_eq_some_iff.1 hk).1; omega) hk
  obtain ⟨x, r, hxr⟩ : ∃ x r, j.Rides = x :: r := by
   cases e : j.Rides with
   | nil => rw [e] at hj; simp at hj
   | cons x r => exact ⟨x, r, rfl⟩
  have hd1 : j.Rides.drop 1 = r := by rw [hxr]; rfl
  have hrl : r.length < fu := by have := congrArg List.length hxr; simp at this; omega
  obtain ⟨b, hb⟩ := bad_in (ls := ls) hr hj.2 m r 1 (by omega) hd1
  obtain ⟨q, hq⟩ := bad_ref (d := d) (ls := ls) w a h l m' hj.2 r 1 fu (by omega) hd1 hrl
  have hb' : bad d ls j m' r 1 = some b := by
   rw [← hb]
   exact (bad_same (n := 0) hs r 1 fun p hp => by rw [hxr]; exact List.mem_cons_of_mem _ hp).symm
  have hp : GuideNetcount_1_v1.loop2 w m ⟨h, a, l⟩ j ⟨d, ls⟩ j.Rides 0 = GuideNetcount_1_v1.loop2 w m ⟨h, a, l⟩ j ⟨d, ls⟩ r 1 := by
   rw [hxr, GuideNetcount_1_v1.loop2, if_neg (by decide), Option.bind_some]
  have hq2 : Fishref2Cases_1_v1.loop1 w a j d m' ls h l fu 1 = _ := hq
  rw [hp, bad_prog w m ⟨h, a, l⟩ r 1 (by omega), hb, hq2, hb', Option.bind_some, Option.bind_some, Option.bind_some, Option.bind_some]
  cases b with
  | true =>
   refine ⟨m, m', h, a + w, l, ?_, ?_, hA, ?_⟩
   ·simp only [if_true]; rw [w64_id (by omega)]
   ·simp only [if_true]; rw [w64_id (by omega)]
   ·unfold Cnt; rw [Int.pow_zero]; omega
  | false =>
   simp only [Bool.false_eq_true, if_false]
   obtain ⟨z, hz, hzm⟩ : ∃ z, gx j.Rides (w64 (((j.Rides.length : Nat) : Int) - 1)) = some z ∧ z ∈ j.Rides := ⟨_, gx_prev (by omega) (Nat.le_refl _) (by omega), List.getElem_mem _⟩
   rw [hz, Option.bind_some, Option.bind_some]
   have hzs := hs z hzm
   have hzb := hA.b z.Train
   have e1 : (mget m z.Train).getD 0 = val m z.Train := rfl
   have e2 : (mget m' z.Train).getD 0 = val m z.Train := hzs.symm
   rw [e1, e2]
   generalize val m z.Train = v at hzb
   have hwv : 0 ≤ w * v ∧ w * v ≤ 28800 * w := by
    refine ⟨Int.mul_nonneg (by omega) hzb.1, ?_⟩
    rw [Int.mul_comm]
    exact Int.mul_le_mul_of_nonneg_right hzb.2 (by omega)
   refine ⟨m, m', h + w, a + w, l + w * v, ?_, ?_, hA, ?_⟩
   ·rw [w64_id (x := h + w) (by omega), w64_id (x := a + w) (by omega), w64_id (x := w * v) (by omega), w64_id (x := l + w * v) (by omega)]
   ·rw [w64_id (x := h + w) (by omega), w64_id (x := a + w) (by omega), w64_id (x := w * v) (by omega), w64_id (x := l + w * v) (by omega)]
   ·unfold Cnt; rw [Int.pow_zero]; omega
 | n + 1, i, fu + 1, w, h, a, l, m, m', hi, hfu, hA, hw, h1, h2, h3, h4, h5 => by
  have hil : i < tr.length := by omega
  have ht : tr[i]? = some tr[i] := List.getElem?_eq_getElem hil
  generalize tr[i] = t at ht
  rw [Int.pow_succ, ← Int.mul_assoc] at h3
  have hP : 1 ≤ (60 : Int) ^ n := Int.pow_pos (by decide)
  have hwP : 1 ≤ w * 60 ^ n := by have := Int.mul_le_mul_of_nonneg_left hP (show 0 ≤ w by omega); omega
  rw [GuideNetcount_1_v1, Fishref2Cases_1_v1, if_pos (by simp; omega), if_neg (by simp; omega), SlicesIndexFuncLguideOdds_v2, idx2 t ht od 0, Option.bind_some]
  have e1 : w64 ((i : Int) + 1) = ((i + 1 : Nat) : Int) := by rw [w64_id (by omega)]; omega
  cases hany : od.any (·.Train == t) with
  | false =>
   have hno : ∀ o ∈ od, o.Train ≠ t := by
    intro o ho e
    have := List.any_eq_false.1 hany o ho
    simp [e] at this
   have l2 : ∀ (r : List GuideOdds), (∀ o ∈ r, o.Train ≠ t) → Fishref2Cases_1_v1.loop2 (i : Int) w tr j d ls od (Fishref2Cases_1_v1 fu) r m' a h l = some (.next (m', a, h, l)) := by
    intro r
    induction r with
    | nil => intro _; rfl
    | cons o r ih =>
     intro ho
     have : (o.Train == t) = false := by simpa using ho o (List.mem_cons_self ..)
     rw [Fishref2Cases_1_v1.loop2, gx_nat, ht, Option.bind_some, this]
     exact ih fun o h => ho o (List.mem_cons_of_mem _ h)
   simp only [Bool.false_eq_true, if_false, Option.bind_some]
   rw [if_pos (by decide), l2 od hno, Option.bind_some, e1]
   dsimp only
   obtain ⟨m1, m1', H, A, L, k1, k2, k3, k4⟩ := cases_same n (i + 1) fu w h a l m (mput m' t 0) (by omega) (by omega) (hA.zero hn ht hno) hw h1 h2 (by omega) h4 h5
   rw [k1, gx_nat, ht, Option.bind_some, Option.bind_some, k2, Option.bind_some]
   refine ⟨m1, m1', H, A, L, rfl, rfl, k3.down, ?_⟩
   unfold Cnt at k4 ⊢
   rw [Int.pow_succ, ← Int.mul_assoc]; omega
  | true =>
   obtain ⟨o, ho, hot, hoi, hol⟩ := find2 (d := d) (ls := ls) (j := j) (od := od) (self := Fishref2Cases_1_v1 fu) (w := w) ht od hany
   have hk := hod o ho
   have hgo : gx od ((0 + od.findIdx (·.Train == t) : Nat) : Int) = some o := by rw [Nat.zero_add, gx_nat]; exact hoi
   simp only [if_true, Option.bind_some]
   rw [if_neg (by simp only [decide_eq_true_eq]; omega), hgo, Option.bind_some, hol]
   have hW : w * 10 * 60 ^ n = w * 60 ^ n * 10 := Int.mul_right_comm _ _ _
   have loops : ∀ (r : List Int) (k : Nat) (m m' : List (Int × Int)) (h a l : Int), o.Late.drop k = r → Agr od tr i m m' → 0 ≤ h → h ≤ a → a + r.length * (w * 10 * 60 ^ n) ≤ 12960000 → 0 ≤ l → l ≤ 28800 * h →
     ∃ m1 m1' H A L, GuideNetcount_1_v1.loop1 (i : Int) w tr od j ⟨d, ls⟩ (GuideNetcount_1_v1 fu) ((0 + od.findIdx (·.Train == t) : Nat) : Int) r k m h a l = some (m1, H, A, L) ∧
      Fishref2Cases_1_v1.loop3 (i : Int) w tr j d ls od (Fishref2Cases_1_v1 fu) o r k m' a h l = some (m1', A, H, L) ∧ Agr od tr i m1 m1' ∧ h ≤ H ∧ H - h ≤ A - a ∧ a + r.length ≤ A ∧ A ≤ a + r.length * (w * 10 * 60 ^ n) ∧ 0 ≤ L ∧ L ≤ 28800 * H := by
    intro r
    induction r with
    | nil => intro k m m' h a l _ hA h1 h2 h3 h4 h5; exact ⟨m, m', h, a, l, rfl, rfl, hA, by omega, by omega, by simp, by simp, h4, h5⟩
    | cons x r ih =>
     intro k m m' h a l hdr hA h1 h2 h3 h4 h5
     obtain ⟨d1, d2, d3⟩ := drop_cons hdr
     have hwk : k < o.Weight.length := by rw [hk.len]; exact d1
     have hx := hk.late x (List.mem_of_getElem? d2)
     have hy := hk.weight _ (List.getElem_mem hwk)
     have hgw : gx o.Weight ((k : Nat) : Int) = some o.Weight[k] := gx_at hwk
     generalize o.Weight[k] = y at hy hgw
     simp only [List.length_cons] at h3
     have hz : ((r.length + 1 : Nat) : Int) * (w * 10 * 60 ^ n) = r.length * (w * 10 * 60 ^ n) + w * 10 * 60 ^ n := by
      rw [Int.natCast_add, Int.add_mul]; simp
     rw [hz] at h3
     have hwy : 1 ≤ w * y := by have := Int.mul_le_mul_of_nonneg_left hy.1 (show 0 ≤ w by omega); omega
     have hwy2 : w * y * 60 ^ n ≤ w * 10 * 60 ^ n := Int.mul_le_mul_of_nonneg_right (Int.mul_le_mul_of_nonneg_left hy.2 (by omega)) (by omega)
     have hwy3 : w * y ≤ w * y * 60 ^ n := by have := Int.mul_le_mul_of_nonneg_left hP (show 0 ≤ w * y by omega); omega
     have hnn : 0 ≤ (r.length : Int) * (w * 10 * 60 ^ n) := Int.mul_nonneg (by omega) (by omega)
     obtain ⟨m1, m1', H, A, L, k1, k2, k3, k4⟩ := cases_same n (i + 1) fu (w * y) h a l (mput m t x) (mput m' t x) (by omega) (by omega) (hA.put hn ht ⟨o, ho, hot⟩ hx) hwy h1 h2 (by omega) h4 h5
     unfold Cnt at k4
     obtain ⟨m2, m2', H2, A2, L2, j1, j2, j3, j4⟩ := ih (k + 1) m1 m1' H A L d3 k3.down (by omega) (by omega) (by omega) (by omega) (by omega)
     refine ⟨m2, m2', H2, A2, L2, ?_, ?_, j3, ?_⟩
     ·rw [GuideNetcount_1_v1.loop1, gx_nat, ht, Option.bind_some, hgo, Option.bind_some, hgw, Option.bind_some, e1, w64_id (x := w * y) (by omega), k1, Option.bind_some]
      exact j1
     ·rw [Fishref2Cases_1_v1.loop3, gx_nat, ht, Option.bind_some, hgw, Option.bind_some, e1, w64_id (x := w * y) (by omega), k2, Option.bind_some]
      exact j2
     ·rw [List.length_cons, hz, Int.natCast_add]
      omega
   have h6 : (o.Late.length : Int) * (w * 10 * 60 ^ n) ≤ 6 * (w * 10 * 60 ^ n) := Int.mul_le_mul_of_nonneg_right (by have := hk.small; omega) (by omega)
   have h7 : 6 * (w * 10 * 60 ^ n) = w * 60 ^ n * 60 := by
    generalize (60 : Int) ^ n = P
    rw [Int.mul_assoc w 10 P, Int.mul_left_comm w 10 P]; omega
   have hlp := hk.pos
   obtain ⟨m1, m1', H, A, L, k1, k2, k3, k4⟩ := loops o.Late 0 m m' h a l List.drop_zero hA h1 h2 (by omega) h4 h5
   rw [k1, k2]
   refine ⟨m1, m1', H, A, L, rfl, rfl, k3, ?_⟩
   unfold Cnt
   rw [Int.pow_succ, ← Int.mul_assoc]; omega
end
theorem trains_of : ∀ (l : List GuideRide) (q : List Int), q.Nodup → q.length + l.length ≤ 100 → ∃ q', GuideNetcount.loop1 l q = some q' ∧ Fishref2Cases.loop1 l q = some q' ∧ q'.Nodup ∧ q'.length ≤ q.length + l.length ∧ (∀ x ∈ q, x ∈ q') ∧ ∀ p ∈ l, p.Train ∈ q'
 | [], q, hn, _ => ⟨q, rfl, rfl, hn, Nat.le_refl _, fun _ h => h, by simp⟩
 | p :: l, q, hn, hl => by
  simp only [List.length_cons] at hl
  rw [GuideNetcount.loop1, Fishref2Cases.loop1, contains_eq]
  by_cases c : p.Train ∈ q
  ·have e : q.contains p.Train = true := by simpa using c
   rw [e]
   obtain ⟨q', h1, h2, h3, h4, h5, h6⟩ := trains_of l q hn (by omega)
   refine ⟨q', h1, h2, h3, by simp only [List.length_cons]; omega, h5, ?_⟩
   intro z hz
   rcases List.mem_cons.1 hz with rfl | hz
   ·exact h5 _ c
   ·exact h6 z hz
  ·have e : q.contains p.Train = false := by simpa using c
   rw [e]
   simp only [Bool.not_false, if_true]
   rw [apd_lt (by simp; omega)]
   simp only [Option.bind_some]
   obtain ⟨q', h1, h2, h3, h4, h5, h6⟩ := trains_of l (q ++ [p.Train]) (by
    rw [List.nodup_append]
    exact ⟨hn, by simp, fun a ha b hb e => by simp at hb; subst hb; subst e; exact c ha⟩) (by simp; omega)
   refine ⟨q', h1, h2, h3, by simp at h4 ⊢; omega, fun x hx => h5 x (by simp [hx]), ?_⟩
   intro z hz
   rcases List.mem_cons.1 hz with rfl | hz
   ·exact h5 _ (by simp)
   ·exact h6 z hz
abbrev RR := GuideRide × ApiStop × ApiStop
def AF (t on : Nat) (a : ApiStop) : List ApiStop → Nat → List RR
 | [], _ => []
 | b :: r, off => (⟨(t : Int), (on : Int), (off : Int)⟩, a, b) :: AF t on a r (off + 1)
def AS (t : Nat) : List ApiStop → Nat → List RR
 | [], _ => []
 | a :: r, on => AF t on a r (on + 1) ++ AS t r (on + 1)
def AT : List ApiTrain → Nat → List RR
 | [], _ => []
 | x :: r, t => AS t x.Stops 0 ++ AT r (t + 1)
def fits (st at_ nt : Int) (q : RR) : Bool := !(q.1.Train == nt) && !(decide (q.2.1.Station ≠ st ∨ q.2.1.Dep < at_))
theorem rF (t on : Nat) (a : ApiStop) : ∀ (r : List ApiStop) (off : Nat), (AF t on a r off).map (·.1) = ridesF t on r.length off
 | [], _ => rfl
 | b :: r, off => by simp [AF, ridesF, rF t on a r (off + 1)]
theorem AF_on {t on : Nat} {a : ApiStop} : ∀ {r : List ApiStop} {off : Nat} {q : RR}, q ∈ AF t on a r off → q.1.Train = (t : Int) ∧ q.1.On = (on : Int) ∧ q.2.1 = a
 | [], _, _, h => by simp [AF] at h
 | b :: r, off, q, h => by
  rcases List.mem_cons.1 h with rfl | h
  ·exact ⟨rfl, rfl, rfl⟩
  ·exact AF_on h
theorem filter_const {α : Type} {p : α → Bool} {b : Bool} : ∀ {l : List α}, (∀ x ∈ l, p x = b) → l.filter p = if b then l else []
 | [], _ => by cases b <;> rfl
 | x :: r, h => by
  have h1 := h x (List.mem_cons_self ..)
  have h2 := filter_const (l := r) fun y hy => h y (List.mem_cons_of_mem _ hy)
  rw [List.filter_cons, h1, h2]
  cases b <;> rfl
theorem rS (st at_ nt : Int) (t len : Nat) (ht : ¬ (t : Int) = nt) : ∀ (l : List ApiStop) (on : Nat), on + l.length = len → ((AS t l on).filter (fits st at_ nt)).map (·.1) = ridesS st at_ t len l on
 | [], _, _ => rfl
 | a :: r, on, h => by
  simp only [List.length_cons] at h
  rw [AS, ridesS, List.filter_append, List.map_append, rS st at_ nt t len ht r (on + 1) (by omega)]
  congr 1
  have e : ∀ q ∈ AF t on a r (on + 1), fits st at_ nt q = !(decide (a.Station ≠ st ∨ a.Dep < at_)) := by
   intro q hq
   obtain ⟨h1, _, h3⟩ := AF_on hq
   unfold fits
   have : (q.1.Train == nt) = false := by rw [h1]; simpa using ht
   rw [this, h3]; rfl
  rw [filter_const e]
  by_cases c : a.Station ≠ st ∨ a.Dep < at_
  ·rw [if_pos c, if_neg (by simp [c])]; rfl
  ·rw [if_neg c, if_pos (by simpa using c), rF, show len - (on + 1) = r.length by omega]
theorem AS_tr {t : Nat} : ∀ {l : List ApiStop} {on : Nat} {q : RR}, q ∈ AS t l on → q.1.Train = (t : Int)
 | [], _, _, h => by simp [AS] at h
 | a :: r, on, q, h => by
  rcases List.mem_append.1 h with h | h
  ·exact (AF_on h).1
  ·exact AS_tr h
theorem rT (st at_ nt : Int) : ∀ (l : List ApiTrain) (t : Nat), ((AT l t).filter (fits st at_ nt)).map (·.1) = ridesT st at_ nt l t
 | [], _ => rfl
 | x :: r, t => by
  rw [AT, ridesT, List.filter_append, List.map_append, rT st at_ nt r (t + 1)]
  congr 1
  by_cases c : (t : Int) = nt
  ·rw [if_pos c, filter_const (b := false)]
   ·rfl
   ·intro q hq
    unfold fits
    rw [AS_tr hq, beq_iff_eq.2 c]; rfl
  ·rw [if_neg c, rS st at_ nt t x.Stops.length c x.Stops 0 (by simp)]
theorem AF_at {t on : Nat} {a : ApiStop} {L : List ApiStop} : ∀ {r : List ApiStop} {off : Nat} {q : RR}, L.drop off = r → q ∈ AF t on a r off → ∃ k : Nat, off ≤ k ∧ q = (⟨(t : Int), (on : Int), (k : Int)⟩, a, q.2.2) ∧ L[k]? = some q.2.2
 | [], _, _, _, h => by simp [AF] at h
 | b :: r, off, q, hd, h => by
  obtain ⟨d1, d2, d3⟩ := drop_cons hd
  rcases List.mem_cons.1 h with rfl | h
  ·exact ⟨off, Nat.le_refl _, rfl, d2⟩
  ·obtain ⟨k, h1, h2⟩ := AF_at d3 h
   exact ⟨k, by omega, h2⟩
theorem AS_at {t : Nat} {L : List ApiStop} : ∀ {l : List ApiStop} {on : Nat} {q : RR}, L.drop on = l → q ∈ AS t l on → ∃ i k : Nat, i < k ∧ q = (⟨(t : Int), (i : Int), (k : Int)⟩, q.2.1, q.2.2) ∧ L[i]? = some q.2.1 ∧ L[k]? = some q.2.2
 | [], _, _, _, h => by simp [AS] at h
 | a :: r, on, q, hd, h => by
  obtain ⟨d1, d2, d3⟩ := drop_cons hd
  rcases List.mem_append.1 h with h | h
  ·obtain ⟨k, h1, h2, h3⟩ := AF_at d3 h
   obtain ⟨_, _, e⟩ := AF_on h
   exact ⟨on, k, by omega, by rw [e]; exact h2, by rw [e]; exact d2, h3⟩
  ·exact AS_at d3 h
theorem AT_at {D : List ApiTrain} : ∀ {l : List ApiTrain} {t : Nat} {q : RR}, D.drop t = l → q ∈ AT l t → ∃ (u i k : Nat) (x : ApiTrain), i < k ∧ q = (⟨(u : Int), (i : Int), (k : Int)⟩, q.2.1, q.2.2) ∧ D[u]? = some x ∧ x.Stops[i]? = some q.2.1 ∧ x.Stops[k]? = some q.2.2
 | [], _, _, _, h => by simp [AT] at h
 | x :: r, t, q, hd, h => by
  obtain ⟨d1, d2, d3⟩ := drop_cons hd
  rcases List.mem_append.1 h with h | h
  ·obtain ⟨i, k, h1, h2, h3, h4⟩ := AS_at (L := x.Stops) List.drop_zero h
   exact ⟨t, i, k, x, h1, h2, d2, h3, h4⟩
  ·exact AT_at d3 h
def AD (d : ApiDay) : List RR := AT d.Trains 0
structure RideOk (d : ApiDay) (q : RR) (x : ApiTrain) : Prop where
 tr : gx d.Trains q.1.Train = some x
 on : gx x.Stops q.1.On = some q.2.1
 off : gx x.Stops q.1.Off = some q.2.2
 lt : q.1.On < q.1.Off
 mem : x ∈ d.Trains
 onm : q.2.1 ∈ x.Stops
 offm : q.2.2 ∈ x.Stops
theorem AD_ok {d : ApiDay} {q : RR} (h : q ∈ AD d) : ∃ x, RideOk d q x := by
 obtain ⟨u, i, k, x, h1, h2, h3, h4, h5⟩ := AT_at (D := d.Trains) List.drop_zero h
 refine ⟨x, ?_, ?_, ?_, ?_, List.mem_of_getElem? h3, List.mem_of_getElem? h4, List.mem_of_getElem? h5⟩
 ·rw [h2]; show gx d.Trains (u : Int) = _; rw [gx_nat]; exact h3
 ·rw [h2]; show gx x.Stops (i : Int) = _; rw [gx_nat]; exact h4
 ·rw [h2]; show gx x.Stops (k : Int) = _; rw [gx_nat]; exact h5
 ·rw [h2]; show (i : Int) < (k : Int); omega
theorem stops_lt {l : List ApiStop} (h : stopsOk l) : ∀ (n i : Nat) (x y : ApiStop), l[i]? = some x → l[i + n + 1]? = some y → x.Dep < y.Arr
 | 0, i, x, y, hx, hy => h.2 i x y hx hy
 | n + 1, i, x, y, hx, hy => by
  have hl := (List.getElem?_eq_some_iff.1 hy).1
  have hz : l[i + 1]? = some l[i + 1] := List.getElem?_eq_getElem (by omega)
  have h1 := h.2 i x _ hx hz
  have h2 := stops_lt h n (i + 1) _ y hz (by rw [show i + 1 + n + 1 = i + (n + 1) + 1 by omega]; exact hy)
  have h3 := (h.1 _ (List.mem_of_getElem? hz)).2.2.2.2.2.2
  omega
theorem AD_time {d : ApiDay} (hd : DayOk d) {q : RR} (h : q ∈ AD d) : 0 ≤ q.2.1.Dep ∧ q.2.1.Dep < q.2.2.Arr ∧ q.2.2.Arr ≤ 28800 ∧ 0 ≤ q.2.2.Station ∧ q.2.2.Station ≤ 11 ∧ 0 ≤ q.2.1.Station ∧ q.2.1.Station ≤ 11 ∧ 0 ≤ q.1.Train ∧ q.1.Train < 12 ∧ 0 ≤ q.1.On ∧ 0 ≤ q.1.Off ∧ q.1.Off < 8 := by
 obtain ⟨x, o⟩ := AD_ok h
 have hs := hd.stops x o.mem
 have a := hs.1 _ o.onm
 have b := hs.1 _ o.offm
 obtain ⟨e1, e2, e3⟩ := gx_some o.on
 obtain ⟨f1, f2, f3⟩ := gx_some o.off
 obtain ⟨t1, t2, _⟩ := gx_some o.tr
 have hlt := o.lt
 have := stops_lt hs (q.1.Off.toNat - q.1.On.toNat - 1) q.1.On.toNat _ _ e3 (by rw [show q.1.On.toNat + (q.1.Off.toNat - q.1.On.toNat - 1) + 1 = q.1.Off.toNat by omega]; exact f3)
 have h8 := (hd.form.2.2.1 x o.mem).2.1
 have h12 := hd.form.1
 omega
theorem AF_len (t on : Nat) (a : ApiStop) : ∀ (r : List ApiStop) (off : Nat), (AF t on a r off).length = r.length
 | [], _ => rfl
 | b :: r, off => by simp [AF, AF_len t on a r]
theorem AS_len (t : Nat) : ∀ (l : List ApiStop) (on : Nat), 2 * (AS t l on).length + l.length = l.length * l.length
 | [], _ => rfl
 | a :: r, on => by
  have := AS_len t r (on + 1)
  simp only [AS, List.length_append, AF_len, List.length_cons, Nat.add_mul, Nat.mul_add, Nat.mul_one, Nat.one_mul]; omega
theorem AT_len : ∀ (l : List ApiTrain) (t : Nat), (∀ x ∈ l, x.Stops.length ≤ 8) → (AT l t).length ≤ 28 * l.length
 | [], _, _ => by simp [AT]
 | x :: r, t, h => by
  have h1 := AT_len r (t + 1) fun y hy => h y (List.mem_cons_of_mem _ hy)
  have h2 := h x (List.mem_cons_self ..)
  have h3 := AS_len t x.Stops 0
  have h4 : 2 * (AS t x.Stops 0).length ≤ 56 := by
   generalize x.Stops.length = n at h2 h3
   have : n * n ≤ 8 * n := Nat.mul_le_mul_right _ h2
   omega
  simp only [AT, List.length_append, List.length_cons]; omega
theorem AD_len {d : ApiDay} (hd : DayOk d) : (AD d).length ≤ 336 := by
 have := AT_len d.Trains 0 fun x hx => (hd.form.2.2.1 x hx).2.1
 have := hd.form.1
 unfold AD; omega
def stepB (ls : Int) (p r : RR) : Bool := !(r.1.Train == p.1.Train) && !(decide (r.2.1.Station ≠ p.2.2.Station ∨ r.2.1.Dep < p.2.2.Arr + ls))
theorem stepB_fits (ls : Int) (p : RR) : stepB ls p = fits p.2.2.Station (p.2.2.Arr + ls) p.1.Train := rfl
def nx (ls : Int) (first : RR → Bool) (c : List RR) : RR → Bool := match c.getLast? with
 | none => first
 | some p => stepB ls p
def dfs (A : List RR) (ls : Int) (first fin : RR → Bool) : Nat → List RR → List (List RR)
 | 0, c => if c.getLast?.any fin then [c] else []
 | m + 1, c => (if c.getLast?.any fin then [c] else []) ++ (A.filter (nx ls first c)).flatMap fun r => dfs A ls first fin m (c ++ [r])
theorem sum_add1 {α : Type} (g : α → Nat) : ∀ (l : List α), (l.map fun q => 1 + g q).sum = l.length + (l.map g).sum
 | [] => rfl
 | x :: r => by simp only [List.map_cons, List.sum_cons, sum_add1 g r, List.length_cons]; omega
theorem sum_mul1 {α : Type} (g : α → Nat) (z : Nat) : ∀ (l : List α), (l.map fun q => 1 + g q * z).sum = l.length + (l.map g).sum * z
 | [] => by simp
 | x :: r => by simp only [List.map_cons, List.sum_cons, sum_mul1 g z r, List.length_cons, Nat.add_mul]; omega
def later (D : RR → Int) (L : List RR) : Nat := (L.map fun a => (L.filter fun b => decide (D a < D b)).length).sum
theorem sum_le {α : Type} {f g : α → Nat} : ∀ {l : List α}, (∀ x ∈ l, f x ≤ g x) → (l.map f).sum ≤ (l.map g).sum
 | [], _ => Nat.le_refl _
 | x :: r, h => by
  have h1 := h x (List.mem_cons_self ..)
  have h2 := sum_le (l := r) fun y hy => h y (List.mem_cons_of_mem _ hy)
  simp only [List.map_cons, List.sum_cons]; omega
theorem sum_filter {α : Type} (p : α → Bool) (f : α → Nat) : ∀ (l : List α), ((l.filter p).map f).sum ≤ (l.map f).sum
 | [] => Nat.le_refl _
 | x :: r => by
  have := sum_filter p f r
  rw [List.filter_cons]
  split <;> simp only [List.map_cons, List.sum_cons] <;> omega
theorem sum_const {α : Type} (c : Nat) : ∀ (l : List α), (l.map fun _ => c).sum = c * l.length
 | [] => rfl
 | x :: r => by simp only [List.map_cons, List.sum_cons, sum_const c r, List.length_cons, Nat.mul_add]; omega
theorem later_le (D : RR → Int) : ∀ (L : List RR), 2 * later D L + L.length ≤ L.length * L.length
 | [] => Nat.le_refl _
 | x :: L => by
  have ih := later_le D L
  have e1 : ∀ a, ((x :: L).filter fun b => decide (D a < D b)).length = (if D a < D x then 1 else 0) + (L.filter fun b => decide (D a < D b)).length := by
   intro a
   rw [List.filter_cons]
   by_cases c : D a < D x
   ·rw [if_pos (by simpa using c), if_pos c]; simp; omega
   ·rw [if_neg (by simpa using c), if_neg c]; omega
  have e2 : ∀ (M : List RR) (f : RR → Nat), (M.map fun a => (if D a < D x then 1 else 0) + f a).sum = (M.filter fun a => decide (D a < D x)).length + (M.map f).sum := by
   intro M f
   induction M with
   | nil => rfl
   | cons y M ih =>
    simp only [List.map_cons, List.sum_cons, ih, List.filter_cons]
    by_cases c : D y < D x
    ·rw [if_pos c, if_pos (by simpa using c)]; simp; omega
    ·rw [if_neg c, if_neg (by simpa using c)]; omega
  have e3 : later D (x :: L) = (L.filter fun b => decide (D x < D b)).length + ((L.filter fun a => decide (D a < D x)).length + later D L) := by
   unfold later
   rw [List.map_congr_left fun a _ => e1 a, List.map_cons, List.sum_cons, if_neg (Int.lt_irrefl _), Nat.zero_add, e2]
  have e4 : (L.filter fun b => decide (D x < D b)).length + (L.filter fun a => decide (D a < D x)).length ≤ L.length := by
   clear ih e1 e2 e3
   induction L with
   | nil => simp
   | cons y L ih =>
    simp only [List.filter_cons, List.length_cons]
    by_cases c1 : D x < D y
    ·have c2 : ¬ D y < D x := by omega
     simp only [decide_eq_true c1, decide_eq_false c2, if_true, Bool.false_eq_true, if_false, List.length_cons]; omega
    ·simp only [decide_eq_false c1, Bool.false_eq_true, if_false]
     split <;> (try simp only [List.length_cons]) <;> omega
  rw [e3]
  simp only [List.length_cons, Nat.add_mul, Nat.mul_add, Nat.mul_one, Nat.one_mul]; omega
theorem flatMap_len {α β : Type} (f : α → List β) : ∀ (l : List α), (l.flatMap f).length = (l.map fun x => (f x).length).sum
 | [] => rfl
 | x :: r => by simp [flatMap_len f r]
section
variable {A : List RR} {ls : Int} {first fin : RR → Bool}
theorem nx_snoc (c : List RR) (r : RR) : nx ls first (c ++ [r]) = stepB ls r := by simp [nx]
theorem dfs0 (c : List RR) : (dfs A ls first fin 0 c).length ≤ 1 := by rw [dfs]; split <;> simp
theorem dfs1 (c : List RR) (m : Nat) : (dfs A ls first fin (m + 1) c).length ≤ 1 + ((A.filter (nx ls first c)).map fun r => (dfs A ls first fin m (c ++ [r])).length).sum := by
 rw [dfs, List.length_append, flatMap_len]
 have : (if c.getLast?.any fin then [c] else []).length ≤ 1 := by split <;> simp
 omega
def pairs (A : List RR) (ls : Int) : Nat := (A.map fun p => (A.filter (stepB ls p)).length).sum
theorem dfs_len : (dfs A ls first fin 4 []).length ≤ 1 + A.length + pairs A ls * (1 + A.length + pairs A ls) := by
 have b1 : ∀ c r, (dfs A ls first fin 1 (c ++ [r])).length ≤ 1 + (A.filter (stepB ls r)).length := by
  intro c r
  have this : (dfs A ls first fin 1 (c ++ [r])).length ≤ _ := dfs1 (c ++ [r]) 0
  rw [nx_snoc] at this
  have h2 := sum_le (l := A.filter (stepB ls r)) (f := fun q => (dfs A ls first fin 0 ((c ++ [r]) ++ [q])).length) (g := fun _ => 1) fun q _ => dfs0 _
  rw [sum_const] at h2
  omega
 have b2 : ∀ c r, (dfs A ls first fin 2 (c ++ [r])).length ≤ 1 + A.length + pairs A ls := by
  intro c r
  have this : (dfs A ls first fin 2 (c ++ [r])).length ≤ _ := dfs1 (c ++ [r]) 1
  rw [nx_snoc] at this
  have h2 := sum_le (l := A.filter (stepB ls r)) (f := fun q => (dfs A ls first fin 1 ((c ++ [r]) ++ [q])).length) (g := fun q => 1 + (A.filter (stepB ls q)).length) fun q _ => b1 _ _
  have h3 := sum_filter (stepB ls r) (fun q => 1 + (A.filter (stepB ls q)).length) A
  have h4 : (A.map fun q => 1 + (A.filter (stepB ls q)).length).sum = A.length + pairs A ls := sum_add1 _ _
  omega
 have b3 : ∀ c r, (dfs A ls first fin 3 (c ++ [r])).length ≤ 1 + (A.filter (stepB ls r)).length * (1 + A.length + pairs A ls) := by
  intro c r
  have this : (dfs A ls first fin 3 (c ++ [r])).length ≤ _ := dfs1 (c ++ [r]) 2
  rw [nx_snoc] at this
  have h2 := sum_le (l := A.filter (stepB ls r)) (f := fun q => (dfs A ls first fin 2 ((c ++ [r]) ++ [q])).length) (g := fun q => 1 + A.length + pairs A ls) fun q _ => b2 _ _
  rw [sum_const, Nat.mul_comm] at h2
  omega
 have this : (dfs A ls first fin 4 []).length ≤ _ := dfs1 [] 3
 have h2 := sum_le (l := A.filter (nx ls first [])) (f := fun q => (dfs A ls first fin 3 ([] ++ [q])).length) (g := fun q => 1 + (A.filter (stepB ls q)).length * (1 + A.length + pairs A ls)) fun q _ => b3 _ _
 have h3 := sum_filter (nx ls first []) (fun q => 1 + (A.filter (stepB ls q)).length * (1 + A.length + pairs A ls)) A
 have h4 : (A.map fun q => 1 + (A.filter (stepB ls q)).length * (1 + A.length + pairs A ls)).sum = A.length + pairs A ls * (1 + A.length + pairs A ls) := sum_mul1 _ _ _
 omega
end
theorem dfs_small {d : ApiDay} (hd : DayOk d) {ls : Int} (h0 : 0 ≤ ls) (first fin : RR → Bool) : (dfs (AD d) ls first fin 4 []).length < 4294967296 := by
 have h1 := dfs_len (A := AD d) (ls := ls) (first := first) (fin := fin)
 have h2 := AD_len hd
 have h3 := later_le (fun q => q.2.1.Dep) (AD d)
 have h4 : pairs (AD d) ls ≤ later (fun q => q.2.1.Dep) (AD d) := by
  refine sum_le fun p hp => ?_
  have : ∀ (M : List RR), (M.filter (stepB ls p)).length ≤ (M.filter fun b => decide (p.2.1.Dep < b.2.1.Dep)).length := by
   intro M
   induction M with
   | nil => exact Nat.le_refl _
   | cons y M ih =>
    rw [List.filter_cons, List.filter_cons]
    by_cases c : stepB ls p y = true
    ·have ht := AD_time hd hp
     have : p.2.1.Dep < y.2.1.Dep := by
      unfold stepB at c
      simp at c
      omega
     rw [if_pos c, if_pos (by simpa using this)]
     simp; omega
    ·rw [if_neg c]
     split
     ·simp; omega
     ·exact ih
  exact this _
 have h5 : (AD d).length * (AD d).length ≤ 336 * 336 := Nat.mul_le_mul h2 h2
 have h6 : pairs (AD d) ls ≤ 56448 := by omega
 have h7 : pairs (AD d) ls * (1 + (AD d).length + pairs (AD d) ls) ≤ 56448 * (1 + 336 + 56448) := Nat.mul_le_mul h6 (by omega)
 omega
abbrev JJ (c : List RR) : GuideJourney := ⟨c.map (·.1)⟩
theorem ride_in {d : ApiDay} {q : RR} {x : ApiTrain} (o : RideOk d q x) : (if decide (q.1.Train < 0) = true then true else decide (q.1.Train ≥ ((d.Trains).length : Int))) = false ∧
  (if decide (q.1.On < 0) = true then true else (if decide (q.1.On ≥ ((x.Stops).length : Int)) = true then true else (if decide (q.1.Off < 0) = true then true else decide (q.1.Off ≥ ((x.Stops).length : Int))))) = false ∧ decide (q.1.On ≥ q.1.Off) = false := by
 have h1 := gx_lt o.tr
 have h2 := gx_lt o.on
 have h3 := gx_lt o.off
 have h4 := o.lt
 refine ⟨?_, ?_, decide_eq_false (by omega)⟩
 ·rw [if_neg (by simp; omega)]; exact decide_eq_false (by omega)
 ·rw [if_neg (by simp; omega), if_neg (by simp; omega), if_neg (by simp; omega)]; exact decide_eq_false (by omega)
theorem two_fault {d : ApiDay} (hd : DayOk d) {ls : Int} (h0 : 0 ≤ ls ∧ ls ≤ 28800) {p r : RR} (hp : p ∈ AD d) (hr : r ∈ AD d) : ∃ e, Fishref2JourneyFault d ⟨[p.1, r.1]⟩ ls true = some e ∧ (e == 0) = stepB ls p r := by
 obtain ⟨x, ox⟩ := AD_ok hp
 obtain ⟨y, oy⟩ := AD_ok hr
 obtain ⟨p1, p2, p3⟩ := ride_in ox
 obtain ⟨r1, r2, r3⟩ := ride_in oy
 have tp := AD_time hd hp
 rw [Fishref2JourneyFault]
 rw [show Fishref2within ls 0 28800 = Guidewithin ls 0 28800 from rfl, (within_iff ls 0 28800).2 h0]
 have hw : Fishref2within (([p.1, r.1].length : Nat) : Int) 1 4 = true := rfl
 simp only [Bool.not_true, Bool.false_eq_true, if_false]
 rw [hw]
 simp only [Bool.not_true, Bool.false_eq_true, if_false]
 have hg0 : gx [p.1, r.1] (w64 (((1 : Nat) : Int) - 1)) = some p.1 := by rw [w64_id (by omega)]; rfl
 have e01 : (((0 : Nat) : Int) == 0) = true := rfl
 have e11 : (((0 + 1 : Nat) : Int) == 0) = false := rfl
 rw [Fishref2JourneyFault.loop1, bnd_eq, p1]
 simp only [Bool.false_eq_true, if_false, ox.tr, Option.bind_some, bnd_eq, p2, p3, e01, if_true]
 rw [Fishref2JourneyFault.loop1, bnd_eq, r1]
 simp only [Bool.false_eq_true, if_false, oy.tr, Option.bind_some, bnd_eq, r2, r3, e11]
 rw [show gx [p.1, r.1] (w64 (((0 + 1 : Nat) : Int) - 1)) = some p.1 from hg0]
 simp only [Option.bind_some, ox.tr, ox.off, oy.on, if_true]
 rw [w64_id (by omega)]
 unfold stepB
 have e6 : (p.1.Train == r.1.Train) = (r.1.Train == p.1.Train) := by rw [Bool.eq_iff_iff, beq_iff_eq, beq_iff_eq]; exact eq_comm
 rw [e6]
 cases c1 : (r.1.Train == p.1.Train) with
 | true => exact ⟨1, rfl, rfl⟩
 | false =>
  simp only [Bool.false_eq_true, if_false, Option.bind_some]
  by_cases c2 : r.2.1.Station = p.2.2.Station
  ·have e2 : (r.2.1.Station != p.2.2.Station) = false := by simpa using c2
   rw [e2]
   simp only [Bool.false_eq_true, if_false]
   by_cases c3 : r.2.1.Dep < p.2.2.Arr + ls
   ·rw [if_pos (by simpa using c3)]
    exact ⟨13, rfl, by simp [c3]⟩
   ·rw [if_neg (by simpa using c3), Fishref2JourneyFault.loop1]
    exact ⟨0, rfl, by simp [c2, c3]⟩
  ·have e2 : (r.2.1.Station != p.2.2.Station) = true := by simpa using c2
   rw [e2]
   exact ⟨1, rfl, by simp [c2]⟩
section
variable {d : ApiDay} (hd : DayOk d) {ls : Int} (h0 : 0 ≤ ls ∧ ls ≤ 28800) {to st : Int} {c : List RR} (hc : ∀ q ∈ c, q ∈ AD d) (hcl : c.length ≤ 3) {D : RR → List (List RR)}
 {self : (List GuideRide) → ApiDay → Int → (List GuideJourney) → Int → Int → Option (List GuideJourney)}
 (hself : ∀ r ∈ AD d, ∀ acc : List GuideJourney, acc.length + (D r).length < 4294967296 → self ((c ++ [r]).map (·.1)) d to acc st ls = some (acc ++ (D r).map JJ))
include hd h0 hc hcl hself
theorem all3 {x : ApiTrain} {t on : Nat} {a : ApiStop} (hx : x.Stops.length ≤ 8) (hfirst : c = [] → a.Station = st) : ∀ (r : List ApiStop) (off fu : Nat) (acc : List GuideJourney), x.Stops.drop off = r → r.length < fu → (∀ q ∈ AF t on a r off, q ∈ AD d) →
  acc.length + (((AF t on a r off).filter (nx ls (fun q => q.2.1.Station == st) c)).flatMap D).length < 4294967296 →
  ∃ w, Fishref2AllOf_1_v1.loop3 (c.map (·.1)) d to st ls self x t on fu (off : Int) acc = some (w, acc ++ (((AF t on a r off).filter (nx ls (fun q => q.2.1.Station == st) c)).flatMap D).map JJ)
 | _, _, 0, _, _, h, _, _ => absurd h (Nat.not_lt_zero _)
 | [], off, fu + 1, acc, hdr, _, _, _ => by
  have := drop_nil hdr
  rw [Fishref2AllOf_1_v1.loop3, if_neg (by simp; omega)]
  exact ⟨(off : Int), by simp [AF]⟩
 | b :: r, off, fu + 1, acc, hdr, hf, hA, hl => by
  obtain ⟨d1, d2, d3⟩ := drop_cons hdr
  simp only [List.length_cons] at hf
  have hq : ((⟨(t : Int), (on : Int), (off : Int)⟩, a, b) : RR) ∈ AD d := hA _ (by simp [AF])
  have hA2 : ∀ q ∈ AF t on a r (off + 1), q ∈ AD d := fun q h => hA q (by simp [AF, h])
  rw [Fishref2AllOf_1_v1.loop3, if_pos (by simp; omega), SlicesCloneLguideRide, apd_lt (by simp; omega)]
  simp only [Option.bind_some, List.nil_append]
  rw [apd_lt (by simp; omega), Option.bind_some, w64_id (x := (off : Int) + 1) (by omega)]
  have hn : ((off : Int) + 1) = ((off + 1 : Nat) : Int) := by omega
  have key : (if ((((c.map (·.1) ++ [⟨(t : Int), (on : Int), (off : Int)⟩] : List GuideRide).length : Nat) : Int) == 1) = true then some true else ((cutl (c.map (·.1) ++ [⟨(t : Int), (on : Int), (off : Int)⟩]) (w64 ((((c.map (·.1) ++ [⟨(t : Int), (on : Int), (off : Int)⟩] : List GuideRide).length : Nat) : Int) - 2)) (((c.map (·.1) ++ [⟨(t : Int), (on : Int), (off : Int)⟩] : List GuideRide).length : Nat) : Int)).bind fun x254 => ((Fishref2JourneyFault d (GuideJourney.mk x254) ls true).bind fun q263 => some (q263 == 0)))) =
    some (nx ls (fun q => q.2.1.Station == st) c (⟨(t : Int), (on : Int), (off : Int)⟩, a, b)) := by
   rcases List.eq_nil_or_concat c with e | ⟨c', p, e⟩
   ·subst e
    simp [nx, hfirst rfl]
   ·rw [List.concat_eq_append] at e
    subst e
    rw [nx_snoc, if_neg (by simp; omega), w64_id (by simp only [List.length_append, List.length_map, List.length_cons, List.length_nil] at hcl ⊢; omega)]
    have hpA := hc p (by simp)
    have hcut : cutl ((c' ++ [p]).map (·.1) ++ [⟨(t : Int), (on : Int), (off : Int)⟩] : List GuideRide) ((((c' ++ [p]).map (·.1) ++ [⟨(t : Int), (on : Int), (off : Int)⟩] : List GuideRide).length : Int) - 2) (((c' ++ [p]).map (·.1) ++ [⟨(t : Int), (on : Int), (off : Int)⟩] : List GuideRide).length : Int) = some [p.1, ⟨(t : Int), (on : Int), (off : Int)⟩] := by
     rw [cutl_in (by simp only [List.length_append, List.length_map, List.length_cons, List.length_nil]; omega) (by omega) (Int.le_refl _)]
     congr 1
     rw [List.take_of_length_le (by omega), show (((((c' ++ [p]).map (·.1) ++ [⟨(t : Int), (on : Int), (off : Int)⟩] : List GuideRide).length : Int) - 2).toNat) = (c'.map (·.1)).length from (by simp only [List.length_append, List.length_map, List.length_cons, List.length_nil]; omega)]
     rw [List.map_append, List.append_assoc, List.drop_left]
     rfl
    rw [hcut, Option.bind_some]
    obtain ⟨e, h1, h2⟩ := two_fault hd h0 hpA hq
    rw [h1, Option.bind_some, h2]
  rw [key, Option.bind_some]
  simp only [AF, List.filter_cons] at hl ⊢
  have ih := all3 (t := t) (on := on) hx hfirst r (off + 1) fu
  cases cb : nx ls (fun q => q.2.1.Station == st) c (⟨(t : Int), (on : Int), (off : Int)⟩, a, b) with
  | false =>
   rw [cb] at hl
   simp only [Bool.false_eq_true, if_false] at hl ⊢
   rw [hn]
   exact ih acc d3 (by omega) hA2 hl
  | true =>
   rw [cb] at hl
   simp only [if_true, List.flatMap_cons, List.length_append] at hl ⊢
   have hs := hself _ hq acc (by omega)
   rw [List.map_append] at hs
   rw [show ([(⟨(t : Int), (on : Int), (off : Int)⟩ : GuideRide)]) = ([((⟨(t : Int), (on : Int), (off : Int)⟩, a, b) : RR)].map (·.1)) from rfl, hs, Option.bind_some, hn]
   obtain ⟨w, hw⟩ := ih (acc ++ (D (⟨(t : Int), (on : Int), (off : Int)⟩, a, b)).map JJ) d3 (by omega) hA2 (by simp only [List.length_append, List.length_map]; omega)
   exact ⟨w, by rw [hw, List.map_append, List.append_assoc]⟩
theorem all2 {x : ApiTrain} {t : Nat} (hx : x.Stops.length ≤ 8) {fu : Nat} (hfu : 10 ≤ fu) : ∀ (l : List ApiStop) (on : Nat) (acc : List GuideJourney), x.Stops.drop on = l → (∀ q ∈ AS t l on, q ∈ AD d) →
  acc.length + (((AS t l on).filter (nx ls (fun q => q.2.1.Station == st) c)).flatMap D).length < 4294967296 →
  Fishref2AllOf_1_v1.loop2 (c.map (·.1)) d to st ls fu self x t l on acc = some (acc ++ (((AS t l on).filter (nx ls (fun q => q.2.1.Station == st) c)).flatMap D).map JJ)
 | [], on, acc, _, _, _ => by simp [Fishref2AllOf_1_v1.loop2, AS]
 | a :: r, on, acc, hdr, hA, hl => by
  obtain ⟨d1, d2, d3⟩ := drop_cons hdr
  have hA1 : ∀ q ∈ AF t on a r (on + 1), q ∈ AD d := fun q h => hA q (by simp [AS, h])
  have hA2 : ∀ q ∈ AS t r (on + 1), q ∈ AD d := fun q h => hA q (by simp [AS, h])
  simp only [AS, List.filter_append, List.flatMap_append, List.length_append, List.map_append] at hl ⊢
  rw [Fishref2AllOf_1_v1.loop2, bnd_eq]
  have ih := all2 (t := t) hx hfu r (on + 1)
  by_cases cs : c = [] ∧ a.Station ≠ st
  ·obtain ⟨c1, c2⟩ := cs
   have e1 : (if ((((c.map (·.1)).length : Nat) : Int) == 0) = true then (a.Station != st) else false) = true := by rw [c1]; simpa using c2
   rw [e1, if_pos rfl]
   have e2 : (AF t on a r (on + 1)).filter (nx ls (fun q => q.2.1.Station == st) c) = [] := by
    rw [filter_const (b := false)]
    ·rfl
    ·intro q hq
     obtain ⟨_, _, h3⟩ := AF_on hq
     rw [c1]
     simp only [nx, List.getLast?_nil, h3]
     simpa using c2
   rw [e2] at hl ⊢
   simp only [List.flatMap_nil, List.length_nil, Nat.zero_add, List.map_nil, List.nil_append] at hl ⊢
   exact ih acc d3 hA2 hl
  ·have e1 : (if ((((c.map (·.1)).length : Nat) : Int) == 0) = true then (a.Station != st) else false) = false := by
    by_cases c1 : c = []
    ·have : a.Station = st := Classical.byContradiction fun h => cs ⟨c1, h⟩
     rw [c1]; simpa using this
    ·rw [if_neg]
     intro h
     have h2 : (((c.map (·.1)).length : Nat) : Int) = 0 := by simpa using h
     rw [List.length_map] at h2
     exact c1 (List.eq_nil_of_length_eq_zero (by omega))
   rw [e1, if_neg (by decide)]
   have hrl : r.length < fu := by
    have := congrArg List.length d3
    simp at this
    omega
   obtain ⟨w, hw⟩ := all3 hd h0 hc hcl hself hx (fun h => Classical.byContradiction fun k => cs ⟨h, k⟩) r (on + 1) fu acc d3 hrl hA1 (by omega)
   rw [hw, Option.bind_some]
   dsimp only
   rw [ih _ d3 hA2 (by simp; simp at hl; omega), List.append_assoc]
theorem all1t {fu : Nat} (hfu : 10 ≤ fu) : ∀ (l : List ApiTrain) (t : Nat) (acc : List GuideJourney), (∀ x ∈ l, x.Stops.length ≤ 8) → (∀ q ∈ AT l t, q ∈ AD d) →
  acc.length + (((AT l t).filter (nx ls (fun q => q.2.1.Station == st) c)).flatMap D).length < 4294967296 →
  Fishref2AllOf_1_v1.loop1 (c.map (·.1)) d to st ls fu self l t acc = some (acc ++ (((AT l t).filter (nx ls (fun q => q.2.1.Station == st) c)).flatMap D).map JJ)
 | [], t, acc, _, _, _ => by simp [Fishref2AllOf_1_v1.loop1, AT]
 | x :: r, t, acc, h8, hA, hl => by
  have hA1 : ∀ q ∈ AS t x.Stops 0, q ∈ AD d := fun q h => hA q (by simp [AT, h])
  have hA2 : ∀ q ∈ AT r (t + 1), q ∈ AD d := fun q h => hA q (by simp [AT, h])
  simp only [AT, List.filter_append, List.flatMap_append, List.length_append, List.map_append] at hl ⊢
  rw [Fishref2AllOf_1_v1.loop1, all2 hd h0 hc hcl hself (h8 x (List.mem_cons_self ..)) hfu x.Stops 0 acc List.drop_zero hA1 (by omega), Option.bind_some,
   all1t hfu r (t + 1) _ (fun y h => h8 y (List.mem_cons_of_mem _ h)) hA2 (by simp; simp at hl; omega), List.append_assoc]
end
def finR (to : Int) (q : RR) : Bool := if decide (to < 0) then true else (q.2.2.Station == to)
theorem allof1 {d : ApiDay} (hd : DayOk d) {ls : Int} (h0 : 0 ≤ ls ∧ ls ≤ 28800) {to st : Int} : ∀ (m fu : Nat) (c : List RR) (acc : List GuideJourney), m + 20 ≤ fu → c.length + m = 4 → (∀ q ∈ c, q ∈ AD d) →
  acc.length + (dfs (AD d) ls (fun q => q.2.1.Station == st) (finR to) m c).length < 4294967296 →
  Fishref2AllOf_1_v1 fu (c.map (·.1)) d to acc st ls = some (acc ++ (dfs (AD d) ls (fun q => q.2.1.Station == st) (finR to) m c).map JJ)
 | _, 0, _, _, h, _, _, _ => absurd h (by omega)
 | m, fu + 1, c, acc, hfu, hcm, hc, hl => by
  rw [Fishref2AllOf_1_v1]
  have hA : (if decide ((((c.map (·.1)).length : Nat) : Int) > 0) = true then ((gx (c.map (·.1)) (w64 ((((c.map (·.1)).length : Nat) : Int) - 1))).bind fun x78 => ((gx d.Trains x78.Train).bind fun x88 => ((gx x88.Stops x78.Off).bind fun x103 => (bnd ((if decide (to < 0) then true else (x103.Station == to)) : Bool) fun q116 => (((if q116 then ((SlicesCloneLguideRide (c.map (·.1))).bind fun q133 => ((apd acc [(GuideJourney.mk q133)]).bind fun x145 => some x145)) else some acc) : Option (List GuideJourney)).bind fun q123 => some q123))))) else some acc) =
    some (acc ++ (if c.getLast?.any (finR to) then [c] else []).map JJ) := by
   rcases List.eq_nil_or_concat c with e | ⟨c', p, e⟩
   ·subst e; simp
   ·rw [List.concat_eq_append] at e
    subst e
    have hpA := hc p (by simp)
    obtain ⟨x, ox⟩ := AD_ok hpA
    have hg : gx ((c' ++ [p]).map (·.1)) (w64 (((((c' ++ [p]).map (·.1)).length : Nat) : Int) - 1)) = some p.1 := by
     rw [gx_prev (by simp) (Nat.le_refl _) (by simp only [List.length_append, List.length_map, List.length_cons, List.length_nil] at hcm ⊢; omega)]
     simp
    rw [if_pos (by simp), hg]
    simp only [Option.bind_some, ox.tr, ox.off, bnd_eq]
    rw [show (if decide (to < 0) = true then true else p.2.2.Station == to) = finR to p from rfl]
    have hl1 : acc.length + (if (c' ++ [p]).getLast?.any (finR to) then [c' ++ [p]] else []).length < 4294967296 := by
     cases m with
     | zero => rw [dfs] at hl; exact hl
     | succ m => rw [dfs, List.length_append] at hl; omega
    have e1 : (c' ++ [p]).getLast?.any (finR to) = finR to p := by simp
    rw [e1] at hl1 ⊢
    cases hfin : finR to p with
    | false => simp
    | true =>
     rw [if_pos hfin] at hl1
     simp only [List.length_cons, List.length_nil] at hl1
     rw [if_pos rfl, if_pos rfl, SlicesCloneLguideRide]
     rw [apd_lt (by simp only [List.length_append, List.length_map, List.length_cons, List.length_nil] at hcm ⊢; omega), Option.bind_some, Option.bind_some, apd_lt (by simp only [List.length_cons, List.length_nil]; omega)]
     simp [JJ]
  rw [hA, Option.bind_some]
  cases m with
  | zero =>
   have e4 : ((((c.map (·.1)).length : Nat) : Int) == 4) = true := by rw [List.length_map, show c.length = 4 by omega]; rfl
   rw [e4, if_pos rfl, dfs]
  | succ m =>
   have e4 : ((((c.map (·.1)).length : Nat) : Int) == 4) = false := by rw [List.length_map]; simp; omega
   rw [e4, if_neg (by decide), dfs]
   rw [dfs, List.length_append] at hl
   have h1 := all1t hd h0 (to := to) (st := st) hc (by omega) (D := fun r => dfs (AD d) ls (fun q => q.2.1.Station == st) (finR to) m (c ++ [r])) (self := Fishref2AllOf_1_v1 fu) (fun r hr acc ha =>
    allof1 hd h0 m fu (c ++ [r]) acc (by omega) (by simp; omega) (by
     intro q hq
     rcases List.mem_append.1 hq with hq | hq
     ·exact hc q hq
     ·simp at hq; subst hq; exact hr) ha) (fu := fu) (by omega) d.Trains 0 (acc ++ (if c.getLast?.any (finR to) then [c] else []).map JJ) (fun x hx => (hd.form.2.2.1 x hx).2.1) (fun q h => h) (by
     rw [List.length_append, List.length_map]
     show _ + (((AD d).filter _).flatMap _).length < _
     omega)
   rw [h1, Option.bind_some, List.map_append, List.append_assoc]
   rfl
theorem allof {d : ApiDay} (hd : DayOk d) {ls : Int} (h0 : 0 ≤ ls ∧ ls ≤ 28800) (st to : Int) {fu : Nat} (hfu : 40 ≤ fu) : Fishref2AllOf fu d st to ls = some ((dfs (AD d) ls (fun q => q.2.1.Station == st) (finR to) 4 []).map JJ) := by
 have h := allof1 hd h0 (to := to) (st := st) 4 fu [] [] (by omega) rfl (by simp) (by have := dfs_small hd h0.1 (fun q => q.2.1.Station == st) (finR to); simpa using this)
 rw [Fishref2AllOf]
 rw [show ([] : List GuideRide) = ([] : List RR).map (·.1) from rfl, h]
 simp
theorem mem_rides {d : ApiDay} {ls st at_ nt : Int} : GuideNetrides ⟨d, ls⟩ st at_ nt = ((AD d).filter (fits st at_ nt)).map (·.1) := (rT st at_ nt d.Trains 0).symm
theorem off_of {d : ApiDay} {ls : Int} {q : RR} (h : q ∈ AD d) : GuideNetoff ⟨d, ls⟩ q.1 = some q.2.2 := by
 obtain ⟨x, o⟩ := AD_ok h
 rw [GuideNetoff]; simp only [o.tr, o.off, Option.bind_some]
theorem on_of {d : ApiDay} {ls : Int} {q : RR} (h : q ∈ AD d) : GuideNeton ⟨d, ls⟩ q.1 = some q.2.1 := by
 obtain ⟨x, o⟩ := AD_ok h
 rw [GuideNeton]; simp only [o.tr, o.on, Option.bind_some]
theorem behind_of {d : ApiDay} (hd : DayOk d) {ls : Int} (h0 : 0 ≤ ls ∧ ls ≤ 28800) {q : RR} (h : q ∈ AD d) : GuideNetbehind ⟨d, ls⟩ q.1 = some (((AD d).filter (stepB ls q)).map (·.1)) := by
 have := AD_time hd h
 rw [GuideNetbehind, off_of h, Option.bind_some, bnd_eq]
 dsimp only
 rw [w64_id (by omega), mem_rides, stepB_fits]
theorem nodup_le : ∀ (n : Nat) (l : List Nat), l.Nodup → (∀ a ∈ l, a < n) → l.length ≤ n
 | 0, l, _, h => by
  cases l with
  | nil => simp
  | cons a r => exact absurd (h a (List.mem_cons_self ..)) (Nat.not_lt_zero _)
 | n + 1, l, hn, h => by
  have h1 := nodup_le n (l.erase n) (hn.erase n) fun a ha => by
   have h2 := h a (List.mem_of_mem_erase ha)
   have h3 : a ≠ n := fun e => by subst e; exact (hn.mem_erase_iff.1 ha).1 rfl
   omega
  by_cases c : n ∈ l
  ·have := List.length_erase_of_mem c; omega
  ·rw [List.erase_of_not_mem c] at h1; omega
section
variable {κ : Type} [BEq κ] [LawfulBEq κ]
end
def plc (q : RR) : GuidePlace := ⟨q.1.Train, q.1.Off⟩
structure Told (d : ApiDay) (ls : Int) (P : RR → Prop) (M : List (GuidePlace × Bool)) (N : List RR) : Prop where
 keys : ∀ p b, (p, b) ∈ M ↔ b = true ∧ ∃ r, P r ∧ plc r = p
 nodup : (M.map (·.1)).Nodup
 nexts : ∀ q, q ∈ N ↔ q ∈ AD d ∧ ∃ r, P r ∧ stepB ls r q = true
 len : N.length ≤ 336 * M.length
theorem Told.small {d : ApiDay} (hd : DayOk d) {ls : Int} {P : RR → Prop} {M : List (GuidePlace × Bool)} {N : List RR} (hP : ∀ r, P r → r ∈ AD d) (h : Told d ls P M N) : M.length ≤ 96 := by
 have h1 : ((M.map (·.1)).map fun p => p.train.toNat * 8 + p.off.toNat).Nodup := by
  unfold List.Nodup
  rw [List.pairwise_map]
  refine List.Pairwise.imp_of_mem ?_ h.nodup
  intro a b ha hb hab e
  obtain ⟨⟨p, u⟩, hp, rfl⟩ := List.mem_map.1 ha
  obtain ⟨⟨q, v⟩, hq, rfl⟩ := List.mem_map.1 hb
  obtain ⟨_, r, hr, rfl⟩ := (h.keys p u).1 hp
  obtain ⟨_, z, hz, rfl⟩ := (h.keys q v).1 hq
  have t1 := AD_time hd (hP r hr)
  have t2 := AD_time hd (hP z hz)
  apply hab
  simp only [plc] at e ⊢
  have e1 : r.1.Train = z.1.Train := by omega
  have e2 : r.1.Off = z.1.Off := by omega
  rw [e1, e2]
 have := nodup_le 96 _ h1 (by
  intro a ha
  obtain ⟨p, hp, rfl⟩ := List.mem_map.1 ha
  obtain ⟨⟨p2, u⟩, hp2, rfl⟩ := List.mem_map.1 hp
  obtain ⟨_, r, hr, rfl⟩ := (h.keys p2 u).1 hp2
  have t1 := AD_time hd (hP r hr)
  simp only [plc]; omega)
 simpa using this
def Ext (A : List RR) (ls : Int) (first : RR → Bool) : List RR → List RR → Prop
 | _, [] => True
 | c, r :: s => r ∈ A ∧ nx ls first c r = true ∧ Ext A ls first (c ++ [r]) s
theorem mem_dfs {A : List RR} {ls : Int} {first fin : RR → Bool} : ∀ (m : Nat) (c l : List RR), l ∈ dfs A ls first fin m c ↔ ∃ s, l = c ++ s ∧ s.length ≤ m ∧ l.getLast?.any fin = true ∧ Ext A ls first c s
 | 0, c, l => by
  rw [dfs]
  constructor
  ·intro h
   split at h
   ·rename_i hf
    simp at h
    subst h
    exact ⟨[], by simp, by simp, hf, trivial⟩
   ·simp at h
  ·rintro ⟨s, rfl, h1, h2, _⟩
   obtain rfl : s = [] := List.eq_nil_of_length_eq_zero (by omega)
   rw [List.append_nil] at h2 ⊢
   rw [if_pos h2]; simp
 | m + 1, c, l => by
  rw [dfs, List.mem_append, List.mem_flatMap]
  constructor
  ·rintro (h | ⟨r, hr, h⟩)
   ·split at h
    ·rename_i hf
     simp at h
     subst h
     exact ⟨[], by simp, by simp, hf, trivial⟩
    ·simp at h
   ·obtain ⟨s, h1, h2, h3, h4⟩ := (mem_dfs m (c ++ [r]) l).1 h
    obtain ⟨r1, r2⟩ := List.mem_filter.1 hr
    exact ⟨r :: s, by rw [h1]; simp, by simp; omega, h3, r1, r2, h4⟩
  ·rintro ⟨s, h1, h2, h3, h4⟩
   cases s with
   | nil =>
    rw [List.append_nil] at h1
    subst h1
    left
    rw [if_pos h3]; simp
   | cons r s =>
    right
    exact ⟨r, List.mem_filter.2 ⟨h4.1, h4.2.1⟩, (mem_dfs m (c ++ [r]) l).2 ⟨s, by rw [h1]; simp, by simp at h2; omega, h3, h4.2.2⟩⟩
theorem Ext.snoc {A : List RR} {ls : Int} {first : RR → Bool} {q : RR} : ∀ (s c : List RR), Ext A ls first c (s ++ [q]) ↔ Ext A ls first c s ∧ q ∈ A ∧ nx ls first (c ++ s) q = true
 | [], c => by simp [Ext]
 | r :: s, c => by
  simp only [List.cons_append, Ext, Ext.snoc s (c ++ [r]), List.append_assoc, List.cons_append, List.nil_append, and_assoc]
theorem ext_in {A : List RR} {ls : Int} {first : RR → Bool} : ∀ (s c : List RR), Ext A ls first c s → ∀ q ∈ s, q ∈ A
 | [], _, _, _, h => by simp at h
 | r :: s, c, h, q, hq => by
  rcases List.mem_cons.1 hq with rfl | hq
  ·exact h.1
  ·exact ext_in s _ h.2.2 q hq
def upd (v : Int → Int) (t x : Int) : Int → Int := fun u => if u = t then x else v u
def opts (od : List GuideOdds) (t : Int) : List (Int × Int) := match od.find? (fun o => o.Train == t) with
 | none => [(0, 1)]
 | some o => o.Late.zip o.Weight
def SA (od : List GuideOdds) : List Int → Int
 | [] => 1
 | t :: r => ((opts od t).map (fun p => p.2)).sum * SA od r
def SH (od : List GuideOdds) (B : (Int → Int) → Bool) : List Int → (Int → Int) → Int
 | [], v => if B v then 0 else 1
 | t :: r, v => ((opts od t).map (fun p => p.2 * SH od B r (upd v t p.1))).sum
def failv (ls : Int) (v : Int → Int) : List RR → Bool
 | p :: q :: r => decide (p.2.2.Arr + v p.1.Train + ls > q.2.1.Dep + v q.1.Train) || failv ls v (q :: r)
 | _ => false
theorem failv_same {ls : Int} {v v' : Int → Int} : ∀ (c : List RR), (∀ p ∈ c, v p.1.Train = v' p.1.Train) → failv ls v c = failv ls v' c
 | [], _ => rfl
 | [_], _ => rfl
 | p :: q :: r, h => by
  rw [failv, failv, h p (by simp), h q (by simp), failv_same (q :: r) fun z hz => h z (List.mem_cons_of_mem _ hz)]
theorem SH_congr {od : List GuideOdds} {B : (Int → Int) → Bool} {S : Int → Prop} (hB : ∀ v v' : Int → Int, (∀ u, S u → v u = v' u) → B v = B v') : ∀ (r : List Int) (v v' : Int → Int), (∀ u, S u → u ∉ r → v u = v' u) → SH od B r v = SH od B r v'
 | [], v, v', h => by rw [SH, SH, hB v v' fun u hu => h u hu (by simp)]
 | t :: r, v, v', h => by
  rw [SH, SH]
  congr 1
  refine List.map_congr_left fun p _ => ?_
  rw [SH_congr hB r (upd v t p.1) (upd v' t p.1) fun u hu hr => ?_]
  unfold upd
  by_cases c : u = t
  ·rw [if_pos c, if_pos c]
  ·rw [if_neg c, if_neg c]
   exact h u hu (by simp [c, hr])
theorem gfi {α : Type} {p : α → Bool} : ∀ (r : List α), r[r.findIdx p]? = r.find? p
 | [] => rfl
 | x :: r => by
  rw [List.findIdx_cons, List.find?_cons]
  cases p x with
  | true => rfl
  | false => simpa using gfi r
theorem val_put (m : List (Int × Int)) (t x : Int) : val (mput m t x) = upd (val m) t x := by
 funext u
 unfold val upd
 rw [mgi_put]
section
variable {d : ApiDay} (hd : DayOk d) {ls : Int} (h0 : 0 ≤ ls ∧ ls ≤ 28800) {c : List RR} (hcA : ∀ q ∈ c, q ∈ AD d) (hcl : 1 ≤ c.length ∧ c.length ≤ 4)
include hd h0 hcA hcl
theorem bad_fail (m : List (Int × Int)) (hb : ∀ t, 0 ≤ val m t ∧ val m t ≤ 28800) : ∀ (r pre : List RR) (p : RR), c = pre ++ p :: r → bad d ls (JJ c) m (r.map (·.1)) (pre.length + 1) = some (failv ls (val m) (p :: r))
 | [], pre, p, _ => rfl
 | q :: r, pre, p, hc => by
  have hpc : p ∈ c := by rw [hc]; simp
  have hqc : q ∈ c := by rw [hc]; simp
  have hlen : c.length = pre.length + (r.length + 1 + 1) := by rw [hc]; simp
  have hg : gx (JJ c).Rides (w64 (((pre.length + 1 : Nat) : Int) - 1)) = some p.1 := by
   have := gx_prev (l := (JJ c).Rides) (k := pre.length + 1) (by omega) (by simp [JJ]; omega) (by simp [JJ]; omega)
   rw [this]
   simp [JJ, hc]
  have h1 := AD_time hd (hcA p hpc)
  have h2 := AD_time hd (hcA q hqc)
  have b1 := hb p.1.Train
  have b2 := hb q.1.Train
  rw [List.map_cons, bad, hg, Option.bind_some, off_of (hcA p hpc), Option.bind_some, on_of (hcA q hqc), Option.bind_some]
  rw [show (mget m p.1.Train).getD 0 = val m p.1.Train from rfl, show (mget m q.1.Train).getD 0 = val m q.1.Train from rfl]
  rw [w64_id (x := p.2.2.Arr + val m p.1.Train) (by omega), w64_id (x := p.2.2.Arr + val m p.1.Train + ls) (by omega), w64_id (x := q.2.1.Dep + val m q.1.Train) (by omega)]
  have ih := bad_fail m hb r (pre ++ [p]) q (by rw [hc]; simp)
  rw [List.length_append, List.length_singleton] at ih
  rw [ih, failv]
  cases decide (p.2.2.Arr + val m p.1.Train + ls > q.2.1.Dep + val m q.1.Train) <;> rfl
variable {od : List GuideOdds} {tr : List Int} (hod : ∀ o ∈ od, OddOk d.Trains.length o) (hn : tr.Nodup) (htr : ∀ p ∈ c, p.1.Train ∈ tr) (htl : tr.length ≤ 4)
include hod hn htr htl
theorem cnt_spec : ∀ (n i fu : Nat) (w h a l : Int) (m : List (Int × Int)), i + n = tr.length → n + 20 ≤ fu → Agr od tr i m m → 1 ≤ w → 0 ≤ h → h ≤ a → a + w * 60 ^ n ≤ 12960000 → 0 ≤ l → l ≤ 28800 * h →
  ∃ m1 H A L, GuideNetcount_1_v1 fu (i : Int) w tr od m ⟨h, a, l⟩ (JJ c) ⟨d, ls⟩ = some (m1, H, A, L) ∧ Agr od tr i m1 m ∧ Cnt h a l H A L (w * 60 ^ n) ∧
   H = h + w * SH od (fun v => failv ls v c) (tr.drop i) (val m) ∧ A = a + w * SA od (tr.drop i)
 | _, _, 0, _, _, _, _, _, _, h, _, _, _, _, _, _, _ => absurd h (by omega)
 | 0, i, fu + 1, w, h, a, l, m, hi, hfu, hA, hw, h1, h2, h3, h4, h5 => by
  simp only [Int.pow_zero, Int.mul_one] at h3
  rw [GuideNetcount_1_v1, if_neg (by simp; omega)]
  obtain ⟨x, r, hxr⟩ : ∃ x r, c = x :: r := by
   cases e : c with
   | nil => rw [e] at hcl; simp at hcl
   | cons x r => exact ⟨x, r, rfl⟩
  have hJ : (JJ c).Rides = x.1 :: r.map (·.1) := by rw [hxr]; rfl
  have hb := bad_fail hd h0 hcA hcl m hA.b r [] x (by rw [hxr]; rfl)
  rw [← hxr] at hb
  have hp : GuideNetcount_1_v1.loop2 w m ⟨h, a, l⟩ (JJ c) ⟨d, ls⟩ (JJ c).Rides 0 = GuideNetcount_1_v1.loop2 w m ⟨h, a, l⟩ (JJ c) ⟨d, ls⟩ (r.map (·.1)) 1 := by
   conv => lhs; arg 6; rw [hJ]
   rw [GuideNetcount_1_v1.loop2, if_neg (by decide), Option.bind_some]
  have hb1 : bad d ls (JJ c) m (r.map (·.1)) 1 = some (failv ls (val m) c) := hb
  rw [hp, bad_prog w m ⟨h, a, l⟩ _ 1 (by omega), hb1, Option.bind_some, Option.bind_some]
  rw [List.drop_of_length_le (by omega), SH, SA]
  cases failv ls (val m) c with
  | true =>
   refine ⟨m, h, a + w, l, ?_, hA, ?_, by simp, by simp⟩
   ·simp only [if_true]; rw [w64_id (by omega)]
   ·unfold Cnt; rw [Int.pow_zero]; omega
  | false =>
   simp only [Bool.false_eq_true, if_false]
   have hjl : (JJ c).Rides.length = c.length := by simp [JJ]
   obtain ⟨z, hz, hzm⟩ : ∃ z, gx (JJ c).Rides (w64 ((((JJ c).Rides.length : Nat) : Int) - 1)) = some z ∧ z ∈ (JJ c).Rides := ⟨_, gx_prev (by omega) (Nat.le_refl _) (by omega), List.getElem_mem _⟩
   rw [hz, Option.bind_some]
   have hzb := hA.b z.Train
   rw [show (mget m z.Train).getD 0 = val m z.Train from rfl]
   generalize val m z.Train = v at hzb
   have hwv : 0 ≤ w * v ∧ w * v ≤ 28800 * w := by
    refine ⟨Int.mul_nonneg (by omega) hzb.1, ?_⟩
    rw [Int.mul_comm]
    exact Int.mul_le_mul_of_nonneg_right hzb.2 (by omega)
   refine ⟨m, h + w, a + w, l + w * v, ?_, hA, ?_, by simp, by simp⟩
   ·rw [w64_id (x := h + w) (by omega), w64_id (x := a + w) (by omega), w64_id (x := w * v) (by omega), w64_id (x := l + w * v) (by omega)]
   ·unfold Cnt; rw [Int.pow_zero]; omega
 | n + 1, i, fu + 1, w, h, a, l, m, hi, hfu, hA, hw, h1, h2, h3, h4, h5 => by
  have hil : i < tr.length := by omega
  have ht : tr[i]? = some tr[i] := List.getElem?_eq_getElem hil
  have hdr : tr.drop i = tr[i] :: tr.drop (i + 1) := List.drop_eq_getElem_cons hil
  generalize tr[i] = t at ht hdr
  rw [Int.pow_succ, ← Int.mul_assoc] at h3
  have hP : 1 ≤ (60 : Int) ^ n := Int.pow_pos (by decide)
  have hwP : 1 ≤ w * 60 ^ n := by have := Int.mul_le_mul_of_nonneg_left hP (show 0 ≤ w by omega); omega
  rw [GuideNetcount_1_v1, if_pos (by simp; omega), SlicesIndexFuncLguideOdds_v2, idx2 t ht od 0, Option.bind_some]
  have e1 : w64 ((i : Int) + 1) = ((i + 1 : Nat) : Int) := by rw [w64_id (by omega)]; omega
  rw [hdr, SH, SA]
  have hB : ∀ v v' : Int → Int, (∀ u, u ∈ tr → v u = v' u) → failv ls v c = failv ls v' c := fun v v' h => failv_same c fun p hp => h _ (htr p hp)
  cases hany : od.any (·.Train == t) with
  | false =>
   have hno : ∀ o ∈ od, o.Train ≠ t := by
    intro o ho e
    have := List.any_eq_false.1 hany o ho
    simp [e] at this
   have ho : opts od t = [(0, 1)] := by
    unfold opts
    rw [List.find?_eq_none.2 fun o h => by simpa using hno o h]
   simp only [Bool.false_eq_true, if_false, Option.bind_some]
   rw [if_pos (by decide), e1, ho]
   have hA1 : Agr od tr (i + 1) m m := ⟨fun _ _ _ _ => rfl, hA.none, hA.b⟩
   obtain ⟨m1, H, A, L, k1, k2, k3, k4, k5⟩ := cnt_spec n (i + 1) fu w h a l m (by omega) (by omega) hA1 hw h1 h2 (by omega) h4 h5
   rw [k1, Option.bind_some]
   have hu : upd (val m) t 0 = val m := by
    funext u
    unfold upd
    split
    ·rename_i e; rw [e, hA.none t hno]
    ·rfl
   refine ⟨m1, H, A, L, rfl, k2.down, ?_, ?_, ?_⟩
   ·unfold Cnt at k3 ⊢
    rw [Int.pow_succ, ← Int.mul_assoc]; omega
   ·rw [k4]; simp [hu]
   ·rw [k5]; simp
  | true =>
   obtain ⟨o, ho, hot, hoi, _⟩ := find2 (d := d) (ls := ls) (j := JJ c) (od := od) (self := Fishref2Cases_1_v1 fu) (w := w) ht od hany
   have hk := hod o ho
   have hopt : opts od t = o.Late.zip o.Weight := by
    unfold opts
    rw [gfi] at hoi
    rw [hoi]
   have hgo : gx od ((0 + od.findIdx (·.Train == t) : Nat) : Int) = some o := by rw [Nat.zero_add, gx_nat]; exact hoi
   simp only [if_true, Option.bind_some]
   rw [if_neg (by simp only [decide_eq_true_eq]; omega), hgo, Option.bind_some, hopt]
   have hW10 : w * 10 * 60 ^ n = w * 60 ^ n * 10 := Int.mul_right_comm _ _ _
   have loops : ∀ (r : List Int) (k : Nat) (m' : List (Int × Int)) (h a l : Int), o.Late.drop k = r → Agr od tr i m' m → 0 ≤ h → h ≤ a → a + r.length * (w * 10 * 60 ^ n) ≤ 12960000 → 0 ≤ l → l ≤ 28800 * h →
     ∃ m1 H A L, GuideNetcount_1_v1.loop1 (i : Int) w tr od (JJ c) ⟨d, ls⟩ (GuideNetcount_1_v1 fu) ((0 + od.findIdx (·.Train == t) : Nat) : Int) r k m' h a l = some (m1, H, A, L) ∧
      Agr od tr i m1 m ∧ h ≤ H ∧ H - h ≤ A - a ∧ a + r.length ≤ A ∧ A ≤ a + r.length * (w * 10 * 60 ^ n) ∧ 0 ≤ L ∧ L ≤ 28800 * H ∧
      H = h + w * ((r.zip (o.Weight.drop k)).map (fun p => p.2 * SH od (fun v => failv ls v c) (tr.drop (i + 1)) (upd (val m) t p.1))).sum ∧ A = a + w * (((r.zip (o.Weight.drop k)).map (fun p => p.2)).sum * SA od (tr.drop (i + 1))) := by
    intro r
    induction r with
    | nil => intro k m' h a l _ hA h1 h2 h3 h4 h5; exact ⟨m', h, a, l, rfl, hA, by omega, by omega, by simp, by simp, h4, h5, by simp, by simp⟩
    | cons x r ih =>
     intro k m' h a l hdr' hA' h1 h2 h3 h4 h5
     obtain ⟨d1, d2, d3⟩ := drop_cons hdr'
     have hwk : k < o.Weight.length := by rw [hk.len]; exact d1
     have hx := hk.late x (List.mem_of_getElem? d2)
     have hy := hk.weight _ (List.getElem_mem hwk)
     have hgw : gx o.Weight ((k : Nat) : Int) = some o.Weight[k] := gx_at hwk
     have hwd : o.Weight.drop k = o.Weight[k] :: o.Weight.drop (k + 1) := List.drop_eq_getElem_cons hwk
     generalize o.Weight[k] = y at hy hgw hwd
     simp only [List.length_cons] at h3
     have hz : ((r.length + 1 : Nat) : Int) * (w * 10 * 60 ^ n) = r.length * (w * 10 * 60 ^ n) + w * 10 * 60 ^ n := by
      rw [Int.natCast_add, Int.add_mul]; simp
     rw [hz] at h3
     have hwy : 1 ≤ w * y := by have := Int.mul_le_mul_of_nonneg_left hy.1 (show 0 ≤ w by omega); omega
     have hwy2 : w * y * 60 ^ n ≤ w * 10 * 60 ^ n := Int.mul_le_mul_of_nonneg_right (Int.mul_le_mul_of_nonneg_left hy.2 (by omega)) (by omega)
     have hwy3 : w * y ≤ w * y * 60 ^ n := by have := Int.mul_le_mul_of_nonneg_left hP (show 0 ≤ w * y by omega); omega
     have hnn : 0 ≤ (r.length : Int) * (w * 10 * 60 ^ n) := Int.mul_nonneg (by omega) (by omega)
     have hA1 := hA'.put hn ht ⟨o, ho, hot⟩ hx
     have hself : Agr od tr (i + 1) (mput m' t x) (mput m' t x) := ⟨fun _ _ _ _ => rfl, hA1.none, hA1.b⟩
     obtain ⟨m1, H, A, L, k1, k2, k3, k4, k5⟩ := cnt_spec n (i + 1) fu (w * y) h a l (mput m' t x) (by omega) (by omega) hself hwy h1 h2 (by omega) h4 h5
     unfold Cnt at k3
     have hA2 : Agr od tr i m1 m := ⟨fun k u hk hu => by
      rw [k2.same k u (by omega) hu, val_put]
      unfold upd
      have hne : u ≠ t := fun e => by
       subst e
       obtain ⟨q1, _⟩ := List.getElem?_eq_some_iff.1 hu
       have := (List.getElem?_inj q1 hn).1 (hu.trans ht.symm)
       omega
      rw [if_neg hne]
      exact hA'.same k u hk hu, k2.none, k2.b⟩
     obtain ⟨m2, H2, A2, L2, j1, j2, j3, j4, j5, j6, j7, j8, j9, j10⟩ := ih (k + 1) m1 H A L d3 hA2 (by omega) (by omega) (by omega) (by omega) (by omega)
     refine ⟨m2, H2, A2, L2, ?_, j2, by omega, by omega, ?_, ?_, j7, j8, ?_, ?_⟩
     ·rw [GuideNetcount_1_v1.loop1, gx_nat, ht, Option.bind_some, hgo, Option.bind_some, hgw, Option.bind_some, e1, w64_id (x := w * y) (by omega), k1, Option.bind_some]
      exact j1
     ·rw [List.length_cons, Int.natCast_add]; omega
     ·rw [List.length_cons, hz]; omega
     ·have hsh : SH od (fun v => failv ls v c) (tr.drop (i + 1)) (val (mput m' t x)) = SH od (fun v => failv ls v c) (tr.drop (i + 1)) (upd (val m) t x) := by
       rw [val_put]
       refine SH_congr (S := fun u => u ∈ tr) hB _ _ _ fun u hu hnu => ?_
       unfold upd
       split
       ·rfl
       ·rename_i hne
        obtain ⟨k', hk'⟩ := List.getElem?_of_mem hu
        have hlt : k' < i := by
         rcases Nat.lt_trichotomy k' i with h | h | h
         ·exact h
         ·subst h; rw [ht] at hk'; injection hk' with hk'; exact absurd hk'.symm hne
         ·exfalso
          apply hnu
          have : (tr.drop (i + 1))[k' - (i + 1)]? = some u := by rw [List.getElem?_drop, show i + 1 + (k' - (i + 1)) = k' by omega]; exact hk'
          exact List.mem_of_getElem? this
        exact hA'.same k' u hlt hk'
      rw [j9, k4, hwd, List.zip_cons_cons, List.map_cons, List.sum_cons, hsh]
      generalize SH od (fun v => failv ls v c) (tr.drop (i + 1)) (upd (val m) t x) = z
      generalize ((r.zip (o.Weight.drop (k + 1))).map (fun p => p.2 * SH od (fun v => failv ls v c) (tr.drop (i + 1)) (upd (val m) t p.1))).sum = s
      show h + w * y * z + w * s = h + w * (y * z + s)
      rw [Int.mul_add w (y * z), ← Int.mul_assoc w y z, Int.add_assoc]
     ·rw [j10, k5, hwd, List.zip_cons_cons, List.map_cons, List.sum_cons]
      generalize SA od (tr.drop (i + 1)) = z
      generalize ((r.zip (o.Weight.drop (k + 1))).map (fun p => p.2)).sum = s
      show a + w * y * z + w * (s * z) = a + w * ((y + s) * z)
      rw [Int.add_mul y s z, Int.mul_add w (y * z), ← Int.mul_assoc w y z, Int.add_assoc]
   have h6 : (o.Late.length : Int) * (w * 10 * 60 ^ n) ≤ 6 * (w * 10 * 60 ^ n) := Int.mul_le_mul_of_nonneg_right (by have := hk.small; omega) (by omega)
   have h7 : 6 * (w * 10 * 60 ^ n) = w * 60 ^ n * 60 := by
    generalize (60 : Int) ^ n = P
    rw [Int.mul_assoc w 10 P, Int.mul_left_comm w 10 P]; omega
   have hlp := hk.pos
   obtain ⟨m1, H, A, L, k1, k2, k3, k4, k5, k6, k7, k8, k9, k10⟩ := loops o.Late 0 m h a l List.drop_zero hA h1 h2 (by omega) h4 h5
   rw [k1]
   refine ⟨m1, H, A, L, rfl, k2, ?_, by rw [k9]; simp, by rw [k10]; simp⟩
   unfold Cnt
   rw [Int.pow_succ, ← Int.mul_assoc]; omega
end
theorem sumle {α : Type} {f g : α → Int} : ∀ {l : List α}, (∀ p ∈ l, f p ≤ g p) → (l.map f).sum ≤ (l.map g).sum
 | [], _ => Int.le_refl _
 | x :: l, h => by
  rw [List.map_cons, List.map_cons, List.sum_cons, List.sum_cons]
  exact Int.add_le_add (h x (by simp)) (sumle fun p hp => h p (List.mem_cons_of_mem _ hp))
theorem summul {α : Type} {f : α → Int} (z : Int) : ∀ (l : List α), (l.map fun p => f p * z).sum = (l.map f).sum * z
 | [] => by simp
 | x :: l => by rw [List.map_cons, List.map_cons, List.sum_cons, List.sum_cons, summul z l, Int.add_mul]
theorem sumpos {α : Type} {f : α → Int} : ∀ {l : List α}, (∀ p ∈ l, 0 ≤ f p) → 0 ≤ (l.map f).sum
 | [], _ => Int.le_refl _
 | x :: l, h => by
  rw [List.map_cons, List.sum_cons]
  exact Int.add_nonneg (h x (by simp)) (sumpos fun p hp => h p (List.mem_cons_of_mem _ hp))
def trs : List RR → List Int → List Int
 | [], q => q
 | x :: r, q => trs r (if x.1.Train ∈ q then q else q ++ [x.1.Train])
theorem trs_snoc (x : RR) : ∀ (l : List RR) (q : List Int), trs (l ++ [x]) q = if x.1.Train ∈ trs l q then trs l q else trs l q ++ [x.1.Train]
 | [], q => rfl
 | y :: l, q => by rw [List.cons_append, trs, trs, trs_snoc x l]
theorem trs_run : ∀ (l : List RR) (q : List Int), q.length + l.length ≤ 100 → GuideNetcount.loop1 (l.map (·.1)) q = some (trs l q)
 | [], q, _ => rfl
 | x :: l, q, h => by
  simp only [List.length_cons] at h
  rw [List.map_cons, GuideNetcount.loop1, contains_eq, trs]
  by_cases c : x.1.Train ∈ q
  ·have e : q.contains x.1.Train = true := by simpa using c
   rw [e, if_pos c, show (!true) = false from rfl, if_neg (by decide), Option.bind_some]
   exact trs_run l q (by omega)
  ·have e : q.contains x.1.Train = false := by simpa using c
   rw [e, if_neg c, show (!false) = true from rfl, if_pos rfl, apd_lt (by simp; omega), Option.bind_some, Option.bind_some]
   exact trs_run l _ (by rw [List.length_append]; simp; omega)
theorem trs_ok {l : List RR} (h : l.length ≤ 4) : Fishref2Cases.loop1 (l.map (·.1)) [] = some (trs l []) ∧ (trs l []).Nodup ∧ (trs l []).length ≤ 4 ∧ ∀ p ∈ l, p.1.Train ∈ trs l [] := by
 obtain ⟨q, h1, h2, h3, h4, _, h6⟩ := trains_of (l.map (·.1)) [] List.nodup_nil (by simp; omega)
 rw [trs_run l [] (by simp; omega)] at h1
 injection h1 with h1
 subst h1
 exact ⟨h2, h3, by simp at h4; omega, fun p hp => h6 _ (List.mem_map.2 ⟨p, hp, rfl⟩)⟩
theorem failv_snoc {ls : Int} {v : Int → Int} (x : RR) : ∀ (c : List RR), failv ls v c = true → failv ls v (c ++ [x]) = true
 | [], h => by cases h
 | [_], h => by cases h
 | p :: q :: r, h => by
  rw [failv, Bool.or_eq_true] at h
  show (decide (p.2.2.Arr + v p.1.Train + ls > q.2.1.Dep + v q.1.Train) || failv ls v (q :: (r ++ [x]))) = true
  rw [Bool.or_eq_true]
  exact h.imp id fun h => failv_snoc x (q :: r) h
theorem SA_snoc {od : List GuideOdds} (t : Int) : ∀ (r : List Int), SA od (r ++ [t]) = SA od r * ((opts od t).map (fun p => p.2)).sum
 | [] => by simp [SA]
 | u :: r => by rw [List.cons_append, SA, SA, SA_snoc t r, Int.mul_assoc]
section
variable {n : Nat} {od : List GuideOdds} (hod : ∀ o ∈ od, OddOk n o)
include hod
theorem opts_w (t : Int) : ∀ p ∈ opts od t, 1 ≤ p.2 := by
 intro p hp
 unfold opts at hp
 split at hp
 ·simp at hp; subst hp; decide
 ·rename_i o ho
  have hk := hod o (List.mem_of_find?_eq_some ho)
  exact (hk.weight _ (List.of_mem_zip (a := p.1) (b := p.2) hp).2).1
theorem opts_s (t : Int) : 1 ≤ ((opts od t).map (fun p => p.2)).sum := by
 have hne : opts od t ≠ [] := by
  unfold opts
  split
  ·simp
  ·rename_i o ho
   have hk := hod o (List.mem_of_find?_eq_some ho)
   have h1 := hk.pos
   have h2 := hk.len
   intro e
   have := congrArg List.length e
   rw [List.length_zip, h2, Nat.min_self, List.length_nil] at this
   omega
 have hw := opts_w hod t
 cases h : opts od t with
 | nil => exact absurd h hne
 | cons p r =>
  rw [h] at hw
  rw [List.map_cons, List.sum_cons]
  have h1 := hw p (by simp)
  have h2 : 0 ≤ (r.map fun p => p.2).sum := sumpos fun q hq => by have := hw q (List.mem_cons_of_mem _ hq); omega
  omega
theorem SA_pos : ∀ (r : List Int), 1 ≤ SA od r
 | [] => Int.le_refl _
 | t :: r => by
  rw [SA]
  have h1 := opts_s hod t
  have h2 := SA_pos r
  have := Int.mul_le_mul_of_nonneg_right h1 (show 0 ≤ SA od r by omega)
  omega
theorem SH_pos (B : (Int → Int) → Bool) : ∀ (r : List Int) (v : Int → Int), 0 ≤ SH od B r v
 | [], v => by rw [SH]; split <;> decide
 | t :: r, v => by
  rw [SH]
  exact sumpos fun p hp => Int.mul_nonneg (by have := opts_w hod t p hp; omega) (SH_pos B r _)
theorem SH_le {B B' : (Int → Int) → Bool} (h : ∀ v, B v = true → B' v = true) : ∀ (r : List Int) (v : Int → Int), SH od B' r v ≤ SH od B r v
 | [], v => by
  rw [SH, SH]
  cases c : B v with
  | true => rw [h v c]; decide
  | false => split <;> decide
 | t :: r, v => by
  rw [SH, SH]
  exact sumle fun p hp => Int.mul_le_mul_of_nonneg_left (SH_le h r _) (by have := opts_w hod t p hp; omega)
theorem SH_ext {B B' : (Int → Int) → Bool} {t : Int} (h : ∀ v x, B v = true → B' (upd v t x) = true) : ∀ (r : List Int) (v : Int → Int), SH od B' (r ++ [t]) v ≤ SH od B r v * ((opts od t).map (fun p => p.2)).sum
 | [], v => by
  rw [List.nil_append, SH, SH, Int.mul_comm, ← summul]
  refine sumle fun p hp => Int.mul_le_mul_of_nonneg_left ?_ (by have := opts_w hod t p hp; omega)
  rw [SH]
  cases c : B v with
  | true => rw [h v p.1 c]; decide
  | false => split <;> decide
 | u :: r, v => by
  rw [List.cons_append, SH, SH, ← summul]
  refine sumle fun p hp => ?_
  rw [Int.mul_assoc]
  exact Int.mul_le_mul_of_nonneg_left (SH_ext h r _) (by have := opts_w hod u p hp; omega)
end
def HH (od : List GuideOdds) (ls : Int) (c : List RR) : Int := SH od (fun v => failv ls v c) (trs c []) (fun _ => 0)
def AA (od : List GuideOdds) (c : List RR) : Int := SA od (trs c [])
theorem ratio {H1 H2 H3 A1 A2 A3 : Int} (a1 : 1 ≤ A1) (a2 : 1 ≤ A2) (h1 : H3 * A2 ≤ H2 * A3) (h2 : H2 * A1 ≤ H1 * A2) (a3 : 1 ≤ A3) : H3 * A1 ≤ H1 * A3 := by
 refine Int.le_of_mul_le_mul_right ?_ (show 0 < A2 by omega)
 have q1 : H3 * A2 * A1 ≤ H2 * A3 * A1 := Int.mul_le_mul_of_nonneg_right h1 (by omega)
 have q2 : H2 * A1 * A3 ≤ H1 * A2 * A3 := Int.mul_le_mul_of_nonneg_right h2 (by omega)
 rw [Int.mul_right_comm H3 A1 A2, Int.mul_right_comm H1 A3 A2]
 rw [Int.mul_right_comm H2 A1 A3] at q2
 exact Int.le_trans q1 q2
section
variable {n : Nat} {od : List GuideOdds} (hod : ∀ o ∈ od, OddOk n o) {ls : Int}
include hod
theorem mono1 {c : List RR} (hc : c.length ≤ 4) (x : RR) : HH od ls (c ++ [x]) * AA od c ≤ HH od ls c * AA od (c ++ [x]) := by
 obtain ⟨_, _, _, hin⟩ := trs_ok hc
 have hA : 1 ≤ AA od c := SA_pos hod _
 unfold HH AA at *
 rw [trs_snoc]
 by_cases h : x.1.Train ∈ trs c []
 ·rw [if_pos h]
  exact Int.mul_le_mul_of_nonneg_right (SH_le hod (fun v h => failv_snoc x c h) _ _) (by omega)
 ·rw [if_neg h, SA_snoc, Int.mul_comm (SA od (trs c [])) _, ← Int.mul_assoc]
  refine Int.mul_le_mul_of_nonneg_right (SH_ext hod (fun v y hv => failv_snoc x c ?_) _ _) (by omega)
  rw [← hv]
  refine failv_same c fun p hp => ?_
  unfold upd
  rw [if_neg fun e => h (by rw [← e]; exact hin p hp)]
theorem mono : ∀ (s c : List RR), (c ++ s).length ≤ 4 → HH od ls (c ++ s) * AA od c ≤ HH od ls c * AA od (c ++ s)
 | [], c, _ => by rw [List.append_nil]; exact Int.le_refl _
 | x :: s, c, h => by
  have e : c ++ x :: s = (c ++ [x]) ++ s := by simp
  rw [e] at h ⊢
  have h1 := mono s (c ++ [x]) h
  have h2 := mono1 hod (ls := ls) (c := c) (by simp at h; omega) x
  have a1 : 1 ≤ AA od c := SA_pos hod _
  have a2 : 1 ≤ AA od (c ++ [x]) := SA_pos hod _
  have a3 : 1 ≤ AA od ((c ++ [x]) ++ s) := SA_pos hod _
  exact ratio a1 a2 h1 h2 a3
end
section
variable {d : ApiDay} (hd : DayOk d) {ls : Int} (h0 : 0 ≤ ls ∧ ls ≤ 28800) {od : List GuideOdds} (hod : ∀ o ∈ od, OddOk d.Trains.length o)
include hd h0 hod
theorem count_of {c : List RR} (hcA : ∀ q ∈ c, q ∈ AD d) (hcl : 1 ≤ c.length ∧ c.length ≤ 4) {fu : Nat} (hfu : 60 ≤ fu) : ∃ L, GuideNetcount fu ⟨d, ls⟩ (JJ c) od = some ⟨HH od ls c, AA od c, L⟩ ∧ (∃ L', Fishref2Cases fu d (JJ c) ls od = some (AA od c, HH od ls c, L')) ∧ 1 ≤ AA od c ∧ AA od c ≤ 12960000 ∧ 0 ≤ HH od ls c ∧ HH od ls c ≤ AA od c := by
 obtain ⟨t1, t2, t3, t4⟩ := trs_ok hcl.2
 have hP : ((1 : Int) * 60 ^ (trs c []).length) ≤ 12960000 := by
  rw [Int.one_mul]
  generalize (trs c []).length = k at t3
  match k, t3 with
  | 0, _ => decide
  | 1, _ => decide
  | 2, _ => decide
  | 3, _ => decide
  | 4, _ => decide
  | k + 5, h => omega
 have hv : val [] = fun _ => 0 := by funext u; rfl
 have hA : Agr od (trs c []) 0 [] [] := ⟨fun _ _ _ _ => rfl, fun _ _ => rfl, fun _ => by rw [hv]; show (0 : Int) ≤ 0 ∧ (0 : Int) ≤ 28800; decide⟩
 obtain ⟨m1, H, A, L, k1, _, k3, k4, k5⟩ := cnt_spec hd h0 hcA hcl hod t2 t4 t3 (trs c []).length 0 fu 1 0 0 0 [] (by omega) (by omega) hA (by omega) (by omega) (by omega) (by omega) (by omega) (by omega)
 rw [List.drop_zero, Int.zero_add, Int.one_mul] at k4 k5
 rw [hv] at k4
 have k4 : H = HH od ls c := k4
 have k5 : A = AA od c := k5
 subst k4 k5
 have hvr : ∀ p ∈ (JJ c).Rides, validR d p := by
  intro p hp
  obtain ⟨q, hq, rfl⟩ := List.mem_map.1 hp
  obtain ⟨x, o⟩ := AD_ok (hcA q hq)
  exact ⟨x, q.2.1, q.2.2, o.tr, o.on, o.off⟩
 obtain ⟨m2, m2', H', A', L', j1, j2, _, _⟩ := cases_same (ls := ls) (j := JJ c) hvr (by simpa [JJ] using hcl) hod t2 (fun p hp => by
  obtain ⟨q, hq, rfl⟩ := List.mem_map.1 hp
  exact t4 q hq) t3 (trs c []).length 0 fu 1 0 0 0 [] [] (by omega) (by omega) hA (by omega) (by omega) (by omega) (by omega) (by omega) (by omega)
 have e := k1.symm.trans j1
 injection e with e
 simp only [Prod.mk.injEq] at e
 obtain ⟨_, e1, e2, _⟩ := e
 subst e1 e2
 have hl1 : GuideNetcount.loop1 (JJ c).Rides [] = some (trs c []) := trs_run c [] (by simp; omega)
 have hl2 : Fishref2Cases.loop1 (JJ c).Rides [] = some (trs c []) := t1
 refine ⟨L, ?_, ⟨L', ?_⟩, ?_⟩
 ·rw [GuideNetcount, hl1, Option.bind_some]
  have k1' : GuideNetcount_1_v1 fu 0 1 (trs c []) od [] ⟨0, 0, 0⟩ (JJ c) ⟨d, ls⟩ = _ := k1
  rw [k1']; rfl
 ·rw [Fishref2Cases, hl2, Option.bind_some]
  have j2' : Fishref2Cases_1_v1 fu 0 1 (trs c []) 0 (JJ c) d [] ls 0 0 od = _ := j2
  rw [j2']; rfl
 ·unfold Cnt at k3
  have := SH_pos hod (fun v => failv ls v c) (trs c []) (fun _ => 0)
  have : 0 ≤ HH od ls c := this
  omega
end
def pt_ (c : List RR) : GuidePoint := ⟨(c.head?.map (·.2.1.Dep)).getD 0, (c.getLast?.map (·.2.2.Arr)).getD 0, (c.length : Int)⟩
theorem last_of {l : List RR} {q : RR} (h : l.getLast? = some q) (hs : l.length ≤ 4) : gx (l.map (·.1)) (w64 ((((l.map (·.1)).length : Nat) : Int) - 1)) = some q.1 := by
 have hne : l ≠ [] := fun e => by subst e; cases h
 have hp := List.length_pos_iff.2 hne
 rw [gx_prev (by rw [List.length_map]; exact hp) (Nat.le_refl _) (by rw [List.length_map]; omega)]
 rw [List.getLast?_eq_getElem?, List.getElem?_eq_some_iff] at h
 obtain ⟨h1, h2⟩ := h
 simp [h2]
theorem arrives_of {d : ApiDay} {l : List RR} {q : RR} (h : l.getLast? = some q) (hs : l.length ≤ 4) (hA : q ∈ AD d) : Fishref2Arrives d (JJ l) = some q.2.2.Arr := by
 obtain ⟨x, o⟩ := AD_ok hA
 rw [Fishref2Arrives]
 rw [show (JJ l).Rides = l.map (·.1) from rfl, last_of h hs]
 simp only [Option.bind_some, o.tr, o.off]
theorem leaves_of {d : ApiDay} {q : RR} {s : List RR} (hA : q ∈ AD d) : Fishref2Leaves d (JJ (q :: s)) = some q.2.1.Dep := by
 obtain ⟨x, o⟩ := AD_ok hA
 rw [Fishref2Leaves]
 have : gx (JJ (q :: s)).Rides 0 = some q.1 := rfl
 rw [this]
 simp only [Option.bind_some, o.tr, o.on]
theorem cmpi_gt (x y : Int) : CmpCompareint x y > 0 ↔ x > y := by
 unfold CmpCompareint CmpisNaNint
 simp
 by_cases h : x < y
 ·simp [h]; omega
 ·by_cases k : y < x <;> simp [h, k]
theorem cmpi_lt (x y : Int) : CmpCompareint x y < 0 ↔ x < y := by
 unfold CmpCompareint CmpisNaNint
 simp
 by_cases h : x < y
 ·simp [h]
 ·by_cases k : y < x <;> simp [h, k]
theorem cmpi_zero (x y : Int) : CmpCompareint x y = 0 ↔ x = y := by
 unfold CmpCompareint CmpisNaNint
 simp
 by_cases h : x < y
 ·simp [h]; omega
 ·by_cases k : y < x
  ·simp [h, k]; omega
  ·simp [h, k]; omega
theorem or4 (a b c e : Int) : CmpOrint [a, b, c, e] > 0 ↔ a > 0 ∨ a = 0 ∧ (b > 0 ∨ b = 0 ∧ (c > 0 ∨ c = 0 ∧ e > 0)) := by
 unfold CmpOrint
 simp only [CmpOrint.loop1, bnd_eq]
 by_cases ha : a = 0
 ·subst ha
  by_cases hb : b = 0
  ·subst hb
   by_cases hc : c = 0
   ·subst hc
    by_cases he : e = 0
    ·subst he; simp
    ·simp [he]
   ·simp [hc]
  ·simp [hb]
 ·simp [ha]
def bt (od : List GuideOdds) (ls : Int) (c b : List RR) : Bool := decide (HH od ls c * AA od b > HH od ls b * AA od c ∨ HH od ls c * AA od b = HH od ls b * AA od c ∧ ((pt_ c).Arr < (pt_ b).Arr ∨ (pt_ c).Arr = (pt_ b).Arr ∧ ((pt_ c).Rides < (pt_ b).Rides ∨ (pt_ c).Rides = (pt_ b).Rides ∧ -(pt_ c).Dep < -(pt_ b).Dep)))
def foldB (od : List GuideOdds) (ls : Int) : List (List RR) → Option (List RR) → Option (List RR)
 | [], b => b
 | c :: r, none => foldB od ls r (some c)
 | c :: r, some b => foldB od ls r (some (if bt od ls c b = true then c else b))
theorem foldB_app {od : List GuideOdds} {ls : Int} : ∀ (l l' : List (List RR)) (b : Option (List RR)), foldB od ls (l ++ l') b = foldB od ls l' (foldB od ls l b)
 | [], _, _ => rfl
 | c :: l, l', none => foldB_app l l' _
 | c :: l, l', some b => foldB_app l l' _
theorem foldB_keep {od : List GuideOdds} {ls : Int} {b : List RR} : ∀ (l : List (List RR)), (∀ c ∈ l, bt od ls c b = false) → foldB od ls l (some b) = some b
 | [], _ => rfl
 | c :: l, h => by
  rw [foldB, h c (by simp), if_neg (by decide)]
  exact foldB_keep l fun x hx => h x (List.mem_cons_of_mem _ hx)
theorem prodB {x y : Int} (hx : 0 ≤ x ∧ x ≤ 12960000) (hy : 0 ≤ y ∧ y ≤ 12960000) : 0 ≤ x * y ∧ x * y ≤ 167961600000000 := by
 refine ⟨Int.mul_nonneg hx.1 hy.1, ?_⟩
 have := Int.mul_le_mul hx.2 hy.2 hy.1 (by decide : (0 : Int) ≤ 12960000)
 omega
theorem ratio_lt {Hl Hc Hb Al Ac Ab : Int} (a1 : 1 ≤ Al) (a2 : 1 ≤ Ac) (a3 : 1 ≤ Ab) (h1 : Hl * Ac ≤ Hc * Al) (h2 : Hc * Ab < Hb * Ac) : Hl * Ab < Hb * Al := by
 refine Int.lt_of_mul_lt_mul_right ?_ (show 0 ≤ Ac by omega)
 have q1 : Hl * Ac * Ab ≤ Hc * Al * Ab := Int.mul_le_mul_of_nonneg_right h1 (by omega)
 have q2 : Hc * Ab * Al < Hb * Ac * Al := Int.mul_lt_mul_of_pos_right h2 (by omega)
 rw [Int.mul_right_comm Hl Ab Ac, Int.mul_right_comm Hb Al Ac]
 rw [Int.mul_right_comm Hc Al Ab] at q1
 exact Int.lt_of_le_of_lt q1 q2
def Jy (d : ApiDay) (c : List RR) : Prop := (∀ q ∈ c, q ∈ AD d) ∧ 1 ≤ c.length ∧ c.length ≤ 4
theorem pt_at {c : List RR} {z : RR} (h : c.getLast? = some z) : (pt_ c).Arr = z.2.2.Arr := by unfold pt_; rw [h]; rfl
theorem ext_arr {d : ApiDay} (hd : DayOk d) {ls : Int} (h0 : 0 ≤ ls ∧ ls ≤ 28800) {first : RR → Bool} : ∀ (s c : List RR) (z : RR), c.getLast? = some z → Ext (AD d) ls first c s → z.2.2.Arr ≤ (pt_ (c ++ s)).Arr
 | [], c, z, h, _ => by rw [List.append_nil, pt_at h]; exact Int.le_refl _
 | r :: s, c, z, h, hE => by
  have ih := ext_arr hd h0 s (c ++ [r]) r (by simp) hE.2.2
  have ht := AD_time hd hE.1
  have hn := hE.2.1
  unfold nx at hn
  rw [h] at hn
  have hn : stepB ls z r = true := hn
  unfold stepB at hn
  simp at hn
  rw [List.append_assoc] at ih
  simp only [List.cons_append, List.nil_append] at ih
  omega
def RelB (d : ApiDay) (od : List GuideOdds) (ls : Int) (b : Option (List RR)) (q : List GuideRide) (H A : Int) : Prop := match b with
 | none => q = []
 | some c => Jy d c ∧ q = c.map (·.1) ∧ H = HH od ls c ∧ A = AA od c
section
variable {d : ApiDay} (hd : DayOk d) {ls : Int} (h0 : 0 ≤ ls ∧ ls ≤ 28800) {od : List GuideOdds} (hod : ∀ o ∈ od, OddOk d.Trains.length o)
include hd h0 hod
theorem better_of {c b : List RR} (hc : Jy d c) (hb : Jy d b) (L L' : Int) : ∃ v, GuideSurest_1_v1 (c.map (·.1)) ⟨HH od ls c, AA od c, L⟩ (b.map (·.1)) ⟨HH od ls b, AA od b, L'⟩ ⟨d, ls⟩ = some v ∧ decide (v > 0) = bt od ls c b := by
 obtain ⟨_, _, _, c1, c2, c3, c4⟩ := count_of hd h0 hod hc.1 hc.2 (fu := 60) (Nat.le_refl _)
 obtain ⟨_, _, _, b1, b2, b3, b4⟩ := count_of hd h0 hod hb.1 hb.2 (fu := 60) (Nat.le_refl _)
 obtain ⟨hcA, hc1, hc4⟩ := hc
 obtain ⟨hbA, hb1, hb4⟩ := hb
 obtain ⟨x, s, rfl⟩ : ∃ x s, c = x :: s := by
  cases c with
  | nil => simp at hc1
  | cons x s => exact ⟨x, s, rfl⟩
 obtain ⟨y, u, rfl⟩ : ∃ y u, b = y :: u := by
  cases b with
  | nil => simp at hb1
  | cons y u => exact ⟨y, u, rfl⟩
 obtain ⟨z, hz⟩ : ∃ z, (x :: s).getLast? = some z := ⟨_, List.getLast?_eq_some_getLast (by simp)⟩
 obtain ⟨w, hw⟩ : ∃ w, (y :: u).getLast? = some w := ⟨_, List.getLast?_eq_some_getLast (by simp)⟩
 have p1 := prodB (x := HH od ls (x :: s)) (y := AA od (y :: u)) (by omega) (by omega)
 have p2 := prodB (x := HH od ls (y :: u)) (y := AA od (x :: s)) (by omega) (by omega)
 rw [GuideSurest_1_v1, if_neg (by simp), last_of hz hc4, Option.bind_some, last_of hw hb4, Option.bind_some]
 rw [show gx ((x :: s).map (·.1)) 0 = some x.1 from rfl, Option.bind_some, show gx ((y :: u).map (·.1)) 0 = some y.1 from rfl, Option.bind_some]
 rw [off_of (hbA w (List.mem_of_getLast? hw)), Option.bind_some, off_of (hcA z (List.mem_of_getLast? hz)), Option.bind_some, on_of (hcA x (by simp)), Option.bind_some, on_of (hbA y (by simp)), Option.bind_some]
 refine ⟨_, rfl, ?_⟩
 dsimp only
 rw [w64_id (by omega), w64_id (by omega)]
 unfold bt
 rw [decide_eq_decide, or4]
 simp only [cmpi_gt, cmpi_zero, pt_at hz, pt_at hw]
 have e1 : (pt_ (x :: s)).Rides = (((x :: s).map (·.1)).length : Int) := by simp [pt_]
 have e2 : (pt_ (y :: u)).Rides = (((y :: u).map (·.1)).length : Int) := by simp [pt_]
 have e3 : (pt_ (x :: s)).Dep = x.2.1.Dep := rfl
 have e4 : (pt_ (y :: u)).Dep = y.2.1.Dep := rfl
 rw [e1, e2, e3, e4]
 omega
theorem sur_grow {first : RR → Bool} {to by_ : Int} (hto : 0 ≤ to) : ∀ (m fu : Nat) (c : List RR) (b : Option (List RR)) (q : List GuideRide) (H A L : Int), m + 61 ≤ fu → c.length + m = 4 → Jy d c → RelB d od ls b q H A →
  ∃ q' H' A' L', GuideSurest_2_v1 fu (c.map (·.1)) ⟨d, ls⟩ by_ od q ⟨H, A, L⟩ to = some (q', H', A', L') ∧ RelB d od ls (foldB od ls ((dfs (AD d) ls first (finR to) m c).filter (fun l => decide ((pt_ l).Arr ≤ by_))) b) q' H' A'
 | _, 0, _, _, _, _, _, _, h, _, _, _ => absurd h (by omega)
 | m, fu + 1, c, b, q, H, A, L, hfu, hlen, hJ, hR => by
  have hne : c ≠ [] := fun e => by subst e; have := hJ.2.1; simp at this
  obtain ⟨z, hz⟩ : ∃ z, c.getLast? = some z := ⟨_, List.getLast?_eq_some_getLast hne⟩
  have hzA := hJ.1 z (List.mem_of_getLast? hz)
  obtain ⟨L0, n1, _, n3, n4, n5, n6⟩ := count_of hd h0 hod hJ.1 hJ.2 (fu := fu) (by omega)
  rw [GuideSurest_2_v1, last_of hz hJ.2.2, Option.bind_some, off_of hzA, Option.bind_some]
  have hext : ∀ l ∈ dfs (AD d) ls first (finR to) m c, ∃ s, l = c ++ s ∧ s.length ≤ m ∧ Ext (AD d) ls first c s := fun l hl => by
   obtain ⟨s, h1, h2, _, h4⟩ := (mem_dfs m c l).1 hl
   exact ⟨s, h1, h2, h4⟩
  by_cases c1 : z.2.2.Arr > by_
  ·rw [decide_eq_true c1, if_pos rfl]
   refine ⟨q, H, A, L, rfl, ?_⟩
   have : (dfs (AD d) ls first (finR to) m c).filter (fun l => decide ((pt_ l).Arr ≤ by_)) = [] := by
    rw [List.filter_eq_nil_iff]
    intro l hl
    obtain ⟨s, rfl, _, hE⟩ := hext l hl
    have := ext_arr hd h0 s c z hz hE
    simp only [decide_eq_true_eq]
    omega
   rw [this]
   exact hR
  ·rw [decide_eq_false c1, if_neg (by decide)]
   have n1' : GuideNetcount fu ⟨d, ls⟩ (GuideJourney.mk (c.map (·.1))) od = some ⟨HH od ls c, AA od c, L0⟩ := n1
   rw [n1', Option.bind_some, bnd_eq]
   dsimp only
   have hcut : ((if (!q.isEmpty) = true then decide ((w64 (HH od ls c * A)) < (w64 (H * AA od c))) else false) = true ∧ ∃ b', b = some b' ∧ HH od ls c * AA od b' < HH od ls b' * AA od c) ∨ (if (!q.isEmpty) = true then decide ((w64 (HH od ls c * A)) < (w64 (H * AA od c))) else false) = false := by
    cases b with
    | none =>
     have : q = [] := hR
     subst this
     exact .inr rfl
    | some b' =>
     obtain ⟨r1, r2, r3, r4⟩ := hR
     obtain ⟨_, _, _, b1, b2, b3, b4⟩ := count_of hd h0 hod r1.1 r1.2 (fu := 60) (Nat.le_refl _)
     subst r3 r4
     have p1 := prodB (x := HH od ls c) (y := AA od b') (by omega) (by omega)
     have p2 := prodB (x := HH od ls b') (y := AA od c) (by omega) (by omega)
     rw [w64_id (by omega), w64_id (by omega)]
     by_cases k : HH od ls c * AA od b' < HH od ls b' * AA od c
     ·left
      have hq : q.isEmpty = false := by
       rw [r2]
       cases b' with
       | nil => have := r1.2.1; simp at this
       | cons => rfl
      rw [hq, decide_eq_true k]
      exact ⟨rfl, b', rfl, k⟩
     ·right
      rw [decide_eq_false k]
      split <;> rfl
   rcases hcut with ⟨hc1, b', rfl, hlt⟩ | hc1
   ·rw [hc1, if_pos rfl]
    refine ⟨q, H, A, L, rfl, ?_⟩
    rw [foldB_keep]
    ·exact hR
    ·intro l hl
     obtain ⟨s, rfl, hs, hE⟩ := hext l (List.mem_filter.1 hl).1
     have hm := mono hod (ls := ls) s c (by rw [List.length_append]; omega)
     have a1 : 1 ≤ AA od (c ++ s) := SA_pos hod _
     have a3 : 1 ≤ AA od b' := SA_pos hod _
     have := ratio_lt a1 n3 a3 hm hlt
     unfold bt
     rw [decide_eq_false_iff_not]
     omega
   ·rw [hc1, if_neg (by decide)]
    have hfin : finR to z = (z.2.2.Station == to) := by unfold finR; rw [if_neg (by simp; omega)]
    -- the journey itself
    obtain ⟨q1, H1, A1, L1, e1, e2⟩ : ∃ q1 H1 A1 L1, ((((if (z.2.2.Station == to) = true then ((GuideSurest_1_v1 (c.map (·.1)) ⟨HH od ls c, AA od c, L0⟩ q ⟨H, A, L⟩ ⟨d, ls⟩).bind fun q115 => some (decide (q115 > 0))) else some false) : Option Bool)).bind fun q105 => ((if q105 then ((nz (c.map (·.1))).bind fun _ => some (c.map (·.1), HH od ls c, AA od c, L0)) else some (q, H, A, L)) : Option ((List GuideRide) × Int × Int × Int))) = some (q1, H1, A1, L1) ∧
      RelB d od ls (foldB od ls (if finR to z = true then [c] else []) b) q1 H1 A1 := by
     have hnz : nz (c.map (·.1)) = some () := by
      unfold nz
      rw [if_neg (by simp [hne])]
     cases hst : (z.2.2.Station == to) with
     | false =>
      rw [if_neg (by decide), Option.bind_some, if_neg (by decide), hfin, hst, if_neg (by decide)]
      exact ⟨q, H, A, L, rfl, hR⟩
     | true =>
      rw [if_pos rfl, hfin, hst, if_pos rfl]
      cases b with
      | none =>
       have : q = [] := hR
       subst this
       rw [show GuideSurest_1_v1 (c.map (·.1)) ⟨HH od ls c, AA od c, L0⟩ [] ⟨H, A, L⟩ ⟨d, ls⟩ = some 1 from rfl, Option.bind_some, Option.bind_some, if_pos (by decide), hnz, Option.bind_some]
       exact ⟨_, _, _, _, rfl, hJ, rfl, rfl, rfl⟩
      | some b' =>
       obtain ⟨r1, r2, r3, r4⟩ := hR
       subst r2 r3 r4
       obtain ⟨v, v1, v2⟩ := better_of hd h0 hod hJ r1 L0 L
       rw [v1, Option.bind_some, Option.bind_some, v2, hnz, Option.bind_some]
       show ∃ q1 H1 A1 L1, _ ∧ RelB d od ls (some (if bt od ls c b' = true then c else b')) q1 H1 A1
       cases bt od ls c b' with
       | true => exact ⟨_, _, _, _, rfl, hJ, rfl, rfl, rfl⟩
       | false => exact ⟨_, _, _, _, rfl, r1, rfl, rfl, rfl⟩
    have e1' : ∀ (G : (List GuideRide) × Int × Int × Int → Option ((List GuideRide) × Int × Int × Int)), ((((if (z.2.2.Station == to) = true then ((GuideSurest_1_v1 (c.map (·.1)) ⟨HH od ls c, AA od c, L0⟩ q ⟨H, A, L⟩ ⟨d, ls⟩).bind fun q115 => some (decide (q115 > 0))) else some false) : Option Bool)).bind fun q105 => (((if q105 then ((nz (c.map (·.1))).bind fun _ => some (c.map (·.1), HH od ls c, AA od c, L0)) else some (q, H, A, L)) : Option ((List GuideRide) × Int × Int × Int)).bind G)) = G (q1, H1, A1, L1) := fun G => by
     rw [← Option.bind_assoc, e1]; rfl
    rw [Option.bind_some, e1']
    dsimp only
    have hkeep : decide ((pt_ c).Arr ≤ by_) = true := by rw [pt_at hz]; exact decide_eq_true (by omega)
    have hown : (if (c.getLast?.any (finR to)) = true then [c] else []).filter (fun l => decide ((pt_ l).Arr ≤ by_)) = if finR to z = true then [c] else [] := by
     rw [hz]
     show (if finR to z = true then [c] else []).filter _ = _
     split
     ·rw [List.filter_cons, hkeep]; rfl
     ·rfl
    cases m with
    | zero =>
     have : (((c.map (·.1)).length : Int) == 4) = true := by
      rw [List.length_map]
      have : (c.length : Int) = 4 := by omega
      simp [this]
     rw [this, if_pos rfl, dfs, hown]
     exact ⟨q1, H1, A1, L1, rfl, e2⟩
    | succ m =>
     have : (((c.map (·.1)).length : Int) == 4) = false := by
      rw [List.length_map]
      have : ¬ (c.length : Int) = 4 := by omega
      simpa using this
     rw [this, if_neg (by decide), behind_of hd h0 hzA, Option.bind_some, dfs, List.filter_append, hown, foldB_app]
     have hnx : nx ls first c = stepB ls z := by unfold nx; rw [hz]
     rw [hnx]
     generalize foldB od ls (if finR to z = true then [c] else []) b = b1 at e2
     have loop : ∀ (S : List RR) (b : Option (List RR)) (q : List GuideRide) (H A L : Int), (∀ r ∈ S, r ∈ AD d) → RelB d od ls b q H A →
       ∃ q' H' A' L', GuideSurest_2_v1.loop1 (c.map (·.1)) ⟨d, ls⟩ by_ od to (GuideSurest_2_v1 fu) (S.map (·.1)) q H A L = some (q', H', A', L') ∧
        RelB d od ls (foldB od ls ((S.flatMap fun r => dfs (AD d) ls first (finR to) m (c ++ [r])).filter (fun l => decide ((pt_ l).Arr ≤ by_))) b) q' H' A' := by
      intro S
      induction S with
      | nil => intro b q H A L _ hR; exact ⟨q, H, A, L, rfl, hR⟩
      | cons r S ih =>
       intro b q H A L hS hR
       have hr := hS r (List.mem_cons_self ..)
       obtain ⟨q2, H2, A2, L2, k1, k2⟩ := sur_grow hto (first := first) (by_ := by_) m fu (c ++ [r]) b q H A L (by omega) (by rw [List.length_append, List.length_singleton]; omega) ⟨fun x hx => by
        rcases List.mem_append.1 hx with hx | hx
        ·exact hJ.1 x hx
        ·simp at hx; subst hx; exact hr, by simp, by simp; omega⟩ hR
       obtain ⟨q3, H3, A3, L3, k3, k4⟩ := ih _ q2 H2 A2 L2 (fun x hx => hS x (List.mem_cons_of_mem _ hx)) k2
       refine ⟨q3, H3, A3, L3, ?_, ?_⟩
       ·rw [List.map_cons, GuideSurest_2_v1.loop1, SlicesCloneLguideRide, apd_lt (by simp; omega), Option.bind_some, Option.bind_some, List.nil_append, apd_lt (by simp; omega), Option.bind_some]
        rw [show c.map (·.1) ++ [r.1] = (c ++ [r]).map (·.1) by simp, k1, Option.bind_some]
        exact k3
       ·rw [List.flatMap_cons, List.filter_append, foldB_app]
        exact k4
     obtain ⟨q2, H2, A2, L2, k1, k2⟩ := loop ((AD d).filter (stepB ls z)) b1 q1 H1 A1 L1 (fun r hr => (List.mem_filter.1 hr).1) e2
     rw [k1, Option.bind_some]
     exact ⟨q2, H2, A2, L2, rfl, k2⟩
end
theorem cmp_three (a1 a2 a3 b1 b2 b3 : Int) : ∃ v, SlicesCompareLint [a1, a2, a3] [b1, b2, b3] = some v ∧ (v < 0 ↔ a1 < b1 ∨ a1 = b1 ∧ (a2 < b2 ∨ a2 = b2 ∧ a3 < b3)) := by
 have g0 : gx [b1, b2, b3] ((0 : Nat) : Int) = some b1 := rfl
 have g1 : gx [b1, b2, b3] ((0 + 1 : Nat) : Int) = some b2 := rfl
 have g2 : gx [b1, b2, b3] ((0 + 1 + 1 : Nat) : Int) = some b3 := rfl
 rw [SlicesCompareLint]
 simp only [SlicesCompareLint.loop1, g0, g1, g2, Option.bind_some]
 have n0 : decide (((0 : Nat) : Int) ≥ (([b1, b2, b3] : List Int).length : Int)) = false := by simp
 have n1 : decide (((0 + 1 : Nat) : Int) ≥ (([b1, b2, b3] : List Int).length : Int)) = false := by simp
 have n2 : decide (((0 + 1 + 1 : Nat) : Int) ≥ (([b1, b2, b3] : List Int).length : Int)) = false := by simp
 rw [n0, n1, n2]
 simp only [Bool.false_eq_true, if_false]
 by_cases c1 : CmpCompareint a1 b1 = 0
 ·have e1 := (cmpi_zero _ _).1 c1
  rw [c1]
  by_cases c2 : CmpCompareint a2 b2 = 0
  ·have e2 := (cmpi_zero _ _).1 c2
   rw [c2]
   by_cases c3 : CmpCompareint a3 b3 = 0
   ·have e3 := (cmpi_zero _ _).1 c3
    rw [c3]
    refine ⟨0, rfl, ?_⟩
    omega
   ·have b : (CmpCompareint a3 b3 != 0) = true := by simpa using c3
    rw [b]
    refine ⟨CmpCompareint a3 b3, rfl, ?_⟩
    rw [cmpi_lt]; omega
  ·have b : (CmpCompareint a2 b2 != 0) = true := by simpa using c2
   have e2 : ¬ a2 = b2 := fun e => c2 ((cmpi_zero _ _).2 e)
   rw [b]
   refine ⟨CmpCompareint a2 b2, rfl, ?_⟩
   rw [cmpi_lt]; omega
 ·have b : (CmpCompareint a1 b1 != 0) = true := by simpa using c1
  have e1 : ¬ a1 = b1 := fun e => c1 ((cmpi_zero _ _).2 e)
  rw [b]
  refine ⟨CmpCompareint a1 b1, rfl, ?_⟩
  rw [cmpi_lt]; omega
theorem dfs_ok {A : List RR} {ls : Int} {first fin : RR → Bool} {l : List RR} (h : l ∈ dfs A ls first fin 4 []) : l.length ≤ 4 ∧ l ≠ [] ∧ (∀ q ∈ l, q ∈ A) ∧ Ext A ls first [] l ∧ l.getLast?.any fin = true := by
 obtain ⟨s, h1, h2, h3, h4⟩ := (mem_dfs 4 [] l).1 h
 rw [List.nil_append] at h1
 subst h1
 exact ⟨h2, fun e => by subst e; simp at h3, ext_in l [] h4, h4, h3⟩
def okT (at_ by_ : Int) (c : List RR) : Bool := decide ((pt_ c).Dep ≥ at_) && decide ((pt_ c).Arr ≤ by_)
section
variable {d : ApiDay} (hd : DayOk d) {ls : Int} (h0 : 0 ≤ ls ∧ ls ≤ 28800) {od : List GuideOdds} (hod : ∀ o ∈ od, OddOk d.Trains.length o)
include hd h0 hod
theorem sur_top {first : RR → Bool} {to by_ : Int} (hto : 0 ≤ to) {fu : Nat} (hfu : 70 ≤ fu) : ∀ (S : List RR) (b : Option (List RR)) (q : List GuideRide) (H A L : Int), (∀ r ∈ S, r ∈ AD d) → RelB d od ls b q H A →
  ∃ q' H' A' L', GuideSurest.loop1 d to by_ ls od fu (S.map (·.1)) q H A L = some (q', H', A', L') ∧
   RelB d od ls (foldB od ls ((S.flatMap fun r => dfs (AD d) ls first (finR to) 3 [r]).filter (fun l => decide ((pt_ l).Arr ≤ by_))) b) q' H' A'
 | [], b, q, H, A, L, _, hR => ⟨q, H, A, L, rfl, hR⟩
 | r :: S, b, q, H, A, L, hS, hR => by
  have hr := hS r (List.mem_cons_self ..)
  obtain ⟨q2, H2, A2, L2, k1, k2⟩ := sur_grow hd h0 hod (first := first) (by_ := by_) hto 3 fu [r] b q H A L (by omega) rfl ⟨fun x hx => by simp at hx; subst hx; exact hr, by simp, by simp⟩ hR
  obtain ⟨q3, H3, A3, L3, k3, k4⟩ := sur_top hto hfu S _ q2 H2 A2 L2 (fun x hx => hS x (List.mem_cons_of_mem _ hx)) k2
  refine ⟨q3, H3, A3, L3, ?_, ?_⟩
  ·rw [List.map_cons, GuideSurest.loop1]
   have k1' : GuideSurest_2_v1 fu [r.1] ⟨d, ls⟩ by_ od q ⟨H, A, L⟩ to = _ := k1
   rw [k1', Option.bind_some]
   exact k3
  ·rw [List.flatMap_cons, List.filter_append, foldB_app]
   exact k4
def RelR (d : ApiDay) (od : List GuideOdds) (ls : Int) (b : Option (List RR)) (f : Bool) (H A : Int) (q : List GuideRide) : Prop := match b with
 | none => f = false ∧ q = []
 | some c => f = true ∧ Jy d c ∧ q = c.map (·.1) ∧ H = HH od ls c ∧ A = AA od c
theorem ref_sur {at_ by_ : Int} {J : List (List RR)} (hJ : ∀ c ∈ J, Jy d c) {fu : Nat} (hfu : 60 ≤ fu) : ∀ (r : List (List RR)) (k : Nat) (b : Option (List RR)) (f : Bool) (H A : Int) (q : List GuideRide), J.drop k = r → RelR d od ls b f H A q →
  ∃ f' H' A' q', Fishref2SurestOf.loop1 d at_ by_ ls od fu (J.map JJ) r.length k f H A q = some (f', H', A', q') ∧ RelR d od ls (foldB od ls (r.filter (okT at_ by_)) b) f' H' A' q'
 | [], k, b, f, H, A, q, _, hR => ⟨f, H, A, q, rfl, hR⟩
 | c :: r, k, b, f, H, A, q, hdr, hR => by
  obtain ⟨d1, d2, d3⟩ := drop_cons hdr
  have hc := hJ c (List.mem_of_getElem? d2)
  obtain ⟨L0, _, ⟨L', n2⟩, n3, n4, n5, n6⟩ := count_of hd h0 hod hc.1 hc.2 hfu
  obtain ⟨x, s, hxs⟩ : ∃ x s, c = x :: s := by
   cases e : c with
   | nil => have := hc.2.1; rw [e] at this; simp at this
   | cons x s => exact ⟨x, s, rfl⟩
  obtain ⟨z, hz⟩ : ∃ z, c.getLast? = some z := ⟨_, List.getLast?_eq_some_getLast (by rw [hxs]; simp)⟩
  have hzA := hc.1 z (List.mem_of_getLast? hz)
  have hlv : Fishref2Leaves d (JJ c) = some (pt_ c).Dep := by rw [hxs]; exact leaves_of (hc.1 x (by rw [hxs]; simp))
  have har : Fishref2Arrives d (JJ c) = some (pt_ c).Arr := by rw [pt_at hz]; exact arrives_of hz hc.2.2 hzA
  have hdp : 0 ≤ (pt_ c).Dep ∧ (pt_ c).Dep ≤ 28800 := by
   have := AD_time hd (hc.1 x (by rw [hxs]; simp))
   rw [hxs]
   show 0 ≤ x.2.1.Dep ∧ x.2.1.Dep ≤ 28800
   omega
  rw [List.length_cons, Fishref2SurestOf.loop1, gx_nat, List.getElem?_map, d2]
  simp only [Option.map_some, Option.bind_some]
  rw [hlv, Option.bind_some, har, Option.bind_some]
  have hskip : (if decide ((pt_ c).Dep < at_) = true then some true else some (decide ((pt_ c).Arr > by_))) = some (!okT at_ by_ c) := by
   unfold okT
   by_cases q1 : (pt_ c).Dep < at_
   ·rw [decide_eq_true q1, if_pos rfl, decide_eq_false (by omega : ¬ (pt_ c).Dep ≥ at_)]; rfl
   ·rw [decide_eq_false q1, if_neg (by decide), decide_eq_true (by omega : (pt_ c).Dep ≥ at_)]
    by_cases q2 : (pt_ c).Arr > by_
    ·rw [decide_eq_true q2, decide_eq_false (by omega : ¬ (pt_ c).Arr ≤ by_)]; rfl
    ·rw [decide_eq_false q2, decide_eq_true (by omega : (pt_ c).Arr ≤ by_)]; rfl
  rw [hskip, Option.bind_some]
  cases hok : okT at_ by_ c with
  | false =>
   rw [show (!false) = true from rfl, if_pos rfl, List.filter_cons, hok, if_neg (by decide)]
   exact ref_sur hJ hfu r (k + 1) b f H A q d3 hR
  | true =>
   rw [show (!true) = false from rfl, if_neg (by decide), n2, Option.bind_some, List.filter_cons, hok, if_pos rfl]
   simp only [bnd_eq]
   cases b with
   | none =>
    obtain ⟨r1, r2⟩ := hR
    subst r1 r2
    simp only [Bool.not_false, if_true, Bool.false_eq_true, if_false, Option.bind_some]
    exact ref_sur hJ hfu r (k + 1) (some c) _ _ _ _ d3 ⟨rfl, hc, rfl, rfl, rfl⟩
   | some b =>
    obtain ⟨r1, r2, r3, r4, r5⟩ := hR
    subst r1 r3 r4 r5
    obtain ⟨_, _, _, b1, b2, b3, b4⟩ := count_of hd h0 hod r2.1 r2.2 (fu := 60) (Nat.le_refl _)
    obtain ⟨y, u, hyu⟩ : ∃ y u, b = y :: u := by
     cases e : b with
     | nil => have := r2.2.1; rw [e] at this; simp at this
     | cons y u => exact ⟨y, u, rfl⟩
    obtain ⟨w, hw⟩ : ∃ w, b.getLast? = some w := ⟨_, List.getLast?_eq_some_getLast (by rw [hyu]; simp)⟩
    have hblv : Fishref2Leaves d (GuideJourney.mk (b.map (·.1))) = some (pt_ b).Dep := by rw [hyu]; exact leaves_of (r2.1 y (by rw [hyu]; simp))
    have hbar : Fishref2Arrives d (GuideJourney.mk (b.map (·.1))) = some (pt_ b).Arr := by rw [pt_at hw]; exact arrives_of hw r2.2.2 (r2.1 w (List.mem_of_getLast? hw))
    have hbp : 0 ≤ (pt_ b).Dep ∧ (pt_ b).Dep ≤ 28800 := by
     have := AD_time hd (r2.1 y (by rw [hyu]; simp))
     rw [hyu]
     show 0 ≤ y.2.1.Dep ∧ y.2.1.Dep ≤ 28800
     omega
    have p1 := prodB (x := HH od ls c) (y := AA od b) (by omega) (by omega)
    have p2 := prodB (x := HH od ls b) (y := AA od c) (by omega) (by omega)
    rw [w64_id (x := HH od ls c * AA od b) (by omega), w64_id (x := HH od ls b * AA od c) (by omega)]
    have hbt : ((if (HH od ls c * AA od b == HH od ls b * AA od c) = true then (some (pt_ c).Arr).bind fun q134 => (some (pt_ c).Dep).bind fun q136 => (Fishref2Arrives d ⟨b.map (·.1)⟩).bind fun q145 => (Fishref2Leaves d ⟨b.map (·.1)⟩).bind fun q147 => (SlicesCompareLint [q134, ((c.map (·.1)).length : Int), w64 (0 - q136)] [q145, ((b.map (·.1)).length : Int), w64 (0 - q147)]).bind fun q155 => some (decide (q155 < 0)) else some (decide (HH od ls c * AA od b > HH od ls b * AA od c))) : Option Bool) = some (bt od ls c b) := by
     rw [hbar, hblv]
     simp only [Option.bind_some]
     rw [w64_id (by omega), w64_id (by omega)]
     have e1 : (((c.map (·.1)).length : Nat) : Int) = (pt_ c).Rides := by simp [pt_]
     have e2 : (((b.map (·.1)).length : Nat) : Int) = (pt_ b).Rides := by simp [pt_]
     rw [e1, e2]
     obtain ⟨v, v1, v2⟩ := cmp_three (pt_ c).Arr (pt_ c).Rides (0 - (pt_ c).Dep) (pt_ b).Arr (pt_ b).Rides (0 - (pt_ b).Dep)
     rw [v1]
     unfold bt
     by_cases q1 : HH od ls c * AA od b = HH od ls b * AA od c
     ·have : ((HH od ls c * AA od b) == (HH od ls b * AA od c)) = true := by simpa using q1
      rw [this, if_pos rfl, Option.bind_some]
      congr 1
      rw [decide_eq_decide, v2]
      omega
     ·have : ((HH od ls c * AA od b) == (HH od ls b * AA od c)) = false := by simpa using q1
      rw [this, if_neg (by decide)]
      congr 1
      rw [decide_eq_decide]
      omega
    simp only [Bool.not_true, Bool.false_eq_true, if_false, if_true]
    rw [hbt, Option.bind_some]
    cases hb : bt od ls c b with
    | true =>
     have := ref_sur (at_ := at_) (by_ := by_) hJ hfu r (k + 1) (some c) _ _ _ _ d3 ⟨rfl, hc, rfl, rfl, rfl⟩
     rw [foldB, hb, if_pos rfl]
     exact this
    | false =>
     have := ref_sur (at_ := at_) (by_ := by_) hJ hfu r (k + 1) (some b) _ _ _ _ d3 ⟨rfl, r2, rfl, rfl, rfl⟩
     rw [foldB, hb, if_neg (by decide)]
     exact this
end
theorem flat_filter {f : RR → List (List RR)} {first g gate : RR → Bool} {okA okB : List RR → Bool} : ∀ (l : List RR), (∀ r ∈ l, g r = (first r && gate r)) → (∀ r ∈ l, ∀ x ∈ f r, okA x = (gate r && okB x)) → ((l.filter first).flatMap f).filter okA = ((l.filter g).flatMap f).filter okB
 | [], _, _ => rfl
 | r :: l, h1, h2 => by
  have ih := flat_filter (f := f) l (fun x hx => h1 x (List.mem_cons_of_mem _ hx)) (fun x hx => h2 x (List.mem_cons_of_mem _ hx))
  have g1 := h1 r (List.mem_cons_self ..)
  have g2 := h2 r (List.mem_cons_self ..)
  rw [List.filter_cons, List.filter_cons, g1]
  cases c1 : first r with
  | false => rw [if_neg (by decide), Bool.false_and, if_neg (by decide)]; exact ih
  | true =>
   rw [if_pos rfl, Bool.true_and, List.flatMap_cons, List.filter_append, ih]
   cases c2 : gate r with
   | false =>
    rw [if_neg (by decide)]
    have : (f r).filter okA = [] := by
     rw [List.filter_eq_nil_iff]
     intro x hx
     rw [g2 x hx, c2]
     simp
    rw [this, List.nil_append]
   | true =>
    rw [if_pos rfl, List.flatMap_cons, List.filter_append]
    congr 1
    exact List.filter_congr fun x hx => by rw [g2 x hx, c2, Bool.true_and]
theorem surest_same {d : ApiDay} (hd : DayOk d) {ls : Int} (h0 : 0 ≤ ls ∧ ls ≤ 28800) {od : List GuideOdds} (hod : ∀ o ∈ od, OddOk d.Trains.length o) {st to at_ by_ : Int} (hto : 0 ≤ to) {fu : Nat} (hfu : 70 ≤ fu) :
  ∃ A, ((GuideSurest.loop1 d to by_ ls od fu (GuideNetrides ⟨d, ls⟩ st at_ (-1)) [] 0 0 0).bind fun q80 => match q80 with | (q92, _, _, _) => (if q92.isEmpty then some ((GuideJourney.mk []), (9 : Int)) else some ((GuideJourney.mk q92), 0))) = some A ∧ Fishref2SurestOf fu d st at_ to by_ ls od = some A := by
 have hJ : ∀ c ∈ dfs (AD d) ls (fun q => q.2.1.Station == st) (finR to) 4 [], Jy d c := fun c h => by
  obtain ⟨l1, l2, l3, _⟩ := dfs_ok h
  exact ⟨l3, List.length_pos_iff.2 l2, l1⟩
 have hD : dfs (AD d) ls (fun q => q.2.1.Station == st) (finR to) 4 [] = ((AD d).filter (fun q => q.2.1.Station == st)).flatMap fun r => dfs (AD d) ls (fun q => q.2.1.Station == st) (finR to) 3 [r] := by
  rw [dfs]
  simp only [List.getLast?_nil, Option.any_none, Bool.false_eq_true, if_false, List.nil_append]
  rfl
 have hsame : (dfs (AD d) ls (fun q => q.2.1.Station == st) (finR to) 4 []).filter (okT at_ by_) = (((AD d).filter (fits st at_ (-1))).flatMap fun r => dfs (AD d) ls (fun q => q.2.1.Station == st) (finR to) 3 [r]).filter (fun l => decide ((pt_ l).Arr ≤ by_)) := by
  rw [hD]
  refine flat_filter (gate := fun r => decide (r.2.1.Dep ≥ at_)) (AD d) (fun r hr => ?_) (fun r hr x hx => ?_)
  ·have ht := AD_time hd hr
   unfold fits
   have e1 : (r.1.Train == (-1)) = false := by
    have : ¬ r.1.Train = -1 := by omega
    simpa using this
   rw [e1]
   by_cases c : r.2.1.Station = st
   ·by_cases c2 : r.2.1.Dep < at_
    ·have : ¬ r.2.1.Dep ≥ at_ := by omega
     simp [c, c2, this]
    ·have : r.2.1.Dep ≥ at_ := by omega
     simp [c, c2, this]
   ·simp [c]
  ·obtain ⟨s, h1, _⟩ := (mem_dfs 3 [r] x).1 hx
   unfold okT
   have : (pt_ x).Dep = r.2.1.Dep := by rw [h1]; rfl
   rw [this]
 obtain ⟨q, H, A, L, k1, k2⟩ := sur_top hd h0 hod (first := fun q => q.2.1.Station == st) (by_ := by_) hto hfu ((AD d).filter (fits st at_ (-1))) none [] 0 0 0 (fun r hr => (List.mem_filter.1 hr).1) rfl
 obtain ⟨f', H', A', q', j1, j2⟩ := ref_sur hd h0 hod (at_ := at_) (by_ := by_) hJ (fu := fu) (by omega) _ 0 none false 0 0 [] List.drop_zero ⟨rfl, rfl⟩
 rw [← hsame] at k2
 rw [mem_rides, k1, Option.bind_some, Fishref2SurestOf, allof hd h0 st to (by omega), Option.bind_some, List.length_map, j1, Option.bind_some]
 cases hf : foldB od ls ((dfs (AD d) ls (fun q => q.2.1.Station == st) (finR to) 4 []).filter (okT at_ by_)) none with
 | none =>
  rw [hf] at k2 j2
  have k2 : q = [] := k2
  obtain ⟨m1, m2⟩ := j2
  subst k2 m1 m2
  exact ⟨_, rfl, rfl⟩
 | some c =>
  rw [hf] at k2 j2
  obtain ⟨r1, r2, _, _⟩ := k2
  obtain ⟨m1, _, m2, _, _⟩ := j2
  subst r2 m1 m2
  have : (c.map (·.1)).isEmpty = false := by
   cases c with
   | nil => have := r1.2.1; simp at this
   | cons => rfl
  dsimp only
  rw [this]
  exact ⟨_, rfl, rfl⟩
theorem rides_self (l : List GuideRide) : SlicesEqualLguideRide l l = some true := by
 have key : ∀ (r : List GuideRide) (k : Nat), l.drop k = r → SlicesEqualLguideRide.loop1 l r k = some (.next ()) := by
  intro r
  induction r with
  | nil => intro k _; rfl
  | cons v r ih =>
   intro k hd
   obtain ⟨d1, d2, d3⟩ := drop_cons hd
   rw [SlicesEqualLguideRide.loop1, gx_nat, d2, Option.bind_some]
   simpa using ih (k + 1) d3
 rw [SlicesEqualLguideRide, bne_self_eq_false, key l 0 List.drop_zero]
 rfl
theorem checks2 {d : ApiDay} (h : GuideCheck d = some 0) (ls a b t u : Int) : Guidecheck d ls a b [t, u] = some (if (Fishref2SearchFault ls a b t true true == 0) = true then Fishref2SearchFault ls a b u true true else Fishref2SearchFault ls a b t true true) := by
 unfold Guidecheck GuidecheckLeast Fishref2SearchFault
 rw [h, Option.bind_some, if_neg (by decide)]
 simp only [show ∀ a b c, Fishref2within a b c = Guidewithin a b c from fun _ _ _ => rfl, bnd_eq, Guidecheck.loop1]
 cases Guidewithin ls 0 28800 <;> cases Guidewithin a 0 11 <;> cases Guidewithin b 0 11 <;> cases (a == b) <;> cases Guidewithin t 0 28800 <;> cases Guidewithin u 0 28800 <;> rfl
theorem GuideSurest_law (x0 : ApiDay) (x1 : Int) (x2 : Int) (x3 : Int) (x4 : Int) (x5 : Int) (x6 : List GuideOdds) (_ : x0.Trains.length ≤ 9223372036854775807) (_ : x0.Turns.length ≤ 9223372036854775807) (_ : -9223372036854775808 ≤ x1 ∧ x1 ≤ 9223372036854775807) (_ : -9223372036854775808 ≤ x2 ∧ x2 ≤ 9223372036854775807) (_ : -9223372036854775808 ≤ x3 ∧ x3 ≤ 9223372036854775807) (_ : -9223372036854775808 ≤ x4 ∧ x4 ≤ 9223372036854775807) (_ : -9223372036854775808 ≤ x5 ∧ x5 ≤ 9223372036854775807) (_ : x6.length ≤ 9223372036854775807) (i0 : InApiDay x0) (_ : (inL InGuideOdds) x6) :
  ∃ fu, Fishlaw2GuideSurest fu x0 x1 x2 x3 x4 x5 x6 = some true := by
 obtain ⟨e, h1, h2, h3⟩ := check_ok i0
 have hg : Fishlaw2guides 100 = some true := guides_true 40
 refine ⟨100, ?_⟩
 have bad : ∀ z : Int, z ≠ 0 → GuideSurest 100 x0 x1 x2 x3 x4 x5 x6 = some (⟨[]⟩, z) →
   (∃ f, (if ((if (e == 0) = true then Fishref2SearchFault x5 x1 x3 x2 true true else e) == 0) = true then Fishref2SearchFault x5 x1 x3 x4 true true else (if (e == 0) = true then Fishref2SearchFault x5 x1 x3 x2 true true else e)) = f ∧ (if (f == 0) = true then ((Fishref2OddsFault x0 x6).bind fun q85 => some q85) else some f) = some z) → Fishlaw2GuideSurest 100 x0 x1 x2 x3 x4 x5 x6 = some true := by
  rintro z hz hs ⟨f, hf1, hf2⟩
  have zn : (z != 0) = true := by simpa using hz
  rw [Fishlaw2GuideSurest, hs, Option.bind_some, h1, Option.bind_some, bnd_eq, bnd_eq, hf1, hf2, Option.bind_some, if_pos zn, hg]
  simp
 by_cases c : e = 0
 ·subst c
  have hc := checks2 h2 x5 x1 x3 x2 x4
  generalize hz : (if (Fishref2SearchFault x5 x1 x3 x2 true true == 0) = true then Fishref2SearchFault x5 x1 x3 x4 true true else Fishref2SearchFault x5 x1 x3 x2 true true) = z at hc
  by_cases zc : z = 0
  ·subst zc
   have hz1 : Fishref2SearchFault x5 x1 x3 x2 true true = 0 := by
    by_cases k : Fishref2SearchFault x5 x1 x3 x2 true true = 0
    ·exact k
    ·have : (Fishref2SearchFault x5 x1 x3 x2 true true == 0) = false := by simpa using k
     rw [this, if_neg (by decide)] at hz
     exact hz
   have hw : (0 ≤ x5 ∧ x5 ≤ 28800) ∧ 0 ≤ x3 := by
    unfold Fishref2SearchFault at hz1
    simp only [show ∀ a b c, Fishref2within a b c = Guidewithin a b c from fun _ _ _ => rfl, bnd_eq] at hz1
    cases w4 : Guidewithin x5 0 28800 with
    | false => rw [w4] at hz1; simp at hz1
    | true =>
     refine ⟨(within_iff _ _ _).1 w4, ?_⟩
     cases w3 : Guidewithin x3 0 11 with
     | false =>
      rw [w4, w3] at hz1
      cases w1 : Guidewithin x1 0 11 <;> (rw [w1] at hz1; simp at hz1)
     | true => exact ((within_iff _ _ _).1 w3).1
   obtain ⟨hx5, hx3⟩ := hw
   have hd := h3 rfl
   obtain ⟨g, o1, o2, o3⟩ := odds_ok x0 hd.form.1 x6
   have hf : (if ((if ((0 : Int) == 0) = true then Fishref2SearchFault x5 x1 x3 x2 true true else 0) == 0) = true then Fishref2SearchFault x5 x1 x3 x4 true true else (if ((0 : Int) == 0) = true then Fishref2SearchFault x5 x1 x3 x2 true true else 0)) = 0 := by
    rw [show ((0 : Int) == 0) = true from rfl, if_pos rfl]
    exact hz
   by_cases gc : g = 0
   ·subst gc
    obtain ⟨A, k1, k2⟩ := surest_same hd hx5 (o3 rfl) (st := x1) (to := x3) (at_ := x2) (by_ := x4) hx3 (fu := 100) (by omega)
    have hs : GuideSurest 100 x0 x1 x2 x3 x4 x5 x6 = some A := by
     rw [GuideSurest, hc, Option.bind_some, if_neg (by decide), o2, Option.bind_some, if_neg (by decide), bnd_eq]
     exact k1
    rw [Fishlaw2GuideSurest, hs, Option.bind_some, h1, Option.bind_some, bnd_eq, bnd_eq, hf, show ((0 : Int) == 0) = true from rfl, if_pos rfl, o1, Option.bind_some, Option.bind_some, if_neg (by decide), k2, Option.bind_some, hg]
    simp [Fishlaw2sameJourney, rides_self]
   ·refine bad g gc ?_ ⟨0, hf, ?_⟩
    ·have gn : (g != 0) = true := by simpa using gc
     rw [GuideSurest, hc, Option.bind_some, if_neg (by decide), o2, Option.bind_some, if_pos gn]
    ·rw [show ((0 : Int) == 0) = true from rfl, if_pos rfl, o1]; rfl
  ·have zn : (z != 0) = true := by simpa using zc
   have zn2 : (z == 0) = false := by simpa using zc
   refine bad z zc ?_ ⟨z, ?_, ?_⟩
   ·rw [GuideSurest, hc, Option.bind_some, if_pos zn]
   ·rw [show ((0 : Int) == 0) = true from rfl, if_pos rfl]; exact hz
   ·rw [zn2, if_neg (by decide)]
 ·have c2 : (e != 0) = true := by simpa using c
  have c3 : (e == 0) = false := by simpa using c
  refine bad e c ?_ ⟨e, ?_, ?_⟩
  ·rw [GuideSurest]
   unfold Guidecheck GuidecheckLeast
   rw [h2, Option.bind_some, if_pos c2, Option.bind_some, if_pos c2, Option.bind_some, if_pos c2]
  ·simp only [c3, Bool.false_eq_true, if_false]
  ·rw [c3, if_neg (by decide)]
end Go.Fp
