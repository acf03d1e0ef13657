/- GuideProfiles: the mirror of the law is true of all days, stations and times. -/
import Derived.Test.YtpcebngchmgckaaDoorGuideProfilesM
import Derived.Test.YtpcebngchmgckaaDoorFpPlain
import Derived.Lib.ItoaLen
import Derived.KernelRfl
namespace Go.Fp
def tx (n : Int) : ByteArray := ⟨(Lib.itoa n).toArray⟩
theorem itoa_tx {n : Int} (h : -9223372036854775808 ≤ n ∧ n ≤ 9223372036854775807) : itoa n = some (tx n) := by unfold itoa; rw [if_pos h]; rfl
theorem tx_size {n : Int} (h : -9223372036854775808 ≤ n ∧ n ≤ 9223372036854775807) : (tx n).size ≤ 21 := by
 have := Lib.itoa_length_le n h.1 h.2
 unfold tx
 show ((Lib.itoa n).toArray).size ≤ 21
 simpa using this
theorem scat_in {a b : ByteArray} (h : a.size + b.size ≤ 9223372036854775807) : scat a b = some (a ++ b) := by unfold scat; rw [if_pos h]
theorem sbw_in {y x : ByteArray} (h0 : 0 < x.size) (h : y.size + x.size < 4294967296) : sbw y x = some (y ++ x) := by unfold sbw; rw [if_pos ⟨h0, h⟩]
theorem mget_put (m : List (Int × Bool)) (k j : Int) (v : Bool) : mget (mput m k v) j = if j = k then some v else mget m j := by
 induction m with
 | nil => simp [mput, mget]
 | cons p r ih =>
  obtain ⟨a, b⟩ := p
  simp only [mput]
  by_cases h : k = a
  ·subst h
   simp only [beq_self_eq_true, if_true, mget]
   by_cases h2 : j = k <;> simp [h2]
  ·have hb : (k == a) = false := by simpa using h
   simp only [hb, Bool.false_eq_true, if_false, mget]
   by_cases h2 : j = a
   ·subst h2; have : ¬ j = k := fun e => h e.symm; simp [this]
   ·have hb2 : (j == a) = false := by simpa using h2
    simp [hb2, ih]
def wi (x : Int) : Bool := Planwithin x 0 999999
theorem form2 : ∀ l, Fishref2TextFault.loop2 l = Planform.loop2 l
 | [] => rfl
 | x :: r => by simp only [Fishref2TextFault.loop2, Planform.loop2, form2 r]
theorem form3 : ∀ l, Fishref2TextFault.loop3 l = Planform.loop3 l
 | [] => rfl
 | x :: r => by simp only [Fishref2TextFault.loop3, Planform.loop3, form3 r]
theorem form4 : ∀ l, Fishref2TextFault.loop4 l = Planform.loop4 l
 | [] => rfl
 | x :: r => by simp only [Fishref2TextFault.loop4, Planform.loop4, form4 r]
theorem form1 : ∀ l, Fishref2TextFault.loop1 l = Planform.loop1 l
 | [] => rfl
 | x :: r => by simp only [Fishref2TextFault.loop1, Planform.loop1, form1 r, form2, form3]
def trainForm (t : ApiTrain) : Prop := 1 ≤ t.Stops.length ∧ t.Stops.length ≤ 8 ∧ t.Legs.length + 1 = t.Stops.length ∧ ∀ g ∈ t.Legs, g.length ≤ 4
def dayForm (d : ApiDay) : Prop := d.Trains.length ≤ 12 ∧ d.Turns.length ≤ 8 ∧ (∀ t ∈ d.Trains, trainForm t) ∧ ∀ g ∈ d.Turns, g.length ≤ 12
theorem form3_out : ∀ l, (Planform.loop3 l = .ret 4) ∨ (Planform.loop3 l = .next () ∧ ∀ g ∈ l, g.length ≤ 4)
 | [] => .inr ⟨rfl, by simp⟩
 | x :: r => by
  rw [Planform.loop3]
  by_cases c : ((x.length : Nat) : Int) > 4
  ·rw [if_pos (by simpa using c)]; exact .inl rfl
  ·rw [if_neg (by simpa using c)]
   rcases form3_out r with h | ⟨h, k⟩
   ·exact .inl h
   ·refine .inr ⟨h, ?_⟩
    intro g hg
    rcases List.mem_cons.1 hg with rfl | hg
    ·omega
    ·exact k g hg
theorem form2_out : ∀ l, (Planform.loop2 l = .ret 1) ∨ (Planform.loop2 l = .next ())
 | [] => .inr rfl
 | x :: r => by
  rw [Planform.loop2]
  split
  ·exact .inl rfl
  ·exact form2_out r
theorem form4_out : ∀ l, (∃ e, e ≠ 0 ∧ Planform.loop4 l = .ret e) ∨ (Planform.loop4 l = .next () ∧ ∀ g ∈ l, g.length ≤ 12)
 | [] => .inr ⟨rfl, by simp⟩
 | x :: r => by
  rw [Planform.loop4]
  split
  ·exact .inl ⟨1, by decide, rfl⟩
  ·by_cases c : ((x.length : Nat) : Int) > 12
   ·rw [if_pos (by simpa using c)]; exact .inl ⟨4, by decide, rfl⟩
   ·rw [if_neg (by simpa using c)]
    rcases form4_out r with h | ⟨h, k⟩
    ·exact .inl h
    ·refine .inr ⟨h, ?_⟩
     intro g hg
     rcases List.mem_cons.1 hg with rfl | hg
     ·omega
     ·exact k g hg
theorem form1_out : ∀ l, (∃ e, e ≠ 0 ∧ Planform.loop1 l = .ret e) ∨ (Planform.loop1 l = .next () ∧ ∀ t ∈ l, trainForm t)
 | [] => .inr ⟨rfl, by simp⟩
 | x :: r => by
  rw [Planform.loop1, bnd_eq]
  generalize hq : (if (((x.Stops).length : Int) == 0) = true then true else (((x.Legs).length : Int) != (w64 (((x.Stops).length : Int) - 1)))) = q
  cases q with
  | true => exact .inl ⟨1, by decide, rfl⟩
  | false =>
   rw [if_neg (by decide), bnd_eq]
   rcases form2_out x.Legs with h | h
   ·rw [h]; exact .inl ⟨1, by decide, rfl⟩
   ·rw [h]
    dsimp only
    by_cases c : ((x.Stops.length : Nat) : Int) > 8
    ·rw [if_pos (by simpa using c)]; exact .inl ⟨4, by decide, rfl⟩
    ·rw [if_neg (by simpa using c), bnd_eq]
     rcases form3_out x.Legs with h3 | ⟨h3, k3⟩
     ·rw [h3]; exact .inl ⟨4, by decide, rfl⟩
     ·rw [h3]
      dsimp only
      rcases form1_out r with h1 | ⟨h1, k1⟩
      ·exact .inl h1
      ·refine .inr ⟨h1, ?_⟩
       intro t ht
       rcases List.mem_cons.1 ht with rfl | ht
       ·split at hq
        ·cases hq
        ·rename_i hz
         rw [w64_id (by omega)] at hq
         have hq2 : ((t.Legs.length : Nat) : Int) = ((t.Stops.length : Nat) : Int) - 1 := by simpa using hq
         have hz2 : ¬ t.Stops.length = 0 := by simpa using hz
         exact ⟨by omega, by omega, by omega, k3⟩
       ·exact k1 t ht
theorem form_out (d : ApiDay) : Planform d ≠ 0 ∨ (Planform d = 0 ∧ dayForm d) := by
 rw [Planform, bnd_eq]
 by_cases c : ((d.Trains.length : Nat) : Int) > 12 ∨ ((d.Turns.length : Nat) : Int) > 8
 ·left
  rw [if_pos (by rcases c with c | c <;> simp [c])]; decide
 ·have c1 : ¬ ((d.Trains.length : Nat) : Int) > 12 := fun h => c (.inl h)
  have c2 : ¬ ((d.Turns.length : Nat) : Int) > 8 := fun h => c (.inr h)
  rw [if_neg (by simp [c1, c2]), bnd_eq]
  rcases form1_out d.Trains with ⟨e, he, h⟩ | ⟨h, k⟩
  ·rw [h]; exact .inl he
  ·rw [h]
   dsimp only
   rw [bnd_eq]
   rcases form4_out d.Turns with ⟨e, he, h4⟩ | ⟨h4, k4⟩
   ·rw [h4]; exact .inl he
   ·rw [h4]; exact .inr ⟨rfl, by omega, by omega, k, k4⟩
def numS (x : ApiStop) : List Int := [x.Station, x.Track, x.Arr, x.Dep]
def numT (t : ApiTrain) : List (List Int) := [t.No, t.Stock] :: (t.Stops.map numS ++ t.Legs)
theorem num2 : ∀ (l : List ApiStop) (q : List (List Int)), q.length + l.length < 4294967296 → Fishref2numbersIn.loop2 l q = some (q ++ l.map numS)
 | [], q, _ => by simp [Fishref2numbersIn.loop2]
 | x :: r, q, h => by
  simp only [List.length_cons] at h
  rw [Fishref2numbersIn.loop2, apd_lt (by simp; omega), Option.bind_some, num2 r _ (by simp; omega)]
  simp [numS]
theorem num1 : ∀ (l : List ApiTrain) (q : List (List Int)), (∀ t ∈ l, trainForm t) → q.length + 17 * l.length < 4294967296 → Fishref2numbersIn.loop1 l q = some (q ++ l.flatMap numT)
 | [], q, _, _ => by simp [Fishref2numbersIn.loop1]
 | t :: r, q, ht, h => by
  simp only [List.length_cons] at h
  obtain ⟨t1, t2, t3, t4⟩ := ht t (List.mem_cons_self ..)
  rw [Fishref2numbersIn.loop1, apd_lt (by simp; omega), Option.bind_some, num2 _ _ (by simp; omega), Option.bind_some, apd_lt (by simp; omega), Option.bind_some,
   num1 r _ (fun t h => ht t (List.mem_cons_of_mem _ h)) (by simp; omega)]
  simp [numT]
theorem numT_len {t : ApiTrain} (h : trainForm t) : (numT t).length ≤ 16 := by
 obtain ⟨t1, t2, t3, t4⟩ := h
 simp [numT]; omega
theorem num_all {d : ApiDay} (h : dayForm d) : Fishref2numbersIn d = some (d.Trains.flatMap numT ++ d.Turns) := by
 obtain ⟨h1, h2, h3, h4⟩ := h
 have hl : ∀ l : List ApiTrain, (∀ t ∈ l, trainForm t) → (l.flatMap numT).length ≤ 16 * l.length := by
  intro l
  induction l with
  | nil => intro _; simp
  | cons t r ih =>
   intro ht
   have := numT_len (ht t (List.mem_cons_self ..))
   have := ih fun t h => ht t (List.mem_cons_of_mem _ h)
   simp only [List.flatMap_cons, List.length_append, List.length_cons]; omega
 have := hl _ h3
 rw [Fishref2numbersIn, num1 _ _ h3 (by simp; omega), Option.bind_some, List.nil_append, apd_lt (by omega)]
 rfl
theorem num6 : ∀ l : List Int, Fishref2TextFault.loop6 l = if l.all wi then .next () else .ret 2
 | [] => rfl
 | x :: r => by
  rw [Fishref2TextFault.loop6, num6 r]
  show (if (!wi x) = true then _ else _) = _
  cases h : wi x <;> simp [h]
theorem num5 (L : List (List Int)) : ∀ (r : List (List Int)) (k : Nat), L.drop k = r → Fishref2TextFault.loop5 L r.length k = some (if r.all (·.all wi) then .next () else .ret 2)
 | [], k, _ => rfl
 | x :: r, k, hd => by
  obtain ⟨d1, d2, d3⟩ := drop_cons hd
  rw [List.length_cons, Fishref2TextFault.loop5, gx_nat, d2, Option.bind_some, bnd_eq, num6]
  cases h : x.all wi with
  | true => simp [h, num5 L r (k + 1) d3]
  | false => simp [h]
theorem flag1 : ∀ (l : List Int) (b : Bool), PlanText_1_v1.loop1 l b = (b && l.all wi)
 | [], b => by simp [PlanText_1_v1.loop1]
 | x :: r, b => by
  rw [PlanText_1_v1.loop1, bnd_eq, flag1 r]
  show ((if b = true then wi x else false) && r.all wi) = _
  cases b <;> simp
theorem sent1 : ∀ (l : List Int) (q : ByteArray), inL inI l → q.size + 22 * l.length < 4294967296 → ∃ z, Plansentence.loop1 l q = some z ∧ z.size ≤ q.size + 22 * l.length
 | [], q, _, _ => ⟨q, rfl, by simp⟩
 | x :: r, q, hi, h => by
  simp only [List.length_cons] at h
  have hx := hi x (List.mem_cons_self ..)
  have hs := tx_size hx
  have s32 : (str [32]).size = 1 := rfl
  have e1 : (str [32] ++ tx x).size = 1 + (tx x).size := by rw [ByteArray.size_append, s32]
  have e4 : (q ++ (str [32] ++ tx x)).size = q.size + (1 + (tx x).size) := by rw [ByteArray.size_append, e1]
  obtain ⟨z, h1, h2⟩ := sent1 r (q ++ (str [32] ++ tx x)) (fun y h => hi y (List.mem_cons_of_mem _ h)) (by omega)
  refine ⟨z, ?_, by simp only [List.length_cons]; omega⟩
  rw [Plansentence.loop1, itoa_tx hx, Option.bind_some, scat_in (by omega), Option.bind_some, scat_in (by omega), Option.bind_some]
  exact h1
theorem sent {l : List Int} {w : ByteArray} (hi : inL inI l) (h : w.size + 22 * l.length < 4294967295) : ∃ z, Plansentence w l = some z ∧ 0 < z.size ∧ z.size ≤ w.size + 22 * l.length + 1 := by
 obtain ⟨z, h1, h2⟩ := sent1 l w hi (by omega)
 have s10 : (str [10]).size = 1 := rfl
 have e : (z ++ str [10]).size = z.size + 1 := by rw [ByteArray.size_append, s10]
 exact ⟨z ++ str [10], by rw [Plansentence, h1, Option.bind_some, scat_in (by omega)]; rfl, by omega, by omega⟩
theorem wr {l : List Int} {w y : ByteArray} {b : Bool} (hi : inL inI l) (hw : w.size ≤ 5) (h : y.size + (22 * l.length + 6) < 4294967295) :
  ∃ z, PlanText_1_v1 w l b y = some (b && l.all wi, z) ∧ z.size ≤ y.size + (22 * l.length + 6) := by
 obtain ⟨z, h1, h2, h3⟩ := sent (w := w) hi (by omega)
 have e : (y ++ z).size = y.size + z.size := ByteArray.size_append
 exact ⟨y ++ z, by rw [PlanText_1_v1, flag1, bnd_eq, h1, Option.bind_some, sbw_in h2 (by omega)]; rfl, by omega⟩
theorem txt2 : ∀ (l : List ApiStop) (y : ByteArray) (b : Bool), inL InApiStop l → y.size + 94 * l.length < 4294967000 →
  ∃ z, PlanText.loop2 l y b = some (z, b && (l.map numS).all (·.all wi)) ∧ z.size ≤ y.size + 94 * l.length
 | [], y, b, _, _ => ⟨y, by simp [PlanText.loop2], by simp⟩
 | x :: r, y, b, hi, h => by
  simp only [List.length_cons] at h
  have hx := hi x (List.mem_cons_self ..)
  obtain ⟨z, h1, h2⟩ := wr (l := numS x) (w := str [115, 116, 111, 112]) (y := y) (b := b) (by
   intro v hv
   simp only [numS, List.mem_cons, List.not_mem_nil, or_false] at hv
   rcases hv with rfl | rfl | rfl | rfl
   ·exact hx.1
   ·exact hx.2.1
   ·exact hx.2.2.1
   ·exact hx.2.2.2) (by decide) (by simp [numS]; omega)
  simp only [numS, List.length_cons, List.length_nil] at h2
  obtain ⟨z2, h3, h4⟩ := txt2 r z (b && (numS x).all wi) (fun y h => hi y (List.mem_cons_of_mem _ h)) (by omega)
  refine ⟨z2, ?_, by simp only [List.length_cons]; omega⟩
  rw [PlanText.loop2]
  rw [show [x.Station, x.Track, x.Arr, x.Dep] = numS x from rfl, h1, Option.bind_some]
  dsimp only
  rw [h3, List.map_cons, List.all_cons, Bool.and_assoc]
theorem txt3 (w : ByteArray) (hw : w.size ≤ 5) (F : List (List Int) → ByteArray → Bool → Option (ByteArray × Bool)) (hn : ∀ y b, F [] y b = some (y, b))
  (hc : ∀ x r y b, F (x :: r) y b = (PlanText_1_v1 w x b y).bind fun q => F r q.2 q.1) (m : Nat) (hm : m ≤ 100) : ∀ (l : List (List Int)) (y : ByteArray) (b : Bool), inL (inL inI) l → (∀ g ∈ l, g.length ≤ m) → y.size + (22 * m + 6) * l.length < 4294960000 →
  ∃ z, F l y b = some (z, b && l.all (·.all wi)) ∧ z.size ≤ y.size + (22 * m + 6) * l.length
 | [], y, b, _, _, _ => ⟨y, by simp [hn], by simp⟩
 | x :: r, y, b, hi, hl, h => by
  simp only [List.length_cons, Nat.mul_add, Nat.mul_one] at h
  have hx := hi x (List.mem_cons_self ..)
  have hxl := hl x (List.mem_cons_self ..)
  obtain ⟨z, h1, h2⟩ := wr (l := x) (w := w) (y := y) (b := b) hx hw (by omega)
  obtain ⟨z2, h3, h4⟩ := txt3 w hw F hn hc m hm r z (b && x.all wi) (fun y h => hi y (List.mem_cons_of_mem _ h)) (fun g h => hl g (List.mem_cons_of_mem _ h)) (by omega)
  refine ⟨z2, ?_, by simp only [List.length_cons, Nat.mul_add, Nat.mul_one]; omega⟩
  rw [hc, h1, Option.bind_some]
  dsimp only
  rw [h3, List.all_cons, Bool.and_assoc]
theorem txt1 : ∀ (l : List ApiTrain) (y : ByteArray) (b : Bool), inL InApiTrain l → (∀ t ∈ l, trainForm t) → y.size + 1700 * l.length < 4294900000 →
  ∃ z, PlanText.loop1 l y b = some (z, b && (l.flatMap numT).all (·.all wi)) ∧ z.size ≤ y.size + 1700 * l.length
 | [], y, b, _, _, _ => ⟨y, by simp [PlanText.loop1], by simp⟩
 | t :: r, y, b, hi, hf, h => by
  simp only [List.length_cons] at h
  obtain ⟨i1, i2, i3, i4⟩ := hi t (List.mem_cons_self ..)
  obtain ⟨t1, t2, t3, t4⟩ := hf t (List.mem_cons_self ..)
  obtain ⟨z, h1, h2⟩ := wr (l := [t.No, t.Stock]) (w := str [116, 114, 97, 105, 110]) (y := y) (b := b) (by
   intro v hv
   simp only [List.mem_cons, List.not_mem_nil, or_false] at hv
   rcases hv with rfl | rfl
   ·exact i1
   ·exact i2) (by decide) (by simp; omega)
  simp only [List.length_cons, List.length_nil] at h2
  obtain ⟨z2, h3, h4⟩ := txt2 t.Stops z (b && [t.No, t.Stock].all wi) i3 (by omega)
  obtain ⟨z3, h5, h6⟩ := txt3 (str [108, 101, 103]) (by decide) PlanText.loop3 (fun _ _ => rfl) (fun _ _ _ _ => rfl) 4 (by omega) t.Legs z2 ((b && [t.No, t.Stock].all wi) && (t.Stops.map numS).all (·.all wi)) i4 t4 (by omega)
  obtain ⟨z4, h7, h8⟩ := txt1 r z3 (((b && [t.No, t.Stock].all wi) && (t.Stops.map numS).all (·.all wi)) && t.Legs.all (·.all wi)) (fun y h => hi y (List.mem_cons_of_mem _ h)) (fun y h => hf y (List.mem_cons_of_mem _ h)) (by omega)
  refine ⟨z4, ?_, by simp only [List.length_cons]; omega⟩
  rw [PlanText.loop1, h1, Option.bind_some]
  dsimp only
  rw [h3, Option.bind_some]
  dsimp only
  rw [h5, Option.bind_some]
  dsimp only
  rw [h7]
  simp only [List.flatMap_cons, numT, List.cons_append, List.all_cons, List.all_append, Bool.and_assoc, List.all_nil]
theorem text_ok {d : ApiDay} (hi : InApiDay d) : ∃ e b, Fishref2TextFault d = some e ∧ PlanText d = some (b, e) ∧ (e = 0 → dayForm d) := by
 rcases form_out d with h | ⟨h, k⟩
 ·refine ⟨Planform d, str [], ?_, ?_, fun e => absurd e h⟩
  ·revert h
   rw [Fishref2TextFault, Planform]
   simp only [form1, form4, bnd_eq]
   cases (if decide (((d.Trains).length : Int) > 12) = true then true else decide (((d.Turns).length : Int) > 8)) with
   | true => intro _; rfl
   | false =>
    simp only [Bool.false_eq_true, if_false]
    cases Planform.loop1 d.Trains with
    | ret r => intro _; rfl
    | next u =>
     dsimp only
     cases Planform.loop4 d.Turns with
     | ret r => intro _; rfl
     | next u => intro h; exact absurd rfl h
  ·rw [PlanText, if_pos (by simpa using h)]
 ·obtain ⟨k1, k2, k3, k4⟩ := k
  have hnum := num_all ⟨k1, k2, k3, k4⟩
  obtain ⟨z, h1, h2⟩ := txt1 d.Trains ByteArray.empty true hi.1 k3 (by simp; omega)
  have h2' : z.size ≤ 1700 * d.Trains.length := by simpa using h2
  obtain ⟨z2, h3, h4⟩ := txt3 (str [116, 117, 114, 110]) (by decide) PlanText.loop4 (fun _ _ => rfl) (fun _ _ _ _ => rfl) 12 (by omega) d.Turns z (true && (d.Trains.flatMap numT).all (·.all wi)) hi.2 k4 (by omega)
  have hT : Fishref2TextFault d = some (if (d.Trains.flatMap numT ++ d.Turns).all (·.all wi) then 0 else 2) := by
   have h' := h
   rw [Planform] at h'
   simp only [bnd_eq] at h'
   rw [Fishref2TextFault]
   simp only [form1, form4, bnd_eq]
   cases hc : (if decide (((d.Trains).length : Int) > 12) = true then true else decide (((d.Turns).length : Int) > 8)) with
   | true => rw [hc] at h'; cases h'
   | false =>
    rw [hc] at h'
    simp only [Bool.false_eq_true, if_false] at h' ⊢
    cases hA : Planform.loop1 d.Trains with
    | ret r =>
     rw [hA] at h'
     rcases form1_out d.Trains with ⟨e, he, hh⟩ | ⟨hh, _⟩
     ·rw [hA] at hh; injection hh with hh; dsimp only at h'; rw [hh] at h'; exact absurd h' he
     ·rw [hA] at hh; cases hh
    | next u =>
     rw [hA] at h'
     dsimp only at h' ⊢
     cases hB : Planform.loop4 d.Turns with
     | ret r =>
      rw [hB] at h'
      rcases form4_out d.Turns with ⟨e, he, hh⟩ | ⟨hh, _⟩
      ·rw [hB] at hh; injection hh with hh; dsimp only at h'; rw [hh] at h'; exact absurd h' he
      ·rw [hB] at hh; cases hh
     | next u =>
      dsimp only
      rw [hnum, Option.bind_some, num5 _ _ 0 (List.drop_zero), Option.bind_some]
      cases (d.Trains.flatMap numT ++ d.Turns).all (·.all wi) <;> rfl
  refine ⟨_, if (d.Trains.flatMap numT ++ d.Turns).all (·.all wi) then z2 else str [], hT, ?_, fun _ => ⟨k1, k2, k3, k4⟩⟩
  rw [PlanText, if_neg (by simp [h]), h1, Option.bind_some]
  dsimp only
  rw [h3, Option.bind_some]
  dsimp only
  rw [List.all_append]
  cases hA : (d.Trains.flatMap numT).all (·.all wi) <;> cases hB : d.Turns.all (·.all wi) <;> simp [hA, hB]
theorem chk2 (t : ApiTrain) : ∀ (l : List ApiStop) (k : Nat), Fishref2GuideFault.loop3 t l k = GuideCheck.loop2 t l k
 | [], _ => rfl
 | x :: r, k => by
  simp only [Fishref2GuideFault.loop3, GuideCheck.loop2, chk2 t r]
  rfl
def stopsOk (l : List ApiStop) : Prop := (∀ x ∈ l, 0 ≤ x.Station ∧ x.Station ≤ 11 ∧ 0 ≤ x.Arr ∧ x.Arr ≤ 28800 ∧ 0 ≤ x.Dep ∧ x.Dep ≤ 28800 ∧ x.Arr ≤ x.Dep) ∧ ∀ k x y, l[k]? = some x → l[k + 1]? = some y → x.Dep < y.Arr
theorem within_iff (x a b : Int) : Guidewithin x a b = true ↔ a ≤ x ∧ x ≤ b := by
 unfold Guidewithin bnd
 by_cases h : x ≥ a <;> simp [h] <;> omega
theorem chk2_out (t : ApiTrain) (hl : t.Stops.length ≤ 9223372036854775807) : ∀ (r : List ApiStop) (k : Nat), t.Stops.drop k = r →
  (∃ e, e ≠ 0 ∧ GuideCheck.loop2 t r k = some (.ret e)) ∨ (GuideCheck.loop2 t r k = some (.next ()) ∧ (∀ x ∈ r, 0 ≤ x.Station ∧ x.Station ≤ 11 ∧ 0 ≤ x.Arr ∧ x.Arr ≤ 28800 ∧ 0 ≤ x.Dep ∧ x.Dep ≤ 28800 ∧ x.Arr ≤ x.Dep) ∧ ∀ j x y, k ≤ j + 1 → t.Stops[j]? = some x → t.Stops[j + 1]? = some y → x.Dep < y.Arr)
 | [], k, hd => .inr ⟨rfl, by simp, fun j x y hj hx hy => by
   have := drop_nil hd
   have := (List.getElem?_eq_some_iff.1 hy).1
   omega⟩
 | x :: r, k, hd => by
  obtain ⟨d1, d2, d3⟩ := drop_cons hd
  rw [GuideCheck.loop2, bnd_eq]
  cases c1 : Guidewithin x.Station 0 11 with
  | false => exact .inl ⟨2, by decide, by simp⟩
  | true =>
   cases c2 : Guidewithin x.Arr 0 28800 with
   | false => exact .inl ⟨2, by decide, by simp⟩
   | true =>
    cases c3 : Guidewithin x.Dep 0 28800 with
    | false => exact .inl ⟨2, by decide, by simp⟩
    | true =>
     have w1 := (within_iff _ _ _).1 c1
     have w2 := (within_iff _ _ _).1 c2
     have w3 := (within_iff _ _ _).1 c3
     simp only [Bool.not_true, Bool.false_eq_true, if_false]
     by_cases c4 : x.Dep < x.Arr
     ·exact .inl ⟨5, by decide, by simp [c4]⟩
     ·simp only [decide_eq_false c4, Bool.false_eq_true, if_false]
      rcases Nat.eq_zero_or_pos k with c5 | c5
      ·subst c5
       simp only [Int.ofNat_eq_natCast, Int.natCast_zero, gt_iff_lt, Int.lt_irrefl, decide_false, Bool.false_eq_true, if_false, Option.bind_some]
       rcases chk2_out t hl r 1 d3 with h | ⟨h, k1, k2⟩
       ·exact .inl h
       ·refine .inr ⟨h, ?_, fun j a b _ ha hb => k2 j a b (by omega) ha hb⟩
        intro y hy
        rcases List.mem_cons.1 hy with rfl | hy
        ·omega
        ·exact k1 y hy
      ·rw [if_pos (by simpa using c5), gx_prev c5 (by omega) hl, Option.bind_some, Option.bind_some]
       by_cases c6 : x.Arr ≤ (t.Stops[k - 1]'(by omega)).Dep
       ·exact .inl ⟨5, by decide, by simp [c6]⟩
       ·simp only [decide_eq_false c6, Bool.false_eq_true, if_false]
        rcases chk2_out t hl r (k + 1) d3 with h | ⟨h, k1, k2⟩
        ·exact .inl h
        ·refine .inr ⟨h, ?_, fun j a b hj ha hb => ?_⟩
         ·intro y hy
          rcases List.mem_cons.1 hy with rfl | hy
          ·omega
          ·exact k1 y hy
         ·by_cases e : j + 1 = k
          ·subst e
           rw [d2] at hb
           injection hb with hb
           subst hb
           have : t.Stops[j + 1 - 1]'(by omega) = a := by
            have := List.getElem?_eq_some_iff.1 ha
            obtain ⟨_, h2⟩ := this
            simpa using h2
           rw [this] at c6
           omega
          ·exact k2 j a b (by omega) ha hb
theorem chkno (t : ApiTrain) : ∀ l : List ApiTrain, Fishref2GuideFault.loop2 t l = if l.any (·.No == t.No) then .ret 6 else .next ()
 | [] => rfl
 | x :: r => by
  rw [Fishref2GuideFault.loop2, chkno t r]
  cases h : (x.No == t.No) <;> simp [h]
structure DayOk (d : ApiDay) : Prop where
 form : dayForm d
 two : ∀ t ∈ d.Trains, 2 ≤ t.Stops.length
 stops : ∀ t ∈ d.Trains, stopsOk t.Stops
 nos : ∀ t ∈ d.Trains, 1 ≤ t.No ∧ t.No ≤ 9999
 apart : ∀ (i j : Nat) (s t : ApiTrain), i < j → d.Trains[i]? = some s → d.Trains[j]? = some t → s.No ≠ t.No
theorem chk1 (d : ApiDay) (hl : d.Trains.length ≤ 9223372036854775807) (hs : ∀ t ∈ d.Trains, t.Stops.length ≤ 9223372036854775807) : ∀ (r : List ApiTrain) (k : Nat) (q : List (Int × Bool)), d.Trains.drop k = r →
  (∀ n, (mget q n).getD false = (d.Trains.take k).any (·.No == n)) →
  (∃ e, e ≠ 0 ∧ Fishref2GuideFault.loop1 d r k = some (.ret e) ∧ GuideCheck.loop1 r q = some (.ret e)) ∨
  (Fishref2GuideFault.loop1 d r k = some (.next ()) ∧ (∃ q', GuideCheck.loop1 r q = some (.next q')) ∧ (∀ t ∈ r, 2 ≤ t.Stops.length ∧ stopsOk t.Stops ∧ 1 ≤ t.No ∧ t.No ≤ 9999) ∧ ∀ i j s t, i < j → k ≤ j → d.Trains[i]? = some s → d.Trains[j]? = some t → s.No ≠ t.No)
 | [], k, q, hd, _ => .inr ⟨rfl, ⟨q, rfl⟩, by simp, fun i j s t _ hj _ ht => by
   have := drop_nil hd
   have := (List.getElem?_eq_some_iff.1 ht).1
   omega⟩
 | t :: r, k, q, hd, hq => by
  obtain ⟨d1, d2, d3⟩ := drop_cons hd
  have htm : t ∈ d.Trains := List.mem_of_getElem? d2
  rw [Fishref2GuideFault.loop1, GuideCheck.loop1, cutl_in (by omega) (by omega) (by omega), Option.bind_some, bnd_eq, chkno, hq]
  rw [show Fishref2within t.No 1 9999 = Guidewithin t.No 1 9999 from rfl]
  cases c1 : Guidewithin t.No 1 9999 with
  | false => exact .inl ⟨2, by decide, by simp, by simp⟩
  | true =>
   have w1 := (within_iff _ _ _).1 c1
   simp only [Bool.not_true, Bool.false_eq_true, if_false]
   have e0 : List.drop (Int.toNat 0) (List.take (((k : Nat) : Int).toNat) d.Trains) = d.Trains.take k := by simp
   rw [e0]
   cases c2 : (d.Trains.take k).any (·.No == t.No) with
   | true => exact .inl ⟨6, by decide, by simp, by simp⟩
   | false =>
    simp only [Bool.false_eq_true, if_false]
    by_cases c3 : ((t.Stops.length : Nat) : Int) < 2
    ·exact .inl ⟨1, by decide, by simp [c3], by simp [c3]⟩
    ·simp only [decide_eq_false c3, Bool.false_eq_true, if_false, chk2]
     rcases chk2_out t (hs t htm) t.Stops 0 rfl with ⟨e, he, h⟩ | ⟨h, k1, k2⟩
     ·exact .inl ⟨e, he, by rw [h]; rfl, by rw [h]; rfl⟩
     ·rw [h, Option.bind_some, Option.bind_some]
      dsimp only
      have hq2 : ∀ n, (mget (mput q t.No true) n).getD false = (d.Trains.take (k + 1)).any (·.No == n) := by
       intro n
       rw [mget_put, List.take_add_one, d2]
       simp only [Option.toList_some, List.any_append, List.any_cons, List.any_nil, Bool.or_false]
       by_cases c : n = t.No
       ·subst c; simp
       ·have : (t.No == n) = false := by simpa using fun h => c h.symm
        rw [if_neg c, this, Bool.or_false]; exact hq n
      rcases chk1 d hl hs r (k + 1) (mput q t.No true) d3 hq2 with ⟨e, he, h1, h2⟩ | ⟨h1, ⟨q', h2⟩, h3, h4⟩
      ·exact .inl ⟨e, he, h1, h2⟩
      ·refine .inr ⟨h1, ⟨q', h2⟩, ?_, ?_⟩
       ·intro u hu
        rcases List.mem_cons.1 hu with rfl | hu
        ·exact ⟨by omega, ⟨k1, fun j x y hx hy => k2 j x y (by omega) hx hy⟩, w1.1, w1.2⟩
        ·exact h3 u hu
       ·intro i j s u hij hj hi hu
        by_cases e : j = k
        ·subst e
         rw [d2] at hu
         injection hu with hu
         subst hu
         intro e
         have : (d.Trains.take j).any (·.No == t.No) = true := by
          rw [List.any_eq_true]
          refine ⟨s, ?_, by simpa using e⟩
          apply List.mem_of_getElem? (i := i)
          rw [List.getElem?_take, if_pos hij]; exact hi
         rw [this] at c2; cases c2
        ·exact h4 i j s u hij (by omega) hi hu
theorem check_ok {d : ApiDay} (hi : InApiDay d) : ∃ e, Fishref2GuideFault d = some e ∧ GuideCheck d = some e ∧ (e = 0 → DayOk d) := by
 obtain ⟨e, b, h1, h2, h3⟩ := text_ok hi
 rw [Fishref2GuideFault, GuideCheck, h1, h2, Option.bind_some, Option.bind_some]
 by_cases c : e = 0
 ·subst c
  have hf := h3 rfl
  simp only [bne_self_eq_false, Bool.false_eq_true, if_false]
  rcases chk1 d (by have := hf.1; omega) (fun t ht => by have := (hf.2.2.1 t ht).2.1; omega) d.Trains 0 [] rfl (by simp [mget]) with ⟨e, he, k1, k2⟩ | ⟨k1, ⟨q', k2⟩, k3, k4⟩
  ·exact ⟨e, by rw [k1]; rfl, by rw [k2]; rfl, fun h => absurd h he⟩
  ·refine ⟨0, by rw [k1]; rfl, by rw [k2]; rfl, fun _ => ⟨hf, fun t ht => (k3 t ht).1, fun t ht => (k3 t ht).2.1, fun t ht => (k3 t ht).2.2, fun i j s t hij hs ht => k4 i j s t hij (by omega) hs ht⟩⟩
 ·have : (e != 0) = true := by simpa using c
  simp only [this, if_true]
  exact ⟨e, rfl, rfl, fun h => absurd h c⟩
theorem rngO_same {α σ : Type} {f : α → σ → Orc → Option σ} {st : σ} : ∀ (n : Nat) (left : List α) (o : Orc), (∀ x ∈ left, ∀ o, f x st o = some st) → rngO f n left st o = some st
 | 0, _, _, _ => rfl
 | n + 1, left, o, h => by
  rw [rngO]
  cases k : left[o [] % left.length]? with
  | none => rfl
  | some x =>
   simp only
   rw [h x (List.mem_of_getElem? k), Option.bind_some]
   exact rngO_same n _ _ (fun y hy => h y (List.mem_of_mem_eraseIdx hy))
theorem rngO_single {α σ : Type} {f : α → σ → Orc → Option σ} {x : α} {st st' : σ} (h : ∀ o, f x st o = some st') (n : Nat) (o : Orc) : rngO f (n + 1) [x] st o = some st' := by
 rw [rngO]
 simp only [List.length_singleton, Nat.mod_one, List.getElem?_cons_zero, h, Option.bind_some, List.eraseIdx_cons_zero]
 cases n <;> simp [rngO]
def smallNet : GuideNet := ⟨Fishlaw2small, 40⟩
abbrev smallE : List (List (GuidePlace × Bool)) := [[(⟨0, 1⟩, true), (⟨0, 2⟩, true)], [(⟨1, 1⟩, true)], [], []]
abbrev smallP : GuidePoint := ⟨100, 400, 2⟩
theorem small_ends : GuideNetends smallNet [⟨0, 0, 1⟩, ⟨0, 0, 2⟩] = some smallE := by kernel_rfl
theorem small4_0 (o : Orc) : GuideNetpoints.loop4 smallNet 3 100 0 [(⟨0, 1⟩, true), (⟨0, 2⟩, true)] [] [] o = some ([], []) := by
 unfold GuideNetpoints.loop4
 refine rngO_same _ _ _ ?_
 intro x hx o
 simp only [List.mem_cons, List.not_mem_nil, or_false] at hx
 rcases hx with rfl | rfl
 ·kernel_rfl
 ·kernel_rfl
theorem small4_1 (o : Orc) : GuideNetpoints.loop4 smallNet 3 100 1 [(⟨1, 1⟩, true)] [] [] o = some ([smallP], [(smallP, true)]) := by
 unfold GuideNetpoints.loop4
 exact rngO_single (fun o => by kernel_rfl) _ _
theorem small3 (o : Orc) : GuideNetpoints.loop3 smallNet 3 100 smallE 4 [] [] o = some ([smallP], [(smallP, true)]) := by
 have s0 : ∀ o, GuideNetpoints.loop3.step smallNet 3 100 smallE 0 [] [] o = some ([], []) := by
  intro o
  show Option.bind (GuideNetpoints.loop4 smallNet 3 100 0 [(⟨0, 1⟩, true), (⟨0, 2⟩, true)] [] [] (o.sub 0)) _ = _
  rw [small4_0]; rfl
 have s1 : ∀ o, GuideNetpoints.loop3.step smallNet 3 100 smallE 1 [] [] o = some ([smallP], [(smallP, true)]) := by
  intro o
  show Option.bind (GuideNetpoints.loop4 smallNet 3 100 1 [(⟨1, 1⟩, true)] [] [] (o.sub 0)) _ = _
  rw [small4_1]; rfl
 have s2 : ∀ o, GuideNetpoints.loop3.step smallNet 3 100 smallE 2 [smallP] [(smallP, true)] o = some ([smallP], [(smallP, true)]) := by intro o; rfl
 have s3 : ∀ o, GuideNetpoints.loop3.step smallNet 3 100 smallE 3 [smallP] [(smallP, true)] o = some ([smallP], [(smallP, true)]) := by intro o; rfl
 unfold GuideNetpoints.loop3
 simp only [cntO, s0, s1, s2, s3, Option.bind_some, Nat.zero_add, Nat.reduceAdd]
theorem small_points : GuideNetpoints smallNet 0 3 = some [smallP] := by
 refine same_of fun o => ?_
 have h1 : GuideNetpoints.loop1 smallNet (GuideNetrides smallNet 0 0 (-1)) [] = some [(100, [⟨0, 0, 1⟩, ⟨0, 0, 2⟩])] := by kernel_rfl
 have h2 : ∀ o, GuideNetpoints.loop2 smallNet 3 [(100, [⟨0, 0, 1⟩, ⟨0, 0, 2⟩])] [] [] o = some ([smallP], [(smallP, true)]) := by
  intro o
  unfold GuideNetpoints.loop2
  refine rngO_single (fun o => ?_) _ _
  dsimp only
  unfold GuideNetpoints.loop2.step
  rw [small_ends, Option.bind_some]
  show Option.bind (GuideNetpoints.loop3 smallNet 3 100 smallE 4 [] [] (o.sub 0)) _ = _
  rw [small3]; rfl
 have h3 : srtF GuidecomparePoints [smallP] = some [smallP] := by kernel_rfl
 unfold GuideNetpoints.o
 rw [bnd_eq, h1, Option.bind_some]
 show Option.bind (GuideNetpoints.loop2 smallNet 3 [(100, [⟨0, 0, 1⟩, ⟨0, 0, 2⟩])] [] [] (o.sub 0)) _ = _
 rw [h2, Option.bind_some]
 dsimp only
 rw [h3]; rfl
theorem small_in : InApiDay Fishlaw2small := by
 simp [InApiDay, inL, InApiTrain, InApiStop, inI, Fishlaw2small, Fishlaw2small_1, bnd]
theorem small_check : GuideCheck Fishlaw2small = some 0 := by
 obtain ⟨e, h1, h2, _⟩ := check_ok small_in
 have h3 : Fishref2GuideFault Fishlaw2small = some 0 := by kernel_rfl
 rw [h1] at h3
 injection h3 with h3
 rw [h2, h3]
theorem small_asked : Guidecheck Fishlaw2small 40 0 3 [0] = some 0 := by
 unfold Guidecheck GuidecheckLeast
 rw [small_check]
 kernel_rfl
theorem small_best (n : Nat) : ((SlicesDeleteFuncLguidePoint_v1 (n + 60) [smallP] 0).bind fun q64 => (if (((q64.length : Nat) : Int) == 0) then some ((GuideJourney.mk []), false) else ((SlicesMinFuncLguidePoint_v1 (n + 60) q64).bind fun q76 => ((GuideNetleastOf (n + 60) smallNet 0 3 q76).bind fun q83 => some (q83, true))))) = some (⟨[⟨0, 0, 1⟩, ⟨1, 0, 1⟩]⟩, true) := by kernel_rfl
theorem guides_true (n : Nat) : Fishlaw2guides (n + 60) = some true := by
 have h1 : GuideNetearliest (n + 60) smallNet 0 0 3 = some (⟨[⟨0, 0, 1⟩, ⟨1, 0, 1⟩]⟩, true) := by
  rw [GuideNetearliest, small_points, Option.bind_some]
  exact small_best n
 have h2 : GuideEarliest (n + 60) Fishlaw2small 0 0 3 40 = some (⟨[⟨0, 0, 1⟩, ⟨1, 0, 1⟩]⟩, 0) := by
  rw [GuideEarliest, small_asked, Option.bind_some]
  show (((GuideNetearliest (n + 60) smallNet 0 0 3).bind _) : Option (GuideJourney × Int)) = _
  rw [h1]; rfl
 rw [Fishlaw2guides, bnd_eq, h2]
 rfl
theorem gx_lt {α : Type} {l : List α} {i : Int} {x : α} (h : gx l i = some x) : 0 ≤ i ∧ i < l.length := by obtain ⟨h1, h2, _⟩ := gx_some h; omega
abbrev RR := GuideRide × ApiStop × ApiStop
def AF (t on : Nat) (a : ApiStop) : List ApiStop → Nat → List RR
 | [], _ => []
 | b :: r, off => (⟨(t : Int), (on : Int), (off : Int)⟩, a, b) :: AF t on a r (off + 1)
def AS (t : Nat) : List ApiStop → Nat → List RR
 | [], _ => []
 | a :: r, on => AF t on a r (on + 1) ++ AS t r (on + 1)
def AT : List ApiTrain → Nat → List RR
 | [], _ => []
 | x :: r, t => AS t x.Stops 0 ++ AT r (t + 1)
def fits (st at_ nt : Int) (q : RR) : Bool := !(q.1.Train == nt) && !(decide (q.2.1.Station ≠ st ∨ q.2.1.Dep < at_))
theorem rF (t on : Nat) (a : ApiStop) : ∀ (r : List ApiStop) (off : Nat), (AF t on a r off).map (·.1) = ridesF t on r.length off
 | [], _ => rfl
 | b :: r, off => by simp [AF, ridesF, rF t on a r (off + 1)]
theorem AF_on {t on : Nat} {a : ApiStop} : ∀ {r : List ApiStop} {off : Nat} {q : RR}, q ∈ AF t on a r off → q.1.Train = (t : Int) ∧ q.1.On = (on : Int) ∧ q.2.1 = a
 | [], _, _, h => by simp [AF] at h
 | b :: r, off, q, h => by
  rcases List.mem_cons.1 h with rfl | h
  ·exact ⟨rfl, rfl, rfl⟩
  ·exact AF_on h
theorem filter_const {α : Type} {p : α → Bool} {b : Bool} : ∀ {l : List α}, (∀ x ∈ l, p x = b) → l.filter p = if b then l else []
 | [], _ => by cases b <;> rfl
 | x :: r, h => by
  have h1 := h x (List.mem_cons_self ..)
  have h2 := filter_const (l := r) fun y hy => h y (List.mem_cons_of_mem _ hy)
  rw [List.filter_cons, h1, h2]
  cases b <;> rfl
theorem rS (st at_ nt : Int) (t len : Nat) (ht : ¬ (t : Int) = nt) : ∀ (l : List ApiStop) (on : Nat), on + l.length = len → ((AS t l on).filter (fits st at_ nt)).map (·.1) = ridesS st at_ t len l on
 | [], _, _ => rfl
 | a :: r, on, h => by
  simp only [List.length_cons] at h
  rw [AS, ridesS, List.filter_append, List.map_append, rS st at_ nt t len ht r (on + 1) (by omega)]
  congr 1
  have e : ∀ q ∈ AF t on a r (on + 1), fits st at_ nt q = !(decide (a.Station ≠ st ∨ a.Dep < at_)) := by
   intro q hq
   obtain ⟨h1, _, h3⟩ := AF_on hq
   unfold fits
   have : (q.1.Train == nt) = false := by rw [h1]; simpa using ht
   rw [this, h3]; rfl
  rw [filter_const e]
  by_cases c : a.Station ≠ st ∨ a.Dep < at_
  ·rw [if_pos c, if_neg (by simp [c])]; rfl
  ·rw [if_neg c, if_pos (by simpa using c), rF, show len - (on + 1) = r.length by omega]
theorem AS_tr {t : Nat} : ∀ {l : List ApiStop} {on : Nat} {q : RR}, q ∈ AS t l on → q.1.Train = (t : Int)
 | [], _, _, h => by simp [AS] at h
 | a :: r, on, q, h => by
  rcases List.mem_append.1 h with h | h
  ·exact (AF_on h).1
  ·exact AS_tr h
theorem rT (st at_ nt : Int) : ∀ (l : List ApiTrain) (t : Nat), ((AT l t).filter (fits st at_ nt)).map (·.1) = ridesT st at_ nt l t
 | [], _ => rfl
 | x :: r, t => by
  rw [AT, ridesT, List.filter_append, List.map_append, rT st at_ nt r (t + 1)]
  congr 1
  by_cases c : (t : Int) = nt
  ·rw [if_pos c, filter_const (b := false)]
   ·rfl
   ·intro q hq
    unfold fits
    rw [AS_tr hq, beq_iff_eq.2 c]; rfl
  ·rw [if_neg c, rS st at_ nt t x.Stops.length c x.Stops 0 (by simp)]
theorem AF_at {t on : Nat} {a : ApiStop} {L : List ApiStop} : ∀ {r : List ApiStop} {off : Nat} {q : RR}, L.drop off = r → q ∈ AF t on a r off → ∃ k : Nat, off ≤ k ∧ q = (⟨(t : Int), (on : Int), (k : Int)⟩, a, q.2.2) ∧ L[k]? = some q.2.2
 | [], _, _, _, h => by simp [AF] at h
 | b :: r, off, q, hd, h => by
  obtain ⟨d1, d2, d3⟩ := drop_cons hd
  rcases List.mem_cons.1 h with rfl | h
  ·exact ⟨off, Nat.le_refl _, rfl, d2⟩
  ·obtain ⟨k, h1, h2⟩ := AF_at d3 h
   exact ⟨k, by omega, h2⟩
theorem AS_at {t : Nat} {L : List ApiStop} : ∀ {l : List ApiStop} {on : Nat} {q : RR}, L.drop on = l → q ∈ AS t l on → ∃ i k : Nat, i < k ∧ q = (⟨(t : Int), (i : Int), (k : Int)⟩, q.2.1, q.2.2) ∧ L[i]? = some q.2.1 ∧ L[k]? = some q.2.2
 | [], _, _, _, h => by simp [AS] at h
 | a :: r, on, q, hd, h => by
  obtain ⟨d1, d2, d3⟩ := drop_cons hd
  rcases List.mem_append.1 h with h | h
  ·obtain ⟨k, h1, h2, h3⟩ := AF_at d3 h
   obtain ⟨_, _, e⟩ := AF_on h
   exact ⟨on, k, by omega, by rw [e]; exact h2, by rw [e]; exact d2, h3⟩
  ·exact AS_at d3 h
theorem AT_at {D : List ApiTrain} : ∀ {l : List ApiTrain} {t : Nat} {q : RR}, D.drop t = l → q ∈ AT l t → ∃ (u i k : Nat) (x : ApiTrain), i < k ∧ q = (⟨(u : Int), (i : Int), (k : Int)⟩, q.2.1, q.2.2) ∧ D[u]? = some x ∧ x.Stops[i]? = some q.2.1 ∧ x.Stops[k]? = some q.2.2
 | [], _, _, _, h => by simp [AT] at h
 | x :: r, t, q, hd, h => by
  obtain ⟨d1, d2, d3⟩ := drop_cons hd
  rcases List.mem_append.1 h with h | h
  ·obtain ⟨i, k, h1, h2, h3, h4⟩ := AS_at (L := x.Stops) List.drop_zero h
   exact ⟨t, i, k, x, h1, h2, d2, h3, h4⟩
  ·exact AT_at d3 h
def AD (d : ApiDay) : List RR := AT d.Trains 0
structure RideOk (d : ApiDay) (q : RR) (x : ApiTrain) : Prop where
 tr : gx d.Trains q.1.Train = some x
 on : gx x.Stops q.1.On = some q.2.1
 off : gx x.Stops q.1.Off = some q.2.2
 lt : q.1.On < q.1.Off
 mem : x ∈ d.Trains
 onm : q.2.1 ∈ x.Stops
 offm : q.2.2 ∈ x.Stops
theorem AD_ok {d : ApiDay} {q : RR} (h : q ∈ AD d) : ∃ x, RideOk d q x := by
 obtain ⟨u, i, k, x, h1, h2, h3, h4, h5⟩ := AT_at (D := d.Trains) List.drop_zero h
 refine ⟨x, ?_, ?_, ?_, ?_, List.mem_of_getElem? h3, List.mem_of_getElem? h4, List.mem_of_getElem? h5⟩
 ·rw [h2]; show gx d.Trains (u : Int) = _; rw [gx_nat]; exact h3
 ·rw [h2]; show gx x.Stops (i : Int) = _; rw [gx_nat]; exact h4
 ·rw [h2]; show gx x.Stops (k : Int) = _; rw [gx_nat]; exact h5
 ·rw [h2]; show (i : Int) < (k : Int); omega
theorem stops_lt {l : List ApiStop} (h : stopsOk l) : ∀ (n i : Nat) (x y : ApiStop), l[i]? = some x → l[i + n + 1]? = some y → x.Dep < y.Arr
 | 0, i, x, y, hx, hy => h.2 i x y hx hy
 | n + 1, i, x, y, hx, hy => by
  have hl := (List.getElem?_eq_some_iff.1 hy).1
  have hz : l[i + 1]? = some l[i + 1] := List.getElem?_eq_getElem (by omega)
  have h1 := h.2 i x _ hx hz
  have h2 := stops_lt h n (i + 1) _ y hz (by rw [show i + 1 + n + 1 = i + (n + 1) + 1 by omega]; exact hy)
  have h3 := (h.1 _ (List.mem_of_getElem? hz)).2.2.2.2.2.2
  omega
theorem AD_time {d : ApiDay} (hd : DayOk d) {q : RR} (h : q ∈ AD d) : 0 ≤ q.2.1.Dep ∧ q.2.1.Dep < q.2.2.Arr ∧ q.2.2.Arr ≤ 28800 ∧ 0 ≤ q.2.2.Station ∧ q.2.2.Station ≤ 11 ∧ 0 ≤ q.2.1.Station ∧ q.2.1.Station ≤ 11 ∧ 0 ≤ q.1.Train ∧ q.1.Train < 12 ∧ 0 ≤ q.1.On ∧ 0 ≤ q.1.Off ∧ q.1.Off < 8 := by
 obtain ⟨x, o⟩ := AD_ok h
 have hs := hd.stops x o.mem
 have a := hs.1 _ o.onm
 have b := hs.1 _ o.offm
 obtain ⟨e1, e2, e3⟩ := gx_some o.on
 obtain ⟨f1, f2, f3⟩ := gx_some o.off
 obtain ⟨t1, t2, _⟩ := gx_some o.tr
 have hlt := o.lt
 have := stops_lt hs (q.1.Off.toNat - q.1.On.toNat - 1) q.1.On.toNat _ _ e3 (by rw [show q.1.On.toNat + (q.1.Off.toNat - q.1.On.toNat - 1) + 1 = q.1.Off.toNat by omega]; exact f3)
 have h8 := (hd.form.2.2.1 x o.mem).2.1
 have h12 := hd.form.1
 omega
theorem AF_len (t on : Nat) (a : ApiStop) : ∀ (r : List ApiStop) (off : Nat), (AF t on a r off).length = r.length
 | [], _ => rfl
 | b :: r, off => by simp [AF, AF_len t on a r]
theorem AS_len (t : Nat) : ∀ (l : List ApiStop) (on : Nat), 2 * (AS t l on).length + l.length = l.length * l.length
 | [], _ => rfl
 | a :: r, on => by
  have := AS_len t r (on + 1)
  simp only [AS, List.length_append, AF_len, List.length_cons, Nat.add_mul, Nat.mul_add, Nat.mul_one, Nat.one_mul]; omega
theorem AT_len : ∀ (l : List ApiTrain) (t : Nat), (∀ x ∈ l, x.Stops.length ≤ 8) → (AT l t).length ≤ 28 * l.length
 | [], _, _ => by simp [AT]
 | x :: r, t, h => by
  have h1 := AT_len r (t + 1) fun y hy => h y (List.mem_cons_of_mem _ hy)
  have h2 := h x (List.mem_cons_self ..)
  have h3 := AS_len t x.Stops 0
  have h4 : 2 * (AS t x.Stops 0).length ≤ 56 := by
   generalize x.Stops.length = n at h2 h3
   have : n * n ≤ 8 * n := Nat.mul_le_mul_right _ h2
   omega
  simp only [AT, List.length_append, List.length_cons]; omega
theorem AD_len {d : ApiDay} (hd : DayOk d) : (AD d).length ≤ 336 := by
 have := AT_len d.Trains 0 fun x hx => (hd.form.2.2.1 x hx).2.1
 have := hd.form.1
 unfold AD; omega
def stepB (ls : Int) (p r : RR) : Bool := !(r.1.Train == p.1.Train) && !(decide (r.2.1.Station ≠ p.2.2.Station ∨ r.2.1.Dep < p.2.2.Arr + ls))
theorem stepB_fits (ls : Int) (p : RR) : stepB ls p = fits p.2.2.Station (p.2.2.Arr + ls) p.1.Train := rfl
def nx (ls : Int) (first : RR → Bool) (c : List RR) : RR → Bool := match c.getLast? with
 | none => first
 | some p => stepB ls p
def dfs (A : List RR) (ls : Int) (first fin : RR → Bool) : Nat → List RR → List (List RR)
 | 0, c => if c.getLast?.any fin then [c] else []
 | m + 1, c => (if c.getLast?.any fin then [c] else []) ++ (A.filter (nx ls first c)).flatMap fun r => dfs A ls first fin m (c ++ [r])
theorem sum_add1 {α : Type} (g : α → Nat) : ∀ (l : List α), (l.map fun q => 1 + g q).sum = l.length + (l.map g).sum
 | [] => rfl
 | x :: r => by simp only [List.map_cons, List.sum_cons, sum_add1 g r, List.length_cons]; omega
theorem sum_mul1 {α : Type} (g : α → Nat) (z : Nat) : ∀ (l : List α), (l.map fun q => 1 + g q * z).sum = l.length + (l.map g).sum * z
 | [] => by simp
 | x :: r => by simp only [List.map_cons, List.sum_cons, sum_mul1 g z r, List.length_cons, Nat.add_mul]; omega
def later (D : RR → Int) (L : List RR) : Nat := (L.map fun a => (L.filter fun b => decide (D a < D b)).length).sum
theorem sum_le {α : Type} {f g : α → Nat} : ∀ {l : List α}, (∀ x ∈ l, f x ≤ g x) → (l.map f).sum ≤ (l.map g).sum
 | [], _ => Nat.le_refl _
 | x :: r, h => by
  have h1 := h x (List.mem_cons_self ..)
  have h2 := sum_le (l := r) fun y hy => h y (List.mem_cons_of_mem _ hy)
  simp only [List.map_cons, List.sum_cons]; omega
theorem sum_filter {α : Type} (p : α → Bool) (f : α → Nat) : ∀ (l : List α), ((l.filter p).map f).sum ≤ (l.map f).sum
 | [] => Nat.le_refl _
 | x :: r => by
  have := sum_filter p f r
  rw [List.filter_cons]
  split <;> simp only [List.map_cons, List.sum_cons] <;> omega
theorem sum_const {α : Type} (c : Nat) : ∀ (l : List α), (l.map fun _ => c).sum = c * l.length
 | [] => rfl
 | x :: r => by simp only [List.map_cons, List.sum_cons, sum_const c r, List.length_cons, Nat.mul_add]; omega
theorem later_le (D : RR → Int) : ∀ (L : List RR), 2 * later D L + L.length ≤ L.length * L.length
 | [] => Nat.le_refl _
 | x :: L => by
  have ih := later_le D L
  have e1 : ∀ a, ((x :: L).filter fun b => decide (D a < D b)).length = (if D a < D x then 1 else 0) + (L.filter fun b => decide (D a < D b)).length := by
   intro a
   rw [List.filter_cons]
   by_cases c : D a < D x
   ·rw [if_pos (by simpa using c), if_pos c]; simp; omega
   ·rw [if_neg (by simpa using c), if_neg c]; omega
  have e2 : ∀ (M : List RR) (f : RR → Nat), (M.map fun a => (if D a < D x then 1 else 0) + f a).sum = (M.filter fun a => decide (D a < D x)).length + (M.map f).sum := by
   intro M f
   induction M with
   | nil => rfl
   | cons y M ih =>
    simp only [List.map_cons, List.sum_cons, ih, List.filter_cons]
    by_cases c : D y < D x
    ·rw [if_pos c, if_pos (by simpa using c)]; simp; omega
    ·rw [if_neg c, if_neg (by simpa using c)]; omega
  have e3 : later D (x :: L) = (L.filter fun b => decide (D x < D b)).length + ((L.filter fun a => decide (D a < D x)).length + later D L) := by
   unfold later
   rw [List.map_congr_left fun a _ => e1 a, List.map_cons, List.sum_cons, if_neg (Int.lt_irrefl _), Nat.zero_add, e2]
  have e4 : (L.filter fun b => decide (D x < D b)).length + (L.filter fun a => decide (D a < D x)).length ≤ L.length := by
   clear ih e1 e2 e3
   induction L with
   | nil => simp
   | cons y L ih =>
    simp only [List.filter_cons, List.length_cons]
    by_cases c1 : D x < D y
    ·have c2 : ¬ D y < D x := by omega
     simp only [decide_eq_true c1, decide_eq_false c2, if_true, Bool.false_eq_true, if_false, List.length_cons]; omega
    ·simp only [decide_eq_false c1, Bool.false_eq_true, if_false]
     split <;> (try simp only [List.length_cons]) <;> omega
  rw [e3]
  simp only [List.length_cons, Nat.add_mul, Nat.mul_add, Nat.mul_one, Nat.one_mul]; omega
theorem flatMap_len {α β : Type} (f : α → List β) : ∀ (l : List α), (l.flatMap f).length = (l.map fun x => (f x).length).sum
 | [] => rfl
 | x :: r => by simp [flatMap_len f r]
section
variable {A : List RR} {ls : Int} {first fin : RR → Bool}
theorem nx_snoc (c : List RR) (r : RR) : nx ls first (c ++ [r]) = stepB ls r := by simp [nx]
theorem dfs0 (c : List RR) : (dfs A ls first fin 0 c).length ≤ 1 := by rw [dfs]; split <;> simp
theorem dfs1 (c : List RR) (m : Nat) : (dfs A ls first fin (m + 1) c).length ≤ 1 + ((A.filter (nx ls first c)).map fun r => (dfs A ls first fin m (c ++ [r])).length).sum := by
 rw [dfs, List.length_append, flatMap_len]
 have : (if c.getLast?.any fin then [c] else []).length ≤ 1 := by split <;> simp
 omega
def pairs (A : List RR) (ls : Int) : Nat := (A.map fun p => (A.filter (stepB ls p)).length).sum
theorem dfs_len : (dfs A ls first fin 4 []).length ≤ 1 + A.length + pairs A ls * (1 + A.length + pairs A ls) := by
 have b1 : ∀ c r, (dfs A ls first fin 1 (c ++ [r])).length ≤ 1 + (A.filter (stepB ls r)).length := by
  intro c r
  have this : (dfs A ls first fin 1 (c ++ [r])).length ≤ _ := dfs1 (c ++ [r]) 0
  rw [nx_snoc] at this
  have h2 := sum_le (l := A.filter (stepB ls r)) (f := fun q => (dfs A ls first fin 0 ((c ++ [r]) ++ [q])).length) (g := fun _ => 1) fun q _ => dfs0 _
  rw [sum_const] at h2
  omega
 have b2 : ∀ c r, (dfs A ls first fin 2 (c ++ [r])).length ≤ 1 + A.length + pairs A ls := by
  intro c r
  have this : (dfs A ls first fin 2 (c ++ [r])).length ≤ _ := dfs1 (c ++ [r]) 1
  rw [nx_snoc] at this
  have h2 := sum_le (l := A.filter (stepB ls r)) (f := fun q => (dfs A ls first fin 1 ((c ++ [r]) ++ [q])).length) (g := fun q => 1 + (A.filter (stepB ls q)).length) fun q _ => b1 _ _
  have h3 := sum_filter (stepB ls r) (fun q => 1 + (A.filter (stepB ls q)).length) A
  have h4 : (A.map fun q => 1 + (A.filter (stepB ls q)).length).sum = A.length + pairs A ls := sum_add1 _ _
  omega
 have b3 : ∀ c r, (dfs A ls first fin 3 (c ++ [r])).length ≤ 1 + (A.filter (stepB ls r)).length * (1 + A.length + pairs A ls) := by
  intro c r
  have this : (dfs A ls first fin 3 (c ++ [r])).length ≤ _ := dfs1 (c ++ [r]) 2
  rw [nx_snoc] at this
  have h2 := sum_le (l := A.filter (stepB ls r)) (f := fun q => (dfs A ls first fin 2 ((c ++ [r]) ++ [q])).length) (g := fun q => 1 + A.length + pairs A ls) fun q _ => b2 _ _
  rw [sum_const, Nat.mul_comm] at h2
  omega
 have this : (dfs A ls first fin 4 []).length ≤ _ := dfs1 [] 3
 have h2 := sum_le (l := A.filter (nx ls first [])) (f := fun q => (dfs A ls first fin 3 ([] ++ [q])).length) (g := fun q => 1 + (A.filter (stepB ls q)).length * (1 + A.length + pairs A ls)) fun q _ => b3 _ _
 have h3 := sum_filter (nx ls first []) (fun q => 1 + (A.filter (stepB ls q)).length * (1 + A.length + pairs A ls)) A
 have h4 : (A.map fun q => 1 + (A.filter (stepB ls q)).length * (1 + A.length + pairs A ls)).sum = A.length + pairs A ls * (1 + A.length + pairs A ls) := sum_mul1 _ _ _
 omega
end
theorem dfs_small {d : ApiDay} (hd : DayOk d) {ls : Int} (h0 : 0 ≤ ls) (first fin : RR → Bool) : (dfs (AD d) ls first fin 4 []).length < 4294967296 := by
 have h1 := dfs_len (A := AD d) (ls := ls) (first := first) (fin := fin)
 have h2 := AD_len hd
 have h3 := later_le (fun q => q.2.1.Dep) (AD d)
 have h4 : pairs (AD d) ls ≤ later (fun q => q.2.1.Dep) (AD d) := by
  refine sum_le fun p hp => ?_
  have : ∀ (M : List RR), (M.filter (stepB ls p)).length ≤ (M.filter fun b => decide (p.2.1.Dep < b.2.1.Dep)).length := by
   intro M
   induction M with
   | nil => exact Nat.le_refl _
   | cons y M ih =>
    rw [List.filter_cons, List.filter_cons]
    by_cases c : stepB ls p y = true
    ·have ht := AD_time hd hp
     have : p.2.1.Dep < y.2.1.Dep := by
      unfold stepB at c
      simp at c
      omega
     rw [if_pos c, if_pos (by simpa using this)]
     simp; omega
    ·rw [if_neg c]
     split
     ·simp; omega
     ·exact ih
  exact this _
 have h5 : (AD d).length * (AD d).length ≤ 336 * 336 := Nat.mul_le_mul h2 h2
 have h6 : pairs (AD d) ls ≤ 56448 := by omega
 have h7 : pairs (AD d) ls * (1 + (AD d).length + pairs (AD d) ls) ≤ 56448 * (1 + 336 + 56448) := Nat.mul_le_mul h6 (by omega)
 omega
abbrev JJ (c : List RR) : GuideJourney := ⟨c.map (·.1)⟩
theorem ride_in {d : ApiDay} {q : RR} {x : ApiTrain} (o : RideOk d q x) : (if decide (q.1.Train < 0) = true then true else decide (q.1.Train ≥ ((d.Trains).length : Int))) = false ∧
  (if decide (q.1.On < 0) = true then true else (if decide (q.1.On ≥ ((x.Stops).length : Int)) = true then true else (if decide (q.1.Off < 0) = true then true else decide (q.1.Off ≥ ((x.Stops).length : Int))))) = false ∧ decide (q.1.On ≥ q.1.Off) = false := by
 have h1 := gx_lt o.tr
 have h2 := gx_lt o.on
 have h3 := gx_lt o.off
 have h4 := o.lt
 refine ⟨?_, ?_, decide_eq_false (by omega)⟩
 ·rw [if_neg (by simp; omega)]; exact decide_eq_false (by omega)
 ·rw [if_neg (by simp; omega), if_neg (by simp; omega), if_neg (by simp; omega)]; exact decide_eq_false (by omega)
theorem two_fault {d : ApiDay} (hd : DayOk d) {ls : Int} (h0 : 0 ≤ ls ∧ ls ≤ 28800) {p r : RR} (hp : p ∈ AD d) (hr : r ∈ AD d) : ∃ e, Fishref2JourneyFault d ⟨[p.1, r.1]⟩ ls true = some e ∧ (e == 0) = stepB ls p r := by
 obtain ⟨x, ox⟩ := AD_ok hp
 obtain ⟨y, oy⟩ := AD_ok hr
 obtain ⟨p1, p2, p3⟩ := ride_in ox
 obtain ⟨r1, r2, r3⟩ := ride_in oy
 have tp := AD_time hd hp
 rw [Fishref2JourneyFault]
 rw [show Fishref2within ls 0 28800 = Guidewithin ls 0 28800 from rfl, (within_iff ls 0 28800).2 h0]
 have hw : Fishref2within (([p.1, r.1].length : Nat) : Int) 1 4 = true := rfl
 simp only [Bool.not_true, Bool.false_eq_true, if_false]
 rw [hw]
 simp only [Bool.not_true, Bool.false_eq_true, if_false]
 have hg0 : gx [p.1, r.1] (w64 (((1 : Nat) : Int) - 1)) = some p.1 := by rw [w64_id (by omega)]; rfl
 have e01 : (((0 : Nat) : Int) == 0) = true := rfl
 have e11 : (((0 + 1 : Nat) : Int) == 0) = false := rfl
 rw [Fishref2JourneyFault.loop1, bnd_eq, p1]
 simp only [Bool.false_eq_true, if_false, ox.tr, Option.bind_some, bnd_eq, p2, p3, e01, if_true]
 rw [Fishref2JourneyFault.loop1, bnd_eq, r1]
 simp only [Bool.false_eq_true, if_false, oy.tr, Option.bind_some, bnd_eq, r2, r3, e11]
 rw [show gx [p.1, r.1] (w64 (((0 + 1 : Nat) : Int) - 1)) = some p.1 from hg0]
 simp only [Option.bind_some, ox.tr, ox.off, oy.on, if_true]
 rw [w64_id (by omega)]
 unfold stepB
 have e6 : (p.1.Train == r.1.Train) = (r.1.Train == p.1.Train) := by rw [Bool.eq_iff_iff, beq_iff_eq, beq_iff_eq]; exact eq_comm
 rw [e6]
 cases c1 : (r.1.Train == p.1.Train) with
 | true => exact ⟨1, rfl, rfl⟩
 | false =>
  simp only [Bool.false_eq_true, if_false, Option.bind_some]
  by_cases c2 : r.2.1.Station = p.2.2.Station
  ·have e2 : (r.2.1.Station != p.2.2.Station) = false := by simpa using c2
   rw [e2]
   simp only [Bool.false_eq_true, if_false]
   by_cases c3 : r.2.1.Dep < p.2.2.Arr + ls
   ·rw [if_pos (by simpa using c3)]
    exact ⟨13, rfl, by simp [c3]⟩
   ·rw [if_neg (by simpa using c3), Fishref2JourneyFault.loop1]
    exact ⟨0, rfl, by simp [c2, c3]⟩
  ·have e2 : (r.2.1.Station != p.2.2.Station) = true := by simpa using c2
   rw [e2]
   exact ⟨1, rfl, by simp [c2]⟩
section
variable {d : ApiDay} (hd : DayOk d) {ls : Int} (h0 : 0 ≤ ls ∧ ls ≤ 28800) {to st : Int} {c : List RR} (hc : ∀ q ∈ c, q ∈ AD d) (hcl : c.length ≤ 3) {D : RR → List (List RR)}
 {self : (List GuideRide) → ApiDay → Int → (List GuideJourney) → Int → Int → Option (List GuideJourney)}
 (hself : ∀ r ∈ AD d, ∀ acc : List GuideJourney, acc.length + (D r).length < 4294967296 → self ((c ++ [r]).map (·.1)) d to acc st ls = some (acc ++ (D r).map JJ))
include hd h0 hc hcl hself
theorem all3 {x : ApiTrain} {t on : Nat} {a : ApiStop} (hx : x.Stops.length ≤ 8) (hfirst : c = [] → a.Station = st) : ∀ (r : List ApiStop) (off fu : Nat) (acc : List GuideJourney), x.Stops.drop off = r → r.length < fu → (∀ q ∈ AF t on a r off, q ∈ AD d) →
  acc.length + (((AF t on a r off).filter (nx ls (fun q => q.2.1.Station == st) c)).flatMap D).length < 4294967296 →
  ∃ w, Fishref2AllOf_1_v1.loop3 (c.map (·.1)) d to st ls self x t on fu (off : Int) acc = some (w, acc ++ (((AF t on a r off).filter (nx ls (fun q => q.2.1.Station == st) c)).flatMap D).map JJ)
 | _, _, 0, _, _, h, _, _ => absurd h (Nat.not_lt_zero _)
 | [], off, fu + 1, acc, hdr, _, _, _ => by
  have := drop_nil hdr
  rw [Fishref2AllOf_1_v1.loop3, if_neg (by simp; omega)]
  exact ⟨(off : Int), by simp [AF]⟩
 | b :: r, off, fu + 1, acc, hdr, hf, hA, hl => by
  obtain ⟨d1, d2, d3⟩ := drop_cons hdr
  simp only [List.length_cons] at hf
  have hq : ((⟨(t : Int), (on : Int), (off : Int)⟩, a, b) : RR) ∈ AD d := hA _ (by simp [AF])
  have hA2 : ∀ q ∈ AF t on a r (off + 1), q ∈ AD d := fun q h => hA q (by simp [AF, h])
  rw [Fishref2AllOf_1_v1.loop3, if_pos (by simp; omega), SlicesCloneLguideRide, apd_lt (by simp; omega)]
  simp only [Option.bind_some, List.nil_append]
  rw [apd_lt (by simp; omega), Option.bind_some, w64_id (x := (off : Int) + 1) (by omega)]
  have hn : ((off : Int) + 1) = ((off + 1 : Nat) : Int) := by omega
  have key : (if ((((c.map (·.1) ++ [⟨(t : Int), (on : Int), (off : Int)⟩] : List GuideRide).length : Nat) : Int) == 1) = true then some true else ((cutl (c.map (·.1) ++ [⟨(t : Int), (on : Int), (off : Int)⟩]) (w64 ((((c.map (·.1) ++ [⟨(t : Int), (on : Int), (off : Int)⟩] : List GuideRide).length : Nat) : Int) - 2)) (((c.map (·.1) ++ [⟨(t : Int), (on : Int), (off : Int)⟩] : List GuideRide).length : Nat) : Int)).bind fun x254 => ((Fishref2JourneyFault d (GuideJourney.mk x254) ls true).bind fun q263 => some (q263 == 0)))) =
    some (nx ls (fun q => q.2.1.Station == st) c (⟨(t : Int), (on : Int), (off : Int)⟩, a, b)) := by
   rcases List.eq_nil_or_concat c with e | ⟨c', p, e⟩
   ·subst e
    simp [nx, hfirst rfl]
   ·rw [List.concat_eq_append] at e
    subst e
    rw [nx_snoc, if_neg (by simp; omega), w64_id (by simp only [List.length_append, List.length_map, List.length_cons, List.length_nil] at hcl ⊢; omega)]
    have hpA := hc p (by simp)
    have hcut : cutl ((c' ++ [p]).map (·.1) ++ [⟨(t : Int), (on : Int), (off : Int)⟩] : List GuideRide) ((((c' ++ [p]).map (·.1) ++ [⟨(t : Int), (on : Int), (off : Int)⟩] : List GuideRide).length : Int) - 2) (((c' ++ [p]).map (·.1) ++ [⟨(t : Int), (on : Int), (off : Int)⟩] : List GuideRide).length : Int) = some [p.1, ⟨(t : Int), (on : Int), (off : Int)⟩] := by
     rw [cutl_in (by simp only [List.length_append, List.length_map, List.length_cons, List.length_nil]; omega) (by omega) (Int.le_refl _)]
     congr 1
     rw [List.take_of_length_le (by omega), show (((((c' ++ [p]).map (·.1) ++ [⟨(t : Int), (on : Int), (off : Int)⟩] : List GuideRide).length : Int) - 2).toNat) = (c'.map (·.1)).length from (by simp only [List.length_append, List.length_map, List.length_cons, List.length_nil]; omega)]
     rw [List.map_append, List.append_assoc, List.drop_left]
     rfl
    rw [hcut, Option.bind_some]
    obtain ⟨e, h1, h2⟩ := two_fault hd h0 hpA hq
    rw [h1, Option.bind_some, h2]
  rw [key, Option.bind_some]
  simp only [AF, List.filter_cons] at hl ⊢
  have ih := all3 (t := t) (on := on) hx hfirst r (off + 1) fu
  cases cb : nx ls (fun q => q.2.1.Station == st) c (⟨(t : Int), (on : Int), (off : Int)⟩, a, b) with
  | false =>
   rw [cb] at hl
   simp only [Bool.false_eq_true, if_false] at hl ⊢
   rw [hn]
   exact ih acc d3 (by omega) hA2 hl
  | true =>
   rw [cb] at hl
   simp only [if_true, List.flatMap_cons, List.length_append] at hl ⊢
   have hs := hself _ hq acc (by omega)
   rw [List.map_append] at hs
   rw [show ([(⟨(t : Int), (on : Int), (off : Int)⟩ : GuideRide)]) = ([((⟨(t : Int), (on : Int), (off : Int)⟩, a, b) : RR)].map (·.1)) from rfl, hs, Option.bind_some, hn]
   obtain ⟨w, hw⟩ := ih (acc ++ (D (⟨(t : Int), (on : Int), (off : Int)⟩, a, b)).map JJ) d3 (by omega) hA2 (by simp only [List.length_append, List.length_map]; omega)
   exact ⟨w, by rw [hw, List.map_append, List.append_assoc]⟩
theorem all2 {x : ApiTrain} {t : Nat} (hx : x.Stops.length ≤ 8) {fu : Nat} (hfu : 10 ≤ fu) : ∀ (l : List ApiStop) (on : Nat) (acc : List GuideJourney), x.Stops.drop on = l → (∀ q ∈ AS t l on, q ∈ AD d) →
  acc.length + (((AS t l on).filter (nx ls (fun q => q.2.1.Station == st) c)).flatMap D).length < 4294967296 →
  Fishref2AllOf_1_v1.loop2 (c.map (·.1)) d to st ls fu self x t l on acc = some (acc ++ (((AS t l on).filter (nx ls (fun q => q.2.1.Station == st) c)).flatMap D).map JJ)
 | [], on, acc, _, _, _ => by simp [Fishref2AllOf_1_v1.loop2, AS]
 | a :: r, on, acc, hdr, hA, hl => by
  obtain ⟨d1, d2, d3⟩ := drop_cons hdr
  have hA1 : ∀ q ∈ AF t on a r (on + 1), q ∈ AD d := fun q h => hA q (by simp [AS, h])
  have hA2 : ∀ q ∈ AS t r (on + 1), q ∈ AD d := fun q h => hA q (by simp [AS, h])
  simp only [AS, List.filter_append, List.flatMap_append, List.length_append, List.map_append] at hl ⊢
  rw [Fishref2AllOf_1_v1.loop2, bnd_eq]
  have ih := all2 (t := t) hx hfu r (on + 1)
  by_cases cs : c = [] ∧ a.Station ≠ st
  ·obtain ⟨c1, c2⟩ := cs
   have e1 : (if ((((c.map (·.1)).length : Nat) : Int) == 0) = true then (a.Station != st) else false) = true := by rw [c1]; simpa using c2
   rw [e1, if_pos rfl]
   have e2 : (AF t on a r (on + 1)).filter (nx ls (fun q => q.2.1.Station == st) c) = [] := by
    rw [filter_const (b := false)]
    ·rfl
    ·intro q hq
     obtain ⟨_, _, h3⟩ := AF_on hq
     rw [c1]
     simp only [nx, List.getLast?_nil, h3]
     simpa using c2
   rw [e2] at hl ⊢
   simp only [List.flatMap_nil, List.length_nil, Nat.zero_add, List.map_nil, List.nil_append] at hl ⊢
   exact ih acc d3 hA2 hl
  ·have e1 : (if ((((c.map (·.1)).length : Nat) : Int) == 0) = true then (a.Station != st) else false) = false := by
    by_cases c1 : c = []
    ·have : a.Station = st := Classical.byContradiction fun h => cs ⟨c1, h⟩
     rw [c1]; simpa using this
    ·rw [if_neg]
     intro h
     have h2 : (((c.map (·.1)).length : Nat) : Int) = 0 := by simpa using h
     rw [List.length_map] at h2
     exact c1 (List.eq_nil_of_length_eq_zero (by omega))
   rw [e1, if_neg (by decide)]
   have hrl : r.length < fu := by
    have := congrArg List.length d3
    simp at this
    omega
   obtain ⟨w, hw⟩ := all3 hd h0 hc hcl hself hx (fun h => Classical.byContradiction fun k => cs ⟨h, k⟩) r (on + 1) fu acc d3 hrl hA1 (by omega)
   rw [hw, Option.bind_some]
   dsimp only
   rw [ih _ d3 hA2 (by simp; simp at hl; omega), List.append_assoc]
theorem all1t {fu : Nat} (hfu : 10 ≤ fu) : ∀ (l : List ApiTrain) (t : Nat) (acc : List GuideJourney), (∀ x ∈ l, x.Stops.length ≤ 8) → (∀ q ∈ AT l t, q ∈ AD d) →
  acc.length + (((AT l t).filter (nx ls (fun q => q.2.1.Station == st) c)).flatMap D).length < 4294967296 →
  Fishref2AllOf_1_v1.loop1 (c.map (·.1)) d to st ls fu self l t acc = some (acc ++ (((AT l t).filter (nx ls (fun q => q.2.1.Station == st) c)).flatMap D).map JJ)
 | [], t, acc, _, _, _ => by simp [Fishref2AllOf_1_v1.loop1, AT]
 | x :: r, t, acc, h8, hA, hl => by
  have hA1 : ∀ q ∈ AS t x.Stops 0, q ∈ AD d := fun q h => hA q (by simp [AT, h])
  have hA2 : ∀ q ∈ AT r (t + 1), q ∈ AD d := fun q h => hA q (by simp [AT, h])
  simp only [AT, List.filter_append, List.flatMap_append, List.length_append, List.map_append] at hl ⊢
  rw [Fishref2AllOf_1_v1.loop1, all2 hd h0 hc hcl hself (h8 x (List.mem_cons_self ..)) hfu x.Stops 0 acc List.drop_zero hA1 (by omega), Option.bind_some,
   all1t hfu r (t + 1) _ (fun y h => h8 y (List.mem_cons_of_mem _ h)) hA2 (by simp; simp at hl; omega), List.append_assoc]
end
def finR (to : Int) (q : RR) : Bool := if decide (to < 0) then true else (q.2.2.Station == to)
theorem allof1 {d : ApiDay} (hd : DayOk d) {ls : Int} (h0 : 0 ≤ ls ∧ ls ≤ 28800) {to st : Int} : ∀ (m fu : Nat) (c : List RR) (acc : List GuideJourney), m + 20 ≤ fu → c.length + m = 4 → (∀ q ∈ c, q ∈ AD d) →
  acc.length + (dfs (AD d) ls (fun q => q.2.1.Station == st) (finR to) m c).length < 4294967296 →
  Fishref2AllOf_1_v1 fu (c.map (·.1)) d to acc st ls = some (acc ++ (dfs (AD d) ls (fun q => q.2.1.Station == st) (finR to) m c).map JJ)
 | _, 0, _, _, h, _, _, _ => absurd h (by omega)
 | m, fu + 1, c, acc, hfu, hcm, hc, hl => by
  rw [Fishref2AllOf_1_v1]
  have hA : (if decide ((((c.map (·.1)).length : Nat) : Int) > 0) = true then ((gx (c.map (·.1)) (w64 ((((c.map (·.1)).length : Nat) : Int) - 1))).bind fun x78 => ((gx d.Trains x78.Train).bind fun x88 => ((gx x88.Stops x78.Off).bind fun x103 => (bnd ((if decide (to < 0) then true else (x103.Station == to)) : Bool) fun q116 => (((if q116 then ((SlicesCloneLguideRide (c.map (·.1))).bind fun q133 => ((apd acc [(GuideJourney.mk q133)]).bind fun x145 => some x145)) else some acc) : Option (List GuideJourney)).bind fun q123 => some q123))))) else some acc) =
    some (acc ++ (if c.getLast?.any (finR to) then [c] else []).map JJ) := by
   rcases List.eq_nil_or_concat c with e | ⟨c', p, e⟩
   ·subst e; simp
   ·rw [List.concat_eq_append] at e
    subst e
    have hpA := hc p (by simp)
    obtain ⟨x, ox⟩ := AD_ok hpA
    have hg : gx ((c' ++ [p]).map (·.1)) (w64 (((((c' ++ [p]).map (·.1)).length : Nat) : Int) - 1)) = some p.1 := by
     rw [gx_prev (by simp) (Nat.le_refl _) (by simp only [List.length_append, List.length_map, List.length_cons, List.length_nil] at hcm ⊢; omega)]
     simp
    rw [if_pos (by simp), hg]
    simp only [Option.bind_some, ox.tr, ox.off, bnd_eq]
    rw [show (if decide (to < 0) = true then true else p.2.2.Station == to) = finR to p from rfl]
    have hl1 : acc.length + (if (c' ++ [p]).getLast?.any (finR to) then [c' ++ [p]] else []).length < 4294967296 := by
     cases m with
     | zero => rw [dfs] at hl; exact hl
     | succ m => rw [dfs, List.length_append] at hl; omega
    have e1 : (c' ++ [p]).getLast?.any (finR to) = finR to p := by simp
    rw [e1] at hl1 ⊢
    cases hfin : finR to p with
    | false => simp
    | true =>
     rw [if_pos hfin] at hl1
     simp only [List.length_cons, List.length_nil] at hl1
     rw [if_pos rfl, if_pos rfl, SlicesCloneLguideRide]
     rw [apd_lt (by simp only [List.length_append, List.length_map, List.length_cons, List.length_nil] at hcm ⊢; omega), Option.bind_some, Option.bind_some, apd_lt (by simp only [List.length_cons, List.length_nil]; omega)]
     simp [JJ]
  rw [hA, Option.bind_some]
  cases m with
  | zero =>
   have e4 : ((((c.map (·.1)).length : Nat) : Int) == 4) = true := by rw [List.length_map, show c.length = 4 by omega]; rfl
   rw [e4, if_pos rfl, dfs]
  | succ m =>
   have e4 : ((((c.map (·.1)).length : Nat) : Int) == 4) = false := by rw [List.length_map]; simp; omega
   rw [e4, if_neg (by decide), dfs]
   rw [dfs, List.length_append] at hl
   have h1 := all1t hd h0 (to := to) (st := st) hc (by omega) (D := fun r => dfs (AD d) ls (fun q => q.2.1.Station == st) (finR to) m (c ++ [r])) (self := Fishref2AllOf_1_v1 fu) (fun r hr acc ha =>
    allof1 hd h0 m fu (c ++ [r]) acc (by omega) (by simp; omega) (by
     intro q hq
     rcases List.mem_append.1 hq with hq | hq
     ·exact hc q hq
     ·simp at hq; subst hq; exact hr) ha) (fu := fu) (by omega) d.Trains 0 (acc ++ (if c.getLast?.any (finR to) then [c] else []).map JJ) (fun x hx => (hd.form.2.2.1 x hx).2.1) (fun q h => h) (by
     rw [List.length_append, List.length_map]
     show _ + (((AD d).filter _).flatMap _).length < _
     omega)
   rw [h1, Option.bind_some, List.map_append, List.append_assoc]
   rfl
theorem allof {d : ApiDay} (hd : DayOk d) {ls : Int} (h0 : 0 ≤ ls ∧ ls ≤ 28800) (st to : Int) {fu : Nat} (hfu : 40 ≤ fu) : Fishref2AllOf fu d st to ls = some ((dfs (AD d) ls (fun q => q.2.1.Station == st) (finR to) 4 []).map JJ) := by
 have h := allof1 hd h0 (to := to) (st := st) 4 fu [] [] (by omega) rfl (by simp) (by have := dfs_small hd h0.1 (fun q => q.2.1.Station == st) (finR to); simpa using this)
 rw [Fishref2AllOf]
 rw [show ([] : List GuideRide) = ([] : List RR).map (·.1) from rfl, h]
 simp
theorem mem_rides {d : ApiDay} {ls st at_ nt : Int} : GuideNetrides ⟨d, ls⟩ st at_ nt = ((AD d).filter (fits st at_ nt)).map (·.1) := (rT st at_ nt d.Trains 0).symm
theorem off_of {d : ApiDay} {ls : Int} {q : RR} (h : q ∈ AD d) : GuideNetoff ⟨d, ls⟩ q.1 = some q.2.2 := by
 obtain ⟨x, o⟩ := AD_ok h
 rw [GuideNetoff]; simp only [o.tr, o.off, Option.bind_some]
theorem on_of {d : ApiDay} {ls : Int} {q : RR} (h : q ∈ AD d) : GuideNeton ⟨d, ls⟩ q.1 = some q.2.1 := by
 obtain ⟨x, o⟩ := AD_ok h
 rw [GuideNeton]; simp only [o.tr, o.on, Option.bind_some]
theorem behind_of {d : ApiDay} (hd : DayOk d) {ls : Int} (h0 : 0 ≤ ls ∧ ls ≤ 28800) {q : RR} (h : q ∈ AD d) : GuideNetbehind ⟨d, ls⟩ q.1 = some (((AD d).filter (stepB ls q)).map (·.1)) := by
 have := AD_time hd h
 rw [GuideNetbehind, off_of h, Option.bind_some, bnd_eq]
 dsimp only
 rw [w64_id (by omega), mem_rides, stepB_fits]
theorem appseq_of : ∀ (l q : List GuideRide), q.length + l.length < 4294967296 → SlicesAppendSeqLguideRide_v1.loop1 l q = some (q ++ l)
 | [], q, _ => by simp [SlicesAppendSeqLguideRide_v1.loop1]
 | x :: r, q, h => by
  simp only [List.length_cons] at h
  rw [SlicesAppendSeqLguideRide_v1.loop1, apd_lt (by simp; omega), Option.bind_some, appseq_of r _ (by simp; omega)]
  simp
theorem appseq {l q : List GuideRide} (h : q.length + l.length < 4294967296) : SlicesAppendSeqLguideRide_v1 q l = some (q ++ l) := by
 rw [SlicesAppendSeqLguideRide_v1, appseq_of l q h]; rfl
theorem nodup_le : ∀ (n : Nat) (l : List Nat), l.Nodup → (∀ a ∈ l, a < n) → l.length ≤ n
 | 0, l, _, h => by
  cases l with
  | nil => simp
  | cons a r => exact absurd (h a (List.mem_cons_self ..)) (Nat.not_lt_zero _)
 | n + 1, l, hn, h => by
  have h1 := nodup_le n (l.erase n) (hn.erase n) fun a ha => by
   have h2 := h a (List.mem_of_mem_erase ha)
   have h3 : a ≠ n := fun e => by subst e; exact (hn.mem_erase_iff.1 ha).1 rfl
   omega
  by_cases c : n ∈ l
  ·have := List.length_erase_of_mem c; omega
  ·rw [List.erase_of_not_mem c] at h1; omega
section
variable {κ : Type} [BEq κ] [LawfulBEq κ]
theorem mput_new {m : List (κ × Bool)} {k : κ} {v : Bool} (h : ∀ b, (k, b) ∉ m) : mput m k v = m ++ [(k, v)] := by
 induction m with
 | nil => rfl
 | cons p r ih =>
  obtain ⟨a, b⟩ := p
  have h1 : (k == a) = false := by
   cases e : k == a with
   | false => rfl
   | true => have := eq_of_beq e; subst this; exact absurd (List.mem_cons_self ..) (h b)
  rw [mput, h1]
  simp only [Bool.false_eq_true, if_false]
  rw [ih fun b hb => h b (List.mem_cons_of_mem _ hb)]
  rfl
theorem mget_has {m : List (κ × Bool)} (ht : ∀ k b, (k, b) ∈ m → b = true) (k : κ) : (mget m k).getD false = true ↔ (k, true) ∈ m := by
 induction m with
 | nil => simp [mget]
 | cons p r ih =>
  obtain ⟨a, b⟩ := p
  have hb := ht a b (List.mem_cons_self ..)
  subst hb
  rw [mget]
  cases e : k == a with
  | true => have := eq_of_beq e; subst this; simp
  | false =>
   simp only [Bool.false_eq_true, if_false]
   rw [ih fun k b h => ht k b (List.mem_cons_of_mem _ h)]
   have : ¬ k = a := fun h => by subst h; simp at e
   simp [this]
end
def plc (q : RR) : GuidePlace := ⟨q.1.Train, q.1.Off⟩
theorem step_plc {d : ApiDay} {ls : Int} {p q : RR} (hp : p ∈ AD d) (hq : q ∈ AD d) (h : plc p = plc q) : p.2.2 = q.2.2 ∧ ∀ r, stepB ls p r = stepB ls q r := by
 obtain ⟨x, ox⟩ := AD_ok hp
 obtain ⟨y, oy⟩ := AD_ok hq
 injection h with h1 h2
 have e1 := ox.tr
 rw [h1, oy.tr] at e1
 injection e1 with e1
 subst e1
 have e2 := ox.off
 rw [h2, oy.off] at e2
 injection e2 with e2
 exact ⟨e2.symm, fun r => by unfold stepB; rw [h1, e2]⟩
structure Told (d : ApiDay) (ls : Int) (P : RR → Prop) (M : List (GuidePlace × Bool)) (N : List RR) : Prop where
 keys : ∀ p b, (p, b) ∈ M ↔ b = true ∧ ∃ r, P r ∧ plc r = p
 nodup : (M.map (·.1)).Nodup
 nexts : ∀ q, q ∈ N ↔ q ∈ AD d ∧ ∃ r, P r ∧ stepB ls r q = true
 len : N.length ≤ 336 * M.length
theorem Told.small {d : ApiDay} (hd : DayOk d) {ls : Int} {P : RR → Prop} {M : List (GuidePlace × Bool)} {N : List RR} (hP : ∀ r, P r → r ∈ AD d) (h : Told d ls P M N) : M.length ≤ 96 := by
 have h1 : ((M.map (·.1)).map fun p => p.train.toNat * 8 + p.off.toNat).Nodup := by
  unfold List.Nodup
  rw [List.pairwise_map]
  refine List.Pairwise.imp_of_mem ?_ h.nodup
  intro a b ha hb hab e
  obtain ⟨⟨p, u⟩, hp, rfl⟩ := List.mem_map.1 ha
  obtain ⟨⟨q, v⟩, hq, rfl⟩ := List.mem_map.1 hb
  obtain ⟨_, r, hr, rfl⟩ := (h.keys p u).1 hp
  obtain ⟨_, z, hz, rfl⟩ := (h.keys q v).1 hq
  have t1 := AD_time hd (hP r hr)
  have t2 := AD_time hd (hP z hz)
  apply hab
  simp only [plc] at e ⊢
  have e1 : r.1.Train = z.1.Train := by omega
  have e2 : r.1.Off = z.1.Off := by omega
  rw [e1, e2]
 have := nodup_le 96 _ h1 (by
  intro a ha
  obtain ⟨p, hp, rfl⟩ := List.mem_map.1 ha
  obtain ⟨⟨p2, u⟩, hp2, rfl⟩ := List.mem_map.1 hp
  obtain ⟨_, r, hr, rfl⟩ := (h.keys p2 u).1 hp2
  have t1 := AD_time hd (hP r hr)
  simp only [plc]; omega)
 simpa using this
theorem ends2 {d : ApiDay} (hd : DayOk d) {ls : Int} (h0 : 0 ≤ ls ∧ ls ≤ 28800) {Ms : List (List (GuidePlace × Bool))} (hM : Ms.length < 4) : ∀ (S : List RR) (P : RR → Prop) (M : List (GuidePlace × Bool)) (N : List RR), (∀ r, P r → r ∈ AD d) → (∀ q ∈ S, q ∈ AD d) → Told d ls P M N →
  ∃ M' N', GuideNetends.loop2 ⟨d, ls⟩ Ms.length (S.map (·.1)) (N.map (·.1)) (Ms ++ [M]) = some (N'.map (·.1), Ms ++ [M']) ∧ Told d ls (fun r => P r ∨ r ∈ S) M' N'
 | [], P, M, N, _, _, h => ⟨M, N, by simp [GuideNetends.loop2], by simpa using h⟩
 | q :: S, P, M, N, hP, hS, h => by
  have hq := hS q (List.mem_cons_self ..)
  have hS2 : ∀ q ∈ S, q ∈ AD d := fun z hz => hS z (List.mem_cons_of_mem _ hz)
  have hP2 : ∀ r, (P r ∨ r = q) → r ∈ AD d := fun r hr => hr.elim (hP r) (fun e => e ▸ hq)
  have hg : mgx 4 (Ms ++ [M]) ((Ms.length : Nat) : Int) = some M := by
   unfold mgx
   rw [if_pos (by omega), gx_nat, List.getElem?_append_right (Nat.le_refl _), Nat.sub_self]
   rfl
  have ht : ∀ k b, (k, b) ∈ M → b = true := fun k b hb => ((h.keys k b).1 hb).1
  have hm := mget_has ht (plc q)
  rw [List.map_cons, GuideNetends.loop2, hg, Option.bind_some]
  rw [show (GuidePlace.mk q.1.Train q.1.Off) = plc q from rfl]
  by_cases c : (mget M (plc q)).getD false = true
  ·rw [if_pos c]
   obtain ⟨_, z, hz, e⟩ := (h.keys (plc q) true).1 (hm.1 c)
   have hst := step_plc (ls := ls) (hP z hz) hq e
   have h2 : Told d ls (fun r => P r ∨ r = q) M N := by
    refine ⟨fun p b => ?_, h.nodup, fun w => ?_, h.len⟩
    ·rw [h.keys]
     constructor
     ·rintro ⟨h1, r, h2, h3⟩; exact ⟨h1, r, .inl h2, h3⟩
     ·rintro ⟨h1, r, h2 | rfl, h3⟩
      ·exact ⟨h1, r, h2, h3⟩
      ·exact ⟨h1, z, hz, e.trans h3⟩
    ·rw [h.nexts]
     constructor
     ·rintro ⟨h1, r, h2, h3⟩; exact ⟨h1, r, .inl h2, h3⟩
     ·rintro ⟨h1, r, h2 | rfl, h3⟩
      ·exact ⟨h1, r, h2, h3⟩
      ·exact ⟨h1, z, hz, by rw [hst.2]; exact h3⟩
   obtain ⟨M', N', k1, k2⟩ := ends2 hd h0 hM S _ M N hP2 hS2 h2
   refine ⟨M', N', k1, ?_⟩
   have e : (fun r => (P r ∨ r = q) ∨ r ∈ S) = fun r => P r ∨ r ∈ q :: S := by
    funext r; simp [or_assoc]
   rw [← e]; exact k2
  ·rw [if_neg c]
   have hnew : ∀ b, (plc q, b) ∉ M := fun b hb => c (hm.2 (by have := ht _ _ hb; subst this; exact hb))
   rw [Option.bind_some, behind_of hd h0 hq, Option.bind_some]
   have hsm := Told.small hd hP h
   have hAl := AD_len hd
   have hfl := List.length_filter_le (stepB ls q) (AD d)
   have hnl := h.len
   rw [appseq (by rw [List.length_map, List.length_map]; omega), Option.bind_some]
   have e2 : (((Ms.length : Nat) : Int)).toNat = Ms.length := by omega
   rw [e2, List.set_append_right _ _ (Nat.le_refl _), Nat.sub_self, List.set_cons_zero, mput_new hnew, ← List.map_append]
   have h2 : Told d ls (fun r => P r ∨ r = q) (M ++ [(plc q, true)]) (N ++ (AD d).filter (stepB ls q)) := by
    refine ⟨fun p b => ?_, ?_, fun w => ?_, ?_⟩
    ·rw [List.mem_append, h.keys]
     constructor
     ·rintro (⟨h1, r, h2, h3⟩ | hh)
      ·exact ⟨h1, r, .inl h2, h3⟩
      ·simp at hh; exact ⟨hh.2, q, .inr rfl, hh.1.symm⟩
     ·rintro ⟨h1, r, h2 | rfl, h3⟩
      ·exact .inl ⟨h1, r, h2, h3⟩
      ·exact .inr (by simp [h1, h3])
    ·rw [List.map_append, List.nodup_append]
     refine ⟨h.nodup, by simp, ?_⟩
     intro a ha b hb e
     simp at hb
     subst hb
     subst e
     obtain ⟨⟨p, u⟩, hp, rfl⟩ := List.mem_map.1 ha
     exact hnew u hp
    ·rw [List.mem_append, h.nexts, List.mem_filter]
     constructor
     ·rintro (⟨h1, r, h2, h3⟩ | ⟨h1, h2⟩)
      ·exact ⟨h1, r, .inl h2, h3⟩
      ·exact ⟨h1, q, .inr rfl, h2⟩
     ·rintro ⟨h1, r, h2 | rfl, h3⟩
      ·exact .inl ⟨h1, r, h2, h3⟩
      ·exact .inr ⟨h1, h3⟩
    ·rw [List.length_append, List.length_append, List.length_singleton]; omega
   obtain ⟨M', N', k1, k2⟩ := ends2 hd h0 hM S _ _ _ hP2 hS2 h2
   refine ⟨M', N', k1, ?_⟩
   have e : (fun r => (P r ∨ r = q) ∨ r ∈ S) = fun r => P r ∨ r ∈ q :: S := by
    funext r; simp [or_assoc]
   rw [← e]; exact k2
def SK (d : ApiDay) (ls : Int) (F : List RR) : Nat → RR → Prop
 | 0, q => q ∈ F
 | k + 1, q => q ∈ AD d ∧ ∃ r, SK d ls F k r ∧ stepB ls r q = true
def Ends (d : ApiDay) (ls : Int) (F : List RR) (k : Nat) (M : List (GuidePlace × Bool)) : Prop := ∀ p b, (p, b) ∈ M ↔ b = true ∧ ∃ r, SK d ls F k r ∧ plc r = p
theorem SK_in {d : ApiDay} {ls : Int} {F : List RR} (hF : ∀ q ∈ F, q ∈ AD d) : ∀ k r, SK d ls F k r → r ∈ AD d
 | 0, r, h => hF r h
 | k + 1, r, h => h.1
theorem ends1 {d : ApiDay} (hd : DayOk d) {ls : Int} (h0 : 0 ≤ ls ∧ ls ≤ 28800) {F : List RR} (hF : ∀ q ∈ F, q ∈ AD d) : ∀ (n : Nat) (Ms : List (List (GuidePlace × Bool))) (S : List RR), Ms.length + n = 4 → (∀ (k : Nat) M, Ms[k]? = some M → Ends d ls F k M) → (∀ q, q ∈ S ↔ SK d ls F Ms.length q) →
  ∃ S' Ms', GuideNetends.loop1 ⟨d, ls⟩ n Ms.length (S.map (·.1)) Ms = some (S', Ms') ∧ Ms'.length = 4 ∧ ∀ (k : Nat) M, Ms'[k]? = some M → Ends d ls F k M
 | 0, Ms, S, hn, hE, _ => ⟨_, Ms, rfl, by omega, hE⟩
 | n + 1, Ms, S, hn, hE, hS => by
  have hSA : ∀ q ∈ S, q ∈ AD d := fun q h => SK_in hF _ q ((hS q).1 h)
  have h00 : Told d ls (fun _ => False) [] [] := ⟨by simp, by simp, by simp, by simp⟩
  obtain ⟨M', N', k1, k2⟩ := ends2 hd h0 (Ms := Ms) (by omega) S (fun _ => False) [] [] (fun _ h => h.elim) hSA h00
  have hm : mst 4 Ms ((Ms.length : Nat) : Int) = some () := by unfold mst; rw [if_pos ⟨rfl, by omega⟩]
  rw [GuideNetends.loop1, hm, Option.bind_some]
  rw [show ([] : List GuideRide) = ([] : List RR).map (·.1) from rfl, k1, Option.bind_some]
  dsimp only
  have e : Ms.length + 1 = (Ms ++ [M']).length := by simp
  rw [e]
  refine ends1 hd h0 hF n (Ms ++ [M']) N' (by simp; omega) ?_ ?_
  ·intro k M hk
   by_cases c : k < Ms.length
   ·rw [List.getElem?_append_left c] at hk; exact hE k M hk
   ·have hk2 := (List.getElem?_eq_some_iff.1 hk).1
    simp at hk2
    have : k = Ms.length := by omega
    subst this
    rw [List.getElem?_append_right (Nat.le_refl _), Nat.sub_self] at hk
    simp at hk
    subst hk
    intro p b
    rw [k2.keys]
    simp only [false_or, hS]
  ·intro q
   rw [k2.nexts, ← e]
   simp only [false_or, hS]
   rfl
theorem ends_of {d : ApiDay} (hd : DayOk d) {ls : Int} (h0 : 0 ≤ ls ∧ ls ≤ 28800) {F : List RR} (hF : ∀ q ∈ F, q ∈ AD d) : ∃ Ms, GuideNetends ⟨d, ls⟩ (F.map (·.1)) = some Ms ∧ Ms.length = 4 ∧ ∀ (k : Nat) M, Ms[k]? = some M → Ends d ls F k M := by
 obtain ⟨S', Ms, h1, h2, h3⟩ := ends1 hd h0 hF 4 [] F rfl (by simp) (fun q => Iff.rfl)
 refine ⟨Ms, ?_, h2, h3⟩
 have h1' : GuideNetends.loop1 ⟨d, ls⟩ 4 0 (F.map (·.1)) [] = some (S', Ms) := h1
 have hm : mall 4 Ms = some () := by unfold mall; rw [if_pos h2]
 rw [GuideNetends, h1', Option.bind_some]
 dsimp only
 rw [hm, Option.bind_some]
def Ext (A : List RR) (ls : Int) (first : RR → Bool) : List RR → List RR → Prop
 | _, [] => True
 | c, r :: s => r ∈ A ∧ nx ls first c r = true ∧ Ext A ls first (c ++ [r]) s
theorem mem_dfs {A : List RR} {ls : Int} {first fin : RR → Bool} : ∀ (m : Nat) (c l : List RR), l ∈ dfs A ls first fin m c ↔ ∃ s, l = c ++ s ∧ s.length ≤ m ∧ l.getLast?.any fin = true ∧ Ext A ls first c s
 | 0, c, l => by
  rw [dfs]
  constructor
  ·intro h
   split at h
   ·rename_i hf
    simp at h
    subst h
    exact ⟨[], by simp, by simp, hf, trivial⟩
   ·simp at h
  ·rintro ⟨s, rfl, h1, h2, _⟩
   obtain rfl : s = [] := List.eq_nil_of_length_eq_zero (by omega)
   rw [List.append_nil] at h2 ⊢
   rw [if_pos h2]; simp
 | m + 1, c, l => by
  rw [dfs, List.mem_append, List.mem_flatMap]
  constructor
  ·rintro (h | ⟨r, hr, h⟩)
   ·split at h
    ·rename_i hf
     simp at h
     subst h
     exact ⟨[], by simp, by simp, hf, trivial⟩
    ·simp at h
   ·obtain ⟨s, h1, h2, h3, h4⟩ := (mem_dfs m (c ++ [r]) l).1 h
    obtain ⟨r1, r2⟩ := List.mem_filter.1 hr
    exact ⟨r :: s, by rw [h1]; simp, by simp; omega, h3, r1, r2, h4⟩
  ·rintro ⟨s, h1, h2, h3, h4⟩
   cases s with
   | nil =>
    rw [List.append_nil] at h1
    subst h1
    left
    rw [if_pos h3]; simp
   | cons r s =>
    right
    exact ⟨r, List.mem_filter.2 ⟨h4.1, h4.2.1⟩, (mem_dfs m (c ++ [r]) l).2 ⟨s, by rw [h1]; simp, by simp at h2; omega, h3, h4.2.2⟩⟩
theorem Ext.snoc {A : List RR} {ls : Int} {first : RR → Bool} {q : RR} : ∀ (s c : List RR), Ext A ls first c (s ++ [q]) ↔ Ext A ls first c s ∧ q ∈ A ∧ nx ls first (c ++ s) q = true
 | [], c => by simp [Ext]
 | r :: s, c => by
  simp only [List.cons_append, Ext, Ext.snoc s (c ++ [r]), List.append_assoc, List.cons_append, List.nil_append, and_assoc]
theorem ext_SK {d : ApiDay} {ls : Int} {first : RR → Bool} {F : List RR} : ∀ (s c : List RR) (r q : RR) (k : Nat), c.getLast? = some r → SK d ls F k r → Ext (AD d) ls first c s → (c ++ s).getLast? = some q → SK d ls F (k + s.length) q
 | [], c, r, q, k, h1, h2, _, h4 => by
  rw [List.append_nil, h1] at h4
  injection h4 with h4
  subst h4
  exact h2
 | z :: s, c, r, q, k, h1, h2, h3, h4 => by
  have hz : SK d ls F (k + 1) z := ⟨h3.1, r, h2, by have := h3.2.1; unfold nx at this; rw [h1] at this; exact this⟩
  have := ext_SK s (c ++ [z]) z q (k + 1) (by simp) hz h3.2.2 (by rw [List.append_assoc]; exact h4)
  rw [List.length_cons]
  rwa [show k + (s.length + 1) = k + 1 + s.length by omega]
theorem SK_ext {d : ApiDay} {ls : Int} {first : RR → Bool} {F : List RR} (hF : ∀ q ∈ F, q ∈ AD d ∧ first q = true) : ∀ (k : Nat) (q : RR), SK d ls F k q → ∃ z s, z ∈ F ∧ s.length = k ∧ Ext (AD d) ls first [] (z :: s) ∧ (z :: s).getLast? = some q
 | 0, q, h => ⟨q, [], h, rfl, ⟨(hF q h).1, (hF q h).2, trivial⟩, rfl⟩
 | k + 1, q, ⟨h1, r, h2, h3⟩ => by
  obtain ⟨z, s, k1, k2, k3, k4⟩ := SK_ext hF k r h2
  refine ⟨z, s ++ [q], k1, by simp [k2], ?_, List.getLast?_concat (l := z :: s)⟩
  rw [← List.cons_append]
  refine (Ext.snoc _ _).2 ⟨k3, h1, ?_⟩
  rw [List.nil_append]
  unfold nx
  rw [k4]; exact h3
theorem ext_in {A : List RR} {ls : Int} {first : RR → Bool} : ∀ (s c : List RR), Ext A ls first c s → ∀ q ∈ s, q ∈ A
 | [], _, _, _, h => by simp at h
 | r :: s, c, h, q, hq => by
  rcases List.mem_cons.1 hq with rfl | hq
  ·exact h.1
  ·exact ext_in s _ h.2.2 q hq
theorem mgd_put {κ : Type} [BEq κ] [LawfulBEq κ] (m : List (κ × Bool)) (k j : κ) (v : Bool) : (mget (mput m k v) j).getD false = if (j == k) = true then v else (mget m j).getD false := by
 induction m with
 | nil =>
  simp only [mput, mget]
  cases h : (j == k) <;> simp [h]
 | cons p r ih =>
  obtain ⟨a, b⟩ := p
  simp only [mput]
  cases h : (k == a) with
  | true =>
   have := eq_of_beq h
   subst this
   simp only [if_true, mget]
   cases h2 : (j == k) <;> simp [h2]
  | false =>
   simp only [Bool.false_eq_true, if_false, mget]
   cases h2 : (j == a) with
   | true =>
    have := eq_of_beq h2
    subst this
    have : (j == k) = false := by
     cases h3 : (j == k) with
     | false => rfl
     | true => have := eq_of_beq h3; subst this; rw [h2] at h; cases h
    simp [this]
   | false => simp only [Bool.false_eq_true, if_false]; exact ih
def pt_ (c : List RR) : GuidePoint := ⟨(c.head?.map (·.2.1.Dep)).getD 0, (c.getLast?.map (·.2.2.Arr)).getD 0, (c.length : Int)⟩
theorem cmpi_lt (x y : Int) : CmpCompareint x y < 0 ↔ x < y := by
 unfold CmpCompareint CmpisNaNint
 simp
 by_cases h : x < y
 ·simp [h]
 ·by_cases k : y < x <;> simp [h, k]
theorem cmpi_zero (x y : Int) : CmpCompareint x y = 0 ↔ x = y := by
 unfold CmpCompareint CmpisNaNint
 simp
 by_cases h : x < y
 ·simp [h]; omega
 ·by_cases k : y < x
  ·simp [h, k]; omega
  ·simp [h, k]; omega
theorem or3 (a b c : Int) : CmpOrint [a, b, c] < 0 ↔ a < 0 ∨ a = 0 ∧ (b < 0 ∨ b = 0 ∧ c < 0) := by
 unfold CmpOrint
 simp only [CmpOrint.loop1, bnd_eq]
 by_cases ha : a = 0
 ·subst ha
  by_cases hb : b = 0
  ·subst hb
   by_cases hc : c = 0
   ·subst hc; simp
   ·simp [hc]
  ·simp [hb]
 ·simp [ha]
def lexP (p q : GuidePoint) : Prop := p.Dep < q.Dep ∨ p.Dep = q.Dep ∧ (p.Arr < q.Arr ∨ p.Arr = q.Arr ∧ p.Rides < q.Rides)
theorem cmpP (p q : GuidePoint) : GuidecomparePoints p q < 0 ↔ lexP p q := by
 unfold GuidecomparePoints lexP
 rw [or3]
 simp only [cmpi_lt, cmpi_zero]
theorem okP (l : List GuidePoint) : OkF GuidecomparePoints l := by
 refine ⟨fun x _ => by rw [cmpP]; unfold lexP; omega, fun x _ y _ z _ => by rw [cmpP, cmpP, cmpP]; unfold lexP; omega, fun x _ y _ => ?_⟩
 rw [cmpP, cmpP]
 unfold lexP
 intro h1 h2
 obtain ⟨a, b, c⟩ := x
 obtain ⟨a', b', c'⟩ := y
 simp only at h1 h2
 obtain rfl : a = a' := by omega
 obtain rfl : b = b' := by omega
 obtain rfl : c = c' := by omega
 rfl
structure Pts (out : List GuidePoint) (seen : List (GuidePoint × Bool)) (T : GuidePoint → Prop) : Prop where
 nd : out.Nodup
 mem : ∀ p, p ∈ out ↔ T p
 seen : ∀ p b, (p, b) ∈ seen ↔ b = true ∧ p ∈ out
 box : ∀ p ∈ out, 0 ≤ p.Dep ∧ p.Dep ≤ 28800 ∧ 0 ≤ p.Arr ∧ p.Arr ≤ 28800 ∧ 1 ≤ p.Rides ∧ p.Rides ≤ 4
theorem Pts.iff {out : List GuidePoint} {seen : List (GuidePoint × Bool)} {T U : GuidePoint → Prop} (h : Pts out seen T) (k : ∀ p, T p ↔ U p) : Pts out seen U := by
 have : T = U := by funext p; exact propext (k p)
 rwa [← this]
theorem Pts.small {out : List GuidePoint} {seen : List (GuidePoint × Bool)} {T : GuidePoint → Prop} (h : Pts out seen T) : out.length ≤ 3317990404 := by
 have h1 : (out.map fun p => (p.Dep.toNat * 28801 + p.Arr.toNat) * 4 + (p.Rides.toNat - 1)).Nodup := by
  unfold List.Nodup
  rw [List.pairwise_map]
  refine List.Pairwise.imp_of_mem ?_ h.nd
  intro a b ha hb hne e
  apply hne
  have h1 := h.box a ha
  have h2 := h.box b hb
  obtain ⟨a1, a2, a3⟩ := a
  obtain ⟨b1, b2, b3⟩ := b
  simp only at h1 h2 e
  obtain rfl : a1 = b1 := by omega
  obtain rfl : a2 = b2 := by omega
  obtain rfl : a3 = b3 := by omega
  rfl
 have h2 := nodup_le 3317990404 _ h1 fun c hc => by
  obtain ⟨p, hp, rfl⟩ := List.mem_map.1 hc
  have := h.box p hp
  omega
 rwa [List.length_map] at h2
section
variable {κ ν : Type} [BEq κ] [LawfulBEq κ]
theorem mget_in {m : List (κ × ν)} {k : κ} {v : ν} (hn : (m.map (·.1)).Nodup) (h : (k, v) ∈ m) : mget m k = some v := by
 induction m with
 | nil => cases h
 | cons p r ih =>
  obtain ⟨a, b⟩ := p
  rw [mget]
  have hn' := List.nodup_cons.1 hn
  rcases List.mem_cons.1 h with h3 | h3
  ·injection h3 with h1 h2
   subst h1 h2
   simp
  ·have : ¬ k = a := fun e => hn'.1 (by subst e; exact List.mem_map.2 ⟨(k, v), h3, rfl⟩)
   have e : (k == a) = false := by simpa using this
   rw [e]
   simp only [Bool.false_eq_true, if_false]
   exact ih hn'.2 h3
theorem mget_out {m : List (κ × ν)} {k : κ} (h : ∀ v, (k, v) ∉ m) : mget m k = none := by
 induction m with
 | nil => rfl
 | cons p r ih =>
  obtain ⟨a, b⟩ := p
  rw [mget]
  have : ¬ k = a := fun e => by subst e; exact h b (List.mem_cons_self ..)
  have e : (k == a) = false := by simpa using this
  rw [e]
  simp only [Bool.false_eq_true, if_false]
  exact ih fun v hv => h v (List.mem_cons_of_mem _ hv)
theorem mput_in {m : List (κ × ν)} {k j : κ} {v w : ν} (hn : (m.map (·.1)).Nodup) : (j, w) ∈ mput m k v ↔ (j = k ∧ w = v) ∨ (j ≠ k ∧ (j, w) ∈ m) := by
 induction m with
 | nil => simp [mput]
 | cons p r ih =>
  obtain ⟨a, b⟩ := p
  rw [mput]
  have hn' := List.nodup_cons.1 hn
  by_cases c : k = a
  ·subst c
   simp only [beq_self_eq_true, if_true, List.mem_cons, Prod.mk.injEq]
   constructor
   ·rintro (h | h)
    ·exact .inl h
    ·refine .inr ⟨fun e => ?_, .inr h⟩
     subst e
     exact hn'.1 (List.mem_map.2 ⟨_, h, rfl⟩)
   ·rintro (h | ⟨h1, h2 | h2⟩)
    ·exact .inl h
    ·exact absurd h2.1 h1
    ·exact .inr h2
  ·have e : (k == a) = false := by simpa using c
   rw [e]
   simp only [Bool.false_eq_true, if_false, List.mem_cons, Prod.mk.injEq, ih hn'.2]
   constructor
   ·rintro (⟨h1, h2⟩ | h | ⟨h1, h2⟩)
    ·exact .inr ⟨fun x => c (x.symm.trans h1), .inl ⟨h1, h2⟩⟩
    ·exact .inl h
    ·exact .inr ⟨h1, .inr h2⟩
   ·rintro (h | ⟨h1, h2 | h2⟩)
    ·exact .inr (.inl h)
    ·exact .inl h2
    ·exact .inr (.inr ⟨h1, h2⟩)
theorem mput_nd {m : List (κ × ν)} {k : κ} {v : ν} (hn : (m.map (·.1)).Nodup) : ((mput m k v).map (·.1)).Nodup := by
 induction m with
 | nil => simp [mput]
 | cons p r ih =>
  obtain ⟨a, b⟩ := p
  rw [mput]
  have hn' := List.nodup_cons.1 hn
  by_cases c : k = a
  ·subst c
   simp only [beq_self_eq_true, if_true]
   exact hn
  ·have e : (k == a) = false := by simpa using c
   rw [e]
   simp only [Bool.false_eq_true, if_false, List.map_cons]
   refine List.nodup_cons.2 ⟨fun h => ?_, ih hn'.2⟩
   obtain ⟨⟨j, w⟩, h1, h2⟩ := List.mem_map.1 h
   simp only at h2
   subst h2
   rcases (mput_in hn'.2).1 h1 with ⟨h3, _⟩ | ⟨_, h3⟩
   ·exact c h3.symm
   ·exact hn'.1 (List.mem_map.2 ⟨_, h3, rfl⟩)
end
structure Starts (M : List (Int × List GuideRide)) (P : List RR) : Prop where
 nd : (M.map (·.1)).Nodup
 is : ∀ k L, (k, L) ∈ M → L = (P.filter (fun q => q.2.1.Dep == k)).map (·.1)
 all : ∀ q ∈ P, ∃ L, (q.2.1.Dep, L) ∈ M
 from_ : ∀ k L, (k, L) ∈ M → ∃ q ∈ P, q.2.1.Dep = k
theorem starts_of {d : ApiDay} {ls : Int} : ∀ (l P : List RR) (M : List (Int × List GuideRide)), (∀ q ∈ l, q ∈ AD d) → P.length + l.length < 4294967296 → Starts M P →
  ∃ M', GuideNetpoints.loop1 ⟨d, ls⟩ (l.map (·.1)) M = some M' ∧ Starts M' (P ++ l)
 | [], P, M, _, _, h => ⟨M, rfl, by simpa using h⟩
 | q :: l, P, M, hA, hl, h => by
  have hq := hA q (List.mem_cons_self ..)
  simp only [List.length_cons] at hl
  have hget : (mget M q.2.1.Dep).getD [] = (P.filter (fun z => z.2.1.Dep == q.2.1.Dep)).map (·.1) := by
   by_cases c : ∃ L, (q.2.1.Dep, L) ∈ M
   ·obtain ⟨L, hL⟩ := c
    rw [mget_in h.nd hL, Option.getD_some]
    exact h.is _ _ hL
   ·rw [mget_out fun v hv => c ⟨v, hv⟩]
    have : P.filter (fun z => z.2.1.Dep == q.2.1.Dep) = [] := by
     rw [List.filter_eq_nil_iff]
     intro z hz e
     have e : z.2.1.Dep = q.2.1.Dep := by simpa using e
     obtain ⟨L, hL⟩ := h.all z hz
     rw [e] at hL
     exact c ⟨L, hL⟩
    rw [this]; rfl
  have hlen : ((P.filter (fun z => z.2.1.Dep == q.2.1.Dep)).map (·.1)).length ≤ P.length := by rw [List.length_map]; exact List.length_filter_le _ _
  have hv : (P.filter (fun z => z.2.1.Dep == q.2.1.Dep)).map (·.1) ++ [q.1] = ((P ++ [q]).filter (fun z => z.2.1.Dep == q.2.1.Dep)).map (·.1) := by simp
  have hs : Starts (mput M q.2.1.Dep (((P ++ [q]).filter (fun z => z.2.1.Dep == q.2.1.Dep)).map (·.1))) (P ++ [q]) := by
   refine ⟨mput_nd h.nd, fun k L hk => ?_, fun z hz => ?_, fun k L hk => ?_⟩
   ·rcases (mput_in h.nd).1 hk with ⟨h1, h2⟩ | ⟨h1, h2⟩
    ·rw [h1, h2]
    ·rw [h.is _ _ h2, List.filter_append, List.map_append]
     have : (q.2.1.Dep == k) = false := by
      have : ¬ q.2.1.Dep = k := fun e => h1 e.symm
      simpa using this
     simp [this]
   ·by_cases c : z.2.1.Dep = q.2.1.Dep
    ·rw [c]; exact ⟨_, (mput_in h.nd).2 (.inl ⟨rfl, rfl⟩)⟩
    ·rcases List.mem_append.1 hz with hz | hz
     ·obtain ⟨L, hL⟩ := h.all z hz
      exact ⟨L, (mput_in h.nd).2 (.inr ⟨c, hL⟩)⟩
     ·simp at hz; subst hz; exact absurd rfl c
   ·rcases (mput_in h.nd).1 hk with ⟨h1, h2⟩ | ⟨h1, h2⟩
    ·exact ⟨q, by simp, h1.symm⟩
    ·obtain ⟨z, h3, h4⟩ := h.from_ _ _ h2
     exact ⟨z, by simp [h3], h4⟩
  obtain ⟨M', k1, k2⟩ := starts_of l (P ++ [q]) _ (fun z hz => hA z (List.mem_cons_of_mem _ hz)) (by rw [List.length_append]; simp; omega) hs
  refine ⟨M', ?_, by simpa using k2⟩
  rw [List.map_cons, GuideNetpoints.loop1, on_of hq]
  simp only [Option.bind_some, bnd_eq]
  rw [hget, apd_lt (by rw [List.length_singleton]; omega), Option.bind_some, hv]
  exact k1
section
variable {d : ApiDay} (hd : DayOk d) {ls : Int} {to dep : Int} (hdep : 0 ≤ dep ∧ dep ≤ 28800)
include hd hdep
theorem pts_step {k : Nat} (hk : k < 4) {r : RR} (hr : r ∈ AD d) {e : GuidePlace} (he : plc r = e) {u : Bool} {out : List GuidePoint} {seen : List (GuidePoint × Bool)} {T : GuidePoint → Prop} (h : Pts out seen T) (o : Orc) :
  ∃ out' seen', GuideNetpoints.loop4.step ⟨d, ls⟩ to dep k e u out seen o = some (out', seen') ∧ Pts out' seen' (fun p => T p ∨ (r.2.2.Station = to ∧ p = ⟨dep, r.2.2.Arr, ((k + 1 : Nat) : Int)⟩)) := by
 obtain ⟨x, ox⟩ := AD_ok hr
 have ht := AD_time hd hr
 subst he
 have e1 : gx d.Trains (plc r).train = some x := ox.tr
 have e2 : gx x.Stops (plc r).off = some r.2.2 := ox.off
 unfold GuideNetpoints.loop4.step
 simp only [e1, Option.bind_some, e2, bnd_eq]
 have hseen := mget_has (m := seen) (fun p b hb => ((h.seen p b).1 hb).1) (GuidePoint.mk dep r.2.2.Arr ((k + 1 : Nat) : Int))
 rw [h.seen] at hseen
 by_cases c : r.2.2.Station = to
 ·have c' : (r.2.2.Station == to) = true := by simpa using c
  rw [c', if_pos rfl]
  cases c2 : (mget seen (GuidePoint.mk dep r.2.2.Arr ((k + 1 : Nat) : Int))).getD false with
  | true =>
   have hin := (hseen.1 c2).2
   refine ⟨out, seen, rfl, h.iff fun p => ⟨.inl, ?_⟩⟩
   rintro (hp | ⟨_, hp⟩)
   ·exact hp
   ·rw [hp]; exact (h.mem _).1 hin
  | false =>
   have hnin : (GuidePoint.mk dep r.2.2.Arr ((k + 1 : Nat) : Int)) ∉ out := fun hin => by
    have := hseen.2 ⟨rfl, hin⟩
    rw [c2] at this; cases this
   have hs := h.small
   refine ⟨out ++ [⟨dep, r.2.2.Arr, ((k + 1 : Nat) : Int)⟩], mput seen ⟨dep, r.2.2.Arr, ((k + 1 : Nat) : Int)⟩ true, ?_, ?_⟩
   ·rw [show (!false) = true from rfl, if_pos rfl, apd_lt (by rw [List.length_singleton]; omega)]
    rfl
   ·refine ⟨?_, fun p => ?_, fun p b => ?_, fun p hp => ?_⟩
    ·rw [List.nodup_append]
     exact ⟨h.nd, by simp, fun a ha b hb => by simp at hb; subst hb; exact fun e => hnin (e ▸ ha)⟩
    ·rw [List.mem_append, h.mem]
     simp [c]
    ·rw [mput_new (fun b hb => hnin ((h.seen _ _).1 hb).2), List.mem_append, h.seen, List.mem_append]
     simp only [List.mem_singleton, Prod.mk.injEq]
     constructor
     ·rintro (⟨h1, h2⟩ | ⟨h1, h2⟩)
      ·exact ⟨h1, .inl h2⟩
      ·exact ⟨h2, .inr h1⟩
     ·rintro ⟨h1, h2 | h2⟩
      ·exact .inl ⟨h1, h2⟩
      ·exact .inr ⟨h2, h1⟩
    ·rcases List.mem_append.1 hp with hp | hp
     ·exact h.box p hp
     ·simp at hp
      subst hp
      simp only
      omega
 ·have c' : (r.2.2.Station == to) = false := by simpa using c
  rw [c']
  exact ⟨out, seen, rfl, h.iff fun p => ⟨.inl, fun hp => hp.elim id fun q => absurd q.1 c⟩⟩
theorem pts_rng {F : List RR} (hF : ∀ q ∈ F, q ∈ AD d) {k : Nat} (hk : k < 4) : ∀ (n : Nat) (left : List (GuidePlace × Bool)) (st : List GuidePoint × List (GuidePoint × Bool)) (T : GuidePoint → Prop) (o : Orc), left.length ≤ n → Pts st.1 st.2 T → (∀ e ∈ left, ∃ r, SK d ls F k r ∧ plc r = e.1) →
  ∃ st', rngO (fun x st => GuideNetpoints.loop4.step ⟨d, ls⟩ to dep k x.1 x.2 st.1 st.2) n left st o = some st' ∧ Pts st'.1 st'.2 (fun p => T p ∨ ∃ e ∈ left, ∃ r, SK d ls F k r ∧ plc r = e.1 ∧ r.2.2.Station = to ∧ p = ⟨dep, r.2.2.Arr, ((k + 1 : Nat) : Int)⟩)
 | 0, left, st, T, o, hl, hb, _ => by
  obtain rfl : left = [] := List.eq_nil_of_length_eq_zero (by omega)
  exact ⟨st, rfl, hb.iff (by simp)⟩
 | n + 1, left, st, T, o, hl, hb, he => by
  rw [rngO]
  cases hx : left[o [] % left.length]? with
  | none =>
   have h0 : left = [] := by
    rcases Nat.eq_zero_or_pos left.length with z | z
    ·exact List.eq_nil_of_length_eq_zero z
    ·rw [List.getElem?_eq_getElem (Nat.mod_lt _ z)] at hx; cases hx
   subst h0
   exact ⟨st, rfl, hb.iff (by simp)⟩
  | some e =>
   obtain ⟨hi, hxe⟩ := List.getElem?_eq_some_iff.1 hx
   have hp := erase_perm left _ hi
   rw [hxe] at hp
   have hem : e ∈ left := List.mem_of_getElem? hx
   obtain ⟨r, hr, hre⟩ := he e hem
   have hA := SK_in hF k r hr
   obtain ⟨out1, seen1, s1, s2⟩ := pts_step hd hdep hk hA hre (u := e.2) (ls := ls) (to := to) hb (o.sub 0)
   simp only
   rw [s1, Option.bind_some]
   obtain ⟨st', k1, k2⟩ := pts_rng hF hk n (left.eraseIdx (o [] % left.length)) (out1, seen1) _ (o.sub 1) (by rw [List.length_eraseIdx_of_lt hi]; omega) s2 (fun e h => he e (List.mem_of_mem_eraseIdx h))
   refine ⟨st', k1, k2.iff fun p => ?_⟩
   have hmem : ∀ z, z ∈ left ↔ z = e ∨ z ∈ left.eraseIdx (o [] % left.length) := fun z => by rw [← hp.mem_iff, List.mem_cons]
   constructor
   ·rintro ((h | ⟨h1, h2⟩) | ⟨z, hz, y, h1, h2, h3⟩)
    ·exact .inl h
    ·exact .inr ⟨e, hem, r, hr, hre, h1, h2⟩
    ·exact .inr ⟨z, (hmem z).2 (.inr hz), y, h1, h2, h3⟩
   ·rintro (h | ⟨z, hz, y, h1, h2, h3, h4⟩)
    ·exact .inl (.inl h)
    ·rcases (hmem z).1 hz with rfl | hz
     ·have := (step_plc (ls := ls) (SK_in hF k y h1) hA (h2.trans hre.symm)).1
      exact .inl (.inr ⟨by rw [← this]; exact h3, by rw [h4, this]⟩)
     ·exact .inr ⟨z, hz, y, h1, h2, h3, h4⟩
theorem pts_cnt {F : List RR} (hF : ∀ q ∈ F, q ∈ AD d) {Ms : List (List (GuidePlace × Bool))} (hl : Ms.length = 4) (hM : ∀ (k : Nat) M, Ms[k]? = some M → Ends d ls F k M) : ∀ (n k : Nat) (st : List GuidePoint × List (GuidePoint × Bool)) (T : GuidePoint → Prop) (o : Orc), k + n = 4 → Pts st.1 st.2 T →
  ∃ st', cntO (fun x st => GuideNetpoints.loop3.step ⟨d, ls⟩ to dep Ms x st.1 st.2) n k st o = some st' ∧ Pts st'.1 st'.2 (fun p => T p ∨ ∃ j, k ≤ j ∧ j < 4 ∧ ∃ r, SK d ls F j r ∧ r.2.2.Station = to ∧ p = ⟨dep, r.2.2.Arr, ((j + 1 : Nat) : Int)⟩)
 | 0, k, st, T, o, hn, hb => ⟨st, rfl, hb.iff fun p => by
   constructor
   ·exact .inl
   ·rintro (h | ⟨j, h1, h2, _⟩)
    ·exact h
    ·omega⟩
 | n + 1, k, st, T, o, hn, hb => by
  have hk : k < Ms.length := by omega
  have hg : Ms[k]? = some Ms[k] := List.getElem?_eq_getElem hk
  have hE := hM k _ hg
  generalize Ms[k] = M at hg hE
  obtain ⟨s1, k1, k2⟩ := pts_rng hd hdep (ls := ls) (to := to) hF (k := k) (by omega) M.length M st T ((o.sub 0).sub 0) (Nat.le_refl _) hb (fun e he => ((hE e.1 e.2).1 he).2)
  have hstep : GuideNetpoints.loop3.step ⟨d, ls⟩ to dep Ms k st.1 st.2 (o.sub 0) = some s1 := by
   unfold GuideNetpoints.loop3.step
   rw [gx_nat, hg, Option.bind_some]
   show Option.bind (GuideNetpoints.loop4 ⟨d, ls⟩ to dep k M st.1 st.2 ((o.sub 0).sub 0)) _ = _
   unfold GuideNetpoints.loop4
   rw [k1]; rfl
  obtain ⟨s2, m1, m2⟩ := pts_cnt hF hl hM n (k + 1) s1 _ (o.sub 1) (by omega) k2
  refine ⟨s2, ?_, m2.iff fun p => ?_⟩
  ·rw [cntO, hstep, Option.bind_some]; exact m1
  ·constructor
   ·rintro ((h | ⟨e, he, r, h1, h2, h3⟩) | ⟨j, h1, h2, h3⟩)
    ·exact .inl h
    ·exact .inr ⟨k, Nat.le_refl _, by omega, r, h1, h3⟩
    ·exact .inr ⟨j, by omega, h2, h3⟩
   ·rintro (h | ⟨j, h1, h2, r, h3, h4⟩)
    ·exact .inl (.inl h)
    ·by_cases c : j = k
     ·subst c
      exact .inl (.inr ⟨(plc r, true), (hE _ _).2 ⟨rfl, r, h3, rfl⟩, r, h3, rfl, h4⟩)
     ·exact .inr ⟨j, by omega, h2, r, h3, h4⟩
end
section
variable {d : ApiDay} (hd : DayOk d) {ls : Int} (h0 : 0 ≤ ls ∧ ls ≤ 28800) {to : Int}
include hd h0
theorem pts_map {F : List RR} (hF : ∀ q ∈ F, q ∈ AD d) : ∀ (n : Nat) (left : List (Int × List GuideRide)) (st : List GuidePoint × List (GuidePoint × Bool)) (T : GuidePoint → Prop) (o : Orc), left.length ≤ n → Pts st.1 st.2 T →
  (∀ e ∈ left, (0 ≤ e.1 ∧ e.1 ≤ 28800) ∧ e.2 = (F.filter (fun q => q.2.1.Dep == e.1)).map (·.1)) →
  ∃ st', rngO (fun x st => GuideNetpoints.loop2.step ⟨d, ls⟩ to x.1 x.2 st.1 st.2) n left st o = some st' ∧ Pts st'.1 st'.2 (fun p => T p ∨ ∃ e ∈ left, ∃ j, j < 4 ∧ ∃ r, SK d ls (F.filter (fun q => q.2.1.Dep == e.1)) j r ∧ r.2.2.Station = to ∧ p = ⟨e.1, r.2.2.Arr, ((j + 1 : Nat) : Int)⟩)
 | 0, left, st, T, o, hl, hb, _ => by
  obtain rfl : left = [] := List.eq_nil_of_length_eq_zero (by omega)
  exact ⟨st, rfl, hb.iff (by simp)⟩
 | n + 1, left, st, T, o, hl, hb, he => by
  rw [rngO]
  cases hx : left[o [] % left.length]? with
  | none =>
   have h0 : left = [] := by
    rcases Nat.eq_zero_or_pos left.length with z | z
    ·exact List.eq_nil_of_length_eq_zero z
    ·rw [List.getElem?_eq_getElem (Nat.mod_lt _ z)] at hx; cases hx
   subst h0
   exact ⟨st, rfl, hb.iff (by simp)⟩
  | some e =>
   obtain ⟨hi, hxe⟩ := List.getElem?_eq_some_iff.1 hx
   have hp := erase_perm left _ hi
   rw [hxe] at hp
   have hem : e ∈ left := List.mem_of_getElem? hx
   obtain ⟨hdep, hL⟩ := he e hem
   have hF' : ∀ q ∈ F.filter (fun q => q.2.1.Dep == e.1), q ∈ AD d := fun q h => hF q (List.mem_filter.1 h).1
   obtain ⟨Ms, m1, m2, m3⟩ := ends_of hd h0 hF'
   obtain ⟨s1, k1, k2⟩ := pts_cnt hd hdep (ls := ls) (to := to) hF' m2 m3 4 0 st T ((o.sub 0).sub 0) rfl hb
   have hstep : GuideNetpoints.loop2.step ⟨d, ls⟩ to e.1 e.2 st.1 st.2 (o.sub 0) = some s1 := by
    unfold GuideNetpoints.loop2.step
    rw [hL, m1, Option.bind_some]
    show Option.bind (GuideNetpoints.loop3 ⟨d, ls⟩ to e.1 Ms 4 st.1 st.2 ((o.sub 0).sub 0)) _ = _
    unfold GuideNetpoints.loop3
    rw [k1]; rfl
   simp only
   rw [hstep, Option.bind_some]
   obtain ⟨st', j1, j2⟩ := pts_map hF n (left.eraseIdx (o [] % left.length)) s1 _ (o.sub 1) (by rw [List.length_eraseIdx_of_lt hi]; omega) k2 (fun e h => he e (List.mem_of_mem_eraseIdx h))
   refine ⟨st', j1, j2.iff fun p => ?_⟩
   have hmem : ∀ z, z ∈ left ↔ z = e ∨ z ∈ left.eraseIdx (o [] % left.length) := fun z => by rw [← hp.mem_iff, List.mem_cons]
   constructor
   ·rintro ((h | ⟨j, _, h2, h3⟩) | ⟨z, hz, h3⟩)
    ·exact .inl h
    ·exact .inr ⟨e, hem, j, h2, h3⟩
    ·exact .inr ⟨z, (hmem z).2 (.inr hz), h3⟩
   ·rintro (h | ⟨z, hz, j, h2, h3⟩)
    ·exact .inl (.inl h)
    ·rcases (hmem z).1 hz with rfl | hz
     ·exact .inl (.inr ⟨j, Nat.zero_le _, h2, h3⟩)
     ·exact .inr ⟨z, hz, j, h2, h3⟩
end
theorem dfs_ok {A : List RR} {ls : Int} {first fin : RR → Bool} {l : List RR} (h : l ∈ dfs A ls first fin 4 []) : l.length ≤ 4 ∧ l ≠ [] ∧ (∀ q ∈ l, q ∈ A) ∧ Ext A ls first [] l ∧ l.getLast?.any fin = true := by
 obtain ⟨s, h1, h2, h3, h4⟩ := (mem_dfs 4 [] l).1 h
 rw [List.nil_append] at h1
 subst h1
 exact ⟨h2, fun e => by subst e; simp at h3, ext_in l [] h4, h4, h3⟩
theorem points_all {d : ApiDay} (hd : DayOk d) {ls : Int} (h0 : 0 ≤ ls ∧ ls ≤ 28800) {st to : Int} (hto : 0 ≤ to) : ∃ ps, GuideNetpoints ⟨d, ls⟩ st to = some ps ∧ ps.length ≤ 3317990404 ∧ (∀ p, p ∈ ps ↔ ∃ c ∈ dfs (AD d) ls (fun q => q.2.1.Station == st) (finR to) 4 [], pt_ c = p) ∧ ps.Nodup ∧ AscF GuidecomparePoints ps := by
 have hF : ∀ q ∈ (AD d).filter (fits st 0 (-1)), q ∈ AD d := fun q h => (List.mem_filter.1 h).1
 have hfit : ∀ q ∈ AD d, (fits st 0 (-1) q = true ↔ (q.2.1.Station == st) = true) := by
  intro q hq
  have ht := AD_time hd hq
  unfold fits
  have e1 : (q.1.Train == (-1)) = false := by
   have : ¬ q.1.Train = -1 := by omega
   simpa using this
  rw [e1]
  simp
  omega
 obtain ⟨M, s1, s2⟩ := starts_of (d := d) (ls := ls) ((AD d).filter (fits st 0 (-1))) [] [] hF (by
  have := List.length_filter_le (fits st 0 (-1)) (AD d)
  have := AD_len hd
  simp only [List.length_nil]; omega) ⟨List.nodup_nil, by simp, by simp, by simp⟩
 rw [List.nil_append] at s2
 have key : ∀ o, ∃ out seen, GuideNetpoints.o ⟨d, ls⟩ st to o = some (isortF GuidecomparePoints out) ∧ Pts out seen (fun p => ∃ c ∈ dfs (AD d) ls (fun q => q.2.1.Station == st) (finR to) 4 [], pt_ c = p) := by
  intro o
  obtain ⟨⟨out, seen⟩, k1, k2⟩ := pts_map hd h0 (to := to) hF M.length M ([], []) (fun _ => False) (o.sub 0) (Nat.le_refl _) ⟨List.nodup_nil, by simp, by simp, by simp⟩ (fun e he => by
   obtain ⟨q, h1, h2⟩ := s2.from_ e.1 e.2 he
   have := AD_time hd (hF q h1)
   exact ⟨by omega, s2.is e.1 e.2 he⟩)
  refine ⟨out, seen, ?_, k2.iff fun p => ?_⟩
  ·unfold GuideNetpoints.o
   rw [bnd_eq, mem_rides, s1, Option.bind_some]
   show Option.bind (GuideNetpoints.loop2 ⟨d, ls⟩ to M [] [] (o.sub 0)) _ = _
   unfold GuideNetpoints.loop2
   rw [k1, Option.bind_some]
   show Option.bind (srtF GuidecomparePoints out) _ = _
   rw [srtF_of (okP out) (by have := k2.small; simp only at this; omega)]
   rfl
  ·constructor
   ·rintro (h | ⟨e, he, j, hj, r, h1, h2, h3⟩)
    ·exact h.elim
    ·obtain ⟨z, s, q1, q2, q3, q4⟩ := SK_ext (first := fun q => q.2.1.Station == st) (fun q hq => by
      have h4 := (List.mem_filter.1 hq).1
      exact ⟨hF q h4, (hfit q (hF q h4)).1 (List.mem_filter.1 h4).2⟩) j r h1
     refine ⟨z :: s, (mem_dfs 4 [] _).2 ⟨z :: s, rfl, by simp; omega, ?_, q3⟩, ?_⟩
     ·rw [q4]
      simp [finR, h2]
     ·have hz : z.2.1.Dep = e.1 := by simpa using (List.mem_filter.1 q1).2
      rw [h3]
      unfold pt_
      rw [q4]
      simp [hz, q2]
   ·rintro ⟨c, hc, rfl⟩
    obtain ⟨l1, l2, l3, l4, l5⟩ := dfs_ok hc
    obtain ⟨b, s, rfl⟩ : ∃ b s, c = b :: s := by
     cases c with
     | nil => exact absurd rfl l2
     | cons b s => exact ⟨b, s, rfl⟩
    obtain ⟨z, hz⟩ : ∃ z, (b :: s).getLast? = some z := ⟨_, List.getLast?_eq_some_getLast (by simp)⟩
    have hbF : b ∈ (AD d).filter (fits st 0 (-1)) := List.mem_filter.2 ⟨l4.1, (hfit b l4.1).2 l4.2.1⟩
    obtain ⟨L, hL⟩ := s2.all b hbF
    have hb : SK d ls (((AD d).filter (fits st 0 (-1))).filter (fun q => q.2.1.Dep == b.2.1.Dep)) 0 b := List.mem_filter.2 ⟨hbF, by simp⟩
    have := ext_SK s [b] b z 0 rfl hb (by simpa using l4.2.2) hz
    rw [hz] at l5
    refine .inr ⟨(b.2.1.Dep, L), hL, 0 + s.length, by simp at l1; omega, z, this, ?_, ?_⟩
    ·simp [finR] at l5
     rcases l5 with h | h
     ·omega
     ·exact h
    ·unfold pt_
     rw [hz]
     simp
 obtain ⟨out0, seen0, g1, g2⟩ := key (fun _ => 0)
 refine ⟨isortF GuidecomparePoints out0, same_of fun o => ?_, ?_, fun p => ?_, (isortF_perm _ _).nodup_iff.2 g2.nd, isortF_asc (okP _)⟩
 ·obtain ⟨out, seen, k1, k2⟩ := key o
  rw [k1]
  congr 1
  have hp : out.Perm out0 := (List.perm_ext_iff_of_nodup k2.nd g2.nd).2 fun p => by rw [k2.mem, g2.mem]
  refine asc_one (okP _) ?_ (isortF_asc (okP _)) (isortF_asc (okP _))
  exact (isortF_perm _ _).trans (hp.trans (isortF_perm _ _).symm)
 ·rw [isortF_length]; exact g2.small
 ·rw [(isortF_perm _ _).mem_iff, g2.mem]
theorem last_of {l : List RR} {q : RR} (h : l.getLast? = some q) (hs : l.length ≤ 4) : gx (l.map (·.1)) (w64 ((((l.map (·.1)).length : Nat) : Int) - 1)) = some q.1 := by
 have hne : l ≠ [] := fun e => by subst e; cases h
 have hp := List.length_pos_iff.2 hne
 rw [gx_prev (by rw [List.length_map]; exact hp) (Nat.le_refl _) (by rw [List.length_map]; omega)]
 rw [List.getLast?_eq_getElem?, List.getElem?_eq_some_iff] at h
 obtain ⟨h1, h2⟩ := h
 simp [h2]
theorem arrives_of {d : ApiDay} {l : List RR} {q : RR} (h : l.getLast? = some q) (hs : l.length ≤ 4) (hA : q ∈ AD d) : Fishref2Arrives d (JJ l) = some q.2.2.Arr := by
 obtain ⟨x, o⟩ := AD_ok hA
 rw [Fishref2Arrives]
 rw [show (JJ l).Rides = l.map (·.1) from rfl, last_of h hs]
 simp only [Option.bind_some, o.tr, o.off]
theorem leaves_of {d : ApiDay} {q : RR} {s : List RR} (hA : q ∈ AD d) : Fishref2Leaves d (JJ (q :: s)) = some q.2.1.Dep := by
 obtain ⟨x, o⟩ := AD_ok hA
 rw [Fishref2Leaves]
 have : gx (JJ (q :: s)).Rides 0 = some q.1 := rfl
 rw [this]
 simp only [Option.bind_some, o.tr, o.on]
theorem cmp_three (a1 a2 a3 b1 b2 b3 : Int) : ∃ v, SlicesCompareLint [a1, a2, a3] [b1, b2, b3] = some v ∧ (v < 0 ↔ a1 < b1 ∨ a1 = b1 ∧ (a2 < b2 ∨ a2 = b2 ∧ a3 < b3)) := by
 have g0 : gx [b1, b2, b3] ((0 : Nat) : Int) = some b1 := rfl
 have g1 : gx [b1, b2, b3] ((0 + 1 : Nat) : Int) = some b2 := rfl
 have g2 : gx [b1, b2, b3] ((0 + 1 + 1 : Nat) : Int) = some b3 := rfl
 rw [SlicesCompareLint]
 simp only [SlicesCompareLint.loop1, g0, g1, g2, Option.bind_some]
 have n0 : decide (((0 : Nat) : Int) ≥ (([b1, b2, b3] : List Int).length : Int)) = false := by simp
 have n1 : decide (((0 + 1 : Nat) : Int) ≥ (([b1, b2, b3] : List Int).length : Int)) = false := by simp
 have n2 : decide (((0 + 1 + 1 : Nat) : Int) ≥ (([b1, b2, b3] : List Int).length : Int)) = false := by simp
 rw [n0, n1, n2]
 simp only [Bool.false_eq_true, if_false]
 by_cases c1 : CmpCompareint a1 b1 = 0
 ·have e1 := (cmpi_zero _ _).1 c1
  rw [c1]
  by_cases c2 : CmpCompareint a2 b2 = 0
  ·have e2 := (cmpi_zero _ _).1 c2
   rw [c2]
   by_cases c3 : CmpCompareint a3 b3 = 0
   ·have e3 := (cmpi_zero _ _).1 c3
    rw [c3]
    refine ⟨0, rfl, ?_⟩
    omega
   ·have b : (CmpCompareint a3 b3 != 0) = true := by simpa using c3
    rw [b]
    refine ⟨CmpCompareint a3 b3, rfl, ?_⟩
    rw [cmpi_lt]; omega
  ·have b : (CmpCompareint a2 b2 != 0) = true := by simpa using c2
   have e2 : ¬ a2 = b2 := fun e => c2 ((cmpi_zero _ _).2 e)
   rw [b]
   refine ⟨CmpCompareint a2 b2, rfl, ?_⟩
   rw [cmpi_lt]; omega
 ·have b : (CmpCompareint a1 b1 != 0) = true := by simpa using c1
  have e1 : ¬ a1 = b1 := fun e => c1 ((cmpi_zero _ _).2 e)
  rw [b]
  refine ⟨CmpCompareint a1 b1, rfl, ?_⟩
  rw [cmpi_lt]; omega
theorem any_idx (y : GuidePoint) : ∀ (l : List GuidePoint) (k : Nat), (l.any (fun q => GuideProfile_1_v1 q y) = true ∧ ∃ j : Nat, SlicesIndexFuncLguidePoint_v1.loop1 y l k = .ret (j : Int)) ∨ (l.any (fun q => GuideProfile_1_v1 q y) = false ∧ SlicesIndexFuncLguidePoint_v1.loop1 y l k = .next ())
 | [], k => .inr ⟨rfl, rfl⟩
 | x :: l, k => by
  rw [SlicesIndexFuncLguidePoint_v1.loop1, List.any_cons]
  cases c : GuideProfile_1_v1 x y with
  | true => exact .inl ⟨rfl, k, rfl⟩
  | false => simpa using any_idx y l (k + 1)
theorem any_of (l : List GuidePoint) (y : GuidePoint) : SlicesContainsFuncLguidePoint_v1 l y = l.any (fun q => GuideProfile_1_v1 q y) := by
 rw [SlicesContainsFuncLguidePoint_v1, SlicesIndexFuncLguidePoint_v1, bnd_eq]
 rcases any_idx y l 0 with ⟨h, j, k⟩ | ⟨h, k⟩
 ·rw [h, k]; simp
 ·rw [h, k]; rfl
theorem has_idx (y : GuidePoint) : ∀ (l : List GuidePoint) (k : Nat), (y ∈ l ∧ ∃ j : Nat, SlicesIndexLguidePoint.loop1 y l k = .ret (j : Int)) ∨ (y ∉ l ∧ SlicesIndexLguidePoint.loop1 y l k = .next ())
 | [], k => .inr ⟨by simp, rfl⟩
 | x :: l, k => by
  rw [SlicesIndexLguidePoint.loop1]
  by_cases c : y = x
  ·subst c
   exact .inl ⟨by simp, k, by simp⟩
  ·have : ((y.Dep == x.Dep) && ((y.Arr == x.Arr) && (y.Rides == x.Rides))) = false := by
    cases e : ((y.Dep == x.Dep) && ((y.Arr == x.Arr) && (y.Rides == x.Rides))) with
    | false => rfl
    | true =>
     exfalso
     apply c
     obtain ⟨a1, a2, a3⟩ := y
     obtain ⟨b1, b2, b3⟩ := x
     simp at e
     simp [e]
   rw [this, if_neg (by decide)]
   rcases has_idx y l (k + 1) with ⟨h1, h2⟩ | ⟨h1, h2⟩
   ·exact .inl ⟨List.mem_cons_of_mem _ h1, h2⟩
   ·exact .inr ⟨fun h => by
     rcases List.mem_cons.1 h with h | h
     ·exact c h
     ·exact h1 h, h2⟩
theorem has_of (l : List GuidePoint) (y : GuidePoint) : SlicesContainsLguidePoint l y = true ↔ y ∈ l := by
 rw [SlicesContainsLguidePoint, SlicesIndexLguidePoint, bnd_eq]
 rcases has_idx y l 0 with ⟨h, j, k⟩ | ⟨h, k⟩
 ·rw [k]; simp [h]
 ·rw [k]; simp [h]
theorem prof_loop (l : List GuidePoint) : ∀ (r : List GuidePoint) (k : Nat) (acc : List GuidePoint), l.drop k = r → acc.length + r.length < 4294967296 →
  GuideProfile.loop1 l r.length k acc = some (acc ++ r.filter (fun p => !l.any (fun q => GuideProfile_1_v1 q p)))
 | [], k, acc, _, _ => by simp [GuideProfile.loop1]
 | x :: r, k, acc, hdr, hl => by
  obtain ⟨d1, d2, d3⟩ := drop_cons hdr
  simp only [List.length_cons] at hl
  rw [List.length_cons, GuideProfile.loop1, gx_nat, d2, Option.bind_some, any_of]
  cases c : l.any (fun q => GuideProfile_1_v1 q x) with
  | true =>
   rw [show (!true) = false from rfl, if_neg (by decide), Option.bind_some, prof_loop l r (k + 1) acc d3 (by omega), List.filter_cons_of_neg (by rw [c]; decide)]
  | false =>
   rw [show (!false) = true from rfl, if_pos rfl, apd_lt (by simp; omega), Option.bind_some, Option.bind_some, prof_loop l r (k + 1) _ d3 (by rw [List.length_append]; simp; omega), List.filter_cons_of_pos (by rw [c]; decide)]
   simp
section
variable {d : ApiDay} {L : List (List RR)} (hL : ∀ c ∈ L, c.length ≤ 4 ∧ c ≠ [] ∧ ∀ q ∈ c, q ∈ AD d)
include hL
theorem pts_loop : ∀ (r : List (List RR)) (k : Nat) (acc : List GuidePoint), L.drop k = r → acc.length + r.length < 4294967296 →
  Fishref2ProfileOf.loop1 d (L.map JJ) r.length k acc = some (acc ++ r.map pt_)
 | [], k, acc, _, _ => by simp [Fishref2ProfileOf.loop1]
 | c :: r, k, acc, hdr, hl => by
  obtain ⟨d1, d2, d3⟩ := drop_cons hdr
  obtain ⟨h4, hne, hA⟩ := hL c (List.mem_of_getElem? d2)
  obtain ⟨b, s, rfl⟩ : ∃ b s, c = b :: s := by
   cases c with
   | nil => exact absurd rfl hne
   | cons b s => exact ⟨b, s, rfl⟩
  obtain ⟨z, hz⟩ : ∃ z, (b :: s).getLast? = some z := ⟨_, List.getLast?_eq_some_getLast (by simp)⟩
  simp only [List.length_cons] at hl
  rw [List.length_cons, Fishref2ProfileOf.loop1, gx_nat, List.getElem?_map, d2]
  simp only [Option.map_some, Option.bind_some]
  rw [leaves_of (hA b (List.mem_cons_self ..)), Option.bind_some, arrives_of hz h4 (hA z (List.mem_of_getLast? hz)), Option.bind_some, apd_lt (by simp; omega), Option.bind_some, pts_loop r (k + 1) _ d3 (by rw [List.length_append]; simp; omega)]
  have : pt_ (b :: s) = ⟨b.2.1.Dep, z.2.2.Arr, (((JJ (b :: s)).Rides.length : Nat) : Int)⟩ := by
   unfold pt_
   rw [hz]
   simp [JJ]
  rw [show List.map pt_ ((b :: s) :: r) = pt_ (b :: s) :: r.map pt_ from rfl, this]
  simp [JJ]
end
theorem bad_loop (l : List GuidePoint) (x : GuidePoint) : ∀ (r : List GuidePoint) (k : Nat) (b : Bool), l.drop k = r →
  Fishref2ProfileOf.loop3 l x r.length k b = some (b && !r.any (fun q => GuideProfile_1_v1 q x))
 | [], k, b, _ => by simp [Fishref2ProfileOf.loop3]
 | y :: r, k, b, hdr => by
  obtain ⟨d1, d2, d3⟩ := drop_cons hdr
  rw [List.length_cons, Fishref2ProfileOf.loop3, gx_nat, d2, Option.bind_some, bnd_eq, bnd_eq]
  rw [show (if (!((y.Dep == x.Dep) && ((y.Arr == x.Arr) && (y.Rides == x.Rides)))) = true then (if decide (y.Dep ≥ x.Dep) = true then (if decide (y.Arr ≤ x.Arr) = true then decide (y.Rides ≤ x.Rides) else false) else false) else false) = GuideProfile_1_v1 y x from rfl]
  rw [bad_loop l x r (k + 1) _ d3, List.any_cons]
  cases GuideProfile_1_v1 y x <;> simp
theorem good_loop (l : List GuidePoint) : ∀ (r : List GuidePoint) (k : Nat) (acc : List GuidePoint), l.drop k = r → acc.length + r.length < 4294967296 → acc.Nodup →
  ∃ out, Fishref2ProfileOf.loop2 l r.length k acc = some out ∧ out.Nodup ∧ out.length ≤ acc.length + r.length ∧ ∀ p, p ∈ out ↔ p ∈ acc ∨ (p ∈ r ∧ l.any (fun q => GuideProfile_1_v1 q p) = false)
 | [], k, acc, _, _, h => ⟨acc, rfl, h, by simp, by simp⟩
 | x :: r, k, acc, hdr, hl, h => by
  obtain ⟨d1, d2, d3⟩ := drop_cons hdr
  simp only [List.length_cons] at hl
  rw [List.length_cons, Fishref2ProfileOf.loop2, gx_nat, d2, Option.bind_some, bad_loop l x l 0 true List.drop_zero, Option.bind_some, bnd_eq]
  rw [Bool.true_and]
  cases c : l.any (fun q => GuideProfile_1_v1 q x) with
  | true =>
   rw [show ((if (!true) = true then !SlicesContainsLguidePoint acc x else false) : Bool) = false from rfl, if_neg (by decide), Option.bind_some]
   obtain ⟨out, k1, k2, k3, k4⟩ := good_loop l r (k + 1) acc d3 (by omega) h
   refine ⟨out, k1, k2, by omega, fun p => ?_⟩
   rw [k4]
   constructor
   ·rintro (h | ⟨h1, h2⟩)
    ·exact .inl h
    ·exact .inr ⟨List.mem_cons_of_mem _ h1, h2⟩
   ·rintro (h | ⟨h1, h2⟩)
    ·exact .inl h
    ·rcases List.mem_cons.1 h1 with rfl | h1
     ·rw [c] at h2; cases h2
     ·exact .inr ⟨h1, h2⟩
  | false =>
   rw [show (!false) = true from rfl, if_pos rfl]
   by_cases e : x ∈ acc
   ·rw [(has_of _ _).2 e, show (!true) = false from rfl, if_neg (by decide), Option.bind_some]
    obtain ⟨out, k1, k2, k3, k4⟩ := good_loop l r (k + 1) acc d3 (by omega) h
    refine ⟨out, k1, k2, by omega, fun p => ?_⟩
    rw [k4]
    constructor
    ·rintro (h | ⟨h1, h2⟩)
     ·exact .inl h
     ·exact .inr ⟨List.mem_cons_of_mem _ h1, h2⟩
    ·rintro (h | ⟨h1, h2⟩)
     ·exact .inl h
     ·rcases List.mem_cons.1 h1 with rfl | h1
      ·exact .inl e
      ·exact .inr ⟨h1, h2⟩
   ·have e' : SlicesContainsLguidePoint acc x = false := by
     cases e2 : SlicesContainsLguidePoint acc x with
     | false => rfl
     | true => exact absurd ((has_of _ _).1 e2) e
    rw [e', show (!false) = true from rfl, if_pos rfl, apd_lt (by simp; omega), Option.bind_some, Option.bind_some]
    obtain ⟨out, k1, k2, k3, k4⟩ := good_loop l r (k + 1) (acc ++ [x]) d3 (by rw [List.length_append]; simp; omega) (by
     rw [List.nodup_append]
     exact ⟨h, by simp, fun a ha b hb => by simp at hb; subst hb; exact fun q => e (q ▸ ha)⟩)
    refine ⟨out, k1, k2, by rw [List.length_append, List.length_singleton] at k3; omega, fun p => ?_⟩
    rw [k4, List.mem_append]
    constructor
    ·rintro ((h | h) | ⟨h1, h2⟩)
     ·exact .inl h
     ·simp at h; subst h; exact .inr ⟨by simp, c⟩
     ·exact .inr ⟨List.mem_cons_of_mem _ h1, h2⟩
    ·rintro (h | ⟨h1, h2⟩)
     ·exact .inl (.inl h)
     ·rcases List.mem_cons.1 h1 with rfl | h1
      ·exact .inl (.inr (by simp))
      ·exact .inr ⟨h1, h2⟩
theorem cmpT (p q : GuidePoint) : Fishref2ProfileOf_1T p q < 0 ↔ lexP p q := by
 obtain ⟨v, h1, h2⟩ := cmp_three p.Dep p.Arr p.Rides q.Dep q.Arr q.Rides
 unfold Fishref2ProfileOf_1T Fishref2ProfileOf_1
 rw [h1]
 exact h2
theorem okT (l : List GuidePoint) : OkF Fishref2ProfileOf_1T l := by
 have h := okP l
 refine ⟨fun x hx => ?_, fun x hx y hy z hz => ?_, fun x hx y hy => ?_⟩
 ·have := h.irr x hx; rwa [cmpT, ← cmpP]
 ·have := h.tr x hx y hy z hz; rwa [cmpT, cmpT, cmpT, ← cmpP, ← cmpP, ← cmpP]
 ·have := h.tie x hx y hy; rwa [cmpT, cmpT, ← cmpP, ← cmpP]
theorem profile_of {d : ApiDay} (hd : DayOk d) {ls : Int} (h0 : 0 ≤ ls ∧ ls ≤ 28800) {st to : Int} (hto : 0 ≤ to) {fu : Nat} (hfu : 40 ≤ fu) :
  ∃ l, ((GuideNetpoints ⟨d, ls⟩ st to).bind fun q56 => ((GuideProfile.loop1 q56 q56.length 0 []).bind fun q79 => some (q79, (0 : Int)))) = some (l, 0) ∧ Fishref2ProfileOf fu d st to ls = some l := by
 obtain ⟨ps, p1, p2, p3, p4, p5⟩ := points_all hd h0 (st := st) hto
 have hJ := fun (c : List RR) (h : c ∈ dfs (AD d) ls (fun q => q.2.1.Station == st) (finR to) 4 []) => (show c.length ≤ 4 ∧ c ≠ [] ∧ ∀ q ∈ c, q ∈ AD d from ⟨(dfs_ok h).1, (dfs_ok h).2.1, (dfs_ok h).2.2.1⟩)
 have hsm := dfs_small hd h0.1 (fun q => q.2.1.Station == st) (finR to)
 generalize hJe : dfs (AD d) ls (fun q => q.2.1.Station == st) (finR to) 4 [] = J at *
 have hmem : ∀ p, p ∈ ps ↔ p ∈ J.map pt_ := fun p => by rw [p3]; simp [List.mem_map]
 have hany : ∀ p, (J.map pt_).any (fun q => GuideProfile_1_v1 q p) = ps.any (fun q => GuideProfile_1_v1 q p) := fun p => by
  rw [Bool.eq_iff_iff, List.any_eq_true, List.any_eq_true]
  constructor
  ·rintro ⟨q, h1, h2⟩; exact ⟨q, (hmem q).2 h1, h2⟩
  ·rintro ⟨q, h1, h2⟩; exact ⟨q, (hmem q).1 h1, h2⟩
 refine ⟨ps.filter (fun p => !ps.any (fun q => GuideProfile_1_v1 q p)), ?_, ?_⟩
 ·rw [p1, Option.bind_some, prof_loop ps ps 0 [] List.drop_zero (by simp; omega), Option.bind_some, List.nil_append]
 ·obtain ⟨out, k1, k2, k3, k4⟩ := good_loop (J.map pt_) (J.map pt_) 0 [] List.drop_zero (by simpa using hsm) List.nodup_nil
  rw [Fishref2ProfileOf, allof hd h0 st to hfu, hJe, Option.bind_some]
  have := pts_loop hJ J 0 [] List.drop_zero (by simpa using hsm)
  rw [List.length_map, this, Option.bind_some, List.nil_append, k1, Option.bind_some, srtF_of (okT _) (by simp at k3; omega), Option.bind_some]
  congr 1
  refine asc_one (okT _) ?_ (isortF_asc (okT _)) ?_
  ·refine (isortF_perm _ _).trans ((List.perm_ext_iff_of_nodup k2 (p4.filter _)).2 fun p => ?_)
   rw [k4, List.mem_filter, hmem p, hany p]
   simp
  ·refine (p5.filter _).imp ?_
   intro a b h
   rwa [cmpT, ← cmpP]
section
variable {d : ApiDay} (hd : DayOk d) {ls : Int} (h0 : 0 ≤ ls ∧ ls ≤ 28800)
def lives (A : List RR) (ls : Int) (fin : RR → Bool) : Nat → RR → Bool
 | 0, _ => false
 | n + 1, r => (A.filter (stepB ls r)).any fun q => fin q || lives A ls fin n q
theorem lives_plc {fin : RR → Bool} {n : Nat} {r q : RR} (hr : r ∈ AD d) (hq : q ∈ AD d) (h : plc r = plc q) : lives (AD d) ls fin n r = lives (AD d) ls fin n q := by
 obtain ⟨h1, h2⟩ := step_plc (ls := ls) hr hq h
 cases n with
 | zero => rfl
 | succ n => rw [lives, lives, show stepB ls r = stepB ls q from funext h2]
theorem lives_dfs {A : List RR} {first fin : RR → Bool} : ∀ (n : Nat) (c : List RR) (r : RR), lives A ls fin n r = false → dfs A ls first fin n (c ++ [r]) = if fin r = true then [c ++ [r]] else []
 | 0, c, r, _ => by rw [dfs]; simp
 | n + 1, c, r, h => by
  rw [dfs, nx_snoc]
  have hz : (A.filter (stepB ls r)).flatMap (fun q => dfs A ls first fin n (c ++ [r] ++ [q])) = [] := by
   rw [List.flatMap_eq_nil_iff]
   intro q hq
   rw [lives, List.any_eq_false] at h
   have hq' := h q hq
   simp only [Bool.or_eq_true, not_or, Bool.not_eq_true] at hq'
   rw [lives_dfs n (c ++ [r]) q hq'.2, hq'.1]
   rfl
  rw [hz]; simp
theorem dfs_lives {A : List RR} {first fin : RR → Bool} : ∀ (n : Nat) (c : List RR) (r : RR), (A.filter (stepB ls r)).flatMap (fun q => dfs A ls first fin n (c ++ [r] ++ [q])) = [] → lives A ls fin (n + 1) r = false
 | n, c, r, h => by
  rw [List.flatMap_eq_nil_iff] at h
  rw [lives, List.any_eq_false]
  intro q hq
  have hq' := h q hq
  cases n with
  | zero =>
   rw [dfs] at hq'
   simp at hq'
   simp [lives, hq']
  | succ n =>
   rw [dfs, List.append_eq_nil_iff, nx_snoc] at hq'
   have h1 : fin q = false := by
    have := hq'.1
    simpa using this
   have h2 := dfs_lives n (c ++ [r]) q hq'.2
   simp [h1, h2]
theorem take_take_app {α : Type} (a b : List α) (n : Nat) : (a.take n ++ b).take n = (a ++ b).take n := by
 rw [List.take_append, List.take_append, List.take_take, Nat.min_self, List.length_take]
 congr 2
 omega
def DeadA (d : ApiDay) (ls : Int) (fin : RR → Bool) (m : List (Ar3i64 × Bool)) : Prop := ∀ (r : RR) (n : Nat), r ∈ AD d → (mget m ⟨r.1.Train, r.1.Off, (n : Int)⟩).getD false = true → lives (AD d) ls fin (4 - n) r = false
include hd h0 in
theorem all_grow {first : RR → Bool} {to : Int} (hto : 0 ≤ to) {most : Nat} (hmost : most ≤ 200) : ∀ (m fu : Nat) (c : List RR) (out : List GuideJourney) (dead : List (Ar3i64 × Bool)), m + 2 ≤ fu → c.length + (m + 1) = 4 → (∀ q ∈ c, q ∈ AD d) → out.length ≤ most → DeadA d ls (finR to) dead →
  ∃ b dead', GuideAll_1_v1 fu (c.map (·.1)) (((AD d).filter (nx ls first c)).map (·.1)) out (most : Int) ⟨d, ls⟩ to dead = some (b, dead', (out ++ (((AD d).filter (nx ls first c)).flatMap fun r => dfs (AD d) ls first (finR to) m (c ++ [r])).map JJ).take most) ∧
   DeadA d ls (finR to) dead' ∧ (b = false → (((AD d).filter (nx ls first c)).flatMap fun r => dfs (AD d) ls first (finR to) m (c ++ [r])) = [])
 | _, 0, _, _, _, h, _, _, _, _ => absurd h (by omega)
 | m, fu + 1, c, out, dead, hfu, hlen, hA, hout, hdead => by
  rw [GuideAll_1_v1]
  have loop : ∀ (l : List RR) (fl : Bool) (out : List GuideJourney) (dead : List (Ar3i64 × Bool)) (u : Bool), (∀ q ∈ l, q ∈ AD d) → out.length ≤ most → DeadA d ls (finR to) dead →
    ∃ x, GuideAll_1_v1.loop1 (c.map (·.1)) (most : Int) ⟨d, ls⟩ to (GuideAll_1_v1 fu) (l.map (·.1)) u fl dead out = some x ∧
     ∃ b dead', (match x with | .ret (q83, _, q85, q86) => (some (q83, q85, q86) : Option (Bool × List (Ar3i64 × Bool) × List GuideJourney)) | .next (_, q84, q85, q86) => some (q84, q85, q86)) = some (b, dead', (out ++ (l.flatMap fun r => dfs (AD d) ls first (finR to) m (c ++ [r])).map JJ).take most) ∧
      DeadA d ls (finR to) dead' ∧ (b = false → fl = false ∧ (l.flatMap fun r => dfs (AD d) ls first (finR to) m (c ++ [r])) = []) := by
   intro l
   induction l with
   | nil =>
    intro fl out dead u _ ho hde
    refine ⟨_, rfl, fl, dead, ?_, hde, fun h => ⟨h, rfl⟩⟩
    simp [List.take_of_length_le ho]
   | cons r l ih =>
    intro fl out dead u hl ho hde
    have hr := hl r (List.mem_cons_self ..)
    have hfin : finR to r = (r.2.2.Station == to) := by unfold finR; rw [if_neg (by simp; omega)]
    rw [List.map_cons, GuideAll_1_v1.loop1]
    by_cases c1 : out.length = most
    ·have : (((out.length : Nat) : Int) == (most : Int)) = true := by simp [c1]
     rw [this, if_pos rfl]
     refine ⟨_, rfl, true, dead, ?_, hde, fun h => by cases h⟩
     have : (out ++ ((r :: l).flatMap fun r => dfs (AD d) ls first (finR to) m (c ++ [r])).map JJ).take most = out := by
      rw [List.take_append, ← c1, List.take_length]; simp
     rw [this]
    ·have : (((out.length : Nat) : Int) == (most : Int)) = false := by
      have : ¬ ((out.length : Nat) : Int) = (most : Int) := by omega
      simpa using this
     rw [this, if_neg (by decide)]
     have hcl : (c.map (·.1)).length ≤ 3 := by rw [List.length_map]; omega
     rw [SlicesCloneLguideRide, apd_lt (by simp; omega), Option.bind_some, Option.bind_some, List.nil_append, apd_lt (by simp; omega), Option.bind_some, off_of hr, Option.bind_some]
     have hway : c.map (·.1) ++ [r.1] = (c ++ [r]).map (·.1) := by simp
     rw [hway]
     have hlw : ((((c ++ [r]).map (·.1)).length : Nat) : Int) = ((4 - m : Nat) : Int) := by
      rw [List.length_map, List.length_append, List.length_singleton]; omega
     rw [hlw]
     -- the journey that ends here
     obtain ⟨fl1, out1, e1, e2, e3, e4⟩ : ∃ fl1 out1, (((if (r.2.2.Station == to) = true then ((apd out [(GuideJourney.mk ((c ++ [r]).map (·.1)))]).bind fun x139 => some (true, x139)) else some (fl, out)) : Option (Bool × (List GuideJourney)))) = some (fl1, out1) ∧ out1 = out ++ (if finR to r = true then [c ++ [r]] else []).map JJ ∧ out1.length ≤ most ∧ (fl1 = false → fl = false ∧ finR to r = false) := by
      cases c2 : (r.2.2.Station == to) with
      | true =>
       rw [if_pos rfl, apd_lt (by simp; omega), Option.bind_some]
       refine ⟨_, _, rfl, ?_, by simp; omega, fun h => by cases h⟩
       rw [hfin, c2]; rfl
      | false =>
       rw [if_neg (by decide)]
       refine ⟨_, _, rfl, ?_, ho, fun h => ⟨h, by rw [hfin, c2]⟩⟩
       rw [hfin, c2]; simp
     rw [e1, Option.bind_some]
     simp only [bnd_eq]
     by_cases c3 : m = 0 ∨ (mget dead ⟨r.1.Train, r.1.Off, ((4 - m : Nat) : Int)⟩).getD false = true
     ·have hcond : (if (((4 - m : Nat) : Int) == 4) = true then true else (mget dead (Ar3i64.mk r.1.Train r.1.Off ((4 - m : Nat) : Int))).getD false) = true := by
       rcases c3 with c3 | c3
       ·subst c3; rfl
       ·rw [c3]; split <;> rfl
      rw [hcond, if_pos rfl]
      have hlv : lives (AD d) ls (finR to) m r = false := by
       rcases c3 with c3 | c3
       ·subst c3; rfl
       ·have := hde r (4 - m) hr c3
        rwa [show 4 - (4 - m) = m by omega] at this
      have hdf := lives_dfs (first := first) m c r hlv
      obtain ⟨x, x1, b, dead', x2, x3, x4⟩ := ih fl1 out1 dead u (fun z h => hl z (List.mem_cons_of_mem _ h)) e3 hde
      refine ⟨x, x1, b, dead', ?_, x3, fun h => ?_⟩
      ·rw [x2, e2, List.flatMap_cons, hdf, List.map_append, List.append_assoc]
      ·obtain ⟨y1, y2⟩ := x4 h
       obtain ⟨y3, y4⟩ := e4 y1
       refine ⟨y3, ?_⟩
       rw [List.flatMap_cons, hdf, y4, y2]; rfl
     ·have hm0 : ¬ m = 0 := fun h => c3 (.inl h)
      have hm1 : (mget dead ⟨r.1.Train, r.1.Off, ((4 - m : Nat) : Int)⟩).getD false = false := by
       cases e : (mget dead ⟨r.1.Train, r.1.Off, ((4 - m : Nat) : Int)⟩).getD false with
       | false => rfl
       | true => exact absurd (.inr e) c3
      have hcond : (if (((4 - m : Nat) : Int) == 4) = true then true else (mget dead (Ar3i64.mk r.1.Train r.1.Off ((4 - m : Nat) : Int))).getD false) = false := by
       have : (((4 - m : Nat) : Int) == 4) = false := by
        have : ¬ ((4 - m : Nat) : Int) = 4 := by omega
        simpa using this
       rw [this, if_neg (by decide), hm1]
      rw [hcond, if_neg (by decide), behind_of hd h0 hr, Option.bind_some]
      obtain ⟨m', rfl⟩ : ∃ m', m = m' + 1 := ⟨m - 1, by omega⟩
      obtain ⟨b1, dead1, g1, g2, g3⟩ := all_grow hto hmost (first := first) m' fu (c ++ [r]) out1 dead (by omega) (by rw [List.length_append]; simp; omega) (by
       intro z hz
       rcases List.mem_append.1 hz with hz | hz
       ·exact hA z hz
       ·simp at hz; subst hz; exact hr) e3 hde
      rw [nx_snoc] at g1 g3
      rw [g1, Option.bind_some]
      simp only
      have hdf : dfs (AD d) ls first (finR to) (m' + 1) (c ++ [r]) = (if finR to r = true then [c ++ [r]] else []) ++ (((AD d).filter (stepB ls r)).flatMap fun q => dfs (AD d) ls first (finR to) m' (c ++ [r] ++ [q])) := by
       rw [dfs, nx_snoc]; simp
      generalize hT : (((AD d).filter (stepB ls r)).flatMap fun q => dfs (AD d) ls first (finR to) m' (c ++ [r] ++ [q])) = T at g1 g3 hdf
      have hout2 : ((out1 ++ T.map JJ).take most).length ≤ most := by rw [List.length_take]; omega
      obtain ⟨fl2, dead2, f1, f2, f3⟩ : ∃ fl2 dead2, (if b1 = true then (true, dead1) else (fl1, (mput dead1 (Ar3i64.mk r.1.Train r.1.Off ((4 - (m' + 1) : Nat) : Int)) true))) = (fl2, dead2) ∧ DeadA d ls (finR to) dead2 ∧ (fl2 = false → fl1 = false ∧ T = []) := by
       cases b1 with
       | true => exact ⟨true, dead1, rfl, g2, fun h => by cases h⟩
       | false =>
        refine ⟨fl1, _, rfl, ?_, fun h => ⟨h, g3 rfl⟩⟩
        intro z i hz hi
        rw [mgd_put] at hi
        split at hi
        ·rename_i hk
         have hk := eq_of_beq hk
         injection hk with k1 k2 k3
         have hi' : i = 4 - (m' + 1) := by omega
         subst hi'
         rw [show 4 - (4 - (m' + 1)) = m' + 1 by omega, lives_plc hz hr (by unfold plc; rw [k1, k2])]
         exact dfs_lives (first := first) m' c r (by rw [hT]; exact g3 rfl)
        ·exact g2 z i hz hi
      rw [f1]
      obtain ⟨x, x1, b, dead', x2, x3, x4⟩ := ih fl2 ((out1 ++ T.map JJ).take most) dead2 u (fun z h => hl z (List.mem_cons_of_mem _ h)) hout2 f2
      refine ⟨x, x1, b, dead', ?_, x3, fun h => ?_⟩
      ·rw [x2, take_take_app, e2, List.flatMap_cons, hdf]
       simp only [List.map_append, List.append_assoc]
      ·obtain ⟨y1, y2⟩ := x4 h
       obtain ⟨y3, y4⟩ := f3 y1
       obtain ⟨y5, y6⟩ := e4 y3
       refine ⟨y5, ?_⟩
       rw [List.flatMap_cons, hdf, y6, y4, y2]; rfl
  obtain ⟨x, x1, b, dead', x2, x3, x4⟩ := loop _ false out dead false (fun q h => (List.mem_filter.1 h).1) hout hdead
  rw [x1, Option.bind_some]
  refine ⟨b, dead', ?_, x3, fun h => (x4 h).2⟩
  rcases x with ⟨q83, q84, q85, q86⟩ | ⟨q83, q84, q85, q86⟩
  ·exact x2
  ·exact x2
include hd h0 in
theorem all_of {st to : Int} (hto : 0 ≤ to) {most : Nat} (hmost : most ≤ 200) {fu : Nat} (hfu : 10 ≤ fu) :
  ∃ b dead, GuideAll_1_v1 fu [] (GuideNetrides ⟨d, ls⟩ st 0 (-1)) [] (most : Int) ⟨d, ls⟩ to [] = some (b, dead, ((dfs (AD d) ls (fun q => q.2.1.Station == st) (finR to) 4 []).map JJ).take most) := by
 have hfit : (AD d).filter (fits st 0 (-1)) = (AD d).filter (nx ls (fun q => q.2.1.Station == st) []) := by
  refine List.filter_congr fun q hq => ?_
  have ht := AD_time hd hq
  show fits st 0 (-1) q = (q.2.1.Station == st)
  unfold fits
  have e1 : (q.1.Train == (-1)) = false := by
   have : ¬ q.1.Train = -1 := by omega
   simpa using this
  rw [e1]
  by_cases c : q.2.1.Station = st
  ·simp [c]; omega
  ·simp [c]
 obtain ⟨b, dead, h1, _, _⟩ := all_grow hd h0 (first := fun q => q.2.1.Station == st) hto hmost 3 fu [] [] [] (by omega) rfl (by simp) (by simp) (fun r n _ h => by simp [mget] at h)
 refine ⟨b, dead, ?_⟩
 rw [mem_rides, hfit]
 rw [show ([] : List GuideRide) = ([] : List RR).map (·.1) from rfl, h1]
 rw [List.nil_append]
 rfl
end
theorem rides_self (l : List GuideRide) : SlicesEqualLguideRide l l = some true := by
 have key : ∀ (r : List GuideRide) (k : Nat), l.drop k = r → SlicesEqualLguideRide.loop1 l r k = some (.next ()) := by
  intro r
  induction r with
  | nil => intro k _; rfl
  | cons v r ih =>
   intro k hd
   obtain ⟨d1, d2, d3⟩ := drop_cons hd
   rw [SlicesEqualLguideRide.loop1, gx_nat, d2, Option.bind_some]
   simpa using ih (k + 1) d3
 rw [SlicesEqualLguideRide, bne_self_eq_false, key l 0 List.drop_zero]
 rfl
theorem points_self (l : List GuidePoint) : SlicesEqualLguidePoint l l = some true := by
 have key : ∀ (r : List GuidePoint) (k : Nat), l.drop k = r → SlicesEqualLguidePoint.loop1 l r k = some (.next ()) := by
  intro r
  induction r with
  | nil => intro k _; rfl
  | cons v r ih =>
   intro k hd
   obtain ⟨d1, d2, d3⟩ := drop_cons hd
   rw [SlicesEqualLguidePoint.loop1, gx_nat, d2, Option.bind_some]
   simpa using ih (k + 1) d3
 rw [SlicesEqualLguidePoint, bne_self_eq_false, key l 0 List.drop_zero]
 rfl
theorem js_self (l : List GuideJourney) : SlicesEqualFuncLguideJourney_v1 l l = some true := by
 have key : ∀ (r : List GuideJourney) (k : Nat), l.drop k = r → SlicesEqualFuncLguideJourney_v1.loop1 l r k = some (.next ()) := by
  intro r
  induction r with
  | nil => intro k _; rfl
  | cons v r ih =>
   intro k hd
   obtain ⟨d1, d2, d3⟩ := drop_cons hd
   rw [SlicesEqualFuncLguideJourney_v1.loop1, gx_nat, d2, Option.bind_some, Fishlaw2sameJourney, rides_self, Option.bind_some, Option.bind_some]
   simpa using ih (k + 1) d3
 rw [SlicesEqualFuncLguideJourney_v1, bne_self_eq_false, key l 0 List.drop_zero]
 rfl
theorem checks0 {d : ApiDay} (h : GuideCheck d = some 0) (ls a b : Int) : Guidecheck d ls a b [] = some (Fishref2SearchFault ls a b 0 true false) := by
 unfold Guidecheck GuidecheckLeast Fishref2SearchFault
 rw [h, Option.bind_some, if_neg (by decide)]
 simp only [show ∀ a b c, Fishref2within a b c = Guidewithin a b c from fun _ _ _ => rfl, bnd_eq, Guidecheck.loop1]
 cases Guidewithin ls 0 28800 <;> cases Guidewithin a 0 11 <;> cases Guidewithin b 0 11 <;> cases (a == b) <;> rfl
theorem GuideProfiles_law (x0 : ApiDay) (x1 : Int) (x2 : Int) (x3 : Int) (x4 : Int) (_ : x0.Trains.length ≤ 9223372036854775807) (_ : x0.Turns.length ≤ 9223372036854775807) (_ : -9223372036854775808 ≤ x1 ∧ x1 ≤ 9223372036854775807) (_ : -9223372036854775808 ≤ x2 ∧ x2 ≤ 9223372036854775807) (_ : -9223372036854775808 ≤ x3 ∧ x3 ≤ 9223372036854775807) (_ : -9223372036854775808 ≤ x4 ∧ x4 ≤ 9223372036854775807) (i0 : InApiDay x0) :
  ∃ fu, Fishlaw2GuideProfiles fu x0 x1 x2 x3 x4 = some true := by
 obtain ⟨e, h1, h2, h3⟩ := check_ok i0
 have hg := guides_true 0
 rw [Nat.zero_add] at hg
 refine ⟨60, ?_⟩
 have bad : ∀ z : Int, z ≠ 0 → Guidecheck x0 x3 x1 x2 [] = some z → (if (e == 0) = true then Fishref2SearchFault x3 x1 x2 0 true false else e) = z → Fishlaw2GuideProfiles 60 x0 x1 x2 x3 x4 = some true := by
  intro z hz hc hw
  have zn : (z != 0) = true := by simpa using hz
  have a1 : GuideProfile x0 x1 x2 x3 = some ([], z) := by rw [GuideProfile, hc, Option.bind_some, if_pos zn]
  have a2 : GuideAll 60 x0 x1 x2 x3 x4 = some ([], z) := by rw [GuideAll, hc, Option.bind_some, if_pos zn]
  rw [Fishlaw2GuideProfiles, a1, Option.bind_some, a2, Option.bind_some, h1, Option.bind_some, bnd_eq, hw, if_pos zn, hg]
  simp
  decide
 by_cases c : e = 0
 ·subst c
  have hc := checks0 h2 x3 x1 x2
  by_cases z : Fishref2SearchFault x3 x1 x2 0 true false = 0
  ·have hw : (0 ≤ x3 ∧ x3 ≤ 28800) ∧ 0 ≤ x2 := by
    unfold Fishref2SearchFault at z
    simp only [show ∀ a b c, Fishref2within a b c = Guidewithin a b c from fun _ _ _ => rfl, bnd_eq] at z
    cases w4 : Guidewithin x3 0 28800 with
    | false => rw [w4] at z; simp at z
    | true =>
     refine ⟨(within_iff _ _ _).1 w4, ?_⟩
     cases w3 : Guidewithin x2 0 11 with
     | false =>
      rw [w4, w3] at z
      cases w1 : Guidewithin x1 0 11 <;> (rw [w1] at z; simp at z)
     | true => exact ((within_iff _ _ _).1 w3).1
   obtain ⟨hx3, hx2⟩ := hw
   have hd := h3 rfl
   rw [z] at hc
   obtain ⟨l, l1, l2⟩ := profile_of hd hx3 (st := x1) hx2 (fu := 60) (by omega)
   have a1 : GuideProfile x0 x1 x2 x3 = some (l, 0) := by rw [GuideProfile, hc, Option.bind_some, if_neg (by decide), l1]
   cases c4 : Guidewithin x4 0 200 with
   | false =>
    have a2 : GuideAll 60 x0 x1 x2 x3 x4 = some ([], 2) := by rw [GuideAll, hc, Option.bind_some, if_neg (by decide), c4]; rfl
    have ho : (if decide (x4 < 0) = true then true else decide (x4 > 200)) = true := by
     have : ¬ (0 ≤ x4 ∧ x4 ≤ 200) := fun h => by rw [(within_iff _ _ _).2 h] at c4; cases c4
     by_cases q : x4 < 0
     ·simp [q]
     ·simp [q]; omega
    rw [Fishlaw2GuideProfiles, a1, Option.bind_some, a2, Option.bind_some, h1, Option.bind_some, bnd_eq, beq_self_eq_true, if_pos rfl, z, if_neg (by decide), hg]
    simp only [Option.bind_some, bnd_eq]
    rw [show (!true) = false from rfl, if_neg (by decide), show ((0 : Int) != 0) = false from rfl, if_neg (by decide), l2, Option.bind_some, points_self, Option.bind_some, Option.bind_some, ho]
    rfl
   | true =>
    obtain ⟨m0, m1⟩ := (within_iff _ _ _).1 c4
    obtain ⟨n, rfl⟩ : ∃ n : Nat, x4 = (n : Int) := ⟨x4.toNat, by omega⟩
    obtain ⟨b, dead, k1⟩ := all_of hd hx3 (st := x1) hx2 (most := n) (by omega) (fu := 60) (by omega)
    have a2 : GuideAll 60 x0 x1 x2 x3 (n : Int) = some (((dfs (AD x0) x3 (fun q => q.2.1.Station == x1) (finR x2) 4 []).map JJ).take n, 0) := by
     rw [GuideAll, hc, Option.bind_some, if_neg (by decide), c4, show (!true) = false from rfl, if_neg (by decide), bnd_eq, k1, Option.bind_some]
    have ho : (if decide ((n : Int) < 0) = true then true else decide ((n : Int) > 200)) = false := by
     rw [decide_eq_false (by omega), decide_eq_false (by omega)]; rfl
    rw [Fishlaw2GuideProfiles, a1, Option.bind_some, a2, Option.bind_some, h1, Option.bind_some, bnd_eq, beq_self_eq_true, if_pos rfl, z, if_neg (by decide), hg]
    simp only [Option.bind_some, bnd_eq]
    rw [show (!true) = false from rfl, if_neg (by decide), show ((0 : Int) != 0) = false from rfl, if_neg (by decide), l2, Option.bind_some, points_self, Option.bind_some, Option.bind_some, ho, show (!true) = false from rfl, if_neg (by decide), if_neg (by decide), allof hd hx3 x1 x2 (by omega), Option.bind_some, if_pos trivial]
    generalize (dfs (AD x0) x3 (fun q => q.2.1.Station == x1) (finR x2) 4 []).map JJ = J
    have hm : mn (n : Int) ((J.length : Nat) : Int) = ((min n J.length : Nat) : Int) := by
     unfold mn
     split <;> omega
    rw [hm, cutl_in (by omega) (by omega) (by omega), Option.bind_some]
    have : (J.take ((min n J.length : Nat) : Int).toNat).drop (0 : Int).toNat = J.take n := by
     rw [Int.toNat_natCast]
     simp only [Int.toNat_zero, List.drop_zero]
     rcases Nat.le_total n J.length with h | h
     ·rw [Nat.min_eq_left h]
     ·rw [Nat.min_eq_right h, List.take_length, List.take_of_length_le h]
    rw [this, js_self]
    rfl
  ·exact bad _ z hc (by rw [beq_self_eq_true, if_pos rfl])
 ·have c2 : (e != 0) = true := by simpa using c
  have c3 : (e == 0) = false := by simpa using c
  refine bad e c ?_ (by rw [c3, if_neg (by decide)])
  unfold Guidecheck GuidecheckLeast
  rw [h2, Option.bind_some, if_pos c2, Option.bind_some, if_pos c2]
end Go.Fp
