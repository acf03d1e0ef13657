/- GuideSays: the mirror of the law is true of all nets, boards, messages, promises and days. -/
import Derived.Test.YtpcebngchmgckaaGreatDoorGuideSaysM
import Derived.Test.YtpcebngchmgckaaGreatDoorFpPlain
import Derived.Lib.ItoaLen
import Derived.KernelRfl
namespace Go.Fp
def tx (n : Int) : ByteArray := ⟨(Lib.itoa n).toArray⟩
theorem itoa_tx {n : Int} (h : -9223372036854775808 ≤ n ∧ n ≤ 9223372036854775807) : itoa n = some (tx n) := by unfold itoa; rw [if_pos h]; rfl
theorem tx_size {n : Int} (h : -9223372036854775808 ≤ n ∧ n ≤ 9223372036854775807) : (tx n).size ≤ 21 := by
 have := Lib.itoa_length_le n h.1 h.2
 unfold tx
 show ((Lib.itoa n).toArray).size ≤ 21
 simpa using this
theorem scat_in {a b : ByteArray} (h : a.size + b.size ≤ 9223372036854775807) : scat a b = some (a ++ b) := by unfold scat; rw [if_pos h]
theorem sbw_in {y x : ByteArray} (h0 : 0 < x.size) (h : y.size + x.size < 4294967296) : sbw y x = some (y ++ x) := by unfold sbw; rw [if_pos ⟨h0, h⟩]
theorem mget_put (m : List (Int × Bool)) (k j : Int) (v : Bool) : mget (mput m k v) j = if j = k then some v else mget m j := by
 induction m with
 | nil => simp [mput, mget]
 | cons p r ih =>
  obtain ⟨a, b⟩ := p
  simp only [mput]
  by_cases h : k = a
  ·subst h
   simp only [beq_self_eq_true, if_true, mget]
   by_cases h2 : j = k <;> simp [h2]
  ·have hb : (k == a) = false := by simpa using h
   simp only [hb, Bool.false_eq_true, if_false, mget]
   by_cases h2 : j = a
   ·subst h2; have : ¬ j = k := fun e => h e.symm; simp [this]
   ·have hb2 : (j == a) = false := by simpa using h2
    simp [hb2, ih]
def wi (x : Int) : Bool := Planwithin x 0 999999
theorem form2 : ∀ l, Fishref2TextFault.loop2 l = Planform.loop2 l
 | [] => rfl
 | x :: r => by simp only [Fishref2TextFault.loop2, Planform.loop2, form2 r]
theorem form3 : ∀ l, Fishref2TextFault.loop3 l = Planform.loop3 l
 | [] => rfl
 | x :: r => by simp only [Fishref2TextFault.loop3, Planform.loop3, form3 r]
theorem form4 : ∀ l, Fishref2TextFault.loop4 l = Planform.loop4 l
 | [] => rfl
 | x :: r => by simp only [Fishref2TextFault.loop4, Planform.loop4, form4 r]
theorem form1 : ∀ l, Fishref2TextFault.loop1 l = Planform.loop1 l
 | [] => rfl
 | x :: r => by simp only [Fishref2TextFault.loop1, Planform.loop1, form1 r, form2, form3]
def trainForm (t : ApiTrain) : Prop := 1 ≤ t.Stops.length ∧ t.Stops.length ≤ 8 ∧ t.Legs.length + 1 = t.Stops.length ∧ ∀ g ∈ t.Legs, g.length ≤ 4
def dayForm (d : ApiDay) : Prop := d.Trains.length ≤ 12 ∧ d.Turns.length ≤ 8 ∧ (∀ t ∈ d.Trains, trainForm t) ∧ ∀ g ∈ d.Turns, g.length ≤ 12
theorem form3_out : ∀ l, (Planform.loop3 l = .ret 4) ∨ (Planform.loop3 l = .next () ∧ ∀ g ∈ l, g.length ≤ 4)
 | [] => .inr ⟨rfl, by simp⟩
 | x :: r => by
  rw [Planform.loop3]
  by_cases c : ((x.length : Nat) : Int) > 4
  ·rw [if_pos (by simpa using c)]; exact .inl rfl
  ·rw [if_neg (by simpa using c)]
   rcases form3_out r with h | ⟨h, k⟩
   ·exact .inl h
   ·refine .inr ⟨h, ?_⟩
    intro g hg
    rcases List.mem_cons.1 hg with rfl | hg
    ·omega
    ·exact k g hg
theorem form2_out : ∀ l, (Planform.loop2 l = .ret 1) ∨ (Planform.loop2 l = .next ())
 | [] => .inr rfl
 | x :: r => by
  rw [Planform.loop2]
  split
  ·exact .inl rfl
  ·exact form2_out r
theorem form4_out : ∀ l, (∃ e, e ≠ 0 ∧ Planform.loop4 l = .ret e) ∨ (Planform.loop4 l = .next () ∧ ∀ g ∈ l, g.length ≤ 12)
 | [] => .inr ⟨rfl, by simp⟩
 | x :: r => by
  rw [Planform.loop4]
  split
  ·exact .inl ⟨1, by decide, rfl⟩
  ·by_cases c : ((x.length : Nat) : Int) > 12
   ·rw [if_pos (by simpa using c)]; exact .inl ⟨4, by decide, rfl⟩
   ·rw [if_neg (by simpa using c)]
    rcases form4_out r with h | ⟨h, k⟩
    ·exact .inl h
    ·refine .inr ⟨h, ?_⟩
     intro g hg
     rcases List.mem_cons.1 hg with rfl | hg
     ·omega
     ·exact k g hg
theorem form1_out : ∀ l, (∃ e, e ≠ 0 ∧ Planform.loop1 l = .ret e) ∨ (Planform.loop1 l = .next () ∧ ∀ t ∈ l, trainForm t)
 | [] => .inr ⟨rfl, by simp⟩
 | x :: r => by
  rw [Planform.loop1, bnd_eq]
  generalize hq : (if (((x.Stops).length : Int) == 0) = true then true else (((x.Legs).length : Int) != (w64 (((x.Stops).length : Int) - 1)))) = q
  cases q with
  | true => exact .inl ⟨1, by decide, rfl⟩
  | false =>
   rw [if_neg (by decide), bnd_eq]
   rcases form2_out x.Legs with h | h
   ·rw [h]; exact .inl ⟨1, by decide, rfl⟩
   ·rw [h]
    dsimp only
    by_cases c : ((x.Stops.length : Nat) : Int) > 8
    ·rw [if_pos (by simpa using c)]; exact .inl ⟨4, by decide, rfl⟩
    ·rw [if_neg (by simpa using c), bnd_eq]
     rcases form3_out x.Legs with h3 | ⟨h3, k3⟩
     ·rw [h3]; exact .inl ⟨4, by decide, rfl⟩
     ·rw [h3]
      dsimp only
      rcases form1_out r with h1 | ⟨h1, k1⟩
      ·exact .inl h1
      ·refine .inr ⟨h1, ?_⟩
       intro t ht
       rcases List.mem_cons.1 ht with rfl | ht
       ·split at hq
        ·cases hq
        ·rename_i hz
         rw [w64_id (by omega)] at hq
         have hq2 : ((t.Legs.length : Nat) : Int) = ((t.Stops.length : Nat) : Int) - 1 := by simpa using hq
         have hz2 : ¬ t.Stops.length = 0 := by simpa using hz
         exact ⟨by omega, by omega, by omega, k3⟩
       ·exact k1 t ht
theorem form_out (d : ApiDay) : Planform d ≠ 0 ∨ (Planform d = 0 ∧ dayForm d) := by
 rw [Planform, bnd_eq]
 by_cases c : ((d.Trains.length : Nat) : Int) > 12 ∨ ((d.Turns.length : Nat) : Int) > 8
 ·left
  rw [if_pos (by rcases c with c | c <;> simp [c])]; decide
 ·have c1 : ¬ ((d.Trains.length : Nat) : Int) > 12 := fun h => c (.inl h)
  have c2 : ¬ ((d.Turns.length : Nat) : Int) > 8 := fun h => c (.inr h)
  rw [if_neg (by simp [c1, c2]), bnd_eq]
  rcases form1_out d.Trains with ⟨e, he, h⟩ | ⟨h, k⟩
  ·rw [h]; exact .inl he
  ·rw [h]
   dsimp only
   rw [bnd_eq]
   rcases form4_out d.Turns with ⟨e, he, h4⟩ | ⟨h4, k4⟩
   ·rw [h4]; exact .inl he
   ·rw [h4]; exact .inr ⟨rfl, by omega, by omega, k, k4⟩
def numS (x : ApiStop) : List Int := [x.Station, x.Track, x.Arr, x.Dep]
def numT (t : ApiTrain) : List (List Int) := [t.No, t.Stock] :: (t.Stops.map numS ++ t.Legs)
theorem num2 : ∀ (l : List ApiStop) (q : List (List Int)), q.length + l.length < 4294967296 → Fishref2numbersIn.loop2 l q = some (q ++ l.map numS)
 | [], q, _ => by simp [Fishref2numbersIn.loop2]
 | x :: r, q, h => by
  simp only [List.length_cons] at h
  rw [Fishref2numbersIn.loop2, apd_lt (by simp; omega), Option.bind_some, num2 r _ (by simp; omega)]
  simp [numS]
theorem num1 : ∀ (l : List ApiTrain) (q : List (List Int)), (∀ t ∈ l, trainForm t) → q.length + 17 * l.length < 4294967296 → Fishref2numbersIn.loop1 l q = some (q ++ l.flatMap numT)
 | [], q, _, _ => by simp [Fishref2numbersIn.loop1]
 | t :: r, q, ht, h => by
  simp only [List.length_cons] at h
  obtain ⟨t1, t2, t3, t4⟩ := ht t (List.mem_cons_self ..)
  rw [Fishref2numbersIn.loop1, apd_lt (by simp; omega), Option.bind_some, num2 _ _ (by simp; omega), Option.bind_some, apd_lt (by simp; omega), Option.bind_some,
   num1 r _ (fun t h => ht t (List.mem_cons_of_mem _ h)) (by simp; omega)]
  simp [numT]
theorem numT_len {t : ApiTrain} (h : trainForm t) : (numT t).length ≤ 16 := by
 obtain ⟨t1, t2, t3, t4⟩ := h
 simp [numT]; omega
theorem num_all {d : ApiDay} (h : dayForm d) : Fishref2numbersIn d = some (d.Trains.flatMap numT ++ d.Turns) := by
 obtain ⟨h1, h2, h3, h4⟩ := h
 have hl : ∀ l : List ApiTrain, (∀ t ∈ l, trainForm t) → (l.flatMap numT).length ≤ 16 * l.length := by
  intro l
  induction l with
  | nil => intro _; simp
  | cons t r ih =>
   intro ht
   have := numT_len (ht t (List.mem_cons_self ..))
   have := ih fun t h => ht t (List.mem_cons_of_mem _ h)
   simp only [List.flatMap_cons, List.length_append, List.length_cons]; omega
 have := hl _ h3
 rw [Fishref2numbersIn, num1 _ _ h3 (by simp; omega), Option.bind_some, List.nil_append, apd_lt (by omega)]
 rfl
theorem num6 : ∀ l : List Int, Fishref2TextFault.loop6 l = if l.all wi then .next () else .ret 2
 | [] => rfl
 | x :: r => by
  rw [Fishref2TextFault.loop6, num6 r]
  show (if (!wi x) = true then _ else _) = _
  cases h : wi x <;> simp [h]
theorem num5 (L : List (List Int)) : ∀ (r : List (List Int)) (k : Nat), L.drop k = r → Fishref2TextFault.loop5 L r.length k = some (if r.all (·.all wi) then .next () else .ret 2)
 | [], k, _ => rfl
 | x :: r, k, hd => by
  obtain ⟨d1, d2, d3⟩ := drop_cons hd
  rw [List.length_cons, Fishref2TextFault.loop5, gx_nat, d2, Option.bind_some, bnd_eq, num6]
  cases h : x.all wi with
  | true => simp [h, num5 L r (k + 1) d3]
  | false => simp [h]
theorem flag1 : ∀ (l : List Int) (b : Bool), PlanText_1_v1.loop1 l b = (b && l.all wi)
 | [], b => by simp [PlanText_1_v1.loop1]
 | x :: r, b => by
  rw [PlanText_1_v1.loop1, bnd_eq, flag1 r]
  show ((if b = true then wi x else false) && r.all wi) = _
  cases b <;> simp
theorem sent1 : ∀ (l : List Int) (q : ByteArray), inL inI l → q.size + 22 * l.length < 4294967296 → ∃ z, Plansentence.loop1 l q = some z ∧ z.size ≤ q.size + 22 * l.length
 | [], q, _, _ => ⟨q, rfl, by simp⟩
 | x :: r, q, hi, h => by
  simp only [List.length_cons] at h
  have hx := hi x (List.mem_cons_self ..)
  have hs := tx_size hx
  have s32 : (str [32]).size = 1 := rfl
  have e1 : (str [32] ++ tx x).size = 1 + (tx x).size := by rw [ByteArray.size_append, s32]
  have e4 : (q ++ (str [32] ++ tx x)).size = q.size + (1 + (tx x).size) := by rw [ByteArray.size_append, e1]
  obtain ⟨z, h1, h2⟩ := sent1 r (q ++ (str [32] ++ tx x)) (fun y h => hi y (List.mem_cons_of_mem _ h)) (by omega)
  refine ⟨z, ?_, by simp only [List.length_cons]; omega⟩
  rw [Plansentence.loop1, itoa_tx hx, Option.bind_some, scat_in (by omega), Option.bind_some, scat_in (by omega), Option.bind_some]
  exact h1
theorem sent {l : List Int} {w : ByteArray} (hi : inL inI l) (h : w.size + 22 * l.length < 4294967295) : ∃ z, Plansentence w l = some z ∧ 0 < z.size ∧ z.size ≤ w.size + 22 * l.length + 1 := by
 obtain ⟨z, h1, h2⟩ := sent1 l w hi (by omega)
 have s10 : (str [10]).size = 1 := rfl
 have e : (z ++ str [10]).size = z.size + 1 := by rw [ByteArray.size_append, s10]
 exact ⟨z ++ str [10], by rw [Plansentence, h1, Option.bind_some, scat_in (by omega)]; rfl, by omega, by omega⟩
theorem wr {l : List Int} {w y : ByteArray} {b : Bool} (hi : inL inI l) (hw : w.size ≤ 5) (h : y.size + (22 * l.length + 6) < 4294967295) :
  ∃ z, PlanText_1_v1 w l b y = some (b && l.all wi, z) ∧ z.size ≤ y.size + (22 * l.length + 6) := by
 obtain ⟨z, h1, h2, h3⟩ := sent (w := w) hi (by omega)
 have e : (y ++ z).size = y.size + z.size := ByteArray.size_append
 exact ⟨y ++ z, by rw [PlanText_1_v1, flag1, bnd_eq, h1, Option.bind_some, sbw_in h2 (by omega)]; rfl, by omega⟩
theorem txt2 : ∀ (l : List ApiStop) (y : ByteArray) (b : Bool), inL InApiStop l → y.size + 94 * l.length < 4294967000 →
  ∃ z, PlanText.loop2 l y b = some (z, b && (l.map numS).all (·.all wi)) ∧ z.size ≤ y.size + 94 * l.length
 | [], y, b, _, _ => ⟨y, by simp [PlanText.loop2], by simp⟩
 | x :: r, y, b, hi, h => by
  simp only [List.length_cons] at h
  have hx := hi x (List.mem_cons_self ..)
  obtain ⟨z, h1, h2⟩ := wr (l := numS x) (w := str [115, 116, 111, 112]) (y := y) (b := b) (by
   intro v hv
   simp only [numS, List.mem_cons, List.not_mem_nil, or_false] at hv
   rcases hv with rfl | rfl | rfl | rfl
   ·exact hx.1
   ·exact hx.2.1
   ·exact hx.2.2.1
   ·exact hx.2.2.2) (by decide) (by simp [numS]; omega)
  simp only [numS, List.length_cons, List.length_nil] at h2
  obtain ⟨z2, h3, h4⟩ := txt2 r z (b && (numS x).all wi) (fun y h => hi y (List.mem_cons_of_mem _ h)) (by omega)
  refine ⟨z2, ?_, by simp only [List.length_cons]; omega⟩
  rw [PlanText.loop2]
  rw [show [x.Station, x.Track, x.Arr, x.Dep] = numS x from rfl, h1, Option.bind_some]
  dsimp only
  rw [h3, List.map_cons, List.all_cons, Bool.and_assoc]
theorem txt3 (w : ByteArray) (hw : w.size ≤ 5) (F : List (List Int) → ByteArray → Bool → Option (ByteArray × Bool)) (hn : ∀ y b, F [] y b = some (y, b))
  (hc : ∀ x r y b, F (x :: r) y b = (PlanText_1_v1 w x b y).bind fun q => F r q.2 q.1) (m : Nat) (hm : m ≤ 100) : ∀ (l : List (List Int)) (y : ByteArray) (b : Bool), inL (inL inI) l → (∀ g ∈ l, g.length ≤ m) → y.size + (22 * m + 6) * l.length < 4294960000 →
  ∃ z, F l y b = some (z, b && l.all (·.all wi)) ∧ z.size ≤ y.size + (22 * m + 6) * l.length
 | [], y, b, _, _, _ => ⟨y, by simp [hn], by simp⟩
 | x :: r, y, b, hi, hl, h => by
  simp only [List.length_cons, Nat.mul_add, Nat.mul_one] at h
  have hx := hi x (List.mem_cons_self ..)
  have hxl := hl x (List.mem_cons_self ..)
  obtain ⟨z, h1, h2⟩ := wr (l := x) (w := w) (y := y) (b := b) hx hw (by omega)
  obtain ⟨z2, h3, h4⟩ := txt3 w hw F hn hc m hm r z (b && x.all wi) (fun y h => hi y (List.mem_cons_of_mem _ h)) (fun g h => hl g (List.mem_cons_of_mem _ h)) (by omega)
  refine ⟨z2, ?_, by simp only [List.length_cons, Nat.mul_add, Nat.mul_one]; omega⟩
  rw [hc, h1, Option.bind_some]
  dsimp only
  rw [h3, List.all_cons, Bool.and_assoc]
theorem txt1 : ∀ (l : List ApiTrain) (y : ByteArray) (b : Bool), inL InApiTrain l → (∀ t ∈ l, trainForm t) → y.size + 1700 * l.length < 4294900000 →
  ∃ z, PlanText.loop1 l y b = some (z, b && (l.flatMap numT).all (·.all wi)) ∧ z.size ≤ y.size + 1700 * l.length
 | [], y, b, _, _, _ => ⟨y, by simp [PlanText.loop1], by simp⟩
 | t :: r, y, b, hi, hf, h => by
  simp only [List.length_cons] at h
  obtain ⟨i1, i2, i3, i4⟩ := hi t (List.mem_cons_self ..)
  obtain ⟨t1, t2, t3, t4⟩ := hf t (List.mem_cons_self ..)
  obtain ⟨z, h1, h2⟩ := wr (l := [t.No, t.Stock]) (w := str [116, 114, 97, 105, 110]) (y := y) (b := b) (by
   intro v hv
   simp only [List.mem_cons, List.not_mem_nil, or_false] at hv
   rcases hv with rfl | rfl
   ·exact i1
   ·exact i2) (by decide) (by simp; omega)
  simp only [List.length_cons, List.length_nil] at h2
  obtain ⟨z2, h3, h4⟩ := txt2 t.Stops z (b && [t.No, t.Stock].all wi) i3 (by omega)
  obtain ⟨z3, h5, h6⟩ := txt3 (str [108, 101, 103]) (by decide) PlanText.loop3 (fun _ _ => rfl) (fun _ _ _ _ => rfl) 4 (by omega) t.Legs z2 ((b && [t.No, t.Stock].all wi) && (t.Stops.map numS).all (·.all wi)) i4 t4 (by omega)
  obtain ⟨z4, h7, h8⟩ := txt1 r z3 (((b && [t.No, t.Stock].all wi) && (t.Stops.map numS).all (·.all wi)) && t.Legs.all (·.all wi)) (fun y h => hi y (List.mem_cons_of_mem _ h)) (fun y h => hf y (List.mem_cons_of_mem _ h)) (by omega)
  refine ⟨z4, ?_, by simp only [List.length_cons]; omega⟩
  rw [PlanText.loop1, h1, Option.bind_some]
  dsimp only
  rw [h3, Option.bind_some]
  dsimp only
  rw [h5, Option.bind_some]
  dsimp only
  rw [h7]
  simp only [List.flatMap_cons, numT, List.cons_append, List.all_cons, List.all_append, Bool.and_assoc, List.all_nil]
theorem text_ok {d : ApiDay} (hi : InApiDay d) : ∃ e b, Fishref2TextFault d = some e ∧ PlanText d = some (b, e) ∧ (e = 0 → dayForm d) := by
 rcases form_out d with h | ⟨h, k⟩
 ·refine ⟨Planform d, str [], ?_, ?_, fun e => absurd e h⟩
  ·revert h
   rw [Fishref2TextFault, Planform]
   simp only [form1, form4, bnd_eq]
   cases (if decide (((d.Trains).length : Int) > 12) = true then true else decide (((d.Turns).length : Int) > 8)) with
   | true => intro _; rfl
   | false =>
    simp only [Bool.false_eq_true, if_false]
    cases Planform.loop1 d.Trains with
    | ret r => intro _; rfl
    | next u =>
     dsimp only
     cases Planform.loop4 d.Turns with
     | ret r => intro _; rfl
     | next u => intro h; exact absurd rfl h
  ·rw [PlanText, if_pos (by simpa using h)]
 ·obtain ⟨k1, k2, k3, k4⟩ := k
  have hnum := num_all ⟨k1, k2, k3, k4⟩
  obtain ⟨z, h1, h2⟩ := txt1 d.Trains ByteArray.empty true hi.1 k3 (by simp; omega)
  have h2' : z.size ≤ 1700 * d.Trains.length := by simpa using h2
  obtain ⟨z2, h3, h4⟩ := txt3 (str [116, 117, 114, 110]) (by decide) PlanText.loop4 (fun _ _ => rfl) (fun _ _ _ _ => rfl) 12 (by omega) d.Turns z (true && (d.Trains.flatMap numT).all (·.all wi)) hi.2 k4 (by omega)
  have hT : Fishref2TextFault d = some (if (d.Trains.flatMap numT ++ d.Turns).all (·.all wi) then 0 else 2) := by
   have h' := h
   rw [Planform] at h'
   simp only [bnd_eq] at h'
   rw [Fishref2TextFault]
   simp only [form1, form4, bnd_eq]
   cases hc : (if decide (((d.Trains).length : Int) > 12) = true then true else decide (((d.Turns).length : Int) > 8)) with
   | true => rw [hc] at h'; cases h'
   | false =>
    rw [hc] at h'
    simp only [Bool.false_eq_true, if_false] at h' ⊢
    cases hA : Planform.loop1 d.Trains with
    | ret r =>
     rw [hA] at h'
     rcases form1_out d.Trains with ⟨e, he, hh⟩ | ⟨hh, _⟩
     ·rw [hA] at hh; injection hh with hh; dsimp only at h'; rw [hh] at h'; exact absurd h' he
     ·rw [hA] at hh; cases hh
    | next u =>
     rw [hA] at h'
     dsimp only at h' ⊢
     cases hB : Planform.loop4 d.Turns with
     | ret r =>
      rw [hB] at h'
      rcases form4_out d.Turns with ⟨e, he, hh⟩ | ⟨hh, _⟩
      ·rw [hB] at hh; injection hh with hh; dsimp only at h'; rw [hh] at h'; exact absurd h' he
      ·rw [hB] at hh; cases hh
     | next u =>
      dsimp only
      rw [hnum, Option.bind_some, num5 _ _ 0 (List.drop_zero), Option.bind_some]
      cases (d.Trains.flatMap numT ++ d.Turns).all (·.all wi) <;> rfl
  refine ⟨_, if (d.Trains.flatMap numT ++ d.Turns).all (·.all wi) then z2 else str [], hT, ?_, fun _ => ⟨k1, k2, k3, k4⟩⟩
  rw [PlanText, if_neg (by simp [h]), h1, Option.bind_some]
  dsimp only
  rw [h3, Option.bind_some]
  dsimp only
  rw [List.all_append]
  cases hA : (d.Trains.flatMap numT).all (·.all wi) <;> cases hB : d.Turns.all (·.all wi) <;> simp [hA, hB]
theorem chk2 (t : ApiTrain) : ∀ (l : List ApiStop) (k : Nat), Fishref2GuideFault.loop3 t l k = GuideCheck.loop2 t l k
 | [], _ => rfl
 | x :: r, k => by
  simp only [Fishref2GuideFault.loop3, GuideCheck.loop2, chk2 t r]
  rfl
def stopsOk (l : List ApiStop) : Prop := (∀ x ∈ l, 0 ≤ x.Station ∧ x.Station ≤ 11 ∧ 0 ≤ x.Arr ∧ x.Arr ≤ 28800 ∧ 0 ≤ x.Dep ∧ x.Dep ≤ 28800 ∧ x.Arr ≤ x.Dep) ∧ ∀ k x y, l[k]? = some x → l[k + 1]? = some y → x.Dep < y.Arr
theorem within_iff (x a b : Int) : Guidewithin x a b = true ↔ a ≤ x ∧ x ≤ b := by
 unfold Guidewithin bnd
 by_cases h : x ≥ a <;> simp [h] <;> omega
theorem chk2_out (t : ApiTrain) (hl : t.Stops.length ≤ 9223372036854775807) : ∀ (r : List ApiStop) (k : Nat), t.Stops.drop k = r →
  (∃ e, e ≠ 0 ∧ GuideCheck.loop2 t r k = some (.ret e)) ∨ (GuideCheck.loop2 t r k = some (.next ()) ∧ (∀ x ∈ r, 0 ≤ x.Station ∧ x.Station ≤ 11 ∧ 0 ≤ x.Arr ∧ x.Arr ≤ 28800 ∧ 0 ≤ x.Dep ∧ x.Dep ≤ 28800 ∧ x.Arr ≤ x.Dep) ∧ ∀ j x y, k ≤ j + 1 → t.Stops[j]? = some x → t.Stops[j + 1]? = some y → x.Dep < y.Arr)
 | [], k, hd => .inr ⟨rfl, by simp, fun j x y hj hx hy => by
   have := drop_nil hd
   have := (List.getElem?_eq_some_iff.1 hy).1
   omega⟩
 | x :: r, k, hd => by
  obtain ⟨d1, d2, d3⟩ := drop_cons hd
  rw [GuideCheck.loop2, bnd_eq]
  cases c1 : Guidewithin x.Station 0 11 with
  | false => exact .inl ⟨2, by decide, by simp⟩
  | true =>
   cases c2 : Guidewithin x.Arr 0 28800 with
   | false => exact .inl ⟨2, by decide, by simp⟩
   | true =>
    cases c3 : Guidewithin x.Dep 0 28800 with
    | false => exact .inl ⟨2, by decide, by simp⟩
    | true =>
     have w1 := (within_iff _ _ _).1 c1
     have w2 := (within_iff _ _ _).1 c2
     have w3 := (within_iff _ _ _).1 c3
     simp only [Bool.not_true, Bool.false_eq_true, if_false]
     by_cases c4 : x.Dep < x.Arr
     ·exact .inl ⟨5, by decide, by simp [c4]⟩
     ·simp only [decide_eq_false c4, Bool.false_eq_true, if_false]
      rcases Nat.eq_zero_or_pos k with c5 | c5
      ·subst c5
       simp only [Int.ofNat_eq_natCast, Int.natCast_zero, gt_iff_lt, Int.lt_irrefl, decide_false, Bool.false_eq_true, if_false, Option.bind_some]
       rcases chk2_out t hl r 1 d3 with h | ⟨h, k1, k2⟩
       ·exact .inl h
       ·refine .inr ⟨h, ?_, fun j a b _ ha hb => k2 j a b (by omega) ha hb⟩
        intro y hy
        rcases List.mem_cons.1 hy with rfl | hy
        ·omega
        ·exact k1 y hy
      ·rw [if_pos (by simpa using c5), gx_prev c5 (by omega) hl, Option.bind_some, Option.bind_some]
       by_cases c6 : x.Arr ≤ (t.Stops[k - 1]'(by omega)).Dep
       ·exact .inl ⟨5, by decide, by simp [c6]⟩
       ·simp only [decide_eq_false c6, Bool.false_eq_true, if_false]
        rcases chk2_out t hl r (k + 1) d3 with h | ⟨h, k1, k2⟩
        ·exact .inl h
        ·refine .inr ⟨h, ?_, fun j a b hj ha hb => ?_⟩
         ·intro y hy
          rcases List.mem_cons.1 hy with rfl | hy
          ·omega
          ·exact k1 y hy
         ·by_cases e : j + 1 = k
          ·subst e
           rw [d2] at hb
           injection hb with hb
           subst hb
           have : t.Stops[j + 1 - 1]'(by omega) = a := by
            have := List.getElem?_eq_some_iff.1 ha
            obtain ⟨_, h2⟩ := this
            simpa using h2
           rw [this] at c6
           omega
          ·exact k2 j a b (by omega) ha hb
theorem chkno (t : ApiTrain) : ∀ l : List ApiTrain, Fishref2GuideFault.loop2 t l = if l.any (·.No == t.No) then .ret 6 else .next ()
 | [] => rfl
 | x :: r => by
  rw [Fishref2GuideFault.loop2, chkno t r]
  cases h : (x.No == t.No) <;> simp [h]
structure DayOk (d : ApiDay) : Prop where
 form : dayForm d
 two : ∀ t ∈ d.Trains, 2 ≤ t.Stops.length
 stops : ∀ t ∈ d.Trains, stopsOk t.Stops
 nos : ∀ t ∈ d.Trains, 1 ≤ t.No ∧ t.No ≤ 9999
 apart : ∀ (i j : Nat) (s t : ApiTrain), i < j → d.Trains[i]? = some s → d.Trains[j]? = some t → s.No ≠ t.No
theorem chk1 (d : ApiDay) (hl : d.Trains.length ≤ 9223372036854775807) (hs : ∀ t ∈ d.Trains, t.Stops.length ≤ 9223372036854775807) : ∀ (r : List ApiTrain) (k : Nat) (q : List (Int × Bool)), d.Trains.drop k = r →
  (∀ n, (mget q n).getD false = (d.Trains.take k).any (·.No == n)) →
  (∃ e, e ≠ 0 ∧ Fishref2GuideFault.loop1 d r k = some (.ret e) ∧ GuideCheck.loop1 r q = some (.ret e)) ∨
  (Fishref2GuideFault.loop1 d r k = some (.next ()) ∧ (∃ q', GuideCheck.loop1 r q = some (.next q')) ∧ (∀ t ∈ r, 2 ≤ t.Stops.length ∧ stopsOk t.Stops ∧ 1 ≤ t.No ∧ t.No ≤ 9999) ∧ ∀ i j s t, i < j → k ≤ j → d.Trains[i]? = some s → d.Trains[j]? = some t → s.No ≠ t.No)
 | [], k, q, hd, _ => .inr ⟨rfl, ⟨q, rfl⟩, by simp, fun i j s t _ hj _ ht => by
   have := drop_nil hd
   have := (List.getElem?_eq_some_iff.1 ht).1
   omega⟩
 | t :: r, k, q, hd, hq => by
  obtain ⟨d1, d2, d3⟩ := drop_cons hd
  have htm : t ∈ d.Trains := List.mem_of_getElem? d2
  rw [Fishref2GuideFault.loop1, GuideCheck.loop1, cutl_in (by omega) (by omega) (by omega), Option.bind_some, bnd_eq, chkno, hq]
  rw [show Fishref2within t.No 1 9999 = Guidewithin t.No 1 9999 from rfl]
  cases c1 : Guidewithin t.No 1 9999 with
  | false => exact .inl ⟨2, by decide, by simp, by simp⟩
  | true =>
   have w1 := (within_iff _ _ _).1 c1
   simp only [Bool.not_true, Bool.false_eq_true, if_false]
   have e0 : List.drop (Int.toNat 0) (List.take (((k : Nat) : Int).toNat) d.Trains) = d.Trains.take k := by simp
   rw [e0]
   cases c2 : (d.Trains.take k).any (·.No == t.No) with
   | true => exact .inl ⟨6, by decide, by simp, by simp⟩
   | false =>
    simp only [Bool.false_eq_true, if_false]
    by_cases c3 : ((t.Stops.length : Nat) : Int) < 2
    ·exact .inl ⟨1, by decide, by simp [c3], by simp [c3]⟩
    ·simp only [decide_eq_false c3, Bool.false_eq_true, if_false, chk2]
     rcases chk2_out t (hs t htm) t.Stops 0 rfl with ⟨e, he, h⟩ | ⟨h, k1, k2⟩
     ·exact .inl ⟨e, he, by rw [h]; rfl, by rw [h]; rfl⟩
     ·rw [h, Option.bind_some, Option.bind_some]
      dsimp only
      have hq2 : ∀ n, (mget (mput q t.No true) n).getD false = (d.Trains.take (k + 1)).any (·.No == n) := by
       intro n
       rw [mget_put, List.take_add_one, d2]
       simp only [Option.toList_some, List.any_append, List.any_cons, List.any_nil, Bool.or_false]
       by_cases c : n = t.No
       ·subst c; simp
       ·have : (t.No == n) = false := by simpa using fun h => c h.symm
        rw [if_neg c, this, Bool.or_false]; exact hq n
      rcases chk1 d hl hs r (k + 1) (mput q t.No true) d3 hq2 with ⟨e, he, h1, h2⟩ | ⟨h1, ⟨q', h2⟩, h3, h4⟩
      ·exact .inl ⟨e, he, h1, h2⟩
      ·refine .inr ⟨h1, ⟨q', h2⟩, ?_, ?_⟩
       ·intro u hu
        rcases List.mem_cons.1 hu with rfl | hu
        ·exact ⟨by omega, ⟨k1, fun j x y hx hy => k2 j x y (by omega) hx hy⟩, w1.1, w1.2⟩
        ·exact h3 u hu
       ·intro i j s u hij hj hi hu
        by_cases e : j = k
        ·subst e
         rw [d2] at hu
         injection hu with hu
         subst hu
         intro e
         have : (d.Trains.take j).any (·.No == t.No) = true := by
          rw [List.any_eq_true]
          refine ⟨s, ?_, by simpa using e⟩
          apply List.mem_of_getElem? (i := i)
          rw [List.getElem?_take, if_pos hij]; exact hi
         rw [this] at c2; cases c2
        ·exact h4 i j s u hij (by omega) hi hu
theorem check_ok {d : ApiDay} (hi : InApiDay d) : ∃ e, Fishref2GuideFault d = some e ∧ GuideCheck d = some e ∧ (e = 0 → DayOk d) := by
 obtain ⟨e, b, h1, h2, h3⟩ := text_ok hi
 rw [Fishref2GuideFault, GuideCheck, h1, h2, Option.bind_some, Option.bind_some]
 by_cases c : e = 0
 ·subst c
  have hf := h3 rfl
  simp only [bne_self_eq_false, Bool.false_eq_true, if_false]
  rcases chk1 d (by have := hf.1; omega) (fun t ht => by have := (hf.2.2.1 t ht).2.1; omega) d.Trains 0 [] rfl (by simp [mget]) with ⟨e, he, k1, k2⟩ | ⟨k1, ⟨q', k2⟩, k3, k4⟩
  ·exact ⟨e, by rw [k1]; rfl, by rw [k2]; rfl, fun h => absurd h he⟩
  ·refine ⟨0, by rw [k1]; rfl, by rw [k2]; rfl, fun _ => ⟨hf, fun t ht => (k3 t ht).1, fun t ht => (k3 t ht).2.1, fun t ht => (k3 t ht).2.2, fun i j s t hij hs ht => k4 i j s t hij (by omega) hs ht⟩⟩
 ·have : (e != 0) = true := by simpa using c
  simp only [this, if_true]
  exact ⟨e, rfl, rfl, fun h => absurd h c⟩
theorem rngO_same {α σ : Type} {f : α → σ → Orc → Option σ} {st : σ} : ∀ (n : Nat) (left : List α) (o : Orc), (∀ x ∈ left, ∀ o, f x st o = some st) → rngO f n left st o = some st
 | 0, _, _, _ => rfl
 | n + 1, left, o, h => by
  rw [rngO]
  cases k : left[o [] % left.length]? with
  | none => rfl
  | some x =>
   simp only
   rw [h x (List.mem_of_getElem? k), Option.bind_some]
   exact rngO_same n _ _ (fun y hy => h y (List.mem_of_mem_eraseIdx hy))
theorem rngO_single {α σ : Type} {f : α → σ → Orc → Option σ} {x : α} {st st' : σ} (h : ∀ o, f x st o = some st') (n : Nat) (o : Orc) : rngO f (n + 1) [x] st o = some st' := by
 rw [rngO]
 simp only [List.length_singleton, Nat.mod_one, List.getElem?_cons_zero, h, Option.bind_some, List.eraseIdx_cons_zero]
 cases n <;> simp [rngO]
def smallNet : GuideNet := ⟨Fishlaw2small, 40⟩
abbrev smallE : List (List (GuidePlace × Bool)) := [[(⟨0, 1⟩, true), (⟨0, 2⟩, true)], [(⟨1, 1⟩, true)], [], []]
abbrev smallP : GuidePoint := ⟨100, 400, 2⟩
theorem small_ends : GuideNetends smallNet [⟨0, 0, 1⟩, ⟨0, 0, 2⟩] = some smallE := by kernel_rfl
theorem small4_0 (o : Orc) : GuideNetpoints.loop4 smallNet 3 100 0 [(⟨0, 1⟩, true), (⟨0, 2⟩, true)] [] [] o = some ([], []) := by
 unfold GuideNetpoints.loop4
 refine rngO_same _ _ _ ?_
 intro x hx o
 simp only [List.mem_cons, List.not_mem_nil, or_false] at hx
 rcases hx with rfl | rfl
 ·kernel_rfl
 ·kernel_rfl
theorem small4_1 (o : Orc) : GuideNetpoints.loop4 smallNet 3 100 1 [(⟨1, 1⟩, true)] [] [] o = some ([smallP], [(smallP, true)]) := by
 unfold GuideNetpoints.loop4
 exact rngO_single (fun o => by kernel_rfl) _ _
theorem small3 (o : Orc) : GuideNetpoints.loop3 smallNet 3 100 smallE 4 [] [] o = some ([smallP], [(smallP, true)]) := by
 have s0 : ∀ o, GuideNetpoints.loop3.step smallNet 3 100 smallE 0 [] [] o = some ([], []) := by
  intro o
  show Option.bind (GuideNetpoints.loop4 smallNet 3 100 0 [(⟨0, 1⟩, true), (⟨0, 2⟩, true)] [] [] (o.sub 0)) _ = _
  rw [small4_0]; rfl
 have s1 : ∀ o, GuideNetpoints.loop3.step smallNet 3 100 smallE 1 [] [] o = some ([smallP], [(smallP, true)]) := by
  intro o
  show Option.bind (GuideNetpoints.loop4 smallNet 3 100 1 [(⟨1, 1⟩, true)] [] [] (o.sub 0)) _ = _
  rw [small4_1]; rfl
 have s2 : ∀ o, GuideNetpoints.loop3.step smallNet 3 100 smallE 2 [smallP] [(smallP, true)] o = some ([smallP], [(smallP, true)]) := by intro o; rfl
 have s3 : ∀ o, GuideNetpoints.loop3.step smallNet 3 100 smallE 3 [smallP] [(smallP, true)] o = some ([smallP], [(smallP, true)]) := by intro o; rfl
 unfold GuideNetpoints.loop3
 simp only [cntO, s0, s1, s2, s3, Option.bind_some, Nat.zero_add, Nat.reduceAdd]
theorem small_points (n : Nat) : GuideNetpoints (n + 60) smallNet 0 3 = some [smallP] := by
 refine same_of fun o => ?_
 have h1 : GuideNetpoints.loop1 smallNet (GuideNetrides smallNet 0 0 (-1)) [] = some [(100, [⟨0, 0, 1⟩, ⟨0, 0, 2⟩])] := by kernel_rfl
 have h2 : ∀ o, GuideNetpoints.loop2 smallNet 3 [(100, [⟨0, 0, 1⟩, ⟨0, 0, 2⟩])] [] [] o = some ([smallP], [(smallP, true)]) := by
  intro o
  unfold GuideNetpoints.loop2
  refine rngO_single (fun o => ?_) _ _
  dsimp only
  unfold GuideNetpoints.loop2.step
  rw [small_ends, Option.bind_some]
  show Option.bind (GuideNetpoints.loop3 smallNet 3 100 smallE 4 [] [] (o.sub 0)) _ = _
  rw [small3]; rfl
 have h3 : SlicesSortFuncLguidePoint_v1 (n + 60) [smallP] = some [smallP] := by kernel_rfl
 unfold GuideNetpoints.o
 rw [bnd_eq, h1, Option.bind_some]
 show Option.bind (GuideNetpoints.loop2 smallNet 3 [(100, [⟨0, 0, 1⟩, ⟨0, 0, 2⟩])] [] [] (o.sub 0)) _ = _
 rw [h2, Option.bind_some]
 dsimp only
 rw [h3]; rfl
theorem small_in : InApiDay Fishlaw2small := by
 simp [InApiDay, inL, InApiTrain, InApiStop, inI, Fishlaw2small, Fishlaw2small_1, bnd]
theorem small_check : GuideCheck Fishlaw2small = some 0 := by
 obtain ⟨e, h1, h2, _⟩ := check_ok small_in
 have h3 : Fishref2GuideFault Fishlaw2small = some 0 := by kernel_rfl
 rw [h1] at h3
 injection h3 with h3
 rw [h2, h3]
theorem small_asked : Guidecheck Fishlaw2small 40 0 3 [0] = some 0 := by
 unfold Guidecheck GuidecheckLeast
 rw [small_check]
 kernel_rfl
theorem small_best (n : Nat) : ((SlicesDeleteFuncLguidePoint_v1 (n + 60) [smallP] 0).bind fun q64 => (if (((q64.length : Nat) : Int) == 0) then some ((GuideJourney.mk []), false) else ((SlicesMinFuncLguidePoint_v1 (n + 60) q64).bind fun q76 => ((GuideNetleastOf (n + 60) smallNet 0 3 q76).bind fun q83 => some (q83, true))))) = some (⟨[⟨0, 0, 1⟩, ⟨1, 0, 1⟩]⟩, true) := by kernel_rfl
theorem guides_true (n : Nat) : Fishlaw2guides (n + 60) = some true := by
 have h1 : GuideNetearliest (n + 60) smallNet 0 0 3 = some (⟨[⟨0, 0, 1⟩, ⟨1, 0, 1⟩]⟩, true) := by
  rw [GuideNetearliest, small_points n, Option.bind_some]
  exact small_best n
 have h2 : GuideEarliest (n + 60) Fishlaw2small 0 0 3 40 = some (⟨[⟨0, 0, 1⟩, ⟨1, 0, 1⟩]⟩, 0) := by
  rw [GuideEarliest, small_asked, Option.bind_some]
  show (((GuideNetearliest (n + 60) smallNet 0 0 3).bind _) : Option (GuideJourney × Int)) = _
  rw [h1]; rfl
 rw [Fishlaw2guides, bnd_eq, h2]
 rfl
theorem gx_mem {α : Type} {l : List α} {i : Int} {x : α} (h : gx l i = some x) : x ∈ l := List.mem_of_getElem? (gx_some h).2.2
theorem gx_lt {α : Type} {l : List α} {i : Int} {x : α} (h : gx l i = some x) : 0 ≤ i ∧ i < l.length := by obtain ⟨h1, h2, _⟩ := gx_some h; omega
theorem ite_or (a b : Bool) : (if a then true else b) = (a || b) := by cases a <;> rfl
theorem ite_and (a b : Bool) : (if a then b else false) = (a && b) := by cases a <;> rfl
theorem lwi (x a b : Int) : Linewithin x a b = (decide (a ≤ x) && decide (x ≤ b)) := by
 unfold Linewithin; simp only [bnd_eq, ite_and, ge_iff_le]
theorem lwn (x a b : Int) : (!Linewithin x a b) = (decide (x < a) || decide (x > b)) := by
 rw [lwi, Bool.eq_iff_iff]
 simp only [Bool.not_eq_true', Bool.and_eq_false_iff, decide_eq_false_iff_not, Bool.or_eq_true, decide_eq_true_eq]
 omega
theorem section_eq (s : ApiSection) (n : Int) : LinecheckSection s n = Fishref1checkSection s n := by
 unfold LinecheckSection Fishref1checkSection Lineends
 simp only [bnd_eq, lwn, ite_or, ite_and]
 by_cases k1 : s.Kind = 1
 ·simp [k1, Bool.or_assoc]
 ·by_cases k2 : s.Kind = 2
  ·simp [k2, Bool.or_assoc]
  ·by_cases k3 : s.Kind = 3
   ·simp [k3, Bool.or_assoc]
   ·have h : s.Kind < 1 ∨ s.Kind > 3 := by omega
    simp [k1, k2, k3, h]
theorem section_kind {s : ApiSection} {n : Int} (h : LinecheckSection s n = 0) : 1 ≤ s.Kind ∧ s.Kind ≤ 3 := by
 rw [section_eq] at h
 unfold Fishref1checkSection at h
 simp only [bnd_eq, ite_or] at h
 by_cases k : s.Kind < 1 ∨ s.Kind > 3
 ·simp [k] at h
 ·omega
def okb (b : Int) : Bool := !(decide (b < 97) || decide (b > 122))
def nameOk (s : ByteArray) : Bool := (sby s).all okb && (decide (((s.size : Nat) : Int) ≥ 1) && decide (((s.size : Nat) : Int) ≤ 12))
theorem name_loop : ∀ l : List Int, Linename.loop1 l = if l.all okb then .next () else .ret false
 | [] => rfl
 | x :: l => by
  rw [Linename.loop1, bnd_eq, ite_or, List.all_cons, name_loop l]
  unfold okb
  cases (decide (x < 97) || decide (x > 122)) <;> simp
theorem name_prog {s : ByteArray} (h : inS s) : Linename s = some (nameOk s) := by
 unfold inS at h
 unfold Linename nameOk szok
 rw [if_pos h, Option.bind_some, name_loop, bnd_eq]
 simp only [bnd_eq, ite_and]
 cases (sby s).all okb <;> simp
theorem sgx_by {s : ByteArray} {k : Nat} {y : Int} {r : List Int} (h : (sby s).drop k = y :: r) : sgx s (k : Int) = some y := by
 obtain ⟨h1, h2, h3⟩ := drop_cons h
 unfold sby at h2
 rw [List.getElem?_map] at h2
 unfold sgx
 rw [gx_nat]; exact h2
theorem name_ref1 {s : ByteArray} (h : inS s) : ∀ (n k : Nat), s.size < n + k → k ≤ s.size → Fishref1name.loop1 s n (k : Int) = some (if ((sby s).drop k).all okb then .next ((s.size : Nat) : Int) else .ret false)
 | 0, k, h1, h2 => absurd h1 (by omega)
 | n + 1, k, h1, h2 => by
  unfold inS at h
  have hl := sby_len s
  rw [Fishref1name.loop1]
  cases hd : (sby s).drop k with
  | nil =>
   have := drop_nil hd
   have e : k = s.size := by omega
   subst e
   rw [if_neg (by simp)]; rfl
  | cons y r =>
   obtain ⟨g1, g2, g3⟩ := drop_cons hd
   have ih := name_ref1 (s := s) h n (k + 1) (by omega) (by omega)
   rw [g3] at ih
   rw [if_pos (by simp; omega), sgx_by hd]
   simp only [Option.bind_some]
   rw [show w64 ((k : Int) + 1) = ((k + 1 : Nat) : Int) by rw [w64_id (by omega)]; omega, List.all_cons]
   have hv : (if decide (y < 97) then some true else some (decide (y > 122))) = some (!okb y) := by
    unfold okb
    cases decide (y < 97) <;> simp
   rw [hv, Option.bind_some]
   cases okb y
   ·simp
   ·simpa using ih
theorem name_ref {s : ByteArray} (h : inS s) {fu : Nat} (hf : s.size < fu) : Fishref1name fu s = some (nameOk s) := by
 have := name_ref1 h fu 0 (by omega) (by omega)
 unfold Fishref1name nameOk
 rw [show (0 : Int) = ((0 : Nat) : Int) from rfl, this, Option.bind_some, List.drop_zero]
 simp only [bnd_eq, ite_and]
 cases (sby s).all okb <;> simp
theorem idxS (x : ByteArray) : ∀ (l : List ByteArray) (k : Nat), (SlicesIndexLstring.loop1 x l k = .next () ∧ l.any (seq x) = false) ∨ (∃ j : Nat, SlicesIndexLstring.loop1 x l k = .ret (j : Int)) ∧ l.any (seq x) = true
 | [], k => .inl ⟨rfl, rfl⟩
 | y :: l, k => by
  rw [SlicesIndexLstring.loop1, List.any_cons]
  cases seq x y with
  | true => exact .inr ⟨⟨k, rfl⟩, rfl⟩
  | false => simpa using idxS x l (k + 1)
theorem containsS (l : List ByteArray) (x : ByteArray) : SlicesContainsLstring l x = l.any (seq x) := by
 unfold SlicesContainsLstring SlicesIndexLstring
 rcases idxS x l 0 with ⟨h1, h2⟩ | ⟨⟨j, h1⟩, h2⟩
 ·rw [h1, h2]; rfl
 ·rw [h1, h2]; simp [bnd_eq]
theorem net2 (x : ByteArray) : ∀ l : List ByteArray, Fishref1CheckNet.loop2 x l = if l.any (seq x) then .ret 6 else .next ()
 | [] => rfl
 | y :: l => by
  rw [Fishref1CheckNet.loop2, List.any_cons, net2 x l]
  cases seq x y <;> simp
theorem stations_eq {x0 : ApiNet} (hi : ∀ s ∈ x0.Stations, inS s) {fu : Nat} (hf : ∀ s ∈ x0.Stations, s.size < fu) : ∀ (r : List ByteArray) (k : Nat), x0.Stations.drop k = r →
  ∃ v, LineCheck.loop1 x0 r k = some v ∧ Fishref1CheckNet.loop1 x0 fu r k = some v ∧ ((v = .next () ∧ ∀ s ∈ r, s.size ≤ 12) ∨ ∃ e, v = .ret e ∧ e ≠ 0)
 | [], k, _ => ⟨_, rfl, rfl, .inl ⟨rfl, by simp⟩⟩
 | x :: r, k, hd => by
  obtain ⟨d1, d2, d3⟩ := drop_cons hd
  have hm := List.mem_of_getElem? d2
  rw [LineCheck.loop1, Fishref1CheckNet.loop1, name_prog (hi x hm), name_ref (hi x hm) (hf x hm), Option.bind_some, Option.bind_some]
  cases hn : nameOk x with
  | false => exact ⟨_, rfl, rfl, .inr ⟨1, rfl, by decide⟩⟩
  | true =>
   have hsz : x.size ≤ 12 := by
    unfold nameOk at hn
    simp only [Bool.and_eq_true, decide_eq_true_eq] at hn
    omega
   rw [Bool.not_true, if_neg (by decide), if_neg (by decide), cutl_in (by omega) (by omega) (by omega), Option.bind_some, Option.bind_some, containsS, net2, bnd_eq]
   cases ((x0.Stations.take (k : Int).toNat).drop (0 : Int).toNat).any (seq x) with
   | true => exact ⟨_, rfl, rfl, .inr ⟨6, rfl, by decide⟩⟩
   | false =>
    obtain ⟨v, h1, h2, h3⟩ := stations_eq hi hf r (k + 1) d3
    refine ⟨v, by simpa using h1, by simpa using h2, ?_⟩
    rcases h3 with ⟨h3, h4⟩ | h3
    ·exact .inl ⟨h3, fun s hs => by rcases List.mem_cons.1 hs with rfl | hs; exact hsz; exact h4 s hs⟩
    ·exact .inr h3
theorem sections_eq (x0 : ApiNet) : ∀ l : List ApiSection, LineCheck.loop2 x0 l = Fishref1CheckNet.loop3 x0 l ∧ ((LineCheck.loop2 x0 l = .next () ∧ ∀ s ∈ l, 1 ≤ s.Kind ∧ s.Kind ≤ 3) ∨ ∃ e, LineCheck.loop2 x0 l = .ret e ∧ e ≠ 0)
 | [] => ⟨rfl, .inl ⟨rfl, by simp⟩⟩
 | x :: l => by
  obtain ⟨h1, h2⟩ := sections_eq x0 l
  rw [LineCheck.loop2, Fishref1CheckNet.loop3, ← section_eq]
  by_cases c : LinecheckSection x (x0.Stations.length : Int) = 0
  ·rw [c, bne_self_eq_false, if_neg (by decide), if_neg (by decide)]
   refine ⟨h1, ?_⟩
   rcases h2 with ⟨h2, h3⟩ | h2
   ·exact .inl ⟨h2, fun s hs => by rcases List.mem_cons.1 hs with rfl | hs; exact section_kind c; exact h3 s hs⟩
   ·exact .inr h2
  ·rw [if_pos (by simpa using c), if_pos (by simpa using c)]
   exact ⟨rfl, .inr ⟨_, rfl, c⟩⟩
structure NetK (x0 : ApiNet) : Prop where
 kind : ∀ s ∈ x0.Sections, 1 ≤ s.Kind ∧ s.Kind ≤ 3
 len : x0.Sections.length ≤ 60 ∧ 0 < x0.Sections.length
 links : x0.Links.length ≤ 90
 sigs : x0.Signals.length ≤ 40
 gates : x0.Gates.length ≤ 8
theorem ends_of {k : Int} (h : 1 ≤ k ∧ k ≤ 3) : Fishref1EndsOf k = some (Lineends k) ∧ 2 ≤ Lineends k ∧ Lineends k ≤ 4 := by
 obtain rfl | rfl | rfl : k = 1 ∨ k = 2 ∨ k = 3 := by omega
 ·exact ⟨rfl, by decide, by decide⟩
 ·exact ⟨rfl, by decide, by decide⟩
 ·exact ⟨rfl, by decide, by decide⟩
theorem has_eq {x0 : ApiNet} (h : NetK x0) (a b : Int) : ∃ v, Linehas x0 ⟨a, b⟩ = some v ∧ Fishref1hasEnd x0 a b = some v ∧ (v = true → ∃ s, gx x0.Sections a = some s) := by
 have hl := h.len
 unfold Linehas Fishref1hasEnd
 rw [lwi, w64_id (by omega)]
 by_cases c : 0 ≤ a ∧ a < (x0.Sections.length : Int)
 ·have hg : gx x0.Sections a = some (x0.Sections[a.toNat]'(by omega)) := by
   unfold gx; rw [if_pos c.1, List.getElem?_eq_getElem (by omega)]
  have hk := h.kind _ (List.getElem_mem (l := x0.Sections) (n := a.toNat) (by omega))
  obtain ⟨e1, e2, e3⟩ := ends_of hk
  simp only
  rw [show decide (a ≥ 0) = true from decide_eq_true c.1, decide_eq_true (show a ≤ (x0.Sections.length : Int) - 1 by omega), Bool.and_self, if_pos rfl, hg, if_pos rfl, decide_eq_true c.2, if_pos rfl]
  simp only [Option.bind_some, e1]
  rw [lwi, w64_id (by omega)]
  generalize Lineends (x0.Sections[a.toNat]'(by omega)).Kind = z at e2 e3
  refine ⟨_, rfl, ?_, fun _ => ⟨_, rfl⟩⟩
  by_cases d : b ≥ 0
  ·rw [decide_eq_true d, if_pos rfl, Option.bind_some, Bool.true_and]
   congr 1
   exact decide_eq_decide.2 (by omega)
  ·rw [decide_eq_false d, if_neg (by decide)]; rfl
 ·have e1 : (decide (0 ≤ a) && decide (a ≤ (x0.Sections.length : Int) - 1)) = false := by
   rw [Bool.and_eq_false_iff]; simp only [decide_eq_false_iff_not]; omega
  refine ⟨false, ?_, ?_, fun h => by cases h⟩
  ·simp only [e1]; rfl
  ·by_cases d : a ≥ 0
   ·rw [decide_eq_true d, if_pos rfl, decide_eq_false (show ¬ a < (x0.Sections.length : Int) by omega)]; rfl
   ·rw [decide_eq_false d]; rfl
theorem or2 (a b : Int) : CmpOrint [a, b] = if a = 0 then b else a := by
 unfold CmpOrint
 simp only [CmpOrint.loop1, bnd_eq]
 by_cases ha : a = 0
 ·subst ha
  by_cases hb : b = 0
  ·subst hb; simp
  ·simp [hb]
 ·simp [ha]
theorem ord2 (a b c d : Int) : decide (CmpOrint [CmpCompareint a c, CmpCompareint b d] ≥ 0) = !(Fishref1less a b c d) := by
 rw [or2]
 unfold Fishref1less CmpCompareint CmpisNaNint
 simp only [bnd_eq, ite_or, ite_and, bne_self_eq_false, Bool.false_eq_true, if_false, decide_eq_true_eq]
 rcases Int.lt_trichotomy a c with h | h | h
 ·simp [h]
 ·subst h
  rcases Int.lt_trichotomy b d with k | k | k
  ·simp [k]
  ·subst k; simp
  ·have k2 : ¬ b < d := by omega
   simp [k, k2]
 ·have h2 : ¬ a < c := by omega
  have h3 : ¬ a = c := by omega
  simp [h, h2, h3]
theorem ifF {α : Type} (a b : α) : (if (false : Bool) = true then a else b) = b := rfl
theorem ifT {α : Type} (a b : α) : (if (true : Bool) = true then a else b) = a := rfl
def hit (x y : ApiLink) : Bool := ((y.A == x.A) && (y.EndA == x.EndA)) || ((y.A == x.B) && (y.EndA == x.EndB)) || (((y.B == x.A) && (y.EndB == x.EndA)) || ((y.B == x.B) && (y.EndB == x.EndB)))
theorem link2 (x : ApiLink) (y : ApiLink) : Fishref1checkLink.loop2 x [(Ar2i64.mk y.A y.EndA), (Ar2i64.mk y.B y.EndB)] = if hit x y then .ret 6 else .next () := by
 simp only [Fishref1checkLink.loop2, bnd_eq, ite_or]
 unfold hit
 cases (((y.A == x.A) && (y.EndA == x.EndA)) || ((y.A == x.B) && (y.EndA == x.EndB))) <;> cases (((y.B == x.A) && (y.EndB == x.EndA)) || ((y.B == x.B) && (y.EndB == x.EndB))) <;> rfl
theorem link1 (x : ApiLink) : ∀ l : List ApiLink, Fishref1checkLink.loop1 x l = if l.any (hit x) then .ret 6 else .next ()
 | [] => rfl
 | y :: l => by
  rw [Fishref1checkLink.loop1, link2, bnd_eq, List.any_cons, link1 x l]
  cases hit x y <;> simp
theorem mget_put' {κ ν : Type} [BEq κ] [LawfulBEq κ] [DecidableEq κ] (m : List (κ × ν)) (k j : κ) (v : ν) : mget (mput m k v) j = if j = k then some v else mget m j := by
 induction m with
 | nil => by_cases h : j = k <;> simp [mput, mget, h]
 | cons p r ih =>
  obtain ⟨a, b⟩ := p
  simp only [mput]
  by_cases h : k = a
  ·subst h
   simp only [beq_self_eq_true, if_true, mget]
   by_cases h2 : j = k <;> simp [h2]
  ·have hb : (k == a) = false := by simpa using h
   simp only [hb, Bool.false_eq_true, if_false, mget]
   by_cases h2 : j = a
   ·subst h2; have : ¬ j = k := fun e => h e.symm; simp [this]
   ·have hb2 : (j == a) = false := by simpa using h2
    simp [hb2, ih]
theorem links_eq {x0 : ApiNet} (h : NetK x0) : ∀ (r : List ApiLink) (k : Nat) (q : List (LineEnd × Bool)), x0.Links.drop k = r →
  (∀ e : LineEnd, (mget q e).getD false = (x0.Links.take k).any (fun l => ((l.A == e.section_) && (l.EndA == e.end_)) || ((l.B == e.section_) && (l.EndB == e.end_)))) →
  (∃ q', LinecheckLinks.loop1 x0 r k q = some (.next q') ∧ Fishref1CheckNet.loop4 x0 r k = some (.next ())) ∨ ∃ e, LinecheckLinks.loop1 x0 r k q = some (.ret e) ∧ Fishref1CheckNet.loop4 x0 r k = some (.ret e) ∧ e ≠ 0
 | [], k, q, _, _ => .inl ⟨q, rfl, rfl⟩
 | x :: r, k, q, hd, hq => by
  obtain ⟨d1, d2, d3⟩ := drop_cons hd
  have hll := h.links
  obtain ⟨va, a1, a2, _⟩ := has_eq h x.A x.EndA
  obtain ⟨vb, b1, b2, _⟩ := has_eq h x.B x.EndB
  have hgx : gx x0.Links (k : Int) = some x := by rw [gx_nat]; exact d2
  rw [LinecheckLinks.loop1, Fishref1CheckNet.loop4, Fishref1checkLink, hgx, Option.bind_some, a1, a2, Option.bind_some, Option.bind_some]
  cases va with
  | false => exact .inr ⟨3, rfl, rfl, by decide⟩
  | true =>
   rw [Bool.not_true, ifF, ifF, b1, b2, Option.bind_some, Option.bind_some]
   cases vb with
   | false => exact .inr ⟨3, rfl, rfl, by decide⟩
   | true =>
    simp only [Bool.not_true, Option.bind_some, ifF]
    by_cases c1 : x.A = x.B
    ·have n1 : (x.A == x.B) = true := by simpa using c1
     simp only [n1, ifT]
     exact .inr ⟨1, rfl, rfl, by decide⟩
    ·have n1 : (x.A == x.B) = false := by simpa using c1
     simp only [n1, ifF]
     by_cases c2 : x.A > x.B
     ·simp only [decide_eq_true c2, ifT, Option.bind_some]
      exact .inr ⟨5, rfl, rfl, by decide⟩
     ·simp only [decide_eq_false c2, ifF]
      have hcut : cutl x0.Links 0 (k : Int) = some (x0.Links.take k) := by rw [cutl_in (by omega) (by omega) (by omega)]; rfl
      have hany : (if (mget q (LineEnd.mk x.A x.EndA)).getD false then true else (mget q (LineEnd.mk x.B x.EndB)).getD false) = (x0.Links.take k).any (hit x) := by
       rw [hq, hq, ite_or]
       rw [Bool.eq_iff_iff]
       simp only [Bool.or_eq_true, List.any_eq_true, hit, Bool.and_eq_true, beq_iff_eq]
       constructor
       ·rintro (⟨y, hy, e⟩ | ⟨y, hy, e⟩)
        ·exact ⟨y, hy, by rcases e with e | e; exact .inl (.inl e); exact .inr (.inl e)⟩
        ·exact ⟨y, hy, by rcases e with e | e; exact .inl (.inr e); exact .inr (.inr e)⟩
       ·rintro ⟨y, hy, (e | e) | (e | e)⟩
        ·exact .inl ⟨y, hy, .inl e⟩
        ·exact .inr ⟨y, hy, .inl e⟩
        ·exact .inl ⟨y, hy, .inr e⟩
        ·exact .inr ⟨y, hy, .inr e⟩
      have ih := links_eq h r (k + 1) (mput (mput q (LineEnd.mk x.A x.EndA) true) (LineEnd.mk x.B x.EndB) true) d3 (fun e => by
       rw [mget_put', mget_put']
       have htk : x0.Links.take (k + 1) = x0.Links.take k ++ [x] := by
        rw [List.take_add_one, d2]; rfl
       rw [htk, List.any_append, ← hq e]
       obtain ⟨e1, e2⟩ := e
       by_cases g1 : (LineEnd.mk e1 e2) = LineEnd.mk x.B x.EndB
       ·rw [if_pos g1]
        injection g1 with g1 g2
        subst g1; subst g2
        simp
       ·rw [if_neg g1]
        by_cases g2 : (LineEnd.mk e1 e2) = LineEnd.mk x.A x.EndA
        ·rw [if_pos g2]
         injection g2 with g2 g3
         subst g2; subst g3
         simp
        ·rw [if_neg g2]
         have n1 : ¬ (x.A = e1 ∧ x.EndA = e2) := fun z => g2 (by rw [z.1, z.2])
         have n2 : ¬ (x.B = e1 ∧ x.EndB = e2) := fun z => g1 (by rw [z.1, z.2])
         have : ([x].any fun l => ((l.A == e1) && (l.EndA == e2)) || ((l.B == e1) && (l.EndB == e2))) = false := by
          simp only [List.any_cons, List.any_nil, Bool.or_false, Bool.or_eq_false_iff, Bool.and_eq_false_iff, beq_eq_false_iff_ne]
          exact ⟨by by_cases z : x.A = e1; exact .inr fun w => n1 ⟨z, w⟩; exact .inl z, by by_cases z : x.B = e1; exact .inr fun w => n2 ⟨z, w⟩; exact .inl z⟩
         simp only at this ⊢
         rw [this, Bool.or_false])
      by_cases c3 : (k : Int) > 0
      ·have hpg : gx x0.Links (w64 ((k : Int) - 1)) = some (x0.Links[k - 1]'(by omega)) := by
        rw [w64_id (by omega), show ((k : Int) - 1) = ((k - 1 : Nat) : Int) by omega, gx_nat, List.getElem?_eq_getElem (by omega)]
       simp only [decide_eq_true c3, ifT, hpg, Option.bind_some, ord2]
       cases hless : Fishref1less (x0.Links[k - 1]'(by omega)).A (x0.Links[k - 1]'(by omega)).EndA x.A x.EndA with
       | false => exact .inr ⟨5, rfl, rfl, by decide⟩
       | true =>
        simp only [Bool.not_true, ifF, Option.bind_some, hcut, link1, bnd_eq, hany]
        cases (x0.Links.take k).any (hit x) with
        | true => exact .inr ⟨6, rfl, rfl, by decide⟩
        | false => simpa using ih
      ·simp only [decide_eq_false c3, ifF, Option.bind_some, hcut, link1, bnd_eq, hany]
       cases (x0.Links.take k).any (hit x) with
       | true => exact .inr ⟨6, rfl, rfl, by decide⟩
       | false => simpa using ih
theorem joined_loop (a b : Int) : ∀ (l : List ApiLink) (p q : Int), (∃ e, Linejoined.loop1 ⟨a, b⟩ l p q = .ret (e, true) ∧ ∃ f g, Fishref1next.loop1 a b l = .ret (f, g, true)) ∨ ((∃ e, Linejoined.loop1 ⟨a, b⟩ l p q = .next e) ∧ Fishref1next.loop1 a b l = .next ())
 | [], p, q => .inr ⟨⟨_, rfl⟩, rfl⟩
 | x :: l, p, q => by
  rw [Linejoined.loop1, Fishref1next.loop1]
  simp only [bnd_eq, ite_and]
  cases (x.A == a && x.EndA == b) with
  | true => exact .inl ⟨_, rfl, _, _, rfl⟩
  | false =>
   cases (x.B == a && x.EndB == b) with
   | true => exact .inl ⟨_, rfl, _, _, rfl⟩
   | false => simpa using joined_loop a b l p q
theorem joined_eq (x0 : ApiNet) (a b : Int) : (Linejoined x0 ⟨a, b⟩).2 = (Fishref1next x0 a b).2.2 := by
 unfold Linejoined Fishref1next
 rcases joined_loop a b x0.Links 0 0 with ⟨e, h1, f, g, h2⟩ | ⟨⟨e, h1⟩, h2⟩
 ·rw [h1, h2]; rfl
 ·rw [h1, h2]; rfl
theorem sigs_eq {x0 : ApiNet} (h : NetK x0) : ∀ (r : List ApiSignal) (k : Nat), x0.Signals.drop k = r →
  (LinecheckSignals.loop1 x0 r k = some (.next ()) ∧ Fishref1checkRest.loop1 x0 r k = some (.next ())) ∨ ∃ e, LinecheckSignals.loop1 x0 r k = some (.ret e) ∧ Fishref1checkRest.loop1 x0 r k = some (.ret e) ∧ e ≠ 0
 | [], k, _ => .inl ⟨rfl, rfl⟩
 | x :: r, k, hd => by
  obtain ⟨d1, d2, d3⟩ := drop_cons hd
  have hsl := h.sigs
  obtain ⟨v, a1, a2, a3⟩ := has_eq h x.Section x.End
  rw [LinecheckSignals.loop1, Fishref1checkRest.loop1, a1, a2, Option.bind_some, Option.bind_some]
  cases v with
  | false => exact .inr ⟨3, rfl, rfl, by decide⟩
  | true =>
   obtain ⟨s, hs⟩ := a3 rfl
   rw [Bool.not_true, ifF, ifF, bnd_eq, bnd_eq, joined_eq, hs, Option.bind_some, Option.bind_some]
   have e1 : (if (!(Fishref1next x0 x.Section x.End).2.2) = true then some true else some (s.Kind != 1)) = some ((s.Kind != 1) || !(Fishref1next x0 x.Section x.End).2.2) := by
    cases (Fishref1next x0 x.Section x.End).2.2 <;> cases (s.Kind != 1) <;> rfl
   have e2 : (if (s.Kind != 1) = true then some true else some (!(Fishref1next x0 x.Section x.End).2.2)) = some ((s.Kind != 1) || !(Fishref1next x0 x.Section x.End).2.2) := by
    cases (Fishref1next x0 x.Section x.End).2.2 <;> cases (s.Kind != 1) <;> rfl
   rw [e1, e2, Option.bind_some, Option.bind_some]
   cases ((s.Kind != 1) || !(Fishref1next x0 x.Section x.End).2.2) with
   | true => exact .inr ⟨1, rfl, rfl, by decide⟩
   | false =>
    rw [ifF, ifF]
    have ih := sigs_eq h r (k + 1) d3
    by_cases c3 : (k : Int) > 0
    ·have hpg : gx x0.Signals (w64 ((k : Int) - 1)) = some (x0.Signals[k - 1]'(by omega)) := by
      rw [w64_id (by omega), show ((k : Int) - 1) = ((k - 1 : Nat) : Int) by omega, gx_nat, List.getElem?_eq_getElem (by omega)]
     rw [decide_eq_true c3, ifT, ifT, hpg, Option.bind_some, Option.bind_some, Option.bind_some, ord2]
     cases Fishref1less (x0.Signals[k - 1]'(by omega)).Section (x0.Signals[k - 1]'(by omega)).End x.Section x.End with
     | false => exact .inr ⟨5, rfl, rfl, by decide⟩
     | true => simpa using ih
    ·rw [decide_eq_false c3, ifF, ifF]
     simpa using ih
theorem gates_eq {x0 : ApiNet} (h : NetK x0) : ∀ (r : List ApiGate) (k : Nat), x0.Gates.drop k = r →
  (LinecheckGates.loop1 x0 r k = some (.next ()) ∧ Fishref1checkRest.loop2 x0 r k = some (.next ())) ∨ ∃ e, LinecheckGates.loop1 x0 r k = some (.ret e) ∧ Fishref1checkRest.loop2 x0 r k = some (.ret e) ∧ e ≠ 0
 | [], k, _ => .inl ⟨rfl, rfl⟩
 | x :: r, k, hd => by
  obtain ⟨d1, d2, d3⟩ := drop_cons hd
  have hgl := h.gates
  have hl := h.len
  rw [LinecheckGates.loop1, Fishref1checkRest.loop2, lwn, lwn, w64_id (by omega)]
  simp only [bnd_eq, ite_or]
  have e1 : (decide (x.Section < 0) || decide (x.Section > (x0.Sections.length : Int) - 1)) = (decide (x.Section < 0) || decide (x.Section ≥ (x0.Sections.length : Int))) := by
   congr 1; exact decide_eq_decide.2 (by omega)
  rw [e1]
  cases c : (decide (x.Section < 0) || decide (x.Section ≥ (x0.Sections.length : Int))) with
  | true => exact .inr ⟨3, rfl, rfl, by decide⟩
  | false =>
   simp only [Bool.or_eq_false_iff, decide_eq_false_iff_not] at c
   have hg : gx x0.Sections x.Section = some (x0.Sections[x.Section.toNat]'(by omega)) := by
    unfold gx; rw [if_pos (by omega), List.getElem?_eq_getElem (by omega)]
   rw [ifF, ifF, hg, Option.bind_some, Option.bind_some]
   cases ((x0.Sections[x.Section.toNat]'(by omega)).Kind != 1) with
   | true => exact .inr ⟨1, rfl, rfl, by decide⟩
   | false =>
    rw [ifF, ifF]
    cases (decide (x.Close < 1) || decide (x.Close > 12)) with
    | true => exact .inr ⟨2, rfl, rfl, by decide⟩
    | false =>
     rw [ifF, ifF]
     have ih := gates_eq h r (k + 1) d3
     by_cases c3 : (k : Int) > 0
     ·have hpg : gx x0.Gates (w64 ((k : Int) - 1)) = some (x0.Gates[k - 1]'(by omega)) := by
       rw [w64_id (by omega), show ((k : Int) - 1) = ((k - 1 : Nat) : Int) by omega, gx_nat, List.getElem?_eq_getElem (by omega)]
      simp only [decide_eq_true c3, ifT, hpg, Option.bind_some]
      cases decide (x.Section ≤ (x0.Gates[k - 1]'(by omega)).Section) with
      | true => exact .inr ⟨5, rfl, rfl, by decide⟩
      | false => simpa using ih
     ·simp only [decide_eq_false c3, ifF, Option.bind_some]
      simpa using ih
theorem net_ok {x0 : ApiNet} (hi : ∀ s ∈ x0.Stations, inS s) {fu : Nat} (hf : ∀ s ∈ x0.Stations, s.size < fu) : ∃ e, LineCheck x0 = some e ∧ Fishref1CheckNet fu x0 = some e ∧ (e = 0 → x0.Stations.length ≤ 12 ∧ ∀ s ∈ x0.Stations, s.size ≤ 12) := by
 unfold LineCheck Fishref1CheckNet
 by_cases c0 : x0.Sections.length = 0
 ·have k0 : ((x0.Sections.length : Int) == 0) = true := by rw [c0]; rfl
  rw [k0]
  exact ⟨1, rfl, rfl, fun h => by cases h⟩
 have k0 : ((x0.Sections.length : Int) == 0) = false := by rw [beq_eq_false_iff_ne]; omega
 rw [k0]
 simp only [bnd_eq, ite_or, ifF]
 cases c1 : (decide ((x0.Stations.length : Int) > 12) || (decide ((x0.Sections.length : Int) > 60) || (decide ((x0.Links.length : Int) > 90) || (decide ((x0.Signals.length : Int) > 40) || decide ((x0.Gates.length : Int) > 8))))) with
 | true => exact ⟨4, rfl, rfl, fun h => by cases h⟩
 | false =>
  simp only [Bool.or_eq_false_iff, decide_eq_false_iff_not] at c1
  simp only [ifF]
  obtain ⟨v, h1, h2, h3⟩ := stations_eq hi hf x0.Stations 0 rfl
  rw [h1, h2, Option.bind_some, Option.bind_some]
  rcases h3 with ⟨rfl, h4⟩ | ⟨e, rfl, h4⟩
  rotate_left
  ·exact ⟨e, rfl, rfl, fun h => absurd h h4⟩
  simp only
  obtain ⟨g1, g2⟩ := sections_eq x0 x0.Sections
  rw [← g1]
  rcases g2 with ⟨g2, g3⟩ | ⟨e, g2, g3⟩
  rotate_left
  ·rw [g2]; exact ⟨e, rfl, rfl, fun h => absurd h g3⟩
  rw [g2]
  simp only
  have hK : NetK x0 := ⟨g3, by omega, by omega, by omega, by omega⟩
  rw [LineCheck.loop3, if_pos (by decide), LinecheckLinks]
  rcases links_eq hK x0.Links 0 [] rfl (fun e => by simp [mget]) with ⟨q, l1, l2⟩ | ⟨e, l1, l2, l3⟩
  rotate_left
  ·rw [l1, l2, Option.bind_some, Option.bind_some, Option.bind_some, if_pos (by simpa using l3)]; exact ⟨e, rfl, rfl, fun h => absurd h l3⟩
  rw [l1, l2, Option.bind_some, Option.bind_some, Option.bind_some, if_neg (by decide)]
  simp only
  rw [LineCheck.loop3, if_neg (by decide), if_pos (by decide), LinecheckSignals, Fishref1checkRest]
  rcases sigs_eq hK x0.Signals 0 rfl with ⟨s1, s2⟩ | ⟨e, s1, s2, s3⟩
  rotate_left
  ·rw [s1, s2, Option.bind_some, Option.bind_some, Option.bind_some, if_pos (by simpa using s3)]; exact ⟨e, rfl, rfl, fun h => absurd h s3⟩
  rw [s1, s2, Option.bind_some, Option.bind_some, Option.bind_some, if_neg (by decide)]
  simp only
  rw [LineCheck.loop3, if_neg (by decide), if_neg (by decide), LinecheckGates]
  rcases gates_eq hK x0.Gates 0 rfl with ⟨s1, s2⟩ | ⟨e, s1, s2, s3⟩
  rotate_left
  ·rw [s1, s2, Option.bind_some, Option.bind_some, Option.bind_some, if_pos (by simpa using s3)]; exact ⟨e, rfl, rfl, fun h => absurd h s3⟩
  rw [s1, s2, Option.bind_some, Option.bind_some, Option.bind_some, if_neg (by decide)]
  exact ⟨0, rfl, rfl, fun _ => ⟨by omega, h4⟩⟩
theorem zs1 : (str [32]).size = 1 := rfl
theorem zs2 : (str [10]).size = 1 := rfl
theorem zs3 : (str [58]).size = 1 := rfl
theorem zs4 : (str [99, 97, 110, 99, 101, 108, 108, 101, 100]).size = 9 := rfl
theorem zs5 : (str [116, 114, 97, 99, 107, 32]).size = 6 := rfl
theorem zs6 : (str [32, 109, 105, 110, 117, 116, 101, 115, 32, 108, 97, 116, 101]).size = 13 := rfl
theorem zs7 : (str [116, 114, 97, 105, 110, 32]).size = 6 := rfl
theorem zs8 : (str [32, 100, 111, 101, 115, 32, 110, 111, 116, 32, 115, 116, 111, 112, 32, 97, 116, 32]).size = 18 := rfl
theorem zs9 : (str [32, 105, 115, 32, 109, 105, 115, 115, 101, 100, 32, 97, 116, 32]).size = 14 := rfl
theorem zs10 : (str [32, 97, 114, 114, 105, 118, 101, 115, 32, 97, 116, 32]).size = 12 := rfl
theorem zs11 : (str [32, 97, 116, 32]).size = 4 := rfl
theorem zs12 : (str [32, 108, 101, 97, 118, 101, 115, 32]).size = 8 := rfl
theorem zs13 : (str [32, 102, 114, 111, 109, 32, 116, 114, 97, 99, 107, 32]).size = 12 := rfl
theorem bytes_of {a b : ByteArray} (h : a.data.toList = b.data.toList) : a = b := by
 cases a; cases b
 congr 1
 exact Array.toList_inj.1 h
theorem two_all : ((List.range 60).all fun n => match Guidetwo (n : Int), Fishref2clock_1 (n : Int) with | some a, some b => a.data.toList == b.data.toList && a.size == 2 | _, _ => false) = true := by kernel_rfl
theorem two_at {n : Int} (h : 0 ≤ n ∧ n < 60) : ∃ s, Guidetwo n = some s ∧ Fishref2clock_1 n = some s ∧ s.size = 2 := by
 have h1 := List.all_eq_true.1 two_all n.toNat (List.mem_range.2 (by omega))
 rw [show ((n.toNat : Nat) : Int) = n by omega] at h1
 cases e1 : Guidetwo n with
 | none => rw [e1] at h1; simp at h1
 | some a =>
  cases e2 : Fishref2clock_1 n with
  | none => rw [e1, e2] at h1; simp at h1
  | some b =>
   rw [e1, e2] at h1
   simp only [Bool.and_eq_true, beq_iff_eq] at h1
   exact ⟨a, rfl, by rw [bytes_of h1.1], h1.2⟩
theorem clk_ok {t : Int} (h : 0 ≤ t ∧ t ≤ 28800) : ∃ s, Guideclock t = some s ∧ Fishref2clock t = some s ∧ s.size = 5 := by
 have e1 : w64 (Int.tdiv t 3600) = t / 3600 := by rw [Int.tdiv_eq_ediv_of_nonneg h.1, w64_id (by omega)]
 have e2 : Int.tmod (w64 (Int.tdiv t 60)) 60 = t / 60 % 60 := by
  rw [Int.tdiv_eq_ediv_of_nonneg h.1, w64_id (by omega), Int.tmod_eq_emod_of_nonneg (by omega)]
 obtain ⟨a, a1, a2, a3⟩ := two_at (n := t / 3600) (by omega)
 obtain ⟨b, b1, b2, b3⟩ := two_at (n := t / 60 % 60) (by omega)
 refine ⟨a ++ str [58] ++ b, ?_, ?_, ?_⟩
 ·rw [Guideclock, e1, e2, a1, Option.bind_some, scat_in (by rw [zs3, a3]; decide), Option.bind_some, b1, Option.bind_some, scat_in (by rw [ByteArray.size_append, zs3, a3, b3]; decide), Option.bind_some]
 ·rw [Fishref2clock, e1, e2, a2, Option.bind_some, scat_in (by rw [zs3, a3]; decide), Option.bind_some, b2, Option.bind_some, scat_in (by rw [ByteArray.size_append, zs3, a3, b3]; decide), Option.bind_some]
 ·rw [ByteArray.size_append, ByteArray.size_append, zs3, a3, b3]
theorem r2within (x a b : Int) : Fishref2within x a b = Guidewithin x a b := rfl
theorem gwn (x a b : Int) : (!Guidewithin x a b) = (decide (x < a) || decide (x > b)) := by
 rw [Bool.eq_iff_iff, Bool.not_eq_true', Bool.or_eq_true, decide_eq_true_eq, decide_eq_true_eq, ← Bool.not_eq_true, within_iff]
 omega
theorem board_loop {x0 : ApiNet} (hl : x0.Stations.length ≤ 12) (hs : ∀ s ∈ x0.Stations, s.size ≤ 12) : ∀ (r : List GuideLine) (q : ByteArray), q.size + 200 * r.length ≤ 100000 →
  ∃ v, GuideBoardText.loop1 x0 r q = some v ∧ Fishref2BoardText.loop1 x0 r q = some v
 | [], q, _ => ⟨_, rfl, rfl⟩
 | x :: r, q, hq => by
  simp only [List.length_cons] at hq
  rw [GuideBoardText.loop1, Fishref2BoardText.loop1]
  simp only [r2within, gwn, bnd_eq, ite_or, ite_and]
  cases c1 : (decide (x.Time < 0) || decide (x.Time > 28800) || (decide (x.Late < 0) || decide (x.Late > 28800) || (decide (x.No < 1) || decide (x.No > 9999)))) with
  | true => exact ⟨_, rfl, rfl⟩
  | false =>
   simp only [Bool.or_eq_false_iff, decide_eq_false_iff_not] at c1
   rw [w64_id (by omega)]
   have e1 : (decide (x.To < 0) || decide (x.To > (x0.Stations.length : Int) - 1)) = (decide (x.To < 0) || decide (x.To ≥ (x0.Stations.length : Int))) := by
    congr 1; exact decide_eq_decide.2 (by omega)
   rw [e1]
   simp only [ifF]
   cases c2 : (decide (x.To < 0) || decide (x.To ≥ (x0.Stations.length : Int))) with
   | true => exact ⟨_, rfl, rfl⟩
   | false =>
    simp only [Bool.or_eq_false_iff, decide_eq_false_iff_not] at c2
    simp only [ifF]
    cases c3 : (!x.Ends && (decide (x.Track < 0) || decide (x.Track > 59))) with
    | true => exact ⟨_, rfl, rfl⟩
    | false =>
     have hg : gx x0.Stations x.To = some (x0.Stations[x.To.toNat]'(by omega)) := by
      unfold gx; rw [if_pos (by omega), List.getElem?_eq_getElem (by omega)]
     have hn := hs _ (List.getElem_mem (l := x0.Stations) (n := x.To.toNat) (by omega))
     generalize x0.Stations[x.To.toNat]'(by omega) = nm at hg hn
     obtain ⟨c, k1, k2, k3⟩ := clk_ok (t := x.Time) (by omega)
     have i1 := itoa_tx (n := x.No) (by omega)
     have z1 := tx_size (n := x.No) (by omega)
     simp only [ifF, hg, k1, k2, i1, Option.bind_some]
     simp (disch := (first | omega | (simp only [ByteArray.size_append, zs1, zs2, zs3, zs4, zs5, zs6]; omega))) only [scat_in, sbw_in, Option.bind_some]
     cases he : x.Ends with
     | true =>
      try simp only [ifT, if_true]
      try simp (disch := (first | omega | (simp only [ByteArray.size_append, zs1, zs2, zs3, zs4, zs5, zs6]; omega))) only [scat_in, sbw_in, Option.bind_some]
      exact board_loop hl hs r _ (by first | omega | (simp only [ByteArray.size_append, zs1, zs2, zs3, zs4, zs5, zs6]; omega))
     | false =>
      rw [he] at c3
      simp only [Bool.not_false, Bool.true_and, Bool.or_eq_false_iff, decide_eq_false_iff_not] at c3
      have i2 := itoa_tx (n := x.Track) (by omega)
      have z2 := tx_size (n := x.Track) (by omega)
      simp only [ifF, i2, Option.bind_some]
      by_cases c4 : x.Late ≥ 60
      ·have e2 : w64 (Int.tdiv x.Late 60) = x.Late / 60 := by rw [Int.tdiv_eq_ediv_of_nonneg (by omega), w64_id (by omega)]
       have i3 := itoa_tx (n := x.Late / 60) (by omega)
       have z3 := tx_size (n := x.Late / 60) (by omega)
       simp only [decide_eq_true c4, ifT, if_true, if_pos c4, e2, i3, Option.bind_some]
       simp (disch := (first | omega | (simp only [ByteArray.size_append, zs1, zs2, zs3, zs4, zs5, zs6]; omega))) only [scat_in, sbw_in, Option.bind_some]
       obtain ⟨v, v1, v2⟩ := board_loop hl hs r (q ++ (c ++ str [32] ++ tx x.No ++ str [32] ++ nm ++ str [32]) ++ (str [116, 114, 97, 99, 107, 32] ++ tx x.Track) ++ (str [32] ++ tx (x.Late / 60) ++ str [32, 109, 105, 110, 117, 116, 101, 115, 32, 108, 97, 116, 101]) ++ str [10]) (by first | omega | (simp only [ByteArray.size_append, zs1, zs2, zs3, zs4, zs5, zs6]; omega))
       refine ⟨v, v1, ?_⟩
       rw [← v2]
       simp only [ByteArray.append_assoc]
      ·try simp only [decide_eq_false c4, ifF, if_false, if_neg c4]
       try simp (disch := (first | omega | (simp only [ByteArray.size_append, zs1, zs2, zs3, zs4, zs5, zs6]; omega))) only [scat_in, sbw_in, Option.bind_some]
       exact board_loop hl hs r _ (by first | omega | (simp only [ByteArray.size_append, zs1, zs2, zs3, zs4, zs5, zs6]; omega))
theorem boardtext_ok {x0 : ApiNet} {e : Int} (h : LineCheck x0 = some e) (h0 : e = 0 → x0.Stations.length ≤ 12 ∧ ∀ s ∈ x0.Stations, s.size ≤ 12) (x1 : List GuideLine) :
  (e ≠ 0 ∧ GuideBoardText x0 x1 = some (str [], e)) ∨ (e = 0 ∧ ∃ v, GuideBoardText x0 x1 = some v ∧ Fishref2BoardText x0 x1 = some v) := by
 rw [GuideBoardText, h, Option.bind_some]
 by_cases c : e = 0
 ·right
  refine ⟨c, ?_⟩
  obtain ⟨h1, h2⟩ := h0 c
  subst c
  rw [Fishref2BoardText, bne_self_eq_false, ifF]
  by_cases d : (x1.length : Int) > 40
  ·rw [decide_eq_true d]; exact ⟨_, rfl, rfl⟩
  ·rw [decide_eq_false d]
   simp only [ifF]
   obtain ⟨v, v1, v2⟩ := board_loop h1 h2 x1 ByteArray.empty (by simp; omega)
   rw [v1, show str [] = ByteArray.empty from rfl, v2, Option.bind_some]
   cases v with
   | ret a => exact ⟨_, rfl, rfl⟩
   | next a => exact ⟨_, rfl, rfl⟩
 ·left
  refine ⟨c, ?_⟩
  rw [if_pos (by simpa using c)]
theorem gx_cases {α : Type} (l : List α) (k : Int) : (gx l k = none ∧ (k < 0 ∨ k ≥ (l.length : Int))) ∨ ∃ s, gx l k = some s ∧ 0 ≤ k ∧ k < (l.length : Int) ∧ s ∈ l := by
 cases h : gx l k with
 | none =>
  refine .inl ⟨rfl, ?_⟩
  unfold gx at h
  split at h
  ·rw [List.getElem?_eq_none_iff] at h; omega
  ·omega
 | some s => exact .inr ⟨s, rfl, (gx_lt h).1, (gx_lt h).2, gx_mem h⟩
theorem out_of {k : Int} {n : Nat} (h : k < 0 ∨ k ≥ (n : Int)) : (decide (k < 0) || decide (k ≥ (n : Int))) = true := by simpa using h
theorem in_of {k : Int} {n : Nat} (h : 0 ≤ k ∧ k < (n : Int)) : (decide (k < 0) || decide (k ≥ (n : Int))) = false := by simp; omega
theorem low_eq (k : Int) (n : Nat) : (decide (k < 0) || decide (k > (n : Int) - 1)) = (decide (k < 0) || decide (k ≥ (n : Int))) := by
 congr 1; exact decide_eq_decide.2 (by omega)
theorem say_ok {x0 : ApiNet} (hl : x0.Stations.length ≤ 12) (hs : ∀ s ∈ x0.Stations, s.size ≤ 12) {x3 : ApiDay} (hd : DayOk x3) (h : LineCheck x0 = some 0) (k : GuideCheck x3 = some 0) (x1 : GuideMessage) (x2 : GuidePromise) (hr : x2.Journey.Rides.length ≤ 9223372036854775807) :
  ∃ v, GuideSay x0 x1 x2 x3 = some v ∧ Fishref2SayOf x0 x1 x2 x3 = some v := by
 have hd1 := hd.form.1
 rw [GuideSay, Fishref2SayOf, h, Option.bind_some, bne_self_eq_false, ifF, k, Option.bind_some, bne_self_eq_false, ifF]
 simp only [r2within, gwn, bnd_eq, ite_or]
 cases c1 : (decide (x1.Kind < 1) || decide (x1.Kind > 4)) with
 | true => exact ⟨_, rfl, rfl⟩
 | false =>
 simp only [Bool.or_eq_false_iff, decide_eq_false_iff_not] at c1
 simp only [ifF]
 rw [w64_id (x := (x2.Journey.Rides.length : Int) - 1) (by omega), w64_id (x := (x3.Trains.length : Int) - 1) (by omega), low_eq]
 rcases gx_cases x2.Journey.Rides x1.Ride with ⟨g1, g2⟩ | ⟨r, g1, g2, g3, _⟩
 ·rw [out_of g2]; exact ⟨_, rfl, rfl⟩
 rw [in_of ⟨g2, g3⟩]
 simp only [ifF, g1, Option.bind_some]
 rw [low_eq]
 rcases gx_cases x3.Trains r.Train with ⟨t1, t2⟩ | ⟨t, t1, t2, t3, tm⟩
 ·rw [out_of t2]; exact ⟨_, rfl, rfl⟩
 rw [in_of ⟨t2, t3⟩]
 simp only [ifF, t1, Option.bind_some]
 have ht := (hd.form.2.2.1 t tm).2.1
 have hst := (hd.stops t tm).1
 have hno := hd.nos t tm
 simp only [GuideSay.loop1, gwn]
 rw [w64_id (x := (t.Stops.length : Int) - 1) (by omega), w64_id (x := (x0.Stations.length : Int) - 1) (by omega), low_eq, low_eq]
 have split4 : ∀ a b c d : Bool, (a || (b || (c || d))) = ((a || b) || (c || d)) := by decide
 rw [split4]
 rcases gx_cases t.Stops r.On with ⟨a1, a2⟩ | ⟨a, a1, a2, a3, am⟩
 ·rw [out_of a2]; exact ⟨_, rfl, rfl⟩
 rw [in_of ⟨a2, a3⟩]
 have ha := hst a am
 rcases gx_cases t.Stops r.Off with ⟨b1, b2⟩ | ⟨b, b1, b2, b3, bm⟩
 ·rw [out_of b2]
  simp only [ifF, ifT, a1, Option.bind_some, Bool.or_true]
  cases (decide (a.Station < 0) || decide (a.Station > (x0.Stations.length : Int) - 1)) <;> exact ⟨_, rfl, rfl⟩
 rw [in_of ⟨b2, b3⟩]
 have hb := hst b bm
 simp only [ifF, a1, b1, Option.bind_some, Bool.or_self]
 rw [low_eq, low_eq]
 rcases gx_cases x0.Stations a.Station with ⟨n1, n2⟩ | ⟨na, n1, n2, n3, nm⟩
 ·rw [out_of n2, show decide (a.Station ≥ (x0.Stations.length : Int)) = true from decide_eq_true (by omega)]
  exact ⟨_, rfl, rfl⟩
 rw [in_of ⟨n2, n3⟩, show decide (a.Station ≥ (x0.Stations.length : Int)) = false from decide_eq_false (by omega)]
 rcases gx_cases x0.Stations b.Station with ⟨m1, m2⟩ | ⟨nb, m1, m2, m3, mm⟩
 ·rw [out_of m2, show decide (b.Station ≥ (x0.Stations.length : Int)) = true from decide_eq_true (by omega)]
  exact ⟨_, rfl, rfl⟩
 rw [in_of ⟨m2, m3⟩, show decide (b.Station ≥ (x0.Stations.length : Int)) = false from decide_eq_false (by omega)]
 simp only [ifF, Bool.or_self]
 cases c2 : (decide (x1.Value < 0) || decide (x1.Value > 28800)) with
 | true => exact ⟨_, rfl, rfl⟩
 | false =>
 simp only [Bool.or_eq_false_iff, decide_eq_false_iff_not] at c2
 have za := hs na nm
 have zb := hs nb mm
 obtain ⟨c, k1, k2, k3⟩ := clk_ok (t := x1.Value) (by omega)
 have i1 := itoa_tx (n := t.No) (by omega)
 have z1 := tx_size (n := t.No) (by omega)
 have i2 := itoa_tx (n := x1.Value) (by omega)
 have z2 := tx_size (n := x1.Value) (by omega)
 simp only [ifF, n1, m1, i1, i2, k1, k2, Option.bind_some]
 simp (disch := (first | omega | (simp only [ByteArray.size_append, zs7, zs8, zs9, zs10, zs11, zs12, zs13]; omega))) only [scat_in, Option.bind_some]
 obtain e | e | e | e : x1.Kind = 1 ∨ x1.Kind = 2 ∨ x1.Kind = 3 ∨ x1.Kind = 4 := by omega
 ·rw [e]
  refine ⟨(str [116, 114, 97, 105, 110, 32] ++ tx t.No ++ str [32, 100, 111, 101, 115, 32, 110, 111, 116, 32, 115, 116, 111, 112, 32, 97, 116, 32] ++ na, 0), rfl, ?_⟩
  show Option.bind (some _) _ = _
  rw [Option.bind_some]
  simp (disch := (first | omega | (simp only [ByteArray.size_append, zs7, zs8, zs9, zs10, zs11, zs12, zs13]; omega))) only [scat_in, Option.bind_some]
  simp only [ByteArray.append_assoc]
 ·rw [e]
  refine ⟨(str [116, 114, 97, 105, 110, 32] ++ tx t.No ++ str [32, 105, 115, 32, 109, 105, 115, 115, 101, 100, 32, 97, 116, 32] ++ na, 0), rfl, ?_⟩
  show Option.bind (some _) _ = _
  rw [Option.bind_some]
  simp (disch := (first | omega | (simp only [ByteArray.size_append, zs7, zs8, zs9, zs10, zs11, zs12, zs13]; omega))) only [scat_in, Option.bind_some]
  simp only [ByteArray.append_assoc]
 ·rw [e]
  refine ⟨(str [116, 114, 97, 105, 110, 32] ++ tx t.No ++ str [32, 97, 114, 114, 105, 118, 101, 115, 32, 97, 116, 32] ++ nb ++ str [32, 97, 116, 32] ++ c, 0), rfl, ?_⟩
  show Option.bind (some _) _ = _
  rw [Option.bind_some]
  simp (disch := (first | omega | (simp only [ByteArray.size_append, zs7, zs8, zs9, zs10, zs11, zs12, zs13]; omega))) only [scat_in, Option.bind_some]
  simp only [ByteArray.append_assoc]
 ·rw [e]
  refine ⟨(str [116, 114, 97, 105, 110, 32] ++ tx t.No ++ str [32, 108, 101, 97, 118, 101, 115, 32] ++ na ++ str [32, 102, 114, 111, 109, 32, 116, 114, 97, 99, 107, 32] ++ tx x1.Value, 0), rfl, ?_⟩
  show Option.bind (some _) _ = _
  rw [Option.bind_some]
  simp (disch := (first | omega | (simp only [ByteArray.size_append, zs7, zs8, zs9, zs10, zs11, zs12, zs13]; omega))) only [scat_in, Option.bind_some]
  simp only [ByteArray.append_assoc]
theorem longest : ∀ l : List ByteArray, ∃ m : Nat, ∀ s ∈ l, s.size < m
 | [] => ⟨0, by simp⟩
 | x :: l => by
  obtain ⟨m, h⟩ := longest l
  refine ⟨m + x.size + 1, fun s hs => ?_⟩
  rcases List.mem_cons.1 hs with rfl | hs
  ·omega
  ·have := h s hs; omega
theorem seq_same (s : ByteArray) : seq s s = true := by unfold seq; exact beq_self_eq_true _
theorem GuideSays_law (x0 : ApiNet) (x1 : List GuideLine) (x2 : GuideMessage) (x3 : GuidePromise) (x4 : ApiDay) (_ : x0.Stations.length ≤ 9223372036854775807) (_ : x0.Sections.length ≤ 9223372036854775807) (_ : x0.Links.length ≤ 9223372036854775807) (_ : x0.Signals.length ≤ 9223372036854775807) (_ : x0.Gates.length ≤ 9223372036854775807) (_ : x1.length ≤ 9223372036854775807) (hlen : x3.Journey.Rides.length ≤ 9223372036854775807) (_ : x4.Trains.length ≤ 9223372036854775807) (_ : x4.Turns.length ≤ 9223372036854775807) (i0 : InApiNet x0) (_ : (inL InGuideLine) x1) (_ : InGuideMessage x2) (_ : InGuidePromise x3) (i4 : InApiDay x4) : ∃ fu, Fishlaw2GuideSays fu x0 x1 x2 x3 x4 = some true := by
 obtain ⟨m, hm⟩ := longest x0.Stations
 refine ⟨m + 60, ?_⟩
 obtain ⟨e, n1, n2, n3⟩ := net_ok (x0 := x0) (fu := m + 60) i0.1 (fun s hs => by have := hm s hs; omega)
 obtain ⟨f, d1, d2, d3⟩ := check_ok i4
 have hg := guides_true m
 rcases boardtext_ok n1 n3 x1 with ⟨e0, b1⟩ | ⟨e0, v, b1, b2⟩
 ·have c2 : (e != 0) = true := by simpa using e0
  have s1 : GuideSay x0 x2 x3 x4 = some (str [], e) := by rw [GuideSay, n1, Option.bind_some, c2, ifT]
  have s2 : scat (str []) (str []) = some (str []) := rfl
  rw [Fishlaw2GuideSays, b1, Option.bind_some, s1, Option.bind_some, n2, Option.bind_some, c2, ifT, hg]
  simp only [Option.bind_some, ifT, if_true, beq_self_eq_true, s2, seq_same]
 ·subst e0
  obtain ⟨h1, h2⟩ := n3 rfl
  rw [Fishlaw2GuideSays, b1, Option.bind_some]
  by_cases cf : f = 0
  ·subst cf
   obtain ⟨w, w1, w2⟩ := say_ok h1 h2 (d3 rfl) n1 d2 x2 x3 hlen
   rw [w1, Option.bind_some, n2, Option.bind_some, bne_self_eq_false, ifF, b2, hg, d1]
   simp only [Option.bind_some, seq_same, Bool.not_true, ifF, bne_self_eq_false, beq_self_eq_true, ifT, if_true, w2, bnd_eq]
  ·have c2 : (f != 0) = true := by simpa using cf
   have c3 : (f == 0) = false := by simpa using cf
   have s1 : GuideSay x0 x2 x3 x4 = some (str [], f) := by rw [GuideSay, n1, Option.bind_some, bne_self_eq_false, ifF, d2, Option.bind_some, c2, ifT]
   rw [s1, Option.bind_some, n2, Option.bind_some, bne_self_eq_false, ifF, b2, hg, d1]
   simp only [Option.bind_some, seq_same, Bool.not_true, ifF, bne_self_eq_false, beq_self_eq_true, ifT, if_true, c3, bnd_eq]
end Go.Fp
