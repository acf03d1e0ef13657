/- TopSeated: the mirror of the law is true of all days, journeys and cars. -/
import Derived.Test.YtpcebngchmgckaaDoorTopSeatedM
import Derived.Test.YtpcebngchmgckaaDoorFpPlain
import Derived.Lib.ItoaLen
import Derived.KernelRfl
namespace Go.Fp
/-! texts of numbers -/
/-- a number's text -/
def tx (n : Int) : ByteArray := ⟨(Lib.itoa n).toArray⟩
theorem itoa_tx {n : Int} (h : -9223372036854775808 ≤ n ∧ n ≤ 9223372036854775807) : itoa n = some (tx n) := by unfold itoa; rw [if_pos h]; rfl
theorem tx_size {n : Int} (h : -9223372036854775808 ≤ n ∧ n ≤ 9223372036854775807) : (tx n).size ≤ 21 := by
  have := Lib.itoa_length_le n h.1 h.2
  unfold tx
  show ((Lib.itoa n).toArray).size ≤ 21
  simpa using this
theorem scat_in {a b : ByteArray} (h : a.size + b.size ≤ 9223372036854775807) : scat a b = some (a ++ b) := by unfold scat; rw [if_pos h]
theorem sbw_in {y x : ByteArray} (h0 : 0 < x.size) (h : y.size + x.size < 4294967296) : sbw y x = some (y ++ x) := by unfold sbw; rw [if_pos ⟨h0, h⟩]
theorem mget_put (m : List (Int × Bool)) (k j : Int) (v : Bool) : mget (mput m k v) j = if j = k then some v else mget m j := by
  induction m with
  | nil => simp [mput, mget]
  | cons p r ih =>
    obtain ⟨a, b⟩ := p
    simp only [mput]
    by_cases h : k = a
    · subst h
      simp only [beq_self_eq_true, if_true, mget]
      by_cases h2 : j = k <;> simp [h2]
    · have hb : (k == a) = false := by simpa using h
      simp only [hb, Bool.false_eq_true, if_false, mget]
      by_cases h2 : j = a
      · subst h2; have : ¬ j = k := fun e => h e.symm; simp [this]
      · have hb2 : (j == a) = false := by simpa using h2
        simp [hb2, ih]
/-! days: what Text says, what Check says -/
def wi (x : Int) : Bool := Planwithin x 0 999999
theorem form2 : ∀ l, Fishref2TextFault.loop2 l = Planform.loop2 l
  | [] => rfl
  | x :: r => by simp only [Fishref2TextFault.loop2, Planform.loop2, form2 r]
theorem form3 : ∀ l, Fishref2TextFault.loop3 l = Planform.loop3 l
  | [] => rfl
  | x :: r => by simp only [Fishref2TextFault.loop3, Planform.loop3, form3 r]
theorem form4 : ∀ l, Fishref2TextFault.loop4 l = Planform.loop4 l
  | [] => rfl
  | x :: r => by simp only [Fishref2TextFault.loop4, Planform.loop4, form4 r]
theorem form1 : ∀ l, Fishref2TextFault.loop1 l = Planform.loop1 l
  | [] => rfl
  | x :: r => by simp only [Fishref2TextFault.loop1, Planform.loop1, form1 r, form2, form3]

def trainForm (t : ApiTrain) : Prop := 1 ≤ t.Stops.length ∧ t.Stops.length ≤ 8 ∧ t.Legs.length + 1 = t.Stops.length ∧ ∀ g ∈ t.Legs, g.length ≤ 4
def dayForm (d : ApiDay) : Prop := d.Trains.length ≤ 12 ∧ d.Turns.length ≤ 8 ∧ (∀ t ∈ d.Trains, trainForm t) ∧ ∀ g ∈ d.Turns, g.length ≤ 12
theorem form3_out : ∀ l, (Planform.loop3 l = .ret 4) ∨ (Planform.loop3 l = .next () ∧ ∀ g ∈ l, g.length ≤ 4)
  | [] => .inr ⟨rfl, by simp⟩
  | x :: r => by
    rw [Planform.loop3]
    by_cases c : ((x.length : Nat) : Int) > 4
    · rw [if_pos (by simpa using c)]; exact .inl rfl
    · rw [if_neg (by simpa using c)]
      rcases form3_out r with h | ⟨h, k⟩
      · exact .inl h
      · refine .inr ⟨h, ?_⟩
        intro g hg
        rcases List.mem_cons.1 hg with rfl | hg
        · omega
        · exact k g hg
theorem form2_out : ∀ l, (Planform.loop2 l = .ret 1) ∨ (Planform.loop2 l = .next ())
  | [] => .inr rfl
  | x :: r => by
    rw [Planform.loop2]
    split
    · exact .inl rfl
    · exact form2_out r
theorem form4_out : ∀ l, (∃ e, e ≠ 0 ∧ Planform.loop4 l = .ret e) ∨ (Planform.loop4 l = .next () ∧ ∀ g ∈ l, g.length ≤ 12)
  | [] => .inr ⟨rfl, by simp⟩
  | x :: r => by
    rw [Planform.loop4]
    split
    · exact .inl ⟨1, by decide, rfl⟩
    · by_cases c : ((x.length : Nat) : Int) > 12
      · rw [if_pos (by simpa using c)]; exact .inl ⟨4, by decide, rfl⟩
      · rw [if_neg (by simpa using c)]
        rcases form4_out r with h | ⟨h, k⟩
        · exact .inl h
        · refine .inr ⟨h, ?_⟩
          intro g hg
          rcases List.mem_cons.1 hg with rfl | hg
          · omega
          · exact k g hg
theorem form1_out : ∀ l, (∃ e, e ≠ 0 ∧ Planform.loop1 l = .ret e) ∨ (Planform.loop1 l = .next () ∧ ∀ t ∈ l, trainForm t)
  | [] => .inr ⟨rfl, by simp⟩
  | x :: r => by
    rw [Planform.loop1, bnd_eq]
    generalize hq : (if (((x.Stops).length : Int) == 0) = true then true else (((x.Legs).length : Int) != (w64 (((x.Stops).length : Int) - 1)))) = q
    cases q with
    | true => exact .inl ⟨1, by decide, rfl⟩
    | false =>
      rw [if_neg (by decide), bnd_eq]
      rcases form2_out x.Legs with h | h
      · rw [h]; exact .inl ⟨1, by decide, rfl⟩
      · rw [h]
        dsimp only
        by_cases c : ((x.Stops.length : Nat) : Int) > 8
        · rw [if_pos (by simpa using c)]; exact .inl ⟨4, by decide, rfl⟩
        · rw [if_neg (by simpa using c), bnd_eq]
          rcases form3_out x.Legs with h3 | ⟨h3, k3⟩
          · rw [h3]; exact .inl ⟨4, by decide, rfl⟩
          · rw [h3]
            dsimp only
            rcases form1_out r with h1 | ⟨h1, k1⟩
            · exact .inl h1
            · refine .inr ⟨h1, ?_⟩
              intro t ht
              rcases List.mem_cons.1 ht with rfl | ht
              · split at hq
                · cases hq
                · rename_i hz
                  rw [w64_id (by omega)] at hq
                  have hq2 : ((t.Legs.length : Nat) : Int) = ((t.Stops.length : Nat) : Int) - 1 := by simpa using hq
                  have hz2 : ¬ t.Stops.length = 0 := by simpa using hz
                  exact ⟨by omega, by omega, by omega, k3⟩
              · exact k1 t ht
theorem form_out (d : ApiDay) : Planform d ≠ 0 ∨ (Planform d = 0 ∧ dayForm d) := by
  rw [Planform, bnd_eq]
  by_cases c : ((d.Trains.length : Nat) : Int) > 12 ∨ ((d.Turns.length : Nat) : Int) > 8
  · left
    rw [if_pos (by rcases c with c | c <;> simp [c])]; decide
  · have c1 : ¬ ((d.Trains.length : Nat) : Int) > 12 := fun h => c (.inl h)
    have c2 : ¬ ((d.Turns.length : Nat) : Int) > 8 := fun h => c (.inr h)
    rw [if_neg (by simp [c1, c2]), bnd_eq]
    rcases form1_out d.Trains with ⟨e, he, h⟩ | ⟨h, k⟩
    · rw [h]; exact .inl he
    · rw [h]
      dsimp only
      rw [bnd_eq]
      rcases form4_out d.Turns with ⟨e, he, h4⟩ | ⟨h4, k4⟩
      · rw [h4]; exact .inl he
      · rw [h4]; exact .inr ⟨rfl, by omega, by omega, k, k4⟩

/-! the numbers -/
def numS (x : ApiStop) : List Int := [x.Station, x.Track, x.Arr, x.Dep]
def numT (t : ApiTrain) : List (List Int) := [t.No, t.Stock] :: (t.Stops.map numS ++ t.Legs)
theorem num2 : ∀ (l : List ApiStop) (q : List (List Int)), q.length + l.length < 4294967296 → Fishref2numbersIn.loop2 l q = some (q ++ l.map numS)
  | [], q, _ => by simp [Fishref2numbersIn.loop2]
  | x :: r, q, h => by
    simp only [List.length_cons] at h
    rw [Fishref2numbersIn.loop2, apd_lt (by simp; omega), Option.bind_some, num2 r _ (by simp; omega)]
    simp [numS]
theorem num1 : ∀ (l : List ApiTrain) (q : List (List Int)), (∀ t ∈ l, trainForm t) → q.length + 17 * l.length < 4294967296 → Fishref2numbersIn.loop1 l q = some (q ++ l.flatMap numT)
  | [], q, _, _ => by simp [Fishref2numbersIn.loop1]
  | t :: r, q, ht, h => by
    simp only [List.length_cons] at h
    obtain ⟨t1, t2, t3, t4⟩ := ht t (List.mem_cons_self ..)
    rw [Fishref2numbersIn.loop1, apd_lt (by simp; omega), Option.bind_some, num2 _ _ (by simp; omega), Option.bind_some, apd_lt (by simp; omega), Option.bind_some,
      num1 r _ (fun t h => ht t (List.mem_cons_of_mem _ h)) (by simp; omega)]
    simp [numT]
theorem numT_len {t : ApiTrain} (h : trainForm t) : (numT t).length ≤ 16 := by
  obtain ⟨t1, t2, t3, t4⟩ := h
  simp [numT]; omega
theorem num_all {d : ApiDay} (h : dayForm d) : Fishref2numbersIn d = some (d.Trains.flatMap numT ++ d.Turns) := by
  obtain ⟨h1, h2, h3, h4⟩ := h
  have hl : ∀ l : List ApiTrain, (∀ t ∈ l, trainForm t) → (l.flatMap numT).length ≤ 16 * l.length := by
    intro l
    induction l with
    | nil => intro _; simp
    | cons t r ih =>
      intro ht
      have := numT_len (ht t (List.mem_cons_self ..))
      have := ih fun t h => ht t (List.mem_cons_of_mem _ h)
      simp only [List.flatMap_cons, List.length_append, List.length_cons]; omega
  have := hl _ h3
  rw [Fishref2numbersIn, num1 _ _ h3 (by simp; omega), Option.bind_some, List.nil_append, apd_lt (by omega)]
  rfl
theorem num6 : ∀ l : List Int, Fishref2TextFault.loop6 l = if l.all wi then .next () else .ret 2
  | [] => rfl
  | x :: r => by
    rw [Fishref2TextFault.loop6, num6 r]
    show (if (!wi x) = true then _ else _) = _
    cases h : wi x <;> simp [h]
theorem num5 (L : List (List Int)) : ∀ (r : List (List Int)) (k : Nat), L.drop k = r → Fishref2TextFault.loop5 L r.length k = some (if r.all (·.all wi) then .next () else .ret 2)
  | [], k, _ => rfl
  | x :: r, k, hd => by
    obtain ⟨d1, d2, d3⟩ := drop_cons hd
    rw [List.length_cons, Fishref2TextFault.loop5, gx_nat, d2, Option.bind_some, bnd_eq, num6]
    cases h : x.all wi with
    | true => simp [h, num5 L r (k + 1) d3]
    | false => simp [h]

/-! the text -/
theorem flag1 : ∀ (l : List Int) (b : Bool), PlanText_1_v1.loop1 l b = (b && l.all wi)
  | [], b => by simp [PlanText_1_v1.loop1]
  | x :: r, b => by
    rw [PlanText_1_v1.loop1, bnd_eq, flag1 r]
    show ((if b = true then wi x else false) && r.all wi) = _
    cases b <;> simp
theorem sent1 : ∀ (l : List Int) (q : ByteArray), inL inI l → q.size + 22 * l.length < 4294967296 → ∃ z, Plansentence.loop1 l q = some z ∧ z.size ≤ q.size + 22 * l.length
  | [], q, _, _ => ⟨q, rfl, by simp⟩
  | x :: r, q, hi, h => by
    simp only [List.length_cons] at h
    have hx := hi x (List.mem_cons_self ..)
    have hs := tx_size hx
    have s32 : (str [32]).size = 1 := rfl
    have e1 : (str [32] ++ tx x).size = 1 + (tx x).size := by rw [ByteArray.size_append, s32]
    have e4 : (q ++ (str [32] ++ tx x)).size = q.size + (1 + (tx x).size) := by rw [ByteArray.size_append, e1]
    obtain ⟨z, h1, h2⟩ := sent1 r (q ++ (str [32] ++ tx x)) (fun y h => hi y (List.mem_cons_of_mem _ h)) (by omega)
    refine ⟨z, ?_, by simp only [List.length_cons]; omega⟩
    rw [Plansentence.loop1, itoa_tx hx, Option.bind_some, scat_in (by omega), Option.bind_some, scat_in (by omega), Option.bind_some]
    exact h1
theorem sent {l : List Int} {w : ByteArray} (hi : inL inI l) (h : w.size + 22 * l.length < 4294967295) : ∃ z, Plansentence w l = some z ∧ 0 < z.size ∧ z.size ≤ w.size + 22 * l.length + 1 := by
  obtain ⟨z, h1, h2⟩ := sent1 l w hi (by omega)
  have s10 : (str [10]).size = 1 := rfl
  have e : (z ++ str [10]).size = z.size + 1 := by rw [ByteArray.size_append, s10]
  exact ⟨z ++ str [10], by rw [Plansentence, h1, Option.bind_some, scat_in (by omega)]; rfl, by omega, by omega⟩
theorem wr {l : List Int} {w y : ByteArray} {b : Bool} (hi : inL inI l) (hw : w.size ≤ 5) (h : y.size + (22 * l.length + 6) < 4294967295) :
    ∃ z, PlanText_1_v1 w l b y = some (b && l.all wi, z) ∧ z.size ≤ y.size + (22 * l.length + 6) := by
  obtain ⟨z, h1, h2, h3⟩ := sent (w := w) hi (by omega)
  have e : (y ++ z).size = y.size + z.size := ByteArray.size_append
  exact ⟨y ++ z, by rw [PlanText_1_v1, flag1, bnd_eq, h1, Option.bind_some, sbw_in h2 (by omega)]; rfl, by omega⟩
theorem txt2 : ∀ (l : List ApiStop) (y : ByteArray) (b : Bool), inL InApiStop l → y.size + 94 * l.length < 4294967000 →
    ∃ z, PlanText.loop2 l y b = some (z, b && (l.map numS).all (·.all wi)) ∧ z.size ≤ y.size + 94 * l.length
  | [], y, b, _, _ => ⟨y, by simp [PlanText.loop2], by simp⟩
  | x :: r, y, b, hi, h => by
    simp only [List.length_cons] at h
    have hx := hi x (List.mem_cons_self ..)
    obtain ⟨z, h1, h2⟩ := wr (l := numS x) (w := str [115, 116, 111, 112]) (y := y) (b := b) (by
      intro v hv
      simp only [numS, List.mem_cons, List.not_mem_nil, or_false] at hv
      rcases hv with rfl | rfl | rfl | rfl
      · exact hx.1
      · exact hx.2.1
      · exact hx.2.2.1
      · exact hx.2.2.2) (by decide) (by simp [numS]; omega)
    simp only [numS, List.length_cons, List.length_nil] at h2
    obtain ⟨z2, h3, h4⟩ := txt2 r z (b && (numS x).all wi) (fun y h => hi y (List.mem_cons_of_mem _ h)) (by omega)
    refine ⟨z2, ?_, by simp only [List.length_cons]; omega⟩
    rw [PlanText.loop2]
    rw [show [x.Station, x.Track, x.Arr, x.Dep] = numS x from rfl, h1, Option.bind_some]
    dsimp only
    rw [h3, List.map_cons, List.all_cons, Bool.and_assoc]
theorem txt3 (w : ByteArray) (hw : w.size ≤ 5) (F : List (List Int) → ByteArray → Bool → Option (ByteArray × Bool)) (hn : ∀ y b, F [] y b = some (y, b))
    (hc : ∀ x r y b, F (x :: r) y b = (PlanText_1_v1 w x b y).bind fun q => F r q.2 q.1) (m : Nat) (hm : m ≤ 100) : ∀ (l : List (List Int)) (y : ByteArray) (b : Bool), inL (inL inI) l → (∀ g ∈ l, g.length ≤ m) → y.size + (22 * m + 6) * l.length < 4294960000 →
    ∃ z, F l y b = some (z, b && l.all (·.all wi)) ∧ z.size ≤ y.size + (22 * m + 6) * l.length
  | [], y, b, _, _, _ => ⟨y, by simp [hn], by simp⟩
  | x :: r, y, b, hi, hl, h => by
    simp only [List.length_cons, Nat.mul_add, Nat.mul_one] at h
    have hx := hi x (List.mem_cons_self ..)
    have hxl := hl x (List.mem_cons_self ..)
    obtain ⟨z, h1, h2⟩ := wr (l := x) (w := w) (y := y) (b := b) hx hw (by omega)
    obtain ⟨z2, h3, h4⟩ := txt3 w hw F hn hc m hm r z (b && x.all wi) (fun y h => hi y (List.mem_cons_of_mem _ h)) (fun g h => hl g (List.mem_cons_of_mem _ h)) (by omega)
    refine ⟨z2, ?_, by simp only [List.length_cons, Nat.mul_add, Nat.mul_one]; omega⟩
    rw [hc, h1, Option.bind_some]
    dsimp only
    rw [h3, List.all_cons, Bool.and_assoc]
theorem txt1 : ∀ (l : List ApiTrain) (y : ByteArray) (b : Bool), inL InApiTrain l → (∀ t ∈ l, trainForm t) → y.size + 1700 * l.length < 4294900000 →
    ∃ z, PlanText.loop1 l y b = some (z, b && (l.flatMap numT).all (·.all wi)) ∧ z.size ≤ y.size + 1700 * l.length
  | [], y, b, _, _, _ => ⟨y, by simp [PlanText.loop1], by simp⟩
  | t :: r, y, b, hi, hf, h => by
    simp only [List.length_cons] at h
    obtain ⟨i1, i2, i3, i4⟩ := hi t (List.mem_cons_self ..)
    obtain ⟨t1, t2, t3, t4⟩ := hf t (List.mem_cons_self ..)
    obtain ⟨z, h1, h2⟩ := wr (l := [t.No, t.Stock]) (w := str [116, 114, 97, 105, 110]) (y := y) (b := b) (by
      intro v hv
      simp only [List.mem_cons, List.not_mem_nil, or_false] at hv
      rcases hv with rfl | rfl
      · exact i1
      · exact i2) (by decide) (by simp; omega)
    simp only [List.length_cons, List.length_nil] at h2
    obtain ⟨z2, h3, h4⟩ := txt2 t.Stops z (b && [t.No, t.Stock].all wi) i3 (by omega)
    obtain ⟨z3, h5, h6⟩ := txt3 (str [108, 101, 103]) (by decide) PlanText.loop3 (fun _ _ => rfl) (fun _ _ _ _ => rfl) 4 (by omega) t.Legs z2 ((b && [t.No, t.Stock].all wi) && (t.Stops.map numS).all (·.all wi)) i4 t4 (by omega)
    obtain ⟨z4, h7, h8⟩ := txt1 r z3 (((b && [t.No, t.Stock].all wi) && (t.Stops.map numS).all (·.all wi)) && t.Legs.all (·.all wi)) (fun y h => hi y (List.mem_cons_of_mem _ h)) (fun y h => hf y (List.mem_cons_of_mem _ h)) (by omega)
    refine ⟨z4, ?_, by simp only [List.length_cons]; omega⟩
    rw [PlanText.loop1, h1, Option.bind_some]
    dsimp only
    rw [h3, Option.bind_some]
    dsimp only
    rw [h5, Option.bind_some]
    dsimp only
    rw [h7]
    simp only [List.flatMap_cons, numT, List.cons_append, List.all_cons, List.all_append, Bool.and_assoc, List.all_nil]
theorem text_ok {d : ApiDay} (hi : InApiDay d) : ∃ e b, Fishref2TextFault d = some e ∧ PlanText d = some (b, e) ∧ (e = 0 → dayForm d) := by
  rcases form_out d with h | ⟨h, k⟩
  · refine ⟨Planform d, str [], ?_, ?_, fun e => absurd e h⟩
    · revert h
      rw [Fishref2TextFault, Planform]
      simp only [form1, form4, bnd_eq]
      cases (if decide (((d.Trains).length : Int) > 12) = true then true else decide (((d.Turns).length : Int) > 8)) with
      | true => intro _; rfl
      | false =>
        simp only [Bool.false_eq_true, if_false]
        cases Planform.loop1 d.Trains with
        | ret r => intro _; rfl
        | next u =>
          dsimp only
          cases Planform.loop4 d.Turns with
          | ret r => intro _; rfl
          | next u => intro h; exact absurd rfl h
    · rw [PlanText, if_pos (by simpa using h)]
  · obtain ⟨k1, k2, k3, k4⟩ := k
    have hnum := num_all ⟨k1, k2, k3, k4⟩
    obtain ⟨z, h1, h2⟩ := txt1 d.Trains ByteArray.empty true hi.1 k3 (by simp; omega)
    have h2' : z.size ≤ 1700 * d.Trains.length := by simpa using h2
    obtain ⟨z2, h3, h4⟩ := txt3 (str [116, 117, 114, 110]) (by decide) PlanText.loop4 (fun _ _ => rfl) (fun _ _ _ _ => rfl) 12 (by omega) d.Turns z (true && (d.Trains.flatMap numT).all (·.all wi)) hi.2 k4 (by omega)
    have hT : Fishref2TextFault d = some (if (d.Trains.flatMap numT ++ d.Turns).all (·.all wi) then 0 else 2) := by
      have h' := h
      rw [Planform] at h'
      simp only [bnd_eq] at h'
      rw [Fishref2TextFault]
      simp only [form1, form4, bnd_eq]
      cases hc : (if decide (((d.Trains).length : Int) > 12) = true then true else decide (((d.Turns).length : Int) > 8)) with
      | true => rw [hc] at h'; cases h'
      | false =>
        rw [hc] at h'
        simp only [Bool.false_eq_true, if_false] at h' ⊢
        cases hA : Planform.loop1 d.Trains with
        | ret r =>
          rw [hA] at h'
          rcases form1_out d.Trains with ⟨e, he, hh⟩ | ⟨hh, _⟩
          · rw [hA] at hh; injection hh with hh; dsimp only at h'; rw [hh] at h'; exact absurd h' he
          · rw [hA] at hh; cases hh
        | next u =>
          rw [hA] at h'
          dsimp only at h' ⊢
          cases hB : Planform.loop4 d.Turns with
          | ret r =>
            rw [hB] at h'
            rcases form4_out d.Turns with ⟨e, he, hh⟩ | ⟨hh, _⟩
            · rw [hB] at hh; injection hh with hh; dsimp only at h'; rw [hh] at h'; exact absurd h' he
            · rw [hB] at hh; cases hh
          | next u =>
            dsimp only
            rw [hnum, Option.bind_some, num5 _ _ 0 (List.drop_zero), Option.bind_some]
            cases (d.Trains.flatMap numT ++ d.Turns).all (·.all wi) <;> rfl
    refine ⟨_, if (d.Trains.flatMap numT ++ d.Turns).all (·.all wi) then z2 else str [], hT, ?_, fun _ => ⟨k1, k2, k3, k4⟩⟩
    rw [PlanText, if_neg (by simp [h]), h1, Option.bind_some]
    dsimp only
    rw [h3, Option.bind_some]
    dsimp only
    rw [List.all_append]
    cases hA : (d.Trains.flatMap numT).all (·.all wi) <;> cases hB : d.Turns.all (·.all wi) <;> simp [hA, hB]

/-! Check -/
theorem chk2 (t : ApiTrain) : ∀ (l : List ApiStop) (k : Nat), Fishref2GuideFault.loop3 t l k = GuideCheck.loop2 t l k
  | [], _ => rfl
  | x :: r, k => by
    simp only [Fishref2GuideFault.loop3, GuideCheck.loop2, chk2 t r]
    rfl
/-- the stops of a train are in order -/
def stopsOk (l : List ApiStop) : Prop := (∀ x ∈ l, 0 ≤ x.Station ∧ x.Station ≤ 11 ∧ 0 ≤ x.Arr ∧ x.Arr ≤ 28800 ∧ 0 ≤ x.Dep ∧ x.Dep ≤ 28800 ∧ x.Arr ≤ x.Dep) ∧ ∀ k x y, l[k]? = some x → l[k + 1]? = some y → x.Dep < y.Arr
theorem within_iff (x a b : Int) : Guidewithin x a b = true ↔ a ≤ x ∧ x ≤ b := by
  unfold Guidewithin bnd
  by_cases h : x ≥ a <;> simp [h] <;> omega
theorem chk2_out (t : ApiTrain) (hl : t.Stops.length ≤ 9223372036854775807) : ∀ (r : List ApiStop) (k : Nat), t.Stops.drop k = r →
    (∃ e, e ≠ 0 ∧ GuideCheck.loop2 t r k = some (.ret e)) ∨ (GuideCheck.loop2 t r k = some (.next ()) ∧ (∀ x ∈ r, 0 ≤ x.Station ∧ x.Station ≤ 11 ∧ 0 ≤ x.Arr ∧ x.Arr ≤ 28800 ∧ 0 ≤ x.Dep ∧ x.Dep ≤ 28800 ∧ x.Arr ≤ x.Dep) ∧ ∀ j x y, k ≤ j + 1 → t.Stops[j]? = some x → t.Stops[j + 1]? = some y → x.Dep < y.Arr)
  | [], k, hd => .inr ⟨rfl, by simp, fun j x y hj hx hy => by
      have := drop_nil hd
      have := (List.getElem?_eq_some_iff.1 hy).1
      omega⟩
  | x :: r, k, hd => by
    obtain ⟨d1, d2, d3⟩ := drop_cons hd
    rw [GuideCheck.loop2, bnd_eq]
    cases c1 : Guidewithin x.Station 0 11 with
    | false => exact .inl ⟨2, by decide, by simp⟩
    | true =>
      cases c2 : Guidewithin x.Arr 0 28800 with
      | false => exact .inl ⟨2, by decide, by simp⟩
      | true =>
        cases c3 : Guidewithin x.Dep 0 28800 with
        | false => exact .inl ⟨2, by decide, by simp⟩
        | true =>
          have w1 := (within_iff _ _ _).1 c1
          have w2 := (within_iff _ _ _).1 c2
          have w3 := (within_iff _ _ _).1 c3
          simp only [Bool.not_true, Bool.false_eq_true, if_false]
          by_cases c4 : x.Dep < x.Arr
          · exact .inl ⟨5, by decide, by simp [c4]⟩
          · simp only [decide_eq_false c4, Bool.false_eq_true, if_false]
            rcases Nat.eq_zero_or_pos k with c5 | c5
            · subst c5
              simp only [Int.ofNat_eq_natCast, Int.natCast_zero, gt_iff_lt, Int.lt_irrefl, decide_false, Bool.false_eq_true, if_false, Option.bind_some]
              rcases chk2_out t hl r 1 d3 with h | ⟨h, k1, k2⟩
              · exact .inl h
              · refine .inr ⟨h, ?_, fun j a b _ ha hb => k2 j a b (by omega) ha hb⟩
                intro y hy
                rcases List.mem_cons.1 hy with rfl | hy
                · omega
                · exact k1 y hy
            · rw [if_pos (by simpa using c5), gx_prev c5 (by omega) hl, Option.bind_some, Option.bind_some]
              by_cases c6 : x.Arr ≤ (t.Stops[k - 1]'(by omega)).Dep
              · exact .inl ⟨5, by decide, by simp [c6]⟩
              · simp only [decide_eq_false c6, Bool.false_eq_true, if_false]
                rcases chk2_out t hl r (k + 1) d3 with h | ⟨h, k1, k2⟩
                · exact .inl h
                · refine .inr ⟨h, ?_, fun j a b hj ha hb => ?_⟩
                  · intro y hy
                    rcases List.mem_cons.1 hy with rfl | hy
                    · omega
                    · exact k1 y hy
                  · by_cases e : j + 1 = k
                    · subst e
                      rw [d2] at hb
                      injection hb with hb
                      subst hb
                      have : t.Stops[j + 1 - 1]'(by omega) = a := by
                        have := List.getElem?_eq_some_iff.1 ha
                        obtain ⟨_, h2⟩ := this
                        simpa using h2
                      rw [this] at c6
                      omega
                    · exact k2 j a b (by omega) ha hb
theorem chkno (t : ApiTrain) : ∀ l : List ApiTrain, Fishref2GuideFault.loop2 t l = if l.any (·.No == t.No) then .ret 6 else .next ()
  | [] => rfl
  | x :: r => by
    rw [Fishref2GuideFault.loop2, chkno t r]
    cases h : (x.No == t.No) <;> simp [h]
/-- a day that can be read -/
structure DayOk (d : ApiDay) : Prop where
  form : dayForm d
  two : ∀ t ∈ d.Trains, 2 ≤ t.Stops.length
  stops : ∀ t ∈ d.Trains, stopsOk t.Stops
  nos : ∀ t ∈ d.Trains, 1 ≤ t.No ∧ t.No ≤ 9999
  apart : ∀ (i j : Nat) (s t : ApiTrain), i < j → d.Trains[i]? = some s → d.Trains[j]? = some t → s.No ≠ t.No
theorem chk1 (d : ApiDay) (hl : d.Trains.length ≤ 9223372036854775807) (hs : ∀ t ∈ d.Trains, t.Stops.length ≤ 9223372036854775807) : ∀ (r : List ApiTrain) (k : Nat) (q : List (Int × Bool)), d.Trains.drop k = r →
    (∀ n, (mget q n).getD false = (d.Trains.take k).any (·.No == n)) →
    (∃ e, e ≠ 0 ∧ Fishref2GuideFault.loop1 d r k = some (.ret e) ∧ GuideCheck.loop1 r q = some (.ret e)) ∨
    (Fishref2GuideFault.loop1 d r k = some (.next ()) ∧ (∃ q', GuideCheck.loop1 r q = some (.next q')) ∧ (∀ t ∈ r, 2 ≤ t.Stops.length ∧ stopsOk t.Stops ∧ 1 ≤ t.No ∧ t.No ≤ 9999) ∧ ∀ i j s t, i < j → k ≤ j → d.Trains[i]? = some s → d.Trains[j]? = some t → s.No ≠ t.No)
  | [], k, q, hd, _ => .inr ⟨rfl, ⟨q, rfl⟩, by simp, fun i j s t _ hj _ ht => by
      have := drop_nil hd
      have := (List.getElem?_eq_some_iff.1 ht).1
      omega⟩
  | t :: r, k, q, hd, hq => by
    obtain ⟨d1, d2, d3⟩ := drop_cons hd
    have htm : t ∈ d.Trains := List.mem_of_getElem? d2
    rw [Fishref2GuideFault.loop1, GuideCheck.loop1, cutl_in (by omega) (by omega) (by omega), Option.bind_some, bnd_eq, chkno, hq]
    rw [show Fishref2within t.No 1 9999 = Guidewithin t.No 1 9999 from rfl]
    cases c1 : Guidewithin t.No 1 9999 with
    | false => exact .inl ⟨2, by decide, by simp, by simp⟩
    | true =>
      have w1 := (within_iff _ _ _).1 c1
      simp only [Bool.not_true, Bool.false_eq_true, if_false]
      have e0 : List.drop (Int.toNat 0) (List.take (((k : Nat) : Int).toNat) d.Trains) = d.Trains.take k := by simp
      rw [e0]
      cases c2 : (d.Trains.take k).any (·.No == t.No) with
      | true => exact .inl ⟨6, by decide, by simp, by simp⟩
      | false =>
        simp only [Bool.false_eq_true, if_false]
        by_cases c3 : ((t.Stops.length : Nat) : Int) < 2
        · exact .inl ⟨1, by decide, by simp [c3], by simp [c3]⟩
        · simp only [decide_eq_false c3, Bool.false_eq_true, if_false, chk2]
          rcases chk2_out t (hs t htm) t.Stops 0 rfl with ⟨e, he, h⟩ | ⟨h, k1, k2⟩
          · exact .inl ⟨e, he, by rw [h]; rfl, by rw [h]; rfl⟩
          · rw [h, Option.bind_some, Option.bind_some]
            dsimp only
            have hq2 : ∀ n, (mget (mput q t.No true) n).getD false = (d.Trains.take (k + 1)).any (·.No == n) := by
              intro n
              rw [mget_put, List.take_add_one, d2]
              simp only [Option.toList_some, List.any_append, List.any_cons, List.any_nil, Bool.or_false]
              by_cases c : n = t.No
              · subst c; simp
              · have : (t.No == n) = false := by simpa using fun h => c h.symm
                rw [if_neg c, this, Bool.or_false]; exact hq n
            rcases chk1 d hl hs r (k + 1) (mput q t.No true) d3 hq2 with ⟨e, he, h1, h2⟩ | ⟨h1, ⟨q', h2⟩, h3, h4⟩
            · exact .inl ⟨e, he, h1, h2⟩
            · refine .inr ⟨h1, ⟨q', h2⟩, ?_, ?_⟩
              · intro u hu
                rcases List.mem_cons.1 hu with rfl | hu
                · exact ⟨by omega, ⟨k1, fun j x y hx hy => k2 j x y (by omega) hx hy⟩, w1.1, w1.2⟩
                · exact h3 u hu
              · intro i j s u hij hj hi hu
                by_cases e : j = k
                · subst e
                  rw [d2] at hu
                  injection hu with hu
                  subst hu
                  intro e
                  have : (d.Trains.take j).any (·.No == t.No) = true := by
                    rw [List.any_eq_true]
                    refine ⟨s, ?_, by simpa using e⟩
                    apply List.mem_of_getElem? (i := i)
                    rw [List.getElem?_take, if_pos hij]; exact hi
                  rw [this] at c2; cases c2
                · exact h4 i j s u hij (by omega) hi hu
theorem check_ok {d : ApiDay} (hi : InApiDay d) : ∃ e, Fishref2GuideFault d = some e ∧ GuideCheck d = some e ∧ (e = 0 → DayOk d) := by
  obtain ⟨e, b, h1, h2, h3⟩ := text_ok hi
  rw [Fishref2GuideFault, GuideCheck, h1, h2, Option.bind_some, Option.bind_some]
  by_cases c : e = 0
  · subst c
    have hf := h3 rfl
    simp only [bne_self_eq_false, Bool.false_eq_true, if_false]
    rcases chk1 d (by have := hf.1; omega) (fun t ht => by have := (hf.2.2.1 t ht).2.1; omega) d.Trains 0 [] rfl (by simp [mget]) with ⟨e, he, k1, k2⟩ | ⟨k1, ⟨q', k2⟩, k3, k4⟩
    · exact ⟨e, by rw [k1]; rfl, by rw [k2]; rfl, fun h => absurd h he⟩
    · refine ⟨0, by rw [k1]; rfl, by rw [k2]; rfl, fun _ => ⟨hf, fun t ht => (k3 t ht).1, fun t ht => (k3 t ht).2.1, fun t ht => (k3 t ht).2.2, fun i j s t hij hs ht => k4 i j s t hij (by omega) hs ht⟩⟩
  · have : (e != 0) = true := by simpa using c
    simp only [this, if_true]
    exact ⟨e, rfl, rfl, fun h => absurd h c⟩
theorem gx_mem {α : Type} {l : List α} {i : Int} {x : α} (h : gx l i = some x) : x ∈ l := List.mem_of_getElem? (gx_some h).2.2
theorem gx_lt {α : Type} {l : List α} {i : Int} {x : α} (h : gx l i = some x) : 0 ≤ i ∧ i < l.length := by obtain ⟨h1, h2, _⟩ := gx_some h; omega
/-! journeys -/
def validR (d : ApiDay) (p : GuideRide) : Prop := ∃ t a b, gx d.Trains p.Train = some t ∧ gx t.Stops p.On = some a ∧ gx t.Stops p.Off = some b
theorem within_len {x : Int} {n : Nat} (hn : n ≤ 1000) : Guidewithin x 0 (w64 ((n : Int) - 1)) = decide (0 ≤ x ∧ x < n) := by
  rw [w64_id (by omega)]
  cases h : Guidewithin x 0 ((n : Int) - 1) with
  | true => have := (within_iff _ _ _).1 h; exact (decide_eq_true (by omega)).symm
  | false =>
    refine (decide_eq_false ?_).symm
    intro c
    have := (within_iff x 0 ((n : Int) - 1)).2 (by omega)
    rw [h] at this; cases this
theorem jour1 {d : ApiDay} (hd : DayOk d) (j : GuideJourney) (hj : j.Rides.length ≤ 9223372036854775807) (ls : Int) (tm : Bool) : ∀ (r : List GuideRide) (k : Nat), j.Rides.drop k = r → (0 < k → ∃ p, j.Rides[k - 1]? = some p ∧ validR d p) →
    ∃ z, GuideNetjourney.loop1 ⟨d, ls⟩ j tm r k = some z ∧ Fishref2JourneyFault.loop1 d j ls tm r k = some z ∧ (z = .next () → ∀ p ∈ r, validR d p ∧ p.On < p.Off) ∧ ∀ e, z = .ret e → e ≠ 0
  | [], k, _, _ => ⟨_, rfl, rfl, fun _ => by simp, fun _ h => by cases h⟩
  | x :: r, k, hdr, hp => by
    obtain ⟨d1, d2, d3⟩ := drop_cons hdr
    have ht := hd.form.1
    rw [GuideNetjourney.loop1, Fishref2JourneyFault.loop1, bnd_eq, within_len (show d.Trains.length ≤ 1000 by omega)]
    dsimp only
    by_cases c1 : 0 ≤ x.Train ∧ x.Train < d.Trains.length
    · obtain ⟨t, ht1, ht2⟩ := gx_in c1.1 c1.2
      have hs := (hd.form.2.2.1 t ht2).2.1
      have e1 : (if decide (x.Train < 0) = true then true else decide (x.Train ≥ ((d.Trains).length : Int))) = false := by
        rw [if_neg (by simp; omega)]; exact decide_eq_false (by omega)
      have e2 : (!decide (0 ≤ x.Train ∧ x.Train < d.Trains.length)) = false := by rw [decide_eq_true c1]; rfl
      rw [e1, e2]
      simp only [Bool.false_eq_true, if_false, ht1, Option.bind_some, bnd_eq]
      rw [within_len (by omega), within_len (by omega)]
      by_cases c2 : 0 ≤ x.On ∧ x.On < t.Stops.length
      · by_cases c3 : 0 ≤ x.Off ∧ x.Off < t.Stops.length
        · obtain ⟨a, ha1, ha2⟩ := gx_in c2.1 c2.2
          obtain ⟨b, hb1, hb2⟩ := gx_in c3.1 c3.2
          have e3 : (if (!decide (0 ≤ x.On ∧ x.On < t.Stops.length)) = true then true else !decide (0 ≤ x.Off ∧ x.Off < t.Stops.length)) = false := by
            rw [decide_eq_true c2, decide_eq_true c3]; rfl
          have e4 : (if decide (x.On < 0) = true then true else (if decide (x.On ≥ ((t.Stops).length : Int)) = true then true else (if decide (x.Off < 0) = true then true else decide (x.Off ≥ ((t.Stops).length : Int))))) = false := by
            rw [if_neg (by simp; omega), if_neg (by simp; omega), if_neg (by simp; omega)]; exact decide_eq_false (by omega)
          rw [e3, e4]
          simp only [Bool.false_eq_true, if_false]
          by_cases c4 : x.On ≥ x.Off
          · exact ⟨.ret 1, by simp [c4], by simp [c4], (fun h => by cases h), (fun e h => by injection h with h; omega)⟩
          · simp only [decide_eq_false c4, Bool.false_eq_true, if_false]
            have hv : validR d x := ⟨t, a, b, ht1, ha1, hb1⟩
            obtain ⟨z, z1, z2, z3, z4⟩ := jour1 hd j hj ls tm r (k + 1) d3 (fun _ => ⟨x, d2, hv⟩)
            have hz : z = .next () → ∀ p ∈ x :: r, validR d p ∧ p.On < p.Off := by
              intro h p hp
              rcases List.mem_cons.1 hp with rfl | hp
              · exact ⟨hv, by omega⟩
              · exact z3 h p hp
            rcases Nat.eq_zero_or_pos k with c5 | c5
            · subst c5
              simp only [Int.natCast_zero, beq_self_eq_true, if_true]
              exact ⟨z, z1, z2, hz, z4⟩
            · have e5 : (((k : Nat) : Int) == 0) = false := by
                have : ¬ ((k : Nat) : Int) = 0 := by omega
                simpa using this
              rw [e5]
              obtain ⟨p, hp1, t2, a2, b2, hp2, hp3, hp4⟩ := hp c5
              have hpk : j.Rides[k - 1]'(by omega) = p := by
                obtain ⟨_, h⟩ := List.getElem?_eq_some_iff.1 hp1
                exact h
              simp only [Bool.false_eq_true, if_false]
              rw [gx_prev c5 (by omega) hj, hpk]
              simp only [Option.bind_some, hp2, hp4, ha1]
              have f1 : GuideNeton ⟨d, ls⟩ x = some a := by rw [GuideNeton]; simp only [ht1, Option.bind_some, ha1]
              have f2 : GuideNetoff ⟨d, ls⟩ p = some b2 := by rw [GuideNetoff]; simp only [hp2, Option.bind_some, hp4]
              simp only [f1, f2, Option.bind_some]
              have e6 : (x.Train == p.Train) = (p.Train == x.Train) := by rw [Bool.eq_iff_iff, beq_iff_eq, beq_iff_eq]; exact eq_comm
              rw [e6]
              cases c6 : (p.Train == x.Train) with
              | true => exact ⟨.ret 1, by simp, by simp, (fun h => by cases h), (fun e h => by injection h with h; omega)⟩
              | false =>
                simp only [Bool.false_eq_true, if_false]
                rw [Option.bind_some, Option.bind_some]
                cases c7 : (a.Station != b2.Station) with
                | true => exact ⟨.ret 1, by simp, by simp, (fun h => by cases h), (fun e h => by injection h with h; omega)⟩
                | false =>
                  simp only [Bool.false_eq_true, if_false]
                  cases tm with
                  | false => exact ⟨z, z1, z2, hz, z4⟩
                  | true =>
                    simp only [if_true, Option.bind_some]
                    cases c8 : decide (a.Dep < w64 (b2.Arr + ls)) with
                    | true => exact ⟨.ret 13, if_pos rfl, if_pos rfl, (fun h => by cases h), (fun e h => by injection h with h; omega)⟩
                    | false => simp only [Bool.false_eq_true, if_false]; exact ⟨z, z1, z2, hz, z4⟩
        · have e3 : (if (!decide (0 ≤ x.On ∧ x.On < t.Stops.length)) = true then true else !decide (0 ≤ x.Off ∧ x.Off < t.Stops.length)) = true := by
            rw [decide_eq_true c2, decide_eq_false c3]; rfl
          have e4 : (if decide (x.On < 0) = true then true else (if decide (x.On ≥ ((t.Stops).length : Int)) = true then true else (if decide (x.Off < 0) = true then true else decide (x.Off ≥ ((t.Stops).length : Int))))) = true := by
            rw [if_neg (by simp; omega), if_neg (by simp; omega)]
            by_cases c : x.Off < 0
            · rw [if_pos (by simpa using c)]
            · rw [if_neg (by simpa using c)]; exact decide_eq_true (by omega)
          rw [e3, e4]
          exact ⟨.ret 3, by simp, by simp, (fun h => by cases h), (fun e h => by injection h with h; omega)⟩
      · have e3 : (if (!decide (0 ≤ x.On ∧ x.On < t.Stops.length)) = true then true else !decide (0 ≤ x.Off ∧ x.Off < t.Stops.length)) = true := by
          rw [decide_eq_false c2]; rfl
        have e4 : (if decide (x.On < 0) = true then true else (if decide (x.On ≥ ((t.Stops).length : Int)) = true then true else (if decide (x.Off < 0) = true then true else decide (x.Off ≥ ((t.Stops).length : Int))))) = true := by
          by_cases c : x.On < 0
          · rw [if_pos (by simpa using c)]
          · rw [if_neg (by simpa using c), if_pos (by simp; omega)]
        rw [e3, e4]
        exact ⟨.ret 3, by simp, by simp, (fun h => by cases h), (fun e h => by injection h with h; omega)⟩
    · have e1 : (if decide (x.Train < 0) = true then true else decide (x.Train ≥ ((d.Trains).length : Int))) = true := by
        by_cases c : x.Train < 0
        · rw [if_pos (by simpa using c)]
        · rw [if_neg (by simpa using c)]; exact decide_eq_true (by omega)
      rw [e1, decide_eq_false c1]
      exact ⟨.ret 3, by simp, by simp, (fun h => by cases h), (fun e h => by injection h with h; omega)⟩
theorem journey_ok {d : ApiDay} (hd : DayOk d) (j : GuideJourney) (ls : Int) (tm : Bool) (h0 : 0 ≤ ls ∧ ls ≤ 28800) :
    ∃ e, GuideNetjourney ⟨d, ls⟩ j tm = some e ∧ Fishref2JourneyFault d j ls tm = some e ∧ (e = 0 → 1 ≤ j.Rides.length ∧ j.Rides.length ≤ 4 ∧ ∀ p ∈ j.Rides, validR d p ∧ p.On < p.Off) := by
  rw [GuideNetjourney, Fishref2JourneyFault]
  rw [show Fishref2within ls 0 28800 = Guidewithin ls 0 28800 from rfl, (within_iff ls 0 28800).2 h0]
  rw [show Fishref2within ((j.Rides.length : Nat) : Int) 1 4 = Guidewithin ((j.Rides.length : Nat) : Int) 1 4 from rfl]
  cases c : Guidewithin ((j.Rides.length : Nat) : Int) 1 4 with
  | false => exact ⟨4, by simp, by simp, fun h => by cases h⟩
  | true =>
    have w := (within_iff _ _ _).1 c
    simp only [Bool.not_true, Bool.false_eq_true, if_false]
    obtain ⟨z, z1, z2, z3, z4⟩ := jour1 hd j (by omega) ls tm j.Rides 0 (List.drop_zero) (fun h => absurd h (Nat.lt_irrefl 0))
    rw [z1, z2]
    cases z with
    | ret r => exact ⟨r, rfl, rfl, fun h => absurd h (z4 r rfl)⟩
    | next u => exact ⟨0, rfl, rfl, fun _ => ⟨by omega, by omega, z3 rfl⟩⟩
/-! bookings that count -/
def acts : List FareBooking → List Bool → List FareBooking
  | b :: B, c :: C => if c then acts B C else b :: acts B C
  | _, _ => []
theorem acts_len : ∀ (B : List FareBooking) (C : List Bool), (acts B C).length ≤ B.length
  | [], _ => by simp [acts]
  | _ :: _, [] => by simp [acts]
  | x :: B, c :: C => by
    rw [acts]
    have := acts_len B C
    split <;> simp <;> omega
theorem idx_containsq (l : List Int) (x : Int) : SlicesContainsLint l x = l.contains x := by
  have key : ∀ (l : List Int) (k : Nat), (∃ j : Nat, SlicesIndexLint.loop1 x l k = .ret ((j : Nat) : Int) ∧ l.contains x = true) ∨ (SlicesIndexLint.loop1 x l k = .next () ∧ l.contains x = false) := by
    intro l
    induction l with
    | nil => intro k; exact .inr ⟨rfl, rfl⟩
    | cons y l ih =>
      intro k
      rw [SlicesIndexLint.loop1]
      by_cases h : x = y
      · have hb : (x == y) = true := by simpa using h
        rw [if_pos hb]
        exact .inl ⟨k, rfl, by simp [h]⟩
      · have hb : ¬ ((x == y) = true) := by simpa using h
        rw [if_neg hb, List.contains_cons, beq_eq_false_iff_ne.2 h, Bool.false_or]
        exact ih (k + 1)
  unfold SlicesContainsLint SlicesIndexLint
  rw [bnd_eq]
  rcases key l 0 with ⟨j, h1, h2⟩ | ⟨h1, h2⟩
  · rw [h1, h2]; simp
  · rw [h1, h2]; simp
def hasS (s : Int) (b : FareBooking) : Bool := b.Seats.contains s
def ovl (f t : Int) (b : FareBooking) : Bool := decide (b.From < t) && decide (f < b.To)
/-- what is so of the bookings of a car -/
structure CarI (S : Int) (B : List FareBooking) (C : List Bool) : Prop where
  len : B.length = C.length
  many : B.length ≤ 3000000
  ok : ∀ b ∈ B, 0 ≤ b.From ∧ b.From < b.To ∧ b.To < S ∧ b.Seats.length ≤ 1000
section
variable {r a S : Int} {B : List FareBooking} {C : List Bool} (h : CarI S B C)
include h
theorem drop_both {k : Nat} (hk : k < B.length) : ∃ (hc : k < C.length), B.drop k = B[k] :: B.drop (k + 1) ∧ C.drop k = C[k] :: C.drop (k + 1) := by
  have hc : k < C.length := by rw [← h.len]; exact hk
  exact ⟨hc, List.drop_eq_getElem_cons hk, List.drop_eq_getElem_cons hc⟩
theorem of_loop (s : Int) : ∀ (n k : Nat) (q : List FareBooking), k + n = B.length → q.length ≤ k →
    FareCarof_v1.loop1 s ⟨r, a, S, B, C⟩ n k q = some (q ++ (acts (B.drop k) (C.drop k)).filter (hasS s))
  | 0, k, q, hk, _ => by rw [List.drop_eq_nil_of_le (by omega)]; simp [acts, FareCarof_v1.loop1]
  | n + 1, k, q, hk, hq => by
    have hkB : k < B.length := by omega
    obtain ⟨hkC, d1, d2⟩ := drop_both h hkB
    have hm := h.many
    rw [FareCarof_v1.loop1]
    simp only
    rw [gx_at hkB, Option.bind_some, gx_at hkC, Option.bind_some, idx_containsq, d1, d2, acts]
    cases hc : C[k] with
    | true =>
      simp only [Bool.not_true, Bool.false_eq_true, if_false, Option.bind_some, if_true]
      exact of_loop s n (k + 1) q (by omega) (by omega)
    | false =>
      simp only [Bool.not_false, if_true, Option.bind_some, Bool.false_eq_true, if_false]
      cases hs : B[k].Seats.contains s with
      | true =>
        simp only [if_true]
        rw [apd_lt (by simp; omega), Option.bind_some, Option.bind_some, of_loop s n (k + 1) _ (by omega) (by simp; omega), List.filter_cons_of_pos (by unfold hasS; exact hs)]
        simp
      | false =>
        simp only [Bool.false_eq_true, if_false, Option.bind_some]
        rw [of_loop s n (k + 1) q (by omega) (by omega), List.filter_cons_of_neg (by unfold hasS; simp only [hs]; decide)]
theorem of_eq (s : Int) : FareCarof_v1 s ⟨r, a, S, B, C⟩ = some ((acts B C).filter (hasS s)) := by
  unfold FareCarof_v1
  simp only
  rw [of_loop h s B.length 0 [] (by omega) (by simp)]
  simp
def ovs (B : List FareBooking) (C : List Bool) (s f t : Int) : Bool := ((acts B C).filter (hasS s)).any (ovl f t)
omit h in
theorem cf_eq (f t : Int) (l : List FareBooking) : SlicesContainsFuncLfareBooking_v1 l t f = l.any (ovl f t) := by
  have e : ∀ b : FareBooking, FareCarfree_1_v1 b t f = ovl f t b := by
    intro b
    unfold FareCarfree_1_v1 ovl
    rw [bnd_eq]
    have : decide (b.To > f) = decide (f < b.To) := rfl
    rw [this]
    cases decide (b.From < t) <;> rfl
  have key : ∀ (l : List FareBooking) (k : Nat), (∃ j : Nat, SlicesIndexFuncLfareBooking_v1.loop1 t f l k = .ret ((j : Nat) : Int) ∧ l.any (ovl f t) = true) ∨ (SlicesIndexFuncLfareBooking_v1.loop1 t f l k = .next () ∧ l.any (ovl f t) = false) := by
    intro l
    induction l with
    | nil => intro k; exact .inr ⟨rfl, rfl⟩
    | cons y l ih =>
      intro k
      rw [SlicesIndexFuncLfareBooking_v1.loop1, e, List.any_cons]
      cases ovl f t y with
      | true => exact .inl ⟨k, rfl, rfl⟩
      | false => exact ih (k + 1)
  unfold SlicesContainsFuncLfareBooking_v1 SlicesIndexFuncLfareBooking_v1
  rw [bnd_eq]
  rcases key l 0 with ⟨j, h1, h2⟩ | ⟨h1, h2⟩
  · rw [h1, h2]; simp
  · rw [h1, h2]; simp
/-- the seats from i on -/
def sts (i n : Nat) : List Int := (List.range' i n).map fun (k : Nat) => (k : Int)
omit h in
theorem sts_cons (i n : Nat) : sts i (n + 1) = ((i : Nat) : Int) :: sts (i + 1) n := by unfold sts; rw [List.range'_succ]; rfl
omit h in
theorem sts_mem {i n : Nat} {x : Int} : x ∈ sts i n ↔ (i : Int) ≤ x ∧ x < i + n := by
  unfold sts
  simp only [List.mem_map, List.mem_range'_1]
  constructor
  · rintro ⟨k, h, rfl⟩; omega
  · intro h; exact ⟨x.toNat, by omega, by omega⟩
omit h in
theorem sts_lt (i n : Nat) : (sts i n).Pairwise (· < ·) := by
  unfold sts
  rw [List.pairwise_map]
  exact (List.pairwise_lt_range').imp (by intro a b h; omega)
omit h in
theorem sts_len (i n : Nat) : (sts i n).length = n := by unfold sts; simp
def frs (B : List FareBooking) (C : List Bool) (i n : Nat) (f t : Int) : List Int := (sts i n).filter (fun s => !ovs B C s f t)
theorem pfree_loop {N : Nat} (hN : r * a = (N : Int)) (hN2 : N ≤ 80) (f t : Int) : ∀ (m i n : Nat) (q : List Int), i + m = N → m < n → q.length ≤ i →
    FareCarfree_v1.loop2 f t ⟨r, a, S, B, C⟩ n q ((i : Nat) : Int) = some (q ++ frs B C i m f t, ((N : Nat) : Int))
  | m, i, 0, q, _, h, _ => absurd h (Nat.not_lt_zero _)
  | 0, i, n + 1, q, hi, hn, hq => by
    have e : i = N := by omega
    subst e
    rw [FareCarfree_v1.loop2]
    simp only
    rw [hN, w64_id (by omega), if_neg (by simp)]
    simp [frs, sts]
  | m + 1, i, n + 1, q, hi, hn, hq => by
    have hw : w64 (((i : Nat) : Int) + 1) = ((i + 1 : Nat) : Int) := by rw [w64_id (by omega)]; omega
    rw [FareCarfree_v1.loop2]
    simp only
    rw [hN, w64_id (x := ((N : Nat) : Int)) (by omega), if_pos (by simp; omega), of_eq h, Option.bind_some, cf_eq, hw]
    unfold frs
    rw [sts_cons]
    have eo : ((acts B C).filter (hasS ((i : Nat) : Int))).any (ovl f t) = ovs B C ((i : Nat) : Int) f t := rfl
    rw [eo]
    cases ho : ovs B C ((i : Nat) : Int) f t with
    | true =>
      rw [List.filter_cons_of_neg (by simp [ho])]
      simp only [Bool.not_true, Bool.false_eq_true, if_false, Option.bind_some]
      exact pfree_loop hN hN2 f t m (i + 1) n q (by omega) (by omega) (by omega)
    | false =>
      rw [List.filter_cons_of_pos (by simp [ho])]
      simp only [Bool.not_false, if_true]
      rw [apd_lt (by simp; omega), Option.bind_some, Option.bind_some, pfree_loop hN hN2 f t m (i + 1) n _ (by omega) (by omega) (by simp; omega)]
      unfold frs
      simp
end
/-! seats in one row -/
def rowq (a : Int) (F : List Int) (k : Nat) : List Int := F.filter (fun s => decide (s.tdiv a = (k : Int)))
theorem dv_seat {s a : Int} (h0 : 0 ≤ s) (h1 : s ≤ 1000) (ha : 1 ≤ a) : dv s a = some (s.tdiv a) := by
  unfold dv
  rw [if_neg (by omega)]
  congr 1
  have h2 : 0 ≤ s.tdiv a := Int.tdiv_nonneg h0 (by omega)
  have h3 : s.tdiv a ≤ s := by
    rw [Int.tdiv_eq_ediv_of_nonneg h0]
    exact Int.ediv_le_self _ h0
  exact w64_id (by omega)
theorem seat_row {s a : Int} {R N : Nat} (hN : (R : Int) * a = N) (h0 : 0 ≤ s) (h1 : s < N) (ha : 1 ≤ a) : ∃ k : Nat, k < R ∧ s.tdiv a = (k : Int) := by
  have h2 : 0 ≤ s.tdiv a := Int.tdiv_nonneg h0 (by omega)
  have h3 : s.tdiv a < R := by
    rw [Int.tdiv_eq_ediv_of_nonneg h0]
    refine Int.ediv_lt_of_lt_mul (by omega) ?_
    rw [hN]; exact h1
  exact ⟨(s.tdiv a).toNat, by omega, by omega⟩
theorem rows_loop {R N : Nat} {a : Int} (hN : (R : Int) * a = N) (hN2 : N ≤ 80) (ha : 1 ≤ a) {y0 : FareCar} (hy : y0.across = a) : ∀ (F P : List Int), (∀ s ∈ F, 0 ≤ s ∧ s < N) → P.length + F.length ≤ 1000 →
    FareCarchoose_v1.loop1 y0 F ((List.range R).map (rowq a P)) = some ((List.range R).map (rowq a (P ++ F)))
  | [], P, _, _ => by rw [List.append_nil]; rfl
  | x :: F, P, hF, hl => by
    simp only [List.length_cons] at hl
    have hx := hF x (by simp)
    obtain ⟨k, hk, e⟩ := seat_row hN hx.1 hx.2 ha
    have hkl : k < ((List.range R).map (rowq a P)).length := by simpa using hk
    have hlen : (rowq a P k).length ≤ P.length := List.length_filter_le _ _
    rw [FareCarchoose_v1.loop1, hy, dv_seat hx.1 (by omega) ha, Option.bind_some, e, gx_at hkl, Option.bind_some]
    have hg : ((List.range R).map (rowq a P))[k] = rowq a P k := by simp
    rw [hg, apd_lt (by simp; omega), Option.bind_some, ix_in (by omega) (by omega), Option.bind_some, sx_in (by omega) (by omega), Option.bind_some, Int.toNat_natCast]
    have hs : ((List.range R).map (rowq a P)).set k (rowq a P k ++ [x]) = (List.range R).map (rowq a (P ++ [x])) := by
      apply List.ext_getElem (by simp)
      intro j h1 h2
      rw [List.getElem_set]
      simp only [List.getElem_map, List.getElem_range]
      by_cases c : k = j
      · subst c
        rw [if_pos rfl]
        unfold rowq
        rw [List.filter_append, List.filter_cons_of_pos (by simpa using e), List.filter_nil]
      · rw [if_neg c]
        unfold rowq
        rw [List.filter_append, List.filter_cons_of_neg (by simp [e]; omega), List.filter_nil, List.append_nil]
    rw [hs, rows_loop hN hN2 ha hy F (P ++ [x]) (fun s h => hF s (by simp [h])) (by simp; omega)]
    simp
/-- the row of fewest free seats that are enough, among the first ones -/
def bestq (row : Nat → List Int) (many : Int) : Nat → Option Nat
  | 0 => none
  | k + 1 => match bestq row many k with
    | none => if ((row k).length : Int) ≥ many then some k else none
    | some b => if ((row k).length : Int) ≥ many ∧ (row k).length < (row b).length then some k else some b
theorem bestq_lt {row : Nat → List Int} {many : Int} : ∀ {n b : Nat}, bestq row many n = some b → b < n ∧ ((row b).length : Int) ≥ many
  | 0, _, h => by cases h
  | k + 1, b, h => by
    rw [bestq] at h
    cases e : bestq row many k with
    | none =>
      rw [e] at h
      simp only at h
      split at h
      · rename_i c; obtain rfl := Option.some.inj h; exact ⟨by omega, c⟩
      · cases h
    | some b' =>
      rw [e] at h
      simp only at h
      have := bestq_lt e
      split at h
      · rename_i c; obtain rfl := Option.some.inj h; exact ⟨by omega, c.1⟩
      · obtain rfl := Option.some.inj h; exact ⟨by omega, this.2⟩
def bestI : Option Nat → Int
  | none => -1
  | some b => (b : Int)
theorem bestI_none : bestI none = -1 := rfl
theorem bestI_some (b : Nat) : bestI (some b) = (b : Int) := rfl
theorem pbest_loop {row : Nat → List Int} {many : Int} {R : Nat} : ∀ (n k : Nat), k + n = R →
    FareCarchoose_v1.loop2 many ((List.range R).map row) n k (bestI (bestq row many k)) = some (bestI (bestq row many R))
  | 0, k, hk => by obtain rfl : k = R := by omega
                   rfl
  | n + 1, k, hk => by
    have hkl : k < ((List.range R).map row).length := by simp; omega
    have hg : ((List.range R).map row)[k] = row k := by simp
    have ih := pbest_loop (row := row) (many := many) (R := R) n (k + 1) (by omega)
    rw [FareCarchoose_v1.loop2, gx_at hkl, Option.bind_some, hg]
    rw [bestq] at ih
    cases e : bestq row many k with
    | none =>
      rw [e] at ih
      simp only at ih
      rw [bestI_none]
      by_cases c : ((row k).length : Int) ≥ many
      · rw [if_pos c, bestI_some] at ih
        rw [if_pos (by simpa using c), if_pos (by decide), Option.bind_some, bnd_eq, if_pos rfl]
        exact ih
      · rw [if_neg c, bestI_none] at ih
        rw [if_neg (by simpa using c), Option.bind_some, bnd_eq, if_neg (by decide)]
        exact ih
    | some b =>
      rw [e] at ih
      have hb := (bestq_lt e).1
      have hbl : b < ((List.range R).map row).length := by simp; omega
      have hgb : ((List.range R).map row)[b] = row b := by simp
      simp only at ih
      rw [bestI_some]
      by_cases c : ((row k).length : Int) ≥ many
      · rw [if_pos (by simpa using c), if_neg (by simp), gx_at hbl, Option.bind_some, hgb, Option.bind_some, bnd_eq]
        by_cases c2 : (row k).length < (row b).length
        · rw [if_pos ⟨c, c2⟩, bestI_some] at ih
          rw [if_pos (by simp; omega)]
          exact ih
        · rw [if_neg (fun q => c2 q.2), bestI_some] at ih
          rw [if_neg (by simp; omega)]
          exact ih
      · rw [if_neg (fun q => c q.1), bestI_some] at ih
        rw [if_neg (by simpa using c), Option.bind_some, bnd_eq, if_neg (by decide)]
        exact ih
theorem clone_eq {l : List Int} (hl : l.length ≤ 100000) : SlicesCloneLint l = some l := by unfold SlicesCloneLint; rw [apd_lt (by simp; omega)]; rfl
theorem withinq_iff (x a b : Int) : Farewithin x a b = true ↔ a ≤ x ∧ x ≤ b := by
  unfold Farewithin
  rw [bnd_eq]
  by_cases h : x ≥ a
  · simp [h]
  · simp [h]
theorem span_iff (f t S : Int) : Farespan f t S = true ↔ 0 ≤ f ∧ f < t ∧ t < S := by
  unfold Farespan
  rw [bnd_eq]
  by_cases h : f ≥ 0
  · by_cases k : f < t
    · simp [h, k]
    · simp [h, k]
  · simp [h]
section
variable {r a S : Int} {B : List FareBooking} {C : List Bool} (h : CarI S B C)
include h
theorem pbook_loop : ∀ (n k : Nat) (q : List FareBooking), k + n = B.length → q.length ≤ k →
    FareCarBookings_v1.loop1 ⟨r, a, S, B, C⟩ n k q = some (q ++ acts (B.drop k) (C.drop k))
  | 0, k, q, hk, _ => by rw [List.drop_eq_nil_of_le (by omega)]; simp [acts, FareCarBookings_v1.loop1]
  | n + 1, k, q, hk, hq => by
    have hkB : k < B.length := by omega
    obtain ⟨hkC, d1, d2⟩ := drop_both h hkB
    have hm := h.many
    have hs := (h.ok _ (List.getElem_mem hkB)).2.2.2
    rw [FareCarBookings_v1.loop1]
    simp only
    rw [gx_at hkB, Option.bind_some, gx_at hkC, Option.bind_some, d1, d2, acts]
    cases hc : C[k] with
    | true =>
      simp only [Bool.not_true, Bool.false_eq_true, if_false, Option.bind_some, if_true]
      exact pbook_loop n (k + 1) q (by omega) (by omega)
    | false =>
      simp only [Bool.not_false, if_true, Bool.false_eq_true, if_false]
      rw [clone_eq (by omega), Option.bind_some, apd_lt (by simp; omega), Option.bind_some, Option.bind_some]
      simp only
      rw [pbook_loop n (k + 1) _ (by omega) (by simp; omega)]
      simp
theorem books_eq : FareCarBookings_v1 ⟨r, a, S, B, C⟩ = some (acts B C) := by
  unfold FareCarBookings_v1
  simp only
  rw [pbook_loop h B.length 0 [] (by omega) (by simp)]; simp
end
theorem bestq_ex {row : Nat → List Int} {many : Int} : ∀ {n k : Nat}, k < n → ((row k).length : Int) ≥ many → ∃ b, bestq row many n = some b
  | 0, k, h, _ => absurd h (Nat.not_lt_zero _)
  | n + 1, k, h, hk => by
    rw [bestq]
    cases e : bestq row many n with
    | some b => simp only; split <;> exact ⟨_, rfl⟩
    | none =>
      simp only
      rcases Nat.lt_or_ge k n with h1 | h1
      · obtain ⟨b, hb⟩ := bestq_ex h1 hk
        rw [e] at hb; cases hb
      · obtain rfl : k = n := by omega
        rw [if_pos hk]; exact ⟨_, rfl⟩
theorem span_of {f t S : Int} (h : 0 ≤ f ∧ f < t ∧ t < S) : Farespan f t S = true := (span_iff f t S).2 h
section
variable {r a S : Int} {B : List FareBooking} {C : List Bool} (h : CarI S B C)
include h
theorem free_v {N : Nat} (hN : r * a = (N : Int)) (hN2 : N ≤ 80) {fu : Nat} (hf : 100 ≤ fu) (f t : Int) : FareCarfree_v1 fu f t ⟨r, a, S, B, C⟩ = some (frs B C 0 N f t) := by
  unfold FareCarfree_v1
  have := pfree_loop h hN hN2 f t N 0 fu [] (by omega) (by omega) (by simp)
  rw [show (0 : Int) = ((0 : Nat) : Int) from rfl, this]
  simp
/-- a seat booked for one -/
theorem book_one {R N : Nat} (hrR : r = (R : Int)) (hR : R ≤ 20) (ha : 1 ≤ a) (hN : (R : Int) * a = N) (hN2 : N ≤ 80) {fu : Nat} (hf : 100 ≤ fu) {f t : Int} (hs : 0 ≤ f ∧ f < t ∧ t < S) (hB : B.length ≤ 100000) :
    FareCarBook_v1 fu f t 1 ⟨r, a, S, B, C⟩ = some (⟨0, 0, 0, []⟩, 14, B, C) ∨
    ∃ s, (0 ≤ s ∧ s < (N : Int)) ∧ ovs B C s f t = false ∧ FareCarBook_v1 fu f t 1 ⟨r, a, S, B, C⟩ = some (⟨(B.length : Int), f, t, [s]⟩, 0, B ++ [⟨(B.length : Int), f, t, [s]⟩], C ++ [false]) := by
  have hlC := h.len
  unfold FareCarBook_v1
  simp only
  rw [span_of hs, (withinq_iff 1 1 8).2 (by omega), free_v h (by rw [hrR]; exact hN) hN2 hf]
  simp only [Bool.not_true, Bool.false_eq_true, if_false, bnd_eq, Option.bind_some]
  have hF : ∀ x ∈ frs B C 0 N f t, (0 ≤ x ∧ x < (N : Int)) ∧ ovs B C x f t = false := by
    intro x hx
    unfold frs at hx
    obtain ⟨h1, h2⟩ := List.mem_filter.1 hx
    have := sts_mem.1 h1
    exact ⟨by omega, by simpa using h2⟩
  have hFl : (frs B C 0 N f t).length ≤ N := Nat.le_trans (List.length_filter_le _ _) (by rw [sts_len]; exact Nat.le_refl _)
  generalize frs B C 0 N f t = F at hF hFl
  cases F with
  | nil => left; simp
  | cons x F =>
    right
    have hx := hF x (by simp)
    have hr0 := rows_loop hN hN2 ha (y0 := ⟨r, a, S, B, C⟩) rfl (x :: F) [] (fun s q => (hF s q).1) (by simp at hFl ⊢; omega)
    have hrep : (List.range R).map (rowq a []) = List.replicate R [] := by
      apply List.ext_getElem (by simp)
      intro i h1 h2
      simp [rowq]
    rw [hrep, List.nil_append] at hr0
    obtain ⟨k, hk, e⟩ := seat_row hN hx.1.1 hx.1.2 ha
    have hlen : ((rowq a (x :: F) k).length : Int) ≥ 1 := by
      have : x ∈ rowq a (x :: F) k := List.mem_filter.2 ⟨by simp, by simpa using e⟩
      have := List.length_pos_of_mem this
      omega
    obtain ⟨b, hb⟩ := bestq_ex (row := rowq a (x :: F)) hk hlen
    obtain ⟨b1, b2⟩ := bestq_lt hb
    have hp := pbest_loop (row := rowq a (x :: F)) (many := 1) (R := R) R 0 (by omega)
    rw [hb, bestI_some, show bestI (bestq (rowq a (x :: F)) 1 0) = -1 from rfl] at hp
    cases hrow : rowq a (x :: F) b with
    | nil => rw [hrow] at b2; simp at b2
    | cons s rest =>
      have hsF : s ∈ x :: F := (List.mem_filter.1 (show s ∈ rowq a (x :: F) b by rw [hrow]; simp)).1
      have hs2 := hF s hsF
      refine ⟨s, hs2.1, hs2.2, ?_⟩
      have hgb : gx ((List.range R).map (rowq a (x :: F))) (b : Int) = some (s :: rest) := by
        rw [gx_nat, List.getElem?_map, List.getElem?_range b1]; simp [hrow]
      have q1 : decide ((((x :: F).length : Nat) : Int) < 1) = false := decide_eq_false (by simp only [List.length_cons]; omega)
      have q2 : decide (((b : Nat) : Int) ≥ 0) = true := decide_eq_true (by omega)
      rw [q1, if_neg (by decide), FareCarchoose_v1]
      simp only
      rw [hrR, mks_in (by omega), Option.bind_some, ← hrR, hr0, Option.bind_some, List.length_replicate, hp, Option.bind_some, q2, if_pos rfl, hgb, Option.bind_some, cutl_in (by omega) (by omega) (by simp; omega), Option.bind_some]
      have ht : ((s :: rest).take (1 : Int).toNat).drop (0 : Int).toNat = [s] := by simp
      rw [ht, clone_eq (by simp), Option.bind_some, Option.bind_some, apd_lt (by simp; omega), Option.bind_some, apd_lt (by simp; omega), Option.bind_some, clone_eq (by simp), Option.bind_some]
end
/-! cars under booking and cancelling -/
theorem acts_app : ∀ {B0 : List FareBooking} {C0 : List Bool} (B : List FareBooking) (C : List Bool), B0.length = C0.length → acts (B0 ++ B) (C0 ++ C) = acts B0 C0 ++ acts B C
  | [], [], _, _, _ => rfl
  | [], _ :: _, _, _, h => by simp at h
  | _ :: _, [], _, _, h => by simp at h
  | b :: B0, c :: C0, B, C, h => by
    rw [List.cons_append, List.cons_append, acts, acts, acts_app B C (by simpa using h)]
    cases c <;> simp
theorem acts_gone : ∀ (B : List FareBooking) (C : List Bool), (∀ i, i < B.length → C[i]? = some true) → acts B C = []
  | [], _, _ => by cases ‹List Bool› <;> rfl
  | b :: B, [], _ => rfl
  | b :: B, c :: C, h => by
    have h0 := h 0 (by simp)
    simp at h0
    subst h0
    rw [acts, if_pos rfl]
    exact acts_gone B C fun i hi => by simpa using h (i + 1) (by simpa using hi)
theorem acts_cut {B : List FareBooking} {C : List Bool} {B0 : List FareBooking} {C0 : List Bool} (hl : B.length = C.length) (hl0 : B0.length = C0.length) (h1 : B.take B0.length = B0) (h2 : C.take B0.length = C0) (h3 : ∀ i, B0.length ≤ i → i < B.length → C[i]? = some true) : acts B C = acts B0 C0 := by
  have e1 : B = B0 ++ B.drop B0.length := by conv => lhs; rw [← List.take_append_drop B0.length B, h1]
  have e2 : C = C0 ++ C.drop B0.length := by conv => lhs; rw [← List.take_append_drop B0.length C, h2]
  have e3 := acts_app (B.drop B0.length) (C.drop B0.length) hl0
  rw [← e1, ← e2, acts_gone (B.drop B0.length) (C.drop B0.length) (fun i hi => by
    rw [List.getElem?_drop]
    simp only [List.length_drop] at hi
    exact h3 _ (by omega) (by omega)), List.append_nil] at e3
  exact e3
/-- bookings of one seat each, apart where they overlap -/
structure One (N : Nat) (L : List FareBooking) : Prop where
  one : ∀ b ∈ L, ∃ s, b.Seats = [s] ∧ 0 ≤ s ∧ s < (N : Int)
  apart : L.Pairwise fun x y => ovl x.From x.To y = true → x.Seats ≠ y.Seats
theorem ovl_iff (f t : Int) (b : FareBooking) : ovl f t b = true ↔ b.From < t ∧ f < b.To := by unfold ovl; simp
theorem ovs_false {B : List FareBooking} {C : List Bool} {s f t : Int} (h : ovs B C s f t = false) : ∀ b ∈ acts B C, ovl f t b = true → b.Seats ≠ [s] := by
  intro b hb ho e
  unfold ovs at h
  rw [List.any_eq_false] at h
  exact h b (List.mem_filter.2 ⟨hb, by unfold hasS; rw [e]; simp⟩) ho
theorem One.snoc {N : Nat} {B : List FareBooking} {C : List Bool} (h : One N (acts B C)) {n f t s : Int} (hs : 0 ≤ s ∧ s < (N : Int)) (ho : ovs B C s f t = false) : One N (acts B C ++ [⟨n, f, t, [s]⟩]) := by
  refine ⟨fun b hb => ?_, List.pairwise_append.2 ⟨h.apart, by simp, fun x hx y hy => ?_⟩⟩
  · rcases List.mem_append.1 hb with hb | hb
    · exact h.one b hb
    · simp at hb; subst hb; exact ⟨s, rfl, hs⟩
  · simp at hy; subst hy
    intro h1
    refine ovs_false ho x hx ?_
    rw [ovl_iff] at h1 ⊢
    simp only at h1
    exact ⟨h1.2, h1.1⟩
def bsp (b : FareBooking) : Int × Int := (b.From, b.To)
def rsp (r : GuideRide) : Int × Int := (r.On, r.Off)
def onT (t : Nat) (r : GuideRide) : Bool := r.Train == (t : Int)
/-- what is so of a car of train t -/
structure CarT (r a : Int) (N S m : Nat) (c : FareCar) : Prop where
  rows : c.rows = r
  across : c.across = a
  stops : c.stops = (S : Int)
  inv : CarI (S : Int) c.bookings c.cancelled
  one : One N (acts c.bookings c.cancelled)
  few : c.bookings.length ≤ m
def CS (d : ApiDay) (r a : Int) (N m : Nat) (q : List FareCar) : Prop := q.length = d.Trains.length ∧ ∀ (t : Nat) (tr : ApiTrain) (c : FareCar), d.Trains[t]? = some tr → q[t]? = some c → CarT r a N tr.Stops.length m c
theorem CarT.more {r a : Int} {N S m n : Nat} {c : FareCar} (h : CarT r a N S m c) (hm : m ≤ n) : CarT r a N S n c := ⟨h.rows, h.across, h.stops, h.inv, h.one, Nat.le_trans h.few hm⟩
theorem CarT.eta {r a : Int} {N S m : Nat} {c : FareCar} (h : CarT r a N S m c) : c = ⟨r, a, (S : Int), c.bookings, c.cancelled⟩ := by
  obtain ⟨c1, c2, c3, c4, c5⟩ := c
  obtain ⟨rfl, rfl, rfl, _, _, _⟩ := h
  rfl
theorem CS.set {d : ApiDay} {r a : Int} {N m n : Nat} {q : List FareCar} (h : CS d r a N m q) (hm : m ≤ n) {t : Nat} {tr : ApiTrain} (ht : d.Trains[t]? = some tr) {c : FareCar} (hc : CarT r a N tr.Stops.length n c) : CS d r a N n (q.set t c) := by
  refine ⟨by rw [List.length_set]; exact h.1, fun u ur e hu he => ?_⟩
  rw [List.getElem?_set] at he
  split at he
  · rename_i k
    subst k
    split at he
    · injection he with he
      subst he
      rw [ht] at hu; injection hu with hu; subst hu
      exact hc
    · cases he
  · exact (h.2 u ur e hu he).more hm
/-- from q0 to q only the bookings of L have come, and others that are cancelled -/
structure Ext (q0 q : List FareCar) (L : List (Nat × Nat)) : Prop where
  len : q.length = q0.length
  old : ∀ (t : Nat) (c0 c : FareCar), q0[t]? = some c0 → q[t]? = some c → c.bookings.take c0.bookings.length = c0.bookings ∧ c.cancelled.take c0.bookings.length = c0.cancelled
  mem : ∀ p ∈ L, ∃ c0 c, q0[p.1]? = some c0 ∧ q[p.1]? = some c ∧ c0.bookings.length ≤ p.2 ∧ c.cancelled[p.2]? = some false
  nd : L.Nodup
  rest : ∀ (t : Nat) (c0 c : FareCar) (i : Nat), q0[t]? = some c0 → q[t]? = some c → c0.bookings.length ≤ i → i < c.bookings.length → (t, i) ∈ L ∨ c.cancelled[i]? = some true
theorem Ext.refl {q : List FareCar} (h : ∀ c ∈ q, c.bookings.length = c.cancelled.length) : Ext q q [] := by
  refine ⟨rfl, fun t c0 c h1 h2 => ?_, fun p hp => by simp at hp, by simp, fun t c0 c i h1 h2 h3 h4 => ?_⟩
  · rw [h1] at h2; injection h2 with h2; subst h2
    refine ⟨List.take_length, ?_⟩
    rw [h c0 (List.mem_of_getElem? h1)]; exact List.take_length
  · rw [h1] at h2; injection h2 with h2; subst h2; omega
theorem Ext.done {q0 q : List FareCar} (h : Ext q0 q []) {t : Nat} {c0 c : FareCar} (h0 : q0[t]? = some c0) (h1 : q[t]? = some c) (hl0 : c0.bookings.length = c0.cancelled.length) (hl : c.bookings.length = c.cancelled.length) : acts c.bookings c.cancelled = acts c0.bookings c0.cancelled := by
  obtain ⟨e1, e2⟩ := h.old t c0 c h0 h1
  refine acts_cut hl hl0 e1 e2 fun i h2 h3 => ?_
  rcases h.rest t c0 c i h0 h1 h2 h3 with h | h
  · simp at h
  · exact h
theorem Ext.book {q0 q : List FareCar} {L : List (Nat × Nat)} (h : Ext q0 q L) {t : Nat} {c0 c : FareCar} (h0 : q0[t]? = some c0) (h1 : q[t]? = some c) (hl : c.bookings.length = c.cancelled.length) (hle : c0.bookings.length ≤ c.bookings.length) (b : FareBooking) (hL : ∀ p ∈ L, p.1 = t → p.2 < c.bookings.length) {r a S : Int} :
    Ext q0 (q.set t ⟨r, a, S, c.bookings ++ [b], c.cancelled ++ [false]⟩) (L ++ [(t, c.bookings.length)]) := by
  have ht := (List.getElem?_eq_some_iff.1 h1).1
  have get : ∀ (u : Nat) (e : FareCar), (q.set t ⟨r, a, S, c.bookings ++ [b], c.cancelled ++ [false]⟩)[u]? = some e → (u = t ∧ e = ⟨r, a, S, c.bookings ++ [b], c.cancelled ++ [false]⟩) ∨ (u ≠ t ∧ q[u]? = some e) := by
    intro u e he
    rw [List.getElem?_set] at he
    split at he
    · rename_i k
      injection he with he; exact .inl ⟨k.symm, he.symm⟩
    · rename_i k; exact .inr ⟨fun w => k w.symm, he⟩
  refine ⟨by rw [List.length_set]; exact h.len, fun u e0 e k1 k2 => ?_, fun p hp => ?_, ?_, fun u e0 e i k1 k2 k3 k4 => ?_⟩
  · rcases get u e k2 with ⟨rfl, rfl⟩ | ⟨_, k2⟩
    · rw [h0] at k1; injection k1 with k1; subst k1
      obtain ⟨o1, o2⟩ := h.old u c0 c h0 h1
      refine ⟨?_, ?_⟩
      · show (c.bookings ++ [b]).take _ = _
        rw [List.take_append_of_le_length hle]; exact o1
      · show (c.cancelled ++ [false]).take _ = _
        rw [List.take_append_of_le_length (by omega)]; exact o2
    · exact h.old u e0 e k1 k2
  · rcases List.mem_append.1 hp with hp | hp
    · obtain ⟨e0, e, m1, m2, m3, m4⟩ := h.mem p hp
      by_cases k : p.1 = t
      · rw [k] at m1 m2 ⊢
        rw [h1] at m2; injection m2 with m2; subst m2
        refine ⟨e0, ⟨r, a, S, c.bookings ++ [b], c.cancelled ++ [false]⟩, m1, by simp [ht], m3, ?_⟩
        have := hL p hp k
        show (c.cancelled ++ [false])[p.2]? = _
        rw [List.getElem?_append_left (by omega)]; exact m4
      · refine ⟨e0, e, m1, ?_, m3, m4⟩
        rw [List.getElem?_set, if_neg (fun w => k w.symm)]; exact m2
    · simp at hp; subst hp
      refine ⟨c0, ⟨r, a, S, c.bookings ++ [b], c.cancelled ++ [false]⟩, h0, by simp [ht], hle, ?_⟩
      show (c.cancelled ++ [false])[c.bookings.length]? = _
      rw [hl]; simp
  · refine List.nodup_append.2 ⟨h.nd, by simp, fun x hx y hy => ?_⟩
    simp at hy; subst hy
    intro e
    have := hL x hx (by rw [e])
    rw [e] at this; simp at this
  · rcases get u e k2 with ⟨rfl, rfl⟩ | ⟨k, k2⟩
    · rw [h0] at k1; injection k1 with k1; subst k1
      simp only [List.length_append, List.length_cons, List.length_nil] at k4
      by_cases w : i = c.bookings.length
      · subst w; exact .inl (by simp)
      · rcases h.rest u c0 c i h0 h1 k3 (by omega) with z | z
        · exact .inl (by simp [z])
        · right
          show (c.cancelled ++ [false])[i]? = _
          rw [List.getElem?_append_left (by omega)]; exact z
    · rcases h.rest u e0 e i k1 k2 k3 k4 with z | z
      · exact .inl (by simp [z])
      · exact .inr z
theorem Ext.cancel {q0 q : List FareCar} {t i : Nat} {L : List (Nat × Nat)} (h : Ext q0 q ((t, i) :: L)) {c : FareCar} (h1 : q[t]? = some c) {r a S : Int} :
    Ext q0 (q.set t ⟨r, a, S, c.bookings, c.cancelled.set i true⟩) L := by
  have ht := (List.getElem?_eq_some_iff.1 h1).1
  obtain ⟨c0, e, m1, m2, m3, m4⟩ := h.mem (t, i) (by simp)
  simp only at m1 m2 m3 m4
  rw [h1] at m2; injection m2 with m2; subst m2
  have hi := (List.getElem?_eq_some_iff.1 m4).1
  have nd := List.nodup_cons.1 h.nd
  have get : ∀ (u : Nat) (e : FareCar), (q.set t ⟨r, a, S, c.bookings, c.cancelled.set i true⟩)[u]? = some e → (u = t ∧ e = ⟨r, a, S, c.bookings, c.cancelled.set i true⟩) ∨ (u ≠ t ∧ q[u]? = some e) := by
    intro u e he
    rw [List.getElem?_set] at he
    split at he
    · rename_i k
      injection he with he; exact .inl ⟨k.symm, he.symm⟩
    · rename_i k; exact .inr ⟨fun w => k w.symm, he⟩
  refine ⟨by rw [List.length_set]; exact h.len, fun u e0 e k1 k2 => ?_, fun p hp => ?_, nd.2, fun u e0 e j k1 k2 k3 k4 => ?_⟩
  · rcases get u e k2 with ⟨rfl, rfl⟩ | ⟨_, k2⟩
    · rw [m1] at k1; injection k1 with k1; subst k1
      obtain ⟨o1, o2⟩ := h.old u c0 c m1 h1
      refine ⟨o1, ?_⟩
      show (c.cancelled.set i true).take _ = _
      rw [List.take_set_of_le m3]; exact o2
    · exact h.old u e0 e k1 k2
  · obtain ⟨e0, e, n1, n2, n3, n4⟩ := h.mem p (by simp [hp])
    by_cases k : p.1 = t
    · have hne : p.2 ≠ i := by
        intro w
        apply nd.1
        have : p = (t, i) := by cases p; simp only at k w; rw [k, w]
        rw [← this]; exact hp
      rw [k] at n1 n2 ⊢
      rw [h1] at n2; injection n2 with n2; subst n2
      refine ⟨e0, ⟨r, a, S, c.bookings, c.cancelled.set i true⟩, n1, by simp [ht], n3, ?_⟩
      show (c.cancelled.set i true)[p.2]? = _
      rw [List.getElem?_set, if_neg (fun w => hne w.symm)]; exact n4
    · refine ⟨e0, e, n1, ?_, n3, n4⟩
      rw [List.getElem?_set, if_neg (fun w => k w.symm)]; exact n2
  · rcases get u e k2 with ⟨rfl, rfl⟩ | ⟨k, k2⟩
    · simp only at k4
      by_cases w : j = i
      · subst w; right
        show (c.cancelled.set j true)[j]? = _
        simp [hi]
      · rcases h.rest u e0 c j k1 h1 k3 k4 with z | z
        · rcases List.mem_cons.1 z with z | z
          · injection z with _ z; exact absurd z w
          · exact .inl z
        · right
          show (c.cancelled.set i true)[j]? = _
          rw [List.getElem?_set, if_neg (fun v => w v.symm)]; exact z
    · rcases h.rest u e0 e j k1 k2 k3 k4 with z | z
      · rcases List.mem_cons.1 z with z | z
        · injection z with z _; exact absurd z k
        · exact .inl z
      · exact .inr z
/-! the loops that book and cancel -/
theorem Ext.le {q0 q : List FareCar} {L : List (Nat × Nat)} (h : Ext q0 q L) {t : Nat} {c0 c : FareCar} (h0 : q0[t]? = some c0) (h1 : q[t]? = some c) : c0.bookings.length ≤ c.bookings.length := by
  have := congrArg List.length (h.old t c0 c h0 h1).1
  simp only [List.length_take] at this
  omega
theorem Ext.low {q0 q : List FareCar} {L : List (Nat × Nat)} (h : Ext q0 q L) {p : Nat × Nat} (hp : p ∈ L) {c : FareCar} (h1 : q[p.1]? = some c) (hl : c.bookings.length = c.cancelled.length) : p.2 < c.bookings.length := by
  obtain ⟨_, e, _, m2, _, m4⟩ := h.mem p hp
  rw [h1] at m2; injection m2 with m2; subst m2
  have := (List.getElem?_eq_some_iff.1 m4).1
  omega
def prs (l : List (GuideRide × Nat)) : List (Nat × Nat) := l.map fun p => (p.1.Train.toNat, p.2)
theorem CarT.book {r a : Int} {N S m : Nat} {c : FareCar} (h : CarT r a N S m c) (hm : m ≤ 100000) {f t s : Int} (hs : 0 ≤ f ∧ f < t ∧ t < (S : Int)) (h1 : 0 ≤ s ∧ s < (N : Int)) (h2 : ovs c.bookings c.cancelled s f t = false) (no : Int) :
    CarT r a N S (m + 1) ⟨r, a, (S : Int), c.bookings ++ [⟨no, f, t, [s]⟩], c.cancelled ++ [false]⟩ ∧ acts (c.bookings ++ [⟨no, f, t, [s]⟩]) (c.cancelled ++ [false]) = acts c.bookings c.cancelled ++ [⟨no, f, t, [s]⟩] := by
  have e : acts (c.bookings ++ [⟨no, f, t, [s]⟩]) (c.cancelled ++ [false]) = acts c.bookings c.cancelled ++ [⟨no, f, t, [s]⟩] := by
    rw [acts_app _ _ h.inv.len]; rfl
  refine ⟨⟨rfl, rfl, rfl, ⟨?_, ?_, fun b hb => ?_⟩, ?_, ?_⟩, e⟩
  · simp [h.inv.len]
  · have := h.few; simp; omega
  · rcases List.mem_append.1 hb with hb | hb
    · exact h.inv.ok b hb
    · simp at hb; subst hb; exact ⟨hs.1, hs.2.1, hs.2.2, by simp⟩
  · show One N (acts _ _)
    rw [e]; exact h.one.snoc h1 h2
  · have := h.few; simp; omega
theorem set_selfq {α : Type} {l : List α} {i : Nat} {x : α} (h : l[i]? = some x) : l.set i x = l := by
  apply List.ext_getElem?
  intro j
  rw [List.getElem?_set]
  by_cases hj : i = j
  · subst hj; rw [if_pos rfl, if_pos (List.getElem?_eq_some_iff.1 h).1]; exact h.symm
  · rw [if_neg hj]
structure Dim (r a : Int) (R N : Nat) : Prop where
  hr : r = (R : Int)
  hR : R ≤ 20
  ha : 1 ≤ a
  hn : (R : Int) * a = N
  hN : N ≤ 80
theorem ride_at {d : ApiDay} {r a : Int} {N m : Nat} {q : List FareCar} (hq : CS d r a N m q) {p : GuideRide} (hv : validR d p) (hlt : p.On < p.Off) :
    ∃ tr c, d.Trains[p.Train.toNat]? = some tr ∧ q[p.Train.toNat]? = some c ∧ gx q p.Train = some c ∧ CarT r a N tr.Stops.length m c ∧ (0 ≤ p.On ∧ p.On < p.Off ∧ p.Off < (tr.Stops.length : Int)) ∧ p.Train = (p.Train.toNat : Int) := by
  obtain ⟨tr, x, y, g1, g2, g3⟩ := hv
  obtain ⟨e1, e2, e3⟩ := gx_some g1
  have h2 := gx_lt g2
  have h3 := gx_lt g3
  have hl : p.Train.toNat < q.length := by rw [hq.1]; exact e2
  refine ⟨tr, q[p.Train.toNat], e3, List.getElem?_eq_getElem hl, ?_, hq.2 _ tr _ e3 (List.getElem?_eq_getElem hl), ⟨by omega, hlt, by omega⟩, e1⟩
  have g := gx_at hl
  rw [← e1] at g
  exact g
theorem book_loop {d : ApiDay} {r a : Int} {R N : Nat} (D : Dim r a R N) {fu : Nat} (hf : 100 ≤ fu) {q0 : List FareCar} : ∀ (l : List GuideRide) (acc : List Int) (q : List FareCar) (L : List (Nat × Nat)) (m : Nat), (∀ p ∈ l, validR d p ∧ p.On < p.Off) → CS d r a N m q → q0.length = q.length → Ext q0 q L → acc.length + l.length ≤ 1000 → m + l.length ≤ 100000 →
    ∃ (nos : List Nat) (q' : List FareCar), FishtopTopSeated.loop3 fu l acc q = some (acc ++ nos.map (fun (n : Nat) => (n : Int)), q') ∧ CS d r a N (m + l.length) q' ∧ Ext q0 q' (L ++ prs (l.zip nos)) ∧ nos.length ≤ l.length ∧
      ∀ (t : Nat) (c c' : FareCar), q[t]? = some c → q'[t]? = some c' → (acts c'.bookings c'.cancelled).map bsp = (acts c.bookings c.cancelled).map bsp ++ ((l.take nos.length).filter (onT t)).map rsp
  | [], acc, q, L, m, _, hq, _, hE, _, _ => by
    refine ⟨[], q, by simp [FishtopTopSeated.loop3], by simpa using hq, by simpa [prs] using hE, by simp, fun t c c' h1 h2 => ?_⟩
    rw [h1] at h2; injection h2 with h2; subst h2; simp
  | p :: l, acc, q, L, m, hv, hq, h0l, hE, ha, hm => by
    simp only [List.length_cons] at ha hm
    obtain ⟨tr, c, e1, e2, e3, hc, hs, ep⟩ := ride_at hq (hv p (by simp)).1 (hv p (by simp)).2
    have ht := (List.getElem?_eq_some_iff.1 e2).1
    obtain ⟨c0, e0⟩ : ∃ c0, q0[p.Train.toNat]? = some c0 := ⟨_, List.getElem?_eq_getElem (by rw [h0l]; exact ht)⟩
    have hinv := hc.inv
    have hcm := hc.few
    rw [FishtopTopSeated.loop3, e3, Option.bind_some]
    have hbk := book_one (r := r) (a := a) hinv D.hr D.hR D.ha D.hn D.hN hf hs (by omega)
    rw [← hc.eta] at hbk
    rcases hbk with hbk | ⟨s, s1, s2, hbk⟩
    · rw [hbk, Option.bind_some]
      simp only
      rw [if_pos (by decide), hc.rows, hc.across, hc.stops, ← hc.eta, set_selfq e2]
      refine ⟨[], q, by simp, ⟨hq.1, fun t u e hu he => (hq.2 t u e hu he).more (by omega)⟩, by simpa [prs] using hE, by simp, fun t c c' h1 h2 => ?_⟩
      rw [h1] at h2; injection h2 with h2; subst h2; simp
    · rw [hbk, Option.bind_some]
      simp only
      obtain ⟨k1, k2⟩ := hc.book (by omega) hs s1 s2 (c.bookings.length : Int)
      rw [if_neg (by decide), apd_lt (by simp; omega), Option.bind_some, hc.rows, hc.across, hc.stops]
      have hq1 := hq.set (n := m + 1) (by omega) e1 k1
      have hE1 := hE.book (r := r) (a := a) (S := (tr.Stops.length : Int)) e0 e2 hinv.len (hE.le e0 e2) ⟨(c.bookings.length : Int), p.On, p.Off, [s]⟩ (fun x hx hxt => hE.low hx (by rw [hxt]; exact e2) hinv.len)
      obtain ⟨nos, q', r1, r2, r3, r4, r5⟩ := book_loop D hf l (acc ++ [(c.bookings.length : Int)]) _ _ (m + 1) (fun x hx => hv x (by simp [hx])) hq1 (by rw [List.length_set]; exact h0l) hE1 (by simp; omega) (by omega)
      refine ⟨c.bookings.length :: nos, q', by rw [r1]; simp, ?_, ?_, by simp; omega, fun t e e' h1 h2 => ?_⟩
      · have : m + (p :: l).length = m + 1 + l.length := by simp only [List.length_cons]; omega
        rw [this]; exact r2
      · simpa [prs] using r3
      · by_cases k : p.Train.toNat = t
        · subst k
          rw [e2] at h1; injection h1 with h1; subst h1
          have := r5 p.Train.toNat _ e' (by rw [List.getElem?_set, if_pos rfl, if_pos ht]) h2
          rw [this]
          simp only
          rw [k2]
          have ho : onT p.Train.toNat p = true := by unfold onT; rw [← ep]; exact beq_self_eq_true _
          simp [ho, bsp, rsp]
        · have := r5 t e e' (by rw [List.getElem?_set, if_neg k]; exact h1) h2
          rw [this]
          have ho : onT t p = false := by
            unfold onT
            rw [beq_eq_false_iff_ne]
            intro w; apply k; omega
          simp [ho]
theorem cancel_v {r a : Int} {N S m : Nat} {c : FareCar} (h : CarT r a N S m c) (hm : m ≤ 100000) {i : Nat} (hi : c.cancelled[i]? = some false) : FareCarCancel_v1 (i : Int) c = some (0, c.cancelled.set i true) := by
  have hil := (List.getElem?_eq_some_iff.1 hi).1
  have hl := h.inv.len
  have := h.few
  unfold FareCarCancel_v1
  rw [w64_id (by omega), (withinq_iff _ _ _).2 (by omega), Bool.not_true, if_neg (by decide), gx_nat, hi, Option.bind_some, Option.bind_some, if_neg (by decide), ix_in (by omega) (by omega), Option.bind_some, sx_in (by omega) (by omega), Option.bind_some]
  simp
theorem acts_subl : ∀ {B : List FareBooking} {C : List Bool} (i : Nat), (acts B (C.set i true)).Sublist (acts B C)
  | [], C, i => by simp [acts]
  | _ :: _, [], i => by simp [acts]
  | b :: B, c :: C, 0 => by
    rw [List.set_cons_zero, acts, acts, if_pos rfl]
    split
    · exact List.Sublist.refl _
    · exact List.sublist_cons_self _ _
  | b :: B, c :: C, i + 1 => by
    rw [List.set_cons_succ, acts, acts]
    split
    · exact acts_subl i
    · exact (acts_subl i).cons_cons _
theorem CarT.cancel {r a : Int} {N S m : Nat} {c : FareCar} (h : CarT r a N S m c) (i : Nat) : CarT r a N S m ⟨r, a, (S : Int), c.bookings, c.cancelled.set i true⟩ :=
  ⟨rfl, rfl, rfl, ⟨by simp [h.inv.len], h.inv.many, h.inv.ok⟩, ⟨fun b hb => h.one.one b ((acts_subl i).subset hb), h.one.apart.sublist (acts_subl i)⟩, h.few⟩
theorem cancel_loop {d : ApiDay} {r a : Int} {N m : Nat} (hm : m ≤ 100000) {j : GuideJourney} (hv : ∀ p ∈ j.Rides, validR d p ∧ p.On < p.Off) {nos : List Nat} (hn : nos.length ≤ j.Rides.length) {q0 : List FareCar} : ∀ (n k : Nat) (q : List FareCar), k + n = nos.length → CS d r a N m q → Ext q0 q (prs ((j.Rides.zip nos).drop k)) →
    ∃ q', FishtopTopSeated.loop4 j (nos.map (fun (n : Nat) => (n : Int))) n k q = some (.next q') ∧ CS d r a N m q' ∧ Ext q0 q' []
  | 0, k, q, hk, hq, hE => by
    refine ⟨q, rfl, hq, ?_⟩
    rw [List.drop_eq_nil_of_le (by simp; omega)] at hE
    exact hE
  | n + 1, k, q, hk, hq, hE => by
    have hkn : k < nos.length := by omega
    have hkr : k < j.Rides.length := by omega
    have hz : k < (j.Rides.zip nos).length := by simp; omega
    rw [List.drop_eq_getElem_cons hz] at hE
    have hzz : (j.Rides.zip nos)[k] = (j.Rides[k], nos[k]) := by simp
    rw [hzz] at hE
    obtain ⟨tr, c, e1, e2, e3, hc, hs, ep⟩ := ride_at hq (hv _ (List.getElem_mem hkr)).1 (hv _ (List.getElem_mem hkr)).2
    obtain ⟨c0, e, m1, m2, m3, m4⟩ := hE.mem (j.Rides[k].Train.toNat, nos[k]) (by simp [prs])
    simp only at m2 m4
    rw [e2] at m2; injection m2 with m2; subst m2
    have g1 : gx (nos.map (fun (n : Nat) => (n : Int))) (k : Int) = some (nos[k] : Int) := by rw [gx_nat, List.getElem?_map, List.getElem?_eq_getElem hkn]; rfl
    have g2 : gx j.Rides (k : Int) = some j.Rides[k] := gx_at hkr
    rw [FishtopTopSeated.loop4, g1, Option.bind_some, g2, Option.bind_some, e3, Option.bind_some, cancel_v hc hm m4, Option.bind_some]
    simp only
    rw [if_neg (by decide), hc.rows, hc.across, hc.stops]
    exact cancel_loop hm hv hn n (k + 1) _ (by omega) (hq.set (Nat.le_refl _) e1 (hc.cancel nos[k])) (Ext.cancel (by simpa [prs] using hE) e2)
/-! who rides each leg -/
def hit (t k : Nat) (r : GuideRide) : Bool := r.Train == (t : Int) && (decide (r.On ≤ (k : Int)) && decide ((k : Int) < r.Off))
def cnt (t k : Nat) (l : List GuideJourney) : Nat := ((l.flatMap (·.Rides)).filter (hit t k)).length
def vl (rows : List (List Int)) (t k : Nat) : Int := (((rows[t]?).getD [])[k]?).getD 0
def Sh (d : ApiDay) (rows : List (List Int)) : Prop := rows.length = d.Trains.length ∧ ∀ (t : Nat) (tr : ApiTrain) (row : List Int), d.Trains[t]? = some tr → rows[t]? = some row → row.length + 1 = tr.Stops.length
theorem vl_set {rows : List (List Int)} {row : List Int} {T K : Nat} {x : Int} (hT : T < rows.length) (hr : rows[T]? = some row) (hK : K < row.length) (t k : Nat) : vl (rows.set T (row.set K x)) t k = if t = T ∧ k = K then x else vl rows t k := by
  unfold vl
  by_cases c : t = T
  · subst c
    rw [List.getElem?_set, if_pos rfl, if_pos hT, hr]
    simp only [Option.getD_some, true_and]
    by_cases c2 : k = K
    · subst c2; simp [hK]
    · rw [if_neg c2, List.getElem?_set, if_neg (Ne.symm c2)]
  · rw [List.getElem?_set, if_neg (Ne.symm c), if_neg (fun h => c h.1)]
theorem add5 {d : ApiDay} {r : GuideRide} (hv : validR d r) (hB : r.Off ≤ 1000) : ∀ (fu : Nat) (q : Int) (rows : List (List Int)), 0 ≤ q → (r.Off - q).toNat < fu → Sh d rows → (∀ k : Nat, q ≤ (k : Int) → 0 ≤ vl rows r.Train.toNat k ∧ vl rows r.Train.toNat k ≤ 1000000) →
    ∃ q' rows', GuideCrowd_v1.loop5 r fu q rows = some (q', rows') ∧ Sh d rows' ∧ ∀ t k, vl rows' t k = vl rows t k + (if r.Train = (t : Int) ∧ q ≤ (k : Int) ∧ (k : Int) < r.Off then 1 else 0)
  | 0, _, _, _, h, _, _ => absurd h (Nat.not_lt_zero _)
  | fu + 1, q, rows, h0, h, hs, hb => by
    rw [GuideCrowd_v1.loop5]
    obtain ⟨tr, a, b, g1, g2, g3⟩ := hv
    by_cases c : q < r.Off
    · rw [if_pos (by simpa using c)]
      obtain ⟨e1, e2, e3⟩ := gx_some g1
      obtain ⟨f1, f2, f3⟩ := gx_some g3
      have hl : r.Train.toNat < rows.length := by rw [hs.1]; exact e2
      have hr : rows[r.Train.toNat]? = some (rows[r.Train.toNat]) := List.getElem?_eq_getElem hl
      generalize rows[r.Train.toNat] = row at hr
      have hlen := hs.2 _ _ _ e3 hr
      have g4 : gx rows r.Train = some row := by rw [e1, gx_nat]; simpa using hr
      have hq : q.toNat < row.length := by omega
      have eq : q = ((q.toNat : Nat) : Int) := by omega
      have g5 : gx row q = some row[q.toNat] := by have := gx_at hq; rwa [← eq] at this
      have hvl : vl rows r.Train.toNat q.toNat = row[q.toNat] := by unfold vl; rw [hr, Option.getD_some, List.getElem?_eq_getElem hq, Option.getD_some]
      have hb1 := hb q.toNat (by omega)
      rw [hvl] at hb1
      rw [g4, Option.bind_some, g5, Option.bind_some, ix_in h0 (by omega), Option.bind_some, sx_in h0 (by omega), Option.bind_some, w64_id (by omega), w64_id (by omega)]
      have hset := vl_set (x := row[q.toNat] + 1) hl hr hq
      have hs2 : Sh d (rows.set r.Train.toNat (row.set q.toNat (row[q.toNat] + 1))) := by
        refine ⟨by rw [List.length_set]; exact hs.1, fun t u w hu hw => ?_⟩
        rw [List.getElem?_set] at hw
        split at hw
        · rename_i c2
          subst c2
          injection hw with hw
          subst hw
          rw [List.length_set]
          rw [e3] at hu
          injection hu with hu
          subst hu
          exact hlen
        · exact hs.2 t u w hu hw
      obtain ⟨q', rows', k1, k2, k3⟩ := add5 ⟨tr, a, b, g1, g2, g3⟩ hB fu (q + 1) _ (by omega) (by omega) hs2 (fun k hk => by
        rw [hset, if_neg (by omega)]
        exact hb k (by omega))
      refine ⟨q', rows', k1, k2, fun t k => ?_⟩
      rw [k3, hset]
      by_cases c2 : t = r.Train.toNat ∧ k = q.toNat
      · obtain ⟨rfl, rfl⟩ := c2
        rw [if_pos ⟨rfl, rfl⟩, if_neg (by omega), if_pos (by omega), hvl]; omega
      · rw [if_neg c2]
        by_cases c3 : r.Train = (t : Int) ∧ q + 1 ≤ (k : Int) ∧ (k : Int) < r.Off
        · rw [if_pos c3, if_pos (by omega)]
        · rw [if_neg c3, if_neg (by omega)]
    · rw [if_neg (by simpa using c)]
      refine ⟨q, rows, rfl, hs, fun t k => ?_⟩
      rw [if_neg (by omega)]; omega
theorem hit_iff (t k : Nat) (r : GuideRide) : hit t k r = true ↔ r.Train = (t : Int) ∧ r.On ≤ (k : Int) ∧ (k : Int) < r.Off := by
  unfold hit; simp
theorem hit_if (t k : Nat) (r : GuideRide) : (if r.Train = (t : Int) ∧ r.On ≤ (k : Int) ∧ (k : Int) < r.Off then (1 : Int) else 0) = if hit t k r then 1 else 0 := by
  by_cases h : hit t k r = true
  · rw [if_pos h, if_pos ((hit_iff t k r).1 h)]
  · rw [if_neg h, if_neg (fun c => h ((hit_iff t k r).2 c))]
theorem add4 {d : ApiDay} (hd : DayOk d) {fu : Nat} (hf : 60 ≤ fu) : ∀ (l : List GuideRide) (rows : List (List Int)), (∀ p ∈ l, validR d p ∧ p.On < p.Off) → Sh d rows → (∀ t k, 0 ≤ vl rows t k ∧ vl rows t k + l.length ≤ 1000000) →
    ∃ rows', GuideCrowd_v1.loop4 fu l rows = some rows' ∧ Sh d rows' ∧ ∀ t k, vl rows' t k = vl rows t k + ((l.filter (hit t k)).length : Int)
  | [], rows, _, hs, _ => ⟨rows, rfl, hs, fun t k => by simp⟩
  | p :: l, rows, hv, hs, hb => by
    obtain ⟨v1, v2⟩ := hv p (List.mem_cons_self ..)
    have v0 := v1
    obtain ⟨tr, a, b, g1, g2, g3⟩ := v0
    have hst := (hd.form.2.2.1 tr (gx_mem g1)).2.1
    have h1 := gx_lt g2
    have h2 := gx_lt g3
    simp only [List.length_cons] at hb
    obtain ⟨q', r1, k1, k2, k3⟩ := add5 v1 (by omega) fu p.On rows h1.1 (by omega) hs (fun k _ => by have := hb p.Train.toNat k; omega)
    obtain ⟨r2, m1, m2, m3⟩ := add4 hd hf l r1 (fun p h => hv p (List.mem_cons_of_mem _ h)) k2 (fun t k => by
      rw [k3]; have := hb t k; split <;> omega)
    refine ⟨r2, by rw [GuideCrowd_v1.loop4, k1]; exact m1, m2, fun t k => ?_⟩
    rw [m3, k3, hit_if]
    cases h : hit t k p <;> simp [h] <;> omega
theorem add3 {d : ApiDay} (hd : DayOk d) {fu : Nat} (hf : 60 ≤ fu) (l : List GuideJourney) (hv : ∀ j ∈ l, j.Rides.length ≤ 4 ∧ ∀ p ∈ j.Rides, validR d p ∧ p.On < p.Off) : ∀ (n k : Nat) (rows : List (List Int)), k + n = l.length → Sh d rows → (∀ t k, 0 ≤ vl rows t k ∧ vl rows t k + 4 * n ≤ 1000000) →
    ∃ rows', GuideCrowd_v1.loop3 l fu n k rows = some rows' ∧ Sh d rows' ∧ ∀ t i, vl rows' t i = vl rows t i + (cnt t i (l.drop k) : Int)
  | 0, k, rows, hk, hs, _ => ⟨rows, rfl, hs, fun t i => by rw [List.drop_eq_nil_of_le (by omega)]; simp [cnt]⟩
  | n + 1, k, rows, hk, hs, hb => by
    have hkl : k < l.length := by omega
    obtain ⟨v0, v1⟩ := hv _ (List.getElem_mem hkl)
    obtain ⟨r1, k1, k2, k3⟩ := add4 hd hf l[k].Rides rows v1 hs (fun t k => by have := hb t k; omega)
    obtain ⟨r2, m1, m2, m3⟩ := add3 hd hf l hv n (k + 1) r1 (by omega) k2 (fun t i => by
      rw [k3]
      have := hb t i
      have := List.length_filter_le (hit t i) l[k].Rides
      omega)
    refine ⟨r2, by rw [GuideCrowd_v1.loop3, gx_at hkl, Option.bind_some, k1]; exact m1, m2, fun t i => ?_⟩
    rw [m3, k3, List.drop_eq_getElem_cons hkl]
    simp only [cnt, List.flatMap_cons, List.filter_append, List.length_append]
    omega
theorem fine1 {d : ApiDay} (l : List GuideJourney) (hv : ∀ j ∈ l, GuideNetjourney ⟨d, 0⟩ j false = some 0) : ∀ n k, k + n = l.length → GuideCrowd_v1.loop1 d l n k = some (.next ())
  | 0, _, _ => rfl
  | n + 1, k, hk => by
    have hkl : k < l.length := by omega
    rw [GuideCrowd_v1.loop1, gx_at hkl, Option.bind_some, hv _ (List.getElem_mem hkl), Option.bind_some, bne_self_eq_false, if_neg (by decide)]
    exact fine1 l hv n (k + 1) (by omega)
theorem zero2 : ∀ (l : List ApiTrain) (q : List (List Int)), (∀ t ∈ l, trainForm t) → q.length + l.length < 4294967296 → GuideCrowd_v1.loop2 l q = some (q ++ l.map fun t => List.replicate (t.Stops.length - 1) 0)
  | [], q, _, _ => by simp [GuideCrowd_v1.loop2]
  | t :: r, q, ht, h => by
    simp only [List.length_cons] at h
    obtain ⟨t1, t2, t3, t4⟩ := ht t (List.mem_cons_self ..)
    have e : w64 (((t.Stops.length : Nat) : Int) - 1) = ((t.Stops.length - 1 : Nat) : Int) := by rw [w64_id (by omega)]; omega
    rw [GuideCrowd_v1.loop2, e, mks_in (by omega), Option.bind_some, apd_lt (by simp; omega), Option.bind_some, zero2 r _ (fun t h => ht t (List.mem_cons_of_mem _ h)) (by simp; omega)]
    simp
theorem vl_zero (l : List ApiTrain) (t k : Nat) : vl (l.map fun t => List.replicate (t.Stops.length - 1) 0) t k = 0 := by
  unfold vl
  rw [List.getElem?_map]
  cases l[t]? with
  | none => simp
  | some u => simp only [Option.map_some, Option.getD_some, List.getElem?_replicate]; split <;> rfl
theorem sh_zero {d : ApiDay} (hf : ∀ t ∈ d.Trains, trainForm t) : Sh d (d.Trains.map fun t => List.replicate (t.Stops.length - 1) 0) := by
  refine ⟨by simp, fun t u w hu hw => ?_⟩
  rw [List.getElem?_map, hu] at hw
  injection hw with hw
  subst hw
  have := (hf u (List.mem_of_getElem? hu)).1
  simp; omega
theorem crowd_v {d : ApiDay} (hd : DayOk d) (hc : GuideCheck d = some 0) {fu : Nat} (hf : 60 ≤ fu) (l : List GuideJourney) (hl : l.length ≤ 100) (hv : ∀ j ∈ l, j.Rides.length ≤ 4 ∧ (∀ p ∈ j.Rides, validR d p ∧ p.On < p.Off) ∧ GuideNetjourney ⟨d, 0⟩ j false = some 0) :
    ∃ rows, GuideCrowd_v1 fu d l = some (rows, 0) ∧ Sh d rows ∧ ∀ t k, vl rows t k = (cnt t k l : Int) := by
  have hform := hd.form
  obtain ⟨rows, m1, m2, m3⟩ := add3 hd hf l (fun j h => ⟨(hv j h).1, (hv j h).2.1⟩) l.length 0 _ (by omega) (sh_zero hform.2.2.1) (fun t k => by rw [vl_zero]; omega)
  refine ⟨rows, ?_, m2, fun t k => by rw [m3, vl_zero, List.drop_zero]; omega⟩
  rw [GuideCrowd_v1, hc, Option.bind_some, bne_self_eq_false, if_neg (by decide), decide_eq_false (by omega), if_neg (by decide), fine1 l (fun j h => (hv j h).2.2) l.length 0 (by omega), Option.bind_some]
  simp only
  rw [zero2 _ _ hform.2.2.1 (by have := hform.1; simp; omega), Option.bind_some, List.nil_append, m1]
  rfl
/-! all journeys -/
def SoldP (q : List FareCar) (sold : List GuideJourney) : Prop := ∀ (t : Nat) (c : FareCar), q[t]? = some c → (acts c.bookings c.cancelled).map bsp = ((sold.flatMap (·.Rides)).filter (onT t)).map rsp
def okJ (d : ApiDay) (j : GuideJourney) : Prop := j.Rides.length ≤ 4 ∧ (∀ p ∈ j.Rides, validR d p ∧ p.On < p.Off) ∧ GuideNetjourney ⟨d, 0⟩ j false = some 0
theorem CS.more {d : ApiDay} {r a : Int} {N m n : Nat} {q : List FareCar} (h : CS d r a N m q) (hm : m ≤ n) : CS d r a N n q := ⟨h.1, fun t u e hu he => (h.2 t u e hu he).more hm⟩
theorem CS.lens {d : ApiDay} {r a : Int} {N m : Nat} {q : List FareCar} (h : CS d r a N m q) {t : Nat} {c : FareCar} (hc : q[t]? = some c) : c.bookings.length = c.cancelled.length := by
  have ht := (List.getElem?_eq_some_iff.1 hc).1
  have h2 : t < d.Trains.length := by rw [← h.1]; exact ht
  exact (h.2 t _ c (List.getElem?_eq_getElem h2) hc).inv.len
theorem sell_loop {d : ApiDay} (hd : DayOk d) {r a : Int} {R N : Nat} (D : Dim r a R N) {fu : Nat} (hf : 100 ≤ fu) (x4 : List Int) : ∀ (l : List GuideJourney) (k : Nat) (sold : List GuideJourney) (q : List FareCar), k + l.length ≤ 100 → sold.length ≤ k → CS d r a N (4 * k) q → SoldP q sold → (∀ j ∈ sold, okJ d j) →
    ∃ sold' q', FishtopTopSeated.loop2 d x4 fu l k sold q = some (.next (sold', q')) ∧ CS d r a N 400 q' ∧ SoldP q' sold' ∧ (∀ j ∈ sold', okJ d j) ∧ sold'.length ≤ 100
  | [], k, sold, q, hk, hs, hq, hp, hv => ⟨sold, q, rfl, hq.more (by simp at hk; omega), hp, hv, by simp at hk; omega⟩
  | j :: l, k, sold, q, hk, hs, hq, hp, hv => by
    simp only [List.length_cons] at hk
    obtain ⟨e, h1, h2, h3⟩ := journey_ok hd j 0 false (by omega)
    rw [FishtopTopSeated.loop2, h2, Option.bind_some]
    by_cases ce : e = 0
    · subst ce
      obtain ⟨j0, j1, j2⟩ := h3 rfl
      rw [bne_self_eq_false, if_neg (by decide)]
      have hE0 : Ext q q [] := Ext.refl (fun c hc => by
        obtain ⟨i, hi⟩ := List.getElem?_of_mem hc
        exact hq.lens hi)
      obtain ⟨nos, q', b1, b2, b3, b4, b5⟩ := book_loop D hf j.Rides [] q [] (4 * k) j2 hq rfl hE0 (by simp; omega) (by omega)
      rw [List.nil_append] at b1 b3
      rw [b1, Option.bind_some]
      simp only
      rw [bnd_eq]
      have hlen : ((((nos.map (fun (n : Nat) => (n : Int))).length : Nat) : Int) == ((j.Rides.length : Nat) : Int)) = decide (nos.length = j.Rides.length) := by
        rw [List.length_map]
        by_cases c : nos.length = j.Rides.length
        · rw [c, decide_eq_true rfl]; exact beq_self_eq_true _
        · rw [decide_eq_false c, beq_eq_false_iff_ne]; omega
      rw [hlen]
      cases hc : (if decide (nos.length = j.Rides.length) = true then !(SlicesContainsLint x4 ((k : Nat) : Int)) else false) with
      | true =>
        have hall : nos.length = j.Rides.length := by
          by_cases c : nos.length = j.Rides.length
          · exact c
          · rw [decide_eq_false c] at hc; simp at hc
        rw [if_pos rfl, apd_lt (by simp; omega), Option.bind_some]
        refine sell_loop hd D hf x4 l (k + 1) (sold ++ [j]) q' (by omega) (by simp; omega) (b2.more (by omega)) (fun t c' hc' => ?_) (fun i hi => ?_)
        · have ht : t < q.length := by rw [hq.1, ← b2.1]; exact (List.getElem?_eq_some_iff.1 hc').1
          rw [b5 t q[t] c' (List.getElem?_eq_getElem ht) hc', hp t _ (List.getElem?_eq_getElem ht), hall, List.take_length]
          simp
        · rcases List.mem_append.1 hi with hi | hi
          · exact hv i hi
          · simp at hi; subst hi; exact ⟨j1, j2, h1⟩
      | false =>
        rw [if_neg (by decide)]
        obtain ⟨q2, c1, c2, c3⟩ := cancel_loop (by omega) j2 b4 nos.length 0 q' (by omega) b2 (by simpa using b3)
        rw [List.length_map, c1, Option.bind_some]
        simp only
        refine sell_loop hd D hf x4 l (k + 1) sold q2 (by omega) (by omega) (c2.more (by omega)) (fun t c' hc' => ?_) hv
        have ht : t < q.length := by rw [hq.1, ← c2.1]; exact (List.getElem?_eq_some_iff.1 hc').1
        rw [c3.done (List.getElem?_eq_getElem ht) hc' (hq.lens (List.getElem?_eq_getElem ht)) (c2.lens hc')]
        exact hp t _ (List.getElem?_eq_getElem ht)
    · rw [if_pos (by simpa using ce)]
      exact sell_loop hd D hf x4 l (k + 1) sold q (by omega) (by omega) (hq.more (by omega)) hp hv
def newCar (r a : Int) (t : ApiTrain) : FareCar := ⟨r, a, (t.Stops.length : Int), [], []⟩
theorem new_in {r a S : Int} (h : (1 ≤ r ∧ r ≤ 20) ∧ (1 ≤ a ∧ a ≤ 4) ∧ (2 ≤ S ∧ S ≤ 12)) : FareNewCar r a S = (some (r, a, S, [], []), 0) := by
  unfold FareNewCar
  rw [(withinq_iff r 1 20).2 h.1, (withinq_iff a 1 4).2 h.2.1, (withinq_iff S 2 12).2 h.2.2]
  rfl
theorem new_out {r a S : Int} (h : ¬ ((1 ≤ r ∧ r ≤ 20) ∧ (1 ≤ a ∧ a ≤ 4))) : FareNewCar r a S = (none, 2) := by
  unfold FareNewCar
  have h1 : Farewithin r 1 20 = false ∨ Farewithin a 1 4 = false := by
    cases k1 : Farewithin r 1 20 with
    | false => exact .inl rfl
    | true =>
      cases k2 : Farewithin a 1 4 with
      | false => exact .inr rfl
      | true => exact absurd ⟨(withinq_iff _ _ _).1 k1, (withinq_iff _ _ _).1 k2⟩ h
  rcases h1 with h1 | h1
  · rw [h1]; rfl
  · rw [h1]; cases Farewithin r 1 20 <;> rfl
theorem new_loop {r a : Int} (h : (1 ≤ r ∧ r ≤ 20) ∧ (1 ≤ a ∧ a ≤ 4)) : ∀ (l : List ApiTrain) (q : List FareCar), (∀ t ∈ l, 2 ≤ t.Stops.length ∧ t.Stops.length ≤ 8) → q.length + l.length ≤ 1000 → FishtopTopSeated.loop1 r a l q = some (.next (q ++ l.map (newCar r a)))
  | [], q, _, _ => by simp [FishtopTopSeated.loop1]
  | t :: l, q, ht, hq => by
    simp only [List.length_cons] at hq
    have h1 := ht t (by simp)
    rw [FishtopTopSeated.loop1, new_in ⟨h.1, h.2, by omega, by omega⟩, bnd_eq]
    simp only
    rw [bne_self_eq_false, if_neg (by decide), apd_lt (by simp; omega), Option.bind_some, new_loop h l _ (fun x hx => ht x (by simp [hx])) (by simp; omega)]
    simp [newCar]
theorem new_cs {d : ApiDay} (r a : Int) (N : Nat) : CS d r a N 0 (d.Trains.map (newCar r a)) := by
  refine ⟨by simp, fun t tr c ht hc => ?_⟩
  rw [List.getElem?_map, ht] at hc
  injection hc with hc
  subst hc
  exact ⟨rfl, rfl, rfl, ⟨rfl, by simp [newCar], fun b hb => by simp [newCar] at hb⟩, ⟨fun b hb => by simp [newCar, acts] at hb, by simp [newCar, acts]⟩, by simp [newCar]⟩
theorem new_sp {d : ApiDay} (r a : Int) : SoldP (d.Trains.map (newCar r a)) [] := by
  intro t c hc
  rw [List.getElem?_map] at hc
  cases h : d.Trains[t]? with
  | none => rw [h] at hc; cases hc
  | some u => rw [h] at hc; injection hc with hc; subst hc; simp [newCar, acts]
/-! what is taken and what is free, stop by stop -/
def cov (k : Nat) (b : FareBooking) : Bool := if decide (b.From ≤ (k : Int)) then decide ((k : Int) < b.To) else false
def tak (L : List FareBooking) (k : Nat) : List Int := (L.filter (cov k)).flatMap (·.Seats)
theorem cov_iff (k : Nat) (b : FareBooking) : cov k b = true ↔ b.From ≤ (k : Int) ∧ (k : Int) < b.To := by unfold cov; simp
theorem tak_loop {N : Nat} {L : List FareBooking} (h : One N L) (hl : L.length ≤ 1000) (k : Nat) : ∀ (n i : Nat) (q : List Int), i + n = L.length → q.length ≤ i → FishtopTopSeated.loop7 k L n i q = some (q ++ tak (L.drop i) k)
  | 0, i, q, hi, _ => by rw [List.drop_eq_nil_of_le (by omega)]; simp [tak, FishtopTopSeated.loop7]
  | n + 1, i, q, hi, hq => by
    have hil : i < L.length := by omega
    obtain ⟨s, hs, _⟩ := h.one _ (List.getElem_mem hil)
    have e : (if decide (L[i].From ≤ (k : Int)) then decide ((k : Int) < L[i].To) else false) = cov k L[i] := rfl
    rw [FishtopTopSeated.loop7, gx_at hil, Option.bind_some, bnd_eq, List.drop_eq_getElem_cons hil, e]
    cases hc : cov k L[i] with
    | true =>
      rw [if_pos rfl, hs, apd_lt (by simp; omega), Option.bind_some, Option.bind_some, tak_loop h hl k n (i + 1) _ (by omega) (by simp; omega)]
      unfold tak
      rw [List.filter_cons_of_pos hc, List.flatMap_cons, hs]
      simp
    | false =>
      rw [if_neg (by decide), Option.bind_some, tak_loop h hl k n (i + 1) q (by omega) (by omega)]
      unfold tak
      rw [List.filter_cons_of_neg (by simp [hc])]
theorem seats_len : ∀ {L : List FareBooking}, (∀ b ∈ L, ∃ s : Int, b.Seats = [s]) → (L.flatMap (·.Seats)).length = L.length
  | [], _ => rfl
  | b :: L, h => by
    obtain ⟨s, hs⟩ := h b (by simp)
    rw [List.flatMap_cons, hs, List.length_append, seats_len (fun b hb => h b (by simp [hb]))]
    simp; omega
theorem seats_nd : ∀ {L : List FareBooking}, (∀ b ∈ L, ∃ s : Int, b.Seats = [s]) → L.Pairwise (fun x y => x.Seats ≠ y.Seats) → (L.flatMap (·.Seats)).Nodup
  | [], _, _ => List.nodup_nil
  | b :: L, h, hp => by
    obtain ⟨s, hs⟩ := h b (by simp)
    obtain ⟨p1, p2⟩ := List.pairwise_cons.1 hp
    rw [List.flatMap_cons, hs]
    show (s :: L.flatMap (·.Seats)).Nodup
    refine List.nodup_cons.2 ⟨fun hm => ?_, seats_nd (fun b hb => h b (by simp [hb])) p2⟩
    obtain ⟨x, hx, hm⟩ := List.mem_flatMap.1 hm
    obtain ⟨u, hu⟩ := h x (by simp [hx])
    rw [hu] at hm
    simp at hm
    exact p1 x hx (by rw [hs, hu, hm])
theorem tak_ones {N : Nat} {L : List FareBooking} (h : One N L) (k : Nat) : ∀ b ∈ L.filter (cov k), ∃ s : Int, b.Seats = [s] := fun b hb => by
  obtain ⟨s, hs, _⟩ := h.one b (List.mem_filter.1 hb).1
  exact ⟨s, hs⟩
theorem tak_len {N : Nat} {L : List FareBooking} (h : One N L) (k : Nat) : (tak L k).length = (L.filter (cov k)).length := seats_len (tak_ones h k)
theorem tak_nd {N : Nat} {L : List FareBooking} (h : One N L) (k : Nat) : (tak L k).Nodup := by
  refine seats_nd (tak_ones h k) ?_
  refine List.Pairwise.imp_of_mem ?_ (h.apart.filter _)
  intro x y hx hy hxy
  have h1 := (cov_iff k x).1 (List.mem_filter.1 hx).2
  have h2 := (cov_iff k y).1 (List.mem_filter.1 hy).2
  exact hxy ((ovl_iff _ _ _).2 ⟨by omega, by omega⟩)
theorem ovs_tak {B : List FareBooking} {C : List Bool} (s : Int) (k : Nat) : ovs B C s (k : Int) ((k + 1 : Nat) : Int) = true ↔ s ∈ tak (acts B C) k := by
  unfold ovs tak
  rw [List.any_eq_true, List.mem_flatMap]
  constructor
  · rintro ⟨b, h1, h2⟩
    obtain ⟨h3, h4⟩ := List.mem_filter.1 h1
    have h5 := (ovl_iff _ _ _).1 h2
    exact ⟨b, List.mem_filter.2 ⟨h3, (cov_iff k b).2 ⟨by omega, h5.2⟩⟩, by unfold hasS at h4; simpa using h4⟩
  · rintro ⟨b, h1, h2⟩
    obtain ⟨h3, h4⟩ := List.mem_filter.1 h1
    have h5 := (cov_iff k b).1 h4
    exact ⟨b, List.mem_filter.2 ⟨h3, by unfold hasS; simpa using h2⟩, (ovl_iff _ _ _).2 ⟨by omega, h5.2⟩⟩
theorem tak_free {N : Nat} {B : List FareBooking} {C : List Bool} (h : One N (acts B C)) (k : Nat) : (tak (acts B C) k).length + (frs B C 0 N (k : Int) ((k + 1 : Nat) : Int)).length = N := by
  have e : (tak (acts B C) k).length = ((sts 0 N).filter (fun s => ovs B C s (k : Int) ((k + 1 : Nat) : Int))).length := by
    refine List.Perm.length_eq ((List.perm_ext_iff_of_nodup (tak_nd h k) (((sts_lt 0 N).imp (fun {a b} (hab : a < b) => (by omega : a ≠ b))).filter _)).2 fun s => ?_)
    rw [List.mem_filter, ovs_tak, sts_mem]
    refine ⟨fun hs => ⟨?_, hs⟩, fun hs => hs.2⟩
    obtain ⟨b, h1, h2⟩ := List.mem_flatMap.1 hs
    obtain ⟨u, hu, h3, h4⟩ := h.one b (List.mem_filter.1 h1).1
    rw [hu] at h2
    simp at h2
    omega
  unfold frs
  rw [e, ← List.countP_eq_length_filter, ← List.countP_eq_length_filter]
  have := List.length_eq_countP_add_countP (l := sts 0 N) (fun s => ovs B C s (k : Int) ((k + 1 : Nat) : Int))
  rw [sts_len] at this
  have e2 : (fun s => !ovs B C s (k : Int) ((k + 1 : Nat) : Int)) = (fun s => decide (¬ (ovs B C s (k : Int) ((k + 1 : Nat) : Int) = true))) := by
    funext s
    cases ovs B C s (k : Int) ((k + 1 : Nat) : Int) <;> rfl
  rw [e2]
  exact this.symm
theorem compact_nd {l : List Int} (h : l.Nodup) : Lib.compact l = l := by
  refine Lib.compact_all l fun j hj => ?_
  unfold Lib.keeps
  refine decide_eq_true ?_
  rcases Nat.eq_zero_or_pos j with h0 | h0
  · exact .inl h0
  · refine .inr fun e => ?_
    have hj1 : j - 1 < l.length := by omega
    simp only [List.getElem!_toArray, getElem!_pos, hj, hj1] at e
    exact List.pairwise_iff_getElem.1 h (j - 1) j hj1 hj (by omega) e.symm
def cv (k : Nat) (p : Int × Int) : Bool := decide (p.1 ≤ (k : Int)) && decide ((k : Int) < p.2)
theorem cov_cnt {c : FareCar} {t k : Nat} {sold : List GuideJourney} (h : (acts c.bookings c.cancelled).map bsp = ((sold.flatMap (·.Rides)).filter (onT t)).map rsp) : ((acts c.bookings c.cancelled).filter (cov k)).length = cnt t k sold := by
  have e1 : cov k = cv k ∘ bsp := by
    funext b
    show (if decide (b.From ≤ (k : Int)) then decide ((k : Int) < b.To) else false) = (decide (b.From ≤ (k : Int)) && decide ((k : Int) < b.To))
    cases decide (b.From ≤ (k : Int)) <;> rfl
  rw [← List.countP_eq_length_filter, e1, ← List.countP_map, h, List.countP_map, List.countP_filter]
  unfold cnt
  rw [← List.countP_eq_length_filter]
  congr 1
  funext r
  unfold hit cv rsp onT Function.comp
  rw [Bool.and_comm]
theorem legs_loop {r a : Int} {R N S : Nat} (D : Dim r a R N) {fu : Nat} (hf : 100 ≤ fu) {c : FareCar} (h : CarT r a N S 400 c) {q : List (List Int) × Int} {t : Nat} {row : List Int} (hq : q.1[t]? = some row) (hrow : row.length + 1 = S) (hv : ∀ (k : Nat) (hk : k < row.length), row[k] = (((acts c.bookings c.cancelled).filter (cov k)).length : Int)) :
    ∀ (legs : List (List Int)) (k : Nat), k + legs.length + 1 = S → FishtopTopSeated.loop6 r a fu q t c legs k = some (.next ())
  | [], _, _ => rfl
  | g :: legs, k, hk => by
    simp only [List.length_cons] at hk
    have hkr : k < row.length := by omega
    have hN : r * a = (N : Int) := by rw [D.hr]; exact D.hn
    have hN2 := D.hN
    have e1 : FareCarBookings_v1 c = some (acts c.bookings c.cancelled) := by rw [h.eta]; exact books_eq h.inv
    have e2 : FareCarFree_v1 fu (k : Int) ((k + 1 : Nat) : Int) c = some (frs c.bookings c.cancelled 0 N (k : Int) ((k + 1 : Nat) : Int), 0) := by
      have : FareCarFree_v1 fu (k : Int) ((k + 1 : Nat) : Int) ⟨r, a, (S : Int), c.bookings, c.cancelled⟩ = some (frs c.bookings c.cancelled 0 N (k : Int) ((k + 1 : Nat) : Int), 0) := by
        unfold FareCarFree_v1
        simp only
        rw [span_of (by omega), free_v h.inv hN D.hN hf]
        rfl
      rw [h.eta]; exact this
    have hal : (acts c.bookings c.cancelled).length ≤ 1000 := by have := acts_len c.bookings c.cancelled; have := h.few; omega
    have e3 := tak_loop h.one hal k (acts c.bookings c.cancelled).length 0 [] (by omega) (by simp)
    rw [List.drop_zero, List.nil_append] at e3
    have tl := tak_len h.one k
    have tf := tak_free h.one k
    have tn := tak_nd h.one k
    have hlf := List.length_filter_le (cov k) (acts c.bookings c.cancelled)
    generalize tak (acts c.bookings c.cancelled) k = T at e3 tl tf tn
    have e4 : srt T = some (isort T) := by unfold srt; rw [if_pos (by omega)]
    have hp : (isort T).Perm T := List.mergeSort_perm T _
    have e5 := compact_nd (hp.nodup_iff.2 tn)
    have g1 : gx q.1 ((t : Nat) : Int) = some row := by rw [gx_nat]; exact hq
    rw [FishtopTopSeated.loop6, e1, Option.bind_some, e3, Option.bind_some, e2, Option.bind_some, e4, Option.bind_some]
    simp only
    rw [bne_self_eq_false, if_neg (by decide), clone_eq (by rw [isort_length]; omega), Option.bind_some, bnd_eq, e5, isort_length, bne_self_eq_false, if_neg (by decide), g1, Option.bind_some, gx_at hkr, Option.bind_some, hv k hkr, tl, bne_self_eq_false, if_neg (by decide), hN, w64_id (by omega), w64_id (by omega)]
    rw [show (((((acts c.bookings c.cancelled).filter (cov k)).length : Nat) : Int) + ((frs c.bookings c.cancelled 0 N (k : Int) ((k + 1 : Nat) : Int)).length : Nat)) = (N : Int) by omega, bne_self_eq_false, Option.bind_some, if_neg (by decide)]
    exact legs_loop D hf h hq hrow hv legs (k + 1) (by omega)
theorem cars_loop {d : ApiDay} (hd : DayOk d) {r a : Int} {R N : Nat} (D : Dim r a R N) {fu : Nat} (hf : 100 ≤ fu) {cars : List FareCar} (hc : CS d r a N 400 cars) {sold : List GuideJourney} (hp : SoldP cars sold) {q : List (List Int) × Int} (hs : Sh d q.1) (hv : ∀ t k, vl q.1 t k = (cnt t k sold : Int)) : ∀ (n t : Nat), t + n = d.Trains.length → FishtopTopSeated.loop5 d r a fu cars q n t = some (.next ())
  | 0, _, _ => rfl
  | n + 1, t, ht => by
    have htl : t < d.Trains.length := by omega
    have htc : t < cars.length := by rw [hc.1]; exact htl
    have htr : t < q.1.length := by rw [hs.1]; exact htl
    have hform := hd.form.2.2.1 _ (List.getElem_mem htl)
    have hrow := hs.2 t _ _ (List.getElem?_eq_getElem htl) (List.getElem?_eq_getElem htr)
    have hl : ((((q.1[t]).length : Nat) : Int) != (((d.Trains[t]).Legs.length : Nat) : Int)) = false := by
      rw [bne_eq_false_iff_eq]
      have := hform.2.2.1
      omega
    rw [FishtopTopSeated.loop5, gx_at htc, Option.bind_some, gx_at htr, Option.bind_some, gx_at htl, Option.bind_some, hl, if_neg (by decide), Option.bind_some]
    rw [legs_loop D hf (hc.2 t _ _ (List.getElem?_eq_getElem htl) (List.getElem?_eq_getElem htc)) (List.getElem?_eq_getElem htr) hrow (fun k hk => ?_) _ 0 (by have := hform.2.2.1; omega), Option.bind_some]
    · exact cars_loop hd D hf hc hp hs hv n (t + 1) (by omega)
    · rw [cov_cnt (hp t _ (List.getElem?_eq_getElem htc)), ← hv t k]
      unfold vl
      rw [List.getElem?_eq_getElem htr, Option.getD_some, List.getElem?_eq_getElem hk, Option.getD_some]
theorem awake_ok : FishtopawakeGuide = some true := by kernel_rfl
theorem TopSeated_law (x0 : ApiDay) (x1 : List GuideJourney) (x2 : Int) (x3 : Int) (x4 : List Int) (h0_0 : x0.Trains.length ≤ 9223372036854775807) (h0_1 : x0.Turns.length ≤ 9223372036854775807) (h1 : x1.length ≤ 9223372036854775807) (hx2 : -9223372036854775808 ≤ x2 ∧ x2 ≤ 9223372036854775807) (hx3 : -9223372036854775808 ≤ x3 ∧ x3 ≤ 9223372036854775807) (h4 : x4.length ≤ 9223372036854775807) (i0 : InApiDay x0) (i1 : (inL InGuideJourney) x1) (i4 : (inL inI) x4) : ∃ fu, FishtopTopSeated fu x0 x1 x2 x3 x4 = some true := by
  refine ⟨1000, ?_⟩
  obtain ⟨e, c1, c2, c3⟩ := check_ok i0
  rw [FishtopTopSeated, awake_ok, Option.bind_some, Bool.not_true, if_neg (by decide), c1, Option.bind_some]
  by_cases ce : e = 0
  · subst ce
    have hd := c3 rfl
    have hform := hd.form
    rw [bne_self_eq_false, if_neg (by decide), Option.bind_some]
    by_cases cl : (x1.length : Int) > 100
    · rw [if_pos (by simpa using cl)]
    · rw [if_neg (by simpa using cl)]
      have main : ∀ {R N : Nat} (r a : Int) (D : Dim r a R N) (q0 : List FareCar), CS x0 r a N 0 q0 → SoldP q0 [] → FishtopTopSeated.loop1 r a x0.Trains [] = some (.next q0) →
          ((FishtopTopSeated.loop1 r a x0.Trains []).bind fun q69 => match q69 with | .ret r => some r | .next q79 => ((FishtopTopSeated.loop2 x0 x4 1000 x1 0 [] q79).bind fun q146 => match q146 with | .ret r => some r | .next (q156, q163) => ((GuideCrowd_v1 1000 x0 q156).bind fun q375 => (bnd ((if (q375.2 != 0) then true else (((q375.1).length : Int) != ((q79.length : Nat) : Int))) : Bool) fun q386 => (if q386 then some false else ((FishtopTopSeated.loop5 x0 r a 1000 q163 q375 q79.length 0).bind fun q391 => match q391 with | .ret r => some r | .next () => some true)))))) = some true := by
        intro R N r a D q0 k1 k2 k3
        obtain ⟨sold, q', m1, m2, m3, m4, m5⟩ := sell_loop hd D (by decide : 100 ≤ 1000) x4 x1 0 [] q0 (by omega) (by simp) (by simpa using k1) k2 (by simp)
        obtain ⟨rows, n1, n2, n3⟩ := crowd_v hd c2 (by decide : 60 ≤ 1000) sold m5 (fun j hj => m4 j hj)
        rw [k3, Option.bind_some]
        simp only
        rw [m1, Option.bind_some]
        simp only
        rw [n1, Option.bind_some, bnd_eq]
        simp only
        rw [bne_self_eq_false, n2.1, k1.1, bne_self_eq_false]
        simp only [Bool.false_eq_true, if_false]
        rw [cars_loop hd D (by decide : 100 ≤ 1000) m2 m3 n2 n3 _ 0 (by omega), Option.bind_some]
      by_cases hr : (1 ≤ x2 ∧ x2 ≤ 20) ∧ (1 ≤ x3 ∧ x3 ≤ 4)
      · have hN0 : 0 ≤ x2 * x3 := Int.mul_nonneg (by omega) (by omega)
        have hN1 : x2 * x3 ≤ 80 := Int.le_trans (Int.mul_le_mul_of_nonneg_right hr.1.2 (by omega)) (by omega)
        refine main (R := x2.toNat) (N := (x2 * x3).toNat) x2 x3 ⟨by omega, by omega, by omega, ?_, by omega⟩ (x0.Trains.map (newCar x2 x3)) (new_cs _ _ _) (new_sp _ _) ?_
        · rw [show ((x2.toNat : Nat) : Int) = x2 by omega]; omega
        · rw [new_loop hr x0.Trains [] (fun t ht => ⟨hd.two t ht, (hform.2.2.1 t ht).2.1⟩) (by have := hform.1; simp; omega), List.nil_append]
      · cases ht : x0.Trains with
        | nil =>
          have hz : x0.Trains.length = 0 := by rw [ht]; rfl
          rw [FishtopTopSeated.loop1, Option.bind_some]
          simp only
          have kk := new_cs (d := x0) 1 1 1
          have ks := new_sp (d := x0) 1 1
          rw [ht, List.map_nil] at kk ks
          obtain ⟨sold, q', m1, m2, m3, m4, m5⟩ := sell_loop hd (r := 1) (a := 1) (R := 1) (N := 1) ⟨rfl, by decide, by decide, rfl, by decide⟩ (by decide : 100 ≤ 1000) x4 x1 0 [] [] (by omega) (by simp) (by simpa using kk) ks (by simp)
          obtain ⟨rows, n1, n2, n3⟩ := crowd_v hd c2 (by decide : 60 ≤ 1000) sold m5 (fun j hj => m4 j hj)
          rw [m1, Option.bind_some]
          simp only
          rw [n1, Option.bind_some, bnd_eq]
          simp only
          rw [bne_self_eq_false, n2.1, hz]
          rfl
        | cons t l => rw [FishtopTopSeated.loop1, new_out hr]; rfl
  · rw [if_pos (by simpa using ce)]; rfl
end Go.Fp
