/- GuideCrowds: the mirror of the law is true of all days and journeys. -/
import Derived.Test.YtdajnfcggckdlaaDoorGuideCrowdsM
import Derived.Test.YtdajnfcggckdlaaDoorFpPlain
import Derived.Lib.ItoaLen
import Derived.KernelRfl
namespace Go.Fp
/-! texts of numbers -/
/-- a number's text -/
def tx (n : Int) : ByteArray := ⟨(Lib.itoa n).toArray⟩
theorem itoa_tx {n : Int} (h : -9223372036854775808 ≤ n ∧ n ≤ 9223372036854775807) : itoa n = some (tx n) := by unfold itoa; rw [if_pos h]; rfl
theorem tx_size {n : Int} (h : -9223372036854775808 ≤ n ∧ n ≤ 9223372036854775807) : (tx n).size ≤ 21 := by
  have := Lib.itoa_length_le n h.1 h.2
  unfold tx
  show ((Lib.itoa n).toArray).size ≤ 21
  simpa using this
theorem scat_in {a b : ByteArray} (h : a.size + b.size ≤ 9223372036854775807) : scat a b = some (a ++ b) := by unfold scat; rw [if_pos h]
theorem sbw_in {y x : ByteArray} (h0 : 0 < x.size) (h : y.size + x.size < 4294967296) : sbw y x = some (y ++ x) := by unfold sbw; rw [if_pos ⟨h0, h⟩]
theorem mget_put (m : List (Int × Bool)) (k j : Int) (v : Bool) : mget (mput m k v) j = if j = k then some v else mget m j := by
  induction m with
  | nil => simp [mput, mget]
  | cons p r ih =>
    obtain ⟨a, b⟩ := p
    simp only [mput]
    by_cases h : k = a
    · subst h
      simp only [beq_self_eq_true, if_true, mget]
      by_cases h2 : j = k <;> simp [h2]
    · have hb : (k == a) = false := by simpa using h
      simp only [hb, Bool.false_eq_true, if_false, mget]
      by_cases h2 : j = a
      · subst h2; have : ¬ j = k := fun e => h e.symm; simp [this]
      · have hb2 : (j == a) = false := by simpa using h2
        simp [hb2, ih]
/-! days: what Text says, what Check says -/
def wi (x : Int) : Bool := Planwithin x 0 999999
theorem form2 : ∀ l, Fishref2TextFault.loop2 l = Planform.loop2 l
  | [] => rfl
  | x :: r => by simp only [Fishref2TextFault.loop2, Planform.loop2, form2 r]
theorem form3 : ∀ l, Fishref2TextFault.loop3 l = Planform.loop3 l
  | [] => rfl
  | x :: r => by simp only [Fishref2TextFault.loop3, Planform.loop3, form3 r]
theorem form4 : ∀ l, Fishref2TextFault.loop4 l = Planform.loop4 l
  | [] => rfl
  | x :: r => by simp only [Fishref2TextFault.loop4, Planform.loop4, form4 r]
theorem form1 : ∀ l, Fishref2TextFault.loop1 l = Planform.loop1 l
  | [] => rfl
  | x :: r => by simp only [Fishref2TextFault.loop1, Planform.loop1, form1 r, form2, form3]

def trainForm (t : ApiTrain) : Prop := 1 ≤ t.Stops.length ∧ t.Stops.length ≤ 8 ∧ t.Legs.length + 1 = t.Stops.length ∧ ∀ g ∈ t.Legs, g.length ≤ 4
def dayForm (d : ApiDay) : Prop := d.Trains.length ≤ 12 ∧ d.Turns.length ≤ 8 ∧ (∀ t ∈ d.Trains, trainForm t) ∧ ∀ g ∈ d.Turns, g.length ≤ 12
theorem form3_out : ∀ l, (Planform.loop3 l = .ret 4) ∨ (Planform.loop3 l = .next () ∧ ∀ g ∈ l, g.length ≤ 4)
  | [] => .inr ⟨rfl, by simp⟩
  | x :: r => by
    rw [Planform.loop3]
    by_cases c : ((x.length : Nat) : Int) > 4
    · rw [if_pos (by simpa using c)]; exact .inl rfl
    · rw [if_neg (by simpa using c)]
      rcases form3_out r with h | ⟨h, k⟩
      · exact .inl h
      · refine .inr ⟨h, ?_⟩
        intro g hg
        rcases List.mem_cons.1 hg with rfl | hg
        · omega
        · exact k g hg
theorem form2_out : ∀ l, (Planform.loop2 l = .ret 1) ∨ (Planform.loop2 l = .next ())
  | [] => .inr rfl
  | x :: r => by
    rw [Planform.loop2]
    split
    · exact .inl rfl
    · exact form2_out r
theorem form4_out : ∀ l, (∃ e, e ≠ 0 ∧ Planform.loop4 l = .ret e) ∨ (Planform.loop4 l = .next () ∧ ∀ g ∈ l, g.length ≤ 12)
  | [] => .inr ⟨rfl, by simp⟩
  | x :: r => by
    rw [Planform.loop4]
    split
    · exact .inl ⟨1, by decide, rfl⟩
    · by_cases c : ((x.length : Nat) : Int) > 12
      · rw [if_pos (by simpa using c)]; exact .inl ⟨4, by decide, rfl⟩
      · rw [if_neg (by simpa using c)]
        rcases form4_out r with h | ⟨h, k⟩
        · exact .inl h
        · refine .inr ⟨h, ?_⟩
          intro g hg
          rcases List.mem_cons.1 hg with rfl | hg
          · omega
          · exact k g hg
theorem form1_out : ∀ l, (∃ e, e ≠ 0 ∧ Planform.loop1 l = .ret e) ∨ (Planform.loop1 l = .next () ∧ ∀ t ∈ l, trainForm t)
  | [] => .inr ⟨rfl, by simp⟩
  | x :: r => by
    rw [Planform.loop1, bnd_eq]
    generalize hq : (if (((x.Stops).length : Int) == 0) = true then true else (((x.Legs).length : Int) != (w64 (((x.Stops).length : Int) - 1)))) = q
    cases q with
    | true => exact .inl ⟨1, by decide, rfl⟩
    | false =>
      rw [if_neg (by decide), bnd_eq]
      rcases form2_out x.Legs with h | h
      · rw [h]; exact .inl ⟨1, by decide, rfl⟩
      · rw [h]
        dsimp only
        by_cases c : ((x.Stops.length : Nat) : Int) > 8
        · rw [if_pos (by simpa using c)]; exact .inl ⟨4, by decide, rfl⟩
        · rw [if_neg (by simpa using c), bnd_eq]
          rcases form3_out x.Legs with h3 | ⟨h3, k3⟩
          · rw [h3]; exact .inl ⟨4, by decide, rfl⟩
          · rw [h3]
            dsimp only
            rcases form1_out r with h1 | ⟨h1, k1⟩
            · exact .inl h1
            · refine .inr ⟨h1, ?_⟩
              intro t ht
              rcases List.mem_cons.1 ht with rfl | ht
              · split at hq
                · cases hq
                · rename_i hz
                  rw [w64_id (by omega)] at hq
                  have hq2 : ((t.Legs.length : Nat) : Int) = ((t.Stops.length : Nat) : Int) - 1 := by simpa using hq
                  have hz2 : ¬ t.Stops.length = 0 := by simpa using hz
                  exact ⟨by omega, by omega, by omega, k3⟩
              · exact k1 t ht
theorem form_out (d : ApiDay) : Planform d ≠ 0 ∨ (Planform d = 0 ∧ dayForm d) := by
  rw [Planform, bnd_eq]
  by_cases c : ((d.Trains.length : Nat) : Int) > 12 ∨ ((d.Turns.length : Nat) : Int) > 8
  · left
    rw [if_pos (by rcases c with c | c <;> simp [c])]; decide
  · have c1 : ¬ ((d.Trains.length : Nat) : Int) > 12 := fun h => c (.inl h)
    have c2 : ¬ ((d.Turns.length : Nat) : Int) > 8 := fun h => c (.inr h)
    rw [if_neg (by simp [c1, c2]), bnd_eq]
    rcases form1_out d.Trains with ⟨e, he, h⟩ | ⟨h, k⟩
    · rw [h]; exact .inl he
    · rw [h]
      dsimp only
      rw [bnd_eq]
      rcases form4_out d.Turns with ⟨e, he, h4⟩ | ⟨h4, k4⟩
      · rw [h4]; exact .inl he
      · rw [h4]; exact .inr ⟨rfl, by omega, by omega, k, k4⟩

/-! the numbers -/
def numS (x : ApiStop) : List Int := [x.Station, x.Track, x.Arr, x.Dep]
def numT (t : ApiTrain) : List (List Int) := [t.No, t.Stock] :: (t.Stops.map numS ++ t.Legs)
theorem num2 : ∀ (l : List ApiStop) (q : List (List Int)), q.length + l.length < 4294967296 → Fishref2numbersIn.loop2 l q = some (q ++ l.map numS)
  | [], q, _ => by simp [Fishref2numbersIn.loop2]
  | x :: r, q, h => by
    simp only [List.length_cons] at h
    rw [Fishref2numbersIn.loop2, apd_lt (by simp; omega), Option.bind_some, num2 r _ (by simp; omega)]
    simp [numS]
theorem num1 : ∀ (l : List ApiTrain) (q : List (List Int)), (∀ t ∈ l, trainForm t) → q.length + 17 * l.length < 4294967296 → Fishref2numbersIn.loop1 l q = some (q ++ l.flatMap numT)
  | [], q, _, _ => by simp [Fishref2numbersIn.loop1]
  | t :: r, q, ht, h => by
    simp only [List.length_cons] at h
    obtain ⟨t1, t2, t3, t4⟩ := ht t (List.mem_cons_self ..)
    rw [Fishref2numbersIn.loop1, apd_lt (by simp; omega), Option.bind_some, num2 _ _ (by simp; omega), Option.bind_some, apd_lt (by simp; omega), Option.bind_some,
      num1 r _ (fun t h => ht t (List.mem_cons_of_mem _ h)) (by simp; omega)]
    simp [numT]
theorem numT_len {t : ApiTrain} (h : trainForm t) : (numT t).length ≤ 16 := by
  obtain ⟨t1, t2, t3, t4⟩ := h
  simp [numT]; omega
theorem num_all {d : ApiDay} (h : dayForm d) : Fishref2numbersIn d = some (d.Trains.flatMap numT ++ d.Turns) := by
  obtain ⟨h1, h2, h3, h4⟩ := h
  have hl : ∀ l : List ApiTrain, (∀ t ∈ l, trainForm t) → (l.flatMap numT).length ≤ 16 * l.length := by
    intro l
    induction l with
    | nil => intro _; simp
    | cons t r ih =>
      intro ht
      have := numT_len (ht t (List.mem_cons_self ..))
      have := ih fun t h => ht t (List.mem_cons_of_mem _ h)
      simp only [List.flatMap_cons, List.length_append, List.length_cons]; omega
  have := hl _ h3
  rw [Fishref2numbersIn, num1 _ _ h3 (by simp; omega), Option.bind_some, List.nil_append, apd_lt (by omega)]
  rfl
theorem num6 : ∀ l : List Int, Fishref2TextFault.loop6 l = if l.all wi then .next () else .ret 2
  | [] => rfl
  | x :: r => by
    rw [Fishref2TextFault.loop6, num6 r]
    show (if (!wi x) = true then _ else _) = _
    cases h : wi x <;> simp [h]
theorem num5 (L : List (List Int)) : ∀ (r : List (List Int)) (k : Nat), L.drop k = r → Fishref2TextFault.loop5 L r.length k = some (if r.all (·.all wi) then .next () else .ret 2)
  | [], k, _ => rfl
  | x :: r, k, hd => by
    obtain ⟨d1, d2, d3⟩ := drop_cons hd
    rw [List.length_cons, Fishref2TextFault.loop5, gx_nat, d2, Option.bind_some, bnd_eq, num6]
    cases h : x.all wi with
    | true => simp [h, num5 L r (k + 1) d3]
    | false => simp [h]

/-! the text -/
theorem flag1 : ∀ (l : List Int) (b : Bool), PlanText_1_v1.loop1 l b = (b && l.all wi)
  | [], b => by simp [PlanText_1_v1.loop1]
  | x :: r, b => by
    rw [PlanText_1_v1.loop1, bnd_eq, flag1 r]
    show ((if b = true then wi x else false) && r.all wi) = _
    cases b <;> simp
theorem sent1 : ∀ (l : List Int) (q : ByteArray), inL inI l → q.size + 22 * l.length < 4294967296 → ∃ z, Plansentence.loop1 l q = some z ∧ z.size ≤ q.size + 22 * l.length
  | [], q, _, _ => ⟨q, rfl, by simp⟩
  | x :: r, q, hi, h => by
    simp only [List.length_cons] at h
    have hx := hi x (List.mem_cons_self ..)
    have hs := tx_size hx
    have s32 : (str [32]).size = 1 := rfl
    have e1 : (str [32] ++ tx x).size = 1 + (tx x).size := by rw [ByteArray.size_append, s32]
    have e4 : (q ++ (str [32] ++ tx x)).size = q.size + (1 + (tx x).size) := by rw [ByteArray.size_append, e1]
    obtain ⟨z, h1, h2⟩ := sent1 r (q ++ (str [32] ++ tx x)) (fun y h => hi y (List.mem_cons_of_mem _ h)) (by omega)
    refine ⟨z, ?_, by simp only [List.length_cons]; omega⟩
    rw [Plansentence.loop1, itoa_tx hx, Option.bind_some, scat_in (by omega), Option.bind_some, scat_in (by omega), Option.bind_some]
    exact h1
theorem sent {l : List Int} {w : ByteArray} (hi : inL inI l) (h : w.size + 22 * l.length < 4294967295) : ∃ z, Plansentence w l = some z ∧ 0 < z.size ∧ z.size ≤ w.size + 22 * l.length + 1 := by
  obtain ⟨z, h1, h2⟩ := sent1 l w hi (by omega)
  have s10 : (str [10]).size = 1 := rfl
  have e : (z ++ str [10]).size = z.size + 1 := by rw [ByteArray.size_append, s10]
  exact ⟨z ++ str [10], by rw [Plansentence, h1, Option.bind_some, scat_in (by omega)]; rfl, by omega, by omega⟩
theorem wr {l : List Int} {w y : ByteArray} {b : Bool} (hi : inL inI l) (hw : w.size ≤ 5) (h : y.size + (22 * l.length + 6) < 4294967295) :
    ∃ z, PlanText_1_v1 w l b y = some (b && l.all wi, z) ∧ z.size ≤ y.size + (22 * l.length + 6) := by
  obtain ⟨z, h1, h2, h3⟩ := sent (w := w) hi (by omega)
  have e : (y ++ z).size = y.size + z.size := ByteArray.size_append
  exact ⟨y ++ z, by rw [PlanText_1_v1, flag1, bnd_eq, h1, Option.bind_some, sbw_in h2 (by omega)]; rfl, by omega⟩
theorem txt2 : ∀ (l : List ApiStop) (y : ByteArray) (b : Bool), inL InApiStop l → y.size + 94 * l.length < 4294967000 →
    ∃ z, PlanText.loop2 l y b = some (z, b && (l.map numS).all (·.all wi)) ∧ z.size ≤ y.size + 94 * l.length
  | [], y, b, _, _ => ⟨y, by simp [PlanText.loop2], by simp⟩
  | x :: r, y, b, hi, h => by
    simp only [List.length_cons] at h
    have hx := hi x (List.mem_cons_self ..)
    obtain ⟨z, h1, h2⟩ := wr (l := numS x) (w := str [115, 116, 111, 112]) (y := y) (b := b) (by
      intro v hv
      simp only [numS, List.mem_cons, List.not_mem_nil, or_false] at hv
      rcases hv with rfl | rfl | rfl | rfl
      · exact hx.1
      · exact hx.2.1
      · exact hx.2.2.1
      · exact hx.2.2.2) (by decide) (by simp [numS]; omega)
    simp only [numS, List.length_cons, List.length_nil] at h2
    obtain ⟨z2, h3, h4⟩ := txt2 r z (b && (numS x).all wi) (fun y h => hi y (List.mem_cons_of_mem _ h)) (by omega)
    refine ⟨z2, ?_, by simp only [List.length_cons]; omega⟩
    rw [PlanText.loop2]
    rw [show [x.Station, x.Track, x.Arr, x.Dep] = numS x from rfl, h1, Option.bind_some]
    dsimp only
    rw [h3, List.map_cons, List.all_cons, Bool.and_assoc]
theorem txt3 (w : ByteArray) (hw : w.size ≤ 5) (F : List (List Int) → ByteArray → Bool → Option (ByteArray × Bool)) (hn : ∀ y b, F [] y b = some (y, b))
    (hc : ∀ x r y b, F (x :: r) y b = (PlanText_1_v1 w x b y).bind fun q => F r q.2 q.1) (m : Nat) (hm : m ≤ 100) : ∀ (l : List (List Int)) (y : ByteArray) (b : Bool), inL (inL inI) l → (∀ g ∈ l, g.length ≤ m) → y.size + (22 * m + 6) * l.length < 4294960000 →
    ∃ z, F l y b = some (z, b && l.all (·.all wi)) ∧ z.size ≤ y.size + (22 * m + 6) * l.length
  | [], y, b, _, _, _ => ⟨y, by simp [hn], by simp⟩
  | x :: r, y, b, hi, hl, h => by
    simp only [List.length_cons, Nat.mul_add, Nat.mul_one] at h
    have hx := hi x (List.mem_cons_self ..)
    have hxl := hl x (List.mem_cons_self ..)
    obtain ⟨z, h1, h2⟩ := wr (l := x) (w := w) (y := y) (b := b) hx hw (by omega)
    obtain ⟨z2, h3, h4⟩ := txt3 w hw F hn hc m hm r z (b && x.all wi) (fun y h => hi y (List.mem_cons_of_mem _ h)) (fun g h => hl g (List.mem_cons_of_mem _ h)) (by omega)
    refine ⟨z2, ?_, by simp only [List.length_cons, Nat.mul_add, Nat.mul_one]; omega⟩
    rw [hc, h1, Option.bind_some]
    dsimp only
    rw [h3, List.all_cons, Bool.and_assoc]
theorem txt1 : ∀ (l : List ApiTrain) (y : ByteArray) (b : Bool), inL InApiTrain l → (∀ t ∈ l, trainForm t) → y.size + 1700 * l.length < 4294900000 →
    ∃ z, PlanText.loop1 l y b = some (z, b && (l.flatMap numT).all (·.all wi)) ∧ z.size ≤ y.size + 1700 * l.length
  | [], y, b, _, _, _ => ⟨y, by simp [PlanText.loop1], by simp⟩
  | t :: r, y, b, hi, hf, h => by
    simp only [List.length_cons] at h
    obtain ⟨i1, i2, i3, i4⟩ := hi t (List.mem_cons_self ..)
    obtain ⟨t1, t2, t3, t4⟩ := hf t (List.mem_cons_self ..)
    obtain ⟨z, h1, h2⟩ := wr (l := [t.No, t.Stock]) (w := str [116, 114, 97, 105, 110]) (y := y) (b := b) (by
      intro v hv
      simp only [List.mem_cons, List.not_mem_nil, or_false] at hv
      rcases hv with rfl | rfl
      · exact i1
      · exact i2) (by decide) (by simp; omega)
    simp only [List.length_cons, List.length_nil] at h2
    obtain ⟨z2, h3, h4⟩ := txt2 t.Stops z (b && [t.No, t.Stock].all wi) i3 (by omega)
    obtain ⟨z3, h5, h6⟩ := txt3 (str [108, 101, 103]) (by decide) PlanText.loop3 (fun _ _ => rfl) (fun _ _ _ _ => rfl) 4 (by omega) t.Legs z2 ((b && [t.No, t.Stock].all wi) && (t.Stops.map numS).all (·.all wi)) i4 t4 (by omega)
    obtain ⟨z4, h7, h8⟩ := txt1 r z3 (((b && [t.No, t.Stock].all wi) && (t.Stops.map numS).all (·.all wi)) && t.Legs.all (·.all wi)) (fun y h => hi y (List.mem_cons_of_mem _ h)) (fun y h => hf y (List.mem_cons_of_mem _ h)) (by omega)
    refine ⟨z4, ?_, by simp only [List.length_cons]; omega⟩
    rw [PlanText.loop1, h1, Option.bind_some]
    dsimp only
    rw [h3, Option.bind_some]
    dsimp only
    rw [h5, Option.bind_some]
    dsimp only
    rw [h7]
    simp only [List.flatMap_cons, numT, List.cons_append, List.all_cons, List.all_append, Bool.and_assoc, List.all_nil]
theorem text_ok {d : ApiDay} (hi : InApiDay d) : ∃ e b, Fishref2TextFault d = some e ∧ PlanText d = some (b, e) ∧ (e = 0 → dayForm d) := by
  rcases form_out d with h | ⟨h, k⟩
  · refine ⟨Planform d, str [], ?_, ?_, fun e => absurd e h⟩
    · revert h
      rw [Fishref2TextFault, Planform]
      simp only [form1, form4, bnd_eq]
      cases (if decide (((d.Trains).length : Int) > 12) = true then true else decide (((d.Turns).length : Int) > 8)) with
      | true => intro _; rfl
      | false =>
        simp only [Bool.false_eq_true, if_false]
        cases Planform.loop1 d.Trains with
        | ret r => intro _; rfl
        | next u =>
          dsimp only
          cases Planform.loop4 d.Turns with
          | ret r => intro _; rfl
          | next u => intro h; exact absurd rfl h
    · rw [PlanText, if_pos (by simpa using h)]
  · obtain ⟨k1, k2, k3, k4⟩ := k
    have hnum := num_all ⟨k1, k2, k3, k4⟩
    obtain ⟨z, h1, h2⟩ := txt1 d.Trains ByteArray.empty true hi.1 k3 (by simp; omega)
    have h2' : z.size ≤ 1700 * d.Trains.length := by simpa using h2
    obtain ⟨z2, h3, h4⟩ := txt3 (str [116, 117, 114, 110]) (by decide) PlanText.loop4 (fun _ _ => rfl) (fun _ _ _ _ => rfl) 12 (by omega) d.Turns z (true && (d.Trains.flatMap numT).all (·.all wi)) hi.2 k4 (by omega)
    have hT : Fishref2TextFault d = some (if (d.Trains.flatMap numT ++ d.Turns).all (·.all wi) then 0 else 2) := by
      have h' := h
      rw [Planform] at h'
      simp only [bnd_eq] at h'
      rw [Fishref2TextFault]
      simp only [form1, form4, bnd_eq]
      cases hc : (if decide (((d.Trains).length : Int) > 12) = true then true else decide (((d.Turns).length : Int) > 8)) with
      | true => rw [hc] at h'; cases h'
      | false =>
        rw [hc] at h'
        simp only [Bool.false_eq_true, if_false] at h' ⊢
        cases hA : Planform.loop1 d.Trains with
        | ret r =>
          rw [hA] at h'
          rcases form1_out d.Trains with ⟨e, he, hh⟩ | ⟨hh, _⟩
          · rw [hA] at hh; injection hh with hh; dsimp only at h'; rw [hh] at h'; exact absurd h' he
          · rw [hA] at hh; cases hh
        | next u =>
          rw [hA] at h'
          dsimp only at h' ⊢
          cases hB : Planform.loop4 d.Turns with
          | ret r =>
            rw [hB] at h'
            rcases form4_out d.Turns with ⟨e, he, hh⟩ | ⟨hh, _⟩
            · rw [hB] at hh; injection hh with hh; dsimp only at h'; rw [hh] at h'; exact absurd h' he
            · rw [hB] at hh; cases hh
          | next u =>
            dsimp only
            rw [hnum, Option.bind_some, num5 _ _ 0 (List.drop_zero), Option.bind_some]
            cases (d.Trains.flatMap numT ++ d.Turns).all (·.all wi) <;> rfl
    refine ⟨_, if (d.Trains.flatMap numT ++ d.Turns).all (·.all wi) then z2 else str [], hT, ?_, fun _ => ⟨k1, k2, k3, k4⟩⟩
    rw [PlanText, if_neg (by simp [h]), h1, Option.bind_some]
    dsimp only
    rw [h3, Option.bind_some]
    dsimp only
    rw [List.all_append]
    cases hA : (d.Trains.flatMap numT).all (·.all wi) <;> cases hB : d.Turns.all (·.all wi) <;> simp [hA, hB]

/-! Check -/
theorem chk2 (t : ApiTrain) : ∀ (l : List ApiStop) (k : Nat), Fishref2GuideFault.loop3 t l k = GuideCheck.loop2 t l k
  | [], _ => rfl
  | x :: r, k => by
    simp only [Fishref2GuideFault.loop3, GuideCheck.loop2, chk2 t r]
    rfl
/-- the stops of a train are in order -/
def stopsOk (l : List ApiStop) : Prop := (∀ x ∈ l, 0 ≤ x.Station ∧ x.Station ≤ 11 ∧ 0 ≤ x.Arr ∧ x.Arr ≤ 28800 ∧ 0 ≤ x.Dep ∧ x.Dep ≤ 28800 ∧ x.Arr ≤ x.Dep) ∧ ∀ k x y, l[k]? = some x → l[k + 1]? = some y → x.Dep < y.Arr
theorem within_iff (x a b : Int) : Guidewithin x a b = true ↔ a ≤ x ∧ x ≤ b := by
  unfold Guidewithin bnd
  by_cases h : x ≥ a <;> simp [h] <;> omega
theorem chk2_out (t : ApiTrain) (hl : t.Stops.length ≤ 9223372036854775807) : ∀ (r : List ApiStop) (k : Nat), t.Stops.drop k = r →
    (∃ e, e ≠ 0 ∧ GuideCheck.loop2 t r k = some (.ret e)) ∨ (GuideCheck.loop2 t r k = some (.next ()) ∧ (∀ x ∈ r, 0 ≤ x.Station ∧ x.Station ≤ 11 ∧ 0 ≤ x.Arr ∧ x.Arr ≤ 28800 ∧ 0 ≤ x.Dep ∧ x.Dep ≤ 28800 ∧ x.Arr ≤ x.Dep) ∧ ∀ j x y, k ≤ j + 1 → t.Stops[j]? = some x → t.Stops[j + 1]? = some y → x.Dep < y.Arr)
  | [], k, hd => .inr ⟨rfl, by simp, fun j x y hj hx hy => by
      have := drop_nil hd
      have := (List.getElem?_eq_some_iff.1 hy).1
      omega⟩
  | x :: r, k, hd => by
    obtain ⟨d1, d2, d3⟩ := drop_cons hd
    rw [GuideCheck.loop2, bnd_eq]
    cases c1 : Guidewithin x.Station 0 11 with
    | false => exact .inl ⟨2, by decide, by simp⟩
    | true =>
      cases c2 : Guidewithin x.Arr 0 28800 with
      | false => exact .inl ⟨2, by decide, by simp⟩
      | true =>
        cases c3 : Guidewithin x.Dep 0 28800 with
        | false => exact .inl ⟨2, by decide, by simp⟩
        | true =>
          have w1 := (within_iff _ _ _).1 c1
          have w2 := (within_iff _ _ _).1 c2
          have w3 := (within_iff _ _ _).1 c3
          simp only [Bool.not_true, Bool.false_eq_true, if_false]
          by_cases c4 : x.Dep < x.Arr
          · exact .inl ⟨5, by decide, by simp [c4]⟩
          · simp only [decide_eq_false c4, Bool.false_eq_true, if_false]
            rcases Nat.eq_zero_or_pos k with c5 | c5
            · subst c5
              simp only [Int.ofNat_eq_natCast, Int.natCast_zero, gt_iff_lt, Int.lt_irrefl, decide_false, Bool.false_eq_true, if_false, Option.bind_some]
              rcases chk2_out t hl r 1 d3 with h | ⟨h, k1, k2⟩
              · exact .inl h
              · refine .inr ⟨h, ?_, fun j a b _ ha hb => k2 j a b (by omega) ha hb⟩
                intro y hy
                rcases List.mem_cons.1 hy with rfl | hy
                · omega
                · exact k1 y hy
            · rw [if_pos (by simpa using c5), gx_prev c5 (by omega) hl, Option.bind_some, Option.bind_some]
              by_cases c6 : x.Arr ≤ (t.Stops[k - 1]'(by omega)).Dep
              · exact .inl ⟨5, by decide, by simp [c6]⟩
              · simp only [decide_eq_false c6, Bool.false_eq_true, if_false]
                rcases chk2_out t hl r (k + 1) d3 with h | ⟨h, k1, k2⟩
                · exact .inl h
                · refine .inr ⟨h, ?_, fun j a b hj ha hb => ?_⟩
                  · intro y hy
                    rcases List.mem_cons.1 hy with rfl | hy
                    · omega
                    · exact k1 y hy
                  · by_cases e : j + 1 = k
                    · subst e
                      rw [d2] at hb
                      injection hb with hb
                      subst hb
                      have : t.Stops[j + 1 - 1]'(by omega) = a := by
                        have := List.getElem?_eq_some_iff.1 ha
                        obtain ⟨_, h2⟩ := this
                        simpa using h2
                      rw [this] at c6
                      omega
                    · exact k2 j a b (by omega) ha hb
theorem chkno (t : ApiTrain) : ∀ l : List ApiTrain, Fishref2GuideFault.loop2 t l = if l.any (·.No == t.No) then .ret 6 else .next ()
  | [] => rfl
  | x :: r => by
    rw [Fishref2GuideFault.loop2, chkno t r]
    cases h : (x.No == t.No) <;> simp [h]
/-- a day that can be read -/
structure DayOk (d : ApiDay) : Prop where
  form : dayForm d
  two : ∀ t ∈ d.Trains, 2 ≤ t.Stops.length
  stops : ∀ t ∈ d.Trains, stopsOk t.Stops
  nos : ∀ t ∈ d.Trains, 1 ≤ t.No ∧ t.No ≤ 9999
  apart : ∀ (i j : Nat) (s t : ApiTrain), i < j → d.Trains[i]? = some s → d.Trains[j]? = some t → s.No ≠ t.No
theorem chk1 (d : ApiDay) (hl : d.Trains.length ≤ 9223372036854775807) (hs : ∀ t ∈ d.Trains, t.Stops.length ≤ 9223372036854775807) : ∀ (r : List ApiTrain) (k : Nat) (q : List (Int × Bool)), d.Trains.drop k = r →
    (∀ n, (mget q n).getD false = (d.Trains.take k).any (·.No == n)) →
    (∃ e, e ≠ 0 ∧ Fishref2GuideFault.loop1 d r k = some (.ret e) ∧ GuideCheck.loop1 r q = some (.ret e)) ∨
    (Fishref2GuideFault.loop1 d r k = some (.next ()) ∧ (∃ q', GuideCheck.loop1 r q = some (.next q')) ∧ (∀ t ∈ r, 2 ≤ t.Stops.length ∧ stopsOk t.Stops ∧ 1 ≤ t.No ∧ t.No ≤ 9999) ∧ ∀ i j s t, i < j → k ≤ j → d.Trains[i]? = some s → d.Trains[j]? = some t → s.No ≠ t.No)
  | [], k, q, hd, _ => .inr ⟨rfl, ⟨q, rfl⟩, by simp, fun i j s t _ hj _ ht => by
      have := drop_nil hd
      have := (List.getElem?_eq_some_iff.1 ht).1
      omega⟩
  | t :: r, k, q, hd, hq => by
    obtain ⟨d1, d2, d3⟩ := drop_cons hd
    have htm : t ∈ d.Trains := List.mem_of_getElem? d2
    rw [Fishref2GuideFault.loop1, GuideCheck.loop1, cutl_in (by omega) (by omega) (by omega), Option.bind_some, bnd_eq, chkno, hq]
    rw [show Fishref2within t.No 1 9999 = Guidewithin t.No 1 9999 from rfl]
    cases c1 : Guidewithin t.No 1 9999 with
    | false => exact .inl ⟨2, by decide, by simp, by simp⟩
    | true =>
      have w1 := (within_iff _ _ _).1 c1
      simp only [Bool.not_true, Bool.false_eq_true, if_false]
      have e0 : List.drop (Int.toNat 0) (List.take (((k : Nat) : Int).toNat) d.Trains) = d.Trains.take k := by simp
      rw [e0]
      cases c2 : (d.Trains.take k).any (·.No == t.No) with
      | true => exact .inl ⟨6, by decide, by simp, by simp⟩
      | false =>
        simp only [Bool.false_eq_true, if_false]
        by_cases c3 : ((t.Stops.length : Nat) : Int) < 2
        · exact .inl ⟨1, by decide, by simp [c3], by simp [c3]⟩
        · simp only [decide_eq_false c3, Bool.false_eq_true, if_false, chk2]
          rcases chk2_out t (hs t htm) t.Stops 0 rfl with ⟨e, he, h⟩ | ⟨h, k1, k2⟩
          · exact .inl ⟨e, he, by rw [h]; rfl, by rw [h]; rfl⟩
          · rw [h, Option.bind_some, Option.bind_some]
            dsimp only
            have hq2 : ∀ n, (mget (mput q t.No true) n).getD false = (d.Trains.take (k + 1)).any (·.No == n) := by
              intro n
              rw [mget_put, List.take_add_one, d2]
              simp only [Option.toList_some, List.any_append, List.any_cons, List.any_nil, Bool.or_false]
              by_cases c : n = t.No
              · subst c; simp
              · have : (t.No == n) = false := by simpa using fun h => c h.symm
                rw [if_neg c, this, Bool.or_false]; exact hq n
            rcases chk1 d hl hs r (k + 1) (mput q t.No true) d3 hq2 with ⟨e, he, h1, h2⟩ | ⟨h1, ⟨q', h2⟩, h3, h4⟩
            · exact .inl ⟨e, he, h1, h2⟩
            · refine .inr ⟨h1, ⟨q', h2⟩, ?_, ?_⟩
              · intro u hu
                rcases List.mem_cons.1 hu with rfl | hu
                · exact ⟨by omega, ⟨k1, fun j x y hx hy => k2 j x y (by omega) hx hy⟩, w1.1, w1.2⟩
                · exact h3 u hu
              · intro i j s u hij hj hi hu
                by_cases e : j = k
                · subst e
                  rw [d2] at hu
                  injection hu with hu
                  subst hu
                  intro e
                  have : (d.Trains.take j).any (·.No == t.No) = true := by
                    rw [List.any_eq_true]
                    refine ⟨s, ?_, by simpa using e⟩
                    apply List.mem_of_getElem? (i := i)
                    rw [List.getElem?_take, if_pos hij]; exact hi
                  rw [this] at c2; cases c2
                · exact h4 i j s u hij (by omega) hi hu
theorem check_ok {d : ApiDay} (hi : InApiDay d) : ∃ e, Fishref2GuideFault d = some e ∧ GuideCheck d = some e ∧ (e = 0 → DayOk d) := by
  obtain ⟨e, b, h1, h2, h3⟩ := text_ok hi
  rw [Fishref2GuideFault, GuideCheck, h1, h2, Option.bind_some, Option.bind_some]
  by_cases c : e = 0
  · subst c
    have hf := h3 rfl
    simp only [bne_self_eq_false, Bool.false_eq_true, if_false]
    rcases chk1 d (by have := hf.1; omega) (fun t ht => by have := (hf.2.2.1 t ht).2.1; omega) d.Trains 0 [] rfl (by simp [mget]) with ⟨e, he, k1, k2⟩ | ⟨k1, ⟨q', k2⟩, k3, k4⟩
    · exact ⟨e, by rw [k1]; rfl, by rw [k2]; rfl, fun h => absurd h he⟩
    · refine ⟨0, by rw [k1]; rfl, by rw [k2]; rfl, fun _ => ⟨hf, fun t ht => (k3 t ht).1, fun t ht => (k3 t ht).2.1, fun t ht => (k3 t ht).2.2, fun i j s t hij hs ht => k4 i j s t hij (by omega) hs ht⟩⟩
  · have : (e != 0) = true := by simpa using c
    simp only [this, if_true]
    exact ⟨e, rfl, rfl, fun h => absurd h c⟩
/-! the small day -/
theorem rngO_same {α σ : Type} {f : α → σ → Orc → Option σ} {st : σ} : ∀ (n : Nat) (left : List α) (o : Orc), (∀ x ∈ left, ∀ o, f x st o = some st) → rngO f n left st o = some st
  | 0, _, _, _ => rfl
  | n + 1, left, o, h => by
    rw [rngO]
    cases k : left[o [] % left.length]? with
    | none => rfl
    | some x =>
      simp only
      rw [h x (List.mem_of_getElem? k), Option.bind_some]
      exact rngO_same n _ _ (fun y hy => h y (List.mem_of_mem_eraseIdx hy))
theorem rngO_single {α σ : Type} {f : α → σ → Orc → Option σ} {x : α} {st st' : σ} (h : ∀ o, f x st o = some st') (n : Nat) (o : Orc) : rngO f (n + 1) [x] st o = some st' := by
  rw [rngO]
  simp only [List.length_singleton, Nat.mod_one, List.getElem?_cons_zero, h, Option.bind_some, List.eraseIdx_cons_zero]
  cases n <;> simp [rngO]
def smallNet : GuideNet := ⟨Fishlaw2small, 40⟩
abbrev smallE : List (List (GuidePlace × Bool)) := [[(⟨0, 1⟩, true), (⟨0, 2⟩, true)], [(⟨1, 1⟩, true)], [], []]
abbrev smallP : GuidePoint := ⟨100, 400, 2⟩
theorem small_ends : GuideNetends smallNet [⟨0, 0, 1⟩, ⟨0, 0, 2⟩] = some smallE := by kernel_rfl
theorem small4_0 (o : Orc) : GuideNetpoints.loop4 smallNet 3 100 0 [(⟨0, 1⟩, true), (⟨0, 2⟩, true)] [] [] o = some ([], []) := by
  unfold GuideNetpoints.loop4
  refine rngO_same _ _ _ ?_
  intro x hx o
  simp only [List.mem_cons, List.not_mem_nil, or_false] at hx
  rcases hx with rfl | rfl
  · kernel_rfl
  · kernel_rfl
theorem small4_1 (o : Orc) : GuideNetpoints.loop4 smallNet 3 100 1 [(⟨1, 1⟩, true)] [] [] o = some ([smallP], [(smallP, true)]) := by
  unfold GuideNetpoints.loop4
  exact rngO_single (fun o => by kernel_rfl) _ _
theorem small3 (o : Orc) : GuideNetpoints.loop3 smallNet 3 100 smallE 4 [] [] o = some ([smallP], [(smallP, true)]) := by
  have s0 : ∀ o, GuideNetpoints.loop3.step smallNet 3 100 smallE 0 [] [] o = some ([], []) := by
    intro o
    show Option.bind (GuideNetpoints.loop4 smallNet 3 100 0 [(⟨0, 1⟩, true), (⟨0, 2⟩, true)] [] [] (o.sub 0)) _ = _
    rw [small4_0]; rfl
  have s1 : ∀ o, GuideNetpoints.loop3.step smallNet 3 100 smallE 1 [] [] o = some ([smallP], [(smallP, true)]) := by
    intro o
    show Option.bind (GuideNetpoints.loop4 smallNet 3 100 1 [(⟨1, 1⟩, true)] [] [] (o.sub 0)) _ = _
    rw [small4_1]; rfl
  have s2 : ∀ o, GuideNetpoints.loop3.step smallNet 3 100 smallE 2 [smallP] [(smallP, true)] o = some ([smallP], [(smallP, true)]) := by intro o; rfl
  have s3 : ∀ o, GuideNetpoints.loop3.step smallNet 3 100 smallE 3 [smallP] [(smallP, true)] o = some ([smallP], [(smallP, true)]) := by intro o; rfl
  unfold GuideNetpoints.loop3
  simp only [cntO, s0, s1, s2, s3, Option.bind_some, Nat.zero_add, Nat.reduceAdd]
theorem small_points (n : Nat) : GuideNetpoints (n + 60) smallNet 0 3 = some [smallP] := by
  refine same_of fun o => ?_
  have h1 : GuideNetpoints.loop1 smallNet (GuideNetrides smallNet 0 0 (-1)) [] = some [(100, [⟨0, 0, 1⟩, ⟨0, 0, 2⟩])] := by kernel_rfl
  have h2 : ∀ o, GuideNetpoints.loop2 smallNet 3 [(100, [⟨0, 0, 1⟩, ⟨0, 0, 2⟩])] [] [] o = some ([smallP], [(smallP, true)]) := by
    intro o
    unfold GuideNetpoints.loop2
    refine rngO_single (fun o => ?_) _ _
    dsimp only
    unfold GuideNetpoints.loop2.step
    rw [small_ends, Option.bind_some]
    show Option.bind (GuideNetpoints.loop3 smallNet 3 100 smallE 4 [] [] (o.sub 0)) _ = _
    rw [small3]; rfl
  have h3 : SlicesSortFuncLguidePoint_v1 (n + 60) [smallP] = some [smallP] := by kernel_rfl
  unfold GuideNetpoints.o
  rw [bnd_eq, h1, Option.bind_some]
  show Option.bind (GuideNetpoints.loop2 smallNet 3 [(100, [⟨0, 0, 1⟩, ⟨0, 0, 2⟩])] [] [] (o.sub 0)) _ = _
  rw [h2, Option.bind_some]
  dsimp only
  rw [h3]; rfl
theorem small_in : InApiDay Fishlaw2small := by
  simp [InApiDay, inL, InApiTrain, InApiStop, inI, Fishlaw2small, Fishlaw2small_1, bnd]
theorem small_check : GuideCheck Fishlaw2small = some 0 := by
  obtain ⟨e, h1, h2, _⟩ := check_ok small_in
  have h3 : Fishref2GuideFault Fishlaw2small = some 0 := by kernel_rfl
  rw [h1] at h3
  injection h3 with h3
  rw [h2, h3]
theorem small_asked : Guidecheck Fishlaw2small 40 0 3 [0] = some 0 := by
  unfold Guidecheck GuidecheckLeast
  rw [small_check]
  kernel_rfl
theorem small_best (n : Nat) : ((SlicesDeleteFuncLguidePoint_v1 (n + 60) [smallP] 0).bind fun q64 => (if (((q64.length : Nat) : Int) == 0) then some ((GuideJourney.mk []), false) else ((SlicesMinFuncLguidePoint_v1 (n + 60) q64).bind fun q76 => ((GuideNetleastOf (n + 60) smallNet 0 3 q76).bind fun q83 => some (q83, true))))) = some (⟨[⟨0, 0, 1⟩, ⟨1, 0, 1⟩]⟩, true) := by kernel_rfl
theorem guides_true (n : Nat) : Fishlaw2guides (n + 60) = some true := by
  have h1 : GuideNetearliest (n + 60) smallNet 0 0 3 = some (⟨[⟨0, 0, 1⟩, ⟨1, 0, 1⟩]⟩, true) := by
    rw [GuideNetearliest, small_points n, Option.bind_some]
    exact small_best n
  have h2 : GuideEarliest (n + 60) Fishlaw2small 0 0 3 40 = some (⟨[⟨0, 0, 1⟩, ⟨1, 0, 1⟩]⟩, 0) := by
    rw [GuideEarliest, small_asked, Option.bind_some]
    show (((GuideNetearliest (n + 60) smallNet 0 0 3).bind _) : Option (GuideJourney × Int)) = _
    rw [h1]; rfl
  rw [Fishlaw2guides, bnd_eq, h2]
  rfl
theorem gx_neg {α : Type} {l : List α} {i : Int} (h : i < 0) : gx l i = none := by
  cases e : gx l i with
  | none => rfl
  | some x => obtain ⟨h1, _⟩ := gx_some e; omega
theorem gx_mem {α : Type} {l : List α} {i : Int} {x : α} (h : gx l i = some x) : x ∈ l := List.mem_of_getElem? (gx_some h).2.2
theorem gx_lt {α : Type} {l : List α} {i : Int} {x : α} (h : gx l i = some x) : 0 ≤ i ∧ i < l.length := by obtain ⟨h1, h2, _⟩ := gx_some h; omega
/-! journeys -/
def validR (d : ApiDay) (p : GuideRide) : Prop := ∃ t a b, gx d.Trains p.Train = some t ∧ gx t.Stops p.On = some a ∧ gx t.Stops p.Off = some b
theorem within_len {x : Int} {n : Nat} (hn : n ≤ 1000) : Guidewithin x 0 (w64 ((n : Int) - 1)) = decide (0 ≤ x ∧ x < n) := by
  rw [w64_id (by omega)]
  cases h : Guidewithin x 0 ((n : Int) - 1) with
  | true => have := (within_iff _ _ _).1 h; exact (decide_eq_true (by omega)).symm
  | false =>
    refine (decide_eq_false ?_).symm
    intro c
    have := (within_iff x 0 ((n : Int) - 1)).2 (by omega)
    rw [h] at this; cases this
theorem jour1 {d : ApiDay} (hd : DayOk d) (j : GuideJourney) (hj : j.Rides.length ≤ 9223372036854775807) (ls : Int) (tm : Bool) : ∀ (r : List GuideRide) (k : Nat), j.Rides.drop k = r → (0 < k → ∃ p, j.Rides[k - 1]? = some p ∧ validR d p) →
    ∃ z, GuideNetjourney.loop1 ⟨d, ls⟩ j tm r k = some z ∧ Fishref2JourneyFault.loop1 d j ls tm r k = some z ∧ (z = .next () → ∀ p ∈ r, validR d p ∧ p.On < p.Off) ∧ ∀ e, z = .ret e → e ≠ 0
  | [], k, _, _ => ⟨_, rfl, rfl, fun _ => by simp, fun _ h => by cases h⟩
  | x :: r, k, hdr, hp => by
    obtain ⟨d1, d2, d3⟩ := drop_cons hdr
    have ht := hd.form.1
    rw [GuideNetjourney.loop1, Fishref2JourneyFault.loop1, bnd_eq, within_len (show d.Trains.length ≤ 1000 by omega)]
    dsimp only
    by_cases c1 : 0 ≤ x.Train ∧ x.Train < d.Trains.length
    · obtain ⟨t, ht1, ht2⟩ := gx_in c1.1 c1.2
      have hs := (hd.form.2.2.1 t ht2).2.1
      have e1 : (if decide (x.Train < 0) = true then true else decide (x.Train ≥ ((d.Trains).length : Int))) = false := by
        rw [if_neg (by simp; omega)]; exact decide_eq_false (by omega)
      have e2 : (!decide (0 ≤ x.Train ∧ x.Train < d.Trains.length)) = false := by rw [decide_eq_true c1]; rfl
      rw [e1, e2]
      simp only [Bool.false_eq_true, if_false, ht1, Option.bind_some, bnd_eq]
      rw [within_len (by omega), within_len (by omega)]
      by_cases c2 : 0 ≤ x.On ∧ x.On < t.Stops.length
      · by_cases c3 : 0 ≤ x.Off ∧ x.Off < t.Stops.length
        · obtain ⟨a, ha1, ha2⟩ := gx_in c2.1 c2.2
          obtain ⟨b, hb1, hb2⟩ := gx_in c3.1 c3.2
          have e3 : (if (!decide (0 ≤ x.On ∧ x.On < t.Stops.length)) = true then true else !decide (0 ≤ x.Off ∧ x.Off < t.Stops.length)) = false := by
            rw [decide_eq_true c2, decide_eq_true c3]; rfl
          have e4 : (if decide (x.On < 0) = true then true else (if decide (x.On ≥ ((t.Stops).length : Int)) = true then true else (if decide (x.Off < 0) = true then true else decide (x.Off ≥ ((t.Stops).length : Int))))) = false := by
            rw [if_neg (by simp; omega), if_neg (by simp; omega), if_neg (by simp; omega)]; exact decide_eq_false (by omega)
          rw [e3, e4]
          simp only [Bool.false_eq_true, if_false]
          by_cases c4 : x.On ≥ x.Off
          · exact ⟨.ret 1, by simp [c4], by simp [c4], (fun h => by cases h), (fun e h => by injection h with h; omega)⟩
          · simp only [decide_eq_false c4, Bool.false_eq_true, if_false]
            have hv : validR d x := ⟨t, a, b, ht1, ha1, hb1⟩
            obtain ⟨z, z1, z2, z3, z4⟩ := jour1 hd j hj ls tm r (k + 1) d3 (fun _ => ⟨x, d2, hv⟩)
            have hz : z = .next () → ∀ p ∈ x :: r, validR d p ∧ p.On < p.Off := by
              intro h p hp
              rcases List.mem_cons.1 hp with rfl | hp
              · exact ⟨hv, by omega⟩
              · exact z3 h p hp
            rcases Nat.eq_zero_or_pos k with c5 | c5
            · subst c5
              simp only [Int.natCast_zero, beq_self_eq_true, if_true]
              exact ⟨z, z1, z2, hz, z4⟩
            · have e5 : (((k : Nat) : Int) == 0) = false := by
                have : ¬ ((k : Nat) : Int) = 0 := by omega
                simpa using this
              rw [e5]
              obtain ⟨p, hp1, t2, a2, b2, hp2, hp3, hp4⟩ := hp c5
              have hpk : j.Rides[k - 1]'(by omega) = p := by
                obtain ⟨_, h⟩ := List.getElem?_eq_some_iff.1 hp1
                exact h
              simp only [Bool.false_eq_true, if_false]
              rw [gx_prev c5 (by omega) hj, hpk]
              simp only [Option.bind_some, hp2, hp4, ha1]
              have f1 : GuideNeton ⟨d, ls⟩ x = some a := by rw [GuideNeton]; simp only [ht1, Option.bind_some, ha1]
              have f2 : GuideNetoff ⟨d, ls⟩ p = some b2 := by rw [GuideNetoff]; simp only [hp2, Option.bind_some, hp4]
              simp only [f1, f2, Option.bind_some]
              have e6 : (x.Train == p.Train) = (p.Train == x.Train) := by rw [Bool.eq_iff_iff, beq_iff_eq, beq_iff_eq]; exact eq_comm
              rw [e6]
              cases c6 : (p.Train == x.Train) with
              | true => exact ⟨.ret 1, by simp, by simp, (fun h => by cases h), (fun e h => by injection h with h; omega)⟩
              | false =>
                simp only [Bool.false_eq_true, if_false]
                rw [Option.bind_some, Option.bind_some]
                cases c7 : (a.Station != b2.Station) with
                | true => exact ⟨.ret 1, by simp, by simp, (fun h => by cases h), (fun e h => by injection h with h; omega)⟩
                | false =>
                  simp only [Bool.false_eq_true, if_false]
                  cases tm with
                  | false => exact ⟨z, z1, z2, hz, z4⟩
                  | true =>
                    simp only [if_true, Option.bind_some]
                    cases c8 : decide (a.Dep < w64 (b2.Arr + ls)) with
                    | true => exact ⟨.ret 13, if_pos rfl, if_pos rfl, (fun h => by cases h), (fun e h => by injection h with h; omega)⟩
                    | false => simp only [Bool.false_eq_true, if_false]; exact ⟨z, z1, z2, hz, z4⟩
        · have e3 : (if (!decide (0 ≤ x.On ∧ x.On < t.Stops.length)) = true then true else !decide (0 ≤ x.Off ∧ x.Off < t.Stops.length)) = true := by
            rw [decide_eq_true c2, decide_eq_false c3]; rfl
          have e4 : (if decide (x.On < 0) = true then true else (if decide (x.On ≥ ((t.Stops).length : Int)) = true then true else (if decide (x.Off < 0) = true then true else decide (x.Off ≥ ((t.Stops).length : Int))))) = true := by
            rw [if_neg (by simp; omega), if_neg (by simp; omega)]
            by_cases c : x.Off < 0
            · rw [if_pos (by simpa using c)]
            · rw [if_neg (by simpa using c)]; exact decide_eq_true (by omega)
          rw [e3, e4]
          exact ⟨.ret 3, by simp, by simp, (fun h => by cases h), (fun e h => by injection h with h; omega)⟩
      · have e3 : (if (!decide (0 ≤ x.On ∧ x.On < t.Stops.length)) = true then true else !decide (0 ≤ x.Off ∧ x.Off < t.Stops.length)) = true := by
          rw [decide_eq_false c2]; rfl
        have e4 : (if decide (x.On < 0) = true then true else (if decide (x.On ≥ ((t.Stops).length : Int)) = true then true else (if decide (x.Off < 0) = true then true else decide (x.Off ≥ ((t.Stops).length : Int))))) = true := by
          by_cases c : x.On < 0
          · rw [if_pos (by simpa using c)]
          · rw [if_neg (by simpa using c), if_pos (by simp; omega)]
        rw [e3, e4]
        exact ⟨.ret 3, by simp, by simp, (fun h => by cases h), (fun e h => by injection h with h; omega)⟩
    · have e1 : (if decide (x.Train < 0) = true then true else decide (x.Train ≥ ((d.Trains).length : Int))) = true := by
        by_cases c : x.Train < 0
        · rw [if_pos (by simpa using c)]
        · rw [if_neg (by simpa using c)]; exact decide_eq_true (by omega)
      rw [e1, decide_eq_false c1]
      exact ⟨.ret 3, by simp, by simp, (fun h => by cases h), (fun e h => by injection h with h; omega)⟩
theorem journey_ok {d : ApiDay} (hd : DayOk d) (j : GuideJourney) (ls : Int) (tm : Bool) (h0 : 0 ≤ ls ∧ ls ≤ 28800) :
    ∃ e, GuideNetjourney ⟨d, ls⟩ j tm = some e ∧ Fishref2JourneyFault d j ls tm = some e ∧ (e = 0 → 1 ≤ j.Rides.length ∧ j.Rides.length ≤ 4 ∧ ∀ p ∈ j.Rides, validR d p ∧ p.On < p.Off) := by
  rw [GuideNetjourney, Fishref2JourneyFault]
  rw [show Fishref2within ls 0 28800 = Guidewithin ls 0 28800 from rfl, (within_iff ls 0 28800).2 h0]
  rw [show Fishref2within ((j.Rides.length : Nat) : Int) 1 4 = Guidewithin ((j.Rides.length : Nat) : Int) 1 4 from rfl]
  cases c : Guidewithin ((j.Rides.length : Nat) : Int) 1 4 with
  | false => exact ⟨4, by simp, by simp, fun h => by cases h⟩
  | true =>
    have w := (within_iff _ _ _).1 c
    simp only [Bool.not_true, Bool.false_eq_true, if_false]
    obtain ⟨z, z1, z2, z3, z4⟩ := jour1 hd j (by omega) ls tm j.Rides 0 (List.drop_zero) (fun h => absurd h (Nat.lt_irrefl 0))
    rw [z1, z2]
    cases z with
    | ret r => exact ⟨r, rfl, rfl, fun h => absurd h (z4 r rfl)⟩
    | next u => exact ⟨0, rfl, rfl, fun _ => ⟨by omega, by omega, z3 rfl⟩⟩
/-! who rides each leg -/
def hit (t k : Nat) (r : GuideRide) : Bool := r.Train == (t : Int) && (decide (r.On ≤ (k : Int)) && decide ((k : Int) < r.Off))
def cnt (t k : Nat) (l : List GuideJourney) : Nat := ((l.flatMap (·.Rides)).filter (hit t k)).length
def vl (rows : List (List Int)) (t k : Nat) : Int := (((rows[t]?).getD [])[k]?).getD 0
def Sh (d : ApiDay) (rows : List (List Int)) : Prop := rows.length = d.Trains.length ∧ ∀ (t : Nat) (tr : ApiTrain) (row : List Int), d.Trains[t]? = some tr → rows[t]? = some row → row.length + 1 = tr.Stops.length
theorem vl_set {rows : List (List Int)} {row : List Int} {T K : Nat} {x : Int} (hT : T < rows.length) (hr : rows[T]? = some row) (hK : K < row.length) (t k : Nat) : vl (rows.set T (row.set K x)) t k = if t = T ∧ k = K then x else vl rows t k := by
  unfold vl
  by_cases c : t = T
  · subst c
    rw [List.getElem?_set, if_pos rfl, if_pos hT, hr]
    simp only [Option.getD_some, true_and]
    by_cases c2 : k = K
    · subst c2; simp [hK]
    · rw [if_neg c2, List.getElem?_set, if_neg (Ne.symm c2)]
  · rw [List.getElem?_set, if_neg (Ne.symm c), if_neg (fun h => c h.1)]
theorem add5 {d : ApiDay} {r : GuideRide} (hv : validR d r) (hB : r.Off ≤ 1000) : ∀ (fu : Nat) (q : Int) (rows : List (List Int)), 0 ≤ q → (r.Off - q).toNat < fu → Sh d rows → (∀ k : Nat, q ≤ (k : Int) → 0 ≤ vl rows r.Train.toNat k ∧ vl rows r.Train.toNat k ≤ 1000000) →
    ∃ q' rows', GuideCrowd.loop5 r fu q rows = some (q', rows') ∧ Sh d rows' ∧ ∀ t k, vl rows' t k = vl rows t k + (if r.Train = (t : Int) ∧ q ≤ (k : Int) ∧ (k : Int) < r.Off then 1 else 0)
  | 0, _, _, _, h, _, _ => absurd h (Nat.not_lt_zero _)
  | fu + 1, q, rows, h0, h, hs, hb => by
    rw [GuideCrowd.loop5]
    obtain ⟨tr, a, b, g1, g2, g3⟩ := hv
    by_cases c : q < r.Off
    · rw [if_pos (by simpa using c)]
      obtain ⟨e1, e2, e3⟩ := gx_some g1
      obtain ⟨f1, f2, f3⟩ := gx_some g3
      have hl : r.Train.toNat < rows.length := by rw [hs.1]; exact e2
      have hr : rows[r.Train.toNat]? = some (rows[r.Train.toNat]) := List.getElem?_eq_getElem hl
      generalize rows[r.Train.toNat] = row at hr
      have hlen := hs.2 _ _ _ e3 hr
      have g4 : gx rows r.Train = some row := by rw [e1, gx_nat]; simpa using hr
      have hq : q.toNat < row.length := by omega
      have eq : q = ((q.toNat : Nat) : Int) := by omega
      have g5 : gx row q = some row[q.toNat] := by have := gx_at hq; rwa [← eq] at this
      have hvl : vl rows r.Train.toNat q.toNat = row[q.toNat] := by unfold vl; rw [hr, Option.getD_some, List.getElem?_eq_getElem hq, Option.getD_some]
      have hb1 := hb q.toNat (by omega)
      rw [hvl] at hb1
      rw [g4, Option.bind_some, g5, Option.bind_some, ix_in h0 (by omega), Option.bind_some, sx_in h0 (by omega), Option.bind_some, w64_id (by omega), w64_id (by omega)]
      have hset := vl_set (x := row[q.toNat] + 1) hl hr hq
      have hs2 : Sh d (rows.set r.Train.toNat (row.set q.toNat (row[q.toNat] + 1))) := by
        refine ⟨by rw [List.length_set]; exact hs.1, fun t u w hu hw => ?_⟩
        rw [List.getElem?_set] at hw
        split at hw
        · rename_i c2
          subst c2
          injection hw with hw
          subst hw
          rw [List.length_set]
          rw [e3] at hu
          injection hu with hu
          subst hu
          exact hlen
        · exact hs.2 t u w hu hw
      obtain ⟨q', rows', k1, k2, k3⟩ := add5 ⟨tr, a, b, g1, g2, g3⟩ hB fu (q + 1) _ (by omega) (by omega) hs2 (fun k hk => by
        rw [hset, if_neg (by omega)]
        exact hb k (by omega))
      refine ⟨q', rows', k1, k2, fun t k => ?_⟩
      rw [k3, hset]
      by_cases c2 : t = r.Train.toNat ∧ k = q.toNat
      · obtain ⟨rfl, rfl⟩ := c2
        rw [if_pos ⟨rfl, rfl⟩, if_neg (by omega), if_pos (by omega), hvl]; omega
      · rw [if_neg c2]
        by_cases c3 : r.Train = (t : Int) ∧ q + 1 ≤ (k : Int) ∧ (k : Int) < r.Off
        · rw [if_pos c3, if_pos (by omega)]
        · rw [if_neg c3, if_neg (by omega)]
    · rw [if_neg (by simpa using c)]
      refine ⟨q, rows, rfl, hs, fun t k => ?_⟩
      rw [if_neg (by omega)]; omega
theorem hit_iff (t k : Nat) (r : GuideRide) : hit t k r = true ↔ r.Train = (t : Int) ∧ r.On ≤ (k : Int) ∧ (k : Int) < r.Off := by
  unfold hit; simp
theorem hit_if (t k : Nat) (r : GuideRide) : (if r.Train = (t : Int) ∧ r.On ≤ (k : Int) ∧ (k : Int) < r.Off then (1 : Int) else 0) = if hit t k r then 1 else 0 := by
  by_cases h : hit t k r = true
  · rw [if_pos h, if_pos ((hit_iff t k r).1 h)]
  · rw [if_neg h, if_neg (fun c => h ((hit_iff t k r).2 c))]
theorem add4 {d : ApiDay} (hd : DayOk d) : ∀ (l : List GuideRide) (rows : List (List Int)), (∀ p ∈ l, validR d p ∧ p.On < p.Off) → Sh d rows → (∀ t k, 0 ≤ vl rows t k ∧ vl rows t k + l.length ≤ 1000000) →
    ∃ rows', GuideCrowd.loop4 60 l rows = some rows' ∧ Sh d rows' ∧ ∀ t k, vl rows' t k = vl rows t k + ((l.filter (hit t k)).length : Int)
  | [], rows, _, hs, _ => ⟨rows, rfl, hs, fun t k => by simp⟩
  | p :: l, rows, hv, hs, hb => by
    obtain ⟨v1, v2⟩ := hv p (List.mem_cons_self ..)
    have v0 := v1
    obtain ⟨tr, a, b, g1, g2, g3⟩ := v0
    have hst := (hd.form.2.2.1 tr (gx_mem g1)).2.1
    have h1 := gx_lt g2
    have h2 := gx_lt g3
    simp only [List.length_cons] at hb
    obtain ⟨q', r1, k1, k2, k3⟩ := add5 v1 (by omega) 60 p.On rows h1.1 (by omega) hs (fun k _ => by have := hb p.Train.toNat k; omega)
    obtain ⟨r2, m1, m2, m3⟩ := add4 hd l r1 (fun p h => hv p (List.mem_cons_of_mem _ h)) k2 (fun t k => by
      rw [k3]; have := hb t k; split <;> omega)
    refine ⟨r2, by rw [GuideCrowd.loop4, k1]; exact m1, m2, fun t k => ?_⟩
    rw [m3, k3, hit_if]
    cases h : hit t k p <;> simp [h] <;> omega
theorem add3 {d : ApiDay} (hd : DayOk d) : ∀ (l : List GuideJourney) (rows : List (List Int)), (∀ j ∈ l, j.Rides.length ≤ 4 ∧ ∀ p ∈ j.Rides, validR d p ∧ p.On < p.Off) → Sh d rows → (∀ t k, 0 ≤ vl rows t k ∧ vl rows t k + 4 * l.length ≤ 1000000) →
    ∃ rows', GuideCrowd.loop3 60 l rows = some rows' ∧ Sh d rows' ∧ ∀ t k, vl rows' t k = vl rows t k + (cnt t k l : Int)
  | [], rows, _, hs, _ => ⟨rows, rfl, hs, fun t k => by simp [cnt]⟩
  | j :: l, rows, hv, hs, hb => by
    obtain ⟨v0, v1⟩ := hv j (List.mem_cons_self ..)
    simp only [List.length_cons] at hb
    obtain ⟨r1, k1, k2, k3⟩ := add4 hd j.Rides rows v1 hs (fun t k => by have := hb t k; omega)
    obtain ⟨r2, m1, m2, m3⟩ := add3 hd l r1 (fun p h => hv p (List.mem_cons_of_mem _ h)) k2 (fun t k => by
      rw [k3]
      have := hb t k
      have := List.length_filter_le (hit t k) j.Rides
      omega)
    refine ⟨r2, by rw [GuideCrowd.loop3, k1]; exact m1, m2, fun t k => ?_⟩
    rw [m3, k3]
    simp only [cnt, List.flatMap_cons, List.filter_append, List.length_append]
    omega
theorem zero2 : ∀ (l : List ApiTrain) (q : List (List Int)), (∀ t ∈ l, trainForm t) → q.length + l.length < 4294967296 → GuideCrowd.loop2 l q = some (q ++ l.map fun t => List.replicate (t.Stops.length - 1) 0)
  | [], q, _, _ => by simp [GuideCrowd.loop2]
  | t :: r, q, ht, h => by
    simp only [List.length_cons] at h
    obtain ⟨t1, t2, t3, t4⟩ := ht t (List.mem_cons_self ..)
    have e : w64 (((t.Stops.length : Nat) : Int) - 1) = ((t.Stops.length - 1 : Nat) : Int) := by rw [w64_id (by omega)]; omega
    rw [GuideCrowd.loop2, e, mks_in (by omega), Option.bind_some, apd_lt (by simp; omega), Option.bind_some, zero2 r _ (fun t h => ht t (List.mem_cons_of_mem _ h)) (by simp; omega)]
    simp
theorem vl_zero (l : List ApiTrain) (t k : Nat) : vl (l.map fun t => List.replicate (t.Stops.length - 1) 0) t k = 0 := by
  unfold vl
  rw [List.getElem?_map]
  cases l[t]? with
  | none => simp
  | some u => simp only [Option.map_some, Option.getD_some, List.getElem?_replicate]; split <;> rfl
theorem sh_zero {d : ApiDay} (hf : ∀ t ∈ d.Trains, trainForm t) : Sh d (d.Trains.map fun t => List.replicate (t.Stops.length - 1) 0) := by
  refine ⟨by simp, fun t u w hu hw => ?_⟩
  rw [List.getElem?_map, hu] at hw
  injection hw with hw
  subst hw
  have := (hf u (List.mem_of_getElem? hu)).1
  simp; omega
theorem less5 (t k : Nat) : ∀ (l : List GuideRide) (q : Int), -1000000 ≤ q - l.length → q ≤ 1000000 → Fishlaw2GuideCrowds.loop5 t k l q = q - ((l.filter (hit t k)).length : Int)
  | [], q, _, _ => by simp [Fishlaw2GuideCrowds.loop5]
  | p :: l, q, h0, h1 => by
    simp only [List.length_cons] at h0
    rw [Fishlaw2GuideCrowds.loop5, bnd_eq, bnd_eq]
    have e : (if (p.Train == ((t : Nat) : Int)) = true then (if decide (p.On ≤ ((k : Nat) : Int)) = true then decide (((k : Nat) : Int) < p.Off) else false) else false) = hit t k p := by
      unfold hit
      cases (p.Train == ((t : Nat) : Int)) <;> cases decide (p.On ≤ ((k : Nat) : Int)) <;> rfl
    rw [e]
    cases h : hit t k p with
    | true => rw [if_pos rfl, w64_id (by omega), less5 t k l _ (by omega) (by omega)]; simp [h]; omega
    | false => rw [if_neg (by decide), less5 t k l _ (by omega) (by omega)]; simp [h]
theorem less4 (t k : Nat) : ∀ (l : List GuideJourney) (q : Int), (∀ j ∈ l, j.Rides.length ≤ 4) → -1000000 ≤ q - 4 * l.length → q ≤ 1000000 → Fishlaw2GuideCrowds.loop4 t k l q = q - (cnt t k l : Int)
  | [], q, _, _, _ => by simp [Fishlaw2GuideCrowds.loop4, cnt]
  | j :: l, q, hj, h0, h1 => by
    simp only [List.length_cons] at h0
    have v0 := hj j (List.mem_cons_self ..)
    have := List.length_filter_le (hit t k) j.Rides
    rw [Fishlaw2GuideCrowds.loop4, bnd_eq, less5 t k _ _ (by omega) (by omega), less4 t k l _ (fun p h => hj p (List.mem_cons_of_mem _ h)) (by omega) (by omega)]
    simp only [cnt, List.flatMap_cons, List.filter_append, List.length_append]
    omega
theorem less3 (l : List GuideJourney) (hj : ∀ j ∈ l, j.Rides.length ≤ 4) (hl : l.length ≤ 100) (t : Nat) : ∀ (row : List Int) (k : Nat), (∀ i x, row[i]? = some x → x = (cnt t (k + i) l : Int)) → Fishlaw2GuideCrowds.loop3 l t row k = .next ()
  | [], _, _ => rfl
  | x :: row, k, hx => by
    have e := hx 0 x rfl
    have hc : cnt t k l ≤ 400 := by
      have h1 : ∀ m : List GuideJourney, (∀ j ∈ m, j.Rides.length ≤ 4) → (m.flatMap (·.Rides)).length ≤ 4 * m.length := by
        intro m
        induction m with
        | nil => intro _; simp
        | cons j m ih =>
          intro h
          have := ih fun p q => h p (List.mem_cons_of_mem _ q)
          have := h j (List.mem_cons_self ..)
          simp only [List.flatMap_cons, List.length_append, List.length_cons]; omega
      have := h1 l hj
      have := List.length_filter_le (hit t k) (l.flatMap (·.Rides))
      unfold cnt; omega
    simp only [Nat.add_zero] at e
    rw [Fishlaw2GuideCrowds.loop3, bnd_eq, less4 t k l _ hj (by omega) (by omega), e, Int.sub_self]
    rw [if_neg (by decide)]
    exact less3 l hj hl t row (k + 1) fun i y hy => by
      have := hx (i + 1) y (by simpa using hy)
      rw [this, show k + (i + 1) = k + 1 + i by omega]
theorem less2 {d : ApiDay} (hd : DayOk d) (l : List GuideJourney) (hj : ∀ j ∈ l, j.Rides.length ≤ 4) (hl : l.length ≤ 100) (q : List (List Int) × Int) (hs : Sh d q.1) (hq : ∀ t k, vl q.1 t k = (cnt t k l : Int)) : ∀ (r : List ApiTrain) (t : Nat), d.Trains.drop t = r →
    Fishlaw2GuideCrowds.loop2 l q r t = some (.next ())
  | [], _, _ => rfl
  | u :: r, t, hdr => by
    obtain ⟨d1, d2, d3⟩ := drop_cons hdr
    have ht : t < q.1.length := by rw [hs.1]; exact d1
    have hrow : q.1[t]? = some q.1[t] := List.getElem?_eq_getElem ht
    have hlen := hs.2 t u _ d2 hrow
    have hu := hd.form.2.2.1 u (List.mem_of_getElem? d2)
    rw [Fishlaw2GuideCrowds.loop2, gx_at ht, Option.bind_some]
    have e : (((q.1[t].length : Nat) : Int) != ((u.Legs.length : Nat) : Int)) = false := by
      have : q.1[t].length = u.Legs.length := by have := hu.2.2.1; omega
      rw [this]; simp
    rw [e]
    simp only [Bool.false_eq_true, if_false, Option.bind_some, bnd_eq]
    rw [less3 l hj hl t _ 0 fun i x hx => by
      have := hq t i
      unfold vl at this
      rw [hrow, Option.getD_some, hx, Option.getD_some] at this
      rw [this, Nat.zero_add]]
    exact less2 hd l hj hl q hs hq r (t + 1) d3
theorem errs {d : ApiDay} (hd : DayOk d) : ∀ (l : List GuideJourney),
    (∃ e, e ≠ 0 ∧ GuideCrowd.loop1 d l = some (.ret ([], e)) ∧ Fishlaw2GuideCrowds.loop1 d l 0 = some e) ∨
    (GuideCrowd.loop1 d l = some (.next ()) ∧ Fishlaw2GuideCrowds.loop1 d l 0 = some 0 ∧ ∀ j ∈ l, j.Rides.length ≤ 4 ∧ ∀ p ∈ j.Rides, validR d p ∧ p.On < p.Off)
  | [] => .inr ⟨rfl, rfl, by simp⟩
  | j :: l => by
    obtain ⟨e, h1, h2, h3⟩ := journey_ok hd j 0 false (by omega)
    rw [GuideCrowd.loop1, Fishlaw2GuideCrowds.loop1, h1, h2, Option.bind_some]
    simp only [beq_self_eq_true, if_true, Option.bind_some]
    by_cases c : e = 0
    · subst c
      simp only [bne_self_eq_false, Bool.false_eq_true, if_false]
      rcases errs hd l with ⟨e, he, k1, k2⟩ | ⟨k1, k2, k3⟩
      · exact .inl ⟨e, he, k1, k2⟩
      · refine .inr ⟨k1, k2, fun i hi => ?_⟩
        rcases List.mem_cons.1 hi with rfl | hi
        · exact ⟨(h3 rfl).2.1, (h3 rfl).2.2⟩
        · exact k3 i hi
    · refine .inl ⟨e, c, ?_, ?_⟩
      · rw [if_pos (by simpa using c)]
      · exact stay d l e c
where
  stay (d : ApiDay) : ∀ (l : List GuideJourney) (e : Int), e ≠ 0 → Fishlaw2GuideCrowds.loop1 d l e = some e
  | [], _, _ => rfl
  | j :: l, e, h => by
    have : (e == 0) = false := by simpa using h
    rw [Fishlaw2GuideCrowds.loop1, this]
    simp only [Bool.false_eq_true, if_false, Option.bind_some]
    exact stay d l e h
theorem GuideCrowds_law (x0 : ApiDay) (x1 : List GuideJourney) (_ : x0.Trains.length ≤ 9223372036854775807) (_ : x0.Turns.length ≤ 9223372036854775807) (_ : x1.length ≤ 9223372036854775807) (i0 : InApiDay x0) (_ : (inL InGuideJourney) x1) :
    ∃ fu, Fishlaw2GuideCrowds fu x0 x1 = some true := by
  refine ⟨60, ?_⟩
  obtain ⟨e, h1, h2, h3⟩ := check_ok i0
  have hg := guides_true 0
  rw [Nat.zero_add] at hg
  rw [Fishlaw2GuideCrowds, GuideCrowd, h1, h2, hg]
  by_cases c : e = 0
  · subst c
    simp only [beq_self_eq_true, bne_self_eq_false, if_true, Bool.false_eq_true, if_false, bnd_eq, Option.bind_some]
    by_cases c2 : ((x1.length : Nat) : Int) > 100
    · simp only [decide_eq_true c2, if_true, Option.bind_some]
      rw [errs.stay x0 x1 4 (by decide), Option.bind_some]
      rfl
    · simp only [decide_eq_false c2, Bool.false_eq_true, if_false]
      rcases errs (h3 rfl) x1 with ⟨e, he, k1, k2⟩ | ⟨k1, k2, k3⟩
      · rw [k1, k2]
        simp only [Option.bind_some]
        rw [if_pos (by simpa using he)]
        simp
      · rw [k1, k2]
        simp only [Option.bind_some]
        have hf := (h3 rfl).form
        rw [zero2 _ _ hf.2.2.1 (by have := hf.1; simp; omega), Option.bind_some, List.nil_append]
        obtain ⟨rows, m1, m2, m3⟩ := add3 (h3 rfl) x1 _ k3 (sh_zero hf.2.2.1) (fun t k => by rw [vl_zero]; omega)
        rw [m1]
        simp only [Option.bind_some]
        rw [if_neg (by decide)]
        have hl : (((rows.length : Nat) : Int) != ((x0.Trains.length : Nat) : Int)) = false := by rw [m2.1]; simp
        simp only [Bool.not_true, Bool.false_eq_true, if_false, bne_self_eq_false, hl]
        rw [less2 (h3 rfl) x1 (fun j h => (k3 j h).1) (by omega) (rows, 0) m2 (fun t k => by rw [m3, vl_zero]; omega) x0.Trains 0 (List.drop_zero)]
        rfl
  · have c2 : (e != 0) = true := by simpa using c
    have c3 : (e == 0) = false := by simpa using c
    simp only [c2, c3, if_true, Bool.false_eq_true, if_false, bnd_eq, Option.bind_some]
    rw [errs.stay x0 x1 e c, Option.bind_some]
    simp [c]
end Go.Fp
