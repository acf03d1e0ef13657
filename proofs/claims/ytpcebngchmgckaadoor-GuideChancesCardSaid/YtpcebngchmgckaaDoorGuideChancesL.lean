/- GuideChances: the mirror of the law is true of all days, journeys and odds. -/
import Derived.Test.YtpcebngchmgckaaDoorGuideChancesM
import Derived.Test.YtpcebngchmgckaaDoorFpPlain
import Derived.Lib.ItoaLen
import Derived.KernelRfl
namespace Go.Fp
/-! texts of numbers -/
/-- a number's text -/
def tx (n : Int) : ByteArray := ⟨(Lib.itoa n).toArray⟩
theorem itoa_tx {n : Int} (h : -9223372036854775808 ≤ n ∧ n ≤ 9223372036854775807) : itoa n = some (tx n) := by unfold itoa; rw [if_pos h]; rfl
theorem tx_size {n : Int} (h : -9223372036854775808 ≤ n ∧ n ≤ 9223372036854775807) : (tx n).size ≤ 21 := by
  have := Lib.itoa_length_le n h.1 h.2
  unfold tx
  show ((Lib.itoa n).toArray).size ≤ 21
  simpa using this
theorem scat_in {a b : ByteArray} (h : a.size + b.size ≤ 9223372036854775807) : scat a b = some (a ++ b) := by unfold scat; rw [if_pos h]
theorem sbw_in {y x : ByteArray} (h0 : 0 < x.size) (h : y.size + x.size < 4294967296) : sbw y x = some (y ++ x) := by unfold sbw; rw [if_pos ⟨h0, h⟩]
theorem mget_put (m : List (Int × Bool)) (k j : Int) (v : Bool) : mget (mput m k v) j = if j = k then some v else mget m j := by
  induction m with
  | nil => simp [mput, mget]
  | cons p r ih =>
    obtain ⟨a, b⟩ := p
    simp only [mput]
    by_cases h : k = a
    · subst h
      simp only [beq_self_eq_true, if_true, mget]
      by_cases h2 : j = k <;> simp [h2]
    · have hb : (k == a) = false := by simpa using h
      simp only [hb, Bool.false_eq_true, if_false, mget]
      by_cases h2 : j = a
      · subst h2; have : ¬ j = k := fun e => h e.symm; simp [this]
      · have hb2 : (j == a) = false := by simpa using h2
        simp [hb2, ih]
/-! days: what Text says, what Check says -/
def wi (x : Int) : Bool := Planwithin x 0 999999
theorem form2 : ∀ l, Fishref2TextFault.loop2 l = Planform.loop2 l
  | [] => rfl
  | x :: r => by simp only [Fishref2TextFault.loop2, Planform.loop2, form2 r]
theorem form3 : ∀ l, Fishref2TextFault.loop3 l = Planform.loop3 l
  | [] => rfl
  | x :: r => by simp only [Fishref2TextFault.loop3, Planform.loop3, form3 r]
theorem form4 : ∀ l, Fishref2TextFault.loop4 l = Planform.loop4 l
  | [] => rfl
  | x :: r => by simp only [Fishref2TextFault.loop4, Planform.loop4, form4 r]
theorem form1 : ∀ l, Fishref2TextFault.loop1 l = Planform.loop1 l
  | [] => rfl
  | x :: r => by simp only [Fishref2TextFault.loop1, Planform.loop1, form1 r, form2, form3]

def trainForm (t : ApiTrain) : Prop := 1 ≤ t.Stops.length ∧ t.Stops.length ≤ 8 ∧ t.Legs.length + 1 = t.Stops.length ∧ ∀ g ∈ t.Legs, g.length ≤ 4
def dayForm (d : ApiDay) : Prop := d.Trains.length ≤ 12 ∧ d.Turns.length ≤ 8 ∧ (∀ t ∈ d.Trains, trainForm t) ∧ ∀ g ∈ d.Turns, g.length ≤ 12
theorem form3_out : ∀ l, (Planform.loop3 l = .ret 4) ∨ (Planform.loop3 l = .next () ∧ ∀ g ∈ l, g.length ≤ 4)
  | [] => .inr ⟨rfl, by simp⟩
  | x :: r => by
    rw [Planform.loop3]
    by_cases c : ((x.length : Nat) : Int) > 4
    · rw [if_pos (by simpa using c)]; exact .inl rfl
    · rw [if_neg (by simpa using c)]
      rcases form3_out r with h | ⟨h, k⟩
      · exact .inl h
      · refine .inr ⟨h, ?_⟩
        intro g hg
        rcases List.mem_cons.1 hg with rfl | hg
        · omega
        · exact k g hg
theorem form2_out : ∀ l, (Planform.loop2 l = .ret 1) ∨ (Planform.loop2 l = .next ())
  | [] => .inr rfl
  | x :: r => by
    rw [Planform.loop2]
    split
    · exact .inl rfl
    · exact form2_out r
theorem form4_out : ∀ l, (∃ e, e ≠ 0 ∧ Planform.loop4 l = .ret e) ∨ (Planform.loop4 l = .next () ∧ ∀ g ∈ l, g.length ≤ 12)
  | [] => .inr ⟨rfl, by simp⟩
  | x :: r => by
    rw [Planform.loop4]
    split
    · exact .inl ⟨1, by decide, rfl⟩
    · by_cases c : ((x.length : Nat) : Int) > 12
      · rw [if_pos (by simpa using c)]; exact .inl ⟨4, by decide, rfl⟩
      · rw [if_neg (by simpa using c)]
        rcases form4_out r with h | ⟨h, k⟩
        · exact .inl h
        · refine .inr ⟨h, ?_⟩
          intro g hg
          rcases List.mem_cons.1 hg with rfl | hg
          · omega
          · exact k g hg
theorem form1_out : ∀ l, (∃ e, e ≠ 0 ∧ Planform.loop1 l = .ret e) ∨ (Planform.loop1 l = .next () ∧ ∀ t ∈ l, trainForm t)
  | [] => .inr ⟨rfl, by simp⟩
  | x :: r => by
    rw [Planform.loop1, bnd_eq]
    generalize hq : (if (((x.Stops).length : Int) == 0) = true then true else (((x.Legs).length : Int) != (w64 (((x.Stops).length : Int) - 1)))) = q
    cases q with
    | true => exact .inl ⟨1, by decide, rfl⟩
    | false =>
      rw [if_neg (by decide), bnd_eq]
      rcases form2_out x.Legs with h | h
      · rw [h]; exact .inl ⟨1, by decide, rfl⟩
      · rw [h]
        dsimp only
        by_cases c : ((x.Stops.length : Nat) : Int) > 8
        · rw [if_pos (by simpa using c)]; exact .inl ⟨4, by decide, rfl⟩
        · rw [if_neg (by simpa using c), bnd_eq]
          rcases form3_out x.Legs with h3 | ⟨h3, k3⟩
          · rw [h3]; exact .inl ⟨4, by decide, rfl⟩
          · rw [h3]
            dsimp only
            rcases form1_out r with h1 | ⟨h1, k1⟩
            · exact .inl h1
            · refine .inr ⟨h1, ?_⟩
              intro t ht
              rcases List.mem_cons.1 ht with rfl | ht
              · split at hq
                · cases hq
                · rename_i hz
                  rw [w64_id (by omega)] at hq
                  have hq2 : ((t.Legs.length : Nat) : Int) = ((t.Stops.length : Nat) : Int) - 1 := by simpa using hq
                  have hz2 : ¬ t.Stops.length = 0 := by simpa using hz
                  exact ⟨by omega, by omega, by omega, k3⟩
              · exact k1 t ht
theorem form_out (d : ApiDay) : Planform d ≠ 0 ∨ (Planform d = 0 ∧ dayForm d) := by
  rw [Planform, bnd_eq]
  by_cases c : ((d.Trains.length : Nat) : Int) > 12 ∨ ((d.Turns.length : Nat) : Int) > 8
  · left
    rw [if_pos (by rcases c with c | c <;> simp [c])]; decide
  · have c1 : ¬ ((d.Trains.length : Nat) : Int) > 12 := fun h => c (.inl h)
    have c2 : ¬ ((d.Turns.length : Nat) : Int) > 8 := fun h => c (.inr h)
    rw [if_neg (by simp [c1, c2]), bnd_eq]
    rcases form1_out d.Trains with ⟨e, he, h⟩ | ⟨h, k⟩
    · rw [h]; exact .inl he
    · rw [h]
      dsimp only
      rw [bnd_eq]
      rcases form4_out d.Turns with ⟨e, he, h4⟩ | ⟨h4, k4⟩
      · rw [h4]; exact .inl he
      · rw [h4]; exact .inr ⟨rfl, by omega, by omega, k, k4⟩

/-! the numbers -/
def numS (x : ApiStop) : List Int := [x.Station, x.Track, x.Arr, x.Dep]
def numT (t : ApiTrain) : List (List Int) := [t.No, t.Stock] :: (t.Stops.map numS ++ t.Legs)
theorem num2 : ∀ (l : List ApiStop) (q : List (List Int)), q.length + l.length < 4294967296 → Fishref2numbersIn.loop2 l q = some (q ++ l.map numS)
  | [], q, _ => by simp [Fishref2numbersIn.loop2]
  | x :: r, q, h => by
    simp only [List.length_cons] at h
    rw [Fishref2numbersIn.loop2, apd_lt (by simp; omega), Option.bind_some, num2 r _ (by simp; omega)]
    simp [numS]
theorem num1 : ∀ (l : List ApiTrain) (q : List (List Int)), (∀ t ∈ l, trainForm t) → q.length + 17 * l.length < 4294967296 → Fishref2numbersIn.loop1 l q = some (q ++ l.flatMap numT)
  | [], q, _, _ => by simp [Fishref2numbersIn.loop1]
  | t :: r, q, ht, h => by
    simp only [List.length_cons] at h
    obtain ⟨t1, t2, t3, t4⟩ := ht t (List.mem_cons_self ..)
    rw [Fishref2numbersIn.loop1, apd_lt (by simp; omega), Option.bind_some, num2 _ _ (by simp; omega), Option.bind_some, apd_lt (by simp; omega), Option.bind_some,
      num1 r _ (fun t h => ht t (List.mem_cons_of_mem _ h)) (by simp; omega)]
    simp [numT]
theorem numT_len {t : ApiTrain} (h : trainForm t) : (numT t).length ≤ 16 := by
  obtain ⟨t1, t2, t3, t4⟩ := h
  simp [numT]; omega
theorem num_all {d : ApiDay} (h : dayForm d) : Fishref2numbersIn d = some (d.Trains.flatMap numT ++ d.Turns) := by
  obtain ⟨h1, h2, h3, h4⟩ := h
  have hl : ∀ l : List ApiTrain, (∀ t ∈ l, trainForm t) → (l.flatMap numT).length ≤ 16 * l.length := by
    intro l
    induction l with
    | nil => intro _; simp
    | cons t r ih =>
      intro ht
      have := numT_len (ht t (List.mem_cons_self ..))
      have := ih fun t h => ht t (List.mem_cons_of_mem _ h)
      simp only [List.flatMap_cons, List.length_append, List.length_cons]; omega
  have := hl _ h3
  rw [Fishref2numbersIn, num1 _ _ h3 (by simp; omega), Option.bind_some, List.nil_append, apd_lt (by omega)]
  rfl
theorem num6 : ∀ l : List Int, Fishref2TextFault.loop6 l = if l.all wi then .next () else .ret 2
  | [] => rfl
  | x :: r => by
    rw [Fishref2TextFault.loop6, num6 r]
    show (if (!wi x) = true then _ else _) = _
    cases h : wi x <;> simp [h]
theorem num5 (L : List (List Int)) : ∀ (r : List (List Int)) (k : Nat), L.drop k = r → Fishref2TextFault.loop5 L r.length k = some (if r.all (·.all wi) then .next () else .ret 2)
  | [], k, _ => rfl
  | x :: r, k, hd => by
    obtain ⟨d1, d2, d3⟩ := drop_cons hd
    rw [List.length_cons, Fishref2TextFault.loop5, gx_nat, d2, Option.bind_some, bnd_eq, num6]
    cases h : x.all wi with
    | true => simp [h, num5 L r (k + 1) d3]
    | false => simp [h]

/-! the text -/
theorem flag1 : ∀ (l : List Int) (b : Bool), PlanText_1_v1.loop1 l b = (b && l.all wi)
  | [], b => by simp [PlanText_1_v1.loop1]
  | x :: r, b => by
    rw [PlanText_1_v1.loop1, bnd_eq, flag1 r]
    show ((if b = true then wi x else false) && r.all wi) = _
    cases b <;> simp
theorem sent1 : ∀ (l : List Int) (q : ByteArray), inL inI l → q.size + 22 * l.length < 4294967296 → ∃ z, Plansentence.loop1 l q = some z ∧ z.size ≤ q.size + 22 * l.length
  | [], q, _, _ => ⟨q, rfl, by simp⟩
  | x :: r, q, hi, h => by
    simp only [List.length_cons] at h
    have hx := hi x (List.mem_cons_self ..)
    have hs := tx_size hx
    have s32 : (str [32]).size = 1 := rfl
    have e1 : (str [32] ++ tx x).size = 1 + (tx x).size := by rw [ByteArray.size_append, s32]
    have e4 : (q ++ (str [32] ++ tx x)).size = q.size + (1 + (tx x).size) := by rw [ByteArray.size_append, e1]
    obtain ⟨z, h1, h2⟩ := sent1 r (q ++ (str [32] ++ tx x)) (fun y h => hi y (List.mem_cons_of_mem _ h)) (by omega)
    refine ⟨z, ?_, by simp only [List.length_cons]; omega⟩
    rw [Plansentence.loop1, itoa_tx hx, Option.bind_some, scat_in (by omega), Option.bind_some, scat_in (by omega), Option.bind_some]
    exact h1
theorem sent {l : List Int} {w : ByteArray} (hi : inL inI l) (h : w.size + 22 * l.length < 4294967295) : ∃ z, Plansentence w l = some z ∧ 0 < z.size ∧ z.size ≤ w.size + 22 * l.length + 1 := by
  obtain ⟨z, h1, h2⟩ := sent1 l w hi (by omega)
  have s10 : (str [10]).size = 1 := rfl
  have e : (z ++ str [10]).size = z.size + 1 := by rw [ByteArray.size_append, s10]
  exact ⟨z ++ str [10], by rw [Plansentence, h1, Option.bind_some, scat_in (by omega)]; rfl, by omega, by omega⟩
theorem wr {l : List Int} {w y : ByteArray} {b : Bool} (hi : inL inI l) (hw : w.size ≤ 5) (h : y.size + (22 * l.length + 6) < 4294967295) :
    ∃ z, PlanText_1_v1 w l b y = some (b && l.all wi, z) ∧ z.size ≤ y.size + (22 * l.length + 6) := by
  obtain ⟨z, h1, h2, h3⟩ := sent (w := w) hi (by omega)
  have e : (y ++ z).size = y.size + z.size := ByteArray.size_append
  exact ⟨y ++ z, by rw [PlanText_1_v1, flag1, bnd_eq, h1, Option.bind_some, sbw_in h2 (by omega)]; rfl, by omega⟩
theorem txt2 : ∀ (l : List ApiStop) (y : ByteArray) (b : Bool), inL InApiStop l → y.size + 94 * l.length < 4294967000 →
    ∃ z, PlanText.loop2 l y b = some (z, b && (l.map numS).all (·.all wi)) ∧ z.size ≤ y.size + 94 * l.length
  | [], y, b, _, _ => ⟨y, by simp [PlanText.loop2], by simp⟩
  | x :: r, y, b, hi, h => by
    simp only [List.length_cons] at h
    have hx := hi x (List.mem_cons_self ..)
    obtain ⟨z, h1, h2⟩ := wr (l := numS x) (w := str [115, 116, 111, 112]) (y := y) (b := b) (by
      intro v hv
      simp only [numS, List.mem_cons, List.not_mem_nil, or_false] at hv
      rcases hv with rfl | rfl | rfl | rfl
      · exact hx.1
      · exact hx.2.1
      · exact hx.2.2.1
      · exact hx.2.2.2) (by decide) (by simp [numS]; omega)
    simp only [numS, List.length_cons, List.length_nil] at h2
    obtain ⟨z2, h3, h4⟩ := txt2 r z (b && (numS x).all wi) (fun y h => hi y (List.mem_cons_of_mem _ h)) (by omega)
    refine ⟨z2, ?_, by simp only [List.length_cons]; omega⟩
    rw [PlanText.loop2]
    rw [show [x.Station, x.Track, x.Arr, x.Dep] = numS x from rfl, h1, Option.bind_some]
    dsimp only
    rw [h3, List.map_cons, List.all_cons, Bool.and_assoc]
theorem txt3 (w : ByteArray) (hw : w.size ≤ 5) (F : List (List Int) → ByteArray → Bool → Option (ByteArray × Bool)) (hn : ∀ y b, F [] y b = some (y, b))
    (hc : ∀ x r y b, F (x :: r) y b = (PlanText_1_v1 w x b y).bind fun q => F r q.2 q.1) (m : Nat) (hm : m ≤ 100) : ∀ (l : List (List Int)) (y : ByteArray) (b : Bool), inL (inL inI) l → (∀ g ∈ l, g.length ≤ m) → y.size + (22 * m + 6) * l.length < 4294960000 →
    ∃ z, F l y b = some (z, b && l.all (·.all wi)) ∧ z.size ≤ y.size + (22 * m + 6) * l.length
  | [], y, b, _, _, _ => ⟨y, by simp [hn], by simp⟩
  | x :: r, y, b, hi, hl, h => by
    simp only [List.length_cons, Nat.mul_add, Nat.mul_one] at h
    have hx := hi x (List.mem_cons_self ..)
    have hxl := hl x (List.mem_cons_self ..)
    obtain ⟨z, h1, h2⟩ := wr (l := x) (w := w) (y := y) (b := b) hx hw (by omega)
    obtain ⟨z2, h3, h4⟩ := txt3 w hw F hn hc m hm r z (b && x.all wi) (fun y h => hi y (List.mem_cons_of_mem _ h)) (fun g h => hl g (List.mem_cons_of_mem _ h)) (by omega)
    refine ⟨z2, ?_, by simp only [List.length_cons, Nat.mul_add, Nat.mul_one]; omega⟩
    rw [hc, h1, Option.bind_some]
    dsimp only
    rw [h3, List.all_cons, Bool.and_assoc]
theorem txt1 : ∀ (l : List ApiTrain) (y : ByteArray) (b : Bool), inL InApiTrain l → (∀ t ∈ l, trainForm t) → y.size + 1700 * l.length < 4294900000 →
    ∃ z, PlanText.loop1 l y b = some (z, b && (l.flatMap numT).all (·.all wi)) ∧ z.size ≤ y.size + 1700 * l.length
  | [], y, b, _, _, _ => ⟨y, by simp [PlanText.loop1], by simp⟩
  | t :: r, y, b, hi, hf, h => by
    simp only [List.length_cons] at h
    obtain ⟨i1, i2, i3, i4⟩ := hi t (List.mem_cons_self ..)
    obtain ⟨t1, t2, t3, t4⟩ := hf t (List.mem_cons_self ..)
    obtain ⟨z, h1, h2⟩ := wr (l := [t.No, t.Stock]) (w := str [116, 114, 97, 105, 110]) (y := y) (b := b) (by
      intro v hv
      simp only [List.mem_cons, List.not_mem_nil, or_false] at hv
      rcases hv with rfl | rfl
      · exact i1
      · exact i2) (by decide) (by simp; omega)
    simp only [List.length_cons, List.length_nil] at h2
    obtain ⟨z2, h3, h4⟩ := txt2 t.Stops z (b && [t.No, t.Stock].all wi) i3 (by omega)
    obtain ⟨z3, h5, h6⟩ := txt3 (str [108, 101, 103]) (by decide) PlanText.loop3 (fun _ _ => rfl) (fun _ _ _ _ => rfl) 4 (by omega) t.Legs z2 ((b && [t.No, t.Stock].all wi) && (t.Stops.map numS).all (·.all wi)) i4 t4 (by omega)
    obtain ⟨z4, h7, h8⟩ := txt1 r z3 (((b && [t.No, t.Stock].all wi) && (t.Stops.map numS).all (·.all wi)) && t.Legs.all (·.all wi)) (fun y h => hi y (List.mem_cons_of_mem _ h)) (fun y h => hf y (List.mem_cons_of_mem _ h)) (by omega)
    refine ⟨z4, ?_, by simp only [List.length_cons]; omega⟩
    rw [PlanText.loop1, h1, Option.bind_some]
    dsimp only
    rw [h3, Option.bind_some]
    dsimp only
    rw [h5, Option.bind_some]
    dsimp only
    rw [h7]
    simp only [List.flatMap_cons, numT, List.cons_append, List.all_cons, List.all_append, Bool.and_assoc, List.all_nil]
theorem text_ok {d : ApiDay} (hi : InApiDay d) : ∃ e b, Fishref2TextFault d = some e ∧ PlanText d = some (b, e) ∧ (e = 0 → dayForm d) := by
  rcases form_out d with h | ⟨h, k⟩
  · refine ⟨Planform d, str [], ?_, ?_, fun e => absurd e h⟩
    · revert h
      rw [Fishref2TextFault, Planform]
      simp only [form1, form4, bnd_eq]
      cases (if decide (((d.Trains).length : Int) > 12) = true then true else decide (((d.Turns).length : Int) > 8)) with
      | true => intro _; rfl
      | false =>
        simp only [Bool.false_eq_true, if_false]
        cases Planform.loop1 d.Trains with
        | ret r => intro _; rfl
        | next u =>
          dsimp only
          cases Planform.loop4 d.Turns with
          | ret r => intro _; rfl
          | next u => intro h; exact absurd rfl h
    · rw [PlanText, if_pos (by simpa using h)]
  · obtain ⟨k1, k2, k3, k4⟩ := k
    have hnum := num_all ⟨k1, k2, k3, k4⟩
    obtain ⟨z, h1, h2⟩ := txt1 d.Trains ByteArray.empty true hi.1 k3 (by simp; omega)
    have h2' : z.size ≤ 1700 * d.Trains.length := by simpa using h2
    obtain ⟨z2, h3, h4⟩ := txt3 (str [116, 117, 114, 110]) (by decide) PlanText.loop4 (fun _ _ => rfl) (fun _ _ _ _ => rfl) 12 (by omega) d.Turns z (true && (d.Trains.flatMap numT).all (·.all wi)) hi.2 k4 (by omega)
    have hT : Fishref2TextFault d = some (if (d.Trains.flatMap numT ++ d.Turns).all (·.all wi) then 0 else 2) := by
      have h' := h
      rw [Planform] at h'
      simp only [bnd_eq] at h'
      rw [Fishref2TextFault]
      simp only [form1, form4, bnd_eq]
      cases hc : (if decide (((d.Trains).length : Int) > 12) = true then true else decide (((d.Turns).length : Int) > 8)) with
      | true => rw [hc] at h'; cases h'
      | false =>
        rw [hc] at h'
        simp only [Bool.false_eq_true, if_false] at h' ⊢
        cases hA : Planform.loop1 d.Trains with
        | ret r =>
          rw [hA] at h'
          rcases form1_out d.Trains with ⟨e, he, hh⟩ | ⟨hh, _⟩
          · rw [hA] at hh; injection hh with hh; dsimp only at h'; rw [hh] at h'; exact absurd h' he
          · rw [hA] at hh; cases hh
        | next u =>
          rw [hA] at h'
          dsimp only at h' ⊢
          cases hB : Planform.loop4 d.Turns with
          | ret r =>
            rw [hB] at h'
            rcases form4_out d.Turns with ⟨e, he, hh⟩ | ⟨hh, _⟩
            · rw [hB] at hh; injection hh with hh; dsimp only at h'; rw [hh] at h'; exact absurd h' he
            · rw [hB] at hh; cases hh
          | next u =>
            dsimp only
            rw [hnum, Option.bind_some, num5 _ _ 0 (List.drop_zero), Option.bind_some]
            cases (d.Trains.flatMap numT ++ d.Turns).all (·.all wi) <;> rfl
    refine ⟨_, if (d.Trains.flatMap numT ++ d.Turns).all (·.all wi) then z2 else str [], hT, ?_, fun _ => ⟨k1, k2, k3, k4⟩⟩
    rw [PlanText, if_neg (by simp [h]), h1, Option.bind_some]
    dsimp only
    rw [h3, Option.bind_some]
    dsimp only
    rw [List.all_append]
    cases hA : (d.Trains.flatMap numT).all (·.all wi) <;> cases hB : d.Turns.all (·.all wi) <;> simp [hA, hB]

/-! Check -/
theorem chk2 (t : ApiTrain) : ∀ (l : List ApiStop) (k : Nat), Fishref2GuideFault.loop3 t l k = GuideCheck.loop2 t l k
  | [], _ => rfl
  | x :: r, k => by
    simp only [Fishref2GuideFault.loop3, GuideCheck.loop2, chk2 t r]
    rfl
/-- the stops of a train are in order -/
def stopsOk (l : List ApiStop) : Prop := (∀ x ∈ l, 0 ≤ x.Station ∧ x.Station ≤ 11 ∧ 0 ≤ x.Arr ∧ x.Arr ≤ 28800 ∧ 0 ≤ x.Dep ∧ x.Dep ≤ 28800 ∧ x.Arr ≤ x.Dep) ∧ ∀ k x y, l[k]? = some x → l[k + 1]? = some y → x.Dep < y.Arr
theorem within_iff (x a b : Int) : Guidewithin x a b = true ↔ a ≤ x ∧ x ≤ b := by
  unfold Guidewithin bnd
  by_cases h : x ≥ a <;> simp [h] <;> omega
theorem chk2_out (t : ApiTrain) (hl : t.Stops.length ≤ 9223372036854775807) : ∀ (r : List ApiStop) (k : Nat), t.Stops.drop k = r →
    (∃ e, e ≠ 0 ∧ GuideCheck.loop2 t r k = some (.ret e)) ∨ (GuideCheck.loop2 t r k = some (.next ()) ∧ (∀ x ∈ r, 0 ≤ x.Station ∧ x.Station ≤ 11 ∧ 0 ≤ x.Arr ∧ x.Arr ≤ 28800 ∧ 0 ≤ x.Dep ∧ x.Dep ≤ 28800 ∧ x.Arr ≤ x.Dep) ∧ ∀ j x y, k ≤ j + 1 → t.Stops[j]? = some x → t.Stops[j + 1]? = some y → x.Dep < y.Arr)
  | [], k, hd => .inr ⟨rfl, by simp, fun j x y hj hx hy => by
      have := drop_nil hd
      have := (List.getElem?_eq_some_iff.1 hy).1
      omega⟩
  | x :: r, k, hd => by
    obtain ⟨d1, d2, d3⟩ := drop_cons hd
    rw [GuideCheck.loop2, bnd_eq]
    cases c1 : Guidewithin x.Station 0 11 with
    | false => exact .inl ⟨2, by decide, by simp⟩
    | true =>
      cases c2 : Guidewithin x.Arr 0 28800 with
      | false => exact .inl ⟨2, by decide, by simp⟩
      | true =>
        cases c3 : Guidewithin x.Dep 0 28800 with
        | false => exact .inl ⟨2, by decide, by simp⟩
        | true =>
          have w1 := (within_iff _ _ _).1 c1
          have w2 := (within_iff _ _ _).1 c2
          have w3 := (within_iff _ _ _).1 c3
          simp only [Bool.not_true, Bool.false_eq_true, if_false]
          by_cases c4 : x.Dep < x.Arr
          · exact .inl ⟨5, by decide, by simp [c4]⟩
          · simp only [decide_eq_false c4, Bool.false_eq_true, if_false]
            rcases Nat.eq_zero_or_pos k with c5 | c5
            · subst c5
              simp only [Int.ofNat_eq_natCast, Int.natCast_zero, gt_iff_lt, Int.lt_irrefl, decide_false, Bool.false_eq_true, if_false, Option.bind_some]
              rcases chk2_out t hl r 1 d3 with h | ⟨h, k1, k2⟩
              · exact .inl h
              · refine .inr ⟨h, ?_, fun j a b _ ha hb => k2 j a b (by omega) ha hb⟩
                intro y hy
                rcases List.mem_cons.1 hy with rfl | hy
                · omega
                · exact k1 y hy
            · rw [if_pos (by simpa using c5), gx_prev c5 (by omega) hl, Option.bind_some, Option.bind_some]
              by_cases c6 : x.Arr ≤ (t.Stops[k - 1]'(by omega)).Dep
              · exact .inl ⟨5, by decide, by simp [c6]⟩
              · simp only [decide_eq_false c6, Bool.false_eq_true, if_false]
                rcases chk2_out t hl r (k + 1) d3 with h | ⟨h, k1, k2⟩
                · exact .inl h
                · refine .inr ⟨h, ?_, fun j a b hj ha hb => ?_⟩
                  · intro y hy
                    rcases List.mem_cons.1 hy with rfl | hy
                    · omega
                    · exact k1 y hy
                  · by_cases e : j + 1 = k
                    · subst e
                      rw [d2] at hb
                      injection hb with hb
                      subst hb
                      have : t.Stops[j + 1 - 1]'(by omega) = a := by
                        have := List.getElem?_eq_some_iff.1 ha
                        obtain ⟨_, h2⟩ := this
                        simpa using h2
                      rw [this] at c6
                      omega
                    · exact k2 j a b (by omega) ha hb
theorem chkno (t : ApiTrain) : ∀ l : List ApiTrain, Fishref2GuideFault.loop2 t l = if l.any (·.No == t.No) then .ret 6 else .next ()
  | [] => rfl
  | x :: r => by
    rw [Fishref2GuideFault.loop2, chkno t r]
    cases h : (x.No == t.No) <;> simp [h]
/-- a day that can be read -/
structure DayOk (d : ApiDay) : Prop where
  form : dayForm d
  two : ∀ t ∈ d.Trains, 2 ≤ t.Stops.length
  stops : ∀ t ∈ d.Trains, stopsOk t.Stops
  nos : ∀ t ∈ d.Trains, 1 ≤ t.No ∧ t.No ≤ 9999
  apart : ∀ (i j : Nat) (s t : ApiTrain), i < j → d.Trains[i]? = some s → d.Trains[j]? = some t → s.No ≠ t.No
theorem chk1 (d : ApiDay) (hl : d.Trains.length ≤ 9223372036854775807) (hs : ∀ t ∈ d.Trains, t.Stops.length ≤ 9223372036854775807) : ∀ (r : List ApiTrain) (k : Nat) (q : List (Int × Bool)), d.Trains.drop k = r →
    (∀ n, (mget q n).getD false = (d.Trains.take k).any (·.No == n)) →
    (∃ e, e ≠ 0 ∧ Fishref2GuideFault.loop1 d r k = some (.ret e) ∧ GuideCheck.loop1 r q = some (.ret e)) ∨
    (Fishref2GuideFault.loop1 d r k = some (.next ()) ∧ (∃ q', GuideCheck.loop1 r q = some (.next q')) ∧ (∀ t ∈ r, 2 ≤ t.Stops.length ∧ stopsOk t.Stops ∧ 1 ≤ t.No ∧ t.No ≤ 9999) ∧ ∀ i j s t, i < j → k ≤ j → d.Trains[i]? = some s → d.Trains[j]? = some t → s.No ≠ t.No)
  | [], k, q, hd, _ => .inr ⟨rfl, ⟨q, rfl⟩, by simp, fun i j s t _ hj _ ht => by
      have := drop_nil hd
      have := (List.getElem?_eq_some_iff.1 ht).1
      omega⟩
  | t :: r, k, q, hd, hq => by
    obtain ⟨d1, d2, d3⟩ := drop_cons hd
    have htm : t ∈ d.Trains := List.mem_of_getElem? d2
    rw [Fishref2GuideFault.loop1, GuideCheck.loop1, cutl_in (by omega) (by omega) (by omega), Option.bind_some, bnd_eq, chkno, hq]
    rw [show Fishref2within t.No 1 9999 = Guidewithin t.No 1 9999 from rfl]
    cases c1 : Guidewithin t.No 1 9999 with
    | false => exact .inl ⟨2, by decide, by simp, by simp⟩
    | true =>
      have w1 := (within_iff _ _ _).1 c1
      simp only [Bool.not_true, Bool.false_eq_true, if_false]
      have e0 : List.drop (Int.toNat 0) (List.take (((k : Nat) : Int).toNat) d.Trains) = d.Trains.take k := by simp
      rw [e0]
      cases c2 : (d.Trains.take k).any (·.No == t.No) with
      | true => exact .inl ⟨6, by decide, by simp, by simp⟩
      | false =>
        simp only [Bool.false_eq_true, if_false]
        by_cases c3 : ((t.Stops.length : Nat) : Int) < 2
        · exact .inl ⟨1, by decide, by simp [c3], by simp [c3]⟩
        · simp only [decide_eq_false c3, Bool.false_eq_true, if_false, chk2]
          rcases chk2_out t (hs t htm) t.Stops 0 rfl with ⟨e, he, h⟩ | ⟨h, k1, k2⟩
          · exact .inl ⟨e, he, by rw [h]; rfl, by rw [h]; rfl⟩
          · rw [h, Option.bind_some, Option.bind_some]
            dsimp only
            have hq2 : ∀ n, (mget (mput q t.No true) n).getD false = (d.Trains.take (k + 1)).any (·.No == n) := by
              intro n
              rw [mget_put, List.take_add_one, d2]
              simp only [Option.toList_some, List.any_append, List.any_cons, List.any_nil, Bool.or_false]
              by_cases c : n = t.No
              · subst c; simp
              · have : (t.No == n) = false := by simpa using fun h => c h.symm
                rw [if_neg c, this, Bool.or_false]; exact hq n
            rcases chk1 d hl hs r (k + 1) (mput q t.No true) d3 hq2 with ⟨e, he, h1, h2⟩ | ⟨h1, ⟨q', h2⟩, h3, h4⟩
            · exact .inl ⟨e, he, h1, h2⟩
            · refine .inr ⟨h1, ⟨q', h2⟩, ?_, ?_⟩
              · intro u hu
                rcases List.mem_cons.1 hu with rfl | hu
                · exact ⟨by omega, ⟨k1, fun j x y hx hy => k2 j x y (by omega) hx hy⟩, w1.1, w1.2⟩
                · exact h3 u hu
              · intro i j s u hij hj hi hu
                by_cases e : j = k
                · subst e
                  rw [d2] at hu
                  injection hu with hu
                  subst hu
                  intro e
                  have : (d.Trains.take j).any (·.No == t.No) = true := by
                    rw [List.any_eq_true]
                    refine ⟨s, ?_, by simpa using e⟩
                    apply List.mem_of_getElem? (i := i)
                    rw [List.getElem?_take, if_pos hij]; exact hi
                  rw [this] at c2; cases c2
                · exact h4 i j s u hij (by omega) hi hu
theorem check_ok {d : ApiDay} (hi : InApiDay d) : ∃ e, Fishref2GuideFault d = some e ∧ GuideCheck d = some e ∧ (e = 0 → DayOk d) := by
  obtain ⟨e, b, h1, h2, h3⟩ := text_ok hi
  rw [Fishref2GuideFault, GuideCheck, h1, h2, Option.bind_some, Option.bind_some]
  by_cases c : e = 0
  · subst c
    have hf := h3 rfl
    simp only [bne_self_eq_false, Bool.false_eq_true, if_false]
    rcases chk1 d (by have := hf.1; omega) (fun t ht => by have := (hf.2.2.1 t ht).2.1; omega) d.Trains 0 [] rfl (by simp [mget]) with ⟨e, he, k1, k2⟩ | ⟨k1, ⟨q', k2⟩, k3, k4⟩
    · exact ⟨e, by rw [k1]; rfl, by rw [k2]; rfl, fun h => absurd h he⟩
    · refine ⟨0, by rw [k1]; rfl, by rw [k2]; rfl, fun _ => ⟨hf, fun t ht => (k3 t ht).1, fun t ht => (k3 t ht).2.1, fun t ht => (k3 t ht).2.2, fun i j s t hij hs ht => k4 i j s t hij (by omega) hs ht⟩⟩
  · have : (e != 0) = true := by simpa using c
    simp only [this, if_true]
    exact ⟨e, rfl, rfl, fun h => absurd h c⟩
/-! the small day -/
theorem rngO_same {α σ : Type} {f : α → σ → Orc → Option σ} {st : σ} : ∀ (n : Nat) (left : List α) (o : Orc), (∀ x ∈ left, ∀ o, f x st o = some st) → rngO f n left st o = some st
  | 0, _, _, _ => rfl
  | n + 1, left, o, h => by
    rw [rngO]
    cases k : left[o [] % left.length]? with
    | none => rfl
    | some x =>
      simp only
      rw [h x (List.mem_of_getElem? k), Option.bind_some]
      exact rngO_same n _ _ (fun y hy => h y (List.mem_of_mem_eraseIdx hy))
theorem rngO_single {α σ : Type} {f : α → σ → Orc → Option σ} {x : α} {st st' : σ} (h : ∀ o, f x st o = some st') (n : Nat) (o : Orc) : rngO f (n + 1) [x] st o = some st' := by
  rw [rngO]
  simp only [List.length_singleton, Nat.mod_one, List.getElem?_cons_zero, h, Option.bind_some, List.eraseIdx_cons_zero]
  cases n <;> simp [rngO]
def smallNet : GuideNet := ⟨Fishlaw2small, 40⟩
abbrev smallE : List (List (GuidePlace × Bool)) := [[(⟨0, 1⟩, true), (⟨0, 2⟩, true)], [(⟨1, 1⟩, true)], [], []]
abbrev smallP : GuidePoint := ⟨100, 400, 2⟩
theorem small_ends : GuideNetends smallNet [⟨0, 0, 1⟩, ⟨0, 0, 2⟩] = some smallE := by kernel_rfl
theorem small4_0 (o : Orc) : GuideNetpoints.loop4 smallNet 3 100 0 [(⟨0, 1⟩, true), (⟨0, 2⟩, true)] [] [] o = some ([], []) := by
  unfold GuideNetpoints.loop4
  refine rngO_same _ _ _ ?_
  intro x hx o
  simp only [List.mem_cons, List.not_mem_nil, or_false] at hx
  rcases hx with rfl | rfl
  · kernel_rfl
  · kernel_rfl
theorem small4_1 (o : Orc) : GuideNetpoints.loop4 smallNet 3 100 1 [(⟨1, 1⟩, true)] [] [] o = some ([smallP], [(smallP, true)]) := by
  unfold GuideNetpoints.loop4
  exact rngO_single (fun o => by kernel_rfl) _ _
theorem small3 (o : Orc) : GuideNetpoints.loop3 smallNet 3 100 smallE 4 [] [] o = some ([smallP], [(smallP, true)]) := by
  have s0 : ∀ o, GuideNetpoints.loop3.step smallNet 3 100 smallE 0 [] [] o = some ([], []) := by
    intro o
    show Option.bind (GuideNetpoints.loop4 smallNet 3 100 0 [(⟨0, 1⟩, true), (⟨0, 2⟩, true)] [] [] (o.sub 0)) _ = _
    rw [small4_0]; rfl
  have s1 : ∀ o, GuideNetpoints.loop3.step smallNet 3 100 smallE 1 [] [] o = some ([smallP], [(smallP, true)]) := by
    intro o
    show Option.bind (GuideNetpoints.loop4 smallNet 3 100 1 [(⟨1, 1⟩, true)] [] [] (o.sub 0)) _ = _
    rw [small4_1]; rfl
  have s2 : ∀ o, GuideNetpoints.loop3.step smallNet 3 100 smallE 2 [smallP] [(smallP, true)] o = some ([smallP], [(smallP, true)]) := by intro o; rfl
  have s3 : ∀ o, GuideNetpoints.loop3.step smallNet 3 100 smallE 3 [smallP] [(smallP, true)] o = some ([smallP], [(smallP, true)]) := by intro o; rfl
  unfold GuideNetpoints.loop3
  simp only [cntO, s0, s1, s2, s3, Option.bind_some, Nat.zero_add, Nat.reduceAdd]
theorem small_points (n : Nat) : GuideNetpoints (n + 60) smallNet 0 3 = some [smallP] := by
  refine same_of fun o => ?_
  have h1 : GuideNetpoints.loop1 smallNet (GuideNetrides smallNet 0 0 (-1)) [] = some [(100, [⟨0, 0, 1⟩, ⟨0, 0, 2⟩])] := by kernel_rfl
  have h2 : ∀ o, GuideNetpoints.loop2 smallNet 3 [(100, [⟨0, 0, 1⟩, ⟨0, 0, 2⟩])] [] [] o = some ([smallP], [(smallP, true)]) := by
    intro o
    unfold GuideNetpoints.loop2
    refine rngO_single (fun o => ?_) _ _
    dsimp only
    unfold GuideNetpoints.loop2.step
    rw [small_ends, Option.bind_some]
    show Option.bind (GuideNetpoints.loop3 smallNet 3 100 smallE 4 [] [] (o.sub 0)) _ = _
    rw [small3]; rfl
  have h3 : SlicesSortFuncLguidePoint_v1 (n + 60) [smallP] = some [smallP] := by kernel_rfl
  unfold GuideNetpoints.o
  rw [bnd_eq, h1, Option.bind_some]
  show Option.bind (GuideNetpoints.loop2 smallNet 3 [(100, [⟨0, 0, 1⟩, ⟨0, 0, 2⟩])] [] [] (o.sub 0)) _ = _
  rw [h2, Option.bind_some]
  dsimp only
  rw [h3]; rfl
theorem small_in : InApiDay Fishlaw2small := by
  simp [InApiDay, inL, InApiTrain, InApiStop, inI, Fishlaw2small, Fishlaw2small_1, bnd]
theorem small_check : GuideCheck Fishlaw2small = some 0 := by
  obtain ⟨e, h1, h2, _⟩ := check_ok small_in
  have h3 : Fishref2GuideFault Fishlaw2small = some 0 := by kernel_rfl
  rw [h1] at h3
  injection h3 with h3
  rw [h2, h3]
theorem small_asked : Guidecheck Fishlaw2small 40 0 3 [0] = some 0 := by
  unfold Guidecheck GuidecheckLeast
  rw [small_check]
  kernel_rfl
theorem small_best (n : Nat) : ((SlicesDeleteFuncLguidePoint_v1 (n + 60) [smallP] 0).bind fun q64 => (if (((q64.length : Nat) : Int) == 0) then some ((GuideJourney.mk []), false) else ((SlicesMinFuncLguidePoint_v1 (n + 60) q64).bind fun q76 => ((GuideNetleastOf (n + 60) smallNet 0 3 q76).bind fun q83 => some (q83, true))))) = some (⟨[⟨0, 0, 1⟩, ⟨1, 0, 1⟩]⟩, true) := by kernel_rfl
theorem guides_true (n : Nat) : Fishlaw2guides (n + 60) = some true := by
  have h1 : GuideNetearliest (n + 60) smallNet 0 0 3 = some (⟨[⟨0, 0, 1⟩, ⟨1, 0, 1⟩]⟩, true) := by
    rw [GuideNetearliest, small_points n, Option.bind_some]
    exact small_best n
  have h2 : GuideEarliest (n + 60) Fishlaw2small 0 0 3 40 = some (⟨[⟨0, 0, 1⟩, ⟨1, 0, 1⟩]⟩, 0) := by
    rw [GuideEarliest, small_asked, Option.bind_some]
    show (((GuideNetearliest (n + 60) smallNet 0 0 3).bind _) : Option (GuideJourney × Int)) = _
    rw [h1]; rfl
  rw [Fishlaw2guides, bnd_eq, h2]
  rfl
theorem gx_mem {α : Type} {l : List α} {i : Int} {x : α} (h : gx l i = some x) : x ∈ l := List.mem_of_getElem? (gx_some h).2.2
/-! journeys -/
def validR (d : ApiDay) (p : GuideRide) : Prop := ∃ t a b, gx d.Trains p.Train = some t ∧ gx t.Stops p.On = some a ∧ gx t.Stops p.Off = some b
theorem within_len {x : Int} {n : Nat} (hn : n ≤ 1000) : Guidewithin x 0 (w64 ((n : Int) - 1)) = decide (0 ≤ x ∧ x < n) := by
  rw [w64_id (by omega)]
  cases h : Guidewithin x 0 ((n : Int) - 1) with
  | true => have := (within_iff _ _ _).1 h; exact (decide_eq_true (by omega)).symm
  | false =>
    refine (decide_eq_false ?_).symm
    intro c
    have := (within_iff x 0 ((n : Int) - 1)).2 (by omega)
    rw [h] at this; cases this
theorem jour1 {d : ApiDay} (hd : DayOk d) (j : GuideJourney) (hj : j.Rides.length ≤ 9223372036854775807) (ls : Int) (tm : Bool) : ∀ (r : List GuideRide) (k : Nat), j.Rides.drop k = r → (0 < k → ∃ p, j.Rides[k - 1]? = some p ∧ validR d p) →
    ∃ z, GuideNetjourney.loop1 ⟨d, ls⟩ j tm r k = some z ∧ Fishref2JourneyFault.loop1 d j ls tm r k = some z ∧ (z = .next () → ∀ p ∈ r, validR d p ∧ p.On < p.Off) ∧ ∀ e, z = .ret e → e ≠ 0
  | [], k, _, _ => ⟨_, rfl, rfl, fun _ => by simp, fun _ h => by cases h⟩
  | x :: r, k, hdr, hp => by
    obtain ⟨d1, d2, d3⟩ := drop_cons hdr
    have ht := hd.form.1
    rw [GuideNetjourney.loop1, Fishref2JourneyFault.loop1, bnd_eq, within_len (show d.Trains.length ≤ 1000 by omega)]
    dsimp only
    by_cases c1 : 0 ≤ x.Train ∧ x.Train < d.Trains.length
    · obtain ⟨t, ht1, ht2⟩ := gx_in c1.1 c1.2
      have hs := (hd.form.2.2.1 t ht2).2.1
      have e1 : (if decide (x.Train < 0) = true then true else decide (x.Train ≥ ((d.Trains).length : Int))) = false := by
        rw [if_neg (by simp; omega)]; exact decide_eq_false (by omega)
      have e2 : (!decide (0 ≤ x.Train ∧ x.Train < d.Trains.length)) = false := by rw [decide_eq_true c1]; rfl
      rw [e1, e2]
      simp only [Bool.false_eq_true, if_false, ht1, Option.bind_some, bnd_eq]
      rw [within_len (by omega), within_len (by omega)]
      by_cases c2 : 0 ≤ x.On ∧ x.On < t.Stops.length
      · by_cases c3 : 0 ≤ x.Off ∧ x.Off < t.Stops.length
        · obtain ⟨a, ha1, ha2⟩ := gx_in c2.1 c2.2
          obtain ⟨b, hb1, hb2⟩ := gx_in c3.1 c3.2
          have e3 : (if (!decide (0 ≤ x.On ∧ x.On < t.Stops.length)) = true then true else !decide (0 ≤ x.Off ∧ x.Off < t.Stops.length)) = false := by
            rw [decide_eq_true c2, decide_eq_true c3]; rfl
          have e4 : (if decide (x.On < 0) = true then true else (if decide (x.On ≥ ((t.Stops).length : Int)) = true then true else (if decide (x.Off < 0) = true then true else decide (x.Off ≥ ((t.Stops).length : Int))))) = false := by
            rw [if_neg (by simp; omega), if_neg (by simp; omega), if_neg (by simp; omega)]; exact decide_eq_false (by omega)
          rw [e3, e4]
          simp only [Bool.false_eq_true, if_false]
          by_cases c4 : x.On ≥ x.Off
          · exact ⟨.ret 1, by simp [c4], by simp [c4], (fun h => by cases h), (fun e h => by injection h with h; omega)⟩
          · simp only [decide_eq_false c4, Bool.false_eq_true, if_false]
            have hv : validR d x := ⟨t, a, b, ht1, ha1, hb1⟩
            obtain ⟨z, z1, z2, z3, z4⟩ := jour1 hd j hj ls tm r (k + 1) d3 (fun _ => ⟨x, d2, hv⟩)
            have hz : z = .next () → ∀ p ∈ x :: r, validR d p ∧ p.On < p.Off := by
              intro h p hp
              rcases List.mem_cons.1 hp with rfl | hp
              · exact ⟨hv, by omega⟩
              · exact z3 h p hp
            rcases Nat.eq_zero_or_pos k with c5 | c5
            · subst c5
              simp only [Int.natCast_zero, beq_self_eq_true, if_true]
              exact ⟨z, z1, z2, hz, z4⟩
            · have e5 : (((k : Nat) : Int) == 0) = false := by
                have : ¬ ((k : Nat) : Int) = 0 := by omega
                simpa using this
              rw [e5]
              obtain ⟨p, hp1, t2, a2, b2, hp2, hp3, hp4⟩ := hp c5
              have hpk : j.Rides[k - 1]'(by omega) = p := by
                obtain ⟨_, h⟩ := List.getElem?_eq_some_iff.1 hp1
                exact h
              simp only [Bool.false_eq_true, if_false]
              rw [gx_prev c5 (by omega) hj, hpk]
              simp only [Option.bind_some, hp2, hp4, ha1]
              have f1 : GuideNeton ⟨d, ls⟩ x = some a := by rw [GuideNeton]; simp only [ht1, Option.bind_some, ha1]
              have f2 : GuideNetoff ⟨d, ls⟩ p = some b2 := by rw [GuideNetoff]; simp only [hp2, Option.bind_some, hp4]
              simp only [f1, f2, Option.bind_some]
              have e6 : (x.Train == p.Train) = (p.Train == x.Train) := by rw [Bool.eq_iff_iff, beq_iff_eq, beq_iff_eq]; exact eq_comm
              rw [e6]
              cases c6 : (p.Train == x.Train) with
              | true => exact ⟨.ret 1, by simp, by simp, (fun h => by cases h), (fun e h => by injection h with h; omega)⟩
              | false =>
                simp only [Bool.false_eq_true, if_false]
                rw [Option.bind_some, Option.bind_some]
                cases c7 : (a.Station != b2.Station) with
                | true => exact ⟨.ret 1, by simp, by simp, (fun h => by cases h), (fun e h => by injection h with h; omega)⟩
                | false =>
                  simp only [Bool.false_eq_true, if_false]
                  cases tm with
                  | false => exact ⟨z, z1, z2, hz, z4⟩
                  | true =>
                    simp only [if_true, Option.bind_some]
                    cases c8 : decide (a.Dep < w64 (b2.Arr + ls)) with
                    | true => exact ⟨.ret 13, if_pos rfl, if_pos rfl, (fun h => by cases h), (fun e h => by injection h with h; omega)⟩
                    | false => simp only [Bool.false_eq_true, if_false]; exact ⟨z, z1, z2, hz, z4⟩
        · have e3 : (if (!decide (0 ≤ x.On ∧ x.On < t.Stops.length)) = true then true else !decide (0 ≤ x.Off ∧ x.Off < t.Stops.length)) = true := by
            rw [decide_eq_true c2, decide_eq_false c3]; rfl
          have e4 : (if decide (x.On < 0) = true then true else (if decide (x.On ≥ ((t.Stops).length : Int)) = true then true else (if decide (x.Off < 0) = true then true else decide (x.Off ≥ ((t.Stops).length : Int))))) = true := by
            rw [if_neg (by simp; omega), if_neg (by simp; omega)]
            by_cases c : x.Off < 0
            · rw [if_pos (by simpa using c)]
            · rw [if_neg (by simpa using c)]; exact decide_eq_true (by omega)
          rw [e3, e4]
          exact ⟨.ret 3, by simp, by simp, (fun h => by cases h), (fun e h => by injection h with h; omega)⟩
      · have e3 : (if (!decide (0 ≤ x.On ∧ x.On < t.Stops.length)) = true then true else !decide (0 ≤ x.Off ∧ x.Off < t.Stops.length)) = true := by
          rw [decide_eq_false c2]; rfl
        have e4 : (if decide (x.On < 0) = true then true else (if decide (x.On ≥ ((t.Stops).length : Int)) = true then true else (if decide (x.Off < 0) = true then true else decide (x.Off ≥ ((t.Stops).length : Int))))) = true := by
          by_cases c : x.On < 0
          · rw [if_pos (by simpa using c)]
          · rw [if_neg (by simpa using c), if_pos (by simp; omega)]
        rw [e3, e4]
        exact ⟨.ret 3, by simp, by simp, (fun h => by cases h), (fun e h => by injection h with h; omega)⟩
    · have e1 : (if decide (x.Train < 0) = true then true else decide (x.Train ≥ ((d.Trains).length : Int))) = true := by
        by_cases c : x.Train < 0
        · rw [if_pos (by simpa using c)]
        · rw [if_neg (by simpa using c)]; exact decide_eq_true (by omega)
      rw [e1, decide_eq_false c1]
      exact ⟨.ret 3, by simp, by simp, (fun h => by cases h), (fun e h => by injection h with h; omega)⟩
theorem journey_ok {d : ApiDay} (hd : DayOk d) (j : GuideJourney) (ls : Int) (tm : Bool) (h0 : 0 ≤ ls ∧ ls ≤ 28800) :
    ∃ e, GuideNetjourney ⟨d, ls⟩ j tm = some e ∧ Fishref2JourneyFault d j ls tm = some e ∧ (e = 0 → 1 ≤ j.Rides.length ∧ j.Rides.length ≤ 4 ∧ ∀ p ∈ j.Rides, validR d p ∧ p.On < p.Off) := by
  rw [GuideNetjourney, Fishref2JourneyFault]
  rw [show Fishref2within ls 0 28800 = Guidewithin ls 0 28800 from rfl, (within_iff ls 0 28800).2 h0]
  rw [show Fishref2within ((j.Rides.length : Nat) : Int) 1 4 = Guidewithin ((j.Rides.length : Nat) : Int) 1 4 from rfl]
  cases c : Guidewithin ((j.Rides.length : Nat) : Int) 1 4 with
  | false => exact ⟨4, by simp, by simp, fun h => by cases h⟩
  | true =>
    have w := (within_iff _ _ _).1 c
    simp only [Bool.not_true, Bool.false_eq_true, if_false]
    obtain ⟨z, z1, z2, z3, z4⟩ := jour1 hd j (by omega) ls tm j.Rides 0 (List.drop_zero) (fun h => absurd h (Nat.lt_irrefl 0))
    rw [z1, z2]
    cases z with
    | ret r => exact ⟨r, rfl, rfl, fun h => absurd h (z4 r rfl)⟩
    | next u => exact ⟨0, rfl, rfl, fun _ => ⟨by omega, by omega, z3 rfl⟩⟩
/-! odds -/
structure OddOk (n : Nat) (o : GuideOdds) : Prop where
  tr : 0 ≤ o.Train ∧ o.Train < n
  len : o.Weight.length = o.Late.length
  small : o.Late.length ≤ 6
  pos : 1 ≤ o.Late.length
  late : ∀ x ∈ o.Late, 0 ≤ x ∧ x ≤ 28800
  weight : ∀ x ∈ o.Weight, 1 ≤ x ∧ x ≤ 10
theorem odds3 (o : GuideOdds) : ∀ (l : List Int) (k : Nat), Fishref2OddsFault.loop3 o l k = GuidecheckOdds.loop2 o l k
  | [], _ => rfl
  | x :: r, k => by
    simp only [Fishref2OddsFault.loop3, GuidecheckOdds.loop2, odds3 o r]
    rfl
theorem odds3_out (o : GuideOdds) (hw : o.Weight.length = o.Late.length) (hs : o.Late.length ≤ 6) : ∀ (r : List Int) (k : Nat), o.Late.drop k = r →
    (∃ e, e ≠ 0 ∧ GuidecheckOdds.loop2 o r k = some (.ret e)) ∨ (GuidecheckOdds.loop2 o r k = some (.next ()) ∧ (∀ x ∈ r, 0 ≤ x ∧ x ≤ 28800) ∧ ∀ x ∈ o.Weight.drop k, 1 ≤ x ∧ x ≤ 10)
  | [], k, hd => .inr ⟨rfl, by simp, by
      have := drop_nil hd
      rw [List.drop_eq_nil_of_le (by omega)]; simp⟩
  | x :: r, k, hd => by
    obtain ⟨d1, d2, d3⟩ := drop_cons hd
    have hwk : k < o.Weight.length := by omega
    rw [GuidecheckOdds.loop2, gx_at hwk]
    have hdw : o.Weight.drop k = o.Weight[k] :: o.Weight.drop (k + 1) := List.drop_eq_getElem_cons hwk
    generalize o.Weight[k] = w at hdw
    cases c1 : Guidewithin x 0 28800 with
    | false => exact .inl ⟨2, by decide, by simp⟩
    | true =>
      simp only [Bool.not_true, Bool.false_eq_true, if_false, Option.bind_some]
      cases c2 : Guidewithin w 1 10 with
      | false => exact .inl ⟨2, by decide, by simp⟩
      | true =>
        simp only [Bool.not_true, Bool.false_eq_true, if_false]
        have w1 := (within_iff _ _ _).1 c1
        have w2 := (within_iff _ _ _).1 c2
        have fin : (∃ e, e ≠ 0 ∧ GuidecheckOdds.loop2 o r (k + 1) = some (.ret e)) ∨ (GuidecheckOdds.loop2 o r (k + 1) = some (.next ()) ∧ (∀ y ∈ x :: r, 0 ≤ y ∧ y ≤ 28800) ∧ ∀ y ∈ o.Weight.drop k, 1 ≤ y ∧ y ≤ 10) := by
          rcases odds3_out o hw hs r (k + 1) d3 with h | ⟨h, k1, k2⟩
          · exact .inl h
          · refine .inr ⟨h, ?_, ?_⟩
            · intro y hy
              rcases List.mem_cons.1 hy with rfl | hy
              · exact w1
              · exact k1 y hy
            · rw [hdw]
              intro y hy
              rcases List.mem_cons.1 hy with rfl | hy
              · exact w2
              · exact k2 y hy
        rcases Nat.eq_zero_or_pos k with c3 | c3
        · have e0 : decide (((k : Nat) : Int) > 0) = false := by rw [c3]; rfl
          rw [e0]
          simp only [Bool.false_eq_true, if_false, Option.bind_some]
          exact fin
        · rw [if_pos (by simpa using c3), gx_prev c3 (by omega) (by omega), Option.bind_some, Option.bind_some]
          split
          · exact .inl ⟨5, by decide, rfl⟩
          · exact fin
theorem oddsno (o : GuideOdds) : ∀ l : List GuideOdds, Fishref2OddsFault.loop2 o l = if l.any (·.Train == o.Train) then .ret 6 else .next ()
  | [] => rfl
  | x :: r => by
    rw [Fishref2OddsFault.loop2, oddsno o r]
    cases h : (x.Train == o.Train) <;> simp [h]
theorem oddshas (o : GuideOdds) (l : List GuideOdds) : SlicesContainsFuncLguideOdds_v1 l o = l.any (·.Train == o.Train) := by
  have key : ∀ (r : List GuideOdds) (k : Nat), SlicesIndexFuncLguideOdds_v1.loop1 o r k = if r.any (·.Train == o.Train) then .ret ((k + r.findIdx (·.Train == o.Train) : Nat) : Int) else .next () := by
    intro r
    induction r with
    | nil => intro k; rfl
    | cons x r ih =>
      intro k
      rw [SlicesIndexFuncLguideOdds_v1.loop1, GuidecheckOdds_1_v1, ih]
      rw [List.any_cons, List.findIdx_cons]
      cases h : (x.Train == o.Train) with
      | true => simp
      | false =>
        simp only [Bool.false_or, Bool.false_eq_true, if_false, cond_false]
        rw [show k + 1 + List.findIdx (fun x => x.Train == o.Train) r = k + (List.findIdx (fun x => x.Train == o.Train) r + 1) by omega]
  rw [SlicesContainsFuncLguideOdds_v1, SlicesIndexFuncLguideOdds_v1, key l 0, bnd_eq]
  cases l.any (·.Train == o.Train) with
  | true => simp only [if_true]; exact decide_eq_true (by omega)
  | false => rfl
theorem odds1 (d : ApiDay) (hn : d.Trains.length ≤ 12) (L : List GuideOdds) (hL : L.length ≤ 12) : ∀ (r : List GuideOdds) (k : Nat), L.drop k = r →
    (∃ e, e ≠ 0 ∧ Fishref2OddsFault.loop1 d L r k = some (.ret e) ∧ GuidecheckOdds.loop1 d L r k = some (.ret e)) ∨ (Fishref2OddsFault.loop1 d L r k = some (.next ()) ∧ GuidecheckOdds.loop1 d L r k = some (.next ()) ∧ ∀ o ∈ r, OddOk d.Trains.length o)
  | [], _, _ => .inr ⟨rfl, rfl, by simp⟩
  | o :: r, k, hd => by
    obtain ⟨d1, d2, d3⟩ := drop_cons hd
    rw [Fishref2OddsFault.loop1, GuidecheckOdds.loop1, bnd_eq, within_len (by omega), cutl_in (by omega) (by omega) (by omega), Option.bind_some, Option.bind_some, bnd_eq, oddsno, oddshas]
    by_cases c1 : 0 ≤ o.Train ∧ o.Train < d.Trains.length
    · have e1 : (if decide (o.Train < 0) = true then true else decide (o.Train ≥ ((d.Trains).length : Int))) = false := by
        rw [if_neg (by simp; omega)]; exact decide_eq_false (by omega)
      rw [e1, decide_eq_true c1]
      simp only [Bool.not_true, Bool.false_eq_true, if_false]
      cases (List.drop (Int.toNat 0) (List.take (((k : Nat) : Int).toNat) L)).any (·.Train == o.Train) with
      | true => exact .inl ⟨6, by decide, rfl, rfl⟩
      | false =>
        simp only [Bool.false_eq_true, if_false]
        by_cases c2 : o.Late.length = o.Weight.length
        · have e2 : (((o.Late.length : Nat) : Int) != ((o.Weight.length : Nat) : Int)) = false := by rw [c2]; simp
          rw [e2]
          simp only [Bool.false_eq_true, if_false]
          rw [show Fishref2within ((o.Late.length : Nat) : Int) 1 6 = Guidewithin ((o.Late.length : Nat) : Int) 1 6 from rfl]
          cases c3 : Guidewithin ((o.Late.length : Nat) : Int) 1 6 with
          | false => exact .inl ⟨4, by decide, by simp, by simp⟩
          | true =>
            have w := (within_iff _ _ _).1 c3
            simp only [Bool.not_true, Bool.false_eq_true, if_false, odds3]
            rcases odds3_out o c2.symm (by omega) o.Late 0 List.drop_zero with ⟨e, he, h⟩ | ⟨h, k1, k2⟩
            · exact .inl ⟨e, he, by rw [h]; rfl, by rw [h]; rfl⟩
            · rw [h, Option.bind_some, Option.bind_some]
              dsimp only
              rcases odds1 d hn L hL r (k + 1) d3 with h | ⟨h1, h2, h3⟩
              · exact .inl h
              · refine .inr ⟨h1, h2, ?_⟩
                intro u hu
                rcases List.mem_cons.1 hu with rfl | hu
                · exact ⟨c1, c2.symm, by omega, by omega, k1, by simpa using k2⟩
                · exact h3 u hu
        · have e2 : (((o.Late.length : Nat) : Int) != ((o.Weight.length : Nat) : Int)) = true := by
            have : ¬ ((o.Late.length : Nat) : Int) = ((o.Weight.length : Nat) : Int) := by omega
            simpa using this
          rw [e2]
          exact .inl ⟨1, by decide, rfl, rfl⟩
    · have e1 : (if decide (o.Train < 0) = true then true else decide (o.Train ≥ ((d.Trains).length : Int))) = true := by
        by_cases c : o.Train < 0
        · rw [if_pos (by simpa using c)]
        · rw [if_neg (by simpa using c)]; exact decide_eq_true (by omega)
      rw [e1, decide_eq_false c1]
      exact .inl ⟨3, by decide, rfl, rfl⟩
theorem odds_ok (d : ApiDay) (hn : d.Trains.length ≤ 12) (L : List GuideOdds) : ∃ e, Fishref2OddsFault d L = some e ∧ GuidecheckOdds d L = some e ∧ (e = 0 → ∀ o ∈ L, OddOk d.Trains.length o) := by
  rw [Fishref2OddsFault, GuidecheckOdds]
  by_cases c : ((L.length : Nat) : Int) > 12
  · rw [if_pos (by simpa using c), if_pos (by simpa using c)]
    exact ⟨4, rfl, rfl, fun h => by cases h⟩
  · rw [if_neg (by simpa using c), if_neg (by simpa using c)]
    rcases odds1 d hn L (by omega) L 0 List.drop_zero with ⟨e, he, h1, h2⟩ | ⟨h1, h2, h3⟩
    · exact ⟨e, by rw [h1]; rfl, by rw [h2]; rfl, fun h => absurd h he⟩
    · exact ⟨0, by rw [h1]; rfl, by rw [h2]; rfl, fun _ => h3⟩
theorem index_loop (x : Int) : ∀ (l : List Int) (k : Nat), (SlicesIndexLint.loop1 x l k = .next () ∧ x ∉ l) ∨ (∃ j : Nat, SlicesIndexLint.loop1 x l k = .ret (((k + j : Nat) : Nat) : Int) ∧ l[j]? = some x)
  | [], k => .inl ⟨rfl, by simp⟩
  | y :: r, k => by
    by_cases h : x = y
    · subst h; exact .inr ⟨0, by simp [SlicesIndexLint.loop1], rfl⟩
    · have hb : (x == y) = false := by simpa using h
      rcases index_loop x r (k + 1) with ⟨h1, h2⟩ | ⟨j, h1, h2⟩
      · exact .inl ⟨by simp [SlicesIndexLint.loop1, hb, h1], by simp [h, h2]⟩
      · refine .inr ⟨j + 1, ?_, by simpa using h2⟩
        simp only [SlicesIndexLint.loop1, hb, Bool.false_eq_true, if_false, h1]
        have e : k + 1 + j = k + (j + 1) := by omega
        rw [e]
theorem index_cases (l : List Int) (x : Int) : (SlicesIndexLint l x = -1 ∧ x ∉ l) ∨ (∃ j : Nat, SlicesIndexLint l x = (j : Int) ∧ l[j]? = some x) := by
  unfold SlicesIndexLint
  rcases index_loop x l 0 with ⟨h1, h2⟩ | ⟨j, h1, h2⟩
  · exact .inl ⟨by simp [h1, bnd_eq], h2⟩
  · exact .inr ⟨j, by simp [h1, bnd_eq], h2⟩
theorem contains_eq (l : List Int) (x : Int) : SlicesContainsLint l x = l.contains x := by
  unfold SlicesContainsLint
  rcases index_cases l x with ⟨h1, h2⟩ | ⟨j, h1, h2⟩
  · rw [h1]; simp [h2]
  · rw [h1]; have := List.mem_of_getElem? h2; simp [this]
/-! both means, and what they say -/
theorem tmod_nat (a b : Nat) : ((a : Nat) : Int).tmod ((b : Nat) : Int) = ((a % b : Nat) : Int) := rfl
theorem gcd_step (a b : Nat) : Nat.gcd b (a % b) = Nat.gcd a b := by rw [Nat.gcd_comm b, ← Nat.gcd_rec, Nat.gcd_comm]
theorem common_run : ∀ (fu a b : Nat), b < fu → Fishref2common fu ((a : Nat) : Int) ((b : Nat) : Int) = some ((Nat.gcd a b : Nat) : Int)
  | 0, _, _, h => absurd h (Nat.not_lt_zero _)
  | fu + 1, a, b, h => by
    rw [Fishref2common]
    by_cases c : b = 0
    · subst c
      simp
    · rw [if_neg (show ¬ (((b : Nat) : Int) == 0) = true by simpa using c)]
      unfold rm
      rw [if_neg (by omega)]
      simp only [Option.bind_some]
      have hlt : a % b < b := Nat.mod_lt _ (by omega)
      rw [tmod_nat, common_run fu b (a % b) (by omega), gcd_step]
      rfl
/-! the cases of a journey, counted alike -/
theorem mgi_put (m : List (Int × Int)) (k j v : Int) : (mget (mput m k v) j).getD 0 = if j = k then v else (mget m j).getD 0 := by
  induction m with
  | nil =>
    simp only [mput, mget]
    by_cases h : j = k <;> simp [h]
  | cons p r ih =>
    obtain ⟨a, b⟩ := p
    simp only [mput]
    by_cases h : k = a
    · subst h
      simp only [beq_self_eq_true, if_true, mget]
      by_cases h2 : j = k <;> simp [h2]
    · have hb : (k == a) = false := by simpa using h
      simp only [hb, Bool.false_eq_true, if_false, mget]
      by_cases h2 : j = a
      · subst h2; have : ¬ j = k := fun e => h e.symm; simp [this]
      · have hb2 : (j == a) = false := by simpa using h2
        simp only [hb2, Bool.false_eq_true, if_false]
        exact ih
section
variable {d : ApiDay} {ls : Int} {j : GuideJourney} {od : List GuideOdds} {tr : List Int}
def val (m : List (Int × Int)) (t : Int) : Int := (mget m t).getD 0
/-- both maps tell the same of the first i trains -/
structure Agr (od : List GuideOdds) (tr : List Int) (i : Nat) (m m' : List (Int × Int)) : Prop where
  same : ∀ (k : Nat) (t : Int), k < i → tr[k]? = some t → val m t = val m' t
  none : ∀ t, (∀ o ∈ od, o.Train ≠ t) → val m t = 0
  b : ∀ t, 0 ≤ val m t ∧ val m t ≤ 28800
theorem Agr.down {i : Nat} {m m' : List (Int × Int)} (h : Agr od tr (i + 1) m m') : Agr od tr i m m' := ⟨fun k t hk => h.same k t (by omega), h.none, h.b⟩
theorem Agr.put {i : Nat} {m m' : List (Int × Int)} (h : Agr od tr i m m') (hn : tr.Nodup) {t v : Int} (ht : tr[i]? = some t) (ho : ∃ o ∈ od, o.Train = t) (hv : 0 ≤ v ∧ v ≤ 28800) : Agr od tr (i + 1) (mput m t v) (mput m' t v) := by
  refine ⟨fun k u hk hu => ?_, fun u hu => ?_, fun u => ?_⟩
  · unfold val
    rw [mgi_put, mgi_put]
    by_cases c : u = t
    · rw [if_pos c, if_pos c]
    · rw [if_neg c, if_neg c]
      have : k ≠ i := fun e => by subst e; rw [ht] at hu; injection hu with hu; exact c hu.symm
      exact h.same k u (by omega) hu
  · unfold val
    obtain ⟨o, o1, o2⟩ := ho
    rw [mgi_put, if_neg (fun e => hu o o1 (o2.trans e.symm))]
    exact h.none u hu
  · unfold val
    rw [mgi_put]
    split
    · exact hv
    · exact h.b u
theorem Agr.zero {i : Nat} {m m' : List (Int × Int)} (h : Agr od tr i m m') (hn : tr.Nodup) {t : Int} (ht : tr[i]? = some t) (ho : ∀ o ∈ od, o.Train ≠ t) : Agr od tr (i + 1) m (mput m' t 0) := by
  refine ⟨fun k u hk hu => ?_, h.none, h.b⟩
  by_cases c : u = t
  · subst c
    rw [h.none u ho]
    unfold val
    rw [mgi_put, if_pos rfl]
  · have : k ≠ i := fun e => by subst e; rw [ht] at hu; injection hu with hu; exact c hu.symm
    rw [h.same k u (by omega) hu]
    unfold val
    rw [mgi_put, if_neg c]
theorem idx2 (t : Int) {i : Nat} (ht : tr[i]? = some t) : ∀ (r : List GuideOdds) (k : Nat), SlicesIndexFuncLguideOdds_v2.loop1 tr (i : Int) r k = some (if r.any (·.Train == t) then .ret ((k + r.findIdx (·.Train == t) : Nat) : Int) else .next ())
  | [], k => rfl
  | x :: r, k => by
    rw [SlicesIndexFuncLguideOdds_v2.loop1, GuideNetcount_1_1_v1, gx_nat, ht, Option.bind_some, Option.bind_some, idx2 t ht r]
    rw [List.any_cons, List.findIdx_cons]
    cases h : (x.Train == t) with
    | true => simp
    | false =>
      simp only [Bool.false_or, Bool.false_eq_true, if_false, cond_false]
      rw [show k + 1 + List.findIdx (fun x => x.Train == t) r = k + (List.findIdx (fun x => x.Train == t) r + 1) by omega]
/-- whether a journey's changes fail -/
def bad (d : ApiDay) (ls : Int) (j : GuideJourney) (m : List (Int × Int)) : List GuideRide → Nat → Option Bool
  | [], _ => some false
  | x :: r, k => (gx j.Rides (w64 (((k : Nat) : Int) - 1))).bind fun p => (GuideNetoff ⟨d, ls⟩ p).bind fun a => (GuideNeton ⟨d, ls⟩ x).bind fun b => if decide ((w64 ((w64 (a.Arr + ((mget m p.Train).getD 0))) + ls)) > (w64 (b.Dep + ((mget m x.Train).getD 0)))) then some true else bad d ls j m r (k + 1)
theorem bad_in (hr : ∀ p ∈ j.Rides, validR d p) (hl : j.Rides.length ≤ 4) (m : List (Int × Int)) : ∀ (r : List GuideRide) (k : Nat), 0 < k → j.Rides.drop k = r → ∃ b, bad d ls j m r k = some b
  | [], _, _, _ => ⟨false, rfl⟩
  | x :: r, k, hk, hd => by
    obtain ⟨d1, d2, d3⟩ := drop_cons hd
    obtain ⟨b, hb⟩ := bad_in hr hl m r (k + 1) (by omega) d3
    have hp := gx_prev (l := j.Rides) hk (by omega) (by omega)
    obtain ⟨t, s1, s2, g1, g2, g3⟩ := hr x (List.mem_of_getElem? d2)
    obtain ⟨t', s1', s2', g1', g2', g3'⟩ := hr _ (List.getElem_mem (show k - 1 < j.Rides.length by omega))
    rw [bad, hp, Option.bind_some, GuideNetoff]
    simp only [g1', g3', Option.bind_some]
    rw [GuideNeton]
    simp only [g1, g2, Option.bind_some, hb]
    split
    · exact ⟨true, rfl⟩
    · exact ⟨b, rfl⟩
theorem bad_prog (w : Int) (m : List (Int × Int)) (c : GuideCases) : ∀ (r : List GuideRide) (k : Nat), 0 < k → GuideNetcount_1_v1.loop2 w m c j ⟨d, ls⟩ r k = (bad d ls j m r k).bind fun b => some (if b then .ret (m, c.holds, w64 (c.all + w), c.late) else .next ())
  | [], _, _ => rfl
  | x :: r, k, hk => by
    rw [GuideNetcount_1_v1.loop2, bad, if_pos (by simpa using hk), bad_prog w m c r (k + 1) (by omega)]
    cases gx j.Rides (w64 (((k : Nat) : Int) - 1)) with
    | none => rfl
    | some p =>
      simp only [Option.bind_some]
      cases GuideNetoff ⟨d, ls⟩ p with
      | none => rfl
      | some a =>
        simp only [Option.bind_some]
        cases GuideNeton ⟨d, ls⟩ x with
        | none => rfl
        | some b =>
          simp only [Option.bind_some]
          split <;> rfl
theorem bad_ref (w a h l : Int) (m' : List (Int × Int)) (hl : j.Rides.length ≤ 4) : ∀ (r : List GuideRide) (k fu : Nat), 0 < k → j.Rides.drop k = r → r.length < fu → ∃ q, Fishref2Cases_1_v1.loop1 w a j d m' ls h l fu (k : Int) = (bad d ls j m' r k).bind fun b => some (if b then .ret (m', w64 (a + w), h, l) else .next q)
  | _, _, 0, _, _, h => absurd h (Nat.not_lt_zero _)
  | [], k, fu + 1, hk, hd, _ => by
    have := drop_nil hd
    rw [Fishref2Cases_1_v1.loop1, if_neg (by simp; omega)]
    exact ⟨(k : Int), rfl⟩
  | x :: r, k, fu + 1, hk, hd, hf => by
    obtain ⟨d1, d2, d3⟩ := drop_cons hd
    simp only [List.length_cons] at hf
    obtain ⟨q, hq⟩ := bad_ref w a h l m' hl r (k + 1) fu (by omega) d3 (by omega)
    refine ⟨q, ?_⟩
    rw [Fishref2Cases_1_v1.loop1, if_pos (by simp; omega), w64_id (x := (k : Int) + 1) (by omega), show ((k : Int) + 1) = ((k + 1 : Nat) : Int) by omega, hq, bad]
    cases hp : gx j.Rides (w64 (((k : Nat) : Int) - 1)) with
    | none => rfl
    | some p =>
      rw [Option.bind_some, Option.bind_some, gx_nat, d2, Option.bind_some, GuideNetoff, GuideNeton]
      dsimp only
      cases gx d.Trains p.Train with
      | none => rfl
      | some x1 =>
        simp only [Option.bind_some]
        cases gx x1.Stops p.Off with
        | none => rfl
        | some s1 =>
          simp only [Option.bind_some]
          cases gx d.Trains x.Train with
          | none => rfl
          | some x2 =>
            simp only [Option.bind_some]
            cases gx x2.Stops x.On with
            | none => rfl
            | some s2 =>
              simp only [Option.bind_some]
              split <;> rfl
theorem bad_same {n : Nat} {m m' : List (Int × Int)} (h : ∀ p ∈ j.Rides, val m p.Train = val m' p.Train) : ∀ (r : List GuideRide) (k : Nat), (∀ p ∈ r, p ∈ j.Rides) → bad d ls j m r k = bad d ls j m' r k
  | [], _, _ => rfl
  | x :: r, k, hr => by
    have hx : (mget m x.Train).getD 0 = (mget m' x.Train).getD 0 := h x (hr x (List.mem_cons_self ..))
    rw [bad, bad, bad_same (n := n) h r (k + 1) fun p q => hr p (List.mem_cons_of_mem _ q), hx]
    cases hp : gx j.Rides (w64 (((k : Nat) : Int) - 1)) with
    | none => rfl
    | some p =>
      have hy : (mget m p.Train).getD 0 = (mget m' p.Train).getD 0 := h p (gx_mem hp)
      rw [Option.bind_some, Option.bind_some, hy]

theorem find2 {self : Int → Int → (List Int) → Int → GuideJourney → ApiDay → (List (Int × Int)) → Int → Int → Int → (List GuideOdds) → Option ((List (Int × Int)) × Int × Int × Int)} {w t : Int} {i : Nat} (ht : tr[i]? = some t) : ∀ (r : List GuideOdds), r.any (·.Train == t) = true →
    ∃ o ∈ r, o.Train = t ∧ r[r.findIdx (·.Train == t)]? = some o ∧ ∀ {m' : List (Int × Int)} {a h l : Int}, Fishref2Cases_1_v1.loop2 (i : Int) w tr j d ls od self r m' a h l = ((Fishref2Cases_1_v1.loop3 (i : Int) w tr j d ls od self o o.Late 0 m' a h l).bind fun q => match q with | (q195, q196, q197, q198) => some (.ret (q195, q196, q197, q198)))
  | [], h => by cases h
  | o :: r, h => by
    cases c : (o.Train == t) with
    | true =>
      refine ⟨o, List.mem_cons_self .., by simpa using c, by rw [List.findIdx_cons, c]; rfl, fun {m' a h l} => ?_⟩
      rw [Fishref2Cases_1_v1.loop2, gx_nat, ht, Option.bind_some, c, if_pos rfl]
    | false =>
      rw [List.any_cons, c, Bool.false_or] at h
      obtain ⟨u, h1, h2, h3, h4⟩ := find2 ht r h
      refine ⟨u, List.mem_cons_of_mem _ h1, h2, by rw [List.findIdx_cons, c]; exact h3, fun {m' a h l} => ?_⟩
      rw [Fishref2Cases_1_v1.loop2, gx_nat, ht, Option.bind_some, c, if_neg (by decide)]
      exact h4
variable (hr : ∀ p ∈ j.Rides, validR d p) (hj : 1 ≤ j.Rides.length ∧ j.Rides.length ≤ 4) (hod : ∀ o ∈ od, OddOk d.Trains.length o) (hn : tr.Nodup) (htr : ∀ p ∈ j.Rides, p.Train ∈ tr) (htl : tr.length ≤ 4)
/-- what the counts may come to -/
def Cnt (h a l H A L W : Int) : Prop := h ≤ H ∧ H - h ≤ A - a ∧ a + 1 ≤ A ∧ A ≤ a + W ∧ 0 ≤ L ∧ L ≤ 28800 * H
include hr hj hod hn htr htl
theorem cases_same : ∀ (n i fu : Nat) (w h a l : Int) (m m' : List (Int × Int)), i + n = tr.length → n + 20 ≤ fu → Agr od tr i m m' → 1 ≤ w → 0 ≤ h → h ≤ a → a + w * 60 ^ n ≤ 12960000 → 0 ≤ l → l ≤ 28800 * h →
    ∃ m1 m1' H A L, GuideNetcount_1_v1 fu (i : Int) w tr od m ⟨h, a, l⟩ j ⟨d, ls⟩ = some (m1, H, A, L) ∧ Fishref2Cases_1_v1 fu (i : Int) w tr a j d m' ls h l od = some (m1', A, H, L) ∧ Agr od tr i m1 m1' ∧ Cnt h a l H A L (w * 60 ^ n)
  | _, _, 0, _, _, _, _, _, _, _, h, _, _, _, _, _, _, _ => absurd h (by omega)
  | 0, i, fu + 1, w, h, a, l, m, m', hi, hfu, hA, hw, h1, h2, h3, h4, h5 => by
    simp only [Int.pow_zero, Int.mul_one] at h3
    rw [GuideNetcount_1_v1, Fishref2Cases_1_v1, if_neg (by simp; omega), if_pos (by simp; omega)]
    have hs : ∀ p ∈ j.Rides, val m p.Train = val m' p.Train := by
      intro p hp
      obtain ⟨k, hk⟩ := List.getElem?_of_mem (htr p hp)
      exact hA.same k _ (by have := (List.getElem?_eq_some_iff.1 hk).1; omega) hk
    obtain ⟨x, r, hxr⟩ : ∃ x r, j.Rides = x :: r := by
      cases e : j.Rides with
      | nil => rw [e] at hj; simp at hj
      | cons x r => exact ⟨x, r, rfl⟩
    have hd1 : j.Rides.drop 1 = r := by rw [hxr]; rfl
    have hrl : r.length < fu := by have := congrArg List.length hxr; simp at this; omega
    obtain ⟨b, hb⟩ := bad_in (ls := ls) hr hj.2 m r 1 (by omega) hd1
    obtain ⟨q, hq⟩ := bad_ref (d := d) (ls := ls) w a h l m' hj.2 r 1 fu (by omega) hd1 hrl
    have hb' : bad d ls j m' r 1 = some b := by
      rw [← hb]
      exact (bad_same (n := 0) hs r 1 fun p hp => by rw [hxr]; exact List.mem_cons_of_mem _ hp).symm
    have hp : GuideNetcount_1_v1.loop2 w m ⟨h, a, l⟩ j ⟨d, ls⟩ j.Rides 0 = GuideNetcount_1_v1.loop2 w m ⟨h, a, l⟩ j ⟨d, ls⟩ r 1 := by
      rw [hxr, GuideNetcount_1_v1.loop2, if_neg (by decide), Option.bind_some]
    have hq2 : Fishref2Cases_1_v1.loop1 w a j d m' ls h l fu 1 = _ := hq
    rw [hp, bad_prog w m ⟨h, a, l⟩ r 1 (by omega), hb, hq2, hb', Option.bind_some, Option.bind_some, Option.bind_some, Option.bind_some]
    cases b with
    | true =>
      refine ⟨m, m', h, a + w, l, ?_, ?_, hA, ?_⟩
      · simp only [if_true]; rw [w64_id (by omega)]
      · simp only [if_true]; rw [w64_id (by omega)]
      · unfold Cnt; rw [Int.pow_zero]; omega
    | false =>
      simp only [Bool.false_eq_true, if_false]
      obtain ⟨z, hz, hzm⟩ : ∃ z, gx j.Rides (w64 (((j.Rides.length : Nat) : Int) - 1)) = some z ∧ z ∈ j.Rides := ⟨_, gx_prev (by omega) (Nat.le_refl _) (by omega), List.getElem_mem _⟩
      rw [hz, Option.bind_some, Option.bind_some]
      have hzs := hs z hzm
      have hzb := hA.b z.Train
      have e1 : (mget m z.Train).getD 0 = val m z.Train := rfl
      have e2 : (mget m' z.Train).getD 0 = val m z.Train := hzs.symm
      rw [e1, e2]
      generalize val m z.Train = v at hzb
      have hwv : 0 ≤ w * v ∧ w * v ≤ 28800 * w := by
        refine ⟨Int.mul_nonneg (by omega) hzb.1, ?_⟩
        rw [Int.mul_comm]
        exact Int.mul_le_mul_of_nonneg_right hzb.2 (by omega)
      refine ⟨m, m', h + w, a + w, l + w * v, ?_, ?_, hA, ?_⟩
      · rw [w64_id (x := h + w) (by omega), w64_id (x := a + w) (by omega), w64_id (x := w * v) (by omega), w64_id (x := l + w * v) (by omega)]
      · rw [w64_id (x := h + w) (by omega), w64_id (x := a + w) (by omega), w64_id (x := w * v) (by omega), w64_id (x := l + w * v) (by omega)]
      · unfold Cnt; rw [Int.pow_zero]; omega
  | n + 1, i, fu + 1, w, h, a, l, m, m', hi, hfu, hA, hw, h1, h2, h3, h4, h5 => by
    have hil : i < tr.length := by omega
    have ht : tr[i]? = some tr[i] := List.getElem?_eq_getElem hil
    generalize tr[i] = t at ht
    rw [Int.pow_succ, ← Int.mul_assoc] at h3
    have hP : 1 ≤ (60 : Int) ^ n := Int.pow_pos (by decide)
    have hwP : 1 ≤ w * 60 ^ n := by have := Int.mul_le_mul_of_nonneg_left hP (show 0 ≤ w by omega); omega
    rw [GuideNetcount_1_v1, Fishref2Cases_1_v1, if_pos (by simp; omega), if_neg (by simp; omega), SlicesIndexFuncLguideOdds_v2, idx2 t ht od 0, Option.bind_some]
    have e1 : w64 ((i : Int) + 1) = ((i + 1 : Nat) : Int) := by rw [w64_id (by omega)]; omega
    cases hany : od.any (·.Train == t) with
    | false =>
      have hno : ∀ o ∈ od, o.Train ≠ t := by
        intro o ho e
        have := List.any_eq_false.1 hany o ho
        simp [e] at this
      have l2 : ∀ (r : List GuideOdds), (∀ o ∈ r, o.Train ≠ t) → Fishref2Cases_1_v1.loop2 (i : Int) w tr j d ls od (Fishref2Cases_1_v1 fu) r m' a h l = some (.next (m', a, h, l)) := by
        intro r
        induction r with
        | nil => intro _; rfl
        | cons o r ih =>
          intro ho
          have : (o.Train == t) = false := by simpa using ho o (List.mem_cons_self ..)
          rw [Fishref2Cases_1_v1.loop2, gx_nat, ht, Option.bind_some, this]
          exact ih fun o h => ho o (List.mem_cons_of_mem _ h)
      simp only [Bool.false_eq_true, if_false, Option.bind_some]
      rw [if_pos (by decide), l2 od hno, Option.bind_some, e1]
      dsimp only
      obtain ⟨m1, m1', H, A, L, k1, k2, k3, k4⟩ := cases_same n (i + 1) fu w h a l m (mput m' t 0) (by omega) (by omega) (hA.zero hn ht hno) hw h1 h2 (by omega) h4 h5
      rw [k1, gx_nat, ht, Option.bind_some, Option.bind_some, k2, Option.bind_some]
      refine ⟨m1, m1', H, A, L, rfl, rfl, k3.down, ?_⟩
      unfold Cnt at k4 ⊢
      rw [Int.pow_succ, ← Int.mul_assoc]; omega
    | true =>
      obtain ⟨o, ho, hot, hoi, hol⟩ := find2 (d := d) (ls := ls) (j := j) (od := od) (self := Fishref2Cases_1_v1 fu) (w := w) ht od hany
      have hk := hod o ho
      have hgo : gx od ((0 + od.findIdx (·.Train == t) : Nat) : Int) = some o := by rw [Nat.zero_add, gx_nat]; exact hoi
      simp only [if_true, Option.bind_some]
      rw [if_neg (by simp only [decide_eq_true_eq]; omega), hgo, Option.bind_some, hol]
      have hW : w * 10 * 60 ^ n = w * 60 ^ n * 10 := Int.mul_right_comm _ _ _
      have loops : ∀ (r : List Int) (k : Nat) (m m' : List (Int × Int)) (h a l : Int), o.Late.drop k = r → Agr od tr i m m' → 0 ≤ h → h ≤ a → a + r.length * (w * 10 * 60 ^ n) ≤ 12960000 → 0 ≤ l → l ≤ 28800 * h →
          ∃ m1 m1' H A L, GuideNetcount_1_v1.loop1 (i : Int) w tr od j ⟨d, ls⟩ (GuideNetcount_1_v1 fu) ((0 + od.findIdx (·.Train == t) : Nat) : Int) r k m h a l = some (m1, H, A, L) ∧
            Fishref2Cases_1_v1.loop3 (i : Int) w tr j d ls od (Fishref2Cases_1_v1 fu) o r k m' a h l = some (m1', A, H, L) ∧ Agr od tr i m1 m1' ∧ h ≤ H ∧ H - h ≤ A - a ∧ a + r.length ≤ A ∧ A ≤ a + r.length * (w * 10 * 60 ^ n) ∧ 0 ≤ L ∧ L ≤ 28800 * H := by
        intro r
        induction r with
        | nil => intro k m m' h a l _ hA h1 h2 h3 h4 h5; exact ⟨m, m', h, a, l, rfl, rfl, hA, by omega, by omega, by simp, by simp, h4, h5⟩
        | cons x r ih =>
          intro k m m' h a l hdr hA h1 h2 h3 h4 h5
          obtain ⟨d1, d2, d3⟩ := drop_cons hdr
          have hwk : k < o.Weight.length := by rw [hk.len]; exact d1
          have hx := hk.late x (List.mem_of_getElem? d2)
          have hy := hk.weight _ (List.getElem_mem hwk)
          have hgw : gx o.Weight ((k : Nat) : Int) = some o.Weight[k] := gx_at hwk
          generalize o.Weight[k] = y at hy hgw
          simp only [List.length_cons] at h3
          have hz : ((r.length + 1 : Nat) : Int) * (w * 10 * 60 ^ n) = r.length * (w * 10 * 60 ^ n) + w * 10 * 60 ^ n := by
            rw [Int.natCast_add, Int.add_mul]; simp
          rw [hz] at h3
          have hwy : 1 ≤ w * y := by have := Int.mul_le_mul_of_nonneg_left hy.1 (show 0 ≤ w by omega); omega
          have hwy2 : w * y * 60 ^ n ≤ w * 10 * 60 ^ n := Int.mul_le_mul_of_nonneg_right (Int.mul_le_mul_of_nonneg_left hy.2 (by omega)) (by omega)
          have hwy3 : w * y ≤ w * y * 60 ^ n := by have := Int.mul_le_mul_of_nonneg_left hP (show 0 ≤ w * y by omega); omega
          have hnn : 0 ≤ (r.length : Int) * (w * 10 * 60 ^ n) := Int.mul_nonneg (by omega) (by omega)
          obtain ⟨m1, m1', H, A, L, k1, k2, k3, k4⟩ := cases_same n (i + 1) fu (w * y) h a l (mput m t x) (mput m' t x) (by omega) (by omega) (hA.put hn ht ⟨o, ho, hot⟩ hx) hwy h1 h2 (by omega) h4 h5
          unfold Cnt at k4
          obtain ⟨m2, m2', H2, A2, L2, j1, j2, j3, j4⟩ := ih (k + 1) m1 m1' H A L d3 k3.down (by omega) (by omega) (by omega) (by omega) (by omega)
          refine ⟨m2, m2', H2, A2, L2, ?_, ?_, j3, ?_⟩
          · rw [GuideNetcount_1_v1.loop1, gx_nat, ht, Option.bind_some, hgo, Option.bind_some, hgw, Option.bind_some, e1, w64_id (x := w * y) (by omega), k1, Option.bind_some]
            exact j1
          · rw [Fishref2Cases_1_v1.loop3, gx_nat, ht, Option.bind_some, hgw, Option.bind_some, e1, w64_id (x := w * y) (by omega), k2, Option.bind_some]
            exact j2
          · rw [List.length_cons, hz, Int.natCast_add]
            omega
      have h6 : (o.Late.length : Int) * (w * 10 * 60 ^ n) ≤ 6 * (w * 10 * 60 ^ n) := Int.mul_le_mul_of_nonneg_right (by have := hk.small; omega) (by omega)
      have h7 : 6 * (w * 10 * 60 ^ n) = w * 60 ^ n * 60 := by
        generalize (60 : Int) ^ n = P
        rw [Int.mul_assoc w 10 P, Int.mul_left_comm w 10 P]; omega
      have hlp := hk.pos
      obtain ⟨m1, m1', H, A, L, k1, k2, k3, k4⟩ := loops o.Late 0 m m' h a l List.drop_zero hA h1 h2 (by omega) h4 h5
      rw [k1, k2]
      refine ⟨m1, m1', H, A, L, rfl, rfl, k3, ?_⟩
      unfold Cnt
      rw [Int.pow_succ, ← Int.mul_assoc]; omega
end
theorem trains_of : ∀ (l : List GuideRide) (q : List Int), q.Nodup → q.length + l.length ≤ 100 → ∃ q', GuideNetcount.loop1 l q = some q' ∧ Fishref2Cases.loop1 l q = some q' ∧ q'.Nodup ∧ q'.length ≤ q.length + l.length ∧ (∀ x ∈ q, x ∈ q') ∧ ∀ p ∈ l, p.Train ∈ q'
  | [], q, hn, _ => ⟨q, rfl, rfl, hn, Nat.le_refl _, fun _ h => h, by simp⟩
  | p :: l, q, hn, hl => by
    simp only [List.length_cons] at hl
    rw [GuideNetcount.loop1, Fishref2Cases.loop1, contains_eq]
    by_cases c : p.Train ∈ q
    · have e : q.contains p.Train = true := by simpa using c
      rw [e]
      obtain ⟨q', h1, h2, h3, h4, h5, h6⟩ := trains_of l q hn (by omega)
      refine ⟨q', h1, h2, h3, by simp only [List.length_cons]; omega, h5, ?_⟩
      intro z hz
      rcases List.mem_cons.1 hz with rfl | hz
      · exact h5 _ c
      · exact h6 z hz
    · have e : q.contains p.Train = false := by simpa using c
      rw [e]
      simp only [Bool.not_false, if_true]
      rw [apd_lt (by simp; omega)]
      simp only [Option.bind_some]
      obtain ⟨q', h1, h2, h3, h4, h5, h6⟩ := trains_of l (q ++ [p.Train]) (by
        rw [List.nodup_append]
        exact ⟨hn, by simp, fun a ha b hb e => by simp at hb; subst hb; subst e; exact c ha⟩) (by simp; omega)
      refine ⟨q', h1, h2, h3, by simp at h4 ⊢; omega, fun x hx => h5 x (by simp [hx]), ?_⟩
      intro z hz
      rcases List.mem_cons.1 hz with rfl | hz
      · exact h5 _ (by simp)
      · exact h6 z hz
theorem low_loop : ∀ (fu a b : Nat), b < fu → Guidelowest.loop1 fu ((a : Nat) : Int) ((b : Nat) : Int) = some (((Nat.gcd a b : Nat) : Int), 0)
  | 0, _, _, h => absurd h (Nat.not_lt_zero _)
  | fu + 1, a, b, h => by
    rw [Guidelowest.loop1]
    by_cases c : b = 0
    · subst c
      simp
    · rw [decide_eq_true (by omega)]
      simp only [if_true]
      unfold rm
      rw [if_neg (by omega)]
      simp only [Option.bind_some]
      have hlt : a % b < b := Nat.mod_lt _ (by omega)
      rw [tmod_nat, low_loop fu b (a % b) (by omega), gcd_step]
theorem lowest_eq {fu a b : Nat} (hb : 0 < b) (h1 : a < fu) (h2 : b < fu) : ∃ x y, Guidelowest fu (a : Int) (b : Int) = some (x, y) ∧ Fishref2Lowest fu (a : Int) (b : Int) = some (x, y) := by
  have g1 : 0 < Nat.gcd a b := Nat.gcd_pos_of_pos_right _ hb
  have e : ∀ z : Int, ∃ w, dv z ((Nat.gcd a b : Nat) : Int) = some w := by
    intro z
    unfold dv
    rw [if_neg (by omega)]
    exact ⟨_, rfl⟩
  obtain ⟨x, hx⟩ := e a
  obtain ⟨y, hy⟩ := e b
  refine ⟨x, y, ?_, ?_⟩
  · rw [Guidelowest, low_loop fu a b h2, Option.bind_some]
    dsimp only
    rw [hx, Option.bind_some, hy]; rfl
  · rw [Fishref2Lowest, common_run fu b a h1, Nat.gcd_comm b a, Option.bind_some, hx, Option.bind_some, hy]; rfl
theorem GuideChances_law (x0 : ApiDay) (x1 : GuideJourney) (x2 : Int) (x3 : List GuideOdds) (_ : x0.Trains.length ≤ 9223372036854775807) (_ : x0.Turns.length ≤ 9223372036854775807) (_ : x1.Rides.length ≤ 9223372036854775807) (_ : -9223372036854775808 ≤ x2 ∧ x2 ≤ 9223372036854775807) (_ : x3.length ≤ 9223372036854775807) (i0 : InApiDay x0) (_ : InGuideJourney x1) (_ : (inL InGuideOdds) x3) :
    ∃ fu, Fishlaw2GuideChances fu x0 x1 x2 x3 = some true := by
  obtain ⟨n, hn⟩ : ∃ n : Nat, n = 1000000000000 := ⟨_, rfl⟩
  refine ⟨n + 60, ?_⟩
  have hg := guides_true n
  obtain ⟨e, h1, h2, h3⟩ := check_ok i0
  have wrong : ∀ z : Int, z ≠ 0 → GuidecheckOften x0 x1 x2 x3 = some z →
      (∃ f, (if (e == 0) = true then ((Fishref2JourneyFault x0 x1 x2 false).bind fun q66 => some q66) else some e) = some f ∧ (if (f == 0) = true then ((Fishref2OddsFault x0 x3).bind fun q75 => some q75) else some f) = some z) → Fishlaw2GuideChances (n + 60) x0 x1 x2 x3 = some true := by
    rintro z hz hc ⟨f, hf1, hf2⟩
    have c : (z != 0) = true := by simpa using hz
    rw [Fishlaw2GuideChances, GuideChance, GuideExpect, hc, Option.bind_some, Option.bind_some, if_pos c, if_pos c, Option.bind_some, Option.bind_some, h1, Option.bind_some, hf1, Option.bind_some, hf2, Option.bind_some, if_pos c, hg]
    simp
  by_cases c : e = 0
  · subst c
    have hd := h3 rfl
    have hcl : GuidecheckLeast x0 x2 = if !(Guidewithin x2 0 28800) then some 2 else some 0 := by
      rw [GuidecheckLeast, h2, Option.bind_some, if_neg (by decide)]
    by_cases hw : 0 ≤ x2 ∧ x2 ≤ 28800
    · rw [(within_iff x2 0 28800).2 hw] at hcl
      simp only [Bool.not_true, Bool.false_eq_true, if_false] at hcl
      obtain ⟨f, z1, z2, z3⟩ := journey_ok hd x1 x2 false hw
      by_cases cf : f = 0
      · subst cf
        obtain ⟨g, o1, o2, o3⟩ := odds_ok x0 hd.form.1 x3
        have hco : GuidecheckOften x0 x1 x2 x3 = some g := by
          rw [GuidecheckOften, hcl, Option.bind_some, if_neg (by decide), z1, Option.bind_some, if_neg (by decide), o2]; rfl
        by_cases cg : g = 0
        · subst cg
          obtain ⟨r1, r2, r3⟩ := z3 rfl
          obtain ⟨tr, t1, t2, t3, t4, _, t6⟩ := trains_of x1.Rides [] List.nodup_nil (by simp; omega)
          simp only [List.length_nil, Nat.zero_add] at t4
          have hP : ((1 : Int) * 60 ^ tr.length) ≤ 12960000 := by
            have : tr.length ≤ 4 := by omega
            rw [Int.one_mul]
            generalize tr.length = k at this
            match k, this with
            | 0, _ => decide
            | 1, _ => decide
            | 2, _ => decide
            | 3, _ => decide
            | 4, _ => decide
            | k + 5, h => omega
          obtain ⟨m1, m1', H, A, L, k1, k2, k3, k4⟩ := cases_same (ls := x2) (fun p hp => (r3 p hp).1) ⟨r1, r2⟩ (o3 rfl) t3 t6 (by omega) tr.length 0 (n + 60) 1 0 0 0 [] [] (by omega) (by omega)
            ⟨fun k t h => absurd h (Nat.not_lt_zero _), fun _ _ => rfl, fun t => by simp [val, mget]⟩ (by omega) (by omega) (by omega) (by omega) (by omega) (by omega)
          unfold Cnt at k4
          have hcount : GuideNetcount (n + 60) ⟨x0, x2⟩ x1 x3 = some ⟨H, A, L⟩ := by
            rw [GuideNetcount, t1, Option.bind_some]
            have k1' : GuideNetcount_1_v1 (n + 60) 0 1 tr x3 [] ⟨0, 0, 0⟩ x1 ⟨x0, x2⟩ = some (m1, H, A, L) := k1
            rw [k1']; rfl
          have hcases : Fishref2Cases (n + 60) x0 x1 x2 x3 = some (A, H, L) := by
            rw [Fishref2Cases, t2, Option.bind_some]
            have k2' : Fishref2Cases_1_v1 (n + 60) 0 1 tr 0 x1 x0 [] x2 0 0 x3 = some (m1', A, H, L) := k2
            rw [k2']; rfl
          obtain ⟨x, y, l1, l2⟩ := lowest_eq (fu := n + 60) (a := H.toNat) (b := A.toNat) (by omega) (by omega) (by omega)
          rw [show ((H.toNat : Nat) : Int) = H by omega, show ((A.toNat : Nat) : Int) = A by omega] at l1 l2
          have hch : GuideChance (n + 60) x0 x1 x2 x3 = some (x, y, 0) := by
            rw [GuideChance, hco, Option.bind_some, if_neg (by decide), hcount, Option.bind_some, l1]; rfl
          by_cases ch : H = 0
          · have hex : GuideExpect (n + 60) x0 x1 x2 x3 = some (0, 0, 9) := by
              rw [GuideExpect, hco, Option.bind_some, if_neg (by decide), hcount, Option.bind_some, if_pos (by simpa using ch)]
            rw [Fishlaw2GuideChances, hch, hex, h1, Option.bind_some, Option.bind_some, Option.bind_some, if_pos (by decide), z2, Option.bind_some, Option.bind_some, if_pos (by decide), o1, Option.bind_some, Option.bind_some, if_neg (by decide), hcases, Option.bind_some, l2, Option.bind_some, hg]
            simp [ch, bnd]
          · obtain ⟨u, v, l3, l4⟩ := lowest_eq (fu := n + 60) (a := L.toNat) (b := H.toNat) (by omega) (by omega) (by omega)
            rw [show ((L.toNat : Nat) : Int) = L by omega, show ((H.toNat : Nat) : Int) = H by omega] at l3 l4
            have hex : GuideExpect (n + 60) x0 x1 x2 x3 = some (u, v, 0) := by
              rw [GuideExpect, hco, Option.bind_some, if_neg (by decide), hcount, Option.bind_some, if_neg (by simpa using ch), l3]; rfl
            rw [Fishlaw2GuideChances, hch, hex, h1, Option.bind_some, Option.bind_some, Option.bind_some, if_pos (by decide), z2, Option.bind_some, Option.bind_some, if_pos (by decide), o1, Option.bind_some, Option.bind_some, if_neg (by decide), hcases, Option.bind_some, l2, Option.bind_some, hg]
            simp [ch, bnd, l4]
        · refine wrong g cg hco ⟨0, ?_, ?_⟩
          · rw [if_pos (by decide), z2]; rfl
          · rw [if_pos (by decide), o1]; rfl
      · refine wrong f cf ?_ ⟨f, ?_, ?_⟩
        · rw [GuidecheckOften, hcl, Option.bind_some, if_neg (by decide), z1, Option.bind_some, if_pos (by simpa using cf)]
        · rw [if_pos (by decide), z2]; rfl
        · rw [if_neg (by simpa using cf)]
    · have hw2 : Guidewithin x2 0 28800 = false := by
        cases h : Guidewithin x2 0 28800 with
        | true => exact absurd ((within_iff _ _ _).1 h) hw
        | false => rfl
      rw [hw2] at hcl
      refine wrong 2 (by decide) ?_ ⟨2, ?_, rfl⟩
      · rw [GuidecheckOften, hcl]; rfl
      · rw [if_pos (by decide), Fishref2JourneyFault, show Fishref2within x2 0 28800 = Guidewithin x2 0 28800 from rfl, hw2]; rfl
  · have c2 : (e != 0) = true := by simpa using c
    refine wrong e c ?_ ⟨e, ?_, ?_⟩
    · rw [GuidecheckOften, GuidecheckLeast, h2, Option.bind_some, if_pos c2, Option.bind_some, if_pos c2]
    · rw [if_neg (by simpa using c)]
    · rw [if_neg (by simpa using c)]
end Go.Fp
