/- GuideReaches: the mirror of the law is true of all days, stations and times. -/
import Derived.Test.YtpcebngchmgckaaDoorGuideReachesM
import Derived.Test.YtpcebngchmgckaaDoorFpPlain
import Derived.Lib.ItoaLen
import Derived.KernelRfl
namespace Go.Fp
/-! texts of numbers -/
/-- a number's text -/
def tx (n : Int) : ByteArray := ⟨(Lib.itoa n).toArray⟩
theorem itoa_tx {n : Int} (h : -9223372036854775808 ≤ n ∧ n ≤ 9223372036854775807) : itoa n = some (tx n) := by unfold itoa; rw [if_pos h]; rfl
theorem tx_size {n : Int} (h : -9223372036854775808 ≤ n ∧ n ≤ 9223372036854775807) : (tx n).size ≤ 21 := by
  have := Lib.itoa_length_le n h.1 h.2
  unfold tx
  show ((Lib.itoa n).toArray).size ≤ 21
  simpa using this
theorem scat_in {a b : ByteArray} (h : a.size + b.size ≤ 9223372036854775807) : scat a b = some (a ++ b) := by unfold scat; rw [if_pos h]
theorem sbw_in {y x : ByteArray} (h0 : 0 < x.size) (h : y.size + x.size < 4294967296) : sbw y x = some (y ++ x) := by unfold sbw; rw [if_pos ⟨h0, h⟩]
theorem mget_put (m : List (Int × Bool)) (k j : Int) (v : Bool) : mget (mput m k v) j = if j = k then some v else mget m j := by
  induction m with
  | nil => simp [mput, mget]
  | cons p r ih =>
    obtain ⟨a, b⟩ := p
    simp only [mput]
    by_cases h : k = a
    · subst h
      simp only [beq_self_eq_true, if_true, mget]
      by_cases h2 : j = k <;> simp [h2]
    · have hb : (k == a) = false := by simpa using h
      simp only [hb, Bool.false_eq_true, if_false, mget]
      by_cases h2 : j = a
      · subst h2; have : ¬ j = k := fun e => h e.symm; simp [this]
      · have hb2 : (j == a) = false := by simpa using h2
        simp [hb2, ih]
/-! days: what Text says, what Check says -/
def wi (x : Int) : Bool := Planwithin x 0 999999
theorem form2 : ∀ l, Fishref2TextFault.loop2 l = Planform.loop2 l
  | [] => rfl
  | x :: r => by simp only [Fishref2TextFault.loop2, Planform.loop2, form2 r]
theorem form3 : ∀ l, Fishref2TextFault.loop3 l = Planform.loop3 l
  | [] => rfl
  | x :: r => by simp only [Fishref2TextFault.loop3, Planform.loop3, form3 r]
theorem form4 : ∀ l, Fishref2TextFault.loop4 l = Planform.loop4 l
  | [] => rfl
  | x :: r => by simp only [Fishref2TextFault.loop4, Planform.loop4, form4 r]
theorem form1 : ∀ l, Fishref2TextFault.loop1 l = Planform.loop1 l
  | [] => rfl
  | x :: r => by simp only [Fishref2TextFault.loop1, Planform.loop1, form1 r, form2, form3]

def trainForm (t : ApiTrain) : Prop := 1 ≤ t.Stops.length ∧ t.Stops.length ≤ 8 ∧ t.Legs.length + 1 = t.Stops.length ∧ ∀ g ∈ t.Legs, g.length ≤ 4
def dayForm (d : ApiDay) : Prop := d.Trains.length ≤ 12 ∧ d.Turns.length ≤ 8 ∧ (∀ t ∈ d.Trains, trainForm t) ∧ ∀ g ∈ d.Turns, g.length ≤ 12
theorem form3_out : ∀ l, (Planform.loop3 l = .ret 4) ∨ (Planform.loop3 l = .next () ∧ ∀ g ∈ l, g.length ≤ 4)
  | [] => .inr ⟨rfl, by simp⟩
  | x :: r => by
    rw [Planform.loop3]
    by_cases c : ((x.length : Nat) : Int) > 4
    · rw [if_pos (by simpa using c)]; exact .inl rfl
    · rw [if_neg (by simpa using c)]
      rcases form3_out r with h | ⟨h, k⟩
      · exact .inl h
      · refine .inr ⟨h, ?_⟩
        intro g hg
        rcases List.mem_cons.1 hg with rfl | hg
        · omega
        · exact k g hg
theorem form2_out : ∀ l, (Planform.loop2 l = .ret 1) ∨ (Planform.loop2 l = .next ())
  | [] => .inr rfl
  | x :: r => by
    rw [Planform.loop2]
    split
    · exact .inl rfl
    · exact form2_out r
theorem form4_out : ∀ l, (∃ e, e ≠ 0 ∧ Planform.loop4 l = .ret e) ∨ (Planform.loop4 l = .next () ∧ ∀ g ∈ l, g.length ≤ 12)
  | [] => .inr ⟨rfl, by simp⟩
  | x :: r => by
    rw [Planform.loop4]
    split
    · exact .inl ⟨1, by decide, rfl⟩
    · by_cases c : ((x.length : Nat) : Int) > 12
      · rw [if_pos (by simpa using c)]; exact .inl ⟨4, by decide, rfl⟩
      · rw [if_neg (by simpa using c)]
        rcases form4_out r with h | ⟨h, k⟩
        · exact .inl h
        · refine .inr ⟨h, ?_⟩
          intro g hg
          rcases List.mem_cons.1 hg with rfl | hg
          · omega
          · exact k g hg
theorem form1_out : ∀ l, (∃ e, e ≠ 0 ∧ Planform.loop1 l = .ret e) ∨ (Planform.loop1 l = .next () ∧ ∀ t ∈ l, trainForm t)
  | [] => .inr ⟨rfl, by simp⟩
  | x :: r => by
    rw [Planform.loop1, bnd_eq]
    generalize hq : (if (((x.Stops).length : Int) == 0) = true then true else (((x.Legs).length : Int) != (w64 (((x.Stops).length : Int) - 1)))) = q
    cases q with
    | true => exact .inl ⟨1, by decide, rfl⟩
    | false =>
      rw [if_neg (by decide), bnd_eq]
      rcases form2_out x.Legs with h | h
      · rw [h]; exact .inl ⟨1, by decide, rfl⟩
      · rw [h]
        dsimp only
        by_cases c : ((x.Stops.length : Nat) : Int) > 8
        · rw [if_pos (by simpa using c)]; exact .inl ⟨4, by decide, rfl⟩
        · rw [if_neg (by simpa using c), bnd_eq]
          rcases form3_out x.Legs with h3 | ⟨h3, k3⟩
          · rw [h3]; exact .inl ⟨4, by decide, rfl⟩
          · rw [h3]
            dsimp only
            rcases form1_out r with h1 | ⟨h1, k1⟩
            · exact .inl h1
            · refine .inr ⟨h1, ?_⟩
              intro t ht
              rcases List.mem_cons.1 ht with rfl | ht
              · split at hq
                · cases hq
                · rename_i hz
                  rw [w64_id (by omega)] at hq
                  have hq2 : ((t.Legs.length : Nat) : Int) = ((t.Stops.length : Nat) : Int) - 1 := by simpa using hq
                  have hz2 : ¬ t.Stops.length = 0 := by simpa using hz
                  exact ⟨by omega, by omega, by omega, k3⟩
              · exact k1 t ht
theorem form_out (d : ApiDay) : Planform d ≠ 0 ∨ (Planform d = 0 ∧ dayForm d) := by
  rw [Planform, bnd_eq]
  by_cases c : ((d.Trains.length : Nat) : Int) > 12 ∨ ((d.Turns.length : Nat) : Int) > 8
  · left
    rw [if_pos (by rcases c with c | c <;> simp [c])]; decide
  · have c1 : ¬ ((d.Trains.length : Nat) : Int) > 12 := fun h => c (.inl h)
    have c2 : ¬ ((d.Turns.length : Nat) : Int) > 8 := fun h => c (.inr h)
    rw [if_neg (by simp [c1, c2]), bnd_eq]
    rcases form1_out d.Trains with ⟨e, he, h⟩ | ⟨h, k⟩
    · rw [h]; exact .inl he
    · rw [h]
      dsimp only
      rw [bnd_eq]
      rcases form4_out d.Turns with ⟨e, he, h4⟩ | ⟨h4, k4⟩
      · rw [h4]; exact .inl he
      · rw [h4]; exact .inr ⟨rfl, by omega, by omega, k, k4⟩

/-! the numbers -/
def numS (x : ApiStop) : List Int := [x.Station, x.Track, x.Arr, x.Dep]
def numT (t : ApiTrain) : List (List Int) := [t.No, t.Stock] :: (t.Stops.map numS ++ t.Legs)
theorem num2 : ∀ (l : List ApiStop) (q : List (List Int)), q.length + l.length < 4294967296 → Fishref2numbersIn.loop2 l q = some (q ++ l.map numS)
  | [], q, _ => by simp [Fishref2numbersIn.loop2]
  | x :: r, q, h => by
    simp only [List.length_cons] at h
    rw [Fishref2numbersIn.loop2, apd_lt (by simp; omega), Option.bind_some, num2 r _ (by simp; omega)]
    simp [numS]
theorem num1 : ∀ (l : List ApiTrain) (q : List (List Int)), (∀ t ∈ l, trainForm t) → q.length + 17 * l.length < 4294967296 → Fishref2numbersIn.loop1 l q = some (q ++ l.flatMap numT)
  | [], q, _, _ => by simp [Fishref2numbersIn.loop1]
  | t :: r, q, ht, h => by
    simp only [List.length_cons] at h
    obtain ⟨t1, t2, t3, t4⟩ := ht t (List.mem_cons_self ..)
    rw [Fishref2numbersIn.loop1, apd_lt (by simp; omega), Option.bind_some, num2 _ _ (by simp; omega), Option.bind_some, apd_lt (by simp; omega), Option.bind_some,
      num1 r _ (fun t h => ht t (List.mem_cons_of_mem _ h)) (by simp; omega)]
    simp [numT]
theorem numT_len {t : ApiTrain} (h : trainForm t) : (numT t).length ≤ 16 := by
  obtain ⟨t1, t2, t3, t4⟩ := h
  simp [numT]; omega
theorem num_all {d : ApiDay} (h : dayForm d) : Fishref2numbersIn d = some (d.Trains.flatMap numT ++ d.Turns) := by
  obtain ⟨h1, h2, h3, h4⟩ := h
  have hl : ∀ l : List ApiTrain, (∀ t ∈ l, trainForm t) → (l.flatMap numT).length ≤ 16 * l.length := by
    intro l
    induction l with
    | nil => intro _; simp
    | cons t r ih =>
      intro ht
      have := numT_len (ht t (List.mem_cons_self ..))
      have := ih fun t h => ht t (List.mem_cons_of_mem _ h)
      simp only [List.flatMap_cons, List.length_append, List.length_cons]; omega
  have := hl _ h3
  rw [Fishref2numbersIn, num1 _ _ h3 (by simp; omega), Option.bind_some, List.nil_append, apd_lt (by omega)]
  rfl
theorem num6 : ∀ l : List Int, Fishref2TextFault.loop6 l = if l.all wi then .next () else .ret 2
  | [] => rfl
  | x :: r => by
    rw [Fishref2TextFault.loop6, num6 r]
    show (if (!wi x) = true then _ else _) = _
    cases h : wi x <;> simp [h]
theorem num5 (L : List (List Int)) : ∀ (r : List (List Int)) (k : Nat), L.drop k = r → Fishref2TextFault.loop5 L r.length k = some (if r.all (·.all wi) then .next () else .ret 2)
  | [], k, _ => rfl
  | x :: r, k, hd => by
    obtain ⟨d1, d2, d3⟩ := drop_cons hd
    rw [List.length_cons, Fishref2TextFault.loop5, gx_nat, d2, Option.bind_some, bnd_eq, num6]
    cases h : x.all wi with
    | true => simp [h, num5 L r (k + 1) d3]
    | false => simp [h]

/-! the text -/
theorem flag1 : ∀ (l : List Int) (b : Bool), PlanText_1_v1.loop1 l b = (b && l.all wi)
  | [], b => by simp [PlanText_1_v1.loop1]
  | x :: r, b => by
    rw [PlanText_1_v1.loop1, bnd_eq, flag1 r]
    show ((if b = true then wi x else false) && r.all wi) = _
    cases b <;> simp
theorem sent1 : ∀ (l : List Int) (q : ByteArray), inL inI l → q.size + 22 * l.length < 4294967296 → ∃ z, Plansentence.loop1 l q = some z ∧ z.size ≤ q.size + 22 * l.length
  | [], q, _, _ => ⟨q, rfl, by simp⟩
  | x :: r, q, hi, h => by
    simp only [List.length_cons] at h
    have hx := hi x (List.mem_cons_self ..)
    have hs := tx_size hx
    have s32 : (str [32]).size = 1 := rfl
    have e1 : (str [32] ++ tx x).size = 1 + (tx x).size := by rw [ByteArray.size_append, s32]
    have e4 : (q ++ (str [32] ++ tx x)).size = q.size + (1 + (tx x).size) := by rw [ByteArray.size_append, e1]
    obtain ⟨z, h1, h2⟩ := sent1 r (q ++ (str [32] ++ tx x)) (fun y h => hi y (List.mem_cons_of_mem _ h)) (by omega)
    refine ⟨z, ?_, by simp only [List.length_cons]; omega⟩
    rw [Plansentence.loop1, itoa_tx hx, Option.bind_some, scat_in (by omega), Option.bind_some, scat_in (by omega), Option.bind_some]
    exact h1
theorem sent {l : List Int} {w : ByteArray} (hi : inL inI l) (h : w.size + 22 * l.length < 4294967295) : ∃ z, Plansentence w l = some z ∧ 0 < z.size ∧ z.size ≤ w.size + 22 * l.length + 1 := by
  obtain ⟨z, h1, h2⟩ := sent1 l w hi (by omega)
  have s10 : (str [10]).size = 1 := rfl
  have e : (z ++ str [10]).size = z.size + 1 := by rw [ByteArray.size_append, s10]
  exact ⟨z ++ str [10], by rw [Plansentence, h1, Option.bind_some, scat_in (by omega)]; rfl, by omega, by omega⟩
theorem wr {l : List Int} {w y : ByteArray} {b : Bool} (hi : inL inI l) (hw : w.size ≤ 5) (h : y.size + (22 * l.length + 6) < 4294967295) :
    ∃ z, PlanText_1_v1 w l b y = some (b && l.all wi, z) ∧ z.size ≤ y.size + (22 * l.length + 6) := by
  obtain ⟨z, h1, h2, h3⟩ := sent (w := w) hi (by omega)
  have e : (y ++ z).size = y.size + z.size := ByteArray.size_append
  exact ⟨y ++ z, by rw [PlanText_1_v1, flag1, bnd_eq, h1, Option.bind_some, sbw_in h2 (by omega)]; rfl, by omega⟩
theorem txt2 : ∀ (l : List ApiStop) (y : ByteArray) (b : Bool), inL InApiStop l → y.size + 94 * l.length < 4294967000 →
    ∃ z, PlanText.loop2 l y b = some (z, b && (l.map numS).all (·.all wi)) ∧ z.size ≤ y.size + 94 * l.length
  | [], y, b, _, _ => ⟨y, by simp [PlanText.loop2], by simp⟩
  | x :: r, y, b, hi, h => by
    simp only [List.length_cons] at h
    have hx := hi x (List.mem_cons_self ..)
    obtain ⟨z, h1, h2⟩ := wr (l := numS x) (w := str [115, 116, 111, 112]) (y := y) (b := b) (by
      intro v hv
      simp only [numS, List.mem_cons, List.not_mem_nil, or_false] at hv
      rcases hv with rfl | rfl | rfl | rfl
      · exact hx.1
      · exact hx.2.1
      · exact hx.2.2.1
      · exact hx.2.2.2) (by decide) (by simp [numS]; omega)
    simp only [numS, List.length_cons, List.length_nil] at h2
    obtain ⟨z2, h3, h4⟩ := txt2 r z (b && (numS x).all wi) (fun y h => hi y (List.mem_cons_of_mem _ h)) (by omega)
    refine ⟨z2, ?_, by simp only [List.length_cons]; omega⟩
    rw [PlanText.loop2]
    rw [show [x.Station, x.Track, x.Arr, x.Dep] = numS x from rfl, h1, Option.bind_some]
    dsimp only
    rw [h3, List.map_cons, List.all_cons, Bool.and_assoc]
theorem txt3 (w : ByteArray) (hw : w.size ≤ 5) (F : List (List Int) → ByteArray → Bool → Option (ByteArray × Bool)) (hn : ∀ y b, F [] y b = some (y, b))
    (hc : ∀ x r y b, F (x :: r) y b = (PlanText_1_v1 w x b y).bind fun q => F r q.2 q.1) (m : Nat) (hm : m ≤ 100) : ∀ (l : List (List Int)) (y : ByteArray) (b : Bool), inL (inL inI) l → (∀ g ∈ l, g.length ≤ m) → y.size + (22 * m + 6) * l.length < 4294960000 →
    ∃ z, F l y b = some (z, b && l.all (·.all wi)) ∧ z.size ≤ y.size + (22 * m + 6) * l.length
  | [], y, b, _, _, _ => ⟨y, by simp [hn], by simp⟩
  | x :: r, y, b, hi, hl, h => by
    simp only [List.length_cons, Nat.mul_add, Nat.mul_one] at h
    have hx := hi x (List.mem_cons_self ..)
    have hxl := hl x (List.mem_cons_self ..)
    obtain ⟨z, h1, h2⟩ := wr (l := x) (w := w) (y := y) (b := b) hx hw (by omega)
    obtain ⟨z2, h3, h4⟩ := txt3 w hw F hn hc m hm r z (b && x.all wi) (fun y h => hi y (List.mem_cons_of_mem _ h)) (fun g h => hl g (List.mem_cons_of_mem _ h)) (by omega)
    refine ⟨z2, ?_, by simp only [List.length_cons, Nat.mul_add, Nat.mul_one]; omega⟩
    rw [hc, h1, Option.bind_some]
    dsimp only
    rw [h3, List.all_cons, Bool.and_assoc]
theorem txt1 : ∀ (l : List ApiTrain) (y : ByteArray) (b : Bool), inL InApiTrain l → (∀ t ∈ l, trainForm t) → y.size + 1700 * l.length < 4294900000 →
    ∃ z, PlanText.loop1 l y b = some (z, b && (l.flatMap numT).all (·.all wi)) ∧ z.size ≤ y.size + 1700 * l.length
  | [], y, b, _, _, _ => ⟨y, by simp [PlanText.loop1], by simp⟩
  | t :: r, y, b, hi, hf, h => by
    simp only [List.length_cons] at h
    obtain ⟨i1, i2, i3, i4⟩ := hi t (List.mem_cons_self ..)
    obtain ⟨t1, t2, t3, t4⟩ := hf t (List.mem_cons_self ..)
    obtain ⟨z, h1, h2⟩ := wr (l := [t.No, t.Stock]) (w := str [116, 114, 97, 105, 110]) (y := y) (b := b) (by
      intro v hv
      simp only [List.mem_cons, List.not_mem_nil, or_false] at hv
      rcases hv with rfl | rfl
      · exact i1
      · exact i2) (by decide) (by simp; omega)
    simp only [List.length_cons, List.length_nil] at h2
    obtain ⟨z2, h3, h4⟩ := txt2 t.Stops z (b && [t.No, t.Stock].all wi) i3 (by omega)
    obtain ⟨z3, h5, h6⟩ := txt3 (str [108, 101, 103]) (by decide) PlanText.loop3 (fun _ _ => rfl) (fun _ _ _ _ => rfl) 4 (by omega) t.Legs z2 ((b && [t.No, t.Stock].all wi) && (t.Stops.map numS).all (·.all wi)) i4 t4 (by omega)
    obtain ⟨z4, h7, h8⟩ := txt1 r z3 (((b && [t.No, t.Stock].all wi) && (t.Stops.map numS).all (·.all wi)) && t.Legs.all (·.all wi)) (fun y h => hi y (List.mem_cons_of_mem _ h)) (fun y h => hf y (List.mem_cons_of_mem _ h)) (by omega)
    refine ⟨z4, ?_, by simp only [List.length_cons]; omega⟩
    rw [PlanText.loop1, h1, Option.bind_some]
    dsimp only
    rw [h3, Option.bind_some]
    dsimp only
    rw [h5, Option.bind_some]
    dsimp only
    rw [h7]
    simp only [List.flatMap_cons, numT, List.cons_append, List.all_cons, List.all_append, Bool.and_assoc, List.all_nil]
theorem text_ok {d : ApiDay} (hi : InApiDay d) : ∃ e b, Fishref2TextFault d = some e ∧ PlanText d = some (b, e) ∧ (e = 0 → dayForm d) := by
  rcases form_out d with h | ⟨h, k⟩
  · refine ⟨Planform d, str [], ?_, ?_, fun e => absurd e h⟩
    · revert h
      rw [Fishref2TextFault, Planform]
      simp only [form1, form4, bnd_eq]
      cases (if decide (((d.Trains).length : Int) > 12) = true then true else decide (((d.Turns).length : Int) > 8)) with
      | true => intro _; rfl
      | false =>
        simp only [Bool.false_eq_true, if_false]
        cases Planform.loop1 d.Trains with
        | ret r => intro _; rfl
        | next u =>
          dsimp only
          cases Planform.loop4 d.Turns with
          | ret r => intro _; rfl
          | next u => intro h; exact absurd rfl h
    · rw [PlanText, if_pos (by simpa using h)]
  · obtain ⟨k1, k2, k3, k4⟩ := k
    have hnum := num_all ⟨k1, k2, k3, k4⟩
    obtain ⟨z, h1, h2⟩ := txt1 d.Trains ByteArray.empty true hi.1 k3 (by simp; omega)
    have h2' : z.size ≤ 1700 * d.Trains.length := by simpa using h2
    obtain ⟨z2, h3, h4⟩ := txt3 (str [116, 117, 114, 110]) (by decide) PlanText.loop4 (fun _ _ => rfl) (fun _ _ _ _ => rfl) 12 (by omega) d.Turns z (true && (d.Trains.flatMap numT).all (·.all wi)) hi.2 k4 (by omega)
    have hT : Fishref2TextFault d = some (if (d.Trains.flatMap numT ++ d.Turns).all (·.all wi) then 0 else 2) := by
      have h' := h
      rw [Planform] at h'
      simp only [bnd_eq] at h'
      rw [Fishref2TextFault]
      simp only [form1, form4, bnd_eq]
      cases hc : (if decide (((d.Trains).length : Int) > 12) = true then true else decide (((d.Turns).length : Int) > 8)) with
      | true => rw [hc] at h'; cases h'
      | false =>
        rw [hc] at h'
        simp only [Bool.false_eq_true, if_false] at h' ⊢
        cases hA : Planform.loop1 d.Trains with
        | ret r =>
          rw [hA] at h'
          rcases form1_out d.Trains with ⟨e, he, hh⟩ | ⟨hh, _⟩
          · rw [hA] at hh; injection hh with hh; dsimp only at h'; rw [hh] at h'; exact absurd h' he
          · rw [hA] at hh; cases hh
        | next u =>
          rw [hA] at h'
          dsimp only at h' ⊢
          cases hB : Planform.loop4 d.Turns with
          | ret r =>
            rw [hB] at h'
            rcases form4_out d.Turns with ⟨e, he, hh⟩ | ⟨hh, _⟩
            · rw [hB] at hh; injection hh with hh; dsimp only at h'; rw [hh] at h'; exact absurd h' he
            · rw [hB] at hh; cases hh
          | next u =>
            dsimp only
            rw [hnum, Option.bind_some, num5 _ _ 0 (List.drop_zero), Option.bind_some]
            cases (d.Trains.flatMap numT ++ d.Turns).all (·.all wi) <;> rfl
    refine ⟨_, if (d.Trains.flatMap numT ++ d.Turns).all (·.all wi) then z2 else str [], hT, ?_, fun _ => ⟨k1, k2, k3, k4⟩⟩
    rw [PlanText, if_neg (by simp [h]), h1, Option.bind_some]
    dsimp only
    rw [h3, Option.bind_some]
    dsimp only
    rw [List.all_append]
    cases hA : (d.Trains.flatMap numT).all (·.all wi) <;> cases hB : d.Turns.all (·.all wi) <;> simp [hA, hB]

/-! Check -/
theorem chk2 (t : ApiTrain) : ∀ (l : List ApiStop) (k : Nat), Fishref2GuideFault.loop3 t l k = GuideCheck.loop2 t l k
  | [], _ => rfl
  | x :: r, k => by
    simp only [Fishref2GuideFault.loop3, GuideCheck.loop2, chk2 t r]
    rfl
/-- the stops of a train are in order -/
def stopsOk (l : List ApiStop) : Prop := (∀ x ∈ l, 0 ≤ x.Station ∧ x.Station ≤ 11 ∧ 0 ≤ x.Arr ∧ x.Arr ≤ 28800 ∧ 0 ≤ x.Dep ∧ x.Dep ≤ 28800 ∧ x.Arr ≤ x.Dep) ∧ ∀ k x y, l[k]? = some x → l[k + 1]? = some y → x.Dep < y.Arr
theorem within_iff (x a b : Int) : Guidewithin x a b = true ↔ a ≤ x ∧ x ≤ b := by
  unfold Guidewithin bnd
  by_cases h : x ≥ a <;> simp [h] <;> omega
theorem chk2_out (t : ApiTrain) (hl : t.Stops.length ≤ 9223372036854775807) : ∀ (r : List ApiStop) (k : Nat), t.Stops.drop k = r →
    (∃ e, e ≠ 0 ∧ GuideCheck.loop2 t r k = some (.ret e)) ∨ (GuideCheck.loop2 t r k = some (.next ()) ∧ (∀ x ∈ r, 0 ≤ x.Station ∧ x.Station ≤ 11 ∧ 0 ≤ x.Arr ∧ x.Arr ≤ 28800 ∧ 0 ≤ x.Dep ∧ x.Dep ≤ 28800 ∧ x.Arr ≤ x.Dep) ∧ ∀ j x y, k ≤ j + 1 → t.Stops[j]? = some x → t.Stops[j + 1]? = some y → x.Dep < y.Arr)
  | [], k, hd => .inr ⟨rfl, by simp, fun j x y hj hx hy => by
      have := drop_nil hd
      have := (List.getElem?_eq_some_iff.1 hy).1
      omega⟩
  | x :: r, k, hd => by
    obtain ⟨d1, d2, d3⟩ := drop_cons hd
    rw [GuideCheck.loop2, bnd_eq]
    cases c1 : Guidewithin x.Station 0 11 with
    | false => exact .inl ⟨2, by decide, by simp⟩
    | true =>
      cases c2 : Guidewithin x.Arr 0 28800 with
      | false => exact .inl ⟨2, by decide, by simp⟩
      | true =>
        cases c3 : Guidewithin x.Dep 0 28800 with
        | false => exact .inl ⟨2, by decide, by simp⟩
        | true =>
          have w1 := (within_iff _ _ _).1 c1
          have w2 := (within_iff _ _ _).1 c2
          have w3 := (within_iff _ _ _).1 c3
          simp only [Bool.not_true, Bool.false_eq_true, if_false]
          by_cases c4 : x.Dep < x.Arr
          · exact .inl ⟨5, by decide, by simp [c4]⟩
          · simp only [decide_eq_false c4, Bool.false_eq_true, if_false]
            rcases Nat.eq_zero_or_pos k with c5 | c5
            · subst c5
              simp only [Int.ofNat_eq_natCast, Int.natCast_zero, gt_iff_lt, Int.lt_irrefl, decide_false, Bool.false_eq_true, if_false, Option.bind_some]
              rcases chk2_out t hl r 1 d3 with h | ⟨h, k1, k2⟩
              · exact .inl h
              · refine .inr ⟨h, ?_, fun j a b _ ha hb => k2 j a b (by omega) ha hb⟩
                intro y hy
                rcases List.mem_cons.1 hy with rfl | hy
                · omega
                · exact k1 y hy
            · rw [if_pos (by simpa using c5), gx_prev c5 (by omega) hl, Option.bind_some, Option.bind_some]
              by_cases c6 : x.Arr ≤ (t.Stops[k - 1]'(by omega)).Dep
              · exact .inl ⟨5, by decide, by simp [c6]⟩
              · simp only [decide_eq_false c6, Bool.false_eq_true, if_false]
                rcases chk2_out t hl r (k + 1) d3 with h | ⟨h, k1, k2⟩
                · exact .inl h
                · refine .inr ⟨h, ?_, fun j a b hj ha hb => ?_⟩
                  · intro y hy
                    rcases List.mem_cons.1 hy with rfl | hy
                    · omega
                    · exact k1 y hy
                  · by_cases e : j + 1 = k
                    · subst e
                      rw [d2] at hb
                      injection hb with hb
                      subst hb
                      have : t.Stops[j + 1 - 1]'(by omega) = a := by
                        have := List.getElem?_eq_some_iff.1 ha
                        obtain ⟨_, h2⟩ := this
                        simpa using h2
                      rw [this] at c6
                      omega
                    · exact k2 j a b (by omega) ha hb
theorem chkno (t : ApiTrain) : ∀ l : List ApiTrain, Fishref2GuideFault.loop2 t l = if l.any (·.No == t.No) then .ret 6 else .next ()
  | [] => rfl
  | x :: r => by
    rw [Fishref2GuideFault.loop2, chkno t r]
    cases h : (x.No == t.No) <;> simp [h]
/-- a day that can be read -/
structure DayOk (d : ApiDay) : Prop where
  form : dayForm d
  two : ∀ t ∈ d.Trains, 2 ≤ t.Stops.length
  stops : ∀ t ∈ d.Trains, stopsOk t.Stops
  nos : ∀ t ∈ d.Trains, 1 ≤ t.No ∧ t.No ≤ 9999
  apart : ∀ (i j : Nat) (s t : ApiTrain), i < j → d.Trains[i]? = some s → d.Trains[j]? = some t → s.No ≠ t.No
theorem chk1 (d : ApiDay) (hl : d.Trains.length ≤ 9223372036854775807) (hs : ∀ t ∈ d.Trains, t.Stops.length ≤ 9223372036854775807) : ∀ (r : List ApiTrain) (k : Nat) (q : List (Int × Bool)), d.Trains.drop k = r →
    (∀ n, (mget q n).getD false = (d.Trains.take k).any (·.No == n)) →
    (∃ e, e ≠ 0 ∧ Fishref2GuideFault.loop1 d r k = some (.ret e) ∧ GuideCheck.loop1 r q = some (.ret e)) ∨
    (Fishref2GuideFault.loop1 d r k = some (.next ()) ∧ (∃ q', GuideCheck.loop1 r q = some (.next q')) ∧ (∀ t ∈ r, 2 ≤ t.Stops.length ∧ stopsOk t.Stops ∧ 1 ≤ t.No ∧ t.No ≤ 9999) ∧ ∀ i j s t, i < j → k ≤ j → d.Trains[i]? = some s → d.Trains[j]? = some t → s.No ≠ t.No)
  | [], k, q, hd, _ => .inr ⟨rfl, ⟨q, rfl⟩, by simp, fun i j s t _ hj _ ht => by
      have := drop_nil hd
      have := (List.getElem?_eq_some_iff.1 ht).1
      omega⟩
  | t :: r, k, q, hd, hq => by
    obtain ⟨d1, d2, d3⟩ := drop_cons hd
    have htm : t ∈ d.Trains := List.mem_of_getElem? d2
    rw [Fishref2GuideFault.loop1, GuideCheck.loop1, cutl_in (by omega) (by omega) (by omega), Option.bind_some, bnd_eq, chkno, hq]
    rw [show Fishref2within t.No 1 9999 = Guidewithin t.No 1 9999 from rfl]
    cases c1 : Guidewithin t.No 1 9999 with
    | false => exact .inl ⟨2, by decide, by simp, by simp⟩
    | true =>
      have w1 := (within_iff _ _ _).1 c1
      simp only [Bool.not_true, Bool.false_eq_true, if_false]
      have e0 : List.drop (Int.toNat 0) (List.take (((k : Nat) : Int).toNat) d.Trains) = d.Trains.take k := by simp
      rw [e0]
      cases c2 : (d.Trains.take k).any (·.No == t.No) with
      | true => exact .inl ⟨6, by decide, by simp, by simp⟩
      | false =>
        simp only [Bool.false_eq_true, if_false]
        by_cases c3 : ((t.Stops.length : Nat) : Int) < 2
        · exact .inl ⟨1, by decide, by simp [c3], by simp [c3]⟩
        · simp only [decide_eq_false c3, Bool.false_eq_true, if_false, chk2]
          rcases chk2_out t (hs t htm) t.Stops 0 rfl with ⟨e, he, h⟩ | ⟨h, k1, k2⟩
          · exact .inl ⟨e, he, by rw [h]; rfl, by rw [h]; rfl⟩
          · rw [h, Option.bind_some, Option.bind_some]
            dsimp only
            have hq2 : ∀ n, (mget (mput q t.No true) n).getD false = (d.Trains.take (k + 1)).any (·.No == n) := by
              intro n
              rw [mget_put, List.take_add_one, d2]
              simp only [Option.toList_some, List.any_append, List.any_cons, List.any_nil, Bool.or_false]
              by_cases c : n = t.No
              · subst c; simp
              · have : (t.No == n) = false := by simpa using fun h => c h.symm
                rw [if_neg c, this, Bool.or_false]; exact hq n
            rcases chk1 d hl hs r (k + 1) (mput q t.No true) d3 hq2 with ⟨e, he, h1, h2⟩ | ⟨h1, ⟨q', h2⟩, h3, h4⟩
            · exact .inl ⟨e, he, h1, h2⟩
            · refine .inr ⟨h1, ⟨q', h2⟩, ?_, ?_⟩
              · intro u hu
                rcases List.mem_cons.1 hu with rfl | hu
                · exact ⟨by omega, ⟨k1, fun j x y hx hy => k2 j x y (by omega) hx hy⟩, w1.1, w1.2⟩
                · exact h3 u hu
              · intro i j s u hij hj hi hu
                by_cases e : j = k
                · subst e
                  rw [d2] at hu
                  injection hu with hu
                  subst hu
                  intro e
                  have : (d.Trains.take j).any (·.No == t.No) = true := by
                    rw [List.any_eq_true]
                    refine ⟨s, ?_, by simpa using e⟩
                    apply List.mem_of_getElem? (i := i)
                    rw [List.getElem?_take, if_pos hij]; exact hi
                  rw [this] at c2; cases c2
                · exact h4 i j s u hij (by omega) hi hu
theorem check_ok {d : ApiDay} (hi : InApiDay d) : ∃ e, Fishref2GuideFault d = some e ∧ GuideCheck d = some e ∧ (e = 0 → DayOk d) := by
  obtain ⟨e, b, h1, h2, h3⟩ := text_ok hi
  rw [Fishref2GuideFault, GuideCheck, h1, h2, Option.bind_some, Option.bind_some]
  by_cases c : e = 0
  · subst c
    have hf := h3 rfl
    simp only [bne_self_eq_false, Bool.false_eq_true, if_false]
    rcases chk1 d (by have := hf.1; omega) (fun t ht => by have := (hf.2.2.1 t ht).2.1; omega) d.Trains 0 [] rfl (by simp [mget]) with ⟨e, he, k1, k2⟩ | ⟨k1, ⟨q', k2⟩, k3, k4⟩
    · exact ⟨e, by rw [k1]; rfl, by rw [k2]; rfl, fun h => absurd h he⟩
    · refine ⟨0, by rw [k1]; rfl, by rw [k2]; rfl, fun _ => ⟨hf, fun t ht => (k3 t ht).1, fun t ht => (k3 t ht).2.1, fun t ht => (k3 t ht).2.2, fun i j s t hij hs ht => k4 i j s t hij (by omega) hs ht⟩⟩
  · have : (e != 0) = true := by simpa using c
    simp only [this, if_true]
    exact ⟨e, rfl, rfl, fun h => absurd h c⟩
/-! the small day -/
theorem rngO_same {α σ : Type} {f : α → σ → Orc → Option σ} {st : σ} : ∀ (n : Nat) (left : List α) (o : Orc), (∀ x ∈ left, ∀ o, f x st o = some st) → rngO f n left st o = some st
  | 0, _, _, _ => rfl
  | n + 1, left, o, h => by
    rw [rngO]
    cases k : left[o [] % left.length]? with
    | none => rfl
    | some x =>
      simp only
      rw [h x (List.mem_of_getElem? k), Option.bind_some]
      exact rngO_same n _ _ (fun y hy => h y (List.mem_of_mem_eraseIdx hy))
theorem rngO_single {α σ : Type} {f : α → σ → Orc → Option σ} {x : α} {st st' : σ} (h : ∀ o, f x st o = some st') (n : Nat) (o : Orc) : rngO f (n + 1) [x] st o = some st' := by
  rw [rngO]
  simp only [List.length_singleton, Nat.mod_one, List.getElem?_cons_zero, h, Option.bind_some, List.eraseIdx_cons_zero]
  cases n <;> simp [rngO]
def smallNet : GuideNet := ⟨Fishlaw2small, 40⟩
abbrev smallE : List (List (GuidePlace × Bool)) := [[(⟨0, 1⟩, true), (⟨0, 2⟩, true)], [(⟨1, 1⟩, true)], [], []]
abbrev smallP : GuidePoint := ⟨100, 400, 2⟩
theorem small_ends : GuideNetends smallNet [⟨0, 0, 1⟩, ⟨0, 0, 2⟩] = some smallE := by kernel_rfl
theorem small4_0 (o : Orc) : GuideNetpoints.loop4 smallNet 3 100 0 [(⟨0, 1⟩, true), (⟨0, 2⟩, true)] [] [] o = some ([], []) := by
  unfold GuideNetpoints.loop4
  refine rngO_same _ _ _ ?_
  intro x hx o
  simp only [List.mem_cons, List.not_mem_nil, or_false] at hx
  rcases hx with rfl | rfl
  · kernel_rfl
  · kernel_rfl
theorem small4_1 (o : Orc) : GuideNetpoints.loop4 smallNet 3 100 1 [(⟨1, 1⟩, true)] [] [] o = some ([smallP], [(smallP, true)]) := by
  unfold GuideNetpoints.loop4
  exact rngO_single (fun o => by kernel_rfl) _ _
theorem small3 (o : Orc) : GuideNetpoints.loop3 smallNet 3 100 smallE 4 [] [] o = some ([smallP], [(smallP, true)]) := by
  have s0 : ∀ o, GuideNetpoints.loop3.step smallNet 3 100 smallE 0 [] [] o = some ([], []) := by
    intro o
    show Option.bind (GuideNetpoints.loop4 smallNet 3 100 0 [(⟨0, 1⟩, true), (⟨0, 2⟩, true)] [] [] (o.sub 0)) _ = _
    rw [small4_0]; rfl
  have s1 : ∀ o, GuideNetpoints.loop3.step smallNet 3 100 smallE 1 [] [] o = some ([smallP], [(smallP, true)]) := by
    intro o
    show Option.bind (GuideNetpoints.loop4 smallNet 3 100 1 [(⟨1, 1⟩, true)] [] [] (o.sub 0)) _ = _
    rw [small4_1]; rfl
  have s2 : ∀ o, GuideNetpoints.loop3.step smallNet 3 100 smallE 2 [smallP] [(smallP, true)] o = some ([smallP], [(smallP, true)]) := by intro o; rfl
  have s3 : ∀ o, GuideNetpoints.loop3.step smallNet 3 100 smallE 3 [smallP] [(smallP, true)] o = some ([smallP], [(smallP, true)]) := by intro o; rfl
  unfold GuideNetpoints.loop3
  simp only [cntO, s0, s1, s2, s3, Option.bind_some, Nat.zero_add, Nat.reduceAdd]
theorem small_points (n : Nat) : GuideNetpoints (n + 60) smallNet 0 3 = some [smallP] := by
  refine same_of fun o => ?_
  have h1 : GuideNetpoints.loop1 smallNet (GuideNetrides smallNet 0 0 (-1)) [] = some [(100, [⟨0, 0, 1⟩, ⟨0, 0, 2⟩])] := by kernel_rfl
  have h2 : ∀ o, GuideNetpoints.loop2 smallNet 3 [(100, [⟨0, 0, 1⟩, ⟨0, 0, 2⟩])] [] [] o = some ([smallP], [(smallP, true)]) := by
    intro o
    unfold GuideNetpoints.loop2
    refine rngO_single (fun o => ?_) _ _
    dsimp only
    unfold GuideNetpoints.loop2.step
    rw [small_ends, Option.bind_some]
    show Option.bind (GuideNetpoints.loop3 smallNet 3 100 smallE 4 [] [] (o.sub 0)) _ = _
    rw [small3]; rfl
  have h3 : SlicesSortFuncLguidePoint_v1 (n + 60) [smallP] = some [smallP] := by kernel_rfl
  unfold GuideNetpoints.o
  rw [bnd_eq, h1, Option.bind_some]
  show Option.bind (GuideNetpoints.loop2 smallNet 3 [(100, [⟨0, 0, 1⟩, ⟨0, 0, 2⟩])] [] [] (o.sub 0)) _ = _
  rw [h2, Option.bind_some]
  dsimp only
  rw [h3]; rfl
theorem small_in : InApiDay Fishlaw2small := by
  simp [InApiDay, inL, InApiTrain, InApiStop, inI, Fishlaw2small, Fishlaw2small_1, bnd]
theorem small_check : GuideCheck Fishlaw2small = some 0 := by
  obtain ⟨e, h1, h2, _⟩ := check_ok small_in
  have h3 : Fishref2GuideFault Fishlaw2small = some 0 := by kernel_rfl
  rw [h1] at h3
  injection h3 with h3
  rw [h2, h3]
theorem small_asked : Guidecheck Fishlaw2small 40 0 3 [0] = some 0 := by
  unfold Guidecheck GuidecheckLeast
  rw [small_check]
  kernel_rfl
theorem small_best (n : Nat) : ((SlicesDeleteFuncLguidePoint_v1 (n + 60) [smallP] 0).bind fun q64 => (if (((q64.length : Nat) : Int) == 0) then some ((GuideJourney.mk []), false) else ((SlicesMinFuncLguidePoint_v1 (n + 60) q64).bind fun q76 => ((GuideNetleastOf (n + 60) smallNet 0 3 q76).bind fun q83 => some (q83, true))))) = some (⟨[⟨0, 0, 1⟩, ⟨1, 0, 1⟩]⟩, true) := by kernel_rfl
theorem guides_true (n : Nat) : Fishlaw2guides (n + 60) = some true := by
  have h1 : GuideNetearliest (n + 60) smallNet 0 0 3 = some (⟨[⟨0, 0, 1⟩, ⟨1, 0, 1⟩]⟩, true) := by
    rw [GuideNetearliest, small_points n, Option.bind_some]
    exact small_best n
  have h2 : GuideEarliest (n + 60) Fishlaw2small 0 0 3 40 = some (⟨[⟨0, 0, 1⟩, ⟨1, 0, 1⟩]⟩, 0) := by
    rw [GuideEarliest, small_asked, Option.bind_some]
    show (((GuideNetearliest (n + 60) smallNet 0 0 3).bind _) : Option (GuideJourney × Int)) = _
    rw [h1]; rfl
  rw [Fishlaw2guides, bnd_eq, h2]
  rfl
theorem gx_neg {α : Type} {l : List α} {i : Int} (h : i < 0) : gx l i = none := by
  cases e : gx l i with
  | none => rfl
  | some x => obtain ⟨h1, _⟩ := gx_some e; omega
theorem gx_mem {α : Type} {l : List α} {i : Int} {x : α} (h : gx l i = some x) : x ∈ l := List.mem_of_getElem? (gx_some h).2.2
theorem gx_lt {α : Type} {l : List α} {i : Int} {x : α} (h : gx l i = some x) : 0 ≤ i ∧ i < l.length := by obtain ⟨h1, h2, _⟩ := gx_some h; omega
/-! all rides, with their stops; all journeys, in order -/
abbrev RR := GuideRide × ApiStop × ApiStop
def AF (t on : Nat) (a : ApiStop) : List ApiStop → Nat → List RR
  | [], _ => []
  | b :: r, off => (⟨(t : Int), (on : Int), (off : Int)⟩, a, b) :: AF t on a r (off + 1)
def AS (t : Nat) : List ApiStop → Nat → List RR
  | [], _ => []
  | a :: r, on => AF t on a r (on + 1) ++ AS t r (on + 1)
def AT : List ApiTrain → Nat → List RR
  | [], _ => []
  | x :: r, t => AS t x.Stops 0 ++ AT r (t + 1)
def fits (st at_ nt : Int) (q : RR) : Bool := !(q.1.Train == nt) && !(decide (q.2.1.Station ≠ st ∨ q.2.1.Dep < at_))
theorem rF (t on : Nat) (a : ApiStop) : ∀ (r : List ApiStop) (off : Nat), (AF t on a r off).map (·.1) = ridesF t on r.length off
  | [], _ => rfl
  | b :: r, off => by simp [AF, ridesF, rF t on a r (off + 1)]
theorem AF_on {t on : Nat} {a : ApiStop} : ∀ {r : List ApiStop} {off : Nat} {q : RR}, q ∈ AF t on a r off → q.1.Train = (t : Int) ∧ q.1.On = (on : Int) ∧ q.2.1 = a
  | [], _, _, h => by simp [AF] at h
  | b :: r, off, q, h => by
    rcases List.mem_cons.1 h with rfl | h
    · exact ⟨rfl, rfl, rfl⟩
    · exact AF_on h
theorem filter_const {α : Type} {p : α → Bool} {b : Bool} : ∀ {l : List α}, (∀ x ∈ l, p x = b) → l.filter p = if b then l else []
  | [], _ => by cases b <;> rfl
  | x :: r, h => by
    have h1 := h x (List.mem_cons_self ..)
    have h2 := filter_const (l := r) fun y hy => h y (List.mem_cons_of_mem _ hy)
    rw [List.filter_cons, h1, h2]
    cases b <;> rfl
theorem rS (st at_ nt : Int) (t len : Nat) (ht : ¬ (t : Int) = nt) : ∀ (l : List ApiStop) (on : Nat), on + l.length = len → ((AS t l on).filter (fits st at_ nt)).map (·.1) = ridesS st at_ t len l on
  | [], _, _ => rfl
  | a :: r, on, h => by
    simp only [List.length_cons] at h
    rw [AS, ridesS, List.filter_append, List.map_append, rS st at_ nt t len ht r (on + 1) (by omega)]
    congr 1
    have e : ∀ q ∈ AF t on a r (on + 1), fits st at_ nt q = !(decide (a.Station ≠ st ∨ a.Dep < at_)) := by
      intro q hq
      obtain ⟨h1, _, h3⟩ := AF_on hq
      unfold fits
      have : (q.1.Train == nt) = false := by rw [h1]; simpa using ht
      rw [this, h3]; rfl
    rw [filter_const e]
    by_cases c : a.Station ≠ st ∨ a.Dep < at_
    · rw [if_pos c, if_neg (by simp [c])]; rfl
    · rw [if_neg c, if_pos (by simpa using c), rF, show len - (on + 1) = r.length by omega]
theorem AS_tr {t : Nat} : ∀ {l : List ApiStop} {on : Nat} {q : RR}, q ∈ AS t l on → q.1.Train = (t : Int)
  | [], _, _, h => by simp [AS] at h
  | a :: r, on, q, h => by
    rcases List.mem_append.1 h with h | h
    · exact (AF_on h).1
    · exact AS_tr h
theorem rT (st at_ nt : Int) : ∀ (l : List ApiTrain) (t : Nat), ((AT l t).filter (fits st at_ nt)).map (·.1) = ridesT st at_ nt l t
  | [], _ => rfl
  | x :: r, t => by
    rw [AT, ridesT, List.filter_append, List.map_append, rT st at_ nt r (t + 1)]
    congr 1
    by_cases c : (t : Int) = nt
    · rw [if_pos c, filter_const (b := false)]
      · rfl
      · intro q hq
        unfold fits
        rw [AS_tr hq, beq_iff_eq.2 c]; rfl
    · rw [if_neg c, rS st at_ nt t x.Stops.length c x.Stops 0 (by simp)]
/-- a ride of the day: it is told by its places, and its stops are there -/
theorem AF_at {t on : Nat} {a : ApiStop} {L : List ApiStop} : ∀ {r : List ApiStop} {off : Nat} {q : RR}, L.drop off = r → q ∈ AF t on a r off → ∃ k : Nat, off ≤ k ∧ q = (⟨(t : Int), (on : Int), (k : Int)⟩, a, q.2.2) ∧ L[k]? = some q.2.2
  | [], _, _, _, h => by simp [AF] at h
  | b :: r, off, q, hd, h => by
    obtain ⟨d1, d2, d3⟩ := drop_cons hd
    rcases List.mem_cons.1 h with rfl | h
    · exact ⟨off, Nat.le_refl _, rfl, d2⟩
    · obtain ⟨k, h1, h2⟩ := AF_at d3 h
      exact ⟨k, by omega, h2⟩
theorem AS_at {t : Nat} {L : List ApiStop} : ∀ {l : List ApiStop} {on : Nat} {q : RR}, L.drop on = l → q ∈ AS t l on → ∃ i k : Nat, i < k ∧ q = (⟨(t : Int), (i : Int), (k : Int)⟩, q.2.1, q.2.2) ∧ L[i]? = some q.2.1 ∧ L[k]? = some q.2.2
  | [], _, _, _, h => by simp [AS] at h
  | a :: r, on, q, hd, h => by
    obtain ⟨d1, d2, d3⟩ := drop_cons hd
    rcases List.mem_append.1 h with h | h
    · obtain ⟨k, h1, h2, h3⟩ := AF_at d3 h
      obtain ⟨_, _, e⟩ := AF_on h
      exact ⟨on, k, by omega, by rw [e]; exact h2, by rw [e]; exact d2, h3⟩
    · exact AS_at d3 h
theorem AT_at {D : List ApiTrain} : ∀ {l : List ApiTrain} {t : Nat} {q : RR}, D.drop t = l → q ∈ AT l t → ∃ (u i k : Nat) (x : ApiTrain), i < k ∧ q = (⟨(u : Int), (i : Int), (k : Int)⟩, q.2.1, q.2.2) ∧ D[u]? = some x ∧ x.Stops[i]? = some q.2.1 ∧ x.Stops[k]? = some q.2.2
  | [], _, _, _, h => by simp [AT] at h
  | x :: r, t, q, hd, h => by
    obtain ⟨d1, d2, d3⟩ := drop_cons hd
    rcases List.mem_append.1 h with h | h
    · obtain ⟨i, k, h1, h2, h3, h4⟩ := AS_at (L := x.Stops) List.drop_zero h
      exact ⟨t, i, k, x, h1, h2, d2, h3, h4⟩
    · exact AT_at d3 h
def AD (d : ApiDay) : List RR := AT d.Trains 0
structure RideOk (d : ApiDay) (q : RR) (x : ApiTrain) : Prop where
  tr : gx d.Trains q.1.Train = some x
  on : gx x.Stops q.1.On = some q.2.1
  off : gx x.Stops q.1.Off = some q.2.2
  lt : q.1.On < q.1.Off
  mem : x ∈ d.Trains
  onm : q.2.1 ∈ x.Stops
  offm : q.2.2 ∈ x.Stops
theorem AD_ok {d : ApiDay} {q : RR} (h : q ∈ AD d) : ∃ x, RideOk d q x := by
  obtain ⟨u, i, k, x, h1, h2, h3, h4, h5⟩ := AT_at (D := d.Trains) List.drop_zero h
  refine ⟨x, ?_, ?_, ?_, ?_, List.mem_of_getElem? h3, List.mem_of_getElem? h4, List.mem_of_getElem? h5⟩
  · rw [h2]; show gx d.Trains (u : Int) = _; rw [gx_nat]; exact h3
  · rw [h2]; show gx x.Stops (i : Int) = _; rw [gx_nat]; exact h4
  · rw [h2]; show gx x.Stops (k : Int) = _; rw [gx_nat]; exact h5
  · rw [h2]; show (i : Int) < (k : Int); omega
theorem stops_lt {l : List ApiStop} (h : stopsOk l) : ∀ (n i : Nat) (x y : ApiStop), l[i]? = some x → l[i + n + 1]? = some y → x.Dep < y.Arr
  | 0, i, x, y, hx, hy => h.2 i x y hx hy
  | n + 1, i, x, y, hx, hy => by
    have hl := (List.getElem?_eq_some_iff.1 hy).1
    have hz : l[i + 1]? = some l[i + 1] := List.getElem?_eq_getElem (by omega)
    have h1 := h.2 i x _ hx hz
    have h2 := stops_lt h n (i + 1) _ y hz (by rw [show i + 1 + n + 1 = i + (n + 1) + 1 by omega]; exact hy)
    have h3 := (h.1 _ (List.mem_of_getElem? hz)).2.2.2.2.2.2
    omega
/-- the times of a ride -/
theorem AD_time {d : ApiDay} (hd : DayOk d) {q : RR} (h : q ∈ AD d) : 0 ≤ q.2.1.Dep ∧ q.2.1.Dep < q.2.2.Arr ∧ q.2.2.Arr ≤ 28800 ∧ 0 ≤ q.2.2.Station ∧ q.2.2.Station ≤ 11 ∧ 0 ≤ q.2.1.Station ∧ q.2.1.Station ≤ 11 ∧ 0 ≤ q.1.Train ∧ q.1.Train < 12 ∧ 0 ≤ q.1.On ∧ 0 ≤ q.1.Off ∧ q.1.Off < 8 := by
  obtain ⟨x, o⟩ := AD_ok h
  have hs := hd.stops x o.mem
  have a := hs.1 _ o.onm
  have b := hs.1 _ o.offm
  obtain ⟨e1, e2, e3⟩ := gx_some o.on
  obtain ⟨f1, f2, f3⟩ := gx_some o.off
  obtain ⟨t1, t2, _⟩ := gx_some o.tr
  have hlt := o.lt
  have := stops_lt hs (q.1.Off.toNat - q.1.On.toNat - 1) q.1.On.toNat _ _ e3 (by rw [show q.1.On.toNat + (q.1.Off.toNat - q.1.On.toNat - 1) + 1 = q.1.Off.toNat by omega]; exact f3)
  have h8 := (hd.form.2.2.1 x o.mem).2.1
  have h12 := hd.form.1
  omega

theorem AF_len (t on : Nat) (a : ApiStop) : ∀ (r : List ApiStop) (off : Nat), (AF t on a r off).length = r.length
  | [], _ => rfl
  | b :: r, off => by simp [AF, AF_len t on a r]
theorem AS_len (t : Nat) : ∀ (l : List ApiStop) (on : Nat), 2 * (AS t l on).length + l.length = l.length * l.length
  | [], _ => rfl
  | a :: r, on => by
    have := AS_len t r (on + 1)
    simp only [AS, List.length_append, AF_len, List.length_cons, Nat.add_mul, Nat.mul_add, Nat.mul_one, Nat.one_mul]; omega
theorem AT_len : ∀ (l : List ApiTrain) (t : Nat), (∀ x ∈ l, x.Stops.length ≤ 8) → (AT l t).length ≤ 28 * l.length
  | [], _, _ => by simp [AT]
  | x :: r, t, h => by
    have h1 := AT_len r (t + 1) fun y hy => h y (List.mem_cons_of_mem _ hy)
    have h2 := h x (List.mem_cons_self ..)
    have h3 := AS_len t x.Stops 0
    have h4 : 2 * (AS t x.Stops 0).length ≤ 56 := by
      generalize x.Stops.length = n at h2 h3
      have : n * n ≤ 8 * n := Nat.mul_le_mul_right _ h2
      omega
    simp only [AT, List.length_append, List.length_cons]; omega
theorem AD_len {d : ApiDay} (hd : DayOk d) : (AD d).length ≤ 336 := by
  have := AT_len d.Trains 0 fun x hx => (hd.form.2.2.1 x hx).2.1
  have := hd.form.1
  unfold AD; omega

/-! what may come next -/
def stepB (ls : Int) (p r : RR) : Bool := !(r.1.Train == p.1.Train) && !(decide (r.2.1.Station ≠ p.2.2.Station ∨ r.2.1.Dep < p.2.2.Arr + ls))
theorem stepB_fits (ls : Int) (p : RR) : stepB ls p = fits p.2.2.Station (p.2.2.Arr + ls) p.1.Train := rfl
def nx (ls : Int) (first : RR → Bool) (c : List RR) : RR → Bool := match c.getLast? with
  | none => first
  | some p => stepB ls p
def dfs (A : List RR) (ls : Int) (first fin : RR → Bool) : Nat → List RR → List (List RR)
  | 0, c => if c.getLast?.any fin then [c] else []
  | m + 1, c => (if c.getLast?.any fin then [c] else []) ++ (A.filter (nx ls first c)).flatMap fun r => dfs A ls first fin m (c ++ [r])

/-! how many they are -/
theorem sum_add1 {α : Type} (g : α → Nat) : ∀ (l : List α), (l.map fun q => 1 + g q).sum = l.length + (l.map g).sum
  | [] => rfl
  | x :: r => by simp only [List.map_cons, List.sum_cons, sum_add1 g r, List.length_cons]; omega
theorem sum_mul1 {α : Type} (g : α → Nat) (z : Nat) : ∀ (l : List α), (l.map fun q => 1 + g q * z).sum = l.length + (l.map g).sum * z
  | [] => by simp
  | x :: r => by simp only [List.map_cons, List.sum_cons, sum_mul1 g z r, List.length_cons, Nat.add_mul]; omega
def later (D : RR → Int) (L : List RR) : Nat := (L.map fun a => (L.filter fun b => decide (D a < D b)).length).sum
theorem sum_le {α : Type} {f g : α → Nat} : ∀ {l : List α}, (∀ x ∈ l, f x ≤ g x) → (l.map f).sum ≤ (l.map g).sum
  | [], _ => Nat.le_refl _
  | x :: r, h => by
    have h1 := h x (List.mem_cons_self ..)
    have h2 := sum_le (l := r) fun y hy => h y (List.mem_cons_of_mem _ hy)
    simp only [List.map_cons, List.sum_cons]; omega
theorem sum_filter {α : Type} (p : α → Bool) (f : α → Nat) : ∀ (l : List α), ((l.filter p).map f).sum ≤ (l.map f).sum
  | [] => Nat.le_refl _
  | x :: r => by
    have := sum_filter p f r
    rw [List.filter_cons]
    split <;> simp only [List.map_cons, List.sum_cons] <;> omega
theorem sum_const {α : Type} (c : Nat) : ∀ (l : List α), (l.map fun _ => c).sum = c * l.length
  | [] => rfl
  | x :: r => by simp only [List.map_cons, List.sum_cons, sum_const c r, List.length_cons, Nat.mul_add]; omega
theorem later_le (D : RR → Int) : ∀ (L : List RR), 2 * later D L + L.length ≤ L.length * L.length
  | [] => Nat.le_refl _
  | x :: L => by
    have ih := later_le D L
    have e1 : ∀ a, ((x :: L).filter fun b => decide (D a < D b)).length = (if D a < D x then 1 else 0) + (L.filter fun b => decide (D a < D b)).length := by
      intro a
      rw [List.filter_cons]
      by_cases c : D a < D x
      · rw [if_pos (by simpa using c), if_pos c]; simp; omega
      · rw [if_neg (by simpa using c), if_neg c]; omega
    have e2 : ∀ (M : List RR) (f : RR → Nat), (M.map fun a => (if D a < D x then 1 else 0) + f a).sum = (M.filter fun a => decide (D a < D x)).length + (M.map f).sum := by
      intro M f
      induction M with
      | nil => rfl
      | cons y M ih =>
        simp only [List.map_cons, List.sum_cons, ih, List.filter_cons]
        by_cases c : D y < D x
        · rw [if_pos c, if_pos (by simpa using c)]; simp; omega
        · rw [if_neg c, if_neg (by simpa using c)]; omega
    have e3 : later D (x :: L) = (L.filter fun b => decide (D x < D b)).length + ((L.filter fun a => decide (D a < D x)).length + later D L) := by
      unfold later
      rw [List.map_congr_left fun a _ => e1 a, List.map_cons, List.sum_cons, if_neg (Int.lt_irrefl _), Nat.zero_add, e2]
    have e4 : (L.filter fun b => decide (D x < D b)).length + (L.filter fun a => decide (D a < D x)).length ≤ L.length := by
      clear ih e1 e2 e3
      induction L with
      | nil => simp
      | cons y L ih =>
        simp only [List.filter_cons, List.length_cons]
        by_cases c1 : D x < D y
        · have c2 : ¬ D y < D x := by omega
          simp only [decide_eq_true c1, decide_eq_false c2, if_true, Bool.false_eq_true, if_false, List.length_cons]; omega
        · simp only [decide_eq_false c1, Bool.false_eq_true, if_false]
          split <;> (try simp only [List.length_cons]) <;> omega
    rw [e3]
    simp only [List.length_cons, Nat.add_mul, Nat.mul_add, Nat.mul_one, Nat.one_mul]; omega
theorem flatMap_len {α β : Type} (f : α → List β) : ∀ (l : List α), (l.flatMap f).length = (l.map fun x => (f x).length).sum
  | [] => rfl
  | x :: r => by simp [flatMap_len f r]
section
variable {A : List RR} {ls : Int} {first fin : RR → Bool}
theorem nx_snoc (c : List RR) (r : RR) : nx ls first (c ++ [r]) = stepB ls r := by simp [nx]
theorem dfs0 (c : List RR) : (dfs A ls first fin 0 c).length ≤ 1 := by rw [dfs]; split <;> simp
theorem dfs1 (c : List RR) (m : Nat) : (dfs A ls first fin (m + 1) c).length ≤ 1 + ((A.filter (nx ls first c)).map fun r => (dfs A ls first fin m (c ++ [r])).length).sum := by
  rw [dfs, List.length_append, flatMap_len]
  have : (if c.getLast?.any fin then [c] else []).length ≤ 1 := by split <;> simp
  omega
def pairs (A : List RR) (ls : Int) : Nat := (A.map fun p => (A.filter (stepB ls p)).length).sum
theorem dfs_len : (dfs A ls first fin 4 []).length ≤ 1 + A.length + pairs A ls * (1 + A.length + pairs A ls) := by
  have b1 : ∀ c r, (dfs A ls first fin 1 (c ++ [r])).length ≤ 1 + (A.filter (stepB ls r)).length := by
    intro c r
    have this : (dfs A ls first fin 1 (c ++ [r])).length ≤ _ := dfs1 (c ++ [r]) 0
    rw [nx_snoc] at this
    have h2 := sum_le (l := A.filter (stepB ls r)) (f := fun q => (dfs A ls first fin 0 ((c ++ [r]) ++ [q])).length) (g := fun _ => 1) fun q _ => dfs0 _
    rw [sum_const] at h2
    omega
  have b2 : ∀ c r, (dfs A ls first fin 2 (c ++ [r])).length ≤ 1 + A.length + pairs A ls := by
    intro c r
    have this : (dfs A ls first fin 2 (c ++ [r])).length ≤ _ := dfs1 (c ++ [r]) 1
    rw [nx_snoc] at this
    have h2 := sum_le (l := A.filter (stepB ls r)) (f := fun q => (dfs A ls first fin 1 ((c ++ [r]) ++ [q])).length) (g := fun q => 1 + (A.filter (stepB ls q)).length) fun q _ => b1 _ _
    have h3 := sum_filter (stepB ls r) (fun q => 1 + (A.filter (stepB ls q)).length) A
    have h4 : (A.map fun q => 1 + (A.filter (stepB ls q)).length).sum = A.length + pairs A ls := sum_add1 _ _
    omega
  have b3 : ∀ c r, (dfs A ls first fin 3 (c ++ [r])).length ≤ 1 + (A.filter (stepB ls r)).length * (1 + A.length + pairs A ls) := by
    intro c r
    have this : (dfs A ls first fin 3 (c ++ [r])).length ≤ _ := dfs1 (c ++ [r]) 2
    rw [nx_snoc] at this
    have h2 := sum_le (l := A.filter (stepB ls r)) (f := fun q => (dfs A ls first fin 2 ((c ++ [r]) ++ [q])).length) (g := fun q => 1 + A.length + pairs A ls) fun q _ => b2 _ _
    rw [sum_const, Nat.mul_comm] at h2
    omega
  have this : (dfs A ls first fin 4 []).length ≤ _ := dfs1 [] 3
  have h2 := sum_le (l := A.filter (nx ls first [])) (f := fun q => (dfs A ls first fin 3 ([] ++ [q])).length) (g := fun q => 1 + (A.filter (stepB ls q)).length * (1 + A.length + pairs A ls)) fun q _ => b3 _ _
  have h3 := sum_filter (nx ls first []) (fun q => 1 + (A.filter (stepB ls q)).length * (1 + A.length + pairs A ls)) A
  have h4 : (A.map fun q => 1 + (A.filter (stepB ls q)).length * (1 + A.length + pairs A ls)).sum = A.length + pairs A ls * (1 + A.length + pairs A ls) := sum_mul1 _ _ _
  omega
end
theorem dfs_small {d : ApiDay} (hd : DayOk d) {ls : Int} (h0 : 0 ≤ ls) (first fin : RR → Bool) : (dfs (AD d) ls first fin 4 []).length < 4294967296 := by
  have h1 := dfs_len (A := AD d) (ls := ls) (first := first) (fin := fin)
  have h2 := AD_len hd
  have h3 := later_le (fun q => q.2.1.Dep) (AD d)
  have h4 : pairs (AD d) ls ≤ later (fun q => q.2.1.Dep) (AD d) := by
    refine sum_le fun p hp => ?_
    have : ∀ (M : List RR), (M.filter (stepB ls p)).length ≤ (M.filter fun b => decide (p.2.1.Dep < b.2.1.Dep)).length := by
      intro M
      induction M with
      | nil => exact Nat.le_refl _
      | cons y M ih =>
        rw [List.filter_cons, List.filter_cons]
        by_cases c : stepB ls p y = true
        · have ht := AD_time hd hp
          have : p.2.1.Dep < y.2.1.Dep := by
            unfold stepB at c
            simp at c
            omega
          rw [if_pos c, if_pos (by simpa using this)]
          simp; omega
        · rw [if_neg c]
          split
          · simp; omega
          · exact ih
    exact this _
  have h5 : (AD d).length * (AD d).length ≤ 336 * 336 := Nat.mul_le_mul h2 h2
  have h6 : pairs (AD d) ls ≤ 56448 := by omega
  have h7 : pairs (AD d) ls * (1 + (AD d).length + pairs (AD d) ls) ≤ 56448 * (1 + 336 + 56448) := Nat.mul_le_mul h6 (by omega)
  omega
/-! the document's list of all journeys -/
abbrev JJ (c : List RR) : GuideJourney := ⟨c.map (·.1)⟩
theorem ride_in {d : ApiDay} {q : RR} {x : ApiTrain} (o : RideOk d q x) : (if decide (q.1.Train < 0) = true then true else decide (q.1.Train ≥ ((d.Trains).length : Int))) = false ∧
    (if decide (q.1.On < 0) = true then true else (if decide (q.1.On ≥ ((x.Stops).length : Int)) = true then true else (if decide (q.1.Off < 0) = true then true else decide (q.1.Off ≥ ((x.Stops).length : Int))))) = false ∧ decide (q.1.On ≥ q.1.Off) = false := by
  have h1 := gx_lt o.tr
  have h2 := gx_lt o.on
  have h3 := gx_lt o.off
  have h4 := o.lt
  refine ⟨?_, ?_, decide_eq_false (by omega)⟩
  · rw [if_neg (by simp; omega)]; exact decide_eq_false (by omega)
  · rw [if_neg (by simp; omega), if_neg (by simp; omega), if_neg (by simp; omega)]; exact decide_eq_false (by omega)
theorem two_fault {d : ApiDay} (hd : DayOk d) {ls : Int} (h0 : 0 ≤ ls ∧ ls ≤ 28800) {p r : RR} (hp : p ∈ AD d) (hr : r ∈ AD d) : ∃ e, Fishref2JourneyFault d ⟨[p.1, r.1]⟩ ls true = some e ∧ (e == 0) = stepB ls p r := by
  obtain ⟨x, ox⟩ := AD_ok hp
  obtain ⟨y, oy⟩ := AD_ok hr
  obtain ⟨p1, p2, p3⟩ := ride_in ox
  obtain ⟨r1, r2, r3⟩ := ride_in oy
  have tp := AD_time hd hp
  rw [Fishref2JourneyFault]
  rw [show Fishref2within ls 0 28800 = Guidewithin ls 0 28800 from rfl, (within_iff ls 0 28800).2 h0]
  have hw : Fishref2within (([p.1, r.1].length : Nat) : Int) 1 4 = true := rfl
  simp only [Bool.not_true, Bool.false_eq_true, if_false]
  rw [hw]
  simp only [Bool.not_true, Bool.false_eq_true, if_false]
  have hg0 : gx [p.1, r.1] (w64 (((1 : Nat) : Int) - 1)) = some p.1 := by rw [w64_id (by omega)]; rfl
  have e01 : (((0 : Nat) : Int) == 0) = true := rfl
  have e11 : (((0 + 1 : Nat) : Int) == 0) = false := rfl
  rw [Fishref2JourneyFault.loop1, bnd_eq, p1]
  simp only [Bool.false_eq_true, if_false, ox.tr, Option.bind_some, bnd_eq, p2, p3, e01, if_true]
  rw [Fishref2JourneyFault.loop1, bnd_eq, r1]
  simp only [Bool.false_eq_true, if_false, oy.tr, Option.bind_some, bnd_eq, r2, r3, e11]
  rw [show gx [p.1, r.1] (w64 (((0 + 1 : Nat) : Int) - 1)) = some p.1 from hg0]
  simp only [Option.bind_some, ox.tr, ox.off, oy.on, if_true]
  rw [w64_id (by omega)]
  unfold stepB
  have e6 : (p.1.Train == r.1.Train) = (r.1.Train == p.1.Train) := by rw [Bool.eq_iff_iff, beq_iff_eq, beq_iff_eq]; exact eq_comm
  rw [e6]
  cases c1 : (r.1.Train == p.1.Train) with
  | true => exact ⟨1, rfl, rfl⟩
  | false =>
    simp only [Bool.false_eq_true, if_false, Option.bind_some]
    by_cases c2 : r.2.1.Station = p.2.2.Station
    · have e2 : (r.2.1.Station != p.2.2.Station) = false := by simpa using c2
      rw [e2]
      simp only [Bool.false_eq_true, if_false]
      by_cases c3 : r.2.1.Dep < p.2.2.Arr + ls
      · rw [if_pos (by simpa using c3)]
        exact ⟨13, rfl, by simp [c3]⟩
      · rw [if_neg (by simpa using c3), Fishref2JourneyFault.loop1]
        exact ⟨0, rfl, by simp [c2, c3]⟩
    · have e2 : (r.2.1.Station != p.2.2.Station) = true := by simpa using c2
      rw [e2]
      exact ⟨1, rfl, by simp [c2]⟩
section
variable {d : ApiDay} (hd : DayOk d) {ls : Int} (h0 : 0 ≤ ls ∧ ls ≤ 28800) {to st : Int} {c : List RR} (hc : ∀ q ∈ c, q ∈ AD d) (hcl : c.length ≤ 3) {D : RR → List (List RR)}
  {self : (List GuideRide) → ApiDay → Int → (List GuideJourney) → Int → Int → Option (List GuideJourney)}
  (hself : ∀ r ∈ AD d, ∀ acc : List GuideJourney, acc.length + (D r).length < 4294967296 → self ((c ++ [r]).map (·.1)) d to acc st ls = some (acc ++ (D r).map JJ))
include hd h0 hc hcl hself
theorem all3 {x : ApiTrain} {t on : Nat} {a : ApiStop} (hx : x.Stops.length ≤ 8) (hfirst : c = [] → a.Station = st) : ∀ (r : List ApiStop) (off fu : Nat) (acc : List GuideJourney), x.Stops.drop off = r → r.length < fu → (∀ q ∈ AF t on a r off, q ∈ AD d) →
    acc.length + (((AF t on a r off).filter (nx ls (fun q => q.2.1.Station == st) c)).flatMap D).length < 4294967296 →
    ∃ w, Fishref2AllOf_1_v1.loop3 (c.map (·.1)) d to st ls self x t on fu (off : Int) acc = some (w, acc ++ (((AF t on a r off).filter (nx ls (fun q => q.2.1.Station == st) c)).flatMap D).map JJ)
  | _, _, 0, _, _, h, _, _ => absurd h (Nat.not_lt_zero _)
  | [], off, fu + 1, acc, hdr, _, _, _ => by
    have := drop_nil hdr
    rw [Fishref2AllOf_1_v1.loop3, if_neg (by simp; omega)]
    exact ⟨(off : Int), by simp [AF]⟩
  | b :: r, off, fu + 1, acc, hdr, hf, hA, hl => by
    obtain ⟨d1, d2, d3⟩ := drop_cons hdr
    simp only [List.length_cons] at hf
    have hq : ((⟨(t : Int), (on : Int), (off : Int)⟩, a, b) : RR) ∈ AD d := hA _ (by simp [AF])
    have hA2 : ∀ q ∈ AF t on a r (off + 1), q ∈ AD d := fun q h => hA q (by simp [AF, h])
    rw [Fishref2AllOf_1_v1.loop3, if_pos (by simp; omega), SlicesCloneLguideRide, apd_lt (by simp; omega)]
    simp only [Option.bind_some, List.nil_append]
    rw [apd_lt (by simp; omega), Option.bind_some, w64_id (x := (off : Int) + 1) (by omega)]
    have hn : ((off : Int) + 1) = ((off + 1 : Nat) : Int) := by omega
    have key : (if ((((c.map (·.1) ++ [⟨(t : Int), (on : Int), (off : Int)⟩] : List GuideRide).length : Nat) : Int) == 1) = true then some true else ((cutl (c.map (·.1) ++ [⟨(t : Int), (on : Int), (off : Int)⟩]) (w64 ((((c.map (·.1) ++ [⟨(t : Int), (on : Int), (off : Int)⟩] : List GuideRide).length : Nat) : Int) - 2)) (((c.map (·.1) ++ [⟨(t : Int), (on : Int), (off : Int)⟩] : List GuideRide).length : Nat) : Int)).bind fun x254 => ((Fishref2JourneyFault d (GuideJourney.mk x254) ls true).bind fun q263 => some (q263 == 0)))) =
        some (nx ls (fun q => q.2.1.Station == st) c (⟨(t : Int), (on : Int), (off : Int)⟩, a, b)) := by
      rcases List.eq_nil_or_concat c with e | ⟨c', p, e⟩
      · subst e
        simp [nx, hfirst rfl]
      · rw [List.concat_eq_append] at e
        subst e
        rw [nx_snoc, if_neg (by simp; omega), w64_id (by simp only [List.length_append, List.length_map, List.length_cons, List.length_nil] at hcl ⊢; omega)]
        have hpA := hc p (by simp)
        have hcut : cutl ((c' ++ [p]).map (·.1) ++ [⟨(t : Int), (on : Int), (off : Int)⟩] : List GuideRide) ((((c' ++ [p]).map (·.1) ++ [⟨(t : Int), (on : Int), (off : Int)⟩] : List GuideRide).length : Int) - 2) (((c' ++ [p]).map (·.1) ++ [⟨(t : Int), (on : Int), (off : Int)⟩] : List GuideRide).length : Int) = some [p.1, ⟨(t : Int), (on : Int), (off : Int)⟩] := by
          rw [cutl_in (by simp only [List.length_append, List.length_map, List.length_cons, List.length_nil]; omega) (by omega) (Int.le_refl _)]
          congr 1
          rw [List.take_of_length_le (by omega), show (((((c' ++ [p]).map (·.1) ++ [⟨(t : Int), (on : Int), (off : Int)⟩] : List GuideRide).length : Int) - 2).toNat) = (c'.map (·.1)).length from (by simp only [List.length_append, List.length_map, List.length_cons, List.length_nil]; omega)]
          rw [List.map_append, List.append_assoc, List.drop_left]
          rfl
        rw [hcut, Option.bind_some]
        obtain ⟨e, h1, h2⟩ := two_fault hd h0 hpA hq
        rw [h1, Option.bind_some, h2]
    rw [key, Option.bind_some]
    simp only [AF, List.filter_cons] at hl ⊢
    have ih := all3 (t := t) (on := on) hx hfirst r (off + 1) fu
    cases cb : nx ls (fun q => q.2.1.Station == st) c (⟨(t : Int), (on : Int), (off : Int)⟩, a, b) with
    | false =>
      rw [cb] at hl
      simp only [Bool.false_eq_true, if_false] at hl ⊢
      rw [hn]
      exact ih acc d3 (by omega) hA2 hl
    | true =>
      rw [cb] at hl
      simp only [if_true, List.flatMap_cons, List.length_append] at hl ⊢
      have hs := hself _ hq acc (by omega)
      rw [List.map_append] at hs
      rw [show ([(⟨(t : Int), (on : Int), (off : Int)⟩ : GuideRide)]) = ([((⟨(t : Int), (on : Int), (off : Int)⟩, a, b) : RR)].map (·.1)) from rfl, hs, Option.bind_some, hn]
      obtain ⟨w, hw⟩ := ih (acc ++ (D (⟨(t : Int), (on : Int), (off : Int)⟩, a, b)).map JJ) d3 (by omega) hA2 (by simp only [List.length_append, List.length_map]; omega)
      exact ⟨w, by rw [hw, List.map_append, List.append_assoc]⟩
theorem all2 {x : ApiTrain} {t : Nat} (hx : x.Stops.length ≤ 8) {fu : Nat} (hfu : 10 ≤ fu) : ∀ (l : List ApiStop) (on : Nat) (acc : List GuideJourney), x.Stops.drop on = l → (∀ q ∈ AS t l on, q ∈ AD d) →
    acc.length + (((AS t l on).filter (nx ls (fun q => q.2.1.Station == st) c)).flatMap D).length < 4294967296 →
    Fishref2AllOf_1_v1.loop2 (c.map (·.1)) d to st ls fu self x t l on acc = some (acc ++ (((AS t l on).filter (nx ls (fun q => q.2.1.Station == st) c)).flatMap D).map JJ)
  | [], on, acc, _, _, _ => by simp [Fishref2AllOf_1_v1.loop2, AS]
  | a :: r, on, acc, hdr, hA, hl => by
    obtain ⟨d1, d2, d3⟩ := drop_cons hdr
    have hA1 : ∀ q ∈ AF t on a r (on + 1), q ∈ AD d := fun q h => hA q (by simp [AS, h])
    have hA2 : ∀ q ∈ AS t r (on + 1), q ∈ AD d := fun q h => hA q (by simp [AS, h])
    simp only [AS, List.filter_append, List.flatMap_append, List.length_append, List.map_append] at hl ⊢
    rw [Fishref2AllOf_1_v1.loop2, bnd_eq]
    have ih := all2 (t := t) hx hfu r (on + 1)
    by_cases cs : c = [] ∧ a.Station ≠ st
    · obtain ⟨c1, c2⟩ := cs
      have e1 : (if ((((c.map (·.1)).length : Nat) : Int) == 0) = true then (a.Station != st) else false) = true := by rw [c1]; simpa using c2
      rw [e1, if_pos rfl]
      have e2 : (AF t on a r (on + 1)).filter (nx ls (fun q => q.2.1.Station == st) c) = [] := by
        rw [filter_const (b := false)]
        · rfl
        · intro q hq
          obtain ⟨_, _, h3⟩ := AF_on hq
          rw [c1]
          simp only [nx, List.getLast?_nil, h3]
          simpa using c2
      rw [e2] at hl ⊢
      simp only [List.flatMap_nil, List.length_nil, Nat.zero_add, List.map_nil, List.nil_append] at hl ⊢
      exact ih acc d3 hA2 hl
    · have e1 : (if ((((c.map (·.1)).length : Nat) : Int) == 0) = true then (a.Station != st) else false) = false := by
        by_cases c1 : c = []
        · have : a.Station = st := Classical.byContradiction fun h => cs ⟨c1, h⟩
          rw [c1]; simpa using this
        · rw [if_neg]
          intro h
          have h2 : (((c.map (·.1)).length : Nat) : Int) = 0 := by simpa using h
          rw [List.length_map] at h2
          exact c1 (List.eq_nil_of_length_eq_zero (by omega))
      rw [e1, if_neg (by decide)]
      have hrl : r.length < fu := by
        have := congrArg List.length d3
        simp at this
        omega
      obtain ⟨w, hw⟩ := all3 hd h0 hc hcl hself hx (fun h => Classical.byContradiction fun k => cs ⟨h, k⟩) r (on + 1) fu acc d3 hrl hA1 (by omega)
      rw [hw, Option.bind_some]
      dsimp only
      rw [ih _ d3 hA2 (by simp; simp at hl; omega), List.append_assoc]
theorem all1t {fu : Nat} (hfu : 10 ≤ fu) : ∀ (l : List ApiTrain) (t : Nat) (acc : List GuideJourney), (∀ x ∈ l, x.Stops.length ≤ 8) → (∀ q ∈ AT l t, q ∈ AD d) →
    acc.length + (((AT l t).filter (nx ls (fun q => q.2.1.Station == st) c)).flatMap D).length < 4294967296 →
    Fishref2AllOf_1_v1.loop1 (c.map (·.1)) d to st ls fu self l t acc = some (acc ++ (((AT l t).filter (nx ls (fun q => q.2.1.Station == st) c)).flatMap D).map JJ)
  | [], t, acc, _, _, _ => by simp [Fishref2AllOf_1_v1.loop1, AT]
  | x :: r, t, acc, h8, hA, hl => by
    have hA1 : ∀ q ∈ AS t x.Stops 0, q ∈ AD d := fun q h => hA q (by simp [AT, h])
    have hA2 : ∀ q ∈ AT r (t + 1), q ∈ AD d := fun q h => hA q (by simp [AT, h])
    simp only [AT, List.filter_append, List.flatMap_append, List.length_append, List.map_append] at hl ⊢
    rw [Fishref2AllOf_1_v1.loop1, all2 hd h0 hc hcl hself (h8 x (List.mem_cons_self ..)) hfu x.Stops 0 acc List.drop_zero hA1 (by omega), Option.bind_some,
      all1t hfu r (t + 1) _ (fun y h => h8 y (List.mem_cons_of_mem _ h)) hA2 (by simp; simp at hl; omega), List.append_assoc]
end
def finR (to : Int) (q : RR) : Bool := if decide (to < 0) then true else (q.2.2.Station == to)
theorem allof1 {d : ApiDay} (hd : DayOk d) {ls : Int} (h0 : 0 ≤ ls ∧ ls ≤ 28800) {to st : Int} : ∀ (m fu : Nat) (c : List RR) (acc : List GuideJourney), m + 20 ≤ fu → c.length + m = 4 → (∀ q ∈ c, q ∈ AD d) →
    acc.length + (dfs (AD d) ls (fun q => q.2.1.Station == st) (finR to) m c).length < 4294967296 →
    Fishref2AllOf_1_v1 fu (c.map (·.1)) d to acc st ls = some (acc ++ (dfs (AD d) ls (fun q => q.2.1.Station == st) (finR to) m c).map JJ)
  | _, 0, _, _, h, _, _, _ => absurd h (by omega)
  | m, fu + 1, c, acc, hfu, hcm, hc, hl => by
    rw [Fishref2AllOf_1_v1]
    have hA : (if decide ((((c.map (·.1)).length : Nat) : Int) > 0) = true then ((gx (c.map (·.1)) (w64 ((((c.map (·.1)).length : Nat) : Int) - 1))).bind fun x78 => ((gx d.Trains x78.Train).bind fun x88 => ((gx x88.Stops x78.Off).bind fun x103 => (bnd ((if decide (to < 0) then true else (x103.Station == to)) : Bool) fun q116 => (((if q116 then ((SlicesCloneLguideRide (c.map (·.1))).bind fun q133 => ((apd acc [(GuideJourney.mk q133)]).bind fun x145 => some x145)) else some acc) : Option (List GuideJourney)).bind fun q123 => some q123))))) else some acc) =
        some (acc ++ (if c.getLast?.any (finR to) then [c] else []).map JJ) := by
      rcases List.eq_nil_or_concat c with e | ⟨c', p, e⟩
      · subst e; simp
      · rw [List.concat_eq_append] at e
        subst e
        have hpA := hc p (by simp)
        obtain ⟨x, ox⟩ := AD_ok hpA
        have hg : gx ((c' ++ [p]).map (·.1)) (w64 (((((c' ++ [p]).map (·.1)).length : Nat) : Int) - 1)) = some p.1 := by
          rw [gx_prev (by simp) (Nat.le_refl _) (by simp only [List.length_append, List.length_map, List.length_cons, List.length_nil] at hcm ⊢; omega)]
          simp
        rw [if_pos (by simp), hg]
        simp only [Option.bind_some, ox.tr, ox.off, bnd_eq]
        rw [show (if decide (to < 0) = true then true else p.2.2.Station == to) = finR to p from rfl]
        have hl1 : acc.length + (if (c' ++ [p]).getLast?.any (finR to) then [c' ++ [p]] else []).length < 4294967296 := by
          cases m with
          | zero => rw [dfs] at hl; exact hl
          | succ m => rw [dfs, List.length_append] at hl; omega
        have e1 : (c' ++ [p]).getLast?.any (finR to) = finR to p := by simp
        rw [e1] at hl1 ⊢
        cases hfin : finR to p with
        | false => simp
        | true =>
          rw [if_pos hfin] at hl1
          simp only [List.length_cons, List.length_nil] at hl1
          rw [if_pos rfl, if_pos rfl, SlicesCloneLguideRide]
          rw [apd_lt (by simp only [List.length_append, List.length_map, List.length_cons, List.length_nil] at hcm ⊢; omega), Option.bind_some, Option.bind_some, apd_lt (by simp only [List.length_cons, List.length_nil]; omega)]
          simp [JJ]
    rw [hA, Option.bind_some]
    cases m with
    | zero =>
      have e4 : ((((c.map (·.1)).length : Nat) : Int) == 4) = true := by rw [List.length_map, show c.length = 4 by omega]; rfl
      rw [e4, if_pos rfl, dfs]
    | succ m =>
      have e4 : ((((c.map (·.1)).length : Nat) : Int) == 4) = false := by rw [List.length_map]; simp; omega
      rw [e4, if_neg (by decide), dfs]
      rw [dfs, List.length_append] at hl
      have h1 := all1t hd h0 (to := to) (st := st) hc (by omega) (D := fun r => dfs (AD d) ls (fun q => q.2.1.Station == st) (finR to) m (c ++ [r])) (self := Fishref2AllOf_1_v1 fu) (fun r hr acc ha =>
        allof1 hd h0 m fu (c ++ [r]) acc (by omega) (by simp; omega) (by
          intro q hq
          rcases List.mem_append.1 hq with hq | hq
          · exact hc q hq
          · simp at hq; subst hq; exact hr) ha) (fu := fu) (by omega) d.Trains 0 (acc ++ (if c.getLast?.any (finR to) then [c] else []).map JJ) (fun x hx => (hd.form.2.2.1 x hx).2.1) (fun q h => h) (by
          rw [List.length_append, List.length_map]
          show _ + (((AD d).filter _).flatMap _).length < _
          omega)
      rw [h1, Option.bind_some, List.map_append, List.append_assoc]
      rfl
theorem allof {d : ApiDay} (hd : DayOk d) {ls : Int} (h0 : 0 ≤ ls ∧ ls ≤ 28800) (st to : Int) {fu : Nat} (hfu : 40 ≤ fu) : Fishref2AllOf fu d st to ls = some ((dfs (AD d) ls (fun q => q.2.1.Station == st) (finR to) 4 []).map JJ) := by
  have h := allof1 hd h0 (to := to) (st := st) 4 fu [] [] (by omega) rfl (by simp) (by have := dfs_small hd h0.1 (fun q => q.2.1.Station == st) (finR to); simpa using this)
  rw [Fishref2AllOf]
  rw [show ([] : List GuideRide) = ([] : List RR).map (·.1) from rfl, h]
  simp
/-! the places at which journeys end -/
theorem mem_rides {d : ApiDay} {ls st at_ nt : Int} : GuideNetrides ⟨d, ls⟩ st at_ nt = ((AD d).filter (fits st at_ nt)).map (·.1) := (rT st at_ nt d.Trains 0).symm
theorem off_of {d : ApiDay} {ls : Int} {q : RR} (h : q ∈ AD d) : GuideNetoff ⟨d, ls⟩ q.1 = some q.2.2 := by
  obtain ⟨x, o⟩ := AD_ok h
  rw [GuideNetoff]; simp only [o.tr, o.off, Option.bind_some]
theorem on_of {d : ApiDay} {ls : Int} {q : RR} (h : q ∈ AD d) : GuideNeton ⟨d, ls⟩ q.1 = some q.2.1 := by
  obtain ⟨x, o⟩ := AD_ok h
  rw [GuideNeton]; simp only [o.tr, o.on, Option.bind_some]
theorem behind_of {d : ApiDay} (hd : DayOk d) {ls : Int} (h0 : 0 ≤ ls ∧ ls ≤ 28800) {q : RR} (h : q ∈ AD d) : GuideNetbehind ⟨d, ls⟩ q.1 = some (((AD d).filter (stepB ls q)).map (·.1)) := by
  have := AD_time hd h
  rw [GuideNetbehind, off_of h, Option.bind_some, bnd_eq]
  dsimp only
  rw [w64_id (by omega), mem_rides, stepB_fits]
theorem appseq_of : ∀ (l q : List GuideRide), q.length + l.length < 4294967296 → SlicesAppendSeqLguideRide_v1.loop1 l q = some (q ++ l)
  | [], q, _ => by simp [SlicesAppendSeqLguideRide_v1.loop1]
  | x :: r, q, h => by
    simp only [List.length_cons] at h
    rw [SlicesAppendSeqLguideRide_v1.loop1, apd_lt (by simp; omega), Option.bind_some, appseq_of r _ (by simp; omega)]
    simp
theorem appseq {l q : List GuideRide} (h : q.length + l.length < 4294967296) : SlicesAppendSeqLguideRide_v1 q l = some (q ++ l) := by
  rw [SlicesAppendSeqLguideRide_v1, appseq_of l q h]; rfl

theorem nodup_le : ∀ (n : Nat) (l : List Nat), l.Nodup → (∀ a ∈ l, a < n) → l.length ≤ n
  | 0, l, _, h => by
    cases l with
    | nil => simp
    | cons a r => exact absurd (h a (List.mem_cons_self ..)) (Nat.not_lt_zero _)
  | n + 1, l, hn, h => by
    have h1 := nodup_le n (l.erase n) (hn.erase n) fun a ha => by
      have h2 := h a (List.mem_of_mem_erase ha)
      have h3 : a ≠ n := fun e => by subst e; exact (hn.mem_erase_iff.1 ha).1 rfl
      omega
    by_cases c : n ∈ l
    · have := List.length_erase_of_mem c; omega
    · rw [List.erase_of_not_mem c] at h1; omega
section
variable {κ : Type} [BEq κ] [LawfulBEq κ]
theorem mput_new {m : List (κ × Bool)} {k : κ} {v : Bool} (h : ∀ b, (k, b) ∉ m) : mput m k v = m ++ [(k, v)] := by
  induction m with
  | nil => rfl
  | cons p r ih =>
    obtain ⟨a, b⟩ := p
    have h1 : (k == a) = false := by
      cases e : k == a with
      | false => rfl
      | true => have := eq_of_beq e; subst this; exact absurd (List.mem_cons_self ..) (h b)
    rw [mput, h1]
    simp only [Bool.false_eq_true, if_false]
    rw [ih fun b hb => h b (List.mem_cons_of_mem _ hb)]
    rfl
theorem mget_has {m : List (κ × Bool)} (ht : ∀ k b, (k, b) ∈ m → b = true) (k : κ) : (mget m k).getD false = true ↔ (k, true) ∈ m := by
  induction m with
  | nil => simp [mget]
  | cons p r ih =>
    obtain ⟨a, b⟩ := p
    have hb := ht a b (List.mem_cons_self ..)
    subst hb
    rw [mget]
    cases e : k == a with
    | true => have := eq_of_beq e; subst this; simp
    | false =>
      simp only [Bool.false_eq_true, if_false]
      rw [ih fun k b h => ht k b (List.mem_cons_of_mem _ h)]
      have : ¬ k = a := fun h => by subst h; simp at e
      simp [this]
end
def plc (q : RR) : GuidePlace := ⟨q.1.Train, q.1.Off⟩
theorem step_plc {d : ApiDay} {ls : Int} {p q : RR} (hp : p ∈ AD d) (hq : q ∈ AD d) (h : plc p = plc q) : p.2.2 = q.2.2 ∧ ∀ r, stepB ls p r = stepB ls q r := by
  obtain ⟨x, ox⟩ := AD_ok hp
  obtain ⟨y, oy⟩ := AD_ok hq
  injection h with h1 h2
  have e1 := ox.tr
  rw [h1, oy.tr] at e1
  injection e1 with e1
  subst e1
  have e2 := ox.off
  rw [h2, oy.off] at e2
  injection e2 with e2
  exact ⟨e2.symm, fun r => by unfold stepB; rw [h1, e2]⟩
/-- what has been told of the rides P: their places M, and the rides N behind them -/
structure Told (d : ApiDay) (ls : Int) (P : RR → Prop) (M : List (GuidePlace × Bool)) (N : List RR) : Prop where
  keys : ∀ p b, (p, b) ∈ M ↔ b = true ∧ ∃ r, P r ∧ plc r = p
  nodup : (M.map (·.1)).Nodup
  nexts : ∀ q, q ∈ N ↔ q ∈ AD d ∧ ∃ r, P r ∧ stepB ls r q = true
  len : N.length ≤ 336 * M.length
theorem Told.small {d : ApiDay} (hd : DayOk d) {ls : Int} {P : RR → Prop} {M : List (GuidePlace × Bool)} {N : List RR} (hP : ∀ r, P r → r ∈ AD d) (h : Told d ls P M N) : M.length ≤ 96 := by
  have h1 : ((M.map (·.1)).map fun p => p.train.toNat * 8 + p.off.toNat).Nodup := by
    unfold List.Nodup
    rw [List.pairwise_map]
    refine List.Pairwise.imp_of_mem ?_ h.nodup
    intro a b ha hb hab e
    obtain ⟨⟨p, u⟩, hp, rfl⟩ := List.mem_map.1 ha
    obtain ⟨⟨q, v⟩, hq, rfl⟩ := List.mem_map.1 hb
    obtain ⟨_, r, hr, rfl⟩ := (h.keys p u).1 hp
    obtain ⟨_, z, hz, rfl⟩ := (h.keys q v).1 hq
    have t1 := AD_time hd (hP r hr)
    have t2 := AD_time hd (hP z hz)
    apply hab
    simp only [plc] at e ⊢
    have e1 : r.1.Train = z.1.Train := by omega
    have e2 : r.1.Off = z.1.Off := by omega
    rw [e1, e2]
  have := nodup_le 96 _ h1 (by
    intro a ha
    obtain ⟨p, hp, rfl⟩ := List.mem_map.1 ha
    obtain ⟨⟨p2, u⟩, hp2, rfl⟩ := List.mem_map.1 hp
    obtain ⟨_, r, hr, rfl⟩ := (h.keys p2 u).1 hp2
    have t1 := AD_time hd (hP r hr)
    simp only [plc]; omega)
  simpa using this
theorem ends2 {d : ApiDay} (hd : DayOk d) {ls : Int} (h0 : 0 ≤ ls ∧ ls ≤ 28800) {Ms : List (List (GuidePlace × Bool))} (hM : Ms.length < 4) : ∀ (S : List RR) (P : RR → Prop) (M : List (GuidePlace × Bool)) (N : List RR), (∀ r, P r → r ∈ AD d) → (∀ q ∈ S, q ∈ AD d) → Told d ls P M N →
    ∃ M' N', GuideNetends.loop2 ⟨d, ls⟩ Ms.length (S.map (·.1)) (N.map (·.1)) (Ms ++ [M]) = some (N'.map (·.1), Ms ++ [M']) ∧ Told d ls (fun r => P r ∨ r ∈ S) M' N'
  | [], P, M, N, _, _, h => ⟨M, N, by simp [GuideNetends.loop2], by simpa using h⟩
  | q :: S, P, M, N, hP, hS, h => by
    have hq := hS q (List.mem_cons_self ..)
    have hS2 : ∀ q ∈ S, q ∈ AD d := fun z hz => hS z (List.mem_cons_of_mem _ hz)
    have hP2 : ∀ r, (P r ∨ r = q) → r ∈ AD d := fun r hr => hr.elim (hP r) (fun e => e ▸ hq)
    have hg : mgx 4 (Ms ++ [M]) ((Ms.length : Nat) : Int) = some M := by
      unfold mgx
      rw [if_pos (by omega), gx_nat, List.getElem?_append_right (Nat.le_refl _), Nat.sub_self]
      rfl
    have ht : ∀ k b, (k, b) ∈ M → b = true := fun k b hb => ((h.keys k b).1 hb).1
    have hm := mget_has ht (plc q)
    rw [List.map_cons, GuideNetends.loop2, hg, Option.bind_some]
    rw [show (GuidePlace.mk q.1.Train q.1.Off) = plc q from rfl]
    by_cases c : (mget M (plc q)).getD false = true
    · rw [if_pos c]
      obtain ⟨_, z, hz, e⟩ := (h.keys (plc q) true).1 (hm.1 c)
      have hst := step_plc (ls := ls) (hP z hz) hq e
      have h2 : Told d ls (fun r => P r ∨ r = q) M N := by
        refine ⟨fun p b => ?_, h.nodup, fun w => ?_, h.len⟩
        · rw [h.keys]
          constructor
          · rintro ⟨h1, r, h2, h3⟩; exact ⟨h1, r, .inl h2, h3⟩
          · rintro ⟨h1, r, h2 | rfl, h3⟩
            · exact ⟨h1, r, h2, h3⟩
            · exact ⟨h1, z, hz, e.trans h3⟩
        · rw [h.nexts]
          constructor
          · rintro ⟨h1, r, h2, h3⟩; exact ⟨h1, r, .inl h2, h3⟩
          · rintro ⟨h1, r, h2 | rfl, h3⟩
            · exact ⟨h1, r, h2, h3⟩
            · exact ⟨h1, z, hz, by rw [hst.2]; exact h3⟩
      obtain ⟨M', N', k1, k2⟩ := ends2 hd h0 hM S _ M N hP2 hS2 h2
      refine ⟨M', N', k1, ?_⟩
      have e : (fun r => (P r ∨ r = q) ∨ r ∈ S) = fun r => P r ∨ r ∈ q :: S := by
        funext r; simp [or_assoc]
      rw [← e]; exact k2
    · rw [if_neg c]
      have hnew : ∀ b, (plc q, b) ∉ M := fun b hb => c (hm.2 (by have := ht _ _ hb; subst this; exact hb))
      rw [Option.bind_some, behind_of hd h0 hq, Option.bind_some]
      have hsm := Told.small hd hP h
      have hAl := AD_len hd
      have hfl := List.length_filter_le (stepB ls q) (AD d)
      have hnl := h.len
      rw [appseq (by rw [List.length_map, List.length_map]; omega), Option.bind_some]
      have e2 : (((Ms.length : Nat) : Int)).toNat = Ms.length := by omega
      rw [e2, List.set_append_right _ _ (Nat.le_refl _), Nat.sub_self, List.set_cons_zero, mput_new hnew, ← List.map_append]
      have h2 : Told d ls (fun r => P r ∨ r = q) (M ++ [(plc q, true)]) (N ++ (AD d).filter (stepB ls q)) := by
        refine ⟨fun p b => ?_, ?_, fun w => ?_, ?_⟩
        · rw [List.mem_append, h.keys]
          constructor
          · rintro (⟨h1, r, h2, h3⟩ | hh)
            · exact ⟨h1, r, .inl h2, h3⟩
            · simp at hh; exact ⟨hh.2, q, .inr rfl, hh.1.symm⟩
          · rintro ⟨h1, r, h2 | rfl, h3⟩
            · exact .inl ⟨h1, r, h2, h3⟩
            · exact .inr (by simp [h1, h3])
        · rw [List.map_append, List.nodup_append]
          refine ⟨h.nodup, by simp, ?_⟩
          intro a ha b hb e
          simp at hb
          subst hb
          subst e
          obtain ⟨⟨p, u⟩, hp, rfl⟩ := List.mem_map.1 ha
          exact hnew u hp
        · rw [List.mem_append, h.nexts, List.mem_filter]
          constructor
          · rintro (⟨h1, r, h2, h3⟩ | ⟨h1, h2⟩)
            · exact ⟨h1, r, .inl h2, h3⟩
            · exact ⟨h1, q, .inr rfl, h2⟩
          · rintro ⟨h1, r, h2 | rfl, h3⟩
            · exact .inl ⟨h1, r, h2, h3⟩
            · exact .inr ⟨h1, h3⟩
        · rw [List.length_append, List.length_append, List.length_singleton]; omega
      obtain ⟨M', N', k1, k2⟩ := ends2 hd h0 hM S _ _ _ hP2 hS2 h2
      refine ⟨M', N', k1, ?_⟩
      have e : (fun r => (P r ∨ r = q) ∨ r ∈ S) = fun r => P r ∨ r ∈ q :: S := by
        funext r; simp [or_assoc]
      rw [← e]; exact k2
/-- the rides that can be the (k + 1)th of a journey whose first one is in F -/
def SK (d : ApiDay) (ls : Int) (F : List RR) : Nat → RR → Prop
  | 0, q => q ∈ F
  | k + 1, q => q ∈ AD d ∧ ∃ r, SK d ls F k r ∧ stepB ls r q = true
def Ends (d : ApiDay) (ls : Int) (F : List RR) (k : Nat) (M : List (GuidePlace × Bool)) : Prop := ∀ p b, (p, b) ∈ M ↔ b = true ∧ ∃ r, SK d ls F k r ∧ plc r = p
theorem SK_in {d : ApiDay} {ls : Int} {F : List RR} (hF : ∀ q ∈ F, q ∈ AD d) : ∀ k r, SK d ls F k r → r ∈ AD d
  | 0, r, h => hF r h
  | k + 1, r, h => h.1
theorem ends1 {d : ApiDay} (hd : DayOk d) {ls : Int} (h0 : 0 ≤ ls ∧ ls ≤ 28800) {F : List RR} (hF : ∀ q ∈ F, q ∈ AD d) : ∀ (n : Nat) (Ms : List (List (GuidePlace × Bool))) (S : List RR), Ms.length + n = 4 → (∀ (k : Nat) M, Ms[k]? = some M → Ends d ls F k M) → (∀ q, q ∈ S ↔ SK d ls F Ms.length q) →
    ∃ S' Ms', GuideNetends.loop1 ⟨d, ls⟩ n Ms.length (S.map (·.1)) Ms = some (S', Ms') ∧ Ms'.length = 4 ∧ ∀ (k : Nat) M, Ms'[k]? = some M → Ends d ls F k M
  | 0, Ms, S, hn, hE, _ => ⟨_, Ms, rfl, by omega, hE⟩
  | n + 1, Ms, S, hn, hE, hS => by
    have hSA : ∀ q ∈ S, q ∈ AD d := fun q h => SK_in hF _ q ((hS q).1 h)
    have h00 : Told d ls (fun _ => False) [] [] := ⟨by simp, by simp, by simp, by simp⟩
    obtain ⟨M', N', k1, k2⟩ := ends2 hd h0 (Ms := Ms) (by omega) S (fun _ => False) [] [] (fun _ h => h.elim) hSA h00
    have hm : mst 4 Ms ((Ms.length : Nat) : Int) = some () := by unfold mst; rw [if_pos ⟨rfl, by omega⟩]
    rw [GuideNetends.loop1, hm, Option.bind_some]
    rw [show ([] : List GuideRide) = ([] : List RR).map (·.1) from rfl, k1, Option.bind_some]
    dsimp only
    have e : Ms.length + 1 = (Ms ++ [M']).length := by simp
    rw [e]
    refine ends1 hd h0 hF n (Ms ++ [M']) N' (by simp; omega) ?_ ?_
    · intro k M hk
      by_cases c : k < Ms.length
      · rw [List.getElem?_append_left c] at hk; exact hE k M hk
      · have hk2 := (List.getElem?_eq_some_iff.1 hk).1
        simp at hk2
        have : k = Ms.length := by omega
        subst this
        rw [List.getElem?_append_right (Nat.le_refl _), Nat.sub_self] at hk
        simp at hk
        subst hk
        intro p b
        rw [k2.keys]
        simp only [false_or, hS]
    · intro q
      rw [k2.nexts, ← e]
      simp only [false_or, hS]
      rfl
theorem ends_of {d : ApiDay} (hd : DayOk d) {ls : Int} (h0 : 0 ≤ ls ∧ ls ≤ 28800) {F : List RR} (hF : ∀ q ∈ F, q ∈ AD d) : ∃ Ms, GuideNetends ⟨d, ls⟩ (F.map (·.1)) = some Ms ∧ Ms.length = 4 ∧ ∀ (k : Nat) M, Ms[k]? = some M → Ends d ls F k M := by
  obtain ⟨S', Ms, h1, h2, h3⟩ := ends1 hd h0 hF 4 [] F rfl (by simp) (fun q => Iff.rfl)
  refine ⟨Ms, ?_, h2, h3⟩
  have h1' : GuideNetends.loop1 ⟨d, ls⟩ 4 0 (F.map (·.1)) [] = some (S', Ms) := h1
  have hm : mall 4 Ms = some () := by unfold mall; rw [if_pos h2]
  rw [GuideNetends, h1', Option.bind_some]
  dsimp only
  rw [hm, Option.bind_some]

/-! journeys, ride by ride -/
def Ext (A : List RR) (ls : Int) (first : RR → Bool) : List RR → List RR → Prop
  | _, [] => True
  | c, r :: s => r ∈ A ∧ nx ls first c r = true ∧ Ext A ls first (c ++ [r]) s
theorem mem_dfs {A : List RR} {ls : Int} {first fin : RR → Bool} : ∀ (m : Nat) (c l : List RR), l ∈ dfs A ls first fin m c ↔ ∃ s, l = c ++ s ∧ s.length ≤ m ∧ l.getLast?.any fin = true ∧ Ext A ls first c s
  | 0, c, l => by
    rw [dfs]
    constructor
    · intro h
      split at h
      · rename_i hf
        simp at h
        subst h
        exact ⟨[], by simp, by simp, hf, trivial⟩
      · simp at h
    · rintro ⟨s, rfl, h1, h2, _⟩
      obtain rfl : s = [] := List.eq_nil_of_length_eq_zero (by omega)
      rw [List.append_nil] at h2 ⊢
      rw [if_pos h2]; simp
  | m + 1, c, l => by
    rw [dfs, List.mem_append, List.mem_flatMap]
    constructor
    · rintro (h | ⟨r, hr, h⟩)
      · split at h
        · rename_i hf
          simp at h
          subst h
          exact ⟨[], by simp, by simp, hf, trivial⟩
        · simp at h
      · obtain ⟨s, h1, h2, h3, h4⟩ := (mem_dfs m (c ++ [r]) l).1 h
        obtain ⟨r1, r2⟩ := List.mem_filter.1 hr
        exact ⟨r :: s, by rw [h1]; simp, by simp; omega, h3, r1, r2, h4⟩
    · rintro ⟨s, h1, h2, h3, h4⟩
      cases s with
      | nil =>
        rw [List.append_nil] at h1
        subst h1
        left
        rw [if_pos h3]; simp
      | cons r s =>
        right
        exact ⟨r, List.mem_filter.2 ⟨h4.1, h4.2.1⟩, (mem_dfs m (c ++ [r]) l).2 ⟨s, by rw [h1]; simp, by simp at h2; omega, h3, h4.2.2⟩⟩
theorem Ext.snoc {A : List RR} {ls : Int} {first : RR → Bool} {q : RR} : ∀ (s c : List RR), Ext A ls first c (s ++ [q]) ↔ Ext A ls first c s ∧ q ∈ A ∧ nx ls first (c ++ s) q = true
  | [], c => by simp [Ext]
  | r :: s, c => by
    simp only [List.cons_append, Ext, Ext.snoc s (c ++ [r]), List.append_assoc, List.cons_append, List.nil_append, and_assoc]
/-- the last rides of journeys whose first ride is in F -/
theorem ext_SK {d : ApiDay} {ls : Int} {first : RR → Bool} {F : List RR} : ∀ (s c : List RR) (r q : RR) (k : Nat), c.getLast? = some r → SK d ls F k r → Ext (AD d) ls first c s → (c ++ s).getLast? = some q → SK d ls F (k + s.length) q
  | [], c, r, q, k, h1, h2, _, h4 => by
    rw [List.append_nil, h1] at h4
    injection h4 with h4
    subst h4
    exact h2
  | z :: s, c, r, q, k, h1, h2, h3, h4 => by
    have hz : SK d ls F (k + 1) z := ⟨h3.1, r, h2, by have := h3.2.1; unfold nx at this; rw [h1] at this; exact this⟩
    have := ext_SK s (c ++ [z]) z q (k + 1) (by simp) hz h3.2.2 (by rw [List.append_assoc]; exact h4)
    rw [List.length_cons]
    rwa [show k + (s.length + 1) = k + 1 + s.length by omega]
theorem SK_ext {d : ApiDay} {ls : Int} {first : RR → Bool} {F : List RR} (hF : ∀ q ∈ F, q ∈ AD d ∧ first q = true) : ∀ (k : Nat) (q : RR), SK d ls F k q → ∃ z s, z ∈ F ∧ s.length = k ∧ Ext (AD d) ls first [] (z :: s) ∧ (z :: s).getLast? = some q
  | 0, q, h => ⟨q, [], h, rfl, ⟨(hF q h).1, (hF q h).2, trivial⟩, rfl⟩
  | k + 1, q, ⟨h1, r, h2, h3⟩ => by
    obtain ⟨z, s, k1, k2, k3, k4⟩ := SK_ext hF k r h2
    refine ⟨z, s ++ [q], k1, by simp [k2], ?_, List.getLast?_concat (l := z :: s)⟩
    rw [← List.cons_append]
    refine (Ext.snoc _ _).2 ⟨k3, h1, ?_⟩
    rw [List.nil_append]
    unfold nx
    rw [k4]; exact h3
theorem ext_in {A : List RR} {ls : Int} {first : RR → Bool} : ∀ (s c : List RR), Ext A ls first c s → ∀ q ∈ s, q ∈ A
  | [], _, _, _, h => by simp at h
  | r :: s, c, h, q, hq => by
    rcases List.mem_cons.1 hq with rfl | hq
    · exact h.1
    · exact ext_in s _ h.2.2 q hq
/-! the earliest times at all stations -/
theorem rep12 (n : Nat) : SlicesRepeatLint (n + 60) [(-1)] 12 = some (List.replicate 12 (-1)) := by kernel_rfl
def upd (out : List Int) (p : Int × Int) : List Int := if (out[p.1.toNat]?).getD 0 < 0 ∨ p.2 < (out[p.1.toNat]?).getD 0 then out.set p.1.toNat p.2 else out
/-- what stands in the list, after the pairs T -/
structure Best (out : List Int) (T : Int × Int → Prop) : Prop where
  len : out.length = 12
  is : ∀ (s : Nat) (v : Int), out[s]? = some v → (v = -1 ∧ ∀ a, ¬ T ((s : Int), a)) ∨ (0 ≤ v ∧ T ((s : Int), v) ∧ ∀ a, T ((s : Int), a) → v ≤ a)
theorem Best.uniq {a b : List Int} {T : Int × Int → Prop} (ha : Best a T) (hb : Best b T) : a = b := by
  apply List.ext_getElem (by rw [ha.len, hb.len])
  intro i h1 h2
  rcases ha.is i _ (List.getElem?_eq_getElem h1) with ⟨e1, k1⟩ | ⟨e1, k1, m1⟩
  · rcases hb.is i _ (List.getElem?_eq_getElem h2) with ⟨e2, k2⟩ | ⟨e2, k2, m2⟩
    · rw [e1, e2]
    · exact absurd k2 (k1 _)
  · rcases hb.is i _ (List.getElem?_eq_getElem h2) with ⟨e2, k2⟩ | ⟨e2, k2, m2⟩
    · exact absurd k1 (k2 _)
    · have := m1 _ k2; have := m2 _ k1; omega
theorem Best.iff {a : List Int} {T U : Int × Int → Prop} (ha : Best a T) (h : ∀ p, T p ↔ U p) : Best a U := by
  have : T = U := by funext p; exact propext (h p)
  rwa [← this]
theorem Best.upd {out : List Int} {T : Int × Int → Prop} (h : Best out T) {p : Int × Int} (h0 : 0 ≤ p.1 ∧ p.1 ≤ 11) (h1 : 0 ≤ p.2) : Best (upd out p) (fun q => T q ∨ q = p) := by
  obtain ⟨s, a⟩ := p
  simp only at h0 h1
  have hs : s.toNat < out.length := by rw [h.len]; omega
  have hv : out[s.toNat]? = some out[s.toNat] := List.getElem?_eq_getElem hs
  have es : ((s.toNat : Nat) : Int) = s := by omega
  unfold Fp.upd
  simp only [hv, Option.getD_some]
  have hv2 := h.is _ _ hv
  rw [es] at hv2
  generalize out[s.toNat] = v at hv hv2
  by_cases c : v < 0 ∨ a < v
  · rw [if_pos c]
    refine ⟨by rw [List.length_set]; exact h.len, ?_⟩
    intro t w hw
    rw [List.getElem?_set] at hw
    split at hw
    · rename_i e
      subst e
      injection hw with hw
      subst hw
      right
      rw [es]
      refine ⟨h1, .inr rfl, ?_⟩
      rintro b (hb | hb)
      · rcases hv2 with ⟨e1, k1⟩ | ⟨e1, k1, m1⟩
        · exact absurd hb (k1 b)
        · have := m1 b hb; omega
      · injection hb with _ hb; omega
    · rename_i e
      have ne : ∀ b, ((t : Int), b) ≠ (s, a) := fun b hb => by injection hb with hb _; omega
      rcases h.is t w hw with ⟨e1, k1⟩ | ⟨e1, k1, m1⟩
      · left
        exact ⟨e1, fun b hb => hb.elim (k1 b) (ne b)⟩
      · right
        exact ⟨e1, .inl k1, fun b hb => hb.elim (m1 b) (fun q => absurd q (ne b))⟩
  · rw [if_neg c]
    refine ⟨h.len, ?_⟩
    intro t w hw
    rcases h.is t w hw with ⟨e1, k1⟩ | ⟨e1, k1, m1⟩
    · left
      refine ⟨e1, fun b hb => ?_⟩
      rcases hb with hb | hb
      · exact k1 b hb
      · injection hb with hb1 hb2
        have et : s.toNat = t := by omega
        rw [et] at hv
        rw [hv] at hw
        injection hw with hw
        subst hw
        omega
    · right
      refine ⟨e1, .inl k1, fun b hb => ?_⟩
      rcases hb with hb | hb
      · exact m1 b hb
      · injection hb with hb1 hb2
        have et : s.toNat = t := by omega
        rw [et] at hv
        rw [hv] at hw
        injection hw with hw
        subst hw
        omega
/-- one place, as the code takes it -/
theorem upd_ref {out : List Int} (hl : out.length = 12) {s a : Int} (h0 : 0 ≤ s ∧ s ≤ 11) (b : Bool) : (((if b = true then ((gx out s).bind fun x209 => (if decide (x209 < 0) then some true else ((gx out s).bind fun x220 => some (decide (a < x220))))) else some false) : Option Bool).bind fun q207 => (((if q207 then ((ix out s).bind fun _ => ((sx out s a).bind fun x247 => some x247)) else some out) : Option (List Int)))) = some (if b then upd out (s, a) else out) := by
  cases b with
  | false => rfl
  | true =>
    rw [if_pos rfl]
    have hs : s.toNat < out.length := by omega
    have hv : out[s.toNat]? = some out[s.toNat] := List.getElem?_eq_getElem hs
    have hg : gx out s = some out[s.toNat] := by
      have := gx_at hs
      rwa [show ((s.toNat : Nat) : Int) = s by omega] at this
    simp only [hg, Option.bind_some, upd, hv, Option.getD_some, if_true]
    by_cases c1 : out[s.toNat] < 0
    · rw [if_pos (by simpa using c1), Option.bind_some, if_pos rfl, ix_in (by omega) (by omega), Option.bind_some, sx_in (by omega) (by omega), if_pos (.inl c1)]; rfl
    · rw [if_neg (by simpa using c1), Option.bind_some]
      by_cases c2 : a < out[s.toNat]
      · rw [if_pos (by simpa using c2), ix_in (by omega) (by omega), Option.bind_some, sx_in (by omega) (by omega), if_pos (.inr c2)]; rfl
      · rw [if_neg (by simpa using c2), if_neg (fun h => h.elim c1 c2)]
section
variable {d : ApiDay} (hd : DayOk d) {ls : Int} {F : List RR} (hF : ∀ q ∈ F, q ∈ AD d)
include hd hF
def pr (q : RR) : Int × Int := (q.2.2.Station, q.2.2.Arr)
theorem reach_step {k : Nat} {p : GuidePlace} {u : Bool} {r : RR} (hr : SK d ls F k r) (hp : plc r = p) {out : List Int} {T : Int × Int → Prop} (hb : Best out T) (o : Orc) :
    GuideReach.loop2.step d p u out o = some (upd out (pr r)) := by
  have hA := SK_in hF k r hr
  obtain ⟨x, ox⟩ := AD_ok hA
  have ht := AD_time hd hA
  subst hp
  unfold GuideReach.loop2.step
  have e1 : gx d.Trains (plc r).train = some x := ox.tr
  have e2 : gx x.Stops (plc r).off = some r.2.2 := ox.off
  rw [e1, Option.bind_some, e2, Option.bind_some]
  have := upd_ref hb.len (s := r.2.2.Station) (a := r.2.2.Arr) (by omega) true
  rw [if_pos rfl] at this
  rw [show (if true = true then upd out (r.2.2.Station, r.2.2.Arr) else out) = upd out (pr r) from rfl] at this
  rw [← this]
  cases (((gx out r.2.2.Station).bind fun x209 => (if decide (x209 < 0) then some true else ((gx out r.2.2.Station).bind fun x220 => some (decide (r.2.2.Arr < x220))))) : Option Bool) with
  | none => rfl
  | some q => simp
theorem reach_rng {k : Nat} : ∀ (n : Nat) (left : List (GuidePlace × Bool)) (out : List Int) (T : Int × Int → Prop) (o : Orc), left.length ≤ n → Best out T → (∀ e ∈ left, ∃ r, SK d ls F k r ∧ plc r = e.1) →
    ∃ out', rngO (fun x st => GuideReach.loop2.step d x.1 x.2 st) n left out o = some out' ∧ Best out' (fun p => T p ∨ ∃ e ∈ left, ∃ r, SK d ls F k r ∧ plc r = e.1 ∧ p = pr r)
  | 0, left, out, T, o, hl, hb, _ => by
    obtain rfl : left = [] := List.eq_nil_of_length_eq_zero (by omega)
    exact ⟨out, rfl, hb.iff (by simp)⟩
  | n + 1, left, out, T, o, hl, hb, he => by
    rw [rngO]
    cases hx : left[o [] % left.length]? with
    | none =>
      have h0 : left = [] := by
        rcases Nat.eq_zero_or_pos left.length with z | z
        · exact List.eq_nil_of_length_eq_zero z
        · rw [List.getElem?_eq_getElem (Nat.mod_lt _ z)] at hx; cases hx
      subst h0
      exact ⟨out, rfl, hb.iff (by simp)⟩
    | some e =>
      obtain ⟨hi, hxe⟩ := List.getElem?_eq_some_iff.1 hx
      have hp := erase_perm left _ hi
      rw [hxe] at hp
      have hem : e ∈ left := List.mem_of_getElem? hx
      obtain ⟨r, hr, hre⟩ := he e hem
      have hA := SK_in hF k r hr
      have ht := AD_time hd hA
      simp only
      rw [reach_step hd hF hr hre hb, Option.bind_some]
      have hb2 := hb.upd (p := pr r) (by simp only [pr]; omega) (by simp only [pr]; omega)
      obtain ⟨out', k1, k2⟩ := reach_rng n (left.eraseIdx (o [] % left.length)) _ _ (o.sub 1) (by rw [List.length_eraseIdx_of_lt hi]; omega) hb2 (fun e h => he e (List.mem_of_mem_eraseIdx h))
      refine ⟨out', k1, k2.iff fun p => ?_⟩
      have hmem : ∀ z, z ∈ left ↔ z = e ∨ z ∈ left.eraseIdx (o [] % left.length) := fun z => by rw [← hp.mem_iff, List.mem_cons]
      constructor
      · rintro ((h | h) | ⟨z, hz, y, h1, h2, h3⟩)
        · exact .inl h
        · exact .inr ⟨e, hem, r, hr, hre, h⟩
        · exact .inr ⟨z, (hmem z).2 (.inr hz), y, h1, h2, h3⟩
      · rintro (h | ⟨z, hz, y, h1, h2, h3⟩)
        · exact .inl (.inl h)
        · rcases (hmem z).1 hz with rfl | hz
          · refine .inl (.inr ?_)
            rw [h3]
            have := (step_plc (ls := ls) (SK_in hF k y h1) hA (h2.trans hre.symm)).1
            simp only [pr, this]
          · exact .inr ⟨z, hz, y, h1, h2, h3⟩
theorem reach_cnt {Ms : List (List (GuidePlace × Bool))} (hM : ∀ (k : Nat) M, Ms[k]? = some M → Ends d ls F k M) : ∀ (n k : Nat) (out : List Int) (T : Int × Int → Prop) (o : Orc), k + n = Ms.length → Best out T →
    ∃ out', cntO (fun x st => GuideReach.loop1.step d Ms x st) n k out o = some out' ∧ Best out' (fun p => T p ∨ ∃ j, k ≤ j ∧ j < Ms.length ∧ ∃ r, SK d ls F j r ∧ p = pr r)
  | 0, k, out, T, o, hn, hb => ⟨out, rfl, hb.iff fun p => by
      constructor
      · exact .inl
      · rintro (h | ⟨j, h1, h2, _⟩)
        · exact h
        · omega⟩
  | n + 1, k, out, T, o, hn, hb => by
    have hk : k < Ms.length := by omega
    have hg : Ms[k]? = some Ms[k] := List.getElem?_eq_getElem hk
    have hE := hM k _ hg
    generalize Ms[k] = M at hg hE
    obtain ⟨o1, k1, k2⟩ := reach_rng hd hF (k := k) M.length M out T ((o.sub 0).sub 0) (Nat.le_refl _) hb (fun e he => ((hE e.1 e.2).1 he).2)
    have hstep : GuideReach.loop1.step d Ms k out (o.sub 0) = some o1 := by
      unfold GuideReach.loop1.step
      rw [gx_nat, hg, Option.bind_some]
      show Option.bind (GuideReach.loop2 d M out ((o.sub 0).sub 0)) _ = _
      unfold GuideReach.loop2
      rw [k1]; rfl
    obtain ⟨o2, m1, m2⟩ := reach_cnt hM n (k + 1) o1 _ (o.sub 1) (by omega) k2
    refine ⟨o2, ?_, m2.iff fun p => ?_⟩
    · rw [cntO, hstep, Option.bind_some]; exact m1
    · constructor
      · rintro ((h | ⟨e, he, r, h1, h2, h3⟩) | ⟨j, h1, h2, h3⟩)
        · exact .inl h
        · exact .inr ⟨k, Nat.le_refl _, hk, r, h1, h3⟩
        · exact .inr ⟨j, by omega, h2, h3⟩
      · rintro (h | ⟨j, h1, h2, r, h3, h4⟩)
        · exact .inl (.inl h)
        · by_cases c : j = k
          · subst c
            exact .inl (.inr ⟨(plc r, true), (hE _ _).2 ⟨rfl, r, h3, rfl⟩, r, h3, rfl, h4⟩)
          · exact .inr ⟨j, by omega, h2, r, h3, h4⟩
end
theorem best0 : Best (List.replicate 12 (-1)) (fun _ => False) := by
  refine ⟨by simp, fun s v h => .inl ⟨?_, fun _ h => h⟩⟩
  rw [List.getElem?_replicate] at h
  split at h
  · injection h with h; exact h.symm
  · cases h

/-! the document's times -/
theorem last_of {l : List RR} {q : RR} (h : l.getLast? = some q) (hs : l.length ≤ 4) : gx (l.map (·.1)) (w64 ((((l.map (·.1)).length : Nat) : Int) - 1)) = some q.1 := by
  have hne : l ≠ [] := fun e => by subst e; cases h
  have hp := List.length_pos_iff.2 hne
  rw [gx_prev (by rw [List.length_map]; exact hp) (Nat.le_refl _) (by rw [List.length_map]; omega)]
  rw [List.getLast?_eq_getElem?, List.getElem?_eq_some_iff] at h
  obtain ⟨h1, h2⟩ := h
  simp [h2]
theorem arrives_of {d : ApiDay} {l : List RR} {q : RR} (h : l.getLast? = some q) (hs : l.length ≤ 4) (hA : q ∈ AD d) : Fishref2Arrives d (JJ l) = some q.2.2.Arr := by
  obtain ⟨x, o⟩ := AD_ok hA
  rw [Fishref2Arrives]
  rw [show (JJ l).Rides = l.map (·.1) from rfl, last_of h hs]
  simp only [Option.bind_some, o.tr, o.off]
theorem leaves_of {d : ApiDay} {q : RR} {s : List RR} (hA : q ∈ AD d) : Fishref2Leaves d (JJ (q :: s)) = some q.2.1.Dep := by
  obtain ⟨x, o⟩ := AD_ok hA
  rw [Fishref2Leaves]
  have : gx (JJ (q :: s)).Rides 0 = some q.1 := rfl
  rw [this]
  simp only [Option.bind_some, o.tr, o.on]
theorem ref_loop {d : ApiDay} (hd : DayOk d) (at_ : Int) (L : List (List RR)) (hL : ∀ c ∈ L, c.length ≤ 4 ∧ c ≠ [] ∧ ∀ q ∈ c, q ∈ AD d) : ∀ (r : List (List RR)) (k : Nat) (out : List Int) (T : Int × Int → Prop), L.drop k = r → Best out T →
    ∃ out', Fishref2ReachOf.loop1 d at_ (L.map JJ) r.length k out = some out' ∧ Best out' (fun p => T p ∨ ∃ c ∈ r, ∃ a z, c.head? = some a ∧ c.getLast? = some z ∧ at_ ≤ a.2.1.Dep ∧ p = pr z)
  | [], k, out, T, _, hb => ⟨out, rfl, hb.iff (by simp)⟩
  | c :: r, k, out, T, hdr, hb => by
    obtain ⟨d1, d2, d3⟩ := drop_cons hdr
    have hcL : c ∈ L := List.mem_of_getElem? d2
    obtain ⟨h4, hne, hA⟩ := hL c hcL
    obtain ⟨a, s, rfl⟩ : ∃ a s, c = a :: s := by
      cases c with
      | nil => exact absurd rfl hne
      | cons a s => exact ⟨a, s, rfl⟩
    obtain ⟨z, hz⟩ : ∃ z, (a :: s).getLast? = some z := ⟨_, List.getLast?_eq_some_getLast (by simp)⟩
    have hzA : z ∈ AD d := hA z (List.mem_of_getLast? hz)
    have haA := hA a (List.mem_cons_self ..)
    obtain ⟨x, ox⟩ := AD_ok hzA
    have ht := AD_time hd hzA
    have hg : gx (L.map JJ) ((k : Nat) : Int) = some (JJ (a :: s)) := by rw [gx_nat, List.getElem?_map, d2]; rfl
    rw [List.length_cons, Fishref2ReachOf.loop1, hg]
    simp only [Option.bind_some]
    rw [last_of hz h4]
    simp only [Option.bind_some, ox.tr, ox.off]
    rw [arrives_of hz h4 hzA, leaves_of haA]
    simp only [Option.bind_some]
    have hu := upd_ref hb.len (s := z.2.2.Station) (a := z.2.2.Arr) (by omega) (decide (a.2.1.Dep ≥ at_))
    have key : ∀ (X : Option Bool) (G : List Int → Option (List Int)) (w : List Int), (X.bind fun q207 => (((if q207 then ((ix out z.2.2.Station).bind fun _ => ((sx out z.2.2.Station z.2.2.Arr).bind fun x247 => some x247)) else some out) : Option (List Int)))) = some w →
        (X.bind fun q149 => (((if q149 then ((ix out z.2.2.Station).bind fun _ => ((sx out z.2.2.Station z.2.2.Arr).bind fun x192 => some x192)) else some out) : Option (List Int)).bind fun q179 => G q179)) = G w := by
      intro X G w h
      cases X with
      | none => cases h
      | some q => rw [Option.bind_some] at h ⊢; rw [h]; rfl
    rw [key _ _ _ hu]
    by_cases c : a.2.1.Dep ≥ at_
    · have hb2 := hb.upd (p := pr z) (by simp only [pr]; omega) (by simp only [pr]; omega)
      rw [if_pos (by simpa using c)]
      obtain ⟨out', k1, k2⟩ := ref_loop hd at_ L hL r (k + 1) _ _ d3 hb2
      refine ⟨out', k1, k2.iff fun p => ?_⟩
      constructor
      · rintro ((h | h) | ⟨e, he, h⟩)
        · exact .inl h
        · exact .inr ⟨a :: s, List.mem_cons_self .., a, z, rfl, hz, c, h⟩
        · exact .inr ⟨e, List.mem_cons_of_mem _ he, h⟩
      · rintro (h | ⟨e, he, h⟩)
        · exact .inl (.inl h)
        · rcases List.mem_cons.1 he with rfl | he
          · obtain ⟨a', z', h1, h2, h3, h4⟩ := h
            rw [hz] at h2
            injection h2 with h2
            subst h2
            exact .inl (.inr h4)
          · exact .inr ⟨e, he, h⟩
    · rw [if_neg (by simpa using c)]
      obtain ⟨out', k1, k2⟩ := ref_loop hd at_ L hL r (k + 1) _ _ d3 hb
      refine ⟨out', k1, k2.iff fun p => ?_⟩
      constructor
      · rintro (h | ⟨e, he, h⟩)
        · exact .inl h
        · exact .inr ⟨e, List.mem_cons_of_mem _ he, h⟩
      · rintro (h | ⟨e, he, h⟩)
        · exact .inl h
        · rcases List.mem_cons.1 he with rfl | he
          · obtain ⟨a', z', h1, h2, h3, h4⟩ := h
            simp at h1
            subst h1
            exact absurd h3 c
          · exact .inr ⟨e, he, h⟩
theorem dfs_ok {A : List RR} {ls : Int} {first fin : RR → Bool} {l : List RR} (h : l ∈ dfs A ls first fin 4 []) : l.length ≤ 4 ∧ l ≠ [] ∧ (∀ q ∈ l, q ∈ A) ∧ Ext A ls first [] l ∧ l.getLast?.any fin = true := by
  obtain ⟨s, h1, h2, h3, h4⟩ := (mem_dfs 4 [] l).1 h
  rw [List.nil_append] at h1
  subst h1
  exact ⟨h2, fun e => by subst e; simp at h3, ext_in l [] h4, h4, h3⟩
theorem reach_same {d : ApiDay} (hd : DayOk d) {ls : Int} (h0 : 0 ≤ ls ∧ ls ≤ 28800) {st at_ : Int} (hst : 0 ≤ st ∧ st ≤ 11) (hat : 0 ≤ at_ ∧ at_ ≤ 28800) (hc : GuidecheckLeast d ls = some 0) :
    ∃ out, GuideReach 60 d st at_ ls = some (out, 0) ∧ Fishref2ReachOf 60 d st at_ ls = some out := by
  have hF : ∀ q ∈ (AD d).filter (fits st at_ (-1)), q ∈ AD d := fun q h => (List.mem_filter.1 h).1
  obtain ⟨Ms, m1, m2, m3⟩ := ends_of hd h0 hF
  have hL := fun (l : List RR) => dfs_ok (A := AD d) (ls := ls) (first := fun q => q.2.1.Station == st) (fin := finR (-1)) (l := l)
  obtain ⟨o2, r1, r2⟩ := ref_loop hd at_ (dfs (AD d) ls (fun q => q.2.1.Station == st) (finR (-1)) 4 []) (fun c h => ⟨(hL c h).1, (hL c h).2.1, (hL c h).2.2.1⟩) _ 0 _ _ List.drop_zero best0
  refine ⟨o2.set st.toNat at_, ?_, ?_⟩
  · refine same_of fun o => ?_
    obtain ⟨o1, k1, k2⟩ := reach_cnt hd hF m3 4 0 _ _ (o.sub 0) (by omega) best0
    have e : o1 = o2 := by
      refine k2.uniq (r2.iff fun p => ?_)
      constructor
      · rintro (h | ⟨c, h1, a, z, h2, h3, h4, h5⟩)
        · exact .inl h
        · obtain ⟨l1, l2, l3, l4, l5⟩ := hL _ h1
          obtain ⟨b, s, rfl⟩ : ∃ b s, c = b :: s := by
            cases c with
            | nil => exact absurd rfl l2
            | cons b s => exact ⟨b, s, rfl⟩
          simp at h2
          subst h2
          have hb : SK d ls ((AD d).filter (fits st at_ (-1))) 0 b := by
            refine List.mem_filter.2 ⟨l4.1, ?_⟩
            have := l4.2.1
            have ht := AD_time hd l4.1
            unfold fits
            have e1 : (b.1.Train == (-1)) = false := by
              have : ¬ b.1.Train = -1 := by omega
              simpa using this
            have e2 : b.2.1.Station = st := by simpa [nx] using this
            rw [e1]
            simp [e2]; omega
          have := ext_SK s [b] b z 0 rfl hb (by simpa using l4.2.2) h3
          exact .inr ⟨0 + s.length, by omega, by rw [m2]; simp at l1; omega, z, this, h5⟩
      · rintro (h | ⟨j, _, h2, r, h3, h4⟩)
        · exact .inl h
        · have hFf : ∀ q ∈ (AD d).filter (fits st at_ (-1)), q ∈ AD d ∧ (fun q : RR => q.2.1.Station == st) q = true := by
            intro q hq
            obtain ⟨q1, q2⟩ := List.mem_filter.1 hq
            refine ⟨q1, ?_⟩
            unfold fits at q2
            simp at q2
            simpa using q2.2.1
          obtain ⟨b, s, k1, k2, k3, k4⟩ := SK_ext hFf j r h3
          refine .inr ⟨b :: s, (mem_dfs 4 [] _).2 ⟨b :: s, rfl, by simp [k2]; omega, ?_, k3⟩, b, r, rfl, k4, ?_, h4⟩
          · rw [k4]; rfl
          · have := (List.mem_filter.1 k1).2
            unfold fits at this
            simp at this
            exact this.2.2
    subst e
    unfold GuideReach.o
    rw [hc, Option.bind_some, if_neg (by decide), (within_iff st 0 11).2 hst, if_neg (by decide), (within_iff at_ 0 28800).2 hat, if_neg (by decide), rep12 0, Option.bind_some, bnd_eq, mem_rides, SlicesCollectguideRide_v1,
      appseq (by
        have := List.length_filter_le (fits st at_ (-1)) (AD d)
        have := AD_len hd
        rw [List.length_map]; simp; omega), Option.bind_some, List.nil_append, Option.bind_some, m1, Option.bind_some]
    show Option.bind (GuideReach.loop1 d Ms 4 (List.replicate 12 (-1)) (o.sub 0)) _ = _
    unfold GuideReach.loop1
    rw [k1, Option.bind_some]
    dsimp only
    rw [ix_in (by omega) (by rw [k2.len]; omega), Option.bind_some, sx_in (by omega) (by rw [k2.len]; omega)]
    rfl
  · rw [Fishref2ReachOf, rep12 0, Option.bind_some, allof hd h0 st (-1) (by omega), Option.bind_some, List.length_map, r1, Option.bind_some, ix_in (by omega) (by rw [r2.len]; omega), Option.bind_some, sx_in (by omega) (by rw [r2.len]; omega)]
    rfl
theorem ints_self (l : List Int) : SlicesEqualLint l l = some true := by
  have key : ∀ (r : List Int) (k : Nat), l.drop k = r → SlicesEqualLint.loop1 l r k = some (.next ()) := by
    intro r
    induction r with
    | nil => intro k _; rfl
    | cons v r ih =>
      intro k hd
      obtain ⟨d1, d2, d3⟩ := drop_cons hd
      rw [SlicesEqualLint.loop1, gx_nat, d2, Option.bind_some, bne_self_eq_false]
      exact ih (k + 1) d3
  rw [SlicesEqualLint, bne_self_eq_false, key l 0 List.drop_zero]
  rfl
theorem GuideReaches_law (x0 : ApiDay) (x1 : Int) (x2 : Int) (x3 : Int) (_ : x0.Trains.length ≤ 9223372036854775807) (_ : x0.Turns.length ≤ 9223372036854775807) (_ : -9223372036854775808 ≤ x1 ∧ x1 ≤ 9223372036854775807) (_ : -9223372036854775808 ≤ x2 ∧ x2 ≤ 9223372036854775807) (_ : -9223372036854775808 ≤ x3 ∧ x3 ≤ 9223372036854775807) (i0 : InApiDay x0) :
    ∃ fu, Fishlaw2GuideReaches fu x0 x1 x2 x3 = some true := by
  refine ⟨60, ?_⟩
  obtain ⟨e, h1, h2, h3⟩ := check_ok i0
  have hg := guides_true 0
  rw [Nat.zero_add] at hg
  have bad : ∀ z : Int, z ≠ 0 → (∀ o, GuideReach.o 60 x0 x1 x2 x3 o = some ([], z)) → (if (e == 0) = true then Fishref2SearchFault x3 x1 0 x2 false true else e) = z → Fishlaw2GuideReaches 60 x0 x1 x2 x3 = some true := by
    intro z hz hr hw
    have hr2 : GuideReach 60 x0 x1 x2 x3 = some ([], z) := same_of hr
    rw [Fishlaw2GuideReaches, hr2, Option.bind_some, h1, Option.bind_some, bnd_eq, hw, hg]
    have c : (z != 0) = true := by simpa using hz
    rw [c, if_pos rfl]
    simp
  by_cases c : e = 0
  · subst c
    have hs : Fishref2SearchFault x3 x1 0 x2 false true = if !(Guidewithin x3 0 28800) then 2 else if !(Guidewithin x1 0 11) then 3 else if !(Guidewithin x2 0 28800) then 2 else 0 := by
      unfold Fishref2SearchFault
      simp only [show ∀ a b c, Fishref2within a b c = Guidewithin a b c from fun _ _ _ => rfl, bnd_eq, Bool.false_eq_true, if_false, if_true]
      cases Guidewithin x3 0 28800 <;> cases Guidewithin x1 0 11 <;> cases Guidewithin x2 0 28800 <;> rfl
    have hcl : GuidecheckLeast x0 x3 = if !(Guidewithin x3 0 28800) then some 2 else some 0 := by
      rw [GuidecheckLeast, h2, Option.bind_some, if_neg (by decide)]
    rw [beq_self_eq_true, if_pos rfl, hs] at bad
    cases c3 : Guidewithin x3 0 28800 with
    | false =>
      rw [c3] at hcl bad
      exact bad 2 (by decide) (fun o => by unfold GuideReach.o; rw [hcl]; rfl) rfl
    | true =>
      rw [c3] at hcl bad
      cases c1 : Guidewithin x1 0 11 with
      | false =>
        rw [c1] at bad
        exact bad 3 (by decide) (fun o => by unfold GuideReach.o; rw [hcl, c1]; rfl) rfl
      | true =>
        rw [c1] at bad
        cases c2 : Guidewithin x2 0 28800 with
        | false =>
          rw [c2] at bad
          exact bad 2 (by decide) (fun o => by unfold GuideReach.o; rw [hcl, c1, c2]; rfl) rfl
        | true =>
          obtain ⟨out, k1, k2⟩ := reach_same (h3 rfl) ((within_iff _ _ _).1 c3) ((within_iff _ _ _).1 c1) ((within_iff _ _ _).1 c2) hcl
          rw [Fishlaw2GuideReaches, k1, Option.bind_some, h1, Option.bind_some, bnd_eq, beq_self_eq_true, if_pos rfl, hs, c3, c1, c2, hg]
          simp [k2, ints_self]
  · have c2 : (e != 0) = true := by simpa using c
    have c3 : (e == 0) = false := by simpa using c
    rw [c3, if_neg (by decide)] at bad
    exact bad e c (fun o => by unfold GuideReach.o GuidecheckLeast; rw [h2, Option.bind_some, if_pos c2, Option.bind_some, if_pos c2]) rfl
end Go.Fp
