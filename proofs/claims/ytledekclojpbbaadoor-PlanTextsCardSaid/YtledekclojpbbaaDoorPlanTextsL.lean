/- PlanTexts: the mirror of the law is true of all days. -/
import Derived.Test.YtledekclojpbbaaDoorPlanTextsM
import Derived.Test.YtledekclojpbbaaDoorFpPlain
import Derived.Lib.ItoaLen
import Derived.Lib.AtoiTie
import Derived.Lib.SplitLaws
import Derived.Lib.CountLaws
import Derived.Lib.ItoaMem
import Derived.Lib.AtoiAllCases
import Derived.KernelRfl
namespace Go.Fp
/-! texts of numbers -/
/-- a number's text -/
def tx (n : Int) : ByteArray := ⟨(Lib.itoa n).toArray⟩
theorem itoa_tx {n : Int} (h : -9223372036854775808 ≤ n ∧ n ≤ 9223372036854775807) : itoa n = some (tx n) := by unfold itoa; rw [if_pos h]; rfl
theorem tx_size {n : Int} (h : -9223372036854775808 ≤ n ∧ n ≤ 9223372036854775807) : (tx n).size ≤ 21 := by
  have := Lib.itoa_length_le n h.1 h.2
  unfold tx
  show ((Lib.itoa n).toArray).size ≤ 21
  simpa using this
theorem scat_in {a b : ByteArray} (h : a.size + b.size ≤ 9223372036854775807) : scat a b = some (a ++ b) := by unfold scat; rw [if_pos h]
theorem sbw_in {y x : ByteArray} (h0 : 0 < x.size) (h : y.size + x.size < 4294967296) : sbw y x = some (y ++ x) := by unfold sbw; rw [if_pos ⟨h0, h⟩]
/-! days: what Text says, what Check says -/
def wi (x : Int) : Bool := Planwithin x 0 999999
theorem form2 : ∀ l, Fishref2TextFault.loop2 l = Planform.loop2 l
  | [] => rfl
  | x :: r => by simp only [Fishref2TextFault.loop2, Planform.loop2, form2 r]
theorem form3 : ∀ l, Fishref2TextFault.loop3 l = Planform.loop3 l
  | [] => rfl
  | x :: r => by simp only [Fishref2TextFault.loop3, Planform.loop3, form3 r]
theorem form4 : ∀ l, Fishref2TextFault.loop4 l = Planform.loop4 l
  | [] => rfl
  | x :: r => by simp only [Fishref2TextFault.loop4, Planform.loop4, form4 r]
theorem form1 : ∀ l, Fishref2TextFault.loop1 l = Planform.loop1 l
  | [] => rfl
  | x :: r => by simp only [Fishref2TextFault.loop1, Planform.loop1, form1 r, form2, form3]

def trainForm (t : ApiTrain) : Prop := 1 ≤ t.Stops.length ∧ t.Stops.length ≤ 8 ∧ t.Legs.length + 1 = t.Stops.length ∧ ∀ g ∈ t.Legs, g.length ≤ 4
def dayForm (d : ApiDay) : Prop := d.Trains.length ≤ 12 ∧ d.Turns.length ≤ 8 ∧ (∀ t ∈ d.Trains, trainForm t) ∧ ∀ g ∈ d.Turns, g.length ≤ 12
theorem form3_out : ∀ l, (Planform.loop3 l = .ret 4) ∨ (Planform.loop3 l = .next () ∧ ∀ g ∈ l, g.length ≤ 4)
  | [] => .inr ⟨rfl, by simp⟩
  | x :: r => by
    rw [Planform.loop3]
    by_cases c : ((x.length : Nat) : Int) > 4
    · rw [if_pos (by simpa using c)]; exact .inl rfl
    · rw [if_neg (by simpa using c)]
      rcases form3_out r with h | ⟨h, k⟩
      · exact .inl h
      · refine .inr ⟨h, ?_⟩
        intro g hg
        rcases List.mem_cons.1 hg with rfl | hg
        · omega
        · exact k g hg
theorem form2_out : ∀ l, (Planform.loop2 l = .ret 1) ∨ (Planform.loop2 l = .next ())
  | [] => .inr rfl
  | x :: r => by
    rw [Planform.loop2]
    split
    · exact .inl rfl
    · exact form2_out r
theorem form4_out : ∀ l, (∃ e, e ≠ 0 ∧ Planform.loop4 l = .ret e) ∨ (Planform.loop4 l = .next () ∧ ∀ g ∈ l, g.length ≤ 12)
  | [] => .inr ⟨rfl, by simp⟩
  | x :: r => by
    rw [Planform.loop4]
    split
    · exact .inl ⟨1, by decide, rfl⟩
    · by_cases c : ((x.length : Nat) : Int) > 12
      · rw [if_pos (by simpa using c)]; exact .inl ⟨4, by decide, rfl⟩
      · rw [if_neg (by simpa using c)]
        rcases form4_out r with h | ⟨h, k⟩
        · exact .inl h
        · refine .inr ⟨h, ?_⟩
          intro g hg
          rcases List.mem_cons.1 hg with rfl | hg
          · omega
          · exact k g hg
theorem form1_out : ∀ l, (∃ e, e ≠ 0 ∧ Planform.loop1 l = .ret e) ∨ (Planform.loop1 l = .next () ∧ ∀ t ∈ l, trainForm t)
  | [] => .inr ⟨rfl, by simp⟩
  | x :: r => by
    rw [Planform.loop1, bnd_eq]
    generalize hq : (if (((x.Stops).length : Int) == 0) = true then true else (((x.Legs).length : Int) != (w64 (((x.Stops).length : Int) - 1)))) = q
    cases q with
    | true => exact .inl ⟨1, by decide, rfl⟩
    | false =>
      rw [if_neg (by decide), bnd_eq]
      rcases form2_out x.Legs with h | h
      · rw [h]; exact .inl ⟨1, by decide, rfl⟩
      · rw [h]
        dsimp only
        by_cases c : ((x.Stops.length : Nat) : Int) > 8
        · rw [if_pos (by simpa using c)]; exact .inl ⟨4, by decide, rfl⟩
        · rw [if_neg (by simpa using c), bnd_eq]
          rcases form3_out x.Legs with h3 | ⟨h3, k3⟩
          · rw [h3]; exact .inl ⟨4, by decide, rfl⟩
          · rw [h3]
            dsimp only
            rcases form1_out r with h1 | ⟨h1, k1⟩
            · exact .inl h1
            · refine .inr ⟨h1, ?_⟩
              intro t ht
              rcases List.mem_cons.1 ht with rfl | ht
              · split at hq
                · cases hq
                · rename_i hz
                  rw [w64_id (by omega)] at hq
                  have hq2 : ((t.Legs.length : Nat) : Int) = ((t.Stops.length : Nat) : Int) - 1 := by simpa using hq
                  have hz2 : ¬ t.Stops.length = 0 := by simpa using hz
                  exact ⟨by omega, by omega, by omega, k3⟩
              · exact k1 t ht
theorem form_out (d : ApiDay) : Planform d ≠ 0 ∨ (Planform d = 0 ∧ dayForm d) := by
  rw [Planform, bnd_eq]
  by_cases c : ((d.Trains.length : Nat) : Int) > 12 ∨ ((d.Turns.length : Nat) : Int) > 8
  · left
    rw [if_pos (by rcases c with c | c <;> simp [c])]; decide
  · have c1 : ¬ ((d.Trains.length : Nat) : Int) > 12 := fun h => c (.inl h)
    have c2 : ¬ ((d.Turns.length : Nat) : Int) > 8 := fun h => c (.inr h)
    rw [if_neg (by simp [c1, c2]), bnd_eq]
    rcases form1_out d.Trains with ⟨e, he, h⟩ | ⟨h, k⟩
    · rw [h]; exact .inl he
    · rw [h]
      dsimp only
      rw [bnd_eq]
      rcases form4_out d.Turns with ⟨e, he, h4⟩ | ⟨h4, k4⟩
      · rw [h4]; exact .inl he
      · rw [h4]; exact .inr ⟨rfl, by omega, by omega, k, k4⟩

/-! the numbers -/
def numS (x : ApiStop) : List Int := [x.Station, x.Track, x.Arr, x.Dep]
def numT (t : ApiTrain) : List (List Int) := [t.No, t.Stock] :: (t.Stops.map numS ++ t.Legs)
theorem num2 : ∀ (l : List ApiStop) (q : List (List Int)), q.length + l.length < 4294967296 → Fishref2numbersIn.loop2 l q = some (q ++ l.map numS)
  | [], q, _ => by simp [Fishref2numbersIn.loop2]
  | x :: r, q, h => by
    simp only [List.length_cons] at h
    rw [Fishref2numbersIn.loop2, apd_lt (by simp; omega), Option.bind_some, num2 r _ (by simp; omega)]
    simp [numS]
theorem num1 : ∀ (l : List ApiTrain) (q : List (List Int)), (∀ t ∈ l, trainForm t) → q.length + 17 * l.length < 4294967296 → Fishref2numbersIn.loop1 l q = some (q ++ l.flatMap numT)
  | [], q, _, _ => by simp [Fishref2numbersIn.loop1]
  | t :: r, q, ht, h => by
    simp only [List.length_cons] at h
    obtain ⟨t1, t2, t3, t4⟩ := ht t (List.mem_cons_self ..)
    rw [Fishref2numbersIn.loop1, apd_lt (by simp; omega), Option.bind_some, num2 _ _ (by simp; omega), Option.bind_some, apd_lt (by simp; omega), Option.bind_some,
      num1 r _ (fun t h => ht t (List.mem_cons_of_mem _ h)) (by simp; omega)]
    simp [numT]
theorem numT_len {t : ApiTrain} (h : trainForm t) : (numT t).length ≤ 16 := by
  obtain ⟨t1, t2, t3, t4⟩ := h
  simp [numT]; omega
theorem num_all {d : ApiDay} (h : dayForm d) : Fishref2numbersIn d = some (d.Trains.flatMap numT ++ d.Turns) := by
  obtain ⟨h1, h2, h3, h4⟩ := h
  have hl : ∀ l : List ApiTrain, (∀ t ∈ l, trainForm t) → (l.flatMap numT).length ≤ 16 * l.length := by
    intro l
    induction l with
    | nil => intro _; simp
    | cons t r ih =>
      intro ht
      have := numT_len (ht t (List.mem_cons_self ..))
      have := ih fun t h => ht t (List.mem_cons_of_mem _ h)
      simp only [List.flatMap_cons, List.length_append, List.length_cons]; omega
  have := hl _ h3
  rw [Fishref2numbersIn, num1 _ _ h3 (by simp; omega), Option.bind_some, List.nil_append, apd_lt (by omega)]
  rfl
theorem num6 : ∀ l : List Int, Fishref2TextFault.loop6 l = if l.all wi then .next () else .ret 2
  | [] => rfl
  | x :: r => by
    rw [Fishref2TextFault.loop6, num6 r]
    show (if (!wi x) = true then _ else _) = _
    cases h : wi x <;> simp [h]
theorem num5 (L : List (List Int)) : ∀ (r : List (List Int)) (k : Nat), L.drop k = r → Fishref2TextFault.loop5 L r.length k = some (if r.all (·.all wi) then .next () else .ret 2)
  | [], k, _ => rfl
  | x :: r, k, hd => by
    obtain ⟨d1, d2, d3⟩ := drop_cons hd
    rw [List.length_cons, Fishref2TextFault.loop5, gx_nat, d2, Option.bind_some, bnd_eq, num6]
    cases h : x.all wi with
    | true => simp [h, num5 L r (k + 1) d3]
    | false => simp [h]

/-! the text -/
theorem flag1 : ∀ (l : List Int) (b : Bool), PlanText_1_v1.loop1 l b = (b && l.all wi)
  | [], b => by simp [PlanText_1_v1.loop1]
  | x :: r, b => by
    rw [PlanText_1_v1.loop1, bnd_eq, flag1 r]
    show ((if b = true then wi x else false) && r.all wi) = _
    cases b <;> simp
theorem sent1 : ∀ (l : List Int) (q : ByteArray), inL inI l → q.size + 22 * l.length < 4294967296 → ∃ z, Plansentence.loop1 l q = some z ∧ z.size ≤ q.size + 22 * l.length
  | [], q, _, _ => ⟨q, rfl, by simp⟩
  | x :: r, q, hi, h => by
    simp only [List.length_cons] at h
    have hx := hi x (List.mem_cons_self ..)
    have hs := tx_size hx
    have s32 : (str [32]).size = 1 := rfl
    have e1 : (str [32] ++ tx x).size = 1 + (tx x).size := by rw [ByteArray.size_append, s32]
    have e4 : (q ++ (str [32] ++ tx x)).size = q.size + (1 + (tx x).size) := by rw [ByteArray.size_append, e1]
    obtain ⟨z, h1, h2⟩ := sent1 r (q ++ (str [32] ++ tx x)) (fun y h => hi y (List.mem_cons_of_mem _ h)) (by omega)
    refine ⟨z, ?_, by simp only [List.length_cons]; omega⟩
    rw [Plansentence.loop1, itoa_tx hx, Option.bind_some, scat_in (by omega), Option.bind_some, scat_in (by omega), Option.bind_some]
    exact h1
theorem sent {l : List Int} {w : ByteArray} (hi : inL inI l) (h : w.size + 22 * l.length < 4294967295) : ∃ z, Plansentence w l = some z ∧ 0 < z.size ∧ z.size ≤ w.size + 22 * l.length + 1 := by
  obtain ⟨z, h1, h2⟩ := sent1 l w hi (by omega)
  have s10 : (str [10]).size = 1 := rfl
  have e : (z ++ str [10]).size = z.size + 1 := by rw [ByteArray.size_append, s10]
  exact ⟨z ++ str [10], by rw [Plansentence, h1, Option.bind_some, scat_in (by omega)]; rfl, by omega, by omega⟩
theorem wr {l : List Int} {w y : ByteArray} {b : Bool} (hi : inL inI l) (hw : w.size ≤ 5) (h : y.size + (22 * l.length + 6) < 4294967295) :
    ∃ z, PlanText_1_v1 w l b y = some (b && l.all wi, z) ∧ z.size ≤ y.size + (22 * l.length + 6) := by
  obtain ⟨z, h1, h2, h3⟩ := sent (w := w) hi (by omega)
  have e : (y ++ z).size = y.size + z.size := ByteArray.size_append
  exact ⟨y ++ z, by rw [PlanText_1_v1, flag1, bnd_eq, h1, Option.bind_some, sbw_in h2 (by omega)]; rfl, by omega⟩
theorem txt2 : ∀ (l : List ApiStop) (y : ByteArray) (b : Bool), inL InApiStop l → y.size + 94 * l.length < 4294967000 →
    ∃ z, PlanText.loop2 l y b = some (z, b && (l.map numS).all (·.all wi)) ∧ z.size ≤ y.size + 94 * l.length
  | [], y, b, _, _ => ⟨y, by simp [PlanText.loop2], by simp⟩
  | x :: r, y, b, hi, h => by
    simp only [List.length_cons] at h
    have hx := hi x (List.mem_cons_self ..)
    obtain ⟨z, h1, h2⟩ := wr (l := numS x) (w := str [115, 116, 111, 112]) (y := y) (b := b) (by
      intro v hv
      simp only [numS, List.mem_cons, List.not_mem_nil, or_false] at hv
      rcases hv with rfl | rfl | rfl | rfl
      · exact hx.1
      · exact hx.2.1
      · exact hx.2.2.1
      · exact hx.2.2.2) (by decide) (by simp [numS]; omega)
    simp only [numS, List.length_cons, List.length_nil] at h2
    obtain ⟨z2, h3, h4⟩ := txt2 r z (b && (numS x).all wi) (fun y h => hi y (List.mem_cons_of_mem _ h)) (by omega)
    refine ⟨z2, ?_, by simp only [List.length_cons]; omega⟩
    rw [PlanText.loop2]
    rw [show [x.Station, x.Track, x.Arr, x.Dep] = numS x from rfl, h1, Option.bind_some]
    dsimp only
    rw [h3, List.map_cons, List.all_cons, Bool.and_assoc]
theorem txt3 (w : ByteArray) (hw : w.size ≤ 5) (F : List (List Int) → ByteArray → Bool → Option (ByteArray × Bool)) (hn : ∀ y b, F [] y b = some (y, b))
    (hc : ∀ x r y b, F (x :: r) y b = (PlanText_1_v1 w x b y).bind fun q => F r q.2 q.1) (m : Nat) (hm : m ≤ 100) : ∀ (l : List (List Int)) (y : ByteArray) (b : Bool), inL (inL inI) l → (∀ g ∈ l, g.length ≤ m) → y.size + (22 * m + 6) * l.length < 4294960000 →
    ∃ z, F l y b = some (z, b && l.all (·.all wi)) ∧ z.size ≤ y.size + (22 * m + 6) * l.length
  | [], y, b, _, _, _ => ⟨y, by simp [hn], by simp⟩
  | x :: r, y, b, hi, hl, h => by
    simp only [List.length_cons, Nat.mul_add, Nat.mul_one] at h
    have hx := hi x (List.mem_cons_self ..)
    have hxl := hl x (List.mem_cons_self ..)
    obtain ⟨z, h1, h2⟩ := wr (l := x) (w := w) (y := y) (b := b) hx hw (by omega)
    obtain ⟨z2, h3, h4⟩ := txt3 w hw F hn hc m hm r z (b && x.all wi) (fun y h => hi y (List.mem_cons_of_mem _ h)) (fun g h => hl g (List.mem_cons_of_mem _ h)) (by omega)
    refine ⟨z2, ?_, by simp only [List.length_cons, Nat.mul_add, Nat.mul_one]; omega⟩
    rw [hc, h1, Option.bind_some]
    dsimp only
    rw [h3, List.all_cons, Bool.and_assoc]
theorem txt1 : ∀ (l : List ApiTrain) (y : ByteArray) (b : Bool), inL InApiTrain l → (∀ t ∈ l, trainForm t) → y.size + 1700 * l.length < 4294900000 →
    ∃ z, PlanText.loop1 l y b = some (z, b && (l.flatMap numT).all (·.all wi)) ∧ z.size ≤ y.size + 1700 * l.length
  | [], y, b, _, _, _ => ⟨y, by simp [PlanText.loop1], by simp⟩
  | t :: r, y, b, hi, hf, h => by
    simp only [List.length_cons] at h
    obtain ⟨i1, i2, i3, i4⟩ := hi t (List.mem_cons_self ..)
    obtain ⟨t1, t2, t3, t4⟩ := hf t (List.mem_cons_self ..)
    obtain ⟨z, h1, h2⟩ := wr (l := [t.No, t.Stock]) (w := str [116, 114, 97, 105, 110]) (y := y) (b := b) (by
      intro v hv
      simp only [List.mem_cons, List.not_mem_nil, or_false] at hv
      rcases hv with rfl | rfl
      · exact i1
      · exact i2) (by decide) (by simp; omega)
    simp only [List.length_cons, List.length_nil] at h2
    obtain ⟨z2, h3, h4⟩ := txt2 t.Stops z (b && [t.No, t.Stock].all wi) i3 (by omega)
    obtain ⟨z3, h5, h6⟩ := txt3 (str [108, 101, 103]) (by decide) PlanText.loop3 (fun _ _ => rfl) (fun _ _ _ _ => rfl) 4 (by omega) t.Legs z2 ((b && [t.No, t.Stock].all wi) && (t.Stops.map numS).all (·.all wi)) i4 t4 (by omega)
    obtain ⟨z4, h7, h8⟩ := txt1 r z3 (((b && [t.No, t.Stock].all wi) && (t.Stops.map numS).all (·.all wi)) && t.Legs.all (·.all wi)) (fun y h => hi y (List.mem_cons_of_mem _ h)) (fun y h => hf y (List.mem_cons_of_mem _ h)) (by omega)
    refine ⟨z4, ?_, by simp only [List.length_cons]; omega⟩
    rw [PlanText.loop1, h1, Option.bind_some]
    dsimp only
    rw [h3, Option.bind_some]
    dsimp only
    rw [h5, Option.bind_some]
    dsimp only
    rw [h7]
    simp only [List.flatMap_cons, numT, List.cons_append, List.all_cons, List.all_append, Bool.and_assoc, List.all_nil]
theorem text_ok {d : ApiDay} (hi : InApiDay d) : ∃ e b, Fishref2TextFault d = some e ∧ PlanText d = some (b, e) ∧ (e = 0 → dayForm d) := by
  rcases form_out d with h | ⟨h, k⟩
  · refine ⟨Planform d, str [], ?_, ?_, fun e => absurd e h⟩
    · revert h
      rw [Fishref2TextFault, Planform]
      simp only [form1, form4, bnd_eq]
      cases (if decide (((d.Trains).length : Int) > 12) = true then true else decide (((d.Turns).length : Int) > 8)) with
      | true => intro _; rfl
      | false =>
        simp only [Bool.false_eq_true, if_false]
        cases Planform.loop1 d.Trains with
        | ret r => intro _; rfl
        | next u =>
          dsimp only
          cases Planform.loop4 d.Turns with
          | ret r => intro _; rfl
          | next u => intro h; exact absurd rfl h
    · rw [PlanText, if_pos (by simpa using h)]
  · obtain ⟨k1, k2, k3, k4⟩ := k
    have hnum := num_all ⟨k1, k2, k3, k4⟩
    obtain ⟨z, h1, h2⟩ := txt1 d.Trains ByteArray.empty true hi.1 k3 (by simp; omega)
    have h2' : z.size ≤ 1700 * d.Trains.length := by simpa using h2
    obtain ⟨z2, h3, h4⟩ := txt3 (str [116, 117, 114, 110]) (by decide) PlanText.loop4 (fun _ _ => rfl) (fun _ _ _ _ => rfl) 12 (by omega) d.Turns z (true && (d.Trains.flatMap numT).all (·.all wi)) hi.2 k4 (by omega)
    have hT : Fishref2TextFault d = some (if (d.Trains.flatMap numT ++ d.Turns).all (·.all wi) then 0 else 2) := by
      have h' := h
      rw [Planform] at h'
      simp only [bnd_eq] at h'
      rw [Fishref2TextFault]
      simp only [form1, form4, bnd_eq]
      cases hc : (if decide (((d.Trains).length : Int) > 12) = true then true else decide (((d.Turns).length : Int) > 8)) with
      | true => rw [hc] at h'; cases h'
      | false =>
        rw [hc] at h'
        simp only [Bool.false_eq_true, if_false] at h' ⊢
        cases hA : Planform.loop1 d.Trains with
        | ret r =>
          rw [hA] at h'
          rcases form1_out d.Trains with ⟨e, he, hh⟩ | ⟨hh, _⟩
          · rw [hA] at hh; injection hh with hh; dsimp only at h'; rw [hh] at h'; exact absurd h' he
          · rw [hA] at hh; cases hh
        | next u =>
          rw [hA] at h'
          dsimp only at h' ⊢
          cases hB : Planform.loop4 d.Turns with
          | ret r =>
            rw [hB] at h'
            rcases form4_out d.Turns with ⟨e, he, hh⟩ | ⟨hh, _⟩
            · rw [hB] at hh; injection hh with hh; dsimp only at h'; rw [hh] at h'; exact absurd h' he
            · rw [hB] at hh; cases hh
          | next u =>
            dsimp only
            rw [hnum, Option.bind_some, num5 _ _ 0 (List.drop_zero), Option.bind_some]
            cases (d.Trains.flatMap numT ++ d.Turns).all (·.all wi) <;> rfl
    refine ⟨_, if (d.Trains.flatMap numT ++ d.Turns).all (·.all wi) then z2 else str [], hT, ?_, fun _ => ⟨k1, k2, k3, k4⟩⟩
    rw [PlanText, if_neg (by simp [h]), h1, Option.bind_some]
    dsimp only
    rw [h3, Option.bind_some]
    dsimp only
    rw [List.all_append]
    cases hA : (d.Trains.flatMap numT).all (·.all wi) <;> cases hB : d.Turns.all (·.all wi) <;> simp [hA, hB]

/-! numbers of at most six digits, in texts -/
theorem seq_iff (x y : ByteArray) : seq x y = true ↔ x.data.toList = y.data.toList := by unfold seq; exact beq_iff_eq
theorem ba_ext {x y : ByteArray} (h : x.data.toList = y.data.toList) : x = y := by
  cases x; cases y
  simp at h
  subst h
  rfl
theorem ba_size (x : ByteArray) : x.size = x.data.toList.length := by rw [Array.length_toList]; rfl
theorem cut_list (s : ByteArray) (a b : Nat) : (s.extract a b).data.toList = (s.data.toList.take b).drop a := by
  simp [ByteArray.data_extract, List.drop_take]
theorem digitVal_some {b : UInt8} {d : Nat} : Lib.digitVal b = some d ↔ (48 ≤ b.toNat ∧ b.toNat ≤ 57) ∧ d = b.toNat - 48 := by
  unfold Lib.digitVal
  split
  · rename_i h
    constructor
    · intro e; injection e with e; exact ⟨h, e.symm⟩
    · rintro ⟨_, rfl⟩; rfl
  · rename_i h
    constructor
    · intro e; cases e
    · rintro ⟨k, _⟩; exact absurd k h
theorem decFrom_app : ∀ (a b : List UInt8) (acc : Nat), Lib.decFrom acc (a ++ b) = (Lib.decFrom acc a).bind fun m => Lib.decFrom m b
  | [], b, acc => rfl
  | x :: a, b, acc => by
    rw [List.cons_append, Lib.decFrom, Lib.decFrom]
    cases Lib.digitVal x with
    | none => rfl
    | some d => exact decFrom_app a b _
theorem ofNat_dig {u : Nat} (h : u < 10) : (UInt8.ofNat (48 + u)).toNat = 48 + u := by
  rw [UInt8.toNat_ofNat']; omega
theorem dig_val {u : Nat} (h : u < 10) : Lib.digitVal (UInt8.ofNat (48 + u)) = some u := by
  rw [digitVal_some, ofNat_dig h]; omega
theorem decFrom_dig (u : Nat) : Lib.decFrom 0 (Lib.decDigits u) = some u := by
  induction u using Nat.strongRecOn with
  | _ u ih =>
    rw [Lib.decDigits]
    split
    · rename_i h
      rw [Lib.decFrom, dig_val h]
      simp [Lib.decFrom]
    · rename_i h
      rw [decFrom_app, ih (u / 10) (by omega), Option.bind_some, Lib.decFrom, dig_val (by omega)]
      simp only [Lib.decFrom]
      congr 1
      omega
theorem dig_ne (u : Nat) : Lib.decDigits u ≠ [] := by
  intro h
  have h1 := Lib.decDigits_length u
  rw [h, List.length_nil] at h1
  have h2 := Lib.nDigits_pos u
  omega
/-- the first digit is 0 of 0 alone -/
theorem dig_head (u : Nat) : ∃ c r, Lib.decDigits u = c :: r ∧ 48 ≤ c.toNat ∧ c.toNat ≤ 57 ∧ (c.toNat = 48 → u = 0 ∧ r = []) := by
  induction u using Nat.strongRecOn with
  | _ u ih =>
    rw [Lib.decDigits]
    split
    · rename_i h
      exact ⟨_, _, rfl, by rw [ofNat_dig h]; omega, by rw [ofNat_dig h]; omega, by rw [ofNat_dig h]; intro e; exact ⟨by omega, rfl⟩⟩
    · rename_i h
      obtain ⟨c, r, e, h1, h2, h3⟩ := ih (u / 10) (by omega)
      rw [e]
      exact ⟨c, _, rfl, h1, h2, fun k => by have := (h3 k).1; omega⟩
theorem dig_back : ∀ (n : Nat) (l : List UInt8) (m : Nat), l.length = n → l ≠ [] → Lib.decFrom 0 l = some m → (∀ c r, l = c :: r → c.toNat = 48 → r = []) → l = Lib.decDigits m
  | 0, l, m, hl, h0, _, _ => absurd (List.eq_nil_of_length_eq_zero hl) h0
  | n + 1, l, m, hl, h0, hd, hh => by
    obtain ⟨a, c, rfl⟩ : ∃ a c, l = a ++ [c] := ⟨l.dropLast, l.getLast h0, (List.dropLast_concat_getLast h0).symm⟩
    rw [decFrom_app] at hd
    cases ha : Lib.decFrom 0 a with
    | none => rw [ha] at hd; cases hd
    | some m' =>
      rw [ha, Option.bind_some, Lib.decFrom] at hd
      cases hc : Lib.digitVal c with
      | none => rw [hc] at hd; cases hd
      | some d =>
        rw [hc] at hd
        simp only [Lib.decFrom, Option.some.injEq] at hd
        obtain ⟨⟨k1, k2⟩, k3⟩ := digitVal_some.1 hc
        have hcd : c = UInt8.ofNat (48 + d) := UInt8.toNat_inj.1 (by rw [ofNat_dig (by omega)]; omega)
        cases a with
        | nil =>
          simp only [Lib.decFrom, Option.some.injEq] at ha
          subst ha
          rw [Lib.decDigits, dif_pos (by omega), hcd]
          have : d = m := by omega
          rw [this]; rfl
        | cons x a =>
          have hx : x.toNat ≠ 48 := fun e => by
            have := hh x (a ++ [c]) rfl e
            simp at this
          have ih := dig_back n (x :: a) m' (by simpa using hl) (by simp) ha (fun c r e k => by
            injection e with e1 e2
            subst e1
            exact absurd k hx)
          have hm' : 1 ≤ m' := by
            rcases Nat.eq_zero_or_pos m' with h | h
            · subst h
              rw [show Lib.decDigits 0 = [UInt8.ofNat (48 + 0)] from by rw [Lib.decDigits, dif_pos (by omega)]] at ih
              injection ih with e1 e2
              rw [e1, ofNat_dig (by omega)] at hx
              omega
            · exact h
          rw [Lib.decDigits, dif_neg (by omega), show m / 10 = m' by omega, show m % 10 = d by omega, ← ih, hcd]
theorem ndig_le {u : Nat} : Lib.nDigits u ≤ 6 ↔ u ≤ 999999 := by
  constructor
  · intro h
    have h1 := Lib.lt_pow_nDigits u
    have h2 : 10 ^ Lib.nDigits u ≤ 10 ^ 6 := Nat.pow_le_pow_right (by decide) h
    have h3 : (10 : Nat) ^ 6 = 1000000 := by decide
    omega
  · intro h
    rcases Nat.lt_or_ge (Lib.nDigits u) 7 with h1 | h1
    · omega
    · exfalso
      have key : ∀ (k u : Nat), u < 10 ^ (k + 1) → Lib.nDigits u ≤ k + 1 := by
        intro k
        induction k with
        | zero => intro u h; rw [Lib.nDigits_small (by simpa using h)]; omega
        | succ k ih =>
          intro u h
          by_cases c : u < 10
          · rw [Lib.nDigits_small c]; omega
          · rw [Lib.nDigits_big c]
            have := ih (u / 10) (by rw [Nat.pow_succ] at h; omega)
            omega
      have := key 5 u (by have : (10 : Nat) ^ (5 + 1) = 1000000 := by decide
                          omega)
      omega
/-- a number of at most six digits -/
def Num6 (l : List UInt8) (n : Int) : Prop := (-999999 ≤ n ∧ n ≤ 999999) ∧ l = Lib.itoa n
theorem itoa_head (n : Int) : (n < 0 ∧ Lib.itoa n = 45 :: Lib.decDigits n.natAbs) ∨ (0 ≤ n ∧ Lib.itoa n = Lib.decDigits n.natAbs) := by
  unfold Lib.itoa
  by_cases h : n < 0
  · rw [if_pos h]; exact .inl ⟨h, rfl⟩
  · rw [if_neg h, show n.toNat = n.natAbs by omega]; exact .inr ⟨by omega, rfl⟩
theorem atoi_itoa (n : Int) : Lib.atoi (Lib.itoa n) = some n := by
  have hd : ∀ u, Lib.decNat (Lib.decDigits u) = some u := fun u => by
    unfold Lib.decNat
    rw [if_neg (by have := dig_ne u; cases h : Lib.decDigits u <;> simp_all), decFrom_dig]
  rcases itoa_head n with ⟨h1, h2⟩ | ⟨h1, h2⟩
  · rw [h2, Lib.atoi, if_pos (show ((45 : UInt8) == 45) = true from rfl), hd]
    simp; omega
  · obtain ⟨c, r, e, k1, k2, _⟩ := dig_head n.natAbs
    have a1 : ¬ ((c == 45) = true) := fun h => by have := eq_of_beq h; subst this; exact absurd k1 (by decide)
    have a2 : ¬ ((c == 43) = true) := fun h => by have := eq_of_beq h; subst this; exact absurd k1 (by decide)
    rw [h2, e, Lib.atoi, if_neg a1, if_neg a2, ← e, hd]
    simp; omega
theorem trim_v (w : ByteArray) (hw : w.size ≤ 30000) : StringsTrimPrefix w (str [45]) = some (if w.data.toList.head? = some 45 then w.extract 1 w.size else w) := by
  unfold StringsTrimPrefix InternalStringsliteTrimPrefix InternalStringsliteHasPrefix
  have hs : (str [45]).size = 1 := rfl
  rw [hs]
  by_cases c : w.size = 0
  · have e : w.data.toList = [] := List.eq_nil_of_length_eq_zero (by rw [← ba_size]; exact c)
    rw [if_neg (by simp; omega), Option.bind_some, Option.bind_some, if_neg (by decide), Option.bind_some, if_neg (by rw [e]; simp)]
  · have hc : scut w 0 ((1 : Nat) : Int) = some (w.extract 0 1) := by unfold scut; rw [if_pos (by omega)]; rfl
    rw [if_pos (by simp; omega), hc, Option.bind_some, Option.bind_some, Option.bind_some]
    obtain ⟨x, r, e⟩ : ∃ x r, w.data.toList = x :: r := by
      cases h : w.data.toList with
      | nil => exact absurd (by rw [ba_size, h]; rfl) c
      | cons x r => exact ⟨x, r, rfl⟩
    have hq : seq (w.extract 0 1) (str [45]) = decide (x = 45) := by
      unfold seq
      rw [cut_list, e]
      by_cases hx : x = 45 <;> simp [hx]
    rw [hq, e, List.head?_cons]
    by_cases hx : x = 45
    · rw [if_pos (by simp [hx]), if_pos (by rw [hx])]
      have : scut w ((1 : Nat) : Int) ((w.size : Nat) : Int) = some (w.extract 1 w.size) := by unfold scut; rw [if_pos (by omega)]; rfl
      rw [this]; rfl
    · rw [if_neg (by simp [hx]), if_neg (by simp [hx])]; rfl
def trimz (w : ByteArray) : Nat := if w.data.toList.head? = some 45 then w.size - 1 else w.size
theorem trim_sz (w : ByteArray) (hw : w.size ≤ 30000) : ∃ q, StringsTrimPrefix w (str [45]) = some q ∧ q.size = trimz w := by
  refine ⟨_, trim_v w hw, ?_⟩
  unfold trimz
  split
  · rw [ba_size, cut_list, List.length_drop, List.take_of_length_le (by rw [← ba_size]; exact Nat.le_refl _), ← ba_size]
  · rfl
theorem trimz_itoa {w : ByteArray} {n : Int} (h : w.data.toList = Lib.itoa n) : trimz w = Lib.nDigits n.natAbs := by
  unfold trimz
  rcases itoa_head n with ⟨h1, h2⟩ | ⟨h1, h2⟩
  · rw [h, h2, List.head?_cons, if_pos rfl, ba_size, h, h2, List.length_cons, Lib.decDigits_length]; omega
  · obtain ⟨c, r, e, k1, k2, _⟩ := dig_head n.natAbs
    rw [h, h2, e, if_neg ?_, ba_size, h, h2, Lib.decDigits_length]
    simp
    intro hc
    subst hc
    exact absurd k1 (by decide)
/-- the program's reading -/
theorem prog_num (w : ByteArray) (hw : w.size ≤ 30000) : ∃ v b q, LineNumber w = some (v, b) ∧ StringsTrimPrefix w (str [45]) = some q ∧
    ((b = true ∧ q.size ≤ 6 ∧ Num6 w.data.toList v) ∨ ((b = false ∨ ¬ q.size ≤ 6) ∧ ∀ n, ¬ Num6 w.data.toList n)) := by
  obtain ⟨q, hq, hz⟩ := trim_sz w hw
  obtain ⟨v, ok, ha⟩ : ∃ v ok, atoiq w = some (v, ok) := by
    unfold atoiq
    rw [if_pos (by omega)]
    exact ⟨_, _, rfl⟩
  have hat : ok = true → Lib.atoiAll w.data.toList = .ok v := by
    intro h
    unfold atoiq at ha
    rw [if_pos (by omega)] at ha
    injection ha with ha
    cases hh : Lib.atoiAll w.data.toList with
    | ok u => rw [hh] at ha; injection ha with h1 h2; rw [h1]
    | range => rw [hh] at ha; injection ha with h1 h2; rw [h] at h2; cases h2
    | _ => rw [hh] at ha; injection ha with h1 h2; rw [h] at h2; cases h2
  have hun : ∀ n, Num6 w.data.toList n → ok = true ∧ v = n := by
    intro n hn
    have hl : w.data.toList.length ≤ 18 := by
      rw [hn.2]
      have hd : Lib.nDigits n.natAbs ≤ 6 := ndig_le.2 (by have := hn.1; omega)
      rcases itoa_head n with ⟨h1, h2⟩ | ⟨h1, h2⟩
      · rw [h2, List.length_cons, Lib.decDigits_length]; omega
      · rw [h2, Lib.decDigits_length]; omega
    have e := Lib.atoiAll_short w.data.toList hl
    rw [hn.2, atoi_itoa] at e
    unfold atoiq at ha
    rw [if_pos (by omega), hn.2, e] at ha
    simp [Lib.NumEnd.ofOption] at ha
    exact ⟨ha.2, ha.1.symm⟩
  cases ok with
  | false =>
    refine ⟨v, false, q, ?_, hq, .inr ⟨.inl rfl, fun n hn => by have := (hun n hn).1; cases this⟩⟩
    unfold LineNumber
    rw [ha, Option.bind_some]
    rfl
  | true =>
    have hv := Lib.atoiAll_bounds (hat rfl)
    by_cases c : w.data.toList = Lib.itoa v
    · have hs : seq (tx v) w = true := (seq_iff _ _).2 (by rw [c]; simp [tx])
      have hL : LineNumber w = some (v, decide (((q.size : Nat) : Int) ≤ 9)) := by
        unfold LineNumber
        rw [ha, Option.bind_some]
        simp only [if_true]
        rw [itoa_tx hv, Option.bind_some, hs, if_pos rfl, hq, Option.bind_some, Option.bind_some]
      have ht := trimz_itoa c
      rw [hL]
      by_cases c6 : q.size ≤ 6
      · refine ⟨v, true, q, by rw [decide_eq_true (by omega)], hq, .inl ⟨rfl, c6, ?_, c⟩⟩
        have := ndig_le.1 (show Lib.nDigits v.natAbs ≤ 6 by omega)
        omega
      · refine ⟨v, _, q, rfl, hq, .inr ⟨.inr c6, fun n hn => ?_⟩⟩
        obtain rfl := (hun n hn).2
        have := ndig_le.2 (show v.natAbs ≤ 999999 by have := hn.1; omega)
        omega
    · have hs : seq (tx v) w = false := by
        cases h : seq (tx v) w with
        | false => rfl
        | true => exact absurd (by have := (seq_iff _ _).1 h; simp [tx] at this; exact this.symm) c
      refine ⟨v, false, q, ?_, hq, .inr ⟨.inl rfl, fun n hn => c (by rw [(hun n hn).2]; exact hn.2)⟩⟩
      unfold LineNumber
      rw [ha, Option.bind_some]
      simp only [if_true]
      rw [itoa_tx hv, Option.bind_some, hs, if_neg (by decide), Option.bind_some]
/-! lines of a day -/
theorem gx_lastq {α : Type} (l : List α) (x : α) (h : l.length < 1000000) : gx (l ++ [x]) (w64 ((((l ++ [x]).length : Nat) : Int) - 1)) = some x := by
  have e : w64 ((((l ++ [x]).length : Nat) : Int) - 1) = ((l.length : Nat) : Int) := by rw [w64_id (by simp; omega)]; simp
  rw [e, gx_nat, List.getElem?_append_right (Nat.le_refl _)]
  simp
theorem set_lastq {α : Type} (l : List α) (x y : α) (h : l.length < 1000000) : List.set (l ++ [x]) ((w64 ((((l ++ [x]).length : Nat) : Int) - 1)).toNat) y = l ++ [y] := by
  have e : w64 ((((l ++ [x]).length : Nat) : Int) - 1) = ((l.length : Nat) : Int) := by rw [w64_id (by simp; omega)]; simp
  rw [e, Int.toNat_natCast, List.set_append_right _ _ (Nat.le_refl _)]
  simp
theorem nil_snoc {α : Type} (l : List α) : l = [] ∨ ∃ l0 x, l = l0 ++ [x] := by
  rcases List.eq_nil_or_concat l with h | ⟨l0, x, h⟩
  · exact .inl h
  · exact .inr ⟨l0, x, by rw [h, List.concat_eq_append]⟩
theorem in6 {n : Int} (h : -999999 ≤ n ∧ n ≤ 999999) : inI n := by unfold inI; omega
theorem sq1 : seq (str [116, 114, 97, 105, 110]) (str [116, 114, 97, 105, 110]) = true := rfl
theorem sq2 : seq (str [115, 116, 111, 112]) (str [116, 114, 97, 105, 110]) = false := rfl
theorem sq3 : seq (str [115, 116, 111, 112]) (str [115, 116, 111, 112]) = true := rfl
theorem sq4 : seq (str [108, 101, 103]) (str [116, 114, 97, 105, 110]) = false := rfl
theorem sq5 : seq (str [108, 101, 103]) (str [115, 116, 111, 112]) = false := rfl
theorem sq6 : seq (str [108, 101, 103]) (str [108, 101, 103]) = true := rfl
theorem sq7 : seq (str [116, 117, 114, 110]) (str [116, 114, 97, 105, 110]) = false := rfl
theorem sq8 : seq (str [116, 117, 114, 110]) (str [115, 116, 111, 112]) = false := rfl
theorem sq9 : seq (str [116, 117, 114, 110]) (str [108, 101, 103]) = false := rfl
theorem sq10 : seq (str [116, 117, 114, 110]) (str [116, 117, 114, 110]) = true := rfl
theorem sq11 : seq (str [116, 114, 97, 105, 110]) (str [116, 117, 114, 110]) = false := rfl
theorem sq12 : seq (str [115, 116, 111, 112]) (str [116, 117, 114, 110]) = false := rfl
theorem sq13 : seq (str [108, 101, 103]) (str [116, 117, 114, 110]) = false := rfl
theorem sq14 : seq (str [116, 114, 97, 105, 110]) (str [115, 116, 111, 112]) = false := rfl
theorem sq15 : seq (str [116, 114, 97, 105, 110]) (str [108, 101, 103]) = false := rfl
theorem sq16 : seq (str [115, 116, 111, 112]) (str [108, 101, 103]) = false := rfl
/-- the program's step -/
theorem padd_no (v : ByteArray) (ns : List Int) (ph : Int) (T : List ApiTrain) (U : List (List Int)) (hT : T.length < 100000)
    (c1 : ¬ (v = str [116, 114, 97, 105, 110] ∧ ns.length = 2 ∧ ph < 3)) (c2 : ¬ (v = str [115, 116, 111, 112] ∧ ns.length = 4 ∧ ph = 1)) (c3 : ¬ (v = str [108, 101, 103] ∧ 0 < ns.length ∧ (ph = 1 ∨ ph = 2))) (c4 : ¬ (v = str [116, 117, 114, 110] ∧ 0 < ns.length)) :
    Planadd_v1 v ns ph ⟨T, U⟩ = some (0, false, T, U) := by
  have b1 : (if seq v (str [116, 114, 97, 105, 110]) = true then (if (((ns.length : Nat) : Int) == 2) = true then decide (ph < 3) else false) else false) = false := by
    by_cases h1 : seq v (str [116, 114, 97, 105, 110]) = true
    · rw [if_pos h1]
      by_cases h2 : ns.length = 2
      · rw [if_pos (by simp; omega), decide_eq_false (fun h3 => c1 ⟨ba_ext ((seq_iff _ _).1 h1), h2, h3⟩)]
      · rw [if_neg (by simp; omega)]
    · rw [if_neg h1]
  have b2 : (if seq v (str [115, 116, 111, 112]) = true then (if (((ns.length : Nat) : Int) == 4) = true then (ph == 1) else false) else false) = false := by
    by_cases h1 : seq v (str [115, 116, 111, 112]) = true
    · rw [if_pos h1]
      by_cases h2 : ns.length = 4
      · rw [if_pos (by simp; omega), beq_eq_false_iff_ne]; exact fun h3 => c2 ⟨ba_ext ((seq_iff _ _).1 h1), h2, h3⟩
      · rw [if_neg (by simp; omega)]
    · rw [if_neg h1]
  have b3 : (if seq v (str [108, 101, 103]) = true then (if decide (((ns.length : Nat) : Int) > 0) = true then (if (ph == 1) = true then true else (ph == 2)) else false) else false) = false := by
    by_cases h1 : seq v (str [108, 101, 103]) = true
    · rw [if_pos h1]
      by_cases h2 : 0 < ns.length
      · rw [if_pos (by simp; omega), if_neg (by simp; exact fun h3 => c3 ⟨ba_ext ((seq_iff _ _).1 h1), h2, .inl h3⟩), beq_eq_false_iff_ne]
        exact fun h3 => c3 ⟨ba_ext ((seq_iff _ _).1 h1), h2, .inr h3⟩
      · rw [if_neg (by rw [decide_eq_true_eq]; omega)]
    · rw [if_neg h1]
  have b4 : (if seq v (str [116, 117, 114, 110]) = true then decide (((ns.length : Nat) : Int) > 0) else false) = false := by
    by_cases h1 : seq v (str [116, 117, 114, 110]) = true
    · rw [if_pos h1, decide_eq_false (fun h3 => c4 ⟨ba_ext ((seq_iff _ _).1 h1), by omega⟩)]
    · rw [if_neg h1]
  unfold Planadd_v1
  simp only [bnd_eq]
  rw [b1, b2, b3, b4]
  simp only [Bool.false_eq_true, if_false]
  rcases nil_snoc T with rfl | ⟨T0, t, rfl⟩
  · rw [if_neg (by simp)]
  · rw [if_pos (by simp), gx_lastq _ _ (by simp at hT; omega), Option.bind_some]
theorem padd_train (a b ph : Int) (hp : ph < 3) (T : List ApiTrain) (U : List (List Int)) (hT : T.length < 100000) :
    Planadd_v1 (str [116, 114, 97, 105, 110]) [a, b] ph ⟨T, U⟩ = some (1, true, T ++ [⟨a, b, [], []⟩], U) := by
  have g0 : gx [a, b] 0 = some a := rfl
  have g1 : gx [a, b] 1 = some b := rfl
  have hb : (if ((([a, b] : List Int).length : Int) == 2) = true then decide (ph < 3) else false) = true := by rw [if_pos (show ((([a, b] : List Int).length : Int) == 2) = true from rfl)]; simpa using hp
  unfold Planadd_v1
  simp only [bnd_eq, sq1, if_true]
  rw [hb]
  simp only [if_true]
  rw [g0, g1, Option.bind_some, Option.bind_some, apd_lt (by simp; omega), Option.bind_some]
  rcases nil_snoc T with rfl | ⟨T0, t, rfl⟩
  · rw [if_neg (by simp)]
  · rw [if_pos (by simp), gx_lastq _ _ (by simp at hT; omega), Option.bind_some]
theorem padd_stop (a b c d : Int) (T0 : List ApiTrain) (t : ApiTrain) (U : List (List Int)) (hT : T0.length < 100000) (ht : t.Stops.length < 100000) :
    Planadd_v1 (str [115, 116, 111, 112]) [a, b, c, d] 1 ⟨T0 ++ [t], U⟩ = some (1, true, T0 ++ [⟨t.No, t.Stock, t.Stops ++ [⟨a, b, c, d⟩], t.Legs⟩], U) := by
  have g0 : gx [a, b, c, d] 0 = some a := rfl
  have g1 : gx [a, b, c, d] 1 = some b := rfl
  have g2 : gx [a, b, c, d] 2 = some c := rfl
  have g3 : gx [a, b, c, d] 3 = some d := rfl
  have hb : (if ((([a, b, c, d] : List Int).length : Int) == 4) = true then ((1 : Int) == 1) else false) = true := rfl
  unfold Planadd_v1
  simp only [bnd_eq, sq2, sq3, if_true, Bool.false_eq_true, if_false]
  rw [hb, if_pos (by simp), gx_lastq _ _ (by omega), Option.bind_some, if_pos rfl, g0, g1, g2, g3, Option.bind_some, Option.bind_some, Option.bind_some, Option.bind_some, apd_lt (by simp; omega), Option.bind_some, set_lastq _ _ _ (by omega)]
theorem padd_leg (ns : List Int) (hn : 0 < ns.length) (ph : Int) (hp : ph = 1 ∨ ph = 2) (T0 : List ApiTrain) (t : ApiTrain) (U : List (List Int)) (hT : T0.length < 100000) (ht : t.Legs.length < 100000) :
    Planadd_v1 (str [108, 101, 103]) ns ph ⟨T0 ++ [t], U⟩ = some (2, true, T0 ++ [⟨t.No, t.Stock, t.Stops, t.Legs ++ [ns]⟩], U) := by
  have hb : (if decide (((ns.length : Nat) : Int) > 0) = true then (if (ph == 1) = true then true else (ph == 2)) else false) = true := by
    rw [if_pos (by simp; omega)]
    rcases hp with rfl | rfl <;> rfl
  unfold Planadd_v1
  simp only [bnd_eq, sq4, sq5, sq6, if_true, Bool.false_eq_true, if_false]
  rw [hb, if_pos (by simp), gx_lastq _ _ (by omega), Option.bind_some, if_pos rfl, apd_lt (by simp; omega), Option.bind_some, set_lastq _ _ _ (by omega)]
theorem padd_turn (ns : List Int) (hn : 0 < ns.length) (ph : Int) (T : List ApiTrain) (U : List (List Int)) (hT : T.length < 100000) (hU : U.length < 100000) :
    Planadd_v1 (str [116, 117, 114, 110]) ns ph ⟨T, U⟩ = some (3, true, T, U ++ [ns]) := by
  have hb : decide (((ns.length : Nat) : Int) > 0) = true := by simp; omega
  unfold Planadd_v1
  simp only [bnd_eq, sq7, sq8, sq9, sq10, if_true, Bool.false_eq_true, if_false]
  rw [hb]
  simp only [if_true]
  rw [apd_lt (by simp; omega), Option.bind_some]
  rcases nil_snoc T with rfl | ⟨T0, t, rfl⟩
  · rw [if_neg (by simp)]
  · rw [if_pos (by simp), gx_lastq _ _ (by simp at hT; omega), Option.bind_some]
theorem cut_tl (v : ByteArray) (ws : List ByteArray) : cutl (v :: ws) 1 (((v :: ws).length : Nat) : Int) = some ws := by
  rw [cutl_in (by omega) (by simp; omega) (Int.le_refl _)]
  simp
theorem stop_self (l : List ApiStop) : SlicesEqualLapiStop l l = some true := by
  have key : ∀ (r : List ApiStop) (k : Nat), l.drop k = r → SlicesEqualLapiStop.loop1 l r k = some (.next ()) := by
    intro r
    induction r with
    | nil => intro k _; rfl
    | cons v r ih =>
      intro k hd
      have hk : k < l.length := by
        rcases Nat.lt_or_ge k l.length with c | c
        · exact c
        · rw [List.drop_eq_nil_of_le c] at hd; cases hd
      rw [List.drop_eq_getElem_cons hk] at hd
      injection hd with d1 d2
      rw [SlicesEqualLapiStop.loop1, gx_at hk, Option.bind_some, d1]
      simp only [beq_self_eq_true, Bool.and_self, Bool.not_true, Bool.false_eq_true, if_false]
      exact ih (k + 1) d2
  unfold SlicesEqualLapiStop
  rw [bne_self_eq_false, if_neg (by decide), key l 0 rfl]; rfl
theorem ints_self (l : List Int) : SlicesEqualLint l l = some true := by
  have key : ∀ (r : List Int) (k : Nat), l.drop k = r → SlicesEqualLint.loop1 l r k = some (.next ()) := by
    intro r
    induction r with
    | nil => intro k _; rfl
    | cons v r ih =>
      intro k hd
      have hk : k < l.length := by
        rcases Nat.lt_or_ge k l.length with c | c
        · exact c
        · rw [List.drop_eq_nil_of_le c] at hd; cases hd
      rw [List.drop_eq_getElem_cons hk] at hd
      injection hd with d1 d2
      rw [SlicesEqualLint.loop1, gx_at hk, Option.bind_some, d1]
      simp only [bne_self_eq_false, Bool.false_eq_true, if_false]
      exact ih (k + 1) d2
  unfold SlicesEqualLint
  rw [bne_self_eq_false, if_neg (by decide), key l 0 rfl]; rfl
theorem lists_selfq (l : List (List Int)) : SlicesEqualFuncLLint_v1 l l = some true := by
  have key : ∀ (r : List (List Int)) (k : Nat), l.drop k = r → SlicesEqualFuncLLint_v1.loop1 l r k = some (.next ()) := by
    intro r
    induction r with
    | nil => intro k _; rfl
    | cons v r ih =>
      intro k hd
      have hk : k < l.length := by
        rcases Nat.lt_or_ge k l.length with c | c
        · exact c
        · rw [List.drop_eq_nil_of_le c] at hd; cases hd
      rw [List.drop_eq_getElem_cons hk] at hd
      injection hd with d1 d2
      rw [SlicesEqualFuncLLint_v1.loop1, gx_at hk, Option.bind_some, d1, ints_self, Option.bind_some, Bool.not_true, if_neg (by decide)]
      exact ih (k + 1) d2
  unfold SlicesEqualFuncLLint_v1
  rw [bne_self_eq_false, if_neg (by decide), key l 0 rfl]; rfl
theorem train_self (t : ApiTrain) : Fishref2SameTrain t t = some true := by
  unfold Fishref2SameTrain
  simp only [beq_self_eq_true, if_true, stop_self, Option.bind_some, lists_selfq]
theorem trains_self (l : List ApiTrain) : SlicesEqualFuncLapiTrain_v1 l l = some true := by
  have key : ∀ (r : List ApiTrain) (k : Nat), l.drop k = r → SlicesEqualFuncLapiTrain_v1.loop1 l r k = some (.next ()) := by
    intro r
    induction r with
    | nil => intro k _; rfl
    | cons v r ih =>
      intro k hd
      have hk : k < l.length := by
        rcases Nat.lt_or_ge k l.length with c | c
        · exact c
        · rw [List.drop_eq_nil_of_le c] at hd; cases hd
      rw [List.drop_eq_getElem_cons hk] at hd
      injection hd with d1 d2
      rw [SlicesEqualFuncLapiTrain_v1.loop1, gx_at hk, Option.bind_some, d1, train_self, Option.bind_some, Bool.not_true, if_neg (by decide)]
      exact ih (k + 1) d2
  unfold SlicesEqualFuncLapiTrain_v1
  rw [bne_self_eq_false, if_neg (by decide), key l 0 rfl]; rfl
theorem day_self (d : ApiDay) : Fishref2SameDay d d = some true := by
  unfold Fishref2SameDay
  simp only [trains_self, lists_selfq, Option.bind_some, if_true]
/-! texts cut at a byte -/
def jn (c : UInt8) : List (List UInt8) → List UInt8
  | [] => []
  | [a] => a
  | a :: b :: r => a ++ c :: jn c (b :: r)
theorem index_no (c : UInt8) : ∀ a : List UInt8, c ∉ a → Lib.index a [c] = -1
  | [], _ => rfl
  | b :: a, h => by
    have hb : ¬ c = b := fun e => h (by simp [e])
    have hp : ([c] : List UInt8).isPrefixOf (b :: a) = false := by simp [List.isPrefixOf, hb]
    rw [Lib.index, hp, index_no c a (fun m => h (by simp [m]))]
    rfl
theorem index_at (c : UInt8) (r : List UInt8) : ∀ a : List UInt8, c ∉ a → Lib.index (a ++ c :: r) [c] = (a.length : Int)
  | [], _ => by
    have hp : ([c] : List UInt8).isPrefixOf (c :: r) = true := by simp [List.isPrefixOf]
    rw [List.nil_append, Lib.index, hp]; rfl
  | b :: a, h => by
    have hb : ¬ c = b := fun e => h (by simp [e])
    have hp : ([c] : List UInt8).isPrefixOf (b :: (a ++ c :: r)) = false := by simp [List.isPrefixOf, hb]
    rw [List.cons_append, Lib.index, hp, index_at c r a (fun m => h (by simp [m]))]
    rw [if_neg (by decide), if_neg (by rw [beq_iff_eq]; omega)]
    simp
theorem split_jn (c : UInt8) : ∀ (P : List (List UInt8)) (s : ByteArray), P ≠ [] → (∀ a ∈ P, c ∉ a) → s.data.toList = jn c P → Lib.countB s (str [c]) + 1 = P.length ∧ Lib.splitB (str [c]) 0 (Lib.countB s (str [c])) s = P.map str
  | [], _, h, _, _ => absurd rfl h
  | [a], s, _, hc, hs => by
    have hi : Lib.indexB s (str [c]) = -1 := by
      unfold Lib.indexB
      rw [hs]
      exact index_no c a (hc a (by simp))
    rw [Lib.countB_miss s _ hi]
    refine ⟨rfl, ?_⟩
    rw [Lib.splitB_zero, List.map_cons, List.map_nil]
    congr 1
    exact ba_ext (by rw [hs]; rfl)
  | a :: b :: r, s, _, hc, hs => by
    have hi : Lib.indexB s (str [c]) = ((a.length : Nat) : Int) := by
      unfold Lib.indexB
      rw [hs]
      exact index_at c _ a (hc a (by simp))
    have h1 : (str [c]).size = 1 := rfl
    have hx : (s.extract (a.length + 1) s.size).data.toList = jn c (b :: r) := by
      rw [cut_list, List.take_of_length_le (by rw [← ba_size]; exact Nat.le_refl _), hs]
      show (a ++ c :: jn c (b :: r)).drop (a.length + 1) = _
      rw [← List.drop_drop, List.drop_left]
      rfl
    obtain ⟨k1, k2⟩ := split_jn c (b :: r) (s.extract (a.length + 1) s.size) (by simp) (fun x hx => hc x (by simp [List.mem_cons] at hx ⊢; exact .inr hx)) hx
    have hcnt : Lib.countB s (str [c]) = Lib.countB (s.extract (a.length + 1) s.size) (str [c]) + 1 := by
      rw [Lib.countB_hit s (str [c]) a.length (by rw [h1]; decide) hi, h1]; omega
    refine ⟨by rw [hcnt, k1]; rfl, ?_⟩
    rw [hcnt, Lib.splitB_hit (str [c]) 0 _ s a.length hi, h1, k2, List.map_cons, Nat.add_zero]
    congr 1
    refine ba_ext ?_
    rw [cut_list, hs, List.drop_zero]
    show (a ++ c :: jn c (b :: r)).take a.length = a
    rw [List.take_left]
theorem splitq_jn (c : UInt8) (P : List (List UInt8)) (s : ByteArray) (h0 : P ≠ []) (hc : ∀ a ∈ P, c ∉ a) (hs : s.data.toList = jn c P) (hz : s.size ≤ 30000) : splitq s (str [c]) = some (P.map str) := by
  unfold splitq
  rw [if_pos ⟨by omega, (by decide : 1 ≤ 1)⟩, (split_jn c P s h0 hc hs).2]
/-! the lines of a day -/
abbrev wT : List UInt8 := [116, 114, 97, 105, 110]
abbrev wS : List UInt8 := [115, 116, 111, 112]
abbrev wL : List UInt8 := [108, 101, 103]
abbrev wU : List UInt8 := [116, 117, 114, 110]
def ln (p : List UInt8 × List Int) : List UInt8 := p.1 ++ p.2.flatMap fun n => 32 :: Lib.itoa n
def tl (L : List (List UInt8 × List Int)) : List UInt8 := L.flatMap fun p => ln p ++ [10]
def trL (t : ApiTrain) : List (List UInt8 × List Int) := (wT, [t.No, t.Stock]) :: (t.Stops.map (fun s => (wS, numS s)) ++ t.Legs.map fun g => (wL, g))
def dl (d : ApiDay) : List (List UInt8 × List Int) := d.Trains.flatMap trL ++ d.Turns.map fun u => (wU, u)
theorem tl_app (a b : List (List UInt8 × List Int)) : tl (a ++ b) = tl a ++ tl b := by unfold tl; rw [List.flatMap_append]
theorem tl_cons (p : List UInt8 × List Int) (b : List (List UInt8 × List Int)) : tl (p :: b) = ln p ++ 10 :: tl b := by unfold tl; rw [List.flatMap_cons]; simp
theorem app_list (x y : ByteArray) : (x ++ y).data.toList = x.data.toList ++ y.data.toList := by simp
theorem scat_some {x y z : ByteArray} (h : scat x y = some z) : z.data.toList = x.data.toList ++ y.data.toList := by
  unfold scat at h
  split at h
  · injection h with h; subst h; exact app_list _ _
  · cases h
theorem itoaq_some {n : Int} {z : ByteArray} (h : itoa n = some z) : z.data.toList = Lib.itoa n := by
  obtain ⟨_, rfl⟩ := itoa_some h
  rfl
/-! what the program writes -/
theorem c_sent : ∀ (l : List Int) (q z : ByteArray), Plansentence.loop1 l q = some z → z.data.toList = q.data.toList ++ l.flatMap fun n => 32 :: Lib.itoa n
  | [], q, z, h => by injection h with h; subst h; simp
  | x :: r, q, z, h => by
    rw [Plansentence.loop1] at h
    obtain ⟨a, h1, h⟩ := Option.bind_eq_some_iff.1 h
    obtain ⟨b, h2, h⟩ := Option.bind_eq_some_iff.1 h
    obtain ⟨c, h3, h⟩ := Option.bind_eq_some_iff.1 h
    rw [c_sent r c z h, scat_some h3, scat_some h2, itoaq_some h1]
    simp
theorem c_wr {w y z : ByteArray} {l : List Int} {b b' : Bool} (h : PlanText_1_v1 w l b y = some (b', z)) : z.data.toList = y.data.toList ++ (ln (w.data.toList, l) ++ [10]) := by
  unfold PlanText_1_v1 at h
  rw [bnd_eq] at h
  obtain ⟨a, h1, h⟩ := Option.bind_eq_some_iff.1 h
  obtain ⟨c, h2, h⟩ := Option.bind_eq_some_iff.1 h
  injection h with h
  injection h with _ h
  subst h
  unfold Plansentence at h1
  obtain ⟨e, h3, h1⟩ := Option.bind_eq_some_iff.1 h1
  obtain ⟨f, h4, h1⟩ := Option.bind_eq_some_iff.1 h1
  injection h1 with h1
  subst h1
  unfold sbw at h2
  split at h2
  · injection h2 with h2; subst h2
    rw [app_list, scat_some h4, c_sent _ _ _ h3]
    rfl
  · cases h2
theorem c_txt2 : ∀ (l : List ApiStop) (y z : ByteArray) (b b' : Bool), PlanText.loop2 l y b = some (z, b') → z.data.toList = y.data.toList ++ tl (l.map fun s => (wS, numS s))
  | [], y, z, b, b', h => by rw [PlanText.loop2] at h; injection h with h; injection h with h _; subst h; simp [tl]
  | x :: r, y, z, b, b', h => by
    rw [PlanText.loop2] at h
    obtain ⟨⟨a1, a2⟩, h1, h⟩ := Option.bind_eq_some_iff.1 h
    rw [c_txt2 r _ z _ b' h, c_wr h1, List.map_cons, tl_cons]
    simp [numS]
theorem c_txt3 (w : ByteArray) (F : List (List Int) → ByteArray → Bool → Option (ByteArray × Bool)) (hn : ∀ y b, F [] y b = some (y, b)) (hc : ∀ x r y b, F (x :: r) y b = (PlanText_1_v1 w x b y).bind fun q => F r q.2 q.1) : ∀ (l : List (List Int)) (y z : ByteArray) (b b' : Bool), F l y b = some (z, b') → z.data.toList = y.data.toList ++ tl (l.map fun g => (w.data.toList, g))
  | [], y, z, b, b', h => by rw [hn] at h; injection h with h; injection h with h _; subst h; simp [tl]
  | x :: r, y, z, b, b', h => by
    rw [hc] at h
    obtain ⟨⟨a1, a2⟩, h1, h⟩ := Option.bind_eq_some_iff.1 h
    rw [c_txt3 w F hn hc r _ z _ b' h, c_wr h1, List.map_cons, tl_cons]
    simp
theorem c_txt1 : ∀ (l : List ApiTrain) (y z : ByteArray) (b b' : Bool), PlanText.loop1 l y b = some (z, b') → z.data.toList = y.data.toList ++ tl (l.flatMap trL)
  | [], y, z, b, b', h => by rw [PlanText.loop1] at h; injection h with h; injection h with h _; subst h; simp [tl]
  | t :: r, y, z, b, b', h => by
    rw [PlanText.loop1] at h
    obtain ⟨⟨a1, a2⟩, h1, h⟩ := Option.bind_eq_some_iff.1 h
    obtain ⟨⟨a3, a4⟩, h2, h⟩ := Option.bind_eq_some_iff.1 h
    dsimp only at h
    obtain ⟨⟨a5, a6⟩, h3, h⟩ := Option.bind_eq_some_iff.1 h
    dsimp only at h
    rw [c_txt1 r _ z _ b' h, c_txt3 (str wL) PlanText.loop3 (fun _ _ => rfl) (fun _ _ _ _ => rfl) _ _ _ _ _ h3, c_txt2 _ _ _ _ _ h2, c_wr h1, List.flatMap_cons, tl_app, trL, tl_cons, tl_app]
    simp
theorem c_text {d : ApiDay} {z : ByteArray} {e : Int} (h : PlanText d = some (z, e)) : (e = 0 ∧ Planform d = 0 ∧ z.data.toList = tl (dl d)) ∨ (e ≠ 0 ∧ z = str []) := by
  unfold PlanText at h
  by_cases c : (Planform d != 0) = true
  · rw [if_pos c] at h
    injection h with h
    injection h with h1 h2
    exact .inr ⟨by rw [← h2]; simpa using c, h1.symm⟩
  · rw [if_neg c] at h
    obtain ⟨⟨a1, a2⟩, h1, h⟩ := Option.bind_eq_some_iff.1 h
    dsimp only at h
    obtain ⟨⟨a3, a4⟩, h2, h⟩ := Option.bind_eq_some_iff.1 h
    dsimp only at h
    cases a4 with
    | false =>
      rw [Bool.not_false, if_pos rfl] at h
      injection h with h
      injection h with h3 h4
      exact .inr ⟨by rw [← h4]; decide, h3.symm⟩
    | true =>
      rw [Bool.not_true, if_neg (by decide)] at h
      injection h with h
      injection h with h3 h4
      subst h3
      refine .inl ⟨h4.symm, by simpa using c, ?_⟩
      rw [c_txt3 (str wU) PlanText.loop4 (fun _ _ => rfl) (fun _ _ _ _ => rfl) _ _ _ _ _ h2, c_txt1 _ _ _ _ _ h1, dl, tl_app]
      simp
/-! the document's text -/
theorem r_sent : ∀ (l : List Int) (q : ByteArray), inL inI l → q.size + (l.flatMap fun n => 32 :: Lib.itoa n).length ≤ 1000000000 → ∃ z, Fishref2DayText_1_v1.loop1 l q = some z ∧ z.data.toList = q.data.toList ++ l.flatMap fun n => 32 :: Lib.itoa n
  | [], q, _, _ => ⟨q, rfl, by simp⟩
  | x :: r, q, hi, h => by
    rw [List.flatMap_cons, List.length_append, List.length_cons] at h
    have hx := hi x (List.mem_cons_self ..)
    have hs : (tx x).size = (Lib.itoa x).length := by rw [ba_size]; rfl
    have s32 : (str [32]).size = 1 := rfl
    have e1 : (str [32] ++ tx x).size = 1 + (tx x).size := by rw [ByteArray.size_append, s32]
    have e4 : (q ++ (str [32] ++ tx x)).size = q.size + (1 + (tx x).size) := by rw [ByteArray.size_append, e1]
    obtain ⟨z, h1, h2⟩ := r_sent r (q ++ (str [32] ++ tx x)) (fun y h => hi y (List.mem_cons_of_mem _ h)) (by omega)
    refine ⟨z, ?_, ?_⟩
    · rw [Fishref2DayText_1_v1.loop1, itoa_tx hx, Option.bind_some, scat_in (by omega), Option.bind_some, scat_in (by omega), Option.bind_some]
      exact h1
    · rw [h2, app_list, app_list, List.flatMap_cons]
      simp [tx]
theorem r_line {w y : ByteArray} {l : List Int} (hi : inL inI l) (h : y.size + (ln (w.data.toList, l) ++ [10]).length ≤ 1000000000) : ∃ z, Fishref2DayText_1_v1 w l y = some z ∧ z.data.toList = y.data.toList ++ (ln (w.data.toList, l) ++ [10]) ∧ z.size = y.size + (ln (w.data.toList, l) ++ [10]).length := by
  have hl : (ln (w.data.toList, l) ++ [10]).length = w.size + (l.flatMap fun n => 32 :: Lib.itoa n).length + 1 := by rw [List.length_append, ln, List.length_append, ba_size]; rfl
  have e1 : (y ++ w).size = y.size + w.size := ByteArray.size_append
  obtain ⟨z, h1, h2⟩ := r_sent l (y ++ w) hi (by omega)
  have hz : z.size = y.size + w.size + (l.flatMap fun n => 32 :: Lib.itoa n).length := by rw [ba_size, h2, List.length_append, ← ba_size, e1]
  have s10 : (str [10]).size = 1 := rfl
  refine ⟨z ++ str [10], ?_, ?_, ?_⟩
  · rw [Fishref2DayText_1_v1, scat_in (by omega), Option.bind_some, h1, Option.bind_some, scat_in (by omega)]; rfl
  · rw [app_list, h2, app_list, ln]; simp
  · rw [ByteArray.size_append, s10, hl]; omega
theorem r_txt2 : ∀ (l : List ApiStop) (y : ByteArray), inL InApiStop l → y.size + (tl (l.map fun s => (wS, numS s))).length ≤ 1000000000 → ∃ z, Fishref2DayText.loop2 l y = some z ∧ z.data.toList = y.data.toList ++ tl (l.map fun s => (wS, numS s)) ∧ z.size = y.size + (tl (l.map fun s => (wS, numS s))).length
  | [], y, _, _ => ⟨y, rfl, by simp [tl], by simp [tl]⟩
  | x :: r, y, hi, h => by
    have hx := hi x (List.mem_cons_self ..)
    have e0 : (tl ((x :: r).map fun s => (wS, numS s))).length = (ln (wS, numS x) ++ [10]).length + (tl (r.map fun s => (wS, numS s))).length := by rw [List.map_cons, tl, List.flatMap_cons, List.length_append]; rfl
    obtain ⟨z, h1, h2, h3⟩ := r_line (w := str wS) (y := y) (l := numS x) (by
      intro v hv
      simp only [numS, List.mem_cons, List.not_mem_nil, or_false] at hv
      rcases hv with rfl | rfl | rfl | rfl
      · exact hx.1
      · exact hx.2.1
      · exact hx.2.2.1
      · exact hx.2.2.2) (by show y.size + (ln (wS, numS x) ++ [10]).length ≤ _; omega)
    obtain ⟨z2, h4, h5, h6⟩ := r_txt2 r z (fun y h => hi y (List.mem_cons_of_mem _ h)) (by rw [h3]; show y.size + (ln (wS, numS x) ++ [10]).length + _ ≤ _; omega)
    refine ⟨z2, ?_, ?_, ?_⟩
    · rw [Fishref2DayText.loop2, show [x.Station, x.Track, x.Arr, x.Dep] = numS x from rfl, h1, Option.bind_some]; exact h4
    · rw [h5, h2, List.map_cons, tl_cons]; simp
    · rw [h6, h3, e0]; show y.size + (ln (wS, numS x) ++ [10]).length + _ = _; omega
theorem r_txt3 (w : List UInt8) (F : List (List Int) → ByteArray → Option ByteArray) (hn : ∀ y, F [] y = some y) (hc : ∀ x r y, F (x :: r) y = (Fishref2DayText_1_v1 (str w) x y).bind fun q => F r q) : ∀ (l : List (List Int)) (y : ByteArray), inL (inL inI) l → y.size + (tl (l.map fun g => (w, g))).length ≤ 1000000000 → ∃ z, F l y = some z ∧ z.data.toList = y.data.toList ++ tl (l.map fun g => (w, g)) ∧ z.size = y.size + (tl (l.map fun g => (w, g))).length
  | [], y, _, _ => ⟨y, hn y, by simp [tl], by simp [tl]⟩
  | x :: r, y, hi, h => by
    have hx := hi x (List.mem_cons_self ..)
    have e0 : (tl ((x :: r).map fun g => (w, g))).length = (ln (w, x) ++ [10]).length + (tl (r.map fun g => (w, g))).length := by rw [List.map_cons, tl, List.flatMap_cons, List.length_append]; rfl
    obtain ⟨z, h1, h2, h3⟩ := r_line (w := str w) (y := y) (l := x) hx (by show y.size + (ln (w, x) ++ [10]).length ≤ _; omega)
    obtain ⟨z2, h4, h5, h6⟩ := r_txt3 w F hn hc r z (fun y h => hi y (List.mem_cons_of_mem _ h)) (by rw [h3]; show y.size + (ln (w, x) ++ [10]).length + _ ≤ _; omega)
    refine ⟨z2, ?_, ?_, ?_⟩
    · rw [hc, h1, Option.bind_some]; exact h4
    · rw [h5, h2, List.map_cons, tl_cons]; simp
    · rw [h6, h3, e0]; show y.size + (ln (w, x) ++ [10]).length + _ = _; omega
theorem r_txt1 : ∀ (l : List ApiTrain) (y : ByteArray), inL InApiTrain l → y.size + (tl (l.flatMap trL)).length ≤ 1000000000 → ∃ z, Fishref2DayText.loop1 l y = some z ∧ z.data.toList = y.data.toList ++ tl (l.flatMap trL) ∧ z.size = y.size + (tl (l.flatMap trL)).length
  | [], y, _, _ => ⟨y, rfl, by simp [tl], by simp [tl]⟩
  | t :: r, y, hi, h => by
    obtain ⟨i1, i2, i3, i4⟩ := hi t (List.mem_cons_self ..)
    have e0 : (tl ((t :: r).flatMap trL)).length = (ln (wT, [t.No, t.Stock]) ++ [10]).length + (tl (t.Stops.map fun s => (wS, numS s))).length + (tl (t.Legs.map fun g => (wL, g))).length + (tl (r.flatMap trL)).length := by
      rw [List.flatMap_cons, tl_app, trL, tl_cons, tl_app]; simp; omega
    obtain ⟨z, h1, h2, h3⟩ := r_line (w := str wT) (y := y) (l := [t.No, t.Stock]) (by
      intro v hv
      simp only [List.mem_cons, List.not_mem_nil, or_false] at hv
      rcases hv with rfl | rfl
      · exact i1
      · exact i2) (by show y.size + (ln (wT, [t.No, t.Stock]) ++ [10]).length ≤ _; omega)
    have h3' : z.size = y.size + (ln (wT, [t.No, t.Stock]) ++ [10]).length := h3
    obtain ⟨z2, k1, k2, k3⟩ := r_txt2 t.Stops z i3 (by omega)
    obtain ⟨z3, l1, l2, l3⟩ := r_txt3 wL Fishref2DayText.loop3 (fun _ => rfl) (fun _ _ _ => rfl) t.Legs z2 i4 (by omega)
    obtain ⟨z4, m1, m2, m3⟩ := r_txt1 r z3 (fun y h => hi y (List.mem_cons_of_mem _ h)) (by omega)
    refine ⟨z4, ?_, ?_, by omega⟩
    · rw [Fishref2DayText.loop1, h1, Option.bind_some, k1, Option.bind_some, l1, Option.bind_some]; exact m1
    · rw [m2, l2, k2, h2, List.flatMap_cons, tl_app, trL, tl_cons, tl_app]; simp
theorem r_text {d : ApiDay} (hi : InApiDay d) (h : (tl (dl d)).length ≤ 100000) : ∃ z, Fishref2DayText d = some z ∧ z.data.toList = tl (dl d) := by
  have e : (tl (dl d)).length = (tl (d.Trains.flatMap trL)).length + (tl (d.Turns.map fun u => (wU, u))).length := by rw [dl, tl_app, List.length_append]
  have s0 : (str []).size = 0 := rfl
  obtain ⟨z, h1, h2, h3⟩ := r_txt1 d.Trains (str []) hi.1 (by omega)
  obtain ⟨z2, k1, k2, k3⟩ := r_txt3 wU Fishref2DayText.loop4 (fun _ => rfl) (fun _ _ _ => rfl) d.Turns z hi.2 (by omega)
  exact ⟨z2, by rw [Fishref2DayText, h1, Option.bind_some, k1]; rfl, by rw [k2, h2, dl, tl_app]; rfl⟩
/-! what the program reads of it -/
theorem dig_mem {u : Nat} {b : UInt8} (h : b ∈ Lib.decDigits u) : 48 ≤ b.toNat ∧ b.toNat ≤ 57 := by
  obtain ⟨k, hk⟩ := List.getElem?_of_mem h
  obtain ⟨d, hd⟩ := Lib.digit_of_decFrom _ 0 u (decFrom_dig u) k b hk
  exact (digitVal_some.1 hd).1
theorem itoa_mem {n : Int} {b : UInt8} (h : b ∈ Lib.itoa n) : b.toNat = 45 ∨ 48 ≤ b.toNat := by
  rcases itoa_head n with ⟨_, e⟩ | ⟨_, e⟩
  · rw [e] at h
    rcases List.mem_cons.1 h with rfl | h
    · exact .inl rfl
    · exact .inr (dig_mem h).1
  · rw [e] at h; exact .inr (dig_mem h).1
theorem jn_ln (w : List UInt8) : ∀ (ns : List Int) (v : List UInt8), jn 32 (v :: ns.map Lib.itoa) = ln (v, ns)
  | [], v => by simp [jn, ln]
  | n :: ns, v => by
    have := jn_ln w ns (Lib.itoa n)
    rw [List.map_cons]
    show v ++ 32 :: jn 32 (Lib.itoa n :: ns.map Lib.itoa) = _
    rw [this]
    simp [ln]
theorem jn_tl : ∀ (L : List (List UInt8 × List Int)), L ≠ [] → tl L = jn 10 (L.map ln) ++ [10]
  | [], h => absurd rfl h
  | [p], _ => by simp [tl, jn]
  | p :: q :: r, _ => by
    rw [tl_cons, jn_tl (q :: r) (by simp)]
    show ln p ++ 10 :: (jn 10 ((q :: r).map ln) ++ [10]) = (ln p ++ 10 :: jn 10 (ln q :: r.map ln)) ++ [10]
    simp
/-- a line of a day -/
structure LineOk (p : List UInt8 × List Int) : Prop where
  word : p.1 = wT ∨ p.1 = wS ∨ p.1 = wL ∨ p.1 = wU
  nums : ∀ n ∈ p.2, 0 ≤ n ∧ n ≤ 999999
  few : p.2.length ≤ 12
theorem LineOk.no32 {p : List UInt8 × List Int} (h : LineOk p) : ∀ a ∈ p.1 :: p.2.map Lib.itoa, (32 : UInt8) ∉ a := by
  intro a ha hm
  rcases List.mem_cons.1 ha with rfl | ha
  · rcases h.word with e | e | e | e <;> rw [e] at hm <;> simp at hm
  · obtain ⟨n, _, rfl⟩ := List.mem_map.1 ha
    rcases itoa_mem hm with h | h
    · exact absurd h (by decide)
    · exact absurd h (by decide)
theorem LineOk.no10 {p : List UInt8 × List Int} (h : LineOk p) : (10 : UInt8) ∉ ln p := by
  intro hm
  unfold ln at hm
  rcases List.mem_append.1 hm with hm | hm
  · rcases h.word with e | e | e | e <;> rw [e] at hm <;> simp at hm
  · obtain ⟨n, _, hm⟩ := List.mem_flatMap.1 hm
    rcases List.mem_cons.1 hm with e | hm
    · exact absurd e (by decide)
    · rcases itoa_mem hm with h | h
      · exact absurd h (by decide)
      · exact absurd h (by decide)
theorem itoa_len6 {n : Int} (h : 0 ≤ n ∧ n ≤ 999999) : (Lib.itoa n).length ≤ 6 := by
  rcases itoa_head n with ⟨k, _⟩ | ⟨_, e⟩
  · omega
  · rw [e, Lib.decDigits_length]; exact ndig_le.2 (by omega)
theorem nums_len : ∀ ns : List Int, (∀ n ∈ ns, 0 ≤ n ∧ n ≤ 999999) → (ns.flatMap fun n => 32 :: Lib.itoa n).length ≤ 7 * ns.length
  | [], _ => by simp
  | n :: ns, h => by
    have h1 := itoa_len6 (h n (by simp))
    have h2 := nums_len ns (fun x hx => h x (by simp [hx]))
    rw [List.flatMap_cons, List.length_append, List.length_cons, List.length_cons]; omega
theorem LineOk.len {p : List UInt8 × List Int} (h : LineOk p) : (ln p).length ≤ 5 + 7 * p.2.length := by
  have h2 := nums_len p.2 h.nums
  unfold ln
  rw [List.length_append]
  rcases h.word with e | e | e | e <;> rw [e] <;> simp only [List.length_cons, List.length_nil] <;> omega
def wds (p : List UInt8 × List Int) : List ByteArray := str p.1 :: p.2.map tx
theorem LineOk.words {p : List UInt8 × List Int} (h : LineOk p) : splitq (str (ln p)) (str [32]) = some (wds p) := by
  have hl := h.len
  have hf := h.few
  have e := splitq_jn 32 (p.1 :: p.2.map Lib.itoa) (str (ln p)) (by simp) h.no32 (by rw [jn_ln []]) (by rw [ba_size]; show (ln p).length ≤ 30000; omega)
  rw [e]
  unfold wds
  rw [List.map_cons, List.map_map]
  rfl
theorem p_nums : ∀ (ns acc : List Int), (∀ n ∈ ns, 0 ≤ n ∧ n ≤ 999999) → acc.length + ns.length < 100000 → LineNumbers.loop1 (ns.map tx) acc = some (.next (acc ++ ns)) ∧ PlanRead.loop2 (ns.map tx) true = some true
  | [], acc, _, _ => ⟨by simp [LineNumbers.loop1], rfl⟩
  | n :: ns, acc, h, hl => by
    simp only [List.length_cons] at hl
    have hn := h n (by simp)
    have hnum : Num6 (tx n).data.toList n := ⟨by omega, rfl⟩
    obtain ⟨v, b, q, h1, h2, h3⟩ := prog_num (tx n) (by have := tx_size (n := n) (by omega); omega)
    rcases h3 with ⟨rfl, h4, h5⟩ | ⟨_, h5⟩
    · obtain rfl : v = n := by
        have e := atoi_itoa v
        rw [← h5.2, hnum.2, atoi_itoa n] at e
        exact (Option.some.inj e).symm
      obtain ⟨k1, k2⟩ := p_nums ns (acc ++ [v]) (fun x hx => h x (by simp [hx])) (by simp; omega)
      constructor
      · rw [List.map_cons, LineNumbers.loop1, h1, Option.bind_some]
        simp only [Bool.not_true, Bool.false_eq_true, if_false]
        rw [apd_lt (by simp; omega), Option.bind_some, k1]; simp
      · rw [List.map_cons, PlanRead.loop2, if_pos rfl, h2, Option.bind_some, Option.bind_some, decide_eq_true (by omega)]
        exact k2
    · exact absurd hnum (h5 n)
theorem p_step {W : List (List ByteArray)} {k n : Nat} {ph ph2 : Int} {T T2 : List ApiTrain} {U U2 : List (List Int)} {p : List UInt8 × List Int} (hp : LineOk p) (hW : W[k]? = some (wds p)) (h : Planadd_v1 (str p.1) p.2 ph ⟨T, U⟩ = some (ph2, true, T2, U2)) :
    PlanRead.loop1 (W, true) (n + 1) k ph [] [] T U = PlanRead.loop1 (W, true) n (k + 1) ph2 [] [] T2 U2 := by
  obtain ⟨k1, k2⟩ := p_nums p.2 [] hp.nums (by have := hp.few; simp; omega)
  rw [PlanRead.loop1]
  simp only
  rw [gx_nat, hW, Option.bind_some, wds, cut_tl, Option.bind_some, LineNumbers, k1, Option.bind_some, Option.bind_some]
  simp only [List.nil_append, Option.bind_some]
  rw [k2, Option.bind_some, Bool.not_true, if_neg (by decide), show gx (str p.1 :: p.2.map tx) 0 = some (str p.1) from rfl, Option.bind_some, h, Option.bind_some]
  rfl
/-! lines, one after the other -/
theorem drop_head {α : Type} {l r : List α} {k : Nat} {x : α} (h : l.drop k = x :: r) : l[k]? = some x ∧ l.drop (k + 1) = r := by
  have hk : k < l.length := by
    rcases Nat.lt_or_ge k l.length with c | c
    · exact c
    · rw [List.drop_eq_nil_of_le c] at h; cases h
  rw [List.drop_eq_getElem_cons hk] at h
  injection h with h1 h2
  exact ⟨by rw [List.getElem?_eq_getElem hk, h1], h2⟩
section
variable {W : List (List ByteArray)}
theorem run_stops {T0 : List ApiTrain} (hT : T0.length < 50) : ∀ (ss : List ApiStop) (t : ApiTrain) (k n : Nat) (more : List (List ByteArray)), t.Stops.length + ss.length < 50 → (∀ s ∈ ss, LineOk (wS, numS s)) → W.drop k = ss.map (fun s => wds (wS, numS s)) ++ more →
    PlanRead.loop1 (W, true) (ss.length + n) k 1 [] [] (T0 ++ [t]) [] = PlanRead.loop1 (W, true) n (k + ss.length) 1 [] [] (T0 ++ [⟨t.No, t.Stock, t.Stops ++ ss, t.Legs⟩]) [] ∧ W.drop (k + ss.length) = more
  | [], t, k, n, more, _, _, hd => ⟨by simp, by simpa using hd⟩
  | s :: ss, t, k, n, more, hl, ho, hd => by
    simp only [List.length_cons] at hl
    rw [List.map_cons, List.cons_append] at hd
    obtain ⟨h1, h2⟩ := drop_head hd
    obtain ⟨k1, k2⟩ := run_stops hT ss ⟨t.No, t.Stock, t.Stops ++ [s], t.Legs⟩ (k + 1) n more (by simp; omega) (fun x hx => ho x (by simp [hx])) h2
    have hp : Planadd_v1 (str wS) (numS s) 1 ⟨T0 ++ [t], []⟩ = some (1, true, T0 ++ [⟨t.No, t.Stock, t.Stops ++ [s], t.Legs⟩], []) := padd_stop s.Station s.Track s.Arr s.Dep T0 t [] (by omega) (by omega)
    refine ⟨?_, ?_⟩
    · rw [show (s :: ss).length + n = (ss.length + n) + 1 by simp; omega, p_step (ho s (by simp)) h1 hp, k1]
      simp only [List.append_assoc, List.cons_append, List.nil_append, List.length_cons]
      congr 1
      omega
    · rw [← k2]; congr 1; simp; omega
theorem run_legs {T0 : List ApiTrain} (hT : T0.length < 50) : ∀ (gs : List (List Int)) (t : ApiTrain) (ph : Int) (k n : Nat) (more : List (List ByteArray)), t.Legs.length + gs.length < 50 → (ph = 1 ∨ ph = 2) → (∀ g ∈ gs, LineOk (wL, g) ∧ 0 < g.length) → W.drop k = gs.map (fun g => wds (wL, g)) ++ more →
    ∃ ph', (ph' = 1 ∨ ph' = 2) ∧ PlanRead.loop1 (W, true) (gs.length + n) k ph [] [] (T0 ++ [t]) [] = PlanRead.loop1 (W, true) n (k + gs.length) ph' [] [] (T0 ++ [⟨t.No, t.Stock, t.Stops, t.Legs ++ gs⟩]) [] ∧ W.drop (k + gs.length) = more
  | [], t, ph, k, n, more, _, hp, _, hd => ⟨ph, hp, by simp, by simpa using hd⟩
  | g :: gs, t, ph, k, n, more, hl, hp, ho, hd => by
    simp only [List.length_cons] at hl
    rw [List.map_cons, List.cons_append] at hd
    obtain ⟨h1, h2⟩ := drop_head hd
    obtain ⟨ph', k0, k1, k2⟩ := run_legs hT gs ⟨t.No, t.Stock, t.Stops, t.Legs ++ [g]⟩ 2 (k + 1) n more (by simp; omega) (.inr rfl) (fun x hx => ho x (by simp [hx])) h2
    have hg := ho g (by simp)
    have hq : Planadd_v1 (str wL) g ph ⟨T0 ++ [t], []⟩ = some (2, true, T0 ++ [⟨t.No, t.Stock, t.Stops, t.Legs ++ [g]⟩], []) := padd_leg g hg.2 ph hp T0 t [] (by omega) (by omega)
    refine ⟨ph', k0, ?_, ?_⟩
    · rw [show (g :: gs).length + n = (gs.length + n) + 1 by simp; omega, p_step hg.1 h1 hq, k1]
      simp only [List.append_assoc, List.cons_append, List.nil_append, List.length_cons]
      congr 1
      omega
    · rw [← k2]; congr 1; simp; omega
/-- what is asked of a train -/
def TrOk (t : ApiTrain) : Prop := LineOk (wT, [t.No, t.Stock]) ∧ (∀ s ∈ t.Stops, LineOk (wS, numS s)) ∧ (∀ g ∈ t.Legs, LineOk (wL, g) ∧ 0 < g.length) ∧ t.Stops.length < 50 ∧ t.Legs.length < 50
theorem run_trains : ∀ (ts : List ApiTrain) (T : List ApiTrain) (ph : Int) (k n : Nat) (more : List (List ByteArray)), T.length + ts.length < 50 → ph < 3 → (∀ t ∈ ts, TrOk t) → W.drop k = (ts.flatMap trL).map wds ++ more →
    ∃ ph', ph' < 3 ∧ PlanRead.loop1 (W, true) ((ts.flatMap trL).length + n) k ph [] [] T [] = PlanRead.loop1 (W, true) n (k + (ts.flatMap trL).length) ph' [] [] (T ++ ts) [] ∧ W.drop (k + (ts.flatMap trL).length) = more
  | [], T, ph, k, n, more, _, hp, _, hd => ⟨ph, hp, by simp, by simpa using hd⟩
  | t :: ts, T, ph, k, n, more, hl, hp, ho, hd => by
    simp only [List.length_cons] at hl
    obtain ⟨o1, o2, o3, o4, o5⟩ := ho t (by simp)
    have e0 : ((t :: ts).flatMap trL).map wds ++ more = wds (wT, [t.No, t.Stock]) :: (t.Stops.map (fun s => wds (wS, numS s)) ++ (t.Legs.map (fun g => wds (wL, g)) ++ ((ts.flatMap trL).map wds ++ more))) := by
      rw [List.flatMap_cons, trL]
      simp [List.map_map, Function.comp_def]
    rw [e0] at hd
    obtain ⟨h1, h2⟩ := drop_head hd
    have hq : Planadd_v1 (str wT) [t.No, t.Stock] ph ⟨T, []⟩ = some (1, true, T ++ [⟨t.No, t.Stock, [], []⟩], []) := padd_train t.No t.Stock ph hp T [] (by omega)
    have len : ((t :: ts).flatMap trL).length = 1 + t.Stops.length + t.Legs.length + (ts.flatMap trL).length := by rw [List.flatMap_cons, trL]; simp; omega
    obtain ⟨a1, a2⟩ := run_stops (T0 := T) (by omega) t.Stops ⟨t.No, t.Stock, [], []⟩ (k + 1) (t.Legs.length + ((ts.flatMap trL).length + n)) _ (by simpa using o4) o2 h2
    obtain ⟨ph1, b0, b1, b2⟩ := run_legs (T0 := T) (by omega) t.Legs ⟨t.No, t.Stock, [] ++ t.Stops, []⟩ 1 (k + 1 + t.Stops.length) ((ts.flatMap trL).length + n) _ (by simpa using o5) (.inl rfl) o3 a2
    obtain ⟨ph2, c0, c1, c2⟩ := run_trains ts (T ++ [t]) ph1 (k + 1 + t.Stops.length + t.Legs.length) n more (by simp; omega) (by omega) (fun x hx => ho x (by simp [hx])) b2
    refine ⟨ph2, c0, ?_, ?_⟩
    · rw [len, show 1 + t.Stops.length + t.Legs.length + (ts.flatMap trL).length + n = (t.Stops.length + (t.Legs.length + ((ts.flatMap trL).length + n))) + 1 by omega, p_step o1 h1 hq, a1, b1]
      simp only [List.nil_append]
      rw [c1]
      simp only [List.append_assoc, List.cons_append, List.nil_append]
      congr 1
      omega
    · rw [← c2, len]; congr 1; omega
theorem run_turns {T : List ApiTrain} (hT : T.length < 50) : ∀ (us : List (List Int)) (U : List (List Int)) (ph : Int) (k : Nat), U.length + us.length < 50 → (∀ u ∈ us, LineOk (wU, u) ∧ 0 < u.length) → W.drop k = us.map (fun u => wds (wU, u)) →
    ∃ ph', PlanRead.loop1 (W, true) us.length k ph [] [] T U = some (.next (ph', [], [], T, U ++ us))
  | [], U, ph, k, _, _, _ => ⟨ph, by simp [PlanRead.loop1]⟩
  | u :: us, U, ph, k, hl, ho, hd => by
    simp only [List.length_cons] at hl
    rw [List.map_cons] at hd
    obtain ⟨h1, h2⟩ := drop_head hd
    have hu := ho u (by simp)
    obtain ⟨ph', k1⟩ := run_turns hT us (U ++ [u]) 3 (k + 1) (by simp; omega) (fun x hx => ho x (by simp [hx])) h2
    have hq : Planadd_v1 (str wU) u ph ⟨T, U⟩ = some (3, true, T, U ++ [u]) := padd_turn u hu.2 ph T U (by omega) (by omega)
    refine ⟨ph', ?_⟩
    rw [List.length_cons, p_step hu.1 h1 hq, k1]
    simp
end
theorem p_lines_loop {L : List (List UInt8 × List Int)} (ho : ∀ p ∈ L, LineOk p) (hl : L.length < 30000) : ∀ (n k : Nat) (q : List (List ByteArray)), k + n = L.length → q.length ≤ k → LineLines.loop1 (L.map fun p => str (ln p)) n k q = some (q ++ (L.drop k).map wds)
  | 0, k, q, hk, _ => by rw [List.drop_eq_nil_of_le (by omega)]; simp [LineLines.loop1]
  | n + 1, k, q, hk, hq => by
    have hkL : k < L.length := by omega
    have hg : gx (L.map fun p => str (ln p)) ((k : Nat) : Int) = some (str (ln L[k])) := by rw [gx_nat, List.getElem?_map, List.getElem?_eq_getElem hkL]; rfl
    rw [LineLines.loop1, hg, Option.bind_some, (ho _ (List.getElem_mem hkL)).words, Option.bind_some, apd_lt (by simp; omega), Option.bind_some, p_lines_loop ho hl n (k + 1) _ (by omega) (by simp; omega), List.drop_eq_getElem_cons hkL, List.map_cons]
    simp
theorem p_lines {L : List (List UInt8 × List Int)} {s : ByteArray} (ho : ∀ p ∈ L, LineOk p) (hl : L.length < 30000) (hs : s.data.toList = tl L) (hz : s.size ≤ 20000) : LineLines s = some (L.map wds, true) := by
  unfold LineLines
  by_cases h0 : L = []
  · subst h0
    have : seq s (str []) = true := (seq_iff _ _).2 (by rw [hs]; rfl)
    rw [this, if_pos rfl]; rfl
  · have hj := jn_tl L h0
    rw [hj] at hs
    have hlen : s.size = (jn 10 (L.map ln)).length + 1 := by rw [ba_size, hs, List.length_append]; rfl
    have hne : seq s (str []) = false := Bool.eq_false_iff.2 fun h => by
      have e := (seq_iff _ _).1 h
      rw [hs] at e
      simp at e
    have e : w64 (((s.size : Nat) : Int) - ((1 : Nat) : Int)) = ((s.size - 1 : Nat) : Int) := by rw [w64_id (by omega)]; omega
    have hs1 : (str [10]).size = 1 := rfl
    have hc1 : scut s ((s.size - 1 : Nat) : Int) ((s.size : Nat) : Int) = some (s.extract (s.size - 1) s.size) := by unfold scut; rw [if_pos (by omega)]; rfl
    have hc2 : scut s 0 ((s.size - 1 : Nat) : Int) = some (s.extract 0 (s.size - 1)) := by unfold scut; rw [if_pos (by omega)]; rfl
    have hsuf : InternalStringsliteHasSuffix s (str [10]) = some true := by
      unfold InternalStringsliteHasSuffix
      rw [hs1, if_pos (by simp; omega), e, hc1, Option.bind_some, Option.bind_some]
      congr 1
      rw [seq_iff, cut_list, List.take_of_length_le (by rw [← ba_size]; exact Nat.le_refl _), hs, hlen, Nat.add_sub_cancel, List.drop_left]
    have hbody : (s.extract 0 (s.size - 1)).data.toList = jn 10 (L.map ln) := by
      rw [cut_list, hs, hlen, Nat.add_sub_cancel, List.take_left, List.drop_zero]
    have hcs : StringsCutSuffix s (str [10]) = some (s.extract 0 (s.size - 1), true) := by
      unfold StringsCutSuffix InternalStringsliteCutSuffix
      rw [hsuf, Option.bind_some, hs1]
      simp only [Bool.not_true, Bool.false_eq_true, if_false]
      rw [e, hc2]; rfl
    have hsp := splitq_jn 10 (L.map ln) (s.extract 0 (s.size - 1)) (by simpa using h0) (fun a ha => by
      obtain ⟨p, hp, rfl⟩ := List.mem_map.1 ha
      exact (ho p hp).no10) hbody (by rw [ba_size, hbody]; omega)
    rw [List.map_map] at hsp
    rw [hne, if_neg (by decide), hcs, Option.bind_some]
    simp only
    rw [hsp, Option.bind_some]
    have := p_lines_loop ho hl L.length 0 [] (by omega) (by simp)
    rw [show (str ∘ ln) = (fun p => str (ln p)) from rfl, List.length_map, this, Option.bind_some]
    simp
/-! all of it -/
theorem f2_ne : ∀ l, Planform.loop2 l = .next () → ∀ g ∈ l, 0 < g.length
  | [], _, g, hg => by simp at hg
  | x :: r, h, g, hg => by
    rw [Planform.loop2] at h
    by_cases c : x.length = 0
    · rw [if_pos (by rw [beq_iff_eq]; omega)] at h; cases h
    · rw [if_neg (by rw [beq_iff_eq]; omega)] at h
      rcases List.mem_cons.1 hg with rfl | hg
      · omega
      · exact f2_ne r h g hg
theorem f4_ne : ∀ l, Planform.loop4 l = .next () → ∀ g ∈ l, 0 < g.length
  | [], _, g, hg => by simp at hg
  | x :: r, h, g, hg => by
    rw [Planform.loop4] at h
    by_cases c : x.length = 0
    · rw [if_pos (by rw [beq_iff_eq]; omega)] at h; cases h
    · rw [if_neg (by rw [beq_iff_eq]; omega)] at h
      by_cases c2 : decide (((x.length : Nat) : Int) > 12) = true
      · rw [if_pos c2] at h; cases h
      · rw [if_neg c2] at h
        rcases List.mem_cons.1 hg with rfl | hg
        · omega
        · exact f4_ne r h g hg
theorem f1_ne : ∀ l, Planform.loop1 l = .next () → ∀ t ∈ l, ∀ g ∈ t.Legs, 0 < g.length
  | [], _, t, ht => by simp at ht
  | x :: r, h, t, ht => by
    rw [Planform.loop1, bnd_eq] at h
    cases c1 : (if (((x.Stops).length : Int) == 0) = true then true else (((x.Legs).length : Int) != (w64 (((x.Stops).length : Int) - 1)))) with
    | true => rw [c1, if_pos rfl] at h; cases h
    | false =>
      rw [c1, if_neg (by decide), bnd_eq] at h
      cases c2 : Planform.loop2 x.Legs with
      | ret e => rw [c2] at h; cases h
      | next u =>
        rw [c2] at h
        dsimp only at h
        by_cases c3 : decide (((x.Stops.length : Nat) : Int) > 8) = true
        · rw [if_pos c3] at h; cases h
        · rw [if_neg c3, bnd_eq] at h
          cases c4 : Planform.loop3 x.Legs with
          | ret e => rw [c4] at h; cases h
          | next u =>
            rw [c4] at h
            dsimp only at h
            rcases List.mem_cons.1 ht with rfl | ht
            · exact f2_ne _ c2
            · exact f1_ne r h t ht
theorem form_ne {d : ApiDay} (h : Planform d = 0) : (∀ t ∈ d.Trains, ∀ g ∈ t.Legs, 0 < g.length) ∧ ∀ u ∈ d.Turns, 0 < u.length := by
  rw [Planform] at h
  simp only [bnd_eq] at h
  cases c0 : (if decide (((d.Trains).length : Int) > 12) = true then true else decide (((d.Turns).length : Int) > 8)) with
  | true => rw [c0] at h; simp at h
  | false =>
    rw [c0] at h
    simp only [Bool.false_eq_true, if_false] at h
    rcases form1_out d.Trains with ⟨e, he, hh⟩ | ⟨h1, _⟩
    · rw [hh] at h; exact absurd h he
    · rw [h1] at h
      dsimp only at h
      rcases form4_out d.Turns with ⟨e, he, hh⟩ | ⟨h4, _⟩
      · rw [hh] at h; exact absurd h he
      · exact ⟨f1_ne _ h1, f4_ne _ h4⟩
theorem wi_iff (x : Int) : wi x = true ↔ 0 ≤ x ∧ x ≤ 999999 := by
  unfold wi Planwithin
  rw [bnd_eq]
  by_cases h : x ≥ 0
  · simp [h]
  · simp [h]
/-- all numbers are within the bounds, where there is a text -/
theorem text_nums {d : ApiDay} (hi : InApiDay d) (hf : dayForm d) {z : ByteArray} (h0 : Planform d = 0) (h : PlanText d = some (z, 0)) : (∀ g ∈ d.Trains.flatMap numT, ∀ n ∈ g, 0 ≤ n ∧ n ≤ 999999) ∧ ∀ g ∈ d.Turns, ∀ n ∈ g, 0 ≤ n ∧ n ≤ 999999 := by
  obtain ⟨k1, k2, k3, k4⟩ := hf
  obtain ⟨z1, h1, h2⟩ := txt1 d.Trains ByteArray.empty true hi.1 k3 (by simp; omega)
  have h2' : z1.size ≤ 1700 * d.Trains.length := by simpa using h2
  obtain ⟨z2, h3, h4⟩ := txt3 (str [116, 117, 114, 110]) (by decide) PlanText.loop4 (fun _ _ => rfl) (fun _ _ _ _ => rfl) 12 (by omega) d.Turns z1 (true && (d.Trains.flatMap numT).all (·.all wi)) hi.2 k4 (by omega)
  rw [PlanText, if_neg (by simp [h0]), h1, Option.bind_some] at h
  dsimp only at h
  rw [h3, Option.bind_some] at h
  dsimp only at h
  cases hA : (d.Trains.flatMap numT).all (·.all wi) with
  | false => rw [hA] at h; simp at h
  | true =>
    cases hB : d.Turns.all (·.all wi) with
    | false => rw [hA, hB] at h; simp at h
    | true =>
      refine ⟨fun g hg n hn => ?_, fun g hg n hn => ?_⟩
      · exact (wi_iff n).1 (List.all_eq_true.1 (List.all_eq_true.1 hA g hg) n hn)
      · exact (wi_iff n).1 (List.all_eq_true.1 (List.all_eq_true.1 hB g hg) n hn)
theorem tl_len : ∀ L : List (List UInt8 × List Int), (∀ p ∈ L, LineOk p) → (tl L).length ≤ 90 * L.length
  | [], _ => by simp [tl]
  | p :: L, h => by
    have h1 := (h p (by simp)).len
    have h2 := (h p (by simp)).few
    have h3 := tl_len L (fun x hx => h x (by simp [hx]))
    rw [tl_cons, List.length_append, List.length_cons, List.length_cons]; omega
theorem trL_len {t : ApiTrain} (h : trainForm t) : (trL t).length ≤ 16 := by
  obtain ⟨h1, h2, h3, _⟩ := h
  rw [trL]; simp; omega
theorem trs_len : ∀ l : List ApiTrain, (∀ t ∈ l, trainForm t) → (l.flatMap trL).length ≤ 16 * l.length
  | [], _ => by simp
  | t :: l, h => by
    have h1 := trL_len (h t (by simp))
    have h2 := trs_len l (fun x hx => h x (by simp [hx]))
    rw [List.flatMap_cons, List.length_append, List.length_cons]; omega
theorem plans_ok : Fishlaw2plans = some true := by kernel_rfl
theorem PlanTexts_law (x0 : ApiDay) (_h0 : x0.Trains.length ≤ 9223372036854775807) (_h1 : x0.Turns.length ≤ 9223372036854775807) (i0 : InApiDay x0) : Fishlaw2PlanTexts x0 = some true := by
  obtain ⟨e, b, h1, h2, h3⟩ := text_ok i0
  rw [Fishlaw2PlanTexts, h2, h1, plans_ok]
  simp only [Option.bind_some]
  rcases c_text h2 with ⟨rfl, hform, hz⟩ | ⟨he, rfl⟩
  · have hf := h3 rfl
    obtain ⟨n1, n2⟩ := text_nums i0 hf hform h2
    obtain ⟨ne1, ne2⟩ := form_ne hform
    obtain ⟨f1, f2, f3, f4⟩ := hf
    have okT : ∀ t ∈ x0.Trains, TrOk t := fun t ht => by
      obtain ⟨g1, g2, g3, g4⟩ := f3 t ht
      have hm : ∀ g ∈ numT t, ∀ n ∈ g, 0 ≤ n ∧ n ≤ 999999 := fun g hg => n1 g (List.mem_flatMap.2 ⟨t, ht, hg⟩)
      refine ⟨⟨.inl rfl, hm _ (by simp [numT]), by simp⟩, fun s hs => ⟨.inr (.inl rfl), hm _ (by simp [numT]; exact .inr (.inl ⟨s, hs, rfl⟩)), by simp [numS]⟩, fun g hg => ⟨⟨.inr (.inr (.inl rfl)), hm g (by simp [numT, hg]), by have := g4 g hg; show g.length ≤ 12; omega⟩, ne1 t ht g hg⟩, by omega, by omega⟩
    have okU : ∀ u ∈ x0.Turns, LineOk (wU, u) ∧ 0 < u.length := fun u hu => ⟨⟨.inr (.inr (.inr rfl)), n2 u hu, f4 u hu⟩, ne2 u hu⟩
    have okL : ∀ p ∈ dl x0, LineOk p := fun p hp => by
      rcases List.mem_append.1 hp with hp | hp
      · obtain ⟨t, ht, hp⟩ := List.mem_flatMap.1 hp
        obtain ⟨o1, o2, o3, _⟩ := okT t ht
        rcases List.mem_cons.1 hp with rfl | hp
        · exact o1
        · rcases List.mem_append.1 hp with hp | hp
          · obtain ⟨s, hs, rfl⟩ := List.mem_map.1 hp; exact o2 s hs
          · obtain ⟨g, hg, rfl⟩ := List.mem_map.1 hp; exact (o3 g hg).1
      · obtain ⟨u, hu, rfl⟩ := List.mem_map.1 hp
        exact (okU u hu).1
    have hdl : (dl x0).length ≤ 200 := by
      have := trs_len x0.Trains f3
      rw [dl, List.length_append, List.length_map]; omega
    have htl := tl_len (dl x0) okL
    obtain ⟨z, r1, r2⟩ := r_text i0 (by omega)
    obtain rfl : z = b := ba_ext (by rw [r2, hz])
    have hsz : z.size ≤ 20000 := by rw [ba_size, hz]; omega
    have hlines := p_lines okL (by omega) hz hsz
    have hW : (dl x0).map wds = (x0.Trains.flatMap trL).map wds ++ x0.Turns.map (fun u => wds (wU, u)) := by rw [dl, List.map_append, List.map_map]; rfl
    have hread : PlanRead z = some (x0, 0) := by
      obtain ⟨ph1, _, a1, a2⟩ := run_trains (W := (dl x0).map wds) x0.Trains [] 0 0 x0.Turns.length (x0.Turns.map (fun u => wds (wU, u))) (by simp; omega) (by decide) okT (by rw [List.drop_zero, hW])
      obtain ⟨ph2, b1⟩ := run_turns (W := (dl x0).map wds) (T := [] ++ x0.Trains) (by simp; omega) x0.Turns [] ph1 _ (by simp; omega) okU a2
      unfold PlanRead
      rw [if_neg (by simp; omega), hlines, Option.bind_some]
      simp only [Bool.not_true, Bool.false_eq_true, if_false]
      rw [show ((dl x0).map wds).length = (x0.Trains.flatMap trL).length + x0.Turns.length by rw [List.length_map, dl, List.length_append, List.length_map], a1, b1, Option.bind_some]
      simp only [List.nil_append]
      rw [h2, Option.bind_some]
      rfl
    rw [hread, r1]
    simp only [bne_self_eq_false, Bool.false_eq_true, if_false, Option.bind_some, if_true, beq_self_eq_true, (seq_iff z z).2 rfl, day_self]
  · have hb : (e != 0) = true := by simpa using he
    simp only [hb, if_true, beq_self_eq_true, Option.bind_some, (seq_iff (str []) (str [])).2 rfl]
end Go.Fp
