/- PlanReads: the mirror of the law is true of all texts. -/
import Derived.Test.YtledekclojpbbaaDoorPlanReadsM
import Derived.Test.YtledekclojpbbaaDoorFpPlain
import Derived.Lib.ItoaLen
import Derived.Lib.AtoiTie
import Derived.Lib.SplitLaws
import Derived.Lib.ItoaMem
import Derived.Lib.AtoiAllCases
import Derived.KernelRfl
namespace Go.Fp
/-! texts of numbers -/
/-- a number's text -/
def tx (n : Int) : ByteArray := ⟨(Lib.itoa n).toArray⟩
theorem itoa_tx {n : Int} (h : -9223372036854775808 ≤ n ∧ n ≤ 9223372036854775807) : itoa n = some (tx n) := by unfold itoa; rw [if_pos h]; rfl
theorem tx_size {n : Int} (h : -9223372036854775808 ≤ n ∧ n ≤ 9223372036854775807) : (tx n).size ≤ 21 := by
  have := Lib.itoa_length_le n h.1 h.2
  unfold tx
  show ((Lib.itoa n).toArray).size ≤ 21
  simpa using this
theorem scat_in {a b : ByteArray} (h : a.size + b.size ≤ 9223372036854775807) : scat a b = some (a ++ b) := by unfold scat; rw [if_pos h]
theorem sbw_in {y x : ByteArray} (h0 : 0 < x.size) (h : y.size + x.size < 4294967296) : sbw y x = some (y ++ x) := by unfold sbw; rw [if_pos ⟨h0, h⟩]
/-! days: what Text says, what Check says -/
def wi (x : Int) : Bool := Planwithin x 0 999999
theorem form2 : ∀ l, Fishref2TextFault.loop2 l = Planform.loop2 l
  | [] => rfl
  | x :: r => by simp only [Fishref2TextFault.loop2, Planform.loop2, form2 r]
theorem form3 : ∀ l, Fishref2TextFault.loop3 l = Planform.loop3 l
  | [] => rfl
  | x :: r => by simp only [Fishref2TextFault.loop3, Planform.loop3, form3 r]
theorem form4 : ∀ l, Fishref2TextFault.loop4 l = Planform.loop4 l
  | [] => rfl
  | x :: r => by simp only [Fishref2TextFault.loop4, Planform.loop4, form4 r]
theorem form1 : ∀ l, Fishref2TextFault.loop1 l = Planform.loop1 l
  | [] => rfl
  | x :: r => by simp only [Fishref2TextFault.loop1, Planform.loop1, form1 r, form2, form3]

def trainForm (t : ApiTrain) : Prop := 1 ≤ t.Stops.length ∧ t.Stops.length ≤ 8 ∧ t.Legs.length + 1 = t.Stops.length ∧ ∀ g ∈ t.Legs, g.length ≤ 4
def dayForm (d : ApiDay) : Prop := d.Trains.length ≤ 12 ∧ d.Turns.length ≤ 8 ∧ (∀ t ∈ d.Trains, trainForm t) ∧ ∀ g ∈ d.Turns, g.length ≤ 12
theorem form3_out : ∀ l, (Planform.loop3 l = .ret 4) ∨ (Planform.loop3 l = .next () ∧ ∀ g ∈ l, g.length ≤ 4)
  | [] => .inr ⟨rfl, by simp⟩
  | x :: r => by
    rw [Planform.loop3]
    by_cases c : ((x.length : Nat) : Int) > 4
    · rw [if_pos (by simpa using c)]; exact .inl rfl
    · rw [if_neg (by simpa using c)]
      rcases form3_out r with h | ⟨h, k⟩
      · exact .inl h
      · refine .inr ⟨h, ?_⟩
        intro g hg
        rcases List.mem_cons.1 hg with rfl | hg
        · omega
        · exact k g hg
theorem form2_out : ∀ l, (Planform.loop2 l = .ret 1) ∨ (Planform.loop2 l = .next ())
  | [] => .inr rfl
  | x :: r => by
    rw [Planform.loop2]
    split
    · exact .inl rfl
    · exact form2_out r
theorem form4_out : ∀ l, (∃ e, e ≠ 0 ∧ Planform.loop4 l = .ret e) ∨ (Planform.loop4 l = .next () ∧ ∀ g ∈ l, g.length ≤ 12)
  | [] => .inr ⟨rfl, by simp⟩
  | x :: r => by
    rw [Planform.loop4]
    split
    · exact .inl ⟨1, by decide, rfl⟩
    · by_cases c : ((x.length : Nat) : Int) > 12
      · rw [if_pos (by simpa using c)]; exact .inl ⟨4, by decide, rfl⟩
      · rw [if_neg (by simpa using c)]
        rcases form4_out r with h | ⟨h, k⟩
        · exact .inl h
        · refine .inr ⟨h, ?_⟩
          intro g hg
          rcases List.mem_cons.1 hg with rfl | hg
          · omega
          · exact k g hg
theorem form1_out : ∀ l, (∃ e, e ≠ 0 ∧ Planform.loop1 l = .ret e) ∨ (Planform.loop1 l = .next () ∧ ∀ t ∈ l, trainForm t)
  | [] => .inr ⟨rfl, by simp⟩
  | x :: r => by
    rw [Planform.loop1, bnd_eq]
    generalize hq : (if (((x.Stops).length : Int) == 0) = true then true else (((x.Legs).length : Int) != (w64 (((x.Stops).length : Int) - 1)))) = q
    cases q with
    | true => exact .inl ⟨1, by decide, rfl⟩
    | false =>
      rw [if_neg (by decide), bnd_eq]
      rcases form2_out x.Legs with h | h
      · rw [h]; exact .inl ⟨1, by decide, rfl⟩
      · rw [h]
        dsimp only
        by_cases c : ((x.Stops.length : Nat) : Int) > 8
        · rw [if_pos (by simpa using c)]; exact .inl ⟨4, by decide, rfl⟩
        · rw [if_neg (by simpa using c), bnd_eq]
          rcases form3_out x.Legs with h3 | ⟨h3, k3⟩
          · rw [h3]; exact .inl ⟨4, by decide, rfl⟩
          · rw [h3]
            dsimp only
            rcases form1_out r with h1 | ⟨h1, k1⟩
            · exact .inl h1
            · refine .inr ⟨h1, ?_⟩
              intro t ht
              rcases List.mem_cons.1 ht with rfl | ht
              · split at hq
                · cases hq
                · rename_i hz
                  rw [w64_id (by omega)] at hq
                  have hq2 : ((t.Legs.length : Nat) : Int) = ((t.Stops.length : Nat) : Int) - 1 := by simpa using hq
                  have hz2 : ¬ t.Stops.length = 0 := by simpa using hz
                  exact ⟨by omega, by omega, by omega, k3⟩
              · exact k1 t ht
theorem form_out (d : ApiDay) : Planform d ≠ 0 ∨ (Planform d = 0 ∧ dayForm d) := by
  rw [Planform, bnd_eq]
  by_cases c : ((d.Trains.length : Nat) : Int) > 12 ∨ ((d.Turns.length : Nat) : Int) > 8
  · left
    rw [if_pos (by rcases c with c | c <;> simp [c])]; decide
  · have c1 : ¬ ((d.Trains.length : Nat) : Int) > 12 := fun h => c (.inl h)
    have c2 : ¬ ((d.Turns.length : Nat) : Int) > 8 := fun h => c (.inr h)
    rw [if_neg (by simp [c1, c2]), bnd_eq]
    rcases form1_out d.Trains with ⟨e, he, h⟩ | ⟨h, k⟩
    · rw [h]; exact .inl he
    · rw [h]
      dsimp only
      rw [bnd_eq]
      rcases form4_out d.Turns with ⟨e, he, h4⟩ | ⟨h4, k4⟩
      · rw [h4]; exact .inl he
      · rw [h4]; exact .inr ⟨rfl, by omega, by omega, k, k4⟩

/-! the numbers -/
def numS (x : ApiStop) : List Int := [x.Station, x.Track, x.Arr, x.Dep]
def numT (t : ApiTrain) : List (List Int) := [t.No, t.Stock] :: (t.Stops.map numS ++ t.Legs)
theorem num2 : ∀ (l : List ApiStop) (q : List (List Int)), q.length + l.length < 4294967296 → Fishref2numbersIn.loop2 l q = some (q ++ l.map numS)
  | [], q, _ => by simp [Fishref2numbersIn.loop2]
  | x :: r, q, h => by
    simp only [List.length_cons] at h
    rw [Fishref2numbersIn.loop2, apd_lt (by simp; omega), Option.bind_some, num2 r _ (by simp; omega)]
    simp [numS]
theorem num1 : ∀ (l : List ApiTrain) (q : List (List Int)), (∀ t ∈ l, trainForm t) → q.length + 17 * l.length < 4294967296 → Fishref2numbersIn.loop1 l q = some (q ++ l.flatMap numT)
  | [], q, _, _ => by simp [Fishref2numbersIn.loop1]
  | t :: r, q, ht, h => by
    simp only [List.length_cons] at h
    obtain ⟨t1, t2, t3, t4⟩ := ht t (List.mem_cons_self ..)
    rw [Fishref2numbersIn.loop1, apd_lt (by simp; omega), Option.bind_some, num2 _ _ (by simp; omega), Option.bind_some, apd_lt (by simp; omega), Option.bind_some,
      num1 r _ (fun t h => ht t (List.mem_cons_of_mem _ h)) (by simp; omega)]
    simp [numT]
theorem numT_len {t : ApiTrain} (h : trainForm t) : (numT t).length ≤ 16 := by
  obtain ⟨t1, t2, t3, t4⟩ := h
  simp [numT]; omega
theorem num_all {d : ApiDay} (h : dayForm d) : Fishref2numbersIn d = some (d.Trains.flatMap numT ++ d.Turns) := by
  obtain ⟨h1, h2, h3, h4⟩ := h
  have hl : ∀ l : List ApiTrain, (∀ t ∈ l, trainForm t) → (l.flatMap numT).length ≤ 16 * l.length := by
    intro l
    induction l with
    | nil => intro _; simp
    | cons t r ih =>
      intro ht
      have := numT_len (ht t (List.mem_cons_self ..))
      have := ih fun t h => ht t (List.mem_cons_of_mem _ h)
      simp only [List.flatMap_cons, List.length_append, List.length_cons]; omega
  have := hl _ h3
  rw [Fishref2numbersIn, num1 _ _ h3 (by simp; omega), Option.bind_some, List.nil_append, apd_lt (by omega)]
  rfl
theorem num6 : ∀ l : List Int, Fishref2TextFault.loop6 l = if l.all wi then .next () else .ret 2
  | [] => rfl
  | x :: r => by
    rw [Fishref2TextFault.loop6, num6 r]
    show (if (!wi x) = true then _ else _) = _
    cases h : wi x <;> simp [h]
theorem num5 (L : List (List Int)) : ∀ (r : List (List Int)) (k : Nat), L.drop k = r → Fishref2TextFault.loop5 L r.length k = some (if r.all (·.all wi) then .next () else .ret 2)
  | [], k, _ => rfl
  | x :: r, k, hd => by
    obtain ⟨d1, d2, d3⟩ := drop_cons hd
    rw [List.length_cons, Fishref2TextFault.loop5, gx_nat, d2, Option.bind_some, bnd_eq, num6]
    cases h : x.all wi with
    | true => simp [h, num5 L r (k + 1) d3]
    | false => simp [h]

/-! the text -/
theorem flag1 : ∀ (l : List Int) (b : Bool), PlanText_1_v1.loop1 l b = (b && l.all wi)
  | [], b => by simp [PlanText_1_v1.loop1]
  | x :: r, b => by
    rw [PlanText_1_v1.loop1, bnd_eq, flag1 r]
    show ((if b = true then wi x else false) && r.all wi) = _
    cases b <;> simp
theorem sent1 : ∀ (l : List Int) (q : ByteArray), inL inI l → q.size + 22 * l.length < 4294967296 → ∃ z, Plansentence.loop1 l q = some z ∧ z.size ≤ q.size + 22 * l.length
  | [], q, _, _ => ⟨q, rfl, by simp⟩
  | x :: r, q, hi, h => by
    simp only [List.length_cons] at h
    have hx := hi x (List.mem_cons_self ..)
    have hs := tx_size hx
    have s32 : (str [32]).size = 1 := rfl
    have e1 : (str [32] ++ tx x).size = 1 + (tx x).size := by rw [ByteArray.size_append, s32]
    have e4 : (q ++ (str [32] ++ tx x)).size = q.size + (1 + (tx x).size) := by rw [ByteArray.size_append, e1]
    obtain ⟨z, h1, h2⟩ := sent1 r (q ++ (str [32] ++ tx x)) (fun y h => hi y (List.mem_cons_of_mem _ h)) (by omega)
    refine ⟨z, ?_, by simp only [List.length_cons]; omega⟩
    rw [Plansentence.loop1, itoa_tx hx, Option.bind_some, scat_in (by omega), Option.bind_some, scat_in (by omega), Option.bind_some]
    exact h1
theorem sent {l : List Int} {w : ByteArray} (hi : inL inI l) (h : w.size + 22 * l.length < 4294967295) : ∃ z, Plansentence w l = some z ∧ 0 < z.size ∧ z.size ≤ w.size + 22 * l.length + 1 := by
  obtain ⟨z, h1, h2⟩ := sent1 l w hi (by omega)
  have s10 : (str [10]).size = 1 := rfl
  have e : (z ++ str [10]).size = z.size + 1 := by rw [ByteArray.size_append, s10]
  exact ⟨z ++ str [10], by rw [Plansentence, h1, Option.bind_some, scat_in (by omega)]; rfl, by omega, by omega⟩
theorem wr {l : List Int} {w y : ByteArray} {b : Bool} (hi : inL inI l) (hw : w.size ≤ 5) (h : y.size + (22 * l.length + 6) < 4294967295) :
    ∃ z, PlanText_1_v1 w l b y = some (b && l.all wi, z) ∧ z.size ≤ y.size + (22 * l.length + 6) := by
  obtain ⟨z, h1, h2, h3⟩ := sent (w := w) hi (by omega)
  have e : (y ++ z).size = y.size + z.size := ByteArray.size_append
  exact ⟨y ++ z, by rw [PlanText_1_v1, flag1, bnd_eq, h1, Option.bind_some, sbw_in h2 (by omega)]; rfl, by omega⟩
theorem txt2 : ∀ (l : List ApiStop) (y : ByteArray) (b : Bool), inL InApiStop l → y.size + 94 * l.length < 4294967000 →
    ∃ z, PlanText.loop2 l y b = some (z, b && (l.map numS).all (·.all wi)) ∧ z.size ≤ y.size + 94 * l.length
  | [], y, b, _, _ => ⟨y, by simp [PlanText.loop2], by simp⟩
  | x :: r, y, b, hi, h => by
    simp only [List.length_cons] at h
    have hx := hi x (List.mem_cons_self ..)
    obtain ⟨z, h1, h2⟩ := wr (l := numS x) (w := str [115, 116, 111, 112]) (y := y) (b := b) (by
      intro v hv
      simp only [numS, List.mem_cons, List.not_mem_nil, or_false] at hv
      rcases hv with rfl | rfl | rfl | rfl
      · exact hx.1
      · exact hx.2.1
      · exact hx.2.2.1
      · exact hx.2.2.2) (by decide) (by simp [numS]; omega)
    simp only [numS, List.length_cons, List.length_nil] at h2
    obtain ⟨z2, h3, h4⟩ := txt2 r z (b && (numS x).all wi) (fun y h => hi y (List.mem_cons_of_mem _ h)) (by omega)
    refine ⟨z2, ?_, by simp only [List.length_cons]; omega⟩
    rw [PlanText.loop2]
    rw [show [x.Station, x.Track, x.Arr, x.Dep] = numS x from rfl, h1, Option.bind_some]
    dsimp only
    rw [h3, List.map_cons, List.all_cons, Bool.and_assoc]
theorem txt3 (w : ByteArray) (hw : w.size ≤ 5) (F : List (List Int) → ByteArray → Bool → Option (ByteArray × Bool)) (hn : ∀ y b, F [] y b = some (y, b))
    (hc : ∀ x r y b, F (x :: r) y b = (PlanText_1_v1 w x b y).bind fun q => F r q.2 q.1) (m : Nat) (hm : m ≤ 100) : ∀ (l : List (List Int)) (y : ByteArray) (b : Bool), inL (inL inI) l → (∀ g ∈ l, g.length ≤ m) → y.size + (22 * m + 6) * l.length < 4294960000 →
    ∃ z, F l y b = some (z, b && l.all (·.all wi)) ∧ z.size ≤ y.size + (22 * m + 6) * l.length
  | [], y, b, _, _, _ => ⟨y, by simp [hn], by simp⟩
  | x :: r, y, b, hi, hl, h => by
    simp only [List.length_cons, Nat.mul_add, Nat.mul_one] at h
    have hx := hi x (List.mem_cons_self ..)
    have hxl := hl x (List.mem_cons_self ..)
    obtain ⟨z, h1, h2⟩ := wr (l := x) (w := w) (y := y) (b := b) hx hw (by omega)
    obtain ⟨z2, h3, h4⟩ := txt3 w hw F hn hc m hm r z (b && x.all wi) (fun y h => hi y (List.mem_cons_of_mem _ h)) (fun g h => hl g (List.mem_cons_of_mem _ h)) (by omega)
    refine ⟨z2, ?_, by simp only [List.length_cons, Nat.mul_add, Nat.mul_one]; omega⟩
    rw [hc, h1, Option.bind_some]
    dsimp only
    rw [h3, List.all_cons, Bool.and_assoc]
theorem txt1 : ∀ (l : List ApiTrain) (y : ByteArray) (b : Bool), inL InApiTrain l → (∀ t ∈ l, trainForm t) → y.size + 1700 * l.length < 4294900000 →
    ∃ z, PlanText.loop1 l y b = some (z, b && (l.flatMap numT).all (·.all wi)) ∧ z.size ≤ y.size + 1700 * l.length
  | [], y, b, _, _, _ => ⟨y, by simp [PlanText.loop1], by simp⟩
  | t :: r, y, b, hi, hf, h => by
    simp only [List.length_cons] at h
    obtain ⟨i1, i2, i3, i4⟩ := hi t (List.mem_cons_self ..)
    obtain ⟨t1, t2, t3, t4⟩ := hf t (List.mem_cons_self ..)
    obtain ⟨z, h1, h2⟩ := wr (l := [t.No, t.Stock]) (w := str [116, 114, 97, 105, 110]) (y := y) (b := b) (by
      intro v hv
      simp only [List.mem_cons, List.not_mem_nil, or_false] at hv
      rcases hv with rfl | rfl
      · exact i1
      · exact i2) (by decide) (by simp; omega)
    simp only [List.length_cons, List.length_nil] at h2
    obtain ⟨z2, h3, h4⟩ := txt2 t.Stops z (b && [t.No, t.Stock].all wi) i3 (by omega)
    obtain ⟨z3, h5, h6⟩ := txt3 (str [108, 101, 103]) (by decide) PlanText.loop3 (fun _ _ => rfl) (fun _ _ _ _ => rfl) 4 (by omega) t.Legs z2 ((b && [t.No, t.Stock].all wi) && (t.Stops.map numS).all (·.all wi)) i4 t4 (by omega)
    obtain ⟨z4, h7, h8⟩ := txt1 r z3 (((b && [t.No, t.Stock].all wi) && (t.Stops.map numS).all (·.all wi)) && t.Legs.all (·.all wi)) (fun y h => hi y (List.mem_cons_of_mem _ h)) (fun y h => hf y (List.mem_cons_of_mem _ h)) (by omega)
    refine ⟨z4, ?_, by simp only [List.length_cons]; omega⟩
    rw [PlanText.loop1, h1, Option.bind_some]
    dsimp only
    rw [h3, Option.bind_some]
    dsimp only
    rw [h5, Option.bind_some]
    dsimp only
    rw [h7]
    simp only [List.flatMap_cons, numT, List.cons_append, List.all_cons, List.all_append, Bool.and_assoc, List.all_nil]
theorem text_ok {d : ApiDay} (hi : InApiDay d) : ∃ e b, Fishref2TextFault d = some e ∧ PlanText d = some (b, e) ∧ (e = 0 → dayForm d) := by
  rcases form_out d with h | ⟨h, k⟩
  · refine ⟨Planform d, str [], ?_, ?_, fun e => absurd e h⟩
    · revert h
      rw [Fishref2TextFault, Planform]
      simp only [form1, form4, bnd_eq]
      cases (if decide (((d.Trains).length : Int) > 12) = true then true else decide (((d.Turns).length : Int) > 8)) with
      | true => intro _; rfl
      | false =>
        simp only [Bool.false_eq_true, if_false]
        cases Planform.loop1 d.Trains with
        | ret r => intro _; rfl
        | next u =>
          dsimp only
          cases Planform.loop4 d.Turns with
          | ret r => intro _; rfl
          | next u => intro h; exact absurd rfl h
    · rw [PlanText, if_pos (by simpa using h)]
  · obtain ⟨k1, k2, k3, k4⟩ := k
    have hnum := num_all ⟨k1, k2, k3, k4⟩
    obtain ⟨z, h1, h2⟩ := txt1 d.Trains ByteArray.empty true hi.1 k3 (by simp; omega)
    have h2' : z.size ≤ 1700 * d.Trains.length := by simpa using h2
    obtain ⟨z2, h3, h4⟩ := txt3 (str [116, 117, 114, 110]) (by decide) PlanText.loop4 (fun _ _ => rfl) (fun _ _ _ _ => rfl) 12 (by omega) d.Turns z (true && (d.Trains.flatMap numT).all (·.all wi)) hi.2 k4 (by omega)
    have hT : Fishref2TextFault d = some (if (d.Trains.flatMap numT ++ d.Turns).all (·.all wi) then 0 else 2) := by
      have h' := h
      rw [Planform] at h'
      simp only [bnd_eq] at h'
      rw [Fishref2TextFault]
      simp only [form1, form4, bnd_eq]
      cases hc : (if decide (((d.Trains).length : Int) > 12) = true then true else decide (((d.Turns).length : Int) > 8)) with
      | true => rw [hc] at h'; cases h'
      | false =>
        rw [hc] at h'
        simp only [Bool.false_eq_true, if_false] at h' ⊢
        cases hA : Planform.loop1 d.Trains with
        | ret r =>
          rw [hA] at h'
          rcases form1_out d.Trains with ⟨e, he, hh⟩ | ⟨hh, _⟩
          · rw [hA] at hh; injection hh with hh; dsimp only at h'; rw [hh] at h'; exact absurd h' he
          · rw [hA] at hh; cases hh
        | next u =>
          rw [hA] at h'
          dsimp only at h' ⊢
          cases hB : Planform.loop4 d.Turns with
          | ret r =>
            rw [hB] at h'
            rcases form4_out d.Turns with ⟨e, he, hh⟩ | ⟨hh, _⟩
            · rw [hB] at hh; injection hh with hh; dsimp only at h'; rw [hh] at h'; exact absurd h' he
            · rw [hB] at hh; cases hh
          | next u =>
            dsimp only
            rw [hnum, Option.bind_some, num5 _ _ 0 (List.drop_zero), Option.bind_some]
            cases (d.Trains.flatMap numT ++ d.Turns).all (·.all wi) <;> rfl
    refine ⟨_, if (d.Trains.flatMap numT ++ d.Turns).all (·.all wi) then z2 else str [], hT, ?_, fun _ => ⟨k1, k2, k3, k4⟩⟩
    rw [PlanText, if_neg (by simp [h]), h1, Option.bind_some]
    dsimp only
    rw [h3, Option.bind_some]
    dsimp only
    rw [List.all_append]
    cases hA : (d.Trains.flatMap numT).all (·.all wi) <;> cases hB : d.Turns.all (·.all wi) <;> simp [hA, hB]

/-! numbers of at most six digits, in texts -/
theorem seq_iff (x y : ByteArray) : seq x y = true ↔ x.data.toList = y.data.toList := by unfold seq; exact beq_iff_eq
theorem ba_ext {x y : ByteArray} (h : x.data.toList = y.data.toList) : x = y := by
  cases x; cases y
  simp at h
  subst h
  rfl
theorem ba_size (x : ByteArray) : x.size = x.data.toList.length := by rw [Array.length_toList]; rfl
theorem cut_list (s : ByteArray) (a b : Nat) : (s.extract a b).data.toList = (s.data.toList.take b).drop a := by
  simp [ByteArray.data_extract, List.drop_take]
theorem digitVal_some {b : UInt8} {d : Nat} : Lib.digitVal b = some d ↔ (48 ≤ b.toNat ∧ b.toNat ≤ 57) ∧ d = b.toNat - 48 := by
  unfold Lib.digitVal
  split
  · rename_i h
    constructor
    · intro e; injection e with e; exact ⟨h, e.symm⟩
    · rintro ⟨_, rfl⟩; rfl
  · rename_i h
    constructor
    · intro e; cases e
    · rintro ⟨k, _⟩; exact absurd k h
theorem decFrom_app : ∀ (a b : List UInt8) (acc : Nat), Lib.decFrom acc (a ++ b) = (Lib.decFrom acc a).bind fun m => Lib.decFrom m b
  | [], b, acc => rfl
  | x :: a, b, acc => by
    rw [List.cons_append, Lib.decFrom, Lib.decFrom]
    cases Lib.digitVal x with
    | none => rfl
    | some d => exact decFrom_app a b _
theorem ofNat_dig {u : Nat} (h : u < 10) : (UInt8.ofNat (48 + u)).toNat = 48 + u := by
  rw [UInt8.toNat_ofNat']; omega
theorem dig_val {u : Nat} (h : u < 10) : Lib.digitVal (UInt8.ofNat (48 + u)) = some u := by
  rw [digitVal_some, ofNat_dig h]; omega
theorem decFrom_dig (u : Nat) : Lib.decFrom 0 (Lib.decDigits u) = some u := by
  induction u using Nat.strongRecOn with
  | _ u ih =>
    rw [Lib.decDigits]
    split
    · rename_i h
      rw [Lib.decFrom, dig_val h]
      simp [Lib.decFrom]
    · rename_i h
      rw [decFrom_app, ih (u / 10) (by omega), Option.bind_some, Lib.decFrom, dig_val (by omega)]
      simp only [Lib.decFrom]
      congr 1
      omega
theorem dig_ne (u : Nat) : Lib.decDigits u ≠ [] := by
  intro h
  have h1 := Lib.decDigits_length u
  rw [h, List.length_nil] at h1
  have h2 := Lib.nDigits_pos u
  omega
/-- the first digit is 0 of 0 alone -/
theorem dig_head (u : Nat) : ∃ c r, Lib.decDigits u = c :: r ∧ 48 ≤ c.toNat ∧ c.toNat ≤ 57 ∧ (c.toNat = 48 → u = 0 ∧ r = []) := by
  induction u using Nat.strongRecOn with
  | _ u ih =>
    rw [Lib.decDigits]
    split
    · rename_i h
      exact ⟨_, _, rfl, by rw [ofNat_dig h]; omega, by rw [ofNat_dig h]; omega, by rw [ofNat_dig h]; intro e; exact ⟨by omega, rfl⟩⟩
    · rename_i h
      obtain ⟨c, r, e, h1, h2, h3⟩ := ih (u / 10) (by omega)
      rw [e]
      exact ⟨c, _, rfl, h1, h2, fun k => by have := (h3 k).1; omega⟩
theorem dig_back : ∀ (n : Nat) (l : List UInt8) (m : Nat), l.length = n → l ≠ [] → Lib.decFrom 0 l = some m → (∀ c r, l = c :: r → c.toNat = 48 → r = []) → l = Lib.decDigits m
  | 0, l, m, hl, h0, _, _ => absurd (List.eq_nil_of_length_eq_zero hl) h0
  | n + 1, l, m, hl, h0, hd, hh => by
    obtain ⟨a, c, rfl⟩ : ∃ a c, l = a ++ [c] := ⟨l.dropLast, l.getLast h0, (List.dropLast_concat_getLast h0).symm⟩
    rw [decFrom_app] at hd
    cases ha : Lib.decFrom 0 a with
    | none => rw [ha] at hd; cases hd
    | some m' =>
      rw [ha, Option.bind_some, Lib.decFrom] at hd
      cases hc : Lib.digitVal c with
      | none => rw [hc] at hd; cases hd
      | some d =>
        rw [hc] at hd
        simp only [Lib.decFrom, Option.some.injEq] at hd
        obtain ⟨⟨k1, k2⟩, k3⟩ := digitVal_some.1 hc
        have hcd : c = UInt8.ofNat (48 + d) := UInt8.toNat_inj.1 (by rw [ofNat_dig (by omega)]; omega)
        cases a with
        | nil =>
          simp only [Lib.decFrom, Option.some.injEq] at ha
          subst ha
          rw [Lib.decDigits, dif_pos (by omega), hcd]
          have : d = m := by omega
          rw [this]; rfl
        | cons x a =>
          have hx : x.toNat ≠ 48 := fun e => by
            have := hh x (a ++ [c]) rfl e
            simp at this
          have ih := dig_back n (x :: a) m' (by simpa using hl) (by simp) ha (fun c r e k => by
            injection e with e1 e2
            subst e1
            exact absurd k hx)
          have hm' : 1 ≤ m' := by
            rcases Nat.eq_zero_or_pos m' with h | h
            · subst h
              rw [show Lib.decDigits 0 = [UInt8.ofNat (48 + 0)] from by rw [Lib.decDigits, dif_pos (by omega)]] at ih
              injection ih with e1 e2
              rw [e1, ofNat_dig (by omega)] at hx
              omega
            · exact h
          rw [Lib.decDigits, dif_neg (by omega), show m / 10 = m' by omega, show m % 10 = d by omega, ← ih, hcd]
theorem ndig_le {u : Nat} : Lib.nDigits u ≤ 6 ↔ u ≤ 999999 := by
  constructor
  · intro h
    have h1 := Lib.lt_pow_nDigits u
    have h2 : 10 ^ Lib.nDigits u ≤ 10 ^ 6 := Nat.pow_le_pow_right (by decide) h
    have h3 : (10 : Nat) ^ 6 = 1000000 := by decide
    omega
  · intro h
    rcases Nat.lt_or_ge (Lib.nDigits u) 7 with h1 | h1
    · omega
    · exfalso
      have key : ∀ (k u : Nat), u < 10 ^ (k + 1) → Lib.nDigits u ≤ k + 1 := by
        intro k
        induction k with
        | zero => intro u h; rw [Lib.nDigits_small (by simpa using h)]; omega
        | succ k ih =>
          intro u h
          by_cases c : u < 10
          · rw [Lib.nDigits_small c]; omega
          · rw [Lib.nDigits_big c]
            have := ih (u / 10) (by rw [Nat.pow_succ] at h; omega)
            omega
      have := key 5 u (by have : (10 : Nat) ^ (5 + 1) = 1000000 := by decide
                          omega)
      omega
/-- a number of at most six digits -/
def Num6 (l : List UInt8) (n : Int) : Prop := (-999999 ≤ n ∧ n ≤ 999999) ∧ l = Lib.itoa n
theorem itoa_head (n : Int) : (n < 0 ∧ Lib.itoa n = 45 :: Lib.decDigits n.natAbs) ∨ (0 ≤ n ∧ Lib.itoa n = Lib.decDigits n.natAbs) := by
  unfold Lib.itoa
  by_cases h : n < 0
  · rw [if_pos h]; exact .inl ⟨h, rfl⟩
  · rw [if_neg h, show n.toNat = n.natAbs by omega]; exact .inr ⟨by omega, rfl⟩
theorem atoi_itoa (n : Int) : Lib.atoi (Lib.itoa n) = some n := by
  have hd : ∀ u, Lib.decNat (Lib.decDigits u) = some u := fun u => by
    unfold Lib.decNat
    rw [if_neg (by have := dig_ne u; cases h : Lib.decDigits u <;> simp_all), decFrom_dig]
  rcases itoa_head n with ⟨h1, h2⟩ | ⟨h1, h2⟩
  · rw [h2, Lib.atoi, if_pos (show ((45 : UInt8) == 45) = true from rfl), hd]
    simp; omega
  · obtain ⟨c, r, e, k1, k2, _⟩ := dig_head n.natAbs
    have a1 : ¬ ((c == 45) = true) := fun h => by have := eq_of_beq h; subst this; exact absurd k1 (by decide)
    have a2 : ¬ ((c == 43) = true) := fun h => by have := eq_of_beq h; subst this; exact absurd k1 (by decide)
    rw [h2, e, Lib.atoi, if_neg a1, if_neg a2, ← e, hd]
    simp; omega
theorem trim_v (w : ByteArray) (hw : w.size ≤ 30000) : StringsTrimPrefix w (str [45]) = some (if w.data.toList.head? = some 45 then w.extract 1 w.size else w) := by
  unfold StringsTrimPrefix InternalStringsliteTrimPrefix InternalStringsliteHasPrefix
  have hs : (str [45]).size = 1 := rfl
  rw [hs]
  by_cases c : w.size = 0
  · have e : w.data.toList = [] := List.eq_nil_of_length_eq_zero (by rw [← ba_size]; exact c)
    rw [if_neg (by simp; omega), Option.bind_some, Option.bind_some, if_neg (by decide), Option.bind_some, if_neg (by rw [e]; simp)]
  · have hc : scut w 0 ((1 : Nat) : Int) = some (w.extract 0 1) := by unfold scut; rw [if_pos (by omega)]; rfl
    rw [if_pos (by simp; omega), hc, Option.bind_some, Option.bind_some, Option.bind_some]
    obtain ⟨x, r, e⟩ : ∃ x r, w.data.toList = x :: r := by
      cases h : w.data.toList with
      | nil => exact absurd (by rw [ba_size, h]; rfl) c
      | cons x r => exact ⟨x, r, rfl⟩
    have hq : seq (w.extract 0 1) (str [45]) = decide (x = 45) := by
      unfold seq
      rw [cut_list, e]
      by_cases hx : x = 45 <;> simp [hx]
    rw [hq, e, List.head?_cons]
    by_cases hx : x = 45
    · rw [if_pos (by simp [hx]), if_pos (by rw [hx])]
      have : scut w ((1 : Nat) : Int) ((w.size : Nat) : Int) = some (w.extract 1 w.size) := by unfold scut; rw [if_pos (by omega)]; rfl
      rw [this]; rfl
    · rw [if_neg (by simp [hx]), if_neg (by simp [hx])]; rfl
def trimz (w : ByteArray) : Nat := if w.data.toList.head? = some 45 then w.size - 1 else w.size
theorem trim_sz (w : ByteArray) (hw : w.size ≤ 30000) : ∃ q, StringsTrimPrefix w (str [45]) = some q ∧ q.size = trimz w := by
  refine ⟨_, trim_v w hw, ?_⟩
  unfold trimz
  split
  · rw [ba_size, cut_list, List.length_drop, List.take_of_length_le (by rw [← ba_size]; exact Nat.le_refl _), ← ba_size]
  · rfl
theorem trimz_itoa {w : ByteArray} {n : Int} (h : w.data.toList = Lib.itoa n) : trimz w = Lib.nDigits n.natAbs := by
  unfold trimz
  rcases itoa_head n with ⟨h1, h2⟩ | ⟨h1, h2⟩
  · rw [h, h2, List.head?_cons, if_pos rfl, ba_size, h, h2, List.length_cons, Lib.decDigits_length]; omega
  · obtain ⟨c, r, e, k1, k2, _⟩ := dig_head n.natAbs
    rw [h, h2, e, if_neg ?_, ba_size, h, h2, Lib.decDigits_length]
    simp
    intro hc
    subst hc
    exact absurd k1 (by decide)
/-- the program's reading -/
theorem prog_num (w : ByteArray) (hw : w.size ≤ 30000) : ∃ v b q, LineNumber w = some (v, b) ∧ StringsTrimPrefix w (str [45]) = some q ∧
    ((b = true ∧ q.size ≤ 6 ∧ Num6 w.data.toList v) ∨ ((b = false ∨ ¬ q.size ≤ 6) ∧ ∀ n, ¬ Num6 w.data.toList n)) := by
  obtain ⟨q, hq, hz⟩ := trim_sz w hw
  obtain ⟨v, ok, ha⟩ : ∃ v ok, atoiq w = some (v, ok) := by
    unfold atoiq
    rw [if_pos (by omega)]
    exact ⟨_, _, rfl⟩
  have hat : ok = true → Lib.atoiAll w.data.toList = .ok v := by
    intro h
    unfold atoiq at ha
    rw [if_pos (by omega)] at ha
    injection ha with ha
    cases hh : Lib.atoiAll w.data.toList with
    | ok u => rw [hh] at ha; injection ha with h1 h2; rw [h1]
    | range => rw [hh] at ha; injection ha with h1 h2; rw [h] at h2; cases h2
    | _ => rw [hh] at ha; injection ha with h1 h2; rw [h] at h2; cases h2
  have hun : ∀ n, Num6 w.data.toList n → ok = true ∧ v = n := by
    intro n hn
    have hl : w.data.toList.length ≤ 18 := by
      rw [hn.2]
      have hd : Lib.nDigits n.natAbs ≤ 6 := ndig_le.2 (by have := hn.1; omega)
      rcases itoa_head n with ⟨h1, h2⟩ | ⟨h1, h2⟩
      · rw [h2, List.length_cons, Lib.decDigits_length]; omega
      · rw [h2, Lib.decDigits_length]; omega
    have e := Lib.atoiAll_short w.data.toList hl
    rw [hn.2, atoi_itoa] at e
    unfold atoiq at ha
    rw [if_pos (by omega), hn.2, e] at ha
    simp [Lib.NumEnd.ofOption] at ha
    exact ⟨ha.2, ha.1.symm⟩
  cases ok with
  | false =>
    refine ⟨v, false, q, ?_, hq, .inr ⟨.inl rfl, fun n hn => by have := (hun n hn).1; cases this⟩⟩
    unfold LineNumber
    rw [ha, Option.bind_some]
    rfl
  | true =>
    have hv := Lib.atoiAll_bounds (hat rfl)
    by_cases c : w.data.toList = Lib.itoa v
    · have hs : seq (tx v) w = true := (seq_iff _ _).2 (by rw [c]; simp [tx])
      have hL : LineNumber w = some (v, decide (((q.size : Nat) : Int) ≤ 9)) := by
        unfold LineNumber
        rw [ha, Option.bind_some]
        simp only [if_true]
        rw [itoa_tx hv, Option.bind_some, hs, if_pos rfl, hq, Option.bind_some, Option.bind_some]
      have ht := trimz_itoa c
      rw [hL]
      by_cases c6 : q.size ≤ 6
      · refine ⟨v, true, q, by rw [decide_eq_true (by omega)], hq, .inl ⟨rfl, c6, ?_, c⟩⟩
        have := ndig_le.1 (show Lib.nDigits v.natAbs ≤ 6 by omega)
        omega
      · refine ⟨v, _, q, rfl, hq, .inr ⟨.inr c6, fun n hn => ?_⟩⟩
        obtain rfl := (hun n hn).2
        have := ndig_le.2 (show v.natAbs ≤ 999999 by have := hn.1; omega)
        omega
    · have hs : seq (tx v) w = false := by
        cases h : seq (tx v) w with
        | false => rfl
        | true => exact absurd (by have := (seq_iff _ _).1 h; simp [tx] at this; exact this.symm) c
      refine ⟨v, false, q, ?_, hq, .inr ⟨.inl rfl, fun n hn => c (by rw [(hun n hn).2]; exact hn.2)⟩⟩
      unfold LineNumber
      rw [ha, Option.bind_some]
      simp only [if_true]
      rw [itoa_tx hv, Option.bind_some, hs, if_neg (by decide), Option.bind_some]
/-! the document's reading -/
theorem sgx_at {s : ByteArray} {k : Nat} {b : UInt8} (h : s.data.toList[k]? = some b) : sgx s (k : Int) = some (b.toNat : Int) := by unfold sgx; rw [gx_nat, h]; rfl
theorem ref_loop (s : ByteArray) (hs : s.size ≤ 6) : ∀ (fu k acc : Nat), s.size - k < fu → k ≤ s.size → acc < 10 ^ k →
    (Lib.decFrom acc (s.data.toList.drop k) = none ∧ Fishref1Number.loop1 s fu (acc : Int) (k : Int) = some (.ret (0, false))) ∨
    (∃ m : Nat, Lib.decFrom acc (s.data.toList.drop k) = some m ∧ m < 10 ^ s.size ∧ Fishref1Number.loop1 s fu (acc : Int) (k : Int) = some (.next ((m : Int), (s.size : Int))))
  | 0, _, _, h, _, _ => absurd h (Nat.not_lt_zero _)
  | fu + 1, k, acc, h, hk, ha => by
    rw [Fishref1Number.loop1]
    rcases Nat.lt_or_ge k s.size with c | c
    · have hkl : k < s.data.toList.length := by rw [← ba_size]; exact c
      have hg := sgx_at (List.getElem?_eq_getElem hkl)
      have hp : 10 ^ k ≤ 10 ^ 6 := Nat.pow_le_pow_right (by decide) (by omega)
      have h6 : (10 : Nat) ^ 6 = 1000000 := by decide
      rw [if_pos (by simp; omega), hg, Option.bind_some, Option.bind_some, Option.bind_some, List.drop_eq_getElem_cons hkl, Lib.decFrom]
      generalize s.data.toList[k] = b
      have hb : b.toNat < 256 := b.toNat_lt
      by_cases d : 48 ≤ b.toNat ∧ b.toNat ≤ 57
      · have hd : Lib.digitVal b = some (b.toNat - 48) := digitVal_some.2 ⟨d, rfl⟩
        rw [hd]
        simp only
        rw [if_neg (by simp; omega), Option.bind_some, decide_eq_false (by omega), if_neg (by decide)]
        have hw : w64 (w64 (10 * (acc : Int)) + w64 (IntKind.wrap .u8 ((b.toNat : Int) - 48))) = ((acc * 10 + (b.toNat - 48) : Nat) : Int) := by
          have h1 : IntKind.wrap .u8 ((b.toNat : Int) - 48) = (b.toNat : Int) - 48 := by
            unfold IntKind.wrap
            simp [IntKind.bits, IntKind.signed]
            omega
          rw [h1, w64_id (x := 10 * (acc : Int)) (by omega), w64_id (x := (b.toNat : Int) - 48) (by omega), w64_id (by omega)]
          omega
        rw [hw, show w64 ((k : Int) + 1) = ((k + 1 : Nat) : Int) by rw [w64_id (by omega)]; omega]
        exact ref_loop s hs fu (k + 1) _ (by omega) c (by rw [Nat.pow_succ]; omega)
      · have hd : Lib.digitVal b = none := by
          cases e : Lib.digitVal b with
          | none => rfl
          | some u => exact absurd (digitVal_some.1 e).1 d
        rw [hd]
        refine .inl ⟨rfl, ?_⟩
        by_cases d1 : b.toNat < 48
        · rw [if_pos (by simp; omega), Option.bind_some, if_pos rfl]
        · rw [if_neg (by simp; omega), Option.bind_some, decide_eq_true (by omega), if_pos rfl]
    · obtain rfl : k = s.size := by omega
      rw [if_neg (by simp), List.drop_eq_nil_of_le (by rw [← ba_size]; exact Nat.le_refl _)]
      exact .inr ⟨acc, rfl, ha, rfl⟩
theorem hasp_v (w : ByteArray) (hw : w.size ≤ 30000) : StringsHasPrefix w (str [45]) = some (decide (w.data.toList.head? = some 45)) := by
  unfold StringsHasPrefix InternalStringsliteHasPrefix
  have hs : (str [45]).size = 1 := rfl
  rw [hs]
  by_cases c : w.size = 0
  · have e : w.data.toList = [] := List.eq_nil_of_length_eq_zero (by rw [← ba_size]; exact c)
    rw [if_neg (by simp; omega), Option.bind_some, Option.bind_some, e]
    rfl
  · have hc : scut w 0 ((1 : Nat) : Int) = some (w.extract 0 1) := by unfold scut; rw [if_pos (by omega)]; rfl
    rw [if_pos (by simp; omega), hc, Option.bind_some, Option.bind_some, Option.bind_some]
    obtain ⟨x, r, e⟩ : ∃ x r, w.data.toList = x :: r := by
      cases h : w.data.toList with
      | nil => exact absurd (by rw [ba_size, h]; rfl) c
      | cons x r => exact ⟨x, r, rfl⟩
    have hq : seq (w.extract 0 1) (str [45]) = decide (x = 45) := by
      unfold seq
      rw [cut_list, e]
      by_cases hx : x = 45 <;> simp [hx]
    rw [hq, e, List.head?_cons]
    by_cases hx : x = 45 <;> simp [hx]
/-- the document's reading, past the sign: d is what is read, neg says whether a sign is there -/
theorem ref_num (w : ByteArray) (hw : w.size ≤ 30000) {fu : Nat} (hf : 10 ≤ fu) :
    (∃ n, Num6 w.data.toList n ∧ Fishref1Number fu w 6 = some (n, true)) ∨ ((∀ n, ¬ Num6 w.data.toList n) ∧ Fishref1Number fu w 6 = some (0, false)) := by
  obtain ⟨d, neg, hd1, hd2, hd3⟩ : ∃ (d : ByteArray) (neg : Bool), (((if decide (w.data.toList.head? = some 45) then ((scut w 1 ((w.size : Nat) : Int)).bind fun x60 => some x60) else some w) : Option ByteArray) = some d) ∧ (w.data.toList = if neg then 45 :: d.data.toList else d.data.toList) ∧ (neg = false → d.data.toList.head? ≠ some 45) := by
    by_cases c : w.data.toList.head? = some 45
    · obtain ⟨r, e⟩ : ∃ r, w.data.toList = 45 :: r := by
        cases h : w.data.toList with
        | nil => rw [h] at c; cases c
        | cons x r => rw [h, List.head?_cons] at c; injection c with c; subst c; exact ⟨r, rfl⟩
      have hz : 1 ≤ w.size := by rw [ba_size, e]; simp
      refine ⟨w.extract 1 w.size, true, ?_, ?_, fun h => by cases h⟩
      · rw [decide_eq_true c, if_pos rfl]
        have : scut w 1 ((w.size : Nat) : Int) = some (w.extract 1 w.size) := by unfold scut; rw [if_pos (by omega)]; rfl
        rw [this]; rfl
      · rw [if_pos rfl, cut_list, List.take_of_length_le (by rw [← ba_size]; exact Nat.le_refl _), e]; rfl
    · exact ⟨w, false, by rw [decide_eq_false c, if_neg (by decide)], by rw [if_neg (by decide)], fun _ => c⟩
  have hsz : w.size = d.size + (if neg then 1 else 0) := by
    rw [ba_size, ba_size, hd2]
    cases neg <;> simp
  have hne : (((w.size : Nat) : Int) != ((d.size : Nat) : Int)) = neg := by
    rw [hsz]
    cases neg with
    | true => rw [if_pos rfl, bne_iff_ne]; omega
    | false => rw [if_neg (by decide), Nat.add_zero, bne_self_eq_false]
  have hnum : ∀ n, Num6 w.data.toList n → ∃ u : Nat, u ≤ 999999 ∧ d.data.toList = Lib.decDigits u ∧ n = (if neg then -(u : Int) else u) ∧ (neg = true → 0 < u) := by
    rintro n ⟨h1, h2⟩
    rw [hd2] at h2
    rcases itoa_head n with ⟨k1, k2⟩ | ⟨k1, k2⟩
    · cases neg with
      | true =>
        rw [if_pos rfl, k2] at h2
        injection h2 with _ h2
        exact ⟨n.natAbs, by omega, h2, by rw [if_pos rfl]; omega, fun _ => by omega⟩
      | false =>
        rw [if_neg (by decide), k2] at h2
        exact absurd (by rw [h2]; rfl) (hd3 rfl)
    · obtain ⟨c, r, e, q1, q2, _⟩ := dig_head n.natAbs
      cases neg with
      | true =>
        rw [if_pos rfl, k2, e] at h2
        injection h2 with h2 _
        subst h2
        exact absurd q1 (by decide)
      | false =>
        rw [if_neg (by decide), k2] at h2
        exact ⟨n.natAbs, by omega, h2, by rw [if_neg (by decide)]; omega, fun h => by cases h⟩
  unfold Fishref1Number
  rw [hasp_v w hw, Option.bind_some, hd1, Option.bind_some]
  rw [bnd_eq]
  have bad : ∀ {P : Prop}, (∀ u : Nat, u ≤ 999999 → d.data.toList = Lib.decDigits u → (neg = true → 0 < u) → P) → ¬ P → ∀ n, ¬ Num6 w.data.toList n := fun h1 h2 n hn => by
    obtain ⟨u, a1, a2, _, a4⟩ := hnum n hn
    exact h2 (h1 u a1 a2 a4)
  by_cases c1 : d.size < 1 ∨ 6 < d.size
  · refine .inr ⟨bad (P := 1 ≤ d.size ∧ d.size ≤ 6) (fun u a1 a2 _ => ?_) (by omega), ?_⟩
    · have := Lib.decDigits_length u
      rw [ba_size, a2, this]
      exact ⟨Lib.nDigits_pos u, ndig_le.2 a1⟩
    · have : (if decide (((d.size : Nat) : Int) < 1) = true then true else decide (((d.size : Nat) : Int) > 6)) = true := by
        by_cases c : d.size < 1
        · rw [if_pos (by simp; omega)]
        · rw [if_neg (by simp; omega), decide_eq_true]; omega
      rw [this, if_pos rfl]
  · have : (if decide (((d.size : Nat) : Int) < 1) = true then true else decide (((d.size : Nat) : Int) > 6)) = false := by
      rw [if_neg (by simp; omega), decide_eq_false]; omega
    rw [this, if_neg (by decide)]
    have hlp := ref_loop d (by omega) fu 0 0 (by omega) (by omega) (by simp)
    rw [List.drop_zero] at hlp
    rcases hlp with ⟨p1, p2⟩ | ⟨m, p1, p2, p3⟩
    · refine .inr ⟨bad (P := (Lib.decFrom 0 d.data.toList).isSome = true) (fun u _ a2 _ => by rw [a2, decFrom_dig]; rfl) (by rw [p1]; decide), ?_⟩
      rw [show ((0 : Nat) : Int) = 0 from rfl] at p2
      rw [p2]; rfl
    · rw [show ((0 : Nat) : Int) = 0 from rfl] at p3
      rw [p3, Option.bind_some]
      simp only
      obtain ⟨x, r, e⟩ : ∃ x r, d.data.toList = x :: r := by
        cases h : d.data.toList with
        | nil => exact absurd (by rw [ba_size, h]; decide) c1
        | cons x r => exact ⟨x, r, rfl⟩
      have hg : sgx d 0 = some (x.toNat : Int) := sgx_at (k := 0) (by rw [e]; rfl)
      have hlen : d.size = r.length + 1 := by rw [ba_size, e]; rfl
      have hp6 : (10 : Nat) ^ d.size ≤ 10 ^ 6 := Nat.pow_le_pow_right (by decide) (by omega)
      have h6 : (10 : Nat) ^ 6 = 1000000 := by decide
      rw [hg, Option.bind_some, hne]
      by_cases c2 : (x.toNat = 48 ∧ 1 < d.size) ∨ (m = 0 ∧ neg = true)
      · refine .inr ⟨bad (P := ¬ ((x.toNat = 48 ∧ 1 < d.size) ∨ (m = 0 ∧ neg = true))) (fun u _ a2 a4 => ?_) (fun h => h c2), ?_⟩
        · rw [a2, decFrom_dig] at p1
          injection p1 with p1
          subst p1
          obtain ⟨c, r', e', _, _, q3⟩ := dig_head u
          rw [a2] at e
          rw [e'] at e
          injection e with e1 e2
          subst e1; subst e2
          rintro (⟨b1, b2⟩ | ⟨b1, b2⟩)
          · have := (q3 b1).2
            rw [this] at hlen
            simp at hlen; omega
          · have := a4 b2; omega
        · have hc : (((if (((x.toNat : Nat) : Int) == 48) = true then (if decide (((d.size : Nat) : Int) > 1) = true then some true else (if (((m : Nat) : Int) == 0) = true then some neg else some false)) else (if (((m : Nat) : Int) == 0) = true then some neg else some false))) : Option Bool) = some true := by
            rcases c2 with ⟨b1, b2⟩ | ⟨b1, b2⟩
            · rw [if_pos (by simp; omega), if_pos (by simp; omega)]
            · rw [b1, b2]
              simp
          rw [hc, Option.bind_some, if_pos rfl]
      · have hc : (((if (((x.toNat : Nat) : Int) == 48) = true then (if decide (((d.size : Nat) : Int) > 1) = true then some true else (if (((m : Nat) : Int) == 0) = true then some neg else some false)) else (if (((m : Nat) : Int) == 0) = true then some neg else some false))) : Option Bool) = some false := by
          have h0 : (if (((m : Nat) : Int) == 0) = true then some neg else some false) = some false := by
            by_cases hm : m = 0
            · rw [if_pos (by simp [hm])]
              cases neg with
              | false => rfl
              | true => exact absurd (.inr ⟨hm, rfl⟩) c2
            · rw [if_neg (by simp; omega)]
          by_cases hx : x.toNat = 48
          · rw [if_pos (by simp; omega), if_neg (by simp; omega), h0]
          · rw [if_neg (by simp; omega), h0]
        rw [hc, Option.bind_some, if_neg (by decide), bnd_eq]
        have hdd := dig_back d.data.toList.length d.data.toList m rfl (by rw [e]; simp) p1 (fun c' r' e' k' => by
          rw [e] at e'
          injection e' with e1 e2
          subst e1; subst e2
          rcases Nat.lt_or_ge 1 d.size with z | z
          · exact absurd (.inl ⟨k', z⟩) c2
          · exact List.eq_nil_of_length_eq_zero (by omega))
        refine .inl ⟨if neg then -(m : Int) else m, ⟨?_, ?_⟩, ?_⟩
        · cases neg <;> simp <;> omega
        · rw [hd2, hdd]
          cases hn : neg with
          | false => simp only [Bool.false_eq_true, if_false]; exact (Lib.itoa_nonneg m).symm
          | true =>
            simp only [if_true]
            exact (Lib.itoa_neg m (by
              rcases Nat.eq_zero_or_pos m with z | z
              · exact absurd (.inr ⟨z, hn⟩) c2
              · exact z)).symm
        · cases hn : neg with
          | false => rfl
          | true => simp only [if_true]; rw [w64_id (by omega)]; simp
/-! words and lines -/
theorem itoa_inj {m n : Int} (h : Lib.itoa m = Lib.itoa n) : m = n := by
  have := atoi_itoa m
  rw [h, atoi_itoa n] at this
  exact (Option.some.inj this).symm
theorem loop2_false : ∀ ws : List ByteArray, PlanRead.loop2 ws false = some false
  | [] => rfl
  | w :: ws => by rw [PlanRead.loop2, if_neg (by decide), Option.bind_some]; exact loop2_false ws
theorem lnum_tot : ∀ (ws : List ByteArray) (acc : List Int), (∀ w ∈ ws, w.size ≤ 30000) → acc.length + ws.length < 100000 → ∃ out, LineNumbers.loop1 ws acc = some out ∧ ∀ r, out = .ret r → r = ([], false)
  | [], acc, _, _ => ⟨_, rfl, fun r h => by cases h⟩
  | w :: ws, acc, hs, hl => by
    simp only [List.length_cons] at hl
    obtain ⟨v, b, q, h1, _⟩ := prog_num w (hs w (by simp))
    rw [LineNumbers.loop1, h1, Option.bind_some]
    cases b with
    | false => exact ⟨_, rfl, fun r h => by simp at h; exact h.symm⟩
    | true =>
      simp only [Bool.not_true, Bool.false_eq_true, if_false]
      rw [apd_lt (by simp; omega), Option.bind_some]
      exact lnum_tot ws (acc ++ [v]) (fun x hx => hs x (by simp [hx])) (by simp; omega)
theorem words_loop {fu : Nat} (hf : 10 ≤ fu) : ∀ (ws : List ByteArray) (acc : List Int), (∀ w ∈ ws, w.size ≤ 30000) → acc.length + ws.length < 100000 →
    (∃ ns : List Int, ns.length = ws.length ∧ (∀ n ∈ ns, -999999 ≤ n ∧ n ≤ 999999) ∧ LineNumbers.loop1 ws acc = some (.next (acc ++ ns)) ∧ PlanRead.loop2 ws true = some true ∧ Fishref1Numbers.loop1 6 fu ws acc = some (.next (acc ++ ns))) ∨
    (∃ out, LineNumbers.loop1 ws acc = some out ∧ (∀ r, out = .ret r → r = ([], false)) ∧ (∀ l, out = .next l → PlanRead.loop2 ws true = some false) ∧ Fishref1Numbers.loop1 6 fu ws acc = some (.ret ([], false)))
  | [], acc, _, _ => .inl ⟨[], rfl, by simp, by simp [LineNumbers.loop1], rfl, by simp [Fishref1Numbers.loop1]⟩
  | w :: ws, acc, hs, hl => by
    simp only [List.length_cons] at hl
    have hw := hs w (by simp)
    have hs2 : ∀ x ∈ ws, x.size ≤ 30000 := fun x hx => hs x (by simp [hx])
    obtain ⟨v, b, q, h1, h2, h3⟩ := prog_num w hw
    rcases h3 with ⟨rfl, h4, h5⟩ | ⟨h4, h5⟩
    · obtain ⟨n, r1, r2⟩ | ⟨r1, _⟩ := ref_num w hw hf
      · obtain rfl : n = v := itoa_inj (by rw [← r1.2, ← h5.2])
        have e1 : LineNumbers.loop1 (w :: ws) acc = LineNumbers.loop1 ws (acc ++ [n]) := by
          rw [LineNumbers.loop1, h1, Option.bind_some]
          simp only [Bool.not_true, Bool.false_eq_true, if_false]
          rw [apd_lt (by simp; omega), Option.bind_some]
        have e2 : PlanRead.loop2 (w :: ws) true = PlanRead.loop2 ws true := by
          rw [PlanRead.loop2, if_pos rfl, h2, Option.bind_some, Option.bind_some, decide_eq_true (by omega)]
        have e3 : Fishref1Numbers.loop1 6 fu (w :: ws) acc = Fishref1Numbers.loop1 6 fu ws (acc ++ [n]) := by
          rw [Fishref1Numbers.loop1, r2, Option.bind_some]
          simp only [Bool.not_true, Bool.false_eq_true, if_false]
          rw [apd_lt (by simp; omega), Option.bind_some]
        rw [e1, e2, e3]
        rcases words_loop hf ws (acc ++ [n]) hs2 (by simp; omega) with ⟨ns, k1, k2, k3, k4, k5⟩ | h
        · refine .inl ⟨n :: ns, by simp [k1], fun m hm => ?_, by rw [k3]; simp, k4, by rw [k5]; simp⟩
          rcases List.mem_cons.1 hm with rfl | hm
          · exact r1.1
          · exact k2 m hm
        · exact .inr h
      · exact absurd h5 (r1 v)
    · obtain ⟨n, r1, _⟩ | ⟨_, r2⟩ := ref_num w hw hf
      · exact absurd r1 (h5 n)
      · have e3 : Fishref1Numbers.loop1 6 fu (w :: ws) acc = some (.ret ([], false)) := by
          rw [Fishref1Numbers.loop1, r2, Option.bind_some]; rfl
        refine .inr ?_
        rw [e3]
        cases b with
        | false =>
          have e1 : LineNumbers.loop1 (w :: ws) acc = some (.ret ([], false)) := by rw [LineNumbers.loop1, h1, Option.bind_some]; rfl
          exact ⟨_, e1, (fun r h => by simp at h; exact h.symm), (fun l h => by cases h), rfl⟩
        | true =>
          have h6 : ¬ q.size ≤ 6 := h4.resolve_left (by decide)
          have e2 : PlanRead.loop2 (w :: ws) true = some false := by
            rw [PlanRead.loop2, if_pos rfl, h2, Option.bind_some, Option.bind_some, decide_eq_false (by omega)]
            exact loop2_false ws
          obtain ⟨out, o1, o2⟩ := lnum_tot (w :: ws) acc hs (by simp; omega)
          exact ⟨out, o1, o2, fun l _ => e2, rfl⟩
theorem words_ok {fu : Nat} (hf : 10 ≤ fu) (ws : List ByteArray) (hs : ∀ w ∈ ws, w.size ≤ 30000) (hl : ws.length < 100000) :
    (∃ ns : List Int, ns.length = ws.length ∧ (∀ n ∈ ns, -999999 ≤ n ∧ n ≤ 999999) ∧ LineNumbers ws = some (ns, true) ∧ PlanRead.loop2 ws true = some true ∧ Fishref1Numbers fu ws 6 = some (ns, true)) ∨
    (∃ x b, LineNumbers ws = some (x, b) ∧ PlanRead.loop2 ws b = some false ∧ Fishref1Numbers fu ws 6 = some ([], false)) := by
  unfold LineNumbers Fishref1Numbers
  rcases words_loop hf ws [] hs (by simpa using hl) with ⟨ns, k1, k2, k3, k4, k5⟩ | ⟨out, k1, k2, k3, k4⟩
  · exact .inl ⟨ns, k1, k2, by rw [k3]; simp, k4, by rw [k5]; simp⟩
  · refine .inr ?_
    rw [k4, k1]
    cases out with
    | ret r => obtain rfl := k2 r rfl; exact ⟨[], false, rfl, loop2_false ws, rfl⟩
    | next l => exact ⟨l, true, rfl, k3 l rfl, rfl⟩
theorem splitB_sizes (sep : ByteArray) (sv : Nat) : ∀ (k : Nat) (s x : ByteArray), x ∈ Lib.splitB sep sv k s → x.size ≤ s.size
  | 0, s, x, h => by simp [Lib.splitB] at h; subst h; exact Nat.le_refl _
  | k + 1, s, x, h => by
    rw [Lib.splitB] at h
    split at h
    · simp at h; subst h; exact Nat.le_refl _
    · rcases List.mem_cons.1 h with rfl | h
      · rw [ba_size, cut_list, ba_size, List.length_drop, List.length_take]; omega
      · refine Nat.le_trans (splitB_sizes sep sv k _ x h) ?_
        rw [ba_size, cut_list, ba_size, List.length_drop, List.length_take]; omega
theorem split_v (s sep : ByteArray) (hs : s.size ≤ 30000) (h1 : 1 ≤ sep.size) : ∃ l, splitq s sep = some l ∧ 1 ≤ l.length ∧ l.length ≤ s.size + 1 ∧ ∀ x ∈ l, x.size ≤ s.size := by
  refine ⟨_, by unfold splitq; rw [if_pos ⟨by omega, h1⟩], ?_, ?_, splitB_sizes _ _ _ _⟩
  · rw [Lib.splitB_all sep h1 0 _ s rfl]; omega
  · rw [Lib.splitB_all sep h1 0 _ s rfl]
    have := Lib.countB_le sep h1 s.size s (Nat.le_refl _)
    omega
/-! lines of a day -/
theorem gx_lastq {α : Type} (l : List α) (x : α) (h : l.length < 1000000) : gx (l ++ [x]) (w64 ((((l ++ [x]).length : Nat) : Int) - 1)) = some x := by
  have e : w64 ((((l ++ [x]).length : Nat) : Int) - 1) = ((l.length : Nat) : Int) := by rw [w64_id (by simp; omega)]; simp
  rw [e, gx_nat, List.getElem?_append_right (Nat.le_refl _)]
  simp
theorem set_lastq {α : Type} (l : List α) (x y : α) (h : l.length < 1000000) : List.set (l ++ [x]) ((w64 ((((l ++ [x]).length : Nat) : Int) - 1)).toNat) y = l ++ [y] := by
  have e : w64 ((((l ++ [x]).length : Nat) : Int) - 1) = ((l.length : Nat) : Int) := by rw [w64_id (by simp; omega)]; simp
  rw [e, Int.toNat_natCast, List.set_append_right _ _ (Nat.le_refl _)]
  simp
theorem nil_snoc {α : Type} (l : List α) : l = [] ∨ ∃ l0 x, l = l0 ++ [x] := by
  rcases List.eq_nil_or_concat l with h | ⟨l0, x, h⟩
  · exact .inl h
  · exact .inr ⟨l0, x, by rw [h, List.concat_eq_append]⟩
theorem in6 {n : Int} (h : -999999 ≤ n ∧ n ≤ 999999) : inI n := by unfold inI; omega
theorem sq1 : seq (str [116, 114, 97, 105, 110]) (str [116, 114, 97, 105, 110]) = true := rfl
theorem sq2 : seq (str [115, 116, 111, 112]) (str [116, 114, 97, 105, 110]) = false := rfl
theorem sq3 : seq (str [115, 116, 111, 112]) (str [115, 116, 111, 112]) = true := rfl
theorem sq4 : seq (str [108, 101, 103]) (str [116, 114, 97, 105, 110]) = false := rfl
theorem sq5 : seq (str [108, 101, 103]) (str [115, 116, 111, 112]) = false := rfl
theorem sq6 : seq (str [108, 101, 103]) (str [108, 101, 103]) = true := rfl
theorem sq7 : seq (str [116, 117, 114, 110]) (str [116, 114, 97, 105, 110]) = false := rfl
theorem sq8 : seq (str [116, 117, 114, 110]) (str [115, 116, 111, 112]) = false := rfl
theorem sq9 : seq (str [116, 117, 114, 110]) (str [108, 101, 103]) = false := rfl
theorem sq10 : seq (str [116, 117, 114, 110]) (str [116, 117, 114, 110]) = true := rfl
theorem sq11 : seq (str [116, 114, 97, 105, 110]) (str [116, 117, 114, 110]) = false := rfl
theorem sq12 : seq (str [115, 116, 111, 112]) (str [116, 117, 114, 110]) = false := rfl
theorem sq13 : seq (str [108, 101, 103]) (str [116, 117, 114, 110]) = false := rfl
theorem sq14 : seq (str [116, 114, 97, 105, 110]) (str [115, 116, 111, 112]) = false := rfl
theorem sq15 : seq (str [116, 114, 97, 105, 110]) (str [108, 101, 103]) = false := rfl
theorem sq16 : seq (str [115, 116, 111, 112]) (str [108, 101, 103]) = false := rfl
/-- the program's step -/
theorem padd_no (v : ByteArray) (ns : List Int) (ph : Int) (T : List ApiTrain) (U : List (List Int)) (hT : T.length < 100000)
    (c1 : ¬ (v = str [116, 114, 97, 105, 110] ∧ ns.length = 2 ∧ ph < 3)) (c2 : ¬ (v = str [115, 116, 111, 112] ∧ ns.length = 4 ∧ ph = 1)) (c3 : ¬ (v = str [108, 101, 103] ∧ 0 < ns.length ∧ (ph = 1 ∨ ph = 2))) (c4 : ¬ (v = str [116, 117, 114, 110] ∧ 0 < ns.length)) :
    Planadd_v1 v ns ph ⟨T, U⟩ = some (0, false, T, U) := by
  have b1 : (if seq v (str [116, 114, 97, 105, 110]) = true then (if (((ns.length : Nat) : Int) == 2) = true then decide (ph < 3) else false) else false) = false := by
    by_cases h1 : seq v (str [116, 114, 97, 105, 110]) = true
    · rw [if_pos h1]
      by_cases h2 : ns.length = 2
      · rw [if_pos (by simp; omega), decide_eq_false (fun h3 => c1 ⟨ba_ext ((seq_iff _ _).1 h1), h2, h3⟩)]
      · rw [if_neg (by simp; omega)]
    · rw [if_neg h1]
  have b2 : (if seq v (str [115, 116, 111, 112]) = true then (if (((ns.length : Nat) : Int) == 4) = true then (ph == 1) else false) else false) = false := by
    by_cases h1 : seq v (str [115, 116, 111, 112]) = true
    · rw [if_pos h1]
      by_cases h2 : ns.length = 4
      · rw [if_pos (by simp; omega), beq_eq_false_iff_ne]; exact fun h3 => c2 ⟨ba_ext ((seq_iff _ _).1 h1), h2, h3⟩
      · rw [if_neg (by simp; omega)]
    · rw [if_neg h1]
  have b3 : (if seq v (str [108, 101, 103]) = true then (if decide (((ns.length : Nat) : Int) > 0) = true then (if (ph == 1) = true then true else (ph == 2)) else false) else false) = false := by
    by_cases h1 : seq v (str [108, 101, 103]) = true
    · rw [if_pos h1]
      by_cases h2 : 0 < ns.length
      · rw [if_pos (by simp; omega), if_neg (by simp; exact fun h3 => c3 ⟨ba_ext ((seq_iff _ _).1 h1), h2, .inl h3⟩), beq_eq_false_iff_ne]
        exact fun h3 => c3 ⟨ba_ext ((seq_iff _ _).1 h1), h2, .inr h3⟩
      · rw [if_neg (by rw [decide_eq_true_eq]; omega)]
    · rw [if_neg h1]
  have b4 : (if seq v (str [116, 117, 114, 110]) = true then decide (((ns.length : Nat) : Int) > 0) else false) = false := by
    by_cases h1 : seq v (str [116, 117, 114, 110]) = true
    · rw [if_pos h1, decide_eq_false (fun h3 => c4 ⟨ba_ext ((seq_iff _ _).1 h1), by omega⟩)]
    · rw [if_neg h1]
  unfold Planadd_v1
  simp only [bnd_eq]
  rw [b1, b2, b3, b4]
  simp only [Bool.false_eq_true, if_false]
  rcases nil_snoc T with rfl | ⟨T0, t, rfl⟩
  · rw [if_neg (by simp)]
  · rw [if_pos (by simp), gx_lastq _ _ (by simp at hT; omega), Option.bind_some]
theorem padd_train (a b ph : Int) (hp : ph < 3) (T : List ApiTrain) (U : List (List Int)) (hT : T.length < 100000) :
    Planadd_v1 (str [116, 114, 97, 105, 110]) [a, b] ph ⟨T, U⟩ = some (1, true, T ++ [⟨a, b, [], []⟩], U) := by
  have g0 : gx [a, b] 0 = some a := rfl
  have g1 : gx [a, b] 1 = some b := rfl
  have hb : (if ((([a, b] : List Int).length : Int) == 2) = true then decide (ph < 3) else false) = true := by rw [if_pos (show ((([a, b] : List Int).length : Int) == 2) = true from rfl)]; simpa using hp
  unfold Planadd_v1
  simp only [bnd_eq, sq1, if_true]
  rw [hb]
  simp only [if_true]
  rw [g0, g1, Option.bind_some, Option.bind_some, apd_lt (by simp; omega), Option.bind_some]
  rcases nil_snoc T with rfl | ⟨T0, t, rfl⟩
  · rw [if_neg (by simp)]
  · rw [if_pos (by simp), gx_lastq _ _ (by simp at hT; omega), Option.bind_some]
theorem padd_stop (a b c d : Int) (T0 : List ApiTrain) (t : ApiTrain) (U : List (List Int)) (hT : T0.length < 100000) (ht : t.Stops.length < 100000) :
    Planadd_v1 (str [115, 116, 111, 112]) [a, b, c, d] 1 ⟨T0 ++ [t], U⟩ = some (1, true, T0 ++ [⟨t.No, t.Stock, t.Stops ++ [⟨a, b, c, d⟩], t.Legs⟩], U) := by
  have g0 : gx [a, b, c, d] 0 = some a := rfl
  have g1 : gx [a, b, c, d] 1 = some b := rfl
  have g2 : gx [a, b, c, d] 2 = some c := rfl
  have g3 : gx [a, b, c, d] 3 = some d := rfl
  have hb : (if ((([a, b, c, d] : List Int).length : Int) == 4) = true then ((1 : Int) == 1) else false) = true := rfl
  unfold Planadd_v1
  simp only [bnd_eq, sq2, sq3, if_true, Bool.false_eq_true, if_false]
  rw [hb, if_pos (by simp), gx_lastq _ _ (by omega), Option.bind_some, if_pos rfl, g0, g1, g2, g3, Option.bind_some, Option.bind_some, Option.bind_some, Option.bind_some, apd_lt (by simp; omega), Option.bind_some, set_lastq _ _ _ (by omega)]
theorem padd_leg (ns : List Int) (hn : 0 < ns.length) (ph : Int) (hp : ph = 1 ∨ ph = 2) (T0 : List ApiTrain) (t : ApiTrain) (U : List (List Int)) (hT : T0.length < 100000) (ht : t.Legs.length < 100000) :
    Planadd_v1 (str [108, 101, 103]) ns ph ⟨T0 ++ [t], U⟩ = some (2, true, T0 ++ [⟨t.No, t.Stock, t.Stops, t.Legs ++ [ns]⟩], U) := by
  have hb : (if decide (((ns.length : Nat) : Int) > 0) = true then (if (ph == 1) = true then true else (ph == 2)) else false) = true := by
    rw [if_pos (by simp; omega)]
    rcases hp with rfl | rfl <;> rfl
  unfold Planadd_v1
  simp only [bnd_eq, sq4, sq5, sq6, if_true, Bool.false_eq_true, if_false]
  rw [hb, if_pos (by simp), gx_lastq _ _ (by omega), Option.bind_some, if_pos rfl, apd_lt (by simp; omega), Option.bind_some, set_lastq _ _ _ (by omega)]
theorem padd_turn (ns : List Int) (hn : 0 < ns.length) (ph : Int) (T : List ApiTrain) (U : List (List Int)) (hT : T.length < 100000) (hU : U.length < 100000) :
    Planadd_v1 (str [116, 117, 114, 110]) ns ph ⟨T, U⟩ = some (3, true, T, U ++ [ns]) := by
  have hb : decide (((ns.length : Nat) : Int) > 0) = true := by simp; omega
  unfold Planadd_v1
  simp only [bnd_eq, sq7, sq8, sq9, sq10, if_true, Bool.false_eq_true, if_false]
  rw [hb]
  simp only [if_true]
  rw [apd_lt (by simp; omega), Option.bind_some]
  rcases nil_snoc T with rfl | ⟨T0, t, rfl⟩
  · rw [if_neg (by simp)]
  · rw [if_pos (by simp), gx_lastq _ _ (by simp at hT; omega), Option.bind_some]
theorem cut_tl (v : ByteArray) (ws : List ByteArray) : cutl (v :: ws) 1 (((v :: ws).length : Nat) : Int) = some ws := by
  rw [cutl_in (by omega) (by simp; omega) (Int.le_refl _)]
  simp
structure DI (k : Nat) (ph : Int) (w : ByteArray) (T : List ApiTrain) (U : List (List Int)) : Prop where
  st : (k = 0 ∧ ph = 0 ∧ w = str [116, 117, 114, 110] ∧ T = [] ∧ U = []) ∨ (0 < k ∧ U = [] ∧ (∃ T0 t, T = T0 ++ [t]) ∧ ((ph = 1 ∧ (w = str [116, 114, 97, 105, 110] ∨ w = str [115, 116, 111, 112])) ∨ (ph = 2 ∧ w = str [108, 101, 103]))) ∨ (0 < k ∧ ph = 3 ∧ w = str [116, 117, 114, 110] ∧ U ≠ [])
  tl : T.length ≤ k
  ul : U.length ≤ k
  il : ∀ t ∈ T, t.Stops.length ≤ k ∧ t.Legs.length ≤ k
  int : ∀ t ∈ T, InApiTrain t
  inu : ∀ u ∈ U, ∀ x ∈ u, inI x
/-! the document's step -/
section
variable {fu : Nat} {x v w : ByteArray} {ws : List ByteArray} {ns : List Int} {k : Nat} {T : List ApiTrain} {U : List (List Int)} {rest : List ByteArray}
theorem ref_bad (h1 : splitq x (str [32]) = some (v :: ws)) (h2 : Fishref1Numbers fu ws 6 = some ([], false)) : Fishref2dayOf.loop1 fu (x :: rest) k w [] [] T U = some (.ret (⟨[], []⟩, false)) := by
  rw [Fishref2dayOf.loop1, h1, Option.bind_some, cut_tl, Option.bind_some, h2, Option.bind_some]
  rfl
theorem ref_train {a b : Int} (h1 : splitq x (str [32]) = some (str [116, 114, 97, 105, 110] :: ws)) (h2 : Fishref1Numbers fu ws 6 = some ([a, b], true)) (hT : T.length < 100000) : Fishref2dayOf.loop1 fu (x :: rest) k w [] [] T [] = Fishref2dayOf.loop1 fu rest (k + 1) (str [116, 114, 97, 105, 110]) [] [] (T ++ [⟨a, b, [], []⟩]) [] := by
  have g0 : gx [a, b] 0 = some a := rfl
  have g1 : gx [a, b] 1 = some b := rfl
  have hb : (if ((([a, b] : List Int).length : Int) == 2) = true then ((([] : List (List Int)).length : Int) == 0) else false) = true := rfl
  rw [Fishref2dayOf.loop1, h1, Option.bind_some, cut_tl, Option.bind_some, h2, Option.bind_some]
  simp only [Bool.not_true, Bool.false_eq_true, if_false]
  rw [show gx (str [116, 114, 97, 105, 110] :: ws) 0 = some (str [116, 114, 97, 105, 110]) from rfl, Option.bind_some]
  simp only [sq1, if_true, bnd_eq]
  rw [hb]
  simp only [if_true]
  rw [g0, g1, Option.bind_some, Option.bind_some, apd_lt (by simp; omega)]
  rfl
theorem ref_stop {a b c d : Int} {T0 : List ApiTrain} {t : ApiTrain} (h1 : splitq x (str [32]) = some (str [115, 116, 111, 112] :: ws)) (h2 : Fishref1Numbers fu ws 6 = some ([a, b, c, d], true)) (hk : 0 < k) (hw : w = str [116, 114, 97, 105, 110] ∨ w = str [115, 116, 111, 112]) (hT : T0.length < 100000) (ht : t.Stops.length < 100000) :
    Fishref2dayOf.loop1 fu (x :: rest) k w [] [] (T0 ++ [t]) U = Fishref2dayOf.loop1 fu rest (k + 1) (str [115, 116, 111, 112]) [] [] (T0 ++ [⟨t.No, t.Stock, t.Stops ++ [⟨a, b, c, d⟩], t.Legs⟩]) U := by
  have g0 : gx [a, b, c, d] 0 = some a := rfl
  have g1 : gx [a, b, c, d] 1 = some b := rfl
  have g2 : gx [a, b, c, d] 2 = some c := rfl
  have g3 : gx [a, b, c, d] 3 = some d := rfl
  have hb : (if ((([a, b, c, d] : List Int).length : Int) == 4) = true then (if decide (((k : Nat) : Int) > 0) = true then (if seq w (str [116, 114, 97, 105, 110]) = true then true else (seq w (str [115, 116, 111, 112]))) else false) else false) = true := by
    rw [if_pos (show ((([a, b, c, d] : List Int).length : Int) == 4) = true from rfl), if_pos (by simp; omega)]
    rcases hw with rfl | rfl <;> rfl
  rw [Fishref2dayOf.loop1, h1, Option.bind_some, cut_tl, Option.bind_some, h2, Option.bind_some]
  simp only [Bool.not_true, Bool.false_eq_true, if_false]
  rw [show gx (str [115, 116, 111, 112] :: ws) 0 = some (str [115, 116, 111, 112]) from rfl, Option.bind_some]
  simp only [sq2, sq3, if_true, bnd_eq, Bool.false_eq_true, if_false]
  rw [hb]
  simp only [if_true]
  rw [gx_lastq _ _ (by omega), Option.bind_some, g0, g1, g2, g3, Option.bind_some, Option.bind_some, Option.bind_some, Option.bind_some, apd_lt (by simp; omega), Option.bind_some, set_lastq _ _ _ (by omega)]
  rfl
theorem ref_leg {T0 : List ApiTrain} {t : ApiTrain} (h1 : splitq x (str [32]) = some (str [108, 101, 103] :: ws)) (h2 : Fishref1Numbers fu ws 6 = some (ns, true)) (hn : 0 < ns.length) (hk : 0 < k) (hw : w = str [116, 114, 97, 105, 110] ∨ w = str [115, 116, 111, 112] ∨ w = str [108, 101, 103]) (hT : T0.length < 100000) (ht : t.Legs.length < 100000) :
    Fishref2dayOf.loop1 fu (x :: rest) k w [] [] (T0 ++ [t]) U = Fishref2dayOf.loop1 fu rest (k + 1) (str [108, 101, 103]) [] [] (T0 ++ [⟨t.No, t.Stock, t.Stops, t.Legs ++ [ns]⟩]) U := by
  have hb : (if decide (((ns.length : Nat) : Int) > 0) = true then (if decide (((k : Nat) : Int) > 0) = true then !(seq w (str [116, 117, 114, 110])) else false) else false) = true := by
    rw [if_pos (by simp; omega), if_pos (by simp; omega)]
    rcases hw with rfl | rfl | rfl <;> rfl
  rw [Fishref2dayOf.loop1, h1, Option.bind_some, cut_tl, Option.bind_some, h2, Option.bind_some]
  simp only [Bool.not_true, Bool.false_eq_true, if_false]
  rw [show gx (str [108, 101, 103] :: ws) 0 = some (str [108, 101, 103]) from rfl, Option.bind_some]
  simp only [sq4, sq5, sq6, if_true, bnd_eq, Bool.false_eq_true, if_false]
  rw [hb]
  simp only [if_true]
  rw [gx_lastq _ _ (by omega), Option.bind_some, apd_lt (by simp; omega), Option.bind_some, set_lastq _ _ _ (by omega)]
  rfl
theorem ref_turn (h1 : splitq x (str [32]) = some (str [116, 117, 114, 110] :: ws)) (h2 : Fishref1Numbers fu ws 6 = some (ns, true)) (hn : 0 < ns.length) (hU : U.length < 100000) :
    Fishref2dayOf.loop1 fu (x :: rest) k w [] [] T U = Fishref2dayOf.loop1 fu rest (k + 1) (str [116, 117, 114, 110]) [] [] T (U ++ [ns]) := by
  have hb : decide (((ns.length : Nat) : Int) > 0) = true := by simp; omega
  rw [Fishref2dayOf.loop1, h1, Option.bind_some, cut_tl, Option.bind_some, h2, Option.bind_some]
  simp only [Bool.not_true, Bool.false_eq_true, if_false]
  rw [show gx (str [116, 117, 114, 110] :: ws) 0 = some (str [116, 117, 114, 110]) from rfl, Option.bind_some]
  simp only [sq7, sq8, sq9, sq10, if_true, bnd_eq, Bool.false_eq_true, if_false]
  rw [hb]
  simp only [if_true]
  rw [apd_lt (by simp; omega)]
  rfl
theorem ref_no (h1 : splitq x (str [32]) = some (v :: ws)) (h2 : Fishref1Numbers fu ws 6 = some (ns, true))
    (c1 : v = str [116, 114, 97, 105, 110] → ns.length = 2 → U ≠ []) (c2 : v = str [115, 116, 111, 112] → ns.length = 4 → 0 < k → w ≠ str [116, 114, 97, 105, 110] ∧ w ≠ str [115, 116, 111, 112]) (c3 : v = str [108, 101, 103] → 0 < ns.length → 0 < k → w = str [116, 117, 114, 110]) (c4 : v = str [116, 117, 114, 110] → ns.length = 0) :
    Fishref2dayOf.loop1 fu (x :: rest) k w [] [] T U = some (.ret (⟨[], []⟩, false)) := by
  rw [Fishref2dayOf.loop1, h1, Option.bind_some, cut_tl, Option.bind_some, h2, Option.bind_some]
  simp only [Bool.not_true, Bool.false_eq_true, if_false]
  rw [show gx (v :: ws) 0 = some v from rfl, Option.bind_some]
  by_cases e1 : v = str [116, 114, 97, 105, 110]
  · subst e1
    have hb : (if (((ns.length : Nat) : Int) == 2) = true then (((U.length : Nat) : Int) == 0) else false) = false := by
      by_cases h : ns.length = 2
      · rw [if_pos (by simp; omega), beq_eq_false_iff_ne]
        have := c1 rfl h
        cases U with
        | nil => exact absurd rfl this
        | cons u U => simp; omega
      · rw [if_neg (by simp; omega)]
    simp only [sq1, if_true, bnd_eq]
    rw [hb]
    rfl
  · have n1 : seq v (str [116, 114, 97, 105, 110]) = false := Bool.eq_false_iff.2 fun h => e1 (ba_ext ((seq_iff _ _).1 h))
    by_cases e2 : v = str [115, 116, 111, 112]
    · subst e2
      have hb : (if (((ns.length : Nat) : Int) == 4) = true then (if decide (((k : Nat) : Int) > 0) = true then (if seq w (str [116, 114, 97, 105, 110]) = true then true else (seq w (str [115, 116, 111, 112]))) else false) else false) = false := by
        by_cases h : ns.length = 4
        · rw [if_pos (by simp; omega)]
          by_cases hk : 0 < k
          · obtain ⟨a1, a2⟩ := c2 rfl h hk
            rw [if_pos (by simp; omega), if_neg (fun q => a1 (ba_ext ((seq_iff _ _).1 q)))]
            exact Bool.eq_false_iff.2 fun q => a2 (ba_ext ((seq_iff _ _).1 q))
          · rw [if_neg (by simp; omega)]
        · rw [if_neg (by simp; omega)]
      simp only [sq2, sq3, if_true, bnd_eq, Bool.false_eq_true, if_false]
      rw [hb]
      rfl
    · have n2 : seq v (str [115, 116, 111, 112]) = false := Bool.eq_false_iff.2 fun h => e2 (ba_ext ((seq_iff _ _).1 h))
      by_cases e3 : v = str [108, 101, 103]
      · subst e3
        have hb : (if decide (((ns.length : Nat) : Int) > 0) = true then (if decide (((k : Nat) : Int) > 0) = true then !(seq w (str [116, 117, 114, 110])) else false) else false) = false := by
          by_cases h : 0 < ns.length
          · rw [if_pos (by simp; omega)]
            by_cases hk : 0 < k
            · rw [if_pos (by simp; omega), c3 rfl h hk]; rfl
            · rw [if_neg (by rw [decide_eq_true_eq]; omega)]
          · rw [if_neg (by rw [decide_eq_true_eq]; omega)]
        simp only [sq4, sq5, sq6, if_true, bnd_eq, Bool.false_eq_true, if_false]
        rw [hb]
        rfl
      · have n3 : seq v (str [108, 101, 103]) = false := Bool.eq_false_iff.2 fun h => e3 (ba_ext ((seq_iff _ _).1 h))
        by_cases e4 : v = str [116, 117, 114, 110]
        · subst e4
          have hb : decide (((ns.length : Nat) : Int) > 0) = false := by rw [c4 rfl]; rfl
          simp only [sq7, sq8, sq9, sq10, if_true, bnd_eq, Bool.false_eq_true, if_false]
          rw [hb]
          rfl
        · have n4 : seq v (str [116, 117, 114, 110]) = false := Bool.eq_false_iff.2 fun h => e4 (ba_ext ((seq_iff _ _).1 h))
          simp only [n1, n2, n3, n4, Bool.false_eq_true, if_false, Option.bind_some]
          rfl
end
/-! a day read -/
theorem gx_get {α : Type} {l : List α} {k : Nat} {x : α} (h : l[k]? = some x) : gx l (k : Int) = some x := by rw [gx_nat, h]
theorem day_loop {fu : Nat} (hf : 10 ≤ fu) {L : List ByteArray} {W : List (List ByteArray)} (hlen : W.length = L.length) (hL : L.length ≤ 30000)
    (hrel : ∀ (i : Nat) (x : ByteArray), L[i]? = some x → ∃ v ws, splitq x (str [32]) = some (v :: ws) ∧ W[i]? = some (v :: ws) ∧ (∀ y ∈ ws, y.size ≤ 30000) ∧ ws.length < 100000) (is : Bool) :
    ∀ (n k : Nat) (ph : Int) (w : ByteArray) (T : List ApiTrain) (U : List (List Int)), k + n = W.length → DI k ph w T U →
      (∃ ph' w' T' U', PlanRead.loop1 (W, is) n k ph [] [] T U = some (.next (ph', [], [], T', U')) ∧ Fishref2dayOf.loop1 fu (L.drop k) k w [] [] T U = some (.next (w', [], [], T', U')) ∧ InApiDay ⟨T', U'⟩) ∨
      (PlanRead.loop1 (W, is) n k ph [] [] T U = some (.ret (⟨[], []⟩, 10)) ∧ Fishref2dayOf.loop1 fu (L.drop k) k w [] [] T U = some (.ret (⟨[], []⟩, false)))
  | 0, k, ph, w, T, U, hk, hd => by
    rw [List.drop_eq_nil_of_le (by omega)]
    exact .inl ⟨ph, w, T, U, rfl, rfl, hd.int, hd.inu⟩
  | n + 1, k, ph, w, T, U, hk, hd => by
    have hkL : k < L.length := by omega
    obtain ⟨v, ws, h1, h2, h3, h4⟩ := hrel k _ (List.getElem?_eq_getElem hkL)
    have hT : T.length < 100000 := by have := hd.tl; omega
    have hU : U.length < 100000 := by have := hd.ul; omega
    rw [List.drop_eq_getElem_cons hkL, PlanRead.loop1]
    simp only
    rw [gx_get h2, Option.bind_some, cut_tl, Option.bind_some]
    rcases words_ok hf ws h3 h4 with ⟨ns, k1, k2, k3, k4, k5⟩ | ⟨xx, b, k3, k4, k5⟩
    · rw [k3, Option.bind_some, Option.bind_some]
      simp only
      rw [k4, Option.bind_some, Bool.not_true, if_neg (by decide), show gx (v :: ws) 0 = some v from rfl, Option.bind_some]
      have hin : ∀ x ∈ ns, inI x := fun x hx => in6 (k2 x hx)
      have fail : Planadd_v1 v ns ph ⟨T, U⟩ = some (0, false, T, U) → Fishref2dayOf.loop1 fu (L[k] :: L.drop (k + 1)) k w [] [] T U = some (.ret (⟨[], []⟩, false)) →
          (∃ ph' w' T' U', ((Planadd_v1 v ns ph ⟨T, U⟩).bind fun q182 => (if !q182.2.1 then some (.ret ((ApiDay.mk [] []), 10)) else PlanRead.loop1 (W, is) n (k + 1) q182.1 [] [] q182.2.2.1 q182.2.2.2)) = some (.next (ph', [], [], T', U')) ∧ Fishref2dayOf.loop1 fu (L[k] :: L.drop (k + 1)) k w [] [] T U = some (.next (w', [], [], T', U')) ∧ InApiDay ⟨T', U'⟩) ∨
          (((Planadd_v1 v ns ph ⟨T, U⟩).bind fun q182 => (if !q182.2.1 then some (.ret ((ApiDay.mk [] []), 10)) else PlanRead.loop1 (W, is) n (k + 1) q182.1 [] [] q182.2.2.1 q182.2.2.2)) = some (.ret (⟨[], []⟩, 10)) ∧ Fishref2dayOf.loop1 fu (L[k] :: L.drop (k + 1)) k w [] [] T U = some (.ret (⟨[], []⟩, false))) := fun a b => .inr ⟨by rw [a]; rfl, b⟩
      have good : ∀ {ph2 : Int} {T2 : List ApiTrain} {U2 : List (List Int)}, Planadd_v1 v ns ph ⟨T, U⟩ = some (ph2, true, T2, U2) → Fishref2dayOf.loop1 fu (L[k] :: L.drop (k + 1)) k w [] [] T U = Fishref2dayOf.loop1 fu (L.drop (k + 1)) (k + 1) v [] [] T2 U2 → DI (k + 1) ph2 v T2 U2 →
          (∃ ph' w' T' U', ((Planadd_v1 v ns ph ⟨T, U⟩).bind fun q182 => (if !q182.2.1 then some (.ret ((ApiDay.mk [] []), 10)) else PlanRead.loop1 (W, is) n (k + 1) q182.1 [] [] q182.2.2.1 q182.2.2.2)) = some (.next (ph', [], [], T', U')) ∧ Fishref2dayOf.loop1 fu (L[k] :: L.drop (k + 1)) k w [] [] T U = some (.next (w', [], [], T', U')) ∧ InApiDay ⟨T', U'⟩) ∨
          (((Planadd_v1 v ns ph ⟨T, U⟩).bind fun q182 => (if !q182.2.1 then some (.ret ((ApiDay.mk [] []), 10)) else PlanRead.loop1 (W, is) n (k + 1) q182.1 [] [] q182.2.2.1 q182.2.2.2)) = some (.ret (⟨[], []⟩, 10)) ∧ Fishref2dayOf.loop1 fu (L[k] :: L.drop (k + 1)) k w [] [] T U = some (.ret (⟨[], []⟩, false))) := fun {ph2 T2 U2} a b c => by
        have ih := day_loop hf hlen hL hrel is n (k + 1) ph2 v T2 U2 (by omega) c
        rw [b, a, Option.bind_some]
        exact ih
      by_cases e1 : v = str [116, 114, 97, 105, 110] ∧ ns.length = 2 ∧ ph < 3
      · obtain ⟨rfl, e2, e3⟩ := e1
        obtain ⟨a, b, rfl⟩ : ∃ a b, ns = [a, b] := by
          match ns, e2 with
          | [a, b], _ => exact ⟨a, b, rfl⟩
        have hU0 : U = [] := by
          rcases hd.st with ⟨_, _, _, _, z⟩ | ⟨_, z, _⟩ | ⟨_, z, _⟩
          · exact z
          · exact z
          · omega
        subst hU0
        refine good (padd_train a b ph e3 T [] hT) (ref_train h1 k5 hT) ⟨.inr (.inl ⟨by omega, rfl, ⟨T, _, rfl⟩, .inl ⟨rfl, .inl rfl⟩⟩), by simp; have := hd.tl; omega, by simp, ?_, ?_, by simp⟩
        · intro t ht
          rcases List.mem_append.1 ht with ht | ht
          · have := hd.il t ht; omega
          · simp at ht; subst ht; simp
        · intro t ht
          rcases List.mem_append.1 ht with ht | ht
          · exact hd.int t ht
          · simp at ht; subst ht
            exact ⟨hin a (by simp), hin b (by simp), by intro x hx; simp at hx, by intro x hx; simp at hx⟩
      · by_cases e2 : v = str [115, 116, 111, 112] ∧ ns.length = 4 ∧ ph = 1
        · obtain ⟨rfl, e3, rfl⟩ := e2
          obtain ⟨a, b, c, d, rfl⟩ : ∃ a b c d, ns = [a, b, c, d] := by
            match ns, e3 with
            | [a, b, c, d], _ => exact ⟨a, b, c, d, rfl⟩
          obtain ⟨k0, hU0, ⟨T0, t, rfl⟩, hw⟩ : 0 < k ∧ U = [] ∧ (∃ T0 t, T = T0 ++ [t]) ∧ (w = str [116, 114, 97, 105, 110] ∨ w = str [115, 116, 111, 112]) := by
            rcases hd.st with ⟨_, z, _⟩ | ⟨z1, z2, z3, ⟨_, z4⟩ | ⟨z4, _⟩⟩ | ⟨_, z, _⟩
            · omega
            · exact ⟨z1, z2, z3, z4⟩
            · omega
            · omega
          subst hU0
          have hl := hd.il t (by simp)
          simp only [List.length_append, List.length_cons, List.length_nil] at hT
          have htl := hd.tl
          simp only [List.length_append, List.length_cons, List.length_nil] at htl
          refine good (padd_stop a b c d T0 t [] (by omega) (by omega)) (ref_stop h1 k5 k0 hw (by omega) (by omega)) ⟨.inr (.inl ⟨by omega, rfl, ⟨T0, _, rfl⟩, .inl ⟨rfl, .inr rfl⟩⟩), by simp; omega, by simp, ?_, ?_, by simp⟩
          · intro u hu
            rcases List.mem_append.1 hu with hu | hu
            · have := hd.il u (by simp [hu]); omega
            · simp at hu; subst hu; simp; omega
          · intro u hu
            rcases List.mem_append.1 hu with hu | hu
            · exact hd.int u (by simp [hu])
            · simp at hu; subst hu
              obtain ⟨i1, i2, i3, i4⟩ := hd.int t (by simp)
              refine ⟨i1, i2, fun x hx => ?_, i4⟩
              rcases List.mem_append.1 hx with hx | hx
              · exact i3 x hx
              · simp at hx; subst hx; exact ⟨hin a (by simp), hin b (by simp), hin c (by simp), hin d (by simp)⟩
        · by_cases e3 : v = str [108, 101, 103] ∧ 0 < ns.length ∧ (ph = 1 ∨ ph = 2)
          · obtain ⟨rfl, e4, e5⟩ := e3
            obtain ⟨k0, hU0, ⟨T0, t, rfl⟩, hw⟩ : 0 < k ∧ U = [] ∧ (∃ T0 t, T = T0 ++ [t]) ∧ (w = str [116, 114, 97, 105, 110] ∨ w = str [115, 116, 111, 112] ∨ w = str [108, 101, 103]) := by
              rcases hd.st with ⟨_, z, _⟩ | ⟨z1, z2, z3, ⟨_, z4⟩ | ⟨_, z4⟩⟩ | ⟨_, z, _⟩
              · omega
              · exact ⟨z1, z2, z3, z4.elim .inl (fun h => .inr (.inl h))⟩
              · exact ⟨z1, z2, z3, .inr (.inr z4)⟩
              · omega
            subst hU0
            have hl := hd.il t (by simp)
            simp only [List.length_append, List.length_cons, List.length_nil] at hT
            have htl := hd.tl
            simp only [List.length_append, List.length_cons, List.length_nil] at htl
            refine good (padd_leg ns e4 ph e5 T0 t [] (by omega) (by omega)) (ref_leg h1 k5 e4 k0 hw (by omega) (by omega)) ⟨.inr (.inl ⟨by omega, rfl, ⟨T0, _, rfl⟩, .inr ⟨rfl, rfl⟩⟩), by simp; omega, by simp, ?_, ?_, by simp⟩
            · intro u hu
              rcases List.mem_append.1 hu with hu | hu
              · have := hd.il u (by simp [hu]); omega
              · simp at hu; subst hu; simp; omega
            · intro u hu
              rcases List.mem_append.1 hu with hu | hu
              · exact hd.int u (by simp [hu])
              · simp at hu; subst hu
                obtain ⟨i1, i2, i3, i4⟩ := hd.int t (by simp)
                refine ⟨i1, i2, i3, fun x hx => ?_⟩
                rcases List.mem_append.1 hx with hx | hx
                · exact i4 x hx
                · simp at hx; subst hx; exact hin
          · by_cases e4 : v = str [116, 117, 114, 110] ∧ 0 < ns.length
            · obtain ⟨rfl, e5⟩ := e4
              have hul := hd.ul
              refine good (padd_turn ns e5 ph T U hT hU) (ref_turn h1 k5 e5 hU) ⟨.inr (.inr ⟨by omega, rfl, rfl, by simp⟩), by have := hd.tl; omega, by simp; omega, fun t ht => by have := hd.il t ht; omega, hd.int, fun u hu => ?_⟩
              rcases List.mem_append.1 hu with hu | hu
              · exact hd.inu u hu
              · simp at hu; subst hu; exact hin
            · refine fail (padd_no v ns ph T U hT e1 e2 e3 e4) (ref_no h1 k5 (fun a1 a2 a3 => ?_) (fun a1 a2 a3 => ?_) (fun a1 a2 a3 => ?_) (fun a1 => ?_))
              · subst a3
                rcases hd.st with ⟨_, z, _⟩ | ⟨_, _, _, ⟨z, _⟩ | ⟨z, _⟩⟩ | ⟨_, _, _, z⟩
                · exact e1 ⟨a1, a2, by omega⟩
                · exact e1 ⟨a1, a2, by omega⟩
                · exact e1 ⟨a1, a2, by omega⟩
                · exact z rfl
              · rcases hd.st with ⟨z, _⟩ | ⟨_, _, _, ⟨z, _⟩ | ⟨_, z⟩⟩ | ⟨_, _, z, _⟩
                · omega
                · exact absurd ⟨a1, a2, z⟩ e2
                · subst z; exact ⟨by decide, by decide⟩
                · subst z; exact ⟨by decide, by decide⟩
              · rcases hd.st with ⟨z, _⟩ | ⟨_, _, _, ⟨z, _⟩ | ⟨z, _⟩⟩ | ⟨_, _, z, _⟩
                · omega
                · exact absurd ⟨a1, a2, .inl z⟩ e3
                · exact absurd ⟨a1, a2, .inr z⟩ e3
                · exact z
              · rcases Nat.eq_zero_or_pos ns.length with z | z
                · exact z
                · exact absurd ⟨a1, z⟩ e4
    · rw [k3, Option.bind_some, Option.bind_some]
      simp only
      rw [k4, Option.bind_some, Bool.not_false, if_pos rfl]
      exact .inr ⟨rfl, ref_bad h1 k5⟩
theorem stop_self (l : List ApiStop) : SlicesEqualLapiStop l l = some true := by
  have key : ∀ (r : List ApiStop) (k : Nat), l.drop k = r → SlicesEqualLapiStop.loop1 l r k = some (.next ()) := by
    intro r
    induction r with
    | nil => intro k _; rfl
    | cons v r ih =>
      intro k hd
      have hk : k < l.length := by
        rcases Nat.lt_or_ge k l.length with c | c
        · exact c
        · rw [List.drop_eq_nil_of_le c] at hd; cases hd
      rw [List.drop_eq_getElem_cons hk] at hd
      injection hd with d1 d2
      rw [SlicesEqualLapiStop.loop1, gx_at hk, Option.bind_some, d1]
      simp only [beq_self_eq_true, Bool.and_self, Bool.not_true, Bool.false_eq_true, if_false]
      exact ih (k + 1) d2
  unfold SlicesEqualLapiStop
  rw [bne_self_eq_false, if_neg (by decide), key l 0 rfl]; rfl
theorem ints_self (l : List Int) : SlicesEqualLint l l = some true := by
  have key : ∀ (r : List Int) (k : Nat), l.drop k = r → SlicesEqualLint.loop1 l r k = some (.next ()) := by
    intro r
    induction r with
    | nil => intro k _; rfl
    | cons v r ih =>
      intro k hd
      have hk : k < l.length := by
        rcases Nat.lt_or_ge k l.length with c | c
        · exact c
        · rw [List.drop_eq_nil_of_le c] at hd; cases hd
      rw [List.drop_eq_getElem_cons hk] at hd
      injection hd with d1 d2
      rw [SlicesEqualLint.loop1, gx_at hk, Option.bind_some, d1]
      simp only [bne_self_eq_false, Bool.false_eq_true, if_false]
      exact ih (k + 1) d2
  unfold SlicesEqualLint
  rw [bne_self_eq_false, if_neg (by decide), key l 0 rfl]; rfl
theorem lists_selfq (l : List (List Int)) : SlicesEqualFuncLLint_v1 l l = some true := by
  have key : ∀ (r : List (List Int)) (k : Nat), l.drop k = r → SlicesEqualFuncLLint_v1.loop1 l r k = some (.next ()) := by
    intro r
    induction r with
    | nil => intro k _; rfl
    | cons v r ih =>
      intro k hd
      have hk : k < l.length := by
        rcases Nat.lt_or_ge k l.length with c | c
        · exact c
        · rw [List.drop_eq_nil_of_le c] at hd; cases hd
      rw [List.drop_eq_getElem_cons hk] at hd
      injection hd with d1 d2
      rw [SlicesEqualFuncLLint_v1.loop1, gx_at hk, Option.bind_some, d1, ints_self, Option.bind_some, Bool.not_true, if_neg (by decide)]
      exact ih (k + 1) d2
  unfold SlicesEqualFuncLLint_v1
  rw [bne_self_eq_false, if_neg (by decide), key l 0 rfl]; rfl
theorem train_self (t : ApiTrain) : Fishref2SameTrain t t = some true := by
  unfold Fishref2SameTrain
  simp only [beq_self_eq_true, if_true, stop_self, Option.bind_some, lists_selfq]
theorem trains_self (l : List ApiTrain) : SlicesEqualFuncLapiTrain_v1 l l = some true := by
  have key : ∀ (r : List ApiTrain) (k : Nat), l.drop k = r → SlicesEqualFuncLapiTrain_v1.loop1 l r k = some (.next ()) := by
    intro r
    induction r with
    | nil => intro k _; rfl
    | cons v r ih =>
      intro k hd
      have hk : k < l.length := by
        rcases Nat.lt_or_ge k l.length with c | c
        · exact c
        · rw [List.drop_eq_nil_of_le c] at hd; cases hd
      rw [List.drop_eq_getElem_cons hk] at hd
      injection hd with d1 d2
      rw [SlicesEqualFuncLapiTrain_v1.loop1, gx_at hk, Option.bind_some, d1, train_self, Option.bind_some, Bool.not_true, if_neg (by decide)]
      exact ih (k + 1) d2
  unfold SlicesEqualFuncLapiTrain_v1
  rw [bne_self_eq_false, if_neg (by decide), key l 0 rfl]; rfl
theorem day_self (d : ApiDay) : Fishref2SameDay d d = some true := by
  unfold Fishref2SameDay
  simp only [trains_self, lists_selfq, Option.bind_some, if_true]
def wd (x : ByteArray) : List ByteArray := (splitq x (str [32])).getD []
theorem wd_v {x : ByteArray} (h : x.size ≤ 30000) : ∃ v ws, splitq x (str [32]) = some (v :: ws) ∧ wd x = v :: ws ∧ (∀ y ∈ ws, y.size ≤ 30000) ∧ ws.length < 100000 := by
  obtain ⟨l, h1, h2, h3, h4⟩ := split_v x (str [32]) h (by decide)
  cases l with
  | nil => simp at h2
  | cons v ws => exact ⟨v, ws, h1, by unfold wd; rw [h1]; rfl, fun y hy => Nat.le_trans (h4 y (by simp [hy])) h, by simp at h3; omega⟩
theorem lines_loop {L : List ByteArray} (hs : ∀ x ∈ L, x.size ≤ 30000) (hl : L.length ≤ 40000) : ∀ (n k : Nat) (q : List (List ByteArray)), k + n = L.length → q.length ≤ k → LineLines.loop1 L n k q = some (q ++ (L.drop k).map wd)
  | 0, k, q, hk, _ => by rw [List.drop_eq_nil_of_le (by omega)]; simp [LineLines.loop1]
  | n + 1, k, q, hk, hq => by
    have hkL : k < L.length := by omega
    obtain ⟨v, ws, h1, h2, _⟩ := wd_v (hs _ (List.getElem_mem hkL))
    rw [LineLines.loop1, gx_at hkL, Option.bind_some, h1, Option.bind_some, apd_lt (by simp; omega), Option.bind_some, lines_loop hs hl n (k + 1) _ (by omega) (by simp; omega), List.drop_eq_getElem_cons hkL, List.map_cons, h2]
    simp
theorem lines_v {x0 : ByteArray} (h : x0.size ≤ 20000) : ∃ W is, LineLines x0 = some (W, is) ∧
    (is = true → ∃ L, Fishref1Lines x0 = some (L, true) ∧ W.length = L.length ∧ L.length ≤ 30000 ∧ ∀ (i : Nat) (x : ByteArray), L[i]? = some x → ∃ v ws, splitq x (str [32]) = some (v :: ws) ∧ W[i]? = some (v :: ws) ∧ (∀ y ∈ ws, y.size ≤ 30000) ∧ ws.length < 100000) ∧
    (is = false → Fishref1Lines x0 = some ([], false)) := by
  unfold LineLines Fishref1Lines
  cases he : seq x0 (str []) with
  | true =>
    simp only [if_true]
    exact ⟨[], true, rfl, fun _ => ⟨[], rfl, rfl, by simp, fun i x hx => by simp at hx⟩, fun h => by cases h⟩
  | false =>
    simp only [Bool.false_eq_true, if_false]
    have hz : 1 ≤ x0.size := by
      rcases Nat.eq_zero_or_pos x0.size with c | c
      · have e : x0.data.toList = [] := List.eq_nil_of_length_eq_zero (by rw [← ba_size]; exact c)
        rw [(seq_iff _ _).2 (by rw [e])] at he
        cases he
      · exact c
    obtain ⟨b, hb⟩ : ∃ b, InternalStringsliteHasSuffix x0 (str [10]) = some b := by
      unfold InternalStringsliteHasSuffix
      have hs1 : (str [10]).size = 1 := rfl
      rw [hs1, if_pos (by simp; omega)]
      have e : w64 (((x0.size : Nat) : Int) - ((1 : Nat) : Int)) = ((x0.size - 1 : Nat) : Int) := by rw [w64_id (by omega)]; omega
      rw [e]
      unfold scut
      rw [if_pos (by omega)]
      exact ⟨_, rfl⟩
    have e : w64 (((x0.size : Nat) : Int) - ((1 : Nat) : Int)) = ((x0.size - 1 : Nat) : Int) := by rw [w64_id (by omega)]; omega
    have hcut : scut x0 0 ((x0.size - 1 : Nat) : Int) = some (x0.extract 0 (x0.size - 1)) := by unfold scut; rw [if_pos (by omega)]; rfl
    have hbs : (x0.extract 0 (x0.size - 1)).size ≤ x0.size := by rw [ba_size, cut_list, ba_size, List.length_drop, List.length_take]; omega
    have hcs : StringsCutSuffix x0 (str [10]) = some (if b then x0.extract 0 (x0.size - 1) else x0, b) := by
      unfold StringsCutSuffix InternalStringsliteCutSuffix
      have hs1 : (str [10]).size = 1 := rfl
      rw [hb, Option.bind_some, hs1]
      cases b with
      | false => rfl
      | true =>
        simp only [Bool.not_true, Bool.false_eq_true, if_false, if_true]
        rw [e, hcut]; rfl
    rw [hcs, Option.bind_some]
    simp only
    have hsz : (if b then x0.extract 0 (x0.size - 1) else x0).size ≤ 20000 := by cases b <;> simp <;> omega
    obtain ⟨L, l1, l2, l3, l4⟩ := split_v _ (str [10]) (Nat.le_trans hsz (by decide)) (by decide)
    have hL : ∀ x ∈ L, x.size ≤ 30000 := fun x hx => Nat.le_trans (l4 x hx) (by omega)
    rw [l1, Option.bind_some, lines_loop hL (by omega) L.length 0 [] (by omega) (by simp), Option.bind_some, List.drop_zero, List.nil_append]
    refine ⟨L.map wd, b, rfl, fun hbt => ?_, fun hbf => ?_⟩
    · subst hbt
      refine ⟨L, ?_, by simp, by omega, fun i x hx => ?_⟩
      · unfold StringsHasSuffix
        rw [hb, Option.bind_some, Option.bind_some, Bool.not_true, if_neg (by decide)]
        have e1 : w64 (((x0.size : Nat) : Int) - 1) = ((x0.size - 1 : Nat) : Int) := e
        rw [e1, hcut, Option.bind_some]
        have l2 : splitq (x0.extract 0 (x0.size - 1)) (str [10]) = some L := l1
        rw [l2]; rfl
      · obtain ⟨v, ws, h1, h2, h3, h4⟩ := wd_v (hL x (List.mem_of_getElem? hx))
        exact ⟨v, ws, h1, by rw [List.getElem?_map, hx]; simp [h2], h3, h4⟩
    · subst hbf
      unfold StringsHasSuffix
      rw [hb]; rfl
theorem plans_ok : Fishlaw2plans = some true := by kernel_rfl
/-- what is read is what the document reads -/
theorem read_ok (x0 : ByteArray) : ∃ d e, PlanRead x0 = some (d, e) ∧ Fishref2ReadDay 100 x0 = some (d, e) := by
  unfold PlanRead Fishref2ReadDay
  by_cases c : ((x0.size : Nat) : Int) > 20000
  · rw [if_pos (by simpa using c), if_pos (by simpa using c)]; exact ⟨_, _, rfl, rfl⟩
  · rw [if_neg (by simpa using c), if_neg (by simpa using c)]
    obtain ⟨W, is, h1, h2, h3⟩ := lines_v (x0 := x0) (by omega)
    rw [h1, Option.bind_some]
    cases is with
    | false => rw [h3 rfl]; exact ⟨_, _, rfl, rfl⟩
    | true =>
      obtain ⟨L, k1, k2, k3, k4⟩ := h2 rfl
      rw [k1, Option.bind_some]
      simp only [Bool.not_true, Bool.false_eq_true, if_false]
      unfold Fishref2dayOf
      have hd0 : DI 0 0 (str [116, 117, 114, 110]) [] [] := ⟨.inl ⟨rfl, rfl, rfl, rfl, rfl⟩, by simp, by simp, by simp, by simp, by simp⟩
      rcases day_loop (fu := 100) (by decide) k2 k3 k4 true W.length 0 0 _ [] [] (by omega) hd0 with ⟨ph', w', T', U', a1, a2, a3⟩ | ⟨a1, a2⟩
      · rw [a1, Option.bind_some]
        rw [List.drop_zero] at a2
        rw [a2, Option.bind_some]
        simp only
        rw [Option.bind_some]
        simp only [Bool.not_true, Bool.false_eq_true, if_false]
        obtain ⟨e, b, t1, t2, _⟩ := text_ok a3
        rw [t1, t2, Option.bind_some, Option.bind_some]
        simp only
        cases (e != 0) <;> exact ⟨_, _, rfl, rfl⟩
      · rw [a1, Option.bind_some]
        rw [List.drop_zero] at a2
        rw [a2]; exact ⟨_, _, rfl, rfl⟩
theorem PlanReads_law (x0 : ByteArray) (_hx0 : x0.size ≤ 9223372036854775807) : ∃ fu, Fishlaw2PlanReads fu x0 = some true := by
  refine ⟨100, ?_⟩
  obtain ⟨d, e, h1, h2⟩ := read_ok x0
  rw [Fishlaw2PlanReads, h1, h2, plans_ok]
  simp only [Option.bind_some, if_true, beq_self_eq_true, day_self]
end Go.Fp
