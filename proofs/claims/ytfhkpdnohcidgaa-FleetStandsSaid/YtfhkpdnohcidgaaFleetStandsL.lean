/- FleetStands: the mirror of the law is true of all shifts, rosters, limits and absences. -/
import Derived.Test.YtfhkpdnohcidgaaFleetStandsM
import Derived.Test.YtfhkpdnohcidgaaFpPlain
namespace Go.Fp

theorem within_ref : Fishref2within = Fleetwithin := rfl
theorem limits_loop : ∀ l, Fishref2LimitsFault.loop1 l = FleetCheckLimits.loop1 l
  | [] => rfl
  | x :: r => by simp only [Fishref2LimitsFault.loop1, FleetCheckLimits.loop1, limits_loop r]; rfl
theorem limits_ref (x : FleetLimits) : Fishref2LimitsFault x = FleetCheckLimits x := by
  unfold Fishref2LimitsFault FleetCheckLimits; rw [limits_loop]; rfl
theorem within_len {n : Int} {m : Nat} (hm : m ≤ 9223372036854775807) : (!Fleetwithin n 0 (w64 ((m : Int) - 1))) = (if decide (n < 0) then true else decide (n ≥ (m : Int))) := by
  rw [w64_id (by omega)]
  unfold Fleetwithin bnd
  by_cases h : n < 0
  · have h1 : ¬ n ≥ 0 := by omega
    simp [h, h1]
  · have h1 : n ≥ 0 := by omega
    have h2 : decide (n ≤ (m : Int) - 1) = !decide (n ≥ (m : Int)) := by
      by_cases hh : n ≥ (m : Int) <;> simp [hh] <;> omega
    simp [h, h1, h2]

theorem within_iff (n a b : Int) : Fleetwithin n a b = decide (a ≤ n ∧ n ≤ b) := by
  unfold Fleetwithin bnd
  by_cases h : n ≥ a
  · by_cases h2 : n ≤ b <;> simp [h, h2]
  · simp [h]

theorem shifts_loop : ∀ l, Fishref2ShiftsFault.loop1 l = FleetCheckShifts.loop1 l
  | [] => rfl
  | x :: r => by simp only [Fishref2ShiftsFault.loop1, FleetCheckShifts.loop1, shifts_loop r]; rfl
theorem shifts_ref (l : List FleetShift) : Fishref2ShiftsFault l = FleetCheckShifts l := by
  unfold Fishref2ShiftsFault FleetCheckShifts; rw [shifts_loop]
/-- what right shifts are -/
structure Ok (s : FleetShift) : Prop where
  d0 : 0 ≤ s.Day
  d1 : s.Day ≤ 6
  s0 : 0 ≤ s.Start
  s1 : s.Start ≤ 28800
  e0 : 0 ≤ s.End
  e1 : s.End ≤ 28800

theorem shifts_ok : ∀ l, FleetCheckShifts.loop1 l = .next () → ∀ s ∈ l, Ok s
  | [], _ => by simp
  | x :: r, h => by
    simp only [FleetCheckShifts.loop1, within_iff, bnd_eq] at h
    by_cases h1 : 0 ≤ x.Day ∧ x.Day ≤ 6
    · by_cases h2 : 0 ≤ x.Start ∧ x.Start ≤ 28800
      · by_cases h3 : 0 ≤ x.End ∧ x.End ≤ 28800
        · by_cases h4 : x.End ≤ x.Start
          · simp [h1, h2, h3, h4] at h
          · simp [h1, h2, h3, h4] at h
            intro s hs
            rcases List.mem_cons.1 hs with rfl | hs
            · exact ⟨h1.1, h1.2, h2.1, h2.2, h3.1, h3.2⟩
            · exact shifts_ok r h s hs
        · simp [h1, h2, h3] at h
      · simp [h1, h2] at h
    · simp [h1] at h

theorem check_ok (l : List FleetShift) (h : FleetCheckShifts l = 0) : l.length ≤ 8 ∧ ∀ s ∈ l, Ok s := by
  unfold FleetCheckShifts at h
  by_cases h1 : (l.length : Int) > 8
  · simp [h1] at h
  · simp only [h1, decide_false, Bool.false_eq_true, if_false, bnd_eq] at h
    refine ⟨by omega, ?_⟩
    rcases h2 : FleetCheckShifts.loop1 l with r | _
    · rw [h2] at h
      exact absurd h (by
        have : ∀ l r, FleetCheckShifts.loop1 l = .ret r → r ≠ 0 := by
          intro l
          induction l with
          | nil => intro r h; simp [FleetCheckShifts.loop1] at h
          | cons x l ih =>
            intro r h
            simp only [FleetCheckShifts.loop1, bnd_eq] at h
            generalize (if (!Fleetwithin x.Day 0 6) = true then true else if (!Fleetwithin x.Start 0 28800) = true then true else !Fleetwithin x.End 0 28800) = b at h
            cases b with
            | true => simp at h; subst h; decide
            | false =>
              simp only [Bool.false_eq_true, if_false] at h
              by_cases hc : x.End ≤ x.Start
              · simp [hc] at h; subst h; decide
              · simp only [hc, decide_false, Bool.false_eq_true, if_false] at h
                exact ih r h
        exact this l r h2)
    · exact shifts_ok l h2
/-- the shift number i -/
def sh (l : List FleetShift) (i : Int) : FleetShift := (l[i.toNat]?).getD default
theorem gx_sh {l : List FleetShift} {i : Int} (h : 0 ≤ i ∧ i < l.length) : gx l i = some (sh l i) := by
  have : i.toNat < l.length := by omega
  simp [gx, h.1, sh, this]
theorem sh_ok {l : List FleetShift} (hl : ∀ s ∈ l, Ok s) {i : Int} (h : 0 ≤ i ∧ i < l.length) : Ok (sh l i) := by
  have h2 : i.toNat < l.length := by omega
  have e : sh l i = l[i.toNat] := by simp [sh, h2]
  rw [e]; exact hl _ (List.getElem_mem h2)

/-! pairs -/
def same (s t : FleetShift) : Bool := s.Day == t.Day
/-- a later one of the list, an earlier one -/
def g3 (x : FleetLimits) (a b : FleetShift) : Bool :=
  if a.Day > b.Day then (b.Day != a.Day && decide ((w64 ((w64 ((w64 ((w64 (a.Day * 86400)) + a.Start)) - (w64 (b.Day * 86400)))) - b.End)) < x.Rest))
  else (a.Day != b.Day && decide ((w64 ((w64 ((w64 ((w64 (b.Day * 86400)) + b.Start)) - (w64 (a.Day * 86400)))) - a.End)) < x.Rest))
/-- an earlier one, a later one -/
def r3 (x : FleetLimits) (a b : FleetShift) : Bool := decide ((mx (w64 ((Fishref2begins b) - (Fishref2ends a))) (w64 ((Fishref2begins a) - (Fishref2ends b)))) < x.Rest)

theorem g3_r3 (x : FleetLimits) {a b : FleetShift} (ha : Ok a) (hb : Ok b) (h : same b a = false) : g3 x a b = r3 x b a := by
  have hne : b.Day ≠ a.Day := by simpa [same] using h
  have h1 := ha.d0; have h2 := ha.d1; have h3 := ha.s0; have h4 := ha.s1; have h5 := ha.e0; have h6 := ha.e1
  have k1 := hb.d0; have k2 := hb.d1; have k3 := hb.s0; have k4 := hb.s1; have k5 := hb.e0; have k6 := hb.e1
  unfold g3 r3 Fishref2begins Fishref2ends mx
  rw [w64_id (x := a.Day * 86400) (by omega), w64_id (x := b.Day * 86400) (by omega), w64_id (x := a.Day * 86400 + a.Start) (by omega), w64_id (x := b.Day * 86400 + b.Start) (by omega),
    w64_id (x := a.Day * 86400 + a.End) (by omega), w64_id (x := b.Day * 86400 + b.End) (by omega)]
  rw [w64_id (x := a.Day * 86400 + a.Start - b.Day * 86400) (by omega), w64_id (x := b.Day * 86400 + b.Start - a.Day * 86400) (by omega)]
  rw [w64_id (x := a.Day * 86400 + a.Start - b.Day * 86400 - b.End) (by omega), w64_id (x := b.Day * 86400 + b.Start - a.Day * 86400 - a.End) (by omega),
    w64_id (x := a.Day * 86400 + a.Start - (b.Day * 86400 + b.End)) (by omega), w64_id (x := b.Day * 86400 + b.Start - (a.Day * 86400 + a.End)) (by omega)]
  by_cases hc : a.Day > b.Day
  · have e1 : (b.Day != a.Day) = true := by simpa using hne
    have e2 : ¬ (b.Day * 86400 + b.Start - (a.Day * 86400 + a.End) > a.Day * 86400 + a.Start - (b.Day * 86400 + b.End)) := by omega
    rw [if_pos hc, e1, if_neg e2, Bool.true_and]
    congr 1
    apply propext
    constructor <;> intro h <;> omega
  · have e1 : (a.Day != b.Day) = true := by simp; exact fun e => hne e.symm
    have e2 : b.Day * 86400 + b.Start - (a.Day * 86400 + a.End) > a.Day * 86400 + a.Start - (b.Day * 86400 + b.End) := by omega
    rw [if_neg hc, e1, if_pos e2, Bool.true_and]
    congr 1
    apply propext
    constructor <;> intro h <;> omega

theorem g3_same (x : FleetLimits) {a b : FleetShift} (h : same b a = true) : g3 x a b = false := by
  have : b.Day = a.Day := by simpa [same] using h
  simp [g3, this]

/-- a pair, the earlier one first, for which f is true -/
def pairs (f : Int → Int → Bool) : List Int → Bool
  | [] => false
  | a :: r => r.any (f a) || pairs f r
/-- the same, seen from the later ones -/
def back (f : Int → Int → Bool) : List Int → List Int → Bool
  | _, [] => false
  | pre, a :: r => pre.any (fun b => f b a) || back f (pre ++ [a]) r
theorem back_pairs (f : Int → Int → Bool) : ∀ (r pre : List Int), back f pre r = (r.any (fun a => pre.any (fun b => f b a)) || pairs f r)
  | [], pre => by simp [back, pairs]
  | a :: r, pre => by
    rw [back, back_pairs f r, pairs]
    rw [Bool.eq_iff_iff]
    simp only [List.any_append, List.any_cons, List.any_nil, Bool.or_false, Bool.or_eq_true, List.any_eq_true]
    constructor
    · rintro (h | ⟨c, hc, h | h⟩ | h)
      · exact .inl (.inl h)
      · exact .inl (.inr ⟨c, hc, h⟩)
      · exact .inr (.inl ⟨c, hc, h⟩)
      · exact .inr (.inr h)
    · rintro ((h | ⟨c, hc, h⟩) | ⟨c, hc, h⟩ | h)
      · exact .inl h
      · exact .inr (.inl ⟨c, hc, .inl h⟩)
      · exact .inr (.inl ⟨c, hc, .inr h⟩)
      · exact .inr (.inr h)

theorem pairs_congr (f g : Int → Int → Bool) : ∀ (d : List Int), (∀ a ∈ d, ∀ b ∈ d, f a b = g a b) → pairs f d = pairs g d
  | [], _ => rfl
  | a :: r, h => by
    rw [pairs, pairs, pairs_congr f g r (fun a ha b hb => h a (by simp [ha]) b (by simp [hb]))]
    congr 1
    rw [Bool.eq_iff_iff]
    simp only [List.any_eq_true]
    constructor
    · rintro ⟨c, hc, hh⟩; exact ⟨c, hc, by rw [← h a (by simp) c (by simp [hc])]; exact hh⟩
    · rintro ⟨c, hc, hh⟩; exact ⟨c, hc, by rw [h a (by simp) c (by simp [hc])]; exact hh⟩

theorem pairs_not (f g : Int → Int → Bool) : ∀ (d : List Int), pairs f d = false → (∀ a ∈ d, ∀ b ∈ d, f a b = false → g a b = f a b ∨ True) → True := fun _ _ _ => trivial

/-- where no pair has the same day, two readings of pairs that agree on the others agree -/
theorem pairs_apart (e f g : Int → Int → Bool) : ∀ (d : List Int), pairs e d = false → (∀ a ∈ d, ∀ b ∈ d, e a b = false → f a b = g a b) → pairs f d = pairs g d
  | [], _, _ => rfl
  | a :: r, h, hh => by
    simp only [pairs, Bool.or_eq_false_iff] at h
    rw [pairs, pairs, pairs_apart e f g r h.2 (fun a ha b hb => hh a (by simp [ha]) b (by simp [hb]))]
    congr 1
    have hall : ∀ c ∈ r, f a c = g a c := fun c hc => hh a (by simp) c (by simp [hc]) (by
      have := h.1; rw [List.any_eq_false] at this; simpa using this c hc)
    rw [Bool.eq_iff_iff]
    simp only [List.any_eq_true]
    exact ⟨fun ⟨c, hc, q⟩ => ⟨c, hc, by rw [← hall c hc]; exact q⟩, fun ⟨c, hc, q⟩ => ⟨c, hc, by rw [hall c hc]; exact q⟩⟩

section
variable (l : List FleetShift) (x : FleetLimits)

/-- how many of d are on day j -/
def cnt (d : List Int) (j : Nat) : Nat := (d.filter fun a => (sh l a).Day == (j : Int)).length

theorem cnt_cons (a : Int) (d : List Int) (j : Nat) : cnt l (a :: d) j = cnt l d j + if (sh l a).Day = (j : Int) then 1 else 0 := by
  unfold cnt
  by_cases h : (sh l a).Day = (j : Int) <;> simp [h]

theorem cnt_le (d : List Int) (j : Nat) : cnt l d j ≤ d.length := List.length_filter_le _ _

theorem two_pairs (hl : ∀ s ∈ l, Ok s) : ∀ (d : List Int), (∀ i ∈ d, 0 ≤ i ∧ i < l.length) → (pairs (fun a b => same (sh l a) (sh l b)) d = true ↔ ∃ j, j < 7 ∧ cnt l d j > 1)
  | [], _ => by simp [pairs, cnt]
  | a :: r, h => by
    have ha := sh_ok hl (h a (by simp))
    have h1 := ha.d0; have h2 := ha.d1
    have ih := two_pairs hl r (fun i hi => h i (by simp [hi]))
    simp only [pairs, Bool.or_eq_true, ih]
    constructor
    · rintro (hh | ⟨j, hj, hc⟩)
      · obtain ⟨b, hb, hs⟩ := List.any_eq_true.1 hh
        refine ⟨(sh l a).Day.toNat, by omega, ?_⟩
        rw [cnt_cons]
        have e : (sh l a).Day = (((sh l a).Day.toNat : Nat) : Int) := by omega
        rw [if_pos e]
        have hs' : (sh l a).Day = (sh l b).Day := by simpa [same] using hs
        have : 0 < cnt l r (sh l a).Day.toNat := by
          unfold cnt
          apply List.length_pos_of_mem (a := b)
          rw [List.mem_filter]
          exact ⟨hb, by rw [← hs', ← e]; simp⟩
        omega
      · exact ⟨j, hj, by rw [cnt_cons]; omega⟩
    · rintro ⟨j, hj, hc⟩
      rw [cnt_cons] at hc
      by_cases hd : (sh l a).Day = (j : Int)
      · rw [if_pos hd] at hc
        left
        have : 0 < cnt l r j := by omega
        unfold cnt at this
        obtain ⟨b, hb⟩ := List.exists_mem_of_length_pos this
        rw [List.mem_filter] at hb
        exact List.any_eq_true.2 ⟨b, hb.1, by have := hb.2; simp at this; simp [same, hd, this]⟩
      · rw [if_neg hd] at hc
        exact .inr ⟨j, hj, by omega⟩

/-! the program's way -/
theorem db2 (a : Int) (ha : 0 ≤ a ∧ a < l.length) : ∀ (r : List Int) (q : Bool), (∀ i ∈ r, 0 ≤ i ∧ i < l.length) → FleetdriverBreaks.loop2 l x a r q = some (q || r.any (fun b => g3 x (sh l a) (sh l b)))
  | [], q, _ => by simp [FleetdriverBreaks.loop2]
  | b :: r, q, h => by
    have hb := h b (by simp)
    simp only [FleetdriverBreaks.loop2, gx_sh ha, gx_sh hb, Option.bind_some, bnd_eq]
    by_cases hc : (sh l a).Day > (sh l b).Day
    · simp only [hc, decide_true, if_true]
      rw [db2 a ha r _ (fun i hi => h i (by simp [hi]))]
      congr 1
      rw [List.any_cons, g3, if_pos hc, ← Bool.or_assoc]
      congr 1
      cases q <;> cases (sh l b).Day != (sh l a).Day <;> simp
    · simp only [hc, decide_false, Bool.false_eq_true, if_false]
      rw [db2 a ha r _ (fun i hi => h i (by simp [hi]))]
      congr 1
      rw [List.any_cons, g3, if_neg hc, ← Bool.or_assoc]
      congr 1
      cases q <;> cases (sh l a).Day != (sh l b).Day <;> simp

theorem db1 (d : List Int) (hd : d.length ≤ 9223372036854775807) (hl : ∀ s ∈ l, Ok s) (h : ∀ i ∈ d, 0 ≤ i ∧ i < l.length) :
    ∀ (r pre : List Int) (k : Nat) (q : Bool) (days : List Int), d = pre ++ r → k = pre.length → days.length = 7 → (∀ j, j < 7 → days[j]? = some ((cnt l pre j : Nat) : Int)) →
    ∃ days', FleetdriverBreaks.loop1 l d x r k q days = some (q || back (fun b a => g3 x (sh l a) (sh l b)) pre r, days') ∧ days'.length = 7 ∧ ∀ j, j < 7 → days'[j]? = some ((cnt l d j : Nat) : Int)
  | [], pre, k, q, days, hp, _, h7, hc => ⟨days, by simp [FleetdriverBreaks.loop1, back], h7, by rw [hp]; simpa using hc⟩
  | a :: r, pre, k, q, days, hp, hk, h7, hc => by
    have ha := h a (by rw [hp]; simp)
    have hok := sh_ok hl ha
    have h1 := hok.d0; have h2 := hok.d1
    have hj : (sh l a).Day.toNat < 7 := by omega
    have hg : gx days (sh l a).Day = some ((cnt l pre (sh l a).Day.toNat : Nat) : Int) := by unfold gx; rw [if_pos h1]; exact hc _ hj
    have hix : ix days (sh l a).Day = some () := by unfold ix; rw [if_pos ⟨h1, by omega⟩]
    have hsx : ∀ v, sx days (sh l a).Day v = some (days.set (sh l a).Day.toNat v) := by intro v; unfold sx; rw [if_pos ⟨h1, by omega⟩]
    have hcut : cutl d 0 ((k : Nat) : Int) = some pre := by
      unfold cutl
      rw [if_pos ⟨by omega, by omega, by rw [hp, hk]; simp; omega⟩]
      rw [hp, hk]; simp
    have hlen : pre.length < d.length := by rw [hp]; simp
    have hw : w64 (((cnt l pre (sh l a).Day.toNat : Nat) : Int) + 1) = (((cnt l pre (sh l a).Day.toNat + 1 : Nat) : Nat) : Int) := by
      have := cnt_le l pre (sh l a).Day.toNat
      rw [w64_id (by omega)]; omega
    simp only [FleetdriverBreaks.loop1, gx_sh ha, Option.bind_some, hg, hix, hsx, hcut, hw]
    rw [db2 l x a ha pre q (fun i hi => h i (by rw [hp]; simp [hi]))]
    simp only [Option.bind_some]
    have hcnt : ∀ j, cnt l (pre ++ [a]) j = cnt l pre j + if (sh l a).Day = (j : Int) then 1 else 0 := by
      intro j
      unfold cnt
      rw [List.filter_append, List.length_append]
      by_cases hh : (sh l a).Day = (j : Int) <;> simp [hh]
    obtain ⟨days', e1, e2, e3⟩ := db1 d hd hl h r (pre ++ [a]) (k + 1) (q || pre.any (fun b => g3 x (sh l a) (sh l b))) (days.set (sh l a).Day.toNat (((cnt l pre (sh l a).Day.toNat + 1 : Nat) : Nat) : Int))
      (by rw [hp]; simp) (by simp [hk]) (by simpa using h7) (by
        intro j hj7
        rw [hcnt, List.getElem?_set]
        by_cases hh : (sh l a).Day.toNat = j
        · have : (sh l a).Day = (j : Int) := by omega
          rw [if_pos hh, if_pos (by omega), if_pos this, hh]
        · have : ¬ (sh l a).Day = (j : Int) := by omega
          rw [if_neg hh, if_neg this, hc j hj7]; rfl)
    refine ⟨days', ?_, e2, e3⟩
    rw [e1, back, Bool.or_assoc]

/-- runs of days -/
def runs (x : FleetLimits) : List Bool → Int → Bool
  | [], _ => false
  | b :: r, n => if b then decide (n + 1 > x.Row) || runs x r (n + 1) else runs x r 0

theorem db3 : ∀ (days : List Int) (t f : Bool) (n : Int), 0 ≤ n → n + days.length ≤ 9223372036854775807 → (∀ v ∈ days, 0 ≤ v) →
    ∃ n', FleetdriverBreaks.loop3 x days t f n = (t || days.any (fun v => decide (v > 1)), f || runs x (days.map fun v => decide (v > 0)) n, n')
  | [], t, f, n, _, _, _ => ⟨n, by simp [FleetdriverBreaks.loop3, runs]⟩
  | v :: r, t, f, n, h0, hn, hv => by
    simp only [List.length_cons] at hn
    have hv0 := hv v (by simp)
    simp only [FleetdriverBreaks.loop3, bnd_eq]
    by_cases hz : v = 0
    · subst hz
      obtain ⟨n', e⟩ := db3 r (if t then true else decide ((0 : Int) > 1)) f 0 (by omega) (by omega) (fun v h => hv v (by simp [h]))
      refine ⟨n', ?_⟩
      simp only [beq_self_eq_true, if_true, e]
      simp only [List.any_cons, List.map_cons, runs]
      cases t <;> simp
    · have hb : (v == 0) = false := by simpa using hz
      have hp : v > 0 := by omega
      have hw : w64 (n + 1) = n + 1 := w64_id (by omega)
      simp only [hb, Bool.false_eq_true, if_false, hw]
      obtain ⟨n', e⟩ := db3 r (if t then true else decide (v > 1)) (if f then true else decide (n + 1 > x.Row)) (n + 1) (by omega) (by omega) (fun v h => hv v (by simp [h]))
      refine ⟨n', ?_⟩
      rw [e]
      simp only [List.any_cons, List.map_cons, runs, hp, decide_true, if_true]
      cases t <;> cases f <;> simp

def dayB (d : List Int) : List Bool := (List.range 7).map fun j => decide (cnt l d j > 0)

theorem breaks (d : List Int) (hd : d.length ≤ 9223372036854775807) (hl : ∀ s ∈ l, Ok s) (h : ∀ i ∈ d, 0 ≤ i ∧ i < l.length) :
    FleetdriverBreaks l d x = some (pairs (fun a b => same (sh l a) (sh l b)) d, pairs (fun b a => g3 x (sh l a) (sh l b)) d, runs x (dayB l d) 0) := by
  obtain ⟨days, e1, e2, e3⟩ := db1 l x d hd hl h d [] 0 false [0, 0, 0, 0, 0, 0, 0] rfl rfl rfl (by
    intro j hj
    have : j = 0 ∨ j = 1 ∨ j = 2 ∨ j = 3 ∨ j = 4 ∨ j = 5 ∨ j = 6 := by omega
    rcases this with rfl | rfl | rfl | rfl | rfl | rfl | rfl <;> rfl)
  have hdays : days = (List.range 7).map fun j => ((cnt l d j : Nat) : Int) := by
    apply List.ext_getElem?
    intro j
    rcases Nat.lt_or_ge j 7 with hj | hj
    · rw [e3 j hj]; simp [hj]
    · rw [List.getElem?_eq_none (by omega), List.getElem?_eq_none (by simp; omega)]
  obtain ⟨n', e4⟩ := db3 x days false false 0 (by omega) (by rw [e2]; omega) (by rw [hdays]; intro v hv; simp at hv; obtain ⟨j, _, rfl⟩ := hv; omega)
  unfold FleetdriverBreaks
  simp only [e1, Option.bind_some, bnd_eq, e4, Bool.false_or]
  rw [back_pairs]
  have ha : (d.any fun a => ([] : List Int).any fun b => g3 x (sh l a) (sh l b)) = false := by simp
  rw [ha, Bool.false_or]
  congr 2
  · rw [Bool.eq_iff_iff, two_pairs l hl d h, hdays]
    simp only [List.any_eq_true, List.mem_map, List.mem_range]
    constructor
    · rintro ⟨v, ⟨j, hj, rfl⟩, hv⟩; exact ⟨j, hj, by have := of_decide_eq_true hv; omega⟩
    · rintro ⟨j, hj, hc⟩; exact ⟨_, ⟨j, hj, rfl⟩, decide_eq_true (by omega)⟩
  · congr 2
    rw [hdays, dayB, List.map_map]
    congr 1
    funext j
    simp

/-! the reference's way -/
def enc (a b c : Bool) : Int := if a then 2 else if b then 3 else if c then 4 else 0
theorem w2 (a b c : Bool) : Fishref2later_1_v1 2 (enc a b c) = enc true b c := by cases a <;> cases b <;> cases c <;> rfl
theorem w3 (a b c : Bool) : Fishref2later_1_v1 3 (enc a b c) = enc a true c := by cases a <;> cases b <;> cases c <;> rfl
theorem w4 (a b c : Bool) : Fishref2later_1_v1 4 (enc a b c) = enc a b true := by cases a <;> cases b <;> cases c <;> rfl

theorem la3 (a : Int) (ha : 0 ≤ a ∧ a < l.length) : ∀ (r : List Int) (p q c : Bool), (∀ i ∈ r, 0 ≤ i ∧ i < l.length) →
    Fishref2later.loop3 l x a r (enc p q c) = some (enc (p || r.any (fun b => same (sh l a) (sh l b))) (q || r.any (fun b => r3 x (sh l a) (sh l b))) c)
  | [], p, q, c, _ => by simp [Fishref2later.loop3]
  | b :: r, p, q, c, h => by
    have hb := h b (by simp)
    have hr := fun p q => la3 a ha r p q c (fun i hi => h i (by simp [hi]))
    simp only [Fishref2later.loop3, gx_sh ha, gx_sh hb, Option.bind_some, bnd_eq, w2, w3]
    have es : ((sh l a).Day == (sh l b).Day) = same (sh l a) (sh l b) := rfl
    have er : decide ((mx (w64 ((Fishref2begins (sh l b)) - (Fishref2ends (sh l a)))) (w64 ((Fishref2begins (sh l a)) - (Fishref2ends (sh l b))))) < x.Rest) = r3 x (sh l a) (sh l b) := rfl
    rw [es, er]
    simp only [List.any_cons]
    cases h1 : same (sh l a) (sh l b) <;> cases h2 : r3 x (sh l a) (sh l b) <;> simp [hr]

theorem la2 (d : List Int) (hl : ∀ s ∈ l, Ok s) (h : ∀ i ∈ d, 0 ≤ i ∧ i < l.length) : ∀ (r pre : List Int) (k : Nat) (days : List Bool) (p q c : Bool), d = pre ++ r → k = pre.length → days.length = 8 →
    (∀ j, j < 7 → days[j]? = some (decide (cnt l pre j > 0))) → days[7]? = some false →
    ∃ days', Fishref2later.loop2 l x d r k days (enc p q c) = some (days', enc (p || pairs (fun a b => same (sh l a) (sh l b)) r) (q || pairs (fun a b => r3 x (sh l a) (sh l b)) r) c) ∧ days'.length = 8 ∧
      (∀ j, j < 7 → days'[j]? = some (decide (cnt l d j > 0))) ∧ days'[7]? = some false
  | [], pre, k, days, p, q, c, hp, _, h8, hc, hz => ⟨days, by simp [Fishref2later.loop2, pairs], h8, by rw [hp]; simpa using hc, hz⟩
  | a :: r, pre, k, days, p, q, c, hp, hk, h8, hc, hz => by
    have ha := h a (by rw [hp]; simp)
    have hok := sh_ok hl ha
    have h1 := hok.d0; have h2 := hok.d1
    have hix : ix days (sh l a).Day = some () := by unfold ix; rw [if_pos ⟨h1, by omega⟩]
    have hsx : sx days (sh l a).Day true = some (days.set (sh l a).Day.toNat true) := by unfold sx; rw [if_pos ⟨h1, by omega⟩]
    have hcut : cutl d ((k + 1 : Nat) : Int) (d.length : Int) = some r := by
      unfold cutl
      have hlen : d.length = pre.length + 1 + r.length := by rw [hp]; simp; omega
      rw [if_pos ⟨by omega, by omega, by omega⟩]
      simp only [Int.toNat_natCast, List.take_length]
      rw [hp, hk]
      simp
    simp only [Fishref2later.loop2, gx_sh ha, Option.bind_some, hix, hsx, hcut]
    rw [la3 l x a ha r p q c (fun i hi => h i (by rw [hp]; simp [hi]))]
    simp only [Option.bind_some]
    have hcnt : ∀ j, cnt l (pre ++ [a]) j = cnt l pre j + if (sh l a).Day = (j : Int) then 1 else 0 := by
      intro j
      unfold cnt
      rw [List.filter_append, List.length_append]
      by_cases hh : (sh l a).Day = (j : Int) <;> simp [hh]
    obtain ⟨days', e1, e2, e3, e4⟩ := la2 d hl h r (pre ++ [a]) (k + 1) (days.set (sh l a).Day.toNat true) (p || r.any (fun b => same (sh l a) (sh l b))) (q || r.any (fun b => r3 x (sh l a) (sh l b))) c
      (by rw [hp]; simp) (by simp [hk]) (by simpa using h8) (by
        intro j hj7
        rw [hcnt, List.getElem?_set]
        by_cases hh : (sh l a).Day.toNat = j
        · have : (sh l a).Day = (j : Int) := by omega
          rw [if_pos hh, if_pos (by omega), if_pos this]; simp
        · have : ¬ (sh l a).Day = (j : Int) := by omega
          rw [if_neg hh, if_neg this, hc j hj7]; rfl) (by
        rw [List.getElem?_set, if_neg (by omega)]; exact hz)
    refine ⟨days', ?_, e2, e3, e4⟩
    rw [e1, pairs, pairs, Bool.or_assoc, Bool.or_assoc]

theorem la4 (hx : x.Row ≥ 1) (days : List Bool) : ∀ (bs : List Bool) (k : Nat) (n : Int) (p q c : Bool), days.drop k = bs → 0 ≤ n → n + bs.length ≤ 9223372036854775807 →
    ∃ n', Fishref2later.loop4 x days bs.length k n (enc p q c) = some (n', enc p q (c || runs x bs n))
  | [], k, n, p, q, c, _, _, _ => ⟨n, by simp [Fishref2later.loop4, runs]⟩
  | b :: bs, k, n, p, q, c, hd, h0, hn => by
    obtain ⟨d1, d2, d3⟩ := drop_cons hd
    simp only [List.length_cons] at hn ⊢
    simp only [Fishref2later.loop4, gx_nat, d2, Option.bind_some, bnd_eq]
    cases b with
    | false =>
      simp only [Bool.not_false, if_true]
      have : ¬ ((0 : Int) > x.Row) := by omega
      simp only [this, decide_false, Bool.false_eq_true, if_false]
      obtain ⟨n', e⟩ := la4 hx days bs (k + 1) 0 p q c d3 (by omega) (by omega)
      exact ⟨n', by rw [e]; simp [runs]⟩
    | true =>
      have hw : w64 (n + 1) = n + 1 := w64_id (by omega)
      simp only [Bool.not_true, Bool.false_eq_true, if_false, hw]
      by_cases hr : n + 1 > x.Row
      · simp only [hr, decide_true, if_true, w4]
        obtain ⟨n', e⟩ := la4 hx days bs (k + 1) (n + 1) p q true d3 (by omega) (by omega)
        exact ⟨n', by rw [e]; simp [runs, hr]⟩
      · simp only [hr, decide_false, Bool.false_eq_true, if_false]
        obtain ⟨n', e⟩ := la4 hx days bs (k + 1) (n + 1) p q c d3 (by omega) (by omega)
        exact ⟨n', by rw [e]; simp [runs, hr]⟩

theorem runs_snoc (hx : x.Row ≥ 1) : ∀ (bs : List Bool) (n : Int), runs x (bs ++ [false]) n = runs x bs n
  | [], n => by simp [runs]
  | b :: bs, n => by simp only [List.cons_append, runs, runs_snoc hx bs]

/-- one driver -/
theorem driver (hx : x.Row ≥ 1) (d : List Int) (hl : ∀ s ∈ l, Ok s) (h : ∀ i ∈ d, 0 ≤ i ∧ i < l.length) (ds : List (List Int)) (p q c : Bool) :
    Fishref2later.loop1 l x (d :: ds) (enc p q c) = Fishref2later.loop1 l x ds (enc (p || pairs (fun a b => same (sh l a) (sh l b)) d) (q || pairs (fun a b => r3 x (sh l a) (sh l b)) d) (c || runs x (dayB l d) 0)) := by
  have hm : mks 8 (false : Bool) = some (List.replicate 8 false) := rfl
  obtain ⟨days, e1, e2, e3, e4⟩ := la2 l x d hl h d [] 0 (List.replicate 8 false) p q c rfl rfl rfl (by
    intro j hj; rw [List.getElem?_replicate, if_pos (by omega)]; simp [cnt]) rfl
  have hdays : days = dayB l d ++ [false] := by
    apply List.ext_getElem?
    intro j
    rcases Nat.lt_or_ge j 7 with hj | hj
    · rw [e3 j hj, List.getElem?_append_left (by simp [dayB]; omega)]; simp [dayB, hj]
    · rcases Nat.eq_or_lt_of_le hj with rfl | hj'
      · rw [e4]; simp [dayB]
      · rw [List.getElem?_eq_none (by omega), List.getElem?_eq_none (by simp [dayB]; omega)]
  obtain ⟨n', e5⟩ := la4 x hx days days 0 0 (p || pairs (fun a b => same (sh l a) (sh l b)) d) (q || pairs (fun a b => r3 x (sh l a) (sh l b)) d) c rfl (by omega) (by rw [e2]; omega)
  rw [e2] at e5
  rw [Fishref2later.loop1, hm]
  simp only [Option.bind_some, e1, List.length_replicate, e5]
  rw [hdays, runs_snoc x hx]

/-! both -/
theorem or3 (p q c a b e : Bool) : (if p then (if q then (if c then (true, true, true) else (true, true, e)) else (if c then (true, b, true) else (true, b, e))) else (if q then (if c then (a, true, true) else (a, true, e)) else (if c then (a, b, true) else (a, b, e))) : Bool × Bool × Bool) = (p || a, q || b, c || e) := by
  cases p <;> cases q <;> cases c <;> simp

def T (ds : List (List Int)) : Bool := ds.any fun d => pairs (fun a b => same (sh l a) (sh l b)) d
def G (ds : List (List Int)) : Bool := ds.any fun d => pairs (fun b a => g3 x (sh l a) (sh l b)) d
def R3 (ds : List (List Int)) : Bool := ds.any fun d => pairs (fun a b => r3 x (sh l a) (sh l b)) d
def F (ds : List (List Int)) : Bool := ds.any fun d => runs x (dayB l d) 0

theorem later_eq (hx : x.Row ≥ 1) (hl : ∀ s ∈ l, Ok s) : ∀ (ds : List (List Int)) (p q c : Bool), (∀ d ∈ ds, ∀ i ∈ d, 0 ≤ i ∧ i < l.length) →
    Fishref2later.loop1 l x ds (enc p q c) = some (enc (p || T l ds) (q || R3 l x ds) (c || F l x ds))
  | [], p, q, c, _ => by simp [Fishref2later.loop1, T, R3, F]
  | d :: ds, p, q, c, h => by
    rw [driver l x hx d hl (h d (by simp)), later_eq hx hl ds _ _ _ (fun d hd => h d (by simp [hd]))]
    simp only [T, R3, F, List.any_cons, Bool.or_assoc]
theorem G_R3 (hl : ∀ s ∈ l, Ok s) : ∀ (ds : List (List Int)), (∀ d ∈ ds, ∀ i ∈ d, 0 ≤ i ∧ i < l.length) → T l ds = false → G l x ds = R3 l x ds
  | [], _, _ => rfl
  | d :: ds, h, ht => by
    simp only [T, List.any_cons, Bool.or_eq_false_iff] at ht
    have ih := G_R3 hl ds (fun d hd => h d (by simp [hd])) ht.2
    simp only [G, R3, List.any_cons] at ih ⊢
    rw [ih]
    congr 1
    refine pairs_apart _ _ _ d ht.1 ?_
    intro a ha b hb hs
    exact g3_r3 x (sh_ok hl (h d (by simp) b hb)) (sh_ok hl (h d (by simp) a ha)) hs

end
theorem equal_refl (l : List Int) : SlicesEqualLint l l = some true := by
  have key : ∀ (r : List Int) (k : Nat), l.drop k = r → SlicesEqualLint.loop1 l r k = some (.next ()) := by
    intro r
    induction r with
    | nil => intro k _; rfl
    | cons v r ih =>
      intro k hd
      obtain ⟨d1, d2, d3⟩ := drop_cons hd
      simp only [SlicesEqualLint.loop1, gx_nat, d2, Option.bind_some, bne_self_eq_false, Bool.false_eq_true, if_false]
      exact ih (k + 1) d3
  unfold SlicesEqualLint
  simp [key l 0 rfl]

theorem crews_true : Fishlaw2crews = some true := by decide +kernel

theorem limits_ok (x : FleetLimits) (h : FleetCheckLimits x = 0) : x.Row ≥ 1 := by
  unfold FleetCheckLimits at h
  simp only [bnd_eq] at h
  rcases h1 : FleetCheckLimits.loop1 [x.Change, x.Long, x.Work, x.After, x.Break, x.Rest] with c | _
  · rw [h1] at h
    exfalso
    have : ∀ r c, FleetCheckLimits.loop1 r = .ret c → c ≠ 0 := by
      intro r
      induction r with
      | nil => intro c h; simp [FleetCheckLimits.loop1] at h
      | cons y r ih =>
        intro c h
        simp only [FleetCheckLimits.loop1] at h
        cases hb : Fleetwithin y 0 86400 with
        | true => simp [hb] at h; exact ih c h
        | false => simp [hb] at h; subst h; decide
    exact this _ c h1 h
  · rw [h1] at h
    simp only [within_iff] at h
    by_cases hr : 1 ≤ x.Row ∧ x.Row ≤ 7
    · exact hr.1
    · simp [hr] at h
/-! lists of digits in order -/
/-- the next list of digits below D; the last ones first -/
def incR (D : Int) : List Int → Option (List Int)
  | [] => none
  | d :: t => if d = D - 1 then (incR D t).map (0 :: ·) else some ((d + 1) :: t)
def inc (D : Int) (v : List Int) : Option (List Int) := (incR D v.reverse).map List.reverse
theorem inc_nil (D : Int) : inc D [] = none := rfl
theorem inc_snoc (D : Int) (p : List Int) (d : Int) : inc D (p ++ [d]) = if d = D - 1 then (inc D p).map (· ++ [0]) else some (p ++ [d + 1]) := by
  unfold inc
  rw [List.reverse_append, List.reverse_singleton, List.singleton_append, incR]
  by_cases h : d = D - 1
  · rw [if_pos h, if_pos h]
    cases incR D p.reverse <;> simp
  · rw [if_neg h, if_neg h]; simp
theorem inc_len {D : Int} : ∀ {p q : List Int}, inc D p = some q → q.length = p.length := by
  have key : ∀ {p q : List Int}, incR D p = some q → q.length = p.length := by
    intro p
    induction p with
    | nil => intro q h; cases h
    | cons d t ih =>
      intro q h
      rw [incR] at h
      by_cases c : d = D - 1
      · rw [if_pos c] at h
        cases k : incR D t with
        | none => rw [k] at h; cases h
        | some t' => rw [k] at h; injection h with h; subst h; simp [ih k]
      · rw [if_neg c] at h; injection h with h; subst h; simp
  intro p q h
  unfold inc at h
  cases k : incR D p.reverse with
  | none => rw [k] at h; cases h
  | some t' => rw [k] at h; injection h with h; subst h; have := key k; simpa using this
/-- digits -/
def Dig (D : Int) (v : List Int) : Prop := ∀ d ∈ v, 0 ≤ d ∧ d < D
theorem inc_dig {D : Int} (hD : 1 ≤ D) : ∀ {p q : List Int}, inc D p = some q → Dig D p → Dig D q := by
  have key : ∀ {p q : List Int}, incR D p = some q → Dig D p → Dig D q := by
    intro p
    induction p with
    | nil => intro q h; cases h
    | cons d t ih =>
      intro q h hd
      rw [incR] at h
      have h1 := hd d (List.mem_cons_self ..)
      have h2 : Dig D t := fun e he => hd e (List.mem_cons_of_mem _ he)
      by_cases c : d = D - 1
      · rw [if_pos c] at h
        cases k : incR D t with
        | none => rw [k] at h; cases h
        | some t' =>
          rw [k] at h; injection h with h; subst h
          intro e he
          rcases List.mem_cons.1 he with rfl | he
          · omega
          · exact ih k h2 e he
      · rw [if_neg c] at h; injection h with h; subst h
        intro e he
        rcases List.mem_cons.1 he with rfl | he
        · omega
        · exact h2 e he
  intro p q h hd
  unfold inc at h
  cases k : incR D p.reverse with
  | none => rw [k] at h; cases h
  | some t' =>
    rw [k] at h; injection h with h; subst h
    have := key k (fun e he => hd e (List.mem_reverse.1 he))
    exact fun e he => this e (List.mem_reverse.1 he)

section
variable {σ τ : Type} (D : Nat) (take : List Int → σ → Bool × σ)
/-- the digits from D - j on behind a beginning, in order; it ends when one is taken -/
def Cd (g : List Int → σ → Bool × σ) : Nat → List Int → σ → Bool × σ
  | 0, _, st => (false, st)
  | j + 1, p, st => if (g (p ++ [((D - (j + 1) : Nat) : Int)]) st).1 then (true, (g (p ++ [((D - (j + 1) : Nat) : Int)]) st).2) else Cd g j p (g (p ++ [((D - (j + 1) : Nat) : Int)]) st).2
/-- all lists of digits behind a beginning, in order -/
def Cn : Nat → List Int → σ → Bool × σ
  | 0, p, st => take p st
  | m + 1, p, st => Cd D (Cn m) D p st
theorem dig_snoc {p : List Int} (hp : Dig D p) {d : Int} (h0 : 0 ≤ d) (h1 : d < D) : Dig (D : Int) (p ++ [d]) := by
  intro e he
  rcases List.mem_append.1 he with he | he
  · exact hp e he
  · simp at he; subst he; exact ⟨h0, h1⟩

/-- a loop that goes from list to list -/
theorem block (hD : 1 ≤ D) (n : Nat) (F : Nat → List Int → σ → Option (Out (Bool × σ) τ))
    (step : ∀ N v st, v.length = n → Dig D v → F (N + 1) v st = if (take v st).1 then some (.ret (true, (take v st).2)) else match inc D v with | none => some (.ret (false, (take v st).2)) | some v' => F N v' (take v st).2) :
    ∀ (m : Nat) (p : List Int) (N : Nat) (st : σ), p.length + m = n → Dig D p →
      F (D ^ m + N) (p ++ List.replicate m 0) st = if (Cn D take m p st).1 then some (.ret (true, (Cn D take m p st).2)) else match inc D p with | none => some (.ret (false, (Cn D take m p st).2)) | some p' => F N (p' ++ List.replicate m 0) (Cn D take m p st).2 := by
  intro m
  induction m with
  | zero =>
    intro p N st hn hp
    rw [Nat.pow_zero, Nat.add_comm 1 N, List.replicate_zero, List.append_nil, step N p st (by simpa using hn) hp, Cn]
    simp
  | succ m ih =>
    have run : ∀ (j : Nat), j < D → ∀ (p : List Int) (N : Nat) (st : σ), p.length + (m + 1) = n → Dig D p →
        F ((j + 1) * D ^ m + N) (p ++ [((D - (j + 1) : Nat) : Int)] ++ List.replicate m 0) st = if (Cd D (Cn D take m) (j + 1) p st).1 then some (.ret (true, (Cd D (Cn D take m) (j + 1) p st).2)) else match inc D p with | none => some (.ret (false, (Cd D (Cn D take m) (j + 1) p st).2)) | some p' => F N (p' ++ List.replicate (m + 1) 0) (Cd D (Cn D take m) (j + 1) p st).2 := by
      intro j
      induction j with
      | zero =>
        intro hj p N st hn hp
        have hl : ∀ d : Int, (p ++ [d]).length + m = n := by intro d; rw [List.length_append, List.length_singleton]; omega
        have h0 : (0 : Int) ≤ ((D - 1 : Nat) : Int) := by omega
        have h1 : ((D - 1 : Nat) : Int) < (D : Int) := by omega
        have h2 : ((D - 1 : Nat) : Int) = (D : Int) - 1 := by omega
        have e := ih (p ++ [((D - 1 : Nat) : Int)]) N st (hl _) (dig_snoc D hp h0 h1)
        rw [inc_snoc, if_pos h2] at e
        simp only [Nat.zero_add, Nat.one_mul, Cd]
        rw [e]
        by_cases c : (Cn D take m (p ++ [((D - 1 : Nat) : Int)]) st).1 = true
        · simp only [if_pos c]; rfl
        · simp only [if_neg c]
          cases inc (D : Int) p with
          | none => rfl
          | some p' => simp [List.replicate_succ]
      | succ j ihj =>
        intro hj p N st hn hp
        have e : (j + 1 + 1) * D ^ m + N = D ^ m + ((j + 1) * D ^ m + N) := by rw [Nat.add_mul (j + 1) 1, Nat.one_mul]; omega
        have hl : ∀ d : Int, (p ++ [d]).length + m = n := by intro d; rw [List.length_append, List.length_singleton]; omega
        have h0 : (0 : Int) ≤ ((D - (j + 1 + 1) : Nat) : Int) := by omega
        have h1 : ((D - (j + 1 + 1) : Nat) : Int) < (D : Int) := by omega
        have h2 : ¬ ((D - (j + 1 + 1) : Nat) : Int) = (D : Int) - 1 := by omega
        have h3 : ((D - (j + 1 + 1) : Nat) : Int) + 1 = ((D - (j + 1) : Nat) : Int) := by omega
        have e' := ih (p ++ [((D - (j + 1 + 1) : Nat) : Int)]) ((j + 1) * D ^ m + N) st (hl _) (dig_snoc D hp h0 h1)
        rw [inc_snoc, if_neg h2] at e'
        rw [e, e', Cd]
        by_cases c : (Cn D take m (p ++ [((D - (j + 1 + 1) : Nat) : Int)]) st).1 = true
        · simp only [if_pos c]; rfl
        · simp only [if_neg c, h3]
          exact ihj (by omega) p N (Cn D take m (p ++ [((D - (j + 1 + 1) : Nat) : Int)]) st).2 hn hp
    intro p N st hn hp
    obtain ⟨j, rfl⟩ : ∃ j, D = j + 1 := ⟨D - 1, by omega⟩
    have h := run j (by omega) p N st hn hp
    rw [Nat.sub_self] at h
    rw [Nat.pow_succ, Nat.mul_comm, Cn]
    rw [List.append_assoc, List.singleton_append] at h
    rw [List.replicate_succ]
    exact h
end

/-- the odometer's inner loop -/
theorem odo (D : Int) (hD : 1 ≤ D ∧ D ≤ 1000) (L : Nat → Int → List Int → Option (Int × List Int))
    (step : ∀ N k v, L (N + 1) k v = ((if decide (k ≥ 0) then ((gx v k).bind fun x => some (x == (w64 (D - 1)))) else some false) : Option Bool).bind fun q => (if q then ((ix v k).bind fun _ => ((sx v k 0).bind fun y => L N (w64 (k - 1)) y)) else some (k, v))) :
    ∀ (n : Nat) (q z : List Int) (N : Nat), q.length = n → n ≤ 1000000 → n < N → Dig D q →
      (inc D q = none → ∃ v', L N ((n : Int) - 1) (q ++ z) = some (-1, v')) ∧
      (∀ q', inc D q = some q' → ∃ k v' y, L N ((n : Int) - 1) (q ++ z) = some (k, v') ∧ 0 ≤ k ∧ gx v' k = some y ∧ ix v' k = some () ∧ sx v' k (w64 (y + 1)) = some (q' ++ z)) := by
  intro n
  induction n with
  | zero =>
    intro q z N hq _ hN _
    obtain rfl := List.eq_nil_of_length_eq_zero hq
    obtain ⟨M, rfl⟩ : ∃ M, N = M + 1 := ⟨N - 1, by omega⟩
    refine ⟨fun _ => ⟨z, ?_⟩, fun q' h => by cases h⟩
    rw [step]; simp
  | succ n ih =>
    intro q z N hq hb hN hdig
    obtain ⟨p, d, rfl⟩ : ∃ p d, q = p ++ [d] := ⟨q.dropLast, q.getLast (by intro h; subst h; simp at hq), (List.dropLast_concat_getLast _).symm⟩
    have hp : p.length = n := by simpa using hq
    obtain ⟨M, rfl⟩ : ∃ M, N = M + 1 := ⟨N - 1, by omega⟩
    have hd := hdig d (by simp)
    have hk : ((n + 1 : Nat) : Int) - 1 = (n : Int) := by omega
    have hlen : n < (p ++ [d] ++ z).length := by simp; omega
    have hget : gx (p ++ [d] ++ z) (n : Int) = some d := by rw [gx_nat, List.append_assoc, List.getElem?_append_right (by omega), hp]; simp
    have hset : ∀ e, (p ++ [d] ++ z).set n e = p ++ (e :: z) := by
      intro e
      rw [List.append_assoc, List.set_append_right _ _ (by omega), hp]; simp
    have hw : w64 (D - 1) = D - 1 := w64_id (by omega)
    rw [hk, step, hget, hw, inc_snoc]
    simp only [Option.bind_some, show ((n : Int) ≥ 0) = True by simp, decide_true, if_true]
    by_cases c : d = D - 1
    · have cb : (d == D - 1) = true := by simpa using c
      rw [cb, ix_in (by omega) (by omega), sx_in (by omega) (by omega), Int.toNat_natCast, hset, if_pos c]
      simp only [Option.bind_some, if_true]
      rw [w64_id (by omega)]
      obtain ⟨h1, h2⟩ := ih p (0 :: z) M hp (by omega) (by omega) (fun e he => hdig e (by simp [he]))
      refine ⟨fun h => h1 (by cases k : inc D p with | none => rfl | some p' => rw [k] at h; cases h), fun q' h => ?_⟩
      cases k : inc D p with
      | none => rw [k] at h; cases h
      | some p' =>
        rw [k] at h; injection h with h; subst h
        have := h2 p' k
        simpa using this
    · have cb : (d == D - 1) = false := by simpa using c
      rw [cb, if_neg c]
      refine ⟨fun h => (by cases h), fun q' h => ?_⟩
      injection h with h; subst h
      refine ⟨(n : Int), p ++ [d] ++ z, d, by simp, by omega, hget, ix_in (by omega) (by omega), ?_⟩
      rw [w64_id (by omega), sx_in (by omega) (by omega), Int.toNat_natCast, hset]
      simp
/-! the checks of a roster -/
theorem ros_loop2 (l : List FleetShift) (hl : l.length ≤ 9223372036854775807) : ∀ r, Fishref2RosterFault.loop2 l r = FleetcheckRoster.loop2 l r
  | [] => rfl
  | x :: r => by
    simp only [Fishref2RosterFault.loop2, FleetcheckRoster.loop2, ros_loop2 l hl r, bnd_eq]
    rw [within_len hl]
theorem ros_loop1 (l : List FleetShift) (hl : l.length ≤ 9223372036854775807) : ∀ r, Fishref2RosterFault.loop1 l r = FleetcheckRoster.loop1 l r
  | [] => rfl
  | x :: r => by simp only [Fishref2RosterFault.loop1, FleetcheckRoster.loop1, ros_loop1 l hl r, ros_loop2 l hl]
theorem roster_ref (l : List FleetShift) (hl : l.length ≤ 9223372036854775807) (r : List (List Int)) : Fishref2RosterFault l r = FleetcheckRoster l r := by
  unfold Fishref2RosterFault FleetcheckRoster; rw [ros_loop1 l hl]

theorem ros_in2 (l : List FleetShift) (hl : l.length ≤ 9223372036854775807) : ∀ r, FleetcheckRoster.loop2 l r = .next () → ∀ i ∈ r, 0 ≤ i ∧ i < l.length
  | [], _ => by simp
  | x :: r, h => by
    simp only [FleetcheckRoster.loop2, within_len hl] at h
    by_cases h1 : x < 0
    · simp [h1] at h
    by_cases h2 : x ≥ (l.length : Int)
    · simp [h1, h2] at h
    simp only [h1, h2, decide_false, Bool.false_eq_true, if_false] at h
    intro i hi
    rcases List.mem_cons.1 hi with rfl | hi
    · omega
    · exact ros_in2 l hl r h i hi
theorem ros_ret2 (l : List FleetShift) : ∀ r c, FleetcheckRoster.loop2 l r = .ret c → c ≠ 0
  | [], c, h => by simp [FleetcheckRoster.loop2] at h
  | x :: r, c, h => by
    simp only [FleetcheckRoster.loop2] at h
    split at h
    · injection h with h; subst h; decide
    · exact ros_ret2 l r c h
theorem ros_in1 (l : List FleetShift) (hl : l.length ≤ 9223372036854775807) : ∀ r, (∀ c, FleetcheckRoster.loop1 l r = .ret c → c ≠ 0) ∧ (FleetcheckRoster.loop1 l r = .next () → ∀ d ∈ r, ∀ i ∈ d, 0 ≤ i ∧ i < l.length)
  | [] => ⟨by simp [FleetcheckRoster.loop1], by simp⟩
  | x :: r => by
    obtain ⟨h1, h2⟩ := ros_in1 l hl r
    simp only [FleetcheckRoster.loop1, bnd_eq]
    rcases h3 : FleetcheckRoster.loop2 l x with c | _
    · refine ⟨?_, by simp⟩
      intro c' h; injection h with h; subst h; exact ros_ret2 l x c h3
    · refine ⟨h1, fun h d hd => ?_⟩
      rcases List.mem_cons.1 hd with rfl | hd
      · exact ros_in2 l hl d h3
      · exact h2 h d hd
theorem roster_ok (l : List FleetShift) (hl : l.length ≤ 9223372036854775807) (r : List (List Int)) (h : FleetcheckRoster l r = 0) : r.length ≤ 4 ∧ ∀ d ∈ r, ∀ i ∈ d, 0 ≤ i ∧ i < l.length := by
  unfold FleetcheckRoster at h
  by_cases h1 : (r.length : Int) > 4
  · simp [h1] at h
  · simp only [h1, decide_false, Bool.false_eq_true, if_false, bnd_eq] at h
    obtain ⟨h2, h3⟩ := ros_in1 l hl r
    rcases h4 : FleetcheckRoster.loop1 l r with c | _
    · rw [h4] at h; exact absurd h (h2 c h4)
    · exact ⟨by omega, h3 h4⟩

section
variable (l : List FleetShift) (x : FleetLimits)
theorem cnts (ds : List Int) : ∀ (m : List Int), m.length = l.length → (∀ i ∈ ds, 0 ≤ i ∧ i < l.length) → ∃ m', FleetjudgeRoster.loop2 ds m = some m' ∧ Fishref2RosterCode.loop2 ds m = some m' ∧ m'.length = l.length := by
  induction ds with
  | nil => intro m hm _; exact ⟨m, rfl, rfl, hm⟩
  | cons i ds ih =>
    intro m hm h
    have hi := h i (by simp)
    have hg : gx m i = some (m[i.toNat]'(by omega)) := by unfold gx; rw [if_pos hi.1]; exact List.getElem?_eq_getElem (by omega)
    have hix : ix m i = some () := by unfold ix; rw [if_pos ⟨hi.1, by omega⟩]
    have hsx : ∀ v, sx m i v = some (m.set i.toNat v) := by intro v; unfold sx; rw [if_pos ⟨hi.1, by omega⟩]
    simp only [FleetjudgeRoster.loop2, Fishref2RosterCode.loop2, hg, hix, hsx, Option.bind_some]
    exact ih _ (by simpa using hm) (fun j hj => h j (by simp [hj]))

theorem judge_loop (hl : ∀ s ∈ l, Ok s) : ∀ (ds : List (List Int)) (p q c : Bool) (m : List Int), (∀ d ∈ ds, d.length ≤ 9223372036854775807) → (∀ d ∈ ds, ∀ i ∈ d, 0 ≤ i ∧ i < l.length) → m.length = l.length →
    ∃ m', FleetjudgeRoster.loop1 l x ds p q c m = some (p || T l ds, q || G l x ds, c || F l x ds, m') ∧ Fishref2RosterCode.loop1 ds m = some m' ∧ m'.length = l.length
  | [], p, q, c, m, _, _, hm => ⟨m, by simp [FleetjudgeRoster.loop1, T, G, F], rfl, hm⟩
  | d :: ds, p, q, c, m, hs, h, hm => by
    obtain ⟨m1, e1, e2, e3⟩ := cnts l d m hm (h d (by simp))
    simp only [FleetjudgeRoster.loop1, Fishref2RosterCode.loop1, e1, e2, Option.bind_some, breaks l x d (hs d (by simp)) hl (h d (by simp)), bnd_eq, or3]
    obtain ⟨m', e4, e5, e6⟩ := judge_loop hl ds (p || pairs (fun a b => same (sh l a) (sh l b)) d) (q || pairs (fun b a => g3 x (sh l a) (sh l b)) d) (c || runs x (dayB l d) 0) m1 (fun d hd => hs d (by simp [hd])) (fun d hd => h d (by simp [hd])) e3
    refine ⟨m', ?_, e5, e6⟩
    rw [e4]
    simp only [T, G, F, List.any_cons, Bool.or_assoc]

theorem ones (m : List Int) : ∀ (r : List Int) (k j : Nat), m.drop k = r →
    (SlicesIndexFuncLint_v1.loop1 r j = .next () ∧ Fishref2RosterCode.loop3 m r.length k = some (.next ())) ∨ ((∃ i : Nat, SlicesIndexFuncLint_v1.loop1 r j = .ret (i : Int)) ∧ Fishref2RosterCode.loop3 m r.length k = some (.ret 1))
  | [], k, j, _ => .inl ⟨rfl, rfl⟩
  | v :: r, k, j, hd => by
    obtain ⟨d1, d2, d3⟩ := drop_cons hd
    simp only [SlicesIndexFuncLint_v1.loop1, FleetjudgeRoster_1, List.length_cons, Fishref2RosterCode.loop3, gx_nat, d2, Option.bind_some]
    by_cases hv : v = 1
    · subst hv
      simp only [bne_self_eq_false, Bool.false_eq_true, if_false]
      exact ones m r (k + 1) (j + 1) d3
    · have hb : (v != 1) = true := by simpa using hv
      simp only [hb, if_true]
      exact .inr ⟨⟨j, rfl⟩, trivial⟩

theorem code_eq (hx : x.Row ≥ 1) (hl : ∀ s ∈ l, Ok s) (hn : l.length ≤ 8) (ds : List (List Int)) (hs : ∀ d ∈ ds, d.length ≤ 9223372036854775807) (h : ∀ d ∈ ds, ∀ i ∈ d, 0 ≤ i ∧ i < l.length) :
    ∃ c, FleetjudgeRoster l ds x = some c ∧ Fishref2RosterCode l ds x = some c := by
  have hm : mks (l.length : Int) (0 : Int) = some (List.replicate l.length 0) := by unfold mks; rw [if_pos ⟨by omega, by omega⟩]; simp
  obtain ⟨m', e1, e2, e3⟩ := judge_loop l x hl ds false false false (List.replicate l.length 0) hs h (by simp)
  have el : Fishref2later l ds x = some (enc (T l ds) (R3 l x ds) (F l x ds)) := by
    unfold Fishref2later
    have := later_eq l x hx hl ds false false false h
    have e0 : enc false false false = 0 := rfl
    rw [e0] at this
    simp [this]
  unfold FleetjudgeRoster Fishref2RosterCode
  simp only [hm, Option.bind_some, e1, e2, Bool.false_or, List.length_replicate]
  rw [← e3]
  rcases ones m' m' 0 0 rfl with ⟨f1, f2⟩ | ⟨⟨i, f1⟩, f2⟩
  · have f3 : SlicesContainsFuncLint_v1 m' = false := by unfold SlicesContainsFuncLint_v1 SlicesIndexFuncLint_v1; rw [f1]; rfl
    simp only [f2, f3, Option.bind_some, el, Bool.false_eq_true, if_false]
    cases ht : T l ds with
    | true => exact ⟨2, by simp, by simp [enc]⟩
    | false =>
      rw [G_R3 l x hl ds h ht]
      cases R3 l x ds with
      | true => exact ⟨3, by simp, by simp [enc]⟩
      | false =>
        cases F l x ds with
        | true => exact ⟨4, by simp, by simp [enc]⟩
        | false => exact ⟨0, by simp, by simp [enc]⟩
  · have f3 : SlicesContainsFuncLint_v1 m' = true := by unfold SlicesContainsFuncLint_v1 SlicesIndexFuncLint_v1; rw [f1]; simp [bnd_eq]
    simp only [f2, f3, Option.bind_some, if_true]
    exact ⟨1, rfl, rfl⟩
end
/-! what a driver may have -/
section
variable (l : List FleetShift) (x : FleetLimits)
def okd (d : List Int) : Bool := !(pairs (fun a b => same (sh l a) (sh l b)) d) && !(pairs (fun b a => g3 x (sh l a) (sh l b)) d) && !(runs x (dayB l d) 0)
/-- the numbers of a list are shifts -/
def Inb (d : List Int) : Prop := ∀ i ∈ d, 0 ≤ i ∧ i < l.length

theorem fits_eq (d : List Int) (hd : d.length ≤ 9223372036854775807) (hl : ∀ s ∈ l, Ok s) (h : Inb l d) : Fleetfits l d x = some (okd l x d) := by
  unfold Fleetfits
  rw [breaks l x d hd hl h]
  simp only [Option.bind_some, bnd, okd]
  cases pairs (fun a b => same (sh l a) (sh l b)) d <;> cases pairs (fun b a => g3 x (sh l a) (sh l b)) d <;> cases runs x (dayB l d) 0 <;> rfl

theorem later_iff (hx : x.Row ≥ 1) (hl : ∀ s ∈ l, Ok s) (ds : List (List Int)) (h : ∀ d ∈ ds, Inb l d) : ∃ c, Fishref2later l ds x = some c ∧ (c != 0) = !(ds.all (okd l x)) := by
  have h0 : (0 : Int) = enc false false false := rfl
  refine ⟨enc (T l ds) (R3 l x ds) (F l x ds), ?_, ?_⟩
  · unfold Fishref2later
    rw [h0, later_eq l x hx hl ds false false false h]
    simp
  · have e1 : (enc (T l ds) (R3 l x ds) (F l x ds) != 0) = (T l ds || R3 l x ds || F l x ds) := by
      cases T l ds <;> cases R3 l x ds <;> cases F l x ds <;> rfl
    have e2 : (T l ds || R3 l x ds || F l x ds) = (T l ds || G l x ds || F l x ds) := by
      cases k : T l ds with
      | true => rfl
      | false => rw [G_R3 l x hl ds h k]
    have e3 : ∀ ds : List (List Int), (T l ds || G l x ds || F l x ds) = !(ds.all (okd l x)) := by
      intro ds
      induction ds with
      | nil => rfl
      | cons d ds ih =>
        simp only [T, G, F, List.any_cons, List.all_cons, Bool.not_and] at ih ⊢
        rw [← ih]
        unfold okd
        cases pairs (fun a b => same (sh l a) (sh l b)) d <;> cases pairs (fun b a => g3 x (sh l a) (sh l b)) d <;> cases runs x (dayB l d) 0 <;>
          cases (ds.any fun d => pairs (fun a b => same (sh l a) (sh l b)) d) <;> cases (ds.any fun d => pairs (fun b a => g3 x (sh l a) (sh l b)) d) <;> cases (ds.any fun d => runs x (dayB l d) 0) <;> rfl
    rw [e1, e2, e3]

theorem pairs_snoc (f : Int → Int → Bool) (s : Int) : ∀ d, pairs f (d ++ [s]) = false → pairs f d = false
  | [], _ => rfl
  | a :: r, h => by
    simp only [List.cons_append, pairs, List.any_append, Bool.or_eq_false_iff] at h ⊢
    exact ⟨h.1.1, pairs_snoc f s r h.2⟩
theorem runs_mono : ∀ (bs cs : List Bool) (n m : Int), bs.length = cs.length → (∀ j : Nat, bs[j]? = some true → cs[j]? = some true) → 0 ≤ n → n ≤ m → runs x bs n = true → runs x cs m = true
  | [], _, _, _, _, _, _, _, h => by cases h
  | b :: bs, [], _, _, hl, _, _, _, _ => by cases hl
  | b :: bs, c :: cs, n, m, hl, hp, h0, hm, h => by
    have ih := fun n m => runs_mono bs cs n m (by simpa using hl) (fun j hj => by simpa using hp (j + 1) (by simpa using hj))
    have hbc := hp 0
    simp only [List.getElem?_cons_zero, Option.some.injEq] at hbc
    simp only [runs] at h ⊢
    cases b with
    | true =>
      rw [hbc rfl]
      simp only [if_true, Bool.or_eq_true, decide_eq_true_eq] at h ⊢
      rcases h with h | h
      · exact .inl (by omega)
      · exact .inr (ih _ _ (by omega) (by omega) h)
    | false =>
      simp only [Bool.false_eq_true, if_false] at h
      cases c with
      | true =>
        simp only [if_true, Bool.or_eq_true]
        exact .inr (ih _ _ (by omega) (by omega) h)
      | false =>
        simp only [Bool.false_eq_true, if_false]
        exact ih _ _ (by omega) (by omega) h
theorem okd_snoc (d : List Int) (s : Int) (h : okd l x (d ++ [s]) = true) : okd l x d = true := by
  unfold okd at h ⊢
  simp only [Bool.and_eq_true, Bool.not_eq_true'] at h ⊢
  refine ⟨⟨pairs_snoc _ s d h.1.1, pairs_snoc _ s d h.1.2⟩, ?_⟩
  cases k : runs x (dayB l d) 0 with
  | false => rfl
  | true =>
    have := runs_mono x (dayB l d) (dayB l (d ++ [s])) 0 0 (by simp [dayB]) (by
      intro j hj
      simp only [dayB, List.getElem?_map, Option.map_eq_some_iff, List.getElem?_eq_some_iff] at hj ⊢
      obtain ⟨i, ⟨hi, e⟩, q⟩ := hj
      refine ⟨i, ⟨hi, e⟩, ?_⟩
      simp only [decide_eq_true_eq] at q ⊢
      have : cnt l (d ++ [s]) i ≥ cnt l d i := by
        unfold cnt; rw [List.filter_append, List.length_append]; omega
      omega) (by omega) (by omega) k
    rw [h.2] at this; cases this
end
theorem clone_refl (v : List Int) (h : v.length < 4294967296) : SlicesCloneLint v = some v := by
  unfold SlicesCloneLint
  simp only [apd_lt (a := []) (b := v) (by simpa using h)]
  simp
theorem nz_in {α : Type} {v : List α} (h : v ≠ []) : nz v = some () := by cases v with | nil => exact absurd rfl h | cons a r => rfl
theorem clone_reflL (v : List (List Int)) (h : v.length < 4294967296) : SlicesCloneLLint_v1 v = some v := by
  unfold SlicesCloneLLint_v1
  simp only [apd_lt (a := []) (b := v) (by simpa using h)]
  simp

theorem lists_refl (r : List (List Int)) : Fishlaw2lists r r = some true := by
  have key : ∀ (q : List (List Int)) (k : Nat), r.drop k = q → SlicesEqualFuncLLint_v1.loop1 r q k = some (.next ()) := by
    intro q
    induction q with
    | nil => intro k _; rfl
    | cons v q ih =>
      intro k hd
      obtain ⟨d1, d2, d3⟩ := drop_cons hd
      simp only [SlicesEqualFuncLLint_v1.loop1, gx_nat, d2, Option.bind_some, equal_refl, Bool.not_true, Bool.false_eq_true, if_false]
      exact ih (k + 1) d3
  unfold Fishlaw2lists SlicesEqualFuncLLint_v1
  simp [key r 0 rfl]

/-! what a driver may have does not hang on the order -/
section
variable (l : List FleetShift) (x : FleetLimits)
theorem pairs_perm (f : Int → Int → Bool) (hf : ∀ a b, f a b = f b a) : ∀ {d e : List Int}, d.Perm e → pairs f d = pairs f e := by
  intro d e h
  induction h with
  | nil => rfl
  | cons a h ih => simp only [pairs]; rw [ih, h.any_eq]
  | swap a b r =>
    simp only [pairs, List.any_cons]
    rw [hf a b]
    cases f b a <;> cases r.any (f a) <;> cases r.any (f b) <;> rfl
  | trans _ _ h1 h2 => exact h1.trans h2
theorem g3_sym (a b : FleetShift) : g3 x a b = g3 x b a := by
  unfold g3
  by_cases h1 : a.Day > b.Day
  · have h2 : ¬ b.Day > a.Day := by omega
    rw [if_pos h1, if_neg h2]
  · by_cases h2 : b.Day > a.Day
    · rw [if_neg h1, if_pos h2]
    · have : a.Day = b.Day := by omega
      rw [if_neg h1, if_neg h2]; simp [this]
theorem cnt_perm {d e : List Int} (h : d.Perm e) (j : Nat) : cnt l d j = cnt l e j := (h.filter _).length_eq
theorem dayB_perm {d e : List Int} (h : d.Perm e) : dayB l d = dayB l e := by
  unfold dayB; simp only [cnt_perm l h]
theorem okd_perm {d e : List Int} (h : d.Perm e) : okd l x d = okd l x e := by
  unfold okd
  rw [pairs_perm _ (fun a b => by unfold same; exact Bool.eq_iff_iff.2 ⟨fun h => by simpa using (beq_iff_eq.1 h).symm, fun h => by simpa using (beq_iff_eq.1 h).symm⟩) h, pairs_perm _ (fun a b => g3_sym x _ _) h, dayB_perm l h]
theorem pairs_sub (f : Int → Int → Bool) : ∀ {d e : List Int}, d.Sublist e → pairs f e = false → pairs f d = false := by
  intro d e h
  induction h with
  | slnil => exact id
  | cons a h ih => intro q; simp only [pairs, Bool.or_eq_false_iff] at q; exact ih q.2
  | cons_cons a h ih =>
    intro q
    simp only [pairs, Bool.or_eq_false_iff] at q ⊢
    refine ⟨?_, ih q.2⟩
    rw [List.any_eq_false] at q ⊢
    exact fun y hy => q.1 y (h.subset hy)
theorem okd_sub {d e : List Int} (h : d.Sublist e) (q : okd l x e = true) : okd l x d = true := by
  unfold okd at q ⊢
  simp only [Bool.and_eq_true, Bool.not_eq_true'] at q ⊢
  refine ⟨⟨pairs_sub _ h q.1.1, pairs_sub _ h q.1.2⟩, ?_⟩
  cases k : runs x (dayB l d) 0 with
  | false => rfl
  | true =>
    have := runs_mono x (dayB l d) (dayB l e) 0 0 (by simp [dayB]) (by
      intro j hj
      simp only [dayB, List.getElem?_map, Option.map_eq_some_iff, List.getElem?_eq_some_iff] at hj ⊢
      obtain ⟨i, ⟨hi, e1⟩, q1⟩ := hj
      refine ⟨i, ⟨hi, e1⟩, ?_⟩
      simp only [decide_eq_true_eq] at q1 ⊢
      have := (h.filter fun a => (sh l a).Day == (i : Int)).length_le
      unfold cnt at q1 ⊢
      omega) (by omega) (by omega) k
    rw [q.2] at this; cases this
end

/-! who has which shift: o tells for each shift its driver; u: those that are not told yet -/
def Rw (o u : List Int) (d : Int) : List Int := ((List.range o.length).filter fun i : Nat => o[i]? == some d && !(u.contains (i : Int))).map fun i : Nat => (i : Int)
theorem mem_Rw {o u : List Int} {d i : Int} : i ∈ Rw o u d ↔ 0 ≤ i ∧ o[i.toNat]? = some d ∧ i ∉ u := by
  unfold Rw
  simp only [List.mem_map, List.mem_filter, List.mem_range, Bool.and_eq_true, Bool.not_eq_true', beq_iff_eq]
  constructor
  · rintro ⟨k, ⟨h1, h2, h3⟩, rfl⟩
    exact ⟨by omega, by simpa using h2, by simpa using h3⟩
  · rintro ⟨h1, h2, h3⟩
    refine ⟨i.toNat, ⟨(List.getElem?_eq_some_iff.1 h2).1, h2, ?_⟩, by omega⟩
    have : ((i.toNat : Nat) : Int) = i := by omega
    rw [this]; simpa using h3
theorem asc_range : ∀ (n : Nat), ((List.range n).map fun i : Nat => (i : Int)).Pairwise (· < ·) := by
  intro n
  rw [List.pairwise_map]
  exact List.pairwise_lt_range.imp fun h => by omega
theorem Rw_asc (o u : List Int) (d : Int) : (Rw o u d).Pairwise (· < ·) := by
  unfold Rw
  rw [List.pairwise_map]
  exact (List.Pairwise.filter _ List.pairwise_lt_range).imp fun h => by omega
theorem asc_nodup {l : List Int} (h : l.Pairwise (· < ·)) : l.Nodup := h.imp fun h => by omega
theorem Rw_nodup (o u : List Int) (d : Int) : (Rw o u d).Nodup := asc_nodup (Rw_asc o u d)
theorem perm_mem {a b : List Int} (ha : a.Nodup) (hb : b.Nodup) (h : ∀ i, i ∈ a ↔ i ∈ b) : a.Perm b := (List.perm_ext_iff_of_nodup ha hb).2 h
theorem eq_mem {a b : List Int} (ha : a.Pairwise (· < ·)) (hb : b.Pairwise (· < ·)) (h : ∀ i, i ∈ a ↔ i ∈ b) : a = b :=
  (perm_mem (asc_nodup ha) (asc_nodup hb) h).eq_of_pairwise (fun i j _ _ h1 h2 => by omega) ha hb
theorem Rw_len (o u : List Int) (d : Int) : (Rw o u d).length ≤ o.length := by
  unfold Rw
  rw [List.length_map]
  exact Nat.le_trans (List.length_filter_le _ _) (by simp)
/-- one more is told: its driver's -/
theorem Rw_same {o u : List Int} {s d : Int} (hs : 0 ≤ s ∧ s < o.length) (hu : s ∉ u) : (Rw (o.set s.toNat d) u d).Perm (Rw o (s :: u) d ++ [s]) := by
  have hns : s ∉ Rw o (s :: u) d := fun h => (mem_Rw.1 h).2.2 (List.mem_cons_self ..)
  refine perm_mem (Rw_nodup _ _ _) ?_ ?_
  · rw [List.nodup_append]
    exact ⟨Rw_nodup _ _ _, by simp, fun a ha b hb => by simp at hb; subst hb; intro e; subst e; exact hns ha⟩
  · intro i
    rw [List.mem_append, mem_Rw, mem_Rw, List.mem_singleton, List.mem_cons, List.getElem?_set]
    by_cases h : i = s
    · subst h
      have : i.toNat < o.length := by omega
      simp [this, hs.1, hu]
    · by_cases h0 : 0 ≤ i
      · have : ¬ s.toNat = i.toNat := by omega
        simp [this, h]
      · simp [h0, h]
/-- and the others' -/
theorem Rw_other {o u : List Int} {s d e : Int} (hs : 0 ≤ s ∧ s < o.length) (hd : d ≠ e) : Rw (o.set s.toNat d) u e = Rw o (s :: u) e := by
  refine eq_mem (Rw_asc _ _ _) (Rw_asc _ _ _) ?_
  intro i
  rw [mem_Rw, mem_Rw, List.mem_cons, List.getElem?_set]
  by_cases h : i = s
  · subst h
    have : i.toNat < o.length := by omega
    simp [this, hd]
  · by_cases h0 : 0 ≤ i
    · have : ¬ s.toNat = i.toNat := by omega
      simp [this, h]
    · simp [h0]
/-- what is told when the first of them are chosen -/
def Sa (o : List Int) : List Int → List Int → List Int
  | s :: op, d :: p => Sa (o.set s.toNat d) op p
  | _, _ => o
theorem Sa_len : ∀ (o op p : List Int), (Sa o op p).length = o.length
  | o, [], p => by cases p <;> rfl
  | o, s :: op, [] => rfl
  | o, s :: op, d :: p => by rw [Sa, Sa_len]; simp
theorem Sa_snoc (d : Int) : ∀ (o op p : List Int) (s : Int), op[p.length]? = some s → Sa o op (p ++ [d]) = (Sa o op p).set s.toNat d
  | o, [], p, s, h => by simp at h
  | o, t :: op, [], s, h => by simp at h; subst h; cases op <;> rfl
  | o, t :: op, e :: p, s, h => by
    rw [List.cons_append, Sa, Sa]
    exact Sa_snoc d _ op p s (by simpa using h)
/-! all ways to choose, in order -/
section
variable {σ : Type}
/-- the digits from k on, j of them -/
def Ep (g : Nat → σ → σ) : Nat → Nat → σ → σ
  | 0, _, st => st
  | j + 1, k, st => Ep g j (k + 1) (g k st)
theorem Ep_last (g : Nat → σ → σ) : ∀ (j k : Nat) (st : σ), Ep g (j + 1) k st = g (k + j) (Ep g j k st)
  | 0, k, st => rfl
  | j + 1, k, st => by
    have := Ep_last g j (k + 1) (g k st)
    rw [Ep, this, Ep]
    have e : k + 1 + j = k + (j + 1) := by omega
    rw [e]
def En (B : Nat) (leaf : List Int → σ → σ) : Nat → List Int → σ → σ
  | 0, p, st => leaf p st
  | m + 1, p, st => Ep (fun d st => En B leaf m (p ++ [(d : Int)]) st) B 0 st
theorem Ep_inv (g : Nat → σ → σ) (Q : σ → Prop) (h : ∀ k st, Q st → Q (g k st)) : ∀ (j k : Nat) (st : σ), Q st → Q (Ep g j k st)
  | 0, _, _, q => q
  | j + 1, k, st, q => Ep_inv g Q h j (k + 1) _ (h k st q)
theorem Cn_En (B : Nat) (leaf : List Int → σ → σ) : ∀ (m : Nat) (p : List Int) (st : σ), Cn B (fun v st => (false, leaf v st)) m p st = (false, En B leaf m p st) := by
  intro m
  induction m with
  | zero => intro p st; rfl
  | succ m ih =>
    intro p st
    rw [Cn, En]
    have key : ∀ j, j ≤ B → ∀ st, Cd B (Cn B (fun v st => (false, leaf v st)) m) j p st = (false, Ep (fun d st => En B leaf m (p ++ [(d : Int)]) st) j (B - j) st) := by
      intro j
      induction j with
      | zero => intro _ st; rfl
      | succ j ihj =>
        intro hj st
        rw [Cd, ih, Ep]
        simp only [Bool.false_eq_true, if_false]
        have e : B - (j + 1) + 1 = B - j := by omega
        rw [e]
        exact ihj (by omega) _
    have := key B (Nat.le_refl _) st
    rwa [Nat.sub_self] at this
theorem En_map {τ : Type} (B : Nat) (f : σ → τ) (leaf : List Int → σ → σ) (leaf' : List Int → τ → τ) (h : ∀ v st, leaf' v (f st) = f (leaf v st)) : ∀ (m : Nat) (p : List Int) (st : σ), En B leaf' m p (f st) = f (En B leaf m p st) := by
  intro m
  induction m with
  | zero => intro p st; exact h p st
  | succ m ih =>
    intro p st
    rw [En, En]
    have key : ∀ (j k : Nat) (st : σ), Ep (fun d st => En B leaf' m (p ++ [(d : Int)]) st) j k (f st) = f (Ep (fun d st => En B leaf m (p ++ [(d : Int)]) st) j k st) := by
      intro j
      induction j with
      | zero => intro k st; rfl
      | succ j ihj => intro k st; rw [Ep, Ep, ih, ihj]
    exact key B 0 st
end

section
variable (l : List FleetShift) (x : FleetLimits) (A : Int → Int → Bool) (o op : List Int) (D : Nat)
def awOk : List Int → List Int → Bool
  | d :: p, s :: op => (d == (D : Int) || !A d s) && awOk p op
  | _, _ => true
def rwOk (p : List Int) : Bool := (List.range D).all fun d => okd l x (Rw (Sa o op p) (op.drop p.length) (d : Int))
def gd (p : List Int) : Bool := awOk A D p op && rwOk l x o op D p
def nD (p : List Int) : Nat := p.count (D : Int)
def leafU (p : List Int) (st : Option (List Int)) : Option (List Int) := if gd l x A o op D p then (match st with | none => some p | some q => if nD D p < nD D q then some p else some q) else st

theorem awOk_snoc (d : Int) : ∀ (p op : List Int) (s : Int), op[p.length]? = some s → awOk A D (p ++ [d]) op = (awOk A D p op && (d == (D : Int) || !A d s))
  | [], [], s, h => by simp at h
  | [], t :: op, s, h => by simp at h; subst h; cases op <;> simp [awOk]
  | e :: p, [], s, h => by simp at h
  | e :: p, t :: op, s, h => by
    rw [List.cons_append, awOk, awOk, awOk_snoc d p op s (by simpa using h), Bool.and_assoc]

/-- the shifts that are open: each once, in order -/
structure Opn : Prop where
  asc : op.Pairwise (· < ·)
  inb : ∀ s ∈ op, 0 ≤ s ∧ s < o.length
  low : ∀ d ∈ o, d < (D : Int)
variable {o op D}
theorem drop_s {p : List Int} {s : Int} (h : op[p.length]? = some s) : op.drop p.length = s :: op.drop (p.length + 1) := by
  obtain ⟨h1, h2⟩ := List.getElem?_eq_some_iff.1 h
  rw [List.drop_eq_getElem_cons h1, h2]
theorem Opn.new (H : Opn o op D) {p : List Int} {s : Int} (h : op[p.length]? = some s) : s ∉ op.drop (p.length + 1) ∧ 0 ≤ s ∧ s < (Sa o op p).length := by
  have h1 := H.inb s (List.mem_of_getElem? h)
  refine ⟨?_, h1.1, by rw [Sa_len]; exact h1.2⟩
  have h2 : (op.drop p.length).Nodup := (asc_nodup H.asc).sublist (List.drop_sublist _ _)
  rw [drop_s h] at h2
  exact (List.nodup_cons.1 h2).1
theorem Opn.row (H : Opn o op D) {p : List Int} {s : Int} (h : op[p.length]? = some s) (d : Int) : (Rw (Sa o op (p ++ [d])) (op.drop (p ++ [d]).length) d).Perm (Rw (Sa o op p) (op.drop p.length) d ++ [s]) := by
  obtain ⟨h1, h2⟩ := H.new h
  rw [Sa_snoc d o op p s h, drop_s h, List.length_append, List.length_singleton]
  exact Rw_same h2 h1
theorem Opn.rowO (H : Opn o op D) {p : List Int} {s : Int} (h : op[p.length]? = some s) {d e : Int} (hd : d ≠ e) : Rw (Sa o op (p ++ [d])) (op.drop (p ++ [d]).length) e = Rw (Sa o op p) (op.drop p.length) e := by
  obtain ⟨h1, h2⟩ := H.new h
  rw [Sa_snoc d o op p s h, drop_s h, List.length_append, List.length_singleton]
  exact Rw_other h2 hd
theorem rwOk_snoc (H : Opn o op D) {p : List Int} {s : Int} (h : op[p.length]? = some s) {d : Nat} (hd : d < D) : rwOk l x o op D (p ++ [(d : Int)]) = true ↔ rwOk l x o op D p = true ∧ okd l x (Rw (Sa o op p) (op.drop p.length) (d : Int) ++ [s]) = true := by
  unfold rwOk
  rw [List.all_eq_true, List.all_eq_true]
  constructor
  · intro q
    refine ⟨?_, ?_⟩
    · intro e he
      have := q e he
      by_cases c : d = e
      · subst c
        rw [okd_perm l x (H.row h _)] at this
        exact okd_snoc l x _ _ this
      · rw [H.rowO h (fun k => c (by omega))] at this; exact this
    · have := q d (List.mem_range.2 hd)
      rwa [okd_perm l x (H.row h _)] at this
  · rintro ⟨q1, q2⟩ e he
    by_cases c : d = e
    · subst c; rw [okd_perm l x (H.row h _)]; exact q2
    · rw [H.rowO h (fun k => c (by omega))]; exact q1 e he
theorem rwOk_D (H : Opn o op D) {p : List Int} {s : Int} (h : op[p.length]? = some s) : rwOk l x o op D (p ++ [(D : Int)]) = rwOk l x o op D p := by
  unfold rwOk
  rw [Bool.eq_iff_iff, List.all_eq_true, List.all_eq_true]
  have e : ∀ d ∈ List.range D, Rw (Sa o op (p ++ [(D : Int)])) (op.drop (p ++ [(D : Int)]).length) (d : Int) = Rw (Sa o op p) (op.drop p.length) (d : Int) := by
    intro d hd
    have := List.mem_range.1 hd
    exact H.rowO h (by omega)
  constructor
  · intro q d hd; rw [← e d hd]; exact q d hd
  · intro q d hd; rw [e d hd]; exact q d hd
theorem gd_snoc (H : Opn o op D) {p : List Int} {s : Int} (h : op[p.length]? = some s) {d : Nat} (hd : d < D + 1) (q : gd l x A o op D (p ++ [(d : Int)]) = true) : gd l x A o op D p = true := by
  unfold gd at q ⊢
  rw [awOk_snoc A D _ p op s h] at q
  simp only [Bool.and_eq_true] at q ⊢
  refine ⟨q.1.1, ?_⟩
  rcases Nat.lt_or_ge d D with c | c
  · exact ((rwOk_snoc l x H h c).1 q.2).1
  · obtain rfl : d = D := by omega
    rw [rwOk_D l x H h] at q; exact q.2
theorem gd_D (H : Opn o op D) {p : List Int} {s : Int} (h : op[p.length]? = some s) : gd l x A o op D (p ++ [(D : Int)]) = gd l x A o op D p := by
  unfold gd; rw [awOk_snoc A D _ p op s h, rwOk_D l x H h]; simp
theorem nD_snoc (p : List Int) (d : Int) : nD D (p ++ [d]) = nD D p + if d = (D : Int) then 1 else 0 := by
  unfold nD; rw [List.count_append, List.count_singleton]
  by_cases h : d = (D : Int) <;> simp [h]

theorem at_m {p : List Int} {m : Nat} (h : p.length + (m + 1) = op.length) : ∃ s, op[p.length]? = some s := ⟨op[p.length]'(by omega), List.getElem?_eq_getElem (by omega)⟩
theorem Ep_id {σ : Type} {g : Nat → σ → σ} {st : σ} {B : Nat} (h : ∀ k, k < B → g k st = st) : ∀ (j k : Nat), k + j ≤ B → Ep g j k st = st
  | 0, _, _ => rfl
  | j + 1, k, hk => by rw [Ep, h k (by omega)]; exact Ep_id h j (k + 1) (by omega)
theorem En_bad (H : Opn o op D) : ∀ (m : Nat) (p : List Int) (st : Option (List Int)), p.length + m = op.length → gd l x A o op D p = false → En (D + 1) (leafU l x A o op D) m p st = st := by
  intro m
  induction m with
  | zero => intro p st _ h; simp [En, leafU, h]
  | succ m ih =>
    intro p st hm h
    obtain ⟨s, hs⟩ := at_m hm
    rw [En]
    refine Ep_id (B := D + 1) (fun k hk => ?_) _ _ (by omega)
    refine ih _ st (by simp; omega) ?_
    cases c : gd l x A o op D (p ++ [(k : Int)]) with
    | false => rfl
    | true => rw [gd_snoc l x A H hs hk c] at h; cases h
theorem En_prune : ∀ (m : Nat) (p q : List Int), nD D q ≤ nD D p → En (D + 1) (leafU l x A o op D) m p (some q) = some q := by
  intro m
  induction m with
  | zero =>
    intro p q h
    have : ¬ nD D p < nD D q := by omega
    simp [En, leafU, this]
  | succ m ih =>
    intro p q h
    rw [En]
    refine Ep_id (B := D + 1) (fun k hk => ?_) _ _ (by omega)
    exact ih _ q (by rw [nD_snoc]; omega)
theorem En_keep : ∀ (m : Nat) (p : List Int) (st : Option (List Int)), st ≠ none → En (D + 1) (leafU l x A o op D) m p st ≠ none := by
  intro m
  induction m with
  | zero =>
    intro p st h
    cases st with
    | none => exact absurd rfl h
    | some q => simp only [En, leafU]; split <;> (try split) <;> simp
  | succ m ih => intro p st h; rw [En]; exact Ep_inv _ (fun st => st ≠ none) (fun k st h => ih _ st h) _ _ _ h
theorem En_some (H : Opn o op D) : ∀ (m : Nat) (p : List Int) (st : Option (List Int)), p.length + m = op.length → gd l x A o op D p = true → En (D + 1) (leafU l x A o op D) m p st ≠ none := by
  intro m
  induction m with
  | zero => intro p st _ h; cases st <;> simp [En, leafU, h]; split <;> simp
  | succ m ih =>
    intro p st hm h
    obtain ⟨s, hs⟩ := at_m hm
    rw [En, Ep_last, Nat.zero_add]
    exact ih _ _ (by simp; omega) (by rw [gd_D l x A H hs]; exact h)
/-- a choice of all that are open -/
structure Full (q : List Int) : Prop where
  len : q.length = op.length
  good : gd l x A o op D q = true
  dig : Dig ((D + 1 : Nat) : Int) q
def Fit (st : Option (List Int)) : Prop := ∀ q, st = some q → Full l x A (o := o) (op := op) (D := D) q
theorem En_fit : ∀ (m : Nat) (p : List Int) (st : Option (List Int)), p.length + m = op.length → Dig ((D + 1 : Nat) : Int) p → Fit l x A (o := o) (op := op) (D := D) st → Fit l x A (o := o) (op := op) (D := D) (En (D + 1) (leafU l x A o op D) m p st) := by
  intro m
  induction m with
  | zero =>
    intro p st hm hd h
    rw [En]
    unfold leafU
    split
    · rename_i hg
      cases st with
      | none => intro q e; injection e with e; subst e; exact ⟨by omega, hg, hd⟩
      | some r =>
        simp only
        split
        · intro q e; injection e with e; subst e; exact ⟨by omega, hg, hd⟩
        · exact h
    · exact h
  | succ m ih =>
    intro p st hm hd h
    rw [En]
    have key : ∀ (j k : Nat) (st : Option (List Int)), k + j ≤ D + 1 → Fit l x A (o := o) (op := op) (D := D) st → Fit l x A (o := o) (op := op) (D := D) (Ep (fun d st => En (D + 1) (leafU l x A o op D) m (p ++ [(d : Int)]) st) j k st) := by
      intro j
      induction j with
      | zero => intro k st _ h; exact h
      | succ j ihj =>
        intro k st hk h
        rw [Ep]
        exact ihj (k + 1) _ (by omega) (ih _ st (by simp; omega) (dig_snoc (D + 1) hd (by omega) (by omega)) h)
    exact key _ _ _ (by omega) h

/-! the program's standing -/
variable (o op D)
structure Inv (p : List Int) (now : List (List Int)) (lost : List Int) : Prop where
  len : now.length = D
  row : ∀ (d : Nat) (h : d < now.length), (now[d]).Perm (Rw (Sa o op p) (op.drop p.length) (d : Int))
  los : lost = Rw (Sa o op p) (op.drop p.length) (D : Int)
  cnt : lost.length = nD D p
def EncP (st : Option (List Int)) (best : List (List Int)) (left : List Int) : Prop := match st with
  | none => best = [] ∧ left = []
  | some q => Inv o op D q best left
variable {o op D}
theorem Inv.put (H : Opn o op D) {p : List Int} {s : Int} (h : op[p.length]? = some s) {now : List (List Int)} {lost : List Int} (I : Inv o op D p now lost) {d : Nat} (hd : d < now.length) : Inv o op D (p ++ [(d : Int)]) (now.set d (now[d] ++ [s])) lost := by
  have hl := I.len
  refine ⟨by simp [hl], ?_, ?_, ?_⟩
  · intro e he
    have he' : e < now.length := by simpa using he
    by_cases c : d = e
    · subst c
      rw [List.getElem_set_self]
      exact ((I.row d hd).append_right [s]).trans (H.row h _).symm
    · rw [List.getElem_set_ne c, H.rowO h (fun k => c (by omega))]
      exact I.row e he'
  · rw [H.rowO h (by omega)]; exact I.los
  · rw [nD_snoc, if_neg (by omega)]; exact I.cnt
theorem Sa_new (v : Int) : ∀ (o op p : List Int) (i : Nat), (Sa o op p)[i]? = some v → (∀ s ∈ op, 0 ≤ s) → o[i]? = some v ∨ (i : Int) ∈ op.take p.length
  | o, [], p, i, h, _ => by cases p <;> exact .inl h
  | o, s :: op, [], i, h, _ => .inl h
  | o, s :: op, d :: p, i, h, h0 => by
    rw [Sa] at h
    rcases Sa_new v _ op p i h (fun t ht => h0 t (by simp [ht])) with h | h
    · rw [List.getElem?_set] at h
      split at h
      · rename_i e
        right
        have := h0 s (by simp)
        have e2 : s = (i : Int) := by omega
        simp [e2]
      · exact .inl h
    · right; simp [h]
theorem Inv.lose (H : Opn o op D) {p : List Int} {s : Int} (h : op[p.length]? = some s) {now : List (List Int)} {lost : List Int} (I : Inv o op D p now lost) : Inv o op D (p ++ [(D : Int)]) now (lost ++ [s]) := by
  have hl := I.len
  refine ⟨hl, ?_, ?_, ?_⟩
  · intro e he
    rw [H.rowO h (by omega)]
    exact I.row e he
  · have h1 := H.row h (D : Int)
    have h2 := I.los
    rw [h2]
    refine (h1.symm).eq_of_pairwise (fun i j _ _ h1 h2 => by omega) ?_ (Rw_asc _ _ _)
    rw [List.pairwise_append]
    refine ⟨Rw_asc _ _ _, by simp, ?_⟩
    intro a ha b hb
    simp at hb; subst hb
    obtain ⟨a0, a1, _⟩ := mem_Rw.1 ha
    rcases Sa_new _ o op p _ a1 (fun t ht => (H.inb t ht).1) with k | k
    · have := H.low _ (List.mem_of_getElem? k); omega
    · have e : ((a.toNat : Nat) : Int) = a := by omega
      rw [e] at k
      have h3 := H.asc
      rw [← List.take_append_drop p.length op] at h3
      exact (List.pairwise_append.1 h3).2.2 a k b (by rw [drop_s h]; simp)
  · rw [nD_snoc, if_pos rfl, List.length_append, I.cnt]; rfl
end
/-! the program's search -/
/-- what a call does that is not cut off -/
def give2 (fu : Nat) (x0 : Int) (y0 : List (List Int)) (y1 : List Int) (y2 : List Int) (y3 : List Int) (y4 : List (List Int)) (y5_0 : List (Int × Int)) (y6_0 : List (FleetAbsence × Bool)) (y7 : List FleetShift) (y8 : FleetLimits) : Option ((List (List Int)) × (List (List Int)) × (List Int) × (List Int)) := (if (x0 == ((y3.length : Nat) : Int)) then ((SlicesCloneLLint_v1 y4).bind fun q105 => ((SlicesCloneLint y1).bind fun q113 => ((nz q105).bind fun _ => some (y4, q105, y1, q113)))) else ((gx y3 x0).bind fun x132 => ((FleetStandIns_1_v1.loop1 x0 y3 y5_0 y6_0 y7 y8 (FleetStandIns_1_v1 fu) x132 y4.length 0 y4 y0 y1 y2).bind fun q143 => match q143 with | (q154, q160, q165, q172) => ((apd q165 [x132]).bind fun x293 => (((FleetStandIns_1_v1 fu) (w64 (x0 + 1)) q160 x293 q172 y3 q154 y5_0 y6_0 y7 y8).bind fun q299 => ((cutl q299.2.2.1 0 (w64 (((q299.2.2.1.length : Nat) : Int) - 1))).bind fun x318 => some (q299.1, q299.2.1, x318, q299.2.2.2)))))))
theorem give_step (fu : Nat) (x0 : Int) (y0 : List (List Int)) (y1 : List Int) (y2 : List Int) (y3 : List Int) (y4 : List (List Int)) (y5_0 : List (Int × Int)) (y6_0 : List (FleetAbsence × Bool)) (y7 : List FleetShift) (y8 : FleetLimits) :
    FleetStandIns_1_v1 (fu + 1) x0 y0 y1 y2 y3 y4 y5_0 y6_0 y7 y8 = if (if !y0.isEmpty then decide (((y1.length : Nat) : Int) ≥ ((y2).length : Int)) else false) = true then some (y4, y0, y1, y2) else give2 fu x0 y0 y1 y2 y3 y4 y5_0 y6_0 y7 y8 := by
  rw [FleetStandIns_1_v1]; rfl
section
variable (l : List FleetShift) (x : FleetLimits) (A : Int → Int → Bool) {o op : List Int} {D : Nat}
theorem Rw_inb {o u : List Int} {d : Int} (h : o.length = l.length) : Inb l (Rw o u d) := by
  intro i hi
  obtain ⟨h1, h2, _⟩ := mem_Rw.1 hi
  have := (List.getElem?_eq_some_iff.1 h2).1
  exact ⟨h1, by omega⟩
theorem give_eq (H : Opn o op D) (own : List (Int × Int)) (gone : List (FleetAbsence × Bool)) (hl : ∀ s ∈ l, Ok s) (hn : l.length ≤ 8) (ho : o.length = l.length) (hop : op.length ≤ 8) (hD0 : 1 ≤ D) (hD : D ≤ 4)
    (hown : ∀ s ∈ op, ∀ d : Nat, (d : Int) = ((mget own s).getD 0) → A d s = true) (hgone : ∀ s ∈ op, ∀ d : Nat, (mget gone (FleetAbsence.mk (d : Int) (sh l s).Day)).getD false = A d s) :
    ∀ (m : Nat) (p : List Int) (now : List (List Int)) (lost : List Int) (st : Option (List Int)) (best : List (List Int)) (left : List Int) (fu : Nat), p.length + m = op.length → m < fu → Inv o op D p now lost → gd l x A o op D p = true → Dig ((D + 1 : Nat) : Int) p →
      Fit l x A (o := o) (op := op) (D := D) st → EncP o op D st best left →
      ∃ best' left', FleetStandIns_1_v1 fu (p.length : Int) best lost left op now own gone l x = some (now, best', lost, left') ∧ EncP o op D (En (D + 1) (leafU l x A o op D) m p st) best' left' := by
  intro m
  induction m with
  | zero =>
    intro p now lost st best left fu hm hf I hg hd hfit he
    obtain ⟨f, rfl⟩ : ∃ f, fu = f + 1 := ⟨fu - 1, by omega⟩
    have hlen := I.len
    have hll : lost.length ≤ 8 := by rw [I.los]; exact Nat.le_trans (Rw_len _ _ _) (by rw [Sa_len]; omega)
    have hx0 : ((p.length : Int) == ((op.length : Nat) : Int)) = true := by simp; omega
    rw [give_step]
    have leaf : give2 f (p.length : Int) best lost left op now own gone l x = some (now, now, lost, lost) := by
      unfold give2
      rw [if_pos hx0, clone_reflL now (by omega)]
      rw [Option.bind_some, clone_refl lost (by omega), Option.bind_some, nz_in (by intro e; rw [e] at hlen; simp at hlen; omega)]
      rfl
    cases st with
    | none =>
      obtain ⟨rfl, rfl⟩ := he
      refine ⟨now, lost, ?_, ?_⟩
      · simp only [List.isEmpty_nil, Bool.not_true, Bool.false_eq_true, if_false]
        exact leaf
      · simp only [En, leafU, hg, if_true, EncP]; exact I
    | some q =>
      have hF := hfit q rfl
      have he' : Inv o op D q best left := he
      have hne : best.isEmpty = false := by
        cases best with
        | nil => have := he'.len; simp at this; omega
        | cons a r => rfl
      have hc1 := I.cnt
      have hc2 := he'.cnt
      by_cases hc : nD D p < nD D q
      · refine ⟨now, lost, ?_, ?_⟩
        · have : ¬ ((lost.length : Nat) : Int) ≥ ((left.length : Nat) : Int) := by omega
          simp only [hne, Bool.not_false, if_true, this, decide_false, Bool.false_eq_true, if_false]
          exact leaf
        · simp only [En, leafU, hg, if_true, hc, EncP]; exact I
      · refine ⟨best, left, ?_, ?_⟩
        · have : ((lost.length : Nat) : Int) ≥ ((left.length : Nat) : Int) := by omega
          simp only [hne, Bool.not_false, if_true, this, decide_true]
        · rw [En_prune l x A 0 p q (by omega)]; exact he
  | succ m ih =>
    intro p now lost st best left fu hm hf I hg hd hfit he
    obtain ⟨f, rfl⟩ : ∃ f, fu = f + 1 := ⟨fu - 1, by omega⟩
    have hlen := I.len
    have hll : lost.length ≤ 8 := by rw [I.los]; exact Nat.le_trans (Rw_len _ _ _) (by rw [Sa_len]; omega)
    have hx0 : ¬ ((p.length : Int) == ((op.length : Nat) : Int)) = true := by simp; omega
    obtain ⟨s, hs⟩ := at_m hm
    have hsm : s ∈ op := List.mem_of_getElem? hs
    have hsb := H.inb s hsm
    rw [give_step]
    -- the drivers
    have loop : ∀ (j k : Nat) (st : Option (List Int)) (best : List (List Int)) (left : List Int), j + k = D → Fit l x A (o := o) (op := op) (D := D) st → EncP o op D st best left →
        ∃ best' left', FleetStandIns_1_v1.loop1 (p.length : Int) op own gone l x (FleetStandIns_1_v1 f) s j k now best lost left = some (now, best', lost, left') ∧
          EncP o op D (Ep (fun d st => En (D + 1) (leafU l x A o op D) m (p ++ [(d : Int)]) st) j k st) best' left' ∧ Fit l x A (o := o) (op := op) (D := D) (Ep (fun d st => En (D + 1) (leafU l x A o op D) m (p ++ [(d : Int)]) st) j k st) := by
      intro j
      induction j with
      | zero => intro k st best left _ hfit he; exact ⟨best, left, rfl, he, hfit⟩
      | succ j ihj =>
        intro k st best left hk hfit he
        have hkr : k < now.length := by omega
        have hrow := I.row k hkr
        have hrl : now[k].length ≤ 8 := by rw [hrow.length_eq]; exact Nat.le_trans (Rw_len _ _ _) (by rw [Sa_len]; omega)
        have hdg : Dig ((D + 1 : Nat) : Int) (p ++ [(k : Int)]) := dig_snoc (D + 1) hd (by omega) (by omega)
        have hcond : ((if (((k : Nat) : Int) == ((mget own s).getD 0)) then some true else ((gx l s).bind fun x197 => some ((mget gone (FleetAbsence.mk ((k : Nat) : Int) x197.Day)).getD false))) : Option Bool) = some (A k s) := by
          by_cases c : ((k : Nat) : Int) = (mget own s).getD 0
          · rw [if_pos (by simpa using c), hown s hsm k c]
          · rw [if_neg (by simpa using c), gx_sh ⟨hsb.1, by omega⟩, Option.bind_some, hgone s hsm k]
        rw [FleetStandIns_1_v1.loop1, gx_at hkr]
        simp only [Option.bind_some]
        rw [hcond]
        simp only [Option.bind_some]
        rw [Ep]
        cases hA : A k s with
        | true =>
          have hbad : gd l x A o op D (p ++ [(k : Int)]) = false := by
            unfold gd; rw [awOk_snoc A D _ p op s hs, hA]
            have : ((k : Int) == (D : Int)) = false := by simp; omega
            simp [this]
          rw [En_bad l x A H m _ st (by simp; omega) hbad]
          simp only [if_true]
          exact ihj (k + 1) st best left (by omega) hfit he
        | false =>
          simp only [Bool.false_eq_true, if_false]
          rw [clone_refl _ (by omega)]
          simp only [Option.bind_some]
          rw [apd_lt (by simp; omega)]
          simp only [Option.bind_some]
          rw [ix_in (by omega) (by omega), sx_in (by omega) (by omega)]
          simp only [Option.bind_some, Int.toNat_natCast]
          rw [gx_nat, List.getElem?_set_self hkr]
          simp only [Option.bind_some]
          have hin : Inb l (now[k] ++ [s]) := by
            intro i hi
            rcases List.mem_append.1 hi with hi | hi
            · exact Rw_inb l (by rw [Sa_len]; exact ho) i (hrow.mem_iff.1 hi)
            · simp at hi; subst hi; exact ⟨hsb.1, by omega⟩
          rw [fits_eq l x _ (by simp; omega) hl hin]
          simp only [Option.bind_some]
          have hokd : okd l x (now[k] ++ [s]) = okd l x (Rw (Sa o op p) (op.drop p.length) (k : Int) ++ [s]) := okd_perm l x (hrow.append_right [s])
          have hback : (now.set k (now[k] ++ [s])).set k now[k] = now := by rw [List.set_set]; simp
          have hgd : gd l x A o op D (p ++ [(k : Int)]) = okd l x (now[k] ++ [s]) := by
            rw [hokd]
            have hg' := hg
            unfold gd at hg' ⊢
            simp only [Bool.and_eq_true] at hg'
            rw [awOk_snoc A D _ p op s hs, hA, hg'.1]
            simp only [Bool.not_false, Bool.or_true, Bool.true_and, Bool.and_true]
            rw [Bool.eq_iff_iff, rwOk_snoc l x H hs (by omega)]
            exact ⟨fun h => h.2, fun h => ⟨hg'.2, h⟩⟩
          cases hfits : okd l x (now[k] ++ [s]) with
          | true =>
            simp only [if_true]
            rw [hfits] at hgd
            obtain ⟨b', l', e1, e2⟩ := ih (p ++ [(k : Int)]) (now.set k (now[k] ++ [s])) lost st best left f (by simp; omega) (by omega) (I.put H hs hkr) hgd hdg hfit he
            have hpl : w64 ((p.length : Int) + 1) = (((p ++ [(k : Int)]).length : Nat) : Int) := by rw [w64_id (by omega)]; simp
            rw [hpl, e1]
            simp only [Option.bind_some]
            rw [ix_in (by omega) (by simp; omega), sx_in (by omega) (by simp; omega)]
            simp only [Option.bind_some, Int.toNat_natCast, hback]
            exact ihj (k + 1) _ b' l' (by omega) (En_fit l x A m _ st (by simp; omega) hdg hfit) e2
          | false =>
            simp only [Bool.false_eq_true, if_false]
            rw [hfits] at hgd
            rw [ix_in (by omega) (by simp; omega), sx_in (by omega) (by simp; omega)]
            simp only [Option.bind_some, Int.toNat_natCast, hback]
            rw [En_bad l x A H m _ st (by simp; omega) hgd]
            exact ihj (k + 1) st best left (by omega) hfit he
    have walk : ∃ best' left', give2 f (p.length : Int) best lost left op now own gone l x = some (now, best', lost, left') ∧ EncP o op D (En (D + 1) (leafU l x A o op D) (m + 1) p st) best' left' := by
      unfold give2
      rw [if_neg hx0, gx_nat, hs]
      simp only [Option.bind_some]
      obtain ⟨b', l', e1, e2, e3⟩ := loop now.length 0 st best left (by omega) hfit he
      rw [e1]
      simp only [Option.bind_some]
      rw [apd_lt (by simp; omega)]
      simp only [Option.bind_some]
      rw [hlen] at e2 e3
      obtain ⟨b2, l2, f1, f2⟩ := ih (p ++ [(D : Int)]) now (lost ++ [s]) _ b' l' f (by simp; omega) (by omega) (I.lose H hs) (by rw [gd_D l x A H hs]; exact hg) (dig_snoc (D + 1) hd (by omega) (by omega)) e3 e2
      have hpl : w64 ((p.length : Int) + 1) = (((p ++ [(D : Int)]).length : Nat) : Int) := by rw [w64_id (by omega)]; simp
      rw [hpl, f1]
      simp only [Option.bind_some]
      have hcut : cutl (lost ++ [s]) 0 (w64 ((((lost ++ [s]).length : Nat) : Int) - 1)) = some lost := by
        rw [w64_id (by simp; omega)]
        have e : ((((lost ++ [s]).length : Nat) : Int) - 1) = ((lost.length : Nat) : Int) := by rw [List.length_append, List.length_singleton]; omega
        rw [e, cutl_in (by omega) (by omega) (by rw [List.length_append, List.length_singleton]; omega)]
        simp
      rw [hcut]
      refine ⟨b2, l2, rfl, ?_⟩
      rw [En, Ep_last, Nat.zero_add]
      exact f2
    cases st with
    | none =>
      obtain ⟨rfl, rfl⟩ := he
      simp only [List.isEmpty_nil, Bool.not_true, Bool.false_eq_true, if_false]
      exact walk
    | some q =>
      have he' : Inv o op D q best left := he
      have hne : best.isEmpty = false := by
        cases best with
        | nil => have := he'.len; simp at this; omega
        | cons a r => rfl
      have hc1 := I.cnt
      have hc2 := he'.cnt
      by_cases hc : nD D p < nD D q
      · have : ¬ ((lost.length : Nat) : Int) ≥ ((left.length : Nat) : Int) := by omega
        simp only [hne, Bool.not_false, if_true, this, decide_false, Bool.false_eq_true, if_false]
        exact walk
      · refine ⟨best, left, ?_, ?_⟩
        · have : ((lost.length : Nat) : Int) ≥ ((left.length : Nat) : Int) := by omega
          simp only [hne, Bool.not_false, if_true, this, decide_true]
        · rw [En_prune l x A (m + 1) p q (by omega)]; exact he
end
/-! the reference's search -/
section
variable (l : List FleetShift) (x : FleetLimits) (aw : List FleetAbsence) {o op : List Int} {D : Nat}
/-- is a driver away on a shift's day -/
def Aw (d s : Int) : Bool := Fishref2StandInsOf_1_v1 d (sh l s).Day aw
def leafR (o op : List Int) (D : Nat) (v : List Int) (st : Int × List Int) : Int × List Int := if gd l x (Aw l aw) o op D v then (if st.1 < 0 ∨ (nD D v : Int) < st.1 then ((nD D v : Int), Sa o op v) else st) else st
def encR (o op : List Int) (D : Nat) (st : Option (List Int)) : Int × List Int := match st with
  | none => (-1, [])
  | some q => ((nD D q : Int), Sa o op q)
theorem leaf_enc (o op : List Int) (D : Nat) (v : List Int) (st : Option (List Int)) : leafR l x aw o op D v (encR o op D st) = encR o op D (leafU l x (Aw l aw) o op D v st) := by
  unfold leafR leafU
  by_cases h : gd l x (Aw l aw) o op D v = true
  · rw [if_pos h, if_pos h]
    cases st with
    | none => simp [encR]
    | some q =>
      by_cases c : nD D v < nD D q
      · have e : encR o op D (match some q with | none => some v | some q => if nD D v < nD D q then some v else some q) = ((nD D v : Int), Sa o op v) := by
          show encR o op D (if nD D v < nD D q then some v else some q) = _
          rw [if_pos c]; rfl
        rw [e]
        exact if_pos (Or.inr (show ((nD D v : Nat) : Int) < ((nD D q : Nat) : Int) by omega))
      · have e : encR o op D (match some q with | none => some v | some q => if nD D v < nD D q then some v else some q) = encR o op D (some q) := by
          show encR o op D (if nD D v < nD D q then some v else some q) = _
          rw [if_neg c]
        rw [e]
        exact if_neg (show ¬ (((nD D q : Nat) : Int) < 0 ∨ ((nD D v : Nat) : Int) < ((nD D q : Nat) : Int)) by omega)
  · rw [if_neg h, if_neg h]

theorem given_loop (hD : D ≤ 4) (v : List Int) (hv : v.length ≤ 8) (hd : Dig ((D + 1 : Nat) : Int) v) : ∀ (rest k : Nat) (r : List (List Int)), rest + k = v.length → r.length = D → (∀ (d : Nat) (h : d < r.length), r[d] = Rw (v.take k) [] (d : Int)) →
    ∃ r', Fishref2given_v1.loop1 D v rest k r = some r' ∧ r'.length = D ∧ ∀ (d : Nat) (h : d < r'.length), r'[d] = Rw v [] (d : Int)
  | 0, k, r, h, hr, hs => by
    refine ⟨r, rfl, hr, ?_⟩
    intro d h1
    rw [hs d h1, List.take_of_length_le (by omega)]
  | rest + 1, k, r, h, hr, hs => by
    have hk : k < v.length := by omega
    have h1 := hd v[k] (List.getElem_mem hk)
    have hmem : ∀ (d : Nat) (i : Int), i ∈ Rw (v.take (k + 1)) [] (d : Int) ↔ i ∈ Rw (v.take k) [] (d : Int) ∨ (i = (k : Int) ∧ v[k] = (d : Int)) := by
      intro d i
      rw [mem_Rw, mem_Rw, List.getElem?_take, List.getElem?_take]
      by_cases c : i.toNat < k
      · have c2 : i.toNat < k + 1 := by omega
        rw [if_pos c, if_pos c2]
        constructor
        · exact fun h => .inl h
        · rintro (h | ⟨h, _⟩)
          · exact h
          · omega
      · rw [if_neg c]
        by_cases c2 : i.toNat < k + 1
        · have c3 : i.toNat = k := by omega
          rw [if_pos c2, c3, List.getElem?_eq_getElem hk]
          simp
          intro _
          constructor
          · intro h; omega
          · intro h; omega
        · rw [if_neg c2]
          simp
          intro h; omega
    rw [Fishref2given_v1.loop1, gx_at hk]
    simp only [Option.bind_some]
    by_cases c : v[k] < (D : Int)
    · obtain ⟨e, he⟩ : ∃ e : Nat, v[k] = (e : Int) := ⟨v[k].toNat, by omega⟩
      have hi : e < r.length := by omega
      have hrl : r[e].length ≤ 8 := by rw [hs e hi]; exact Nat.le_trans (Rw_len _ _ _) (by rw [List.length_take]; omega)
      have hcut : ((if decide (v[k] < (D : Int)) then ((gx r v[k]).bind fun x100 => ((apd x100 [((k : Nat) : Int)]).bind fun x112 => ((ix r v[k]).bind fun _ => ((sx r v[k] x112).bind fun x121 => some x121)))) else some r) : Option (List (List Int))) = some (r.set e (r[e] ++ [(k : Int)])) := by
        rw [if_pos (by simpa using c), he, gx_at hi]
        simp only [Option.bind_some]
        rw [apd_lt (by simp; omega)]
        simp only [Option.bind_some]
        rw [ix_in (by omega) (by omega), sx_in (by omega) (by omega)]
        rfl
      rw [hcut]
      simp only [Option.bind_some]
      refine given_loop hD v hv hd rest (k + 1) _ (by omega) (by simp [hr]) ?_
      intro d h2
      have h2' : d < r.length := by simpa using h2
      refine eq_mem ?_ (Rw_asc _ _ _) ?_
      · by_cases c2 : e = d
        · subst c2
          rw [List.getElem_set_self, List.pairwise_append]
          refine ⟨by rw [hs e hi]; exact Rw_asc _ _ _, by simp, ?_⟩
          intro a ha b hb
          simp at hb; subst hb
          rw [hs e hi] at ha
          obtain ⟨a0, a1, _⟩ := mem_Rw.1 ha
          have := (List.getElem?_eq_some_iff.1 a1).1
          rw [List.length_take] at this
          omega
        · rw [List.getElem_set_ne c2, hs d h2']; exact Rw_asc _ _ _
      · intro i
        rw [hmem d i]
        by_cases c2 : e = d
        · subst c2
          rw [List.getElem_set_self, List.mem_append, hs e hi]
          simp [he]
        · rw [List.getElem_set_ne c2, hs d h2']
          have : ¬ v[k] = (d : Int) := by omega
          simp [this]
    · rw [if_neg (by simpa using c)]
      simp only [Option.bind_some]
      refine given_loop hD v hv hd rest (k + 1) _ (by omega) hr ?_
      intro d h2
      rw [hs d h2]
      refine eq_mem (Rw_asc _ _ _) (Rw_asc _ _ _) ?_
      intro i
      rw [hmem d i]
      have : ¬ v[k] = (d : Int) := by omega
      simp [this]
theorem given_v1_eq (hD : D ≤ 4) (v : List Int) (hv : v.length ≤ 8) (hd : Dig ((D + 1 : Nat) : Int) v) : ∃ r, Fishref2given_v1 D v = some r ∧ r.length = D ∧ ∀ (d : Nat) (h : d < r.length), r[d] = Rw v [] (d : Int) := by
  unfold Fishref2given_v1
  rw [mks_in (by omega)]
  simp only [Option.bind_some]
  obtain ⟨r, e1, e2, e3⟩ := given_loop hD v hv hd v.length 0 (List.replicate D []) (by omega) (by simp) (by
    intro d h
    rw [List.getElem_replicate]
    refine (List.eq_nil_of_length_eq_zero ?_).symm
    have := Rw_len (v.take 0) [] (d : Int)
    simpa using this)
  rw [e1]
  exact ⟨r, rfl, e2, e3⟩
theorem given_same (v : List Int) : ∀ (rest : List Int) (k : Nat) (r : List (List Int)) (D : Int), v.drop k = rest → Fishref2given.loop1 D rest k r = Fishref2given_v1.loop1 D v rest.length k r
  | [], k, r, D, _ => rfl
  | y :: rest, k, r, D, h => by
    obtain ⟨d1, d2, d3⟩ := drop_cons h
    rw [Fishref2given.loop1, List.length_cons, Fishref2given_v1.loop1, gx_nat, d2]
    simp only [Option.bind_some]
    congr 1
    funext q
    exact given_same v rest (k + 1) q D d3
theorem given_eq2 (v : List Int) (D : Int) : Fishref2given D v = Fishref2given_v1 D v := by
  unfold Fishref2given Fishref2given_v1
  congr 1; funext r
  rw [given_same v v 0 r D rfl]

theorem Sa_dig (B : Int) : ∀ (o op p : List Int), Dig B o → Dig B p → Dig B (Sa o op p)
  | o, [], p, h, _ => by cases p <;> exact h
  | o, s :: op, [], h, _ => h
  | o, s :: op, d :: p, h, hp => by
    rw [Sa]
    refine Sa_dig B _ op p ?_ (fun e he => hp e (by simp [he]))
    intro e he
    rcases List.mem_or_eq_of_mem_set he with he | rfl
    · exact h e he
    · exact hp e (by simp)
theorem Sa_take (o op v : List Int) : ∀ k, Sa o op (v.take (k + 1)) = if h : k < v.length ∧ k < op.length then (Sa o op (v.take k)).set (op[k]'h.2).toNat (v[k]'h.1) else Sa o op (v.take k) := by
  intro k
  split
  · rename_i h
    rw [List.take_add_one, List.getElem?_eq_getElem h.1]
    simp only [Option.toList_some]
    have hl : (v.take k).length = k := by rw [List.length_take]; omega
    exact Sa_snoc v[k] o op (v.take k) op[k] (by rw [hl]; exact List.getElem?_eq_getElem h.2)
  · rename_i h
    rcases Nat.lt_or_ge k v.length with c | c
    · have c2 : op.length ≤ k := by omega
      have : ∀ (op : List Int) (k : Nat) (v o : List Int), op.length ≤ k → Sa o op (v.take (k + 1)) = Sa o op (v.take k) := by
        intro op
        induction op with
        | nil => intro k v o _; cases v.take (k + 1) <;> cases v.take k <;> rfl
        | cons s op ih =>
          intro k v o hk
          cases v with
          | nil => rw [List.take_nil, List.take_nil]
          | cons a v =>
            cases k with
            | zero => simp at hk
            | succ k => rw [List.take_succ_cons, List.take_succ_cons, Sa, Sa]; exact ih k v _ (by simpa using hk)
      exact this op k v o c2
    · rw [List.take_of_length_le (by omega), List.take_of_length_le c]
theorem awOk_drop (A : Int → Int → Bool) (v op : List Int) (k : Nat) (h : k < v.length) (h2 : k < op.length) : awOk A D (v.drop k) (op.drop k) = ((v[k] == (D : Int) || !A v[k] op[k]) && awOk A D (v.drop (k + 1)) (op.drop (k + 1))) := by
  rw [List.drop_eq_getElem_cons h, List.drop_eq_getElem_cons h2, awOk]

theorem leaf_loop (v : List Int) (hv : v.length = op.length) (hn : v.length ≤ 8) (hopl : ∀ s ∈ op, 0 ≤ s ∧ s < l.length) (hol : o.length = l.length) (y6 : Int) (y7 : List Int) :
    ∀ (rest k : Nat), rest + k = op.length → Fishref2StandInsOf_2_v2.loop1 v op D l y6 y7 aw rest k ((nD D (v.take k) : Nat) : Int) (Sa o op (v.take k)) =
      if awOk (Aw l aw) D (v.drop k) (op.drop k) then some (.next (((nD D v : Nat) : Int), Sa o op v)) else some (.ret (false, y6, y7))
  | 0, k, h => by
    rw [List.drop_eq_nil_of_le (by omega), List.take_of_length_le (by omega)]
    simp [Fishref2StandInsOf_2_v2.loop1, awOk]
  | rest + 1, k, h => by
    have hk : k < op.length := by omega
    have hkv : k < v.length := by omega
    have hs := hopl op[k] (List.getElem_mem hk)
    have hcl : nD D (v.take k) ≤ 8 := Nat.le_trans List.count_le_length (by rw [List.length_take]; omega)
    have ih := leaf_loop v hv hn hopl hol y6 y7 rest (k + 1) (by omega)
    have hst : Sa o op (v.take (k + 1)) = (Sa o op (v.take k)).set (op[k]).toNat v[k] := by rw [Sa_take]; simp [hkv, hk]
    have hct : nD D (v.take (k + 1)) = nD D (v.take k) + if v[k] = (D : Int) then 1 else 0 := by
      rw [List.take_add_one, List.getElem?_eq_getElem hkv]; simp only [Option.toList_some]; exact nD_snoc _ _
    rw [Fishref2StandInsOf_2_v2.loop1, gx_at hk]
    simp only [Option.bind_some]
    rw [gx_at hkv]
    simp only [Option.bind_some]
    rw [ix_in hs.1 (by rw [Sa_len]; omega), sx_in hs.1 (by rw [Sa_len]; omega)]
    simp only [Option.bind_some]
    rw [awOk_drop (Aw l aw) v op k hkv hk, ← hst]
    by_cases c : v[k] = (D : Int)
    · rw [if_pos (by simpa using c)]
      simp only [Option.bind_some]
      have e : w64 (((nD D (v.take k) : Nat) : Int) + 1) = ((nD D (v.take (k + 1)) : Nat) : Int) := by rw [hct, if_pos c, w64_id (by omega)]; omega
      rw [e, ih]
      simp [c]
    · rw [if_neg (by simpa using c), gx_sh hs]
      simp only [Option.bind_some]
      have hb : (v[k] == (D : Int)) = false := by simpa using c
      have hA : Fishref2StandInsOf_1_v1 v[k] (sh l op[k]).Day aw = Aw l aw v[k] op[k] := rfl
      rw [hA, hb]
      cases Aw l aw v[k] op[k] with
      | true => simp
      | false =>
        simp only [Bool.false_eq_true, if_false, Option.bind_some]
        have e2 : nD D (v.take (k + 1)) = nD D (v.take k) := by rw [hct, if_neg c]; omega
        rw [e2] at ih
        rw [ih]; simp
theorem take_eq (hx : x.Row ≥ 1) (hl : ∀ s ∈ l, Ok s) (hn : l.length ≤ 8) (hD : D ≤ 4) (hopl : ∀ s ∈ op, 0 ≤ s ∧ s < l.length) (hol : o.length = l.length) (hod : Dig ((D + 1 : Nat) : Int) o) (hop : op.length ≤ 8) (v : List Int) (st : Int × List Int) (hv : v.length = op.length) (hd : Dig ((D + 1 : Nat) : Int) v) :
    Fishref2StandInsOf_2_v2 v o op D l x st.1 st.2 aw = some (false, leafR l x aw o op D v st) := by
  unfold Fishref2StandInsOf_2_v2
  rw [clone_refl o (by omega)]
  simp only [Option.bind_some]
  have h0 := leaf_loop l aw (o := o) (op := op) (D := D) v hv (by omega) hopl hol st.1 st.2 op.length 0 (by omega)
  have e0 : ((nD D (v.take 0) : Nat) : Int) = 0 := by simp [nD]
  have e1 : Sa o op (v.take 0) = o := by cases op <;> rfl
  rw [e0, e1] at h0
  rw [List.drop_zero, List.drop_zero] at h0
  unfold leafR gd
  cases ha : awOk (Aw l aw) D v op with
  | false =>
    rw [ha, if_neg (by simp)] at h0
    rw [h0, Option.bind_some, if_neg (by simp)]
  | true =>
    rw [ha, if_pos rfl] at h0
    rw [h0, Option.bind_some, Bool.true_and]
    obtain ⟨r, g1, g2, g3⟩ := given_v1_eq hD (Sa o op v) (by rw [Sa_len]; omega) (Sa_dig _ _ _ _ hod hd)
    have hin : ∀ d ∈ r, Inb l d := by
      intro d hd
      obtain ⟨j, hj, rfl⟩ := List.getElem_of_mem hd
      rw [g3 j hj]; exact Rw_inb l (by rw [Sa_len]; exact hol)
    obtain ⟨c, e2, e3⟩ := later_iff l x hx hl r hin
    have hrw : rwOk l x o op D v = r.all (okd l x) := by
      unfold rwOk
      rw [Bool.eq_iff_iff, List.all_eq_true, List.all_eq_true, List.drop_eq_nil_of_le (by omega)]
      constructor
      · intro q d hd
        obtain ⟨j, hj, rfl⟩ := List.getElem_of_mem hd
        rw [g3 j hj]; exact q j (List.mem_range.2 (by omega))
      · intro q d hd
        have hd' : d < r.length := by have := List.mem_range.1 hd; omega
        rw [← g3 d hd']; exact q _ (List.getElem_mem hd')
    show ((Fishref2given_v1 (D : Int) (Sa o op v)).bind fun q141 => ((Fishref2later l q141 x).bind fun q148 => (if (q148 != 0) then some (false, st.1, st.2) else (bnd ((if decide (st.1 < 0) then true else decide (((nD D v : Nat) : Int) < st.1)) : Bool) fun q155 => (bnd ((if q155 then (((nD D v : Nat) : Int), Sa o op v) else (st.1, st.2)) : Int × (List Int)) fun q159 => match q159 with | (q162, q163) => some (false, q162, q163)))))) = _
    rw [g1, Option.bind_some, e2, Option.bind_some, hrw, e3]
    cases r.all (okd l x) with
    | false => rw [Bool.not_false, if_pos rfl, if_neg (by simp)]
    | true =>
      rw [Bool.not_true, if_neg (by simp), if_pos rfl]
      by_cases c1 : st.1 < 0
      · rw [if_pos (Or.inl c1)]; simp [c1, bnd]
      · by_cases c2 : ((nD D v : Nat) : Int) < st.1
        · rw [if_pos (Or.inr c2)]; simp [c1, c2, bnd]
        · rw [if_neg (show ¬ (st.1 < 0 ∨ ((nD D v : Nat) : Int) < st.1) by omega)]; simp [c1, c2, bnd]
theorem counts_eq (hx : x.Row ≥ 1) (hl : ∀ s ∈ l, Ok s) (hn : l.length ≤ 8) (hD : D ≤ 4) (hopl : ∀ s ∈ op, 0 ≤ s ∧ s < l.length) (hol : o.length = l.length) (hod : Dig ((D + 1 : Nat) : Int) o) (hop : op.length ≤ 8) (fu : Nat) (hf : 400000 < fu) :
    Fishref2counts_v1 fu ((op.length : Nat) : Int) ((D + 1 : Nat) : Int) o op D l x (-1) [] aw = some (false, encR o op D (En (D + 1) (leafU l x (Aw l aw) o op D) op.length [] none)) := by
  unfold Fishref2counts_v1
  rw [mks_in (by omega)]
  simp only [Option.bind_some]
  have hb := block (D + 1) (fun v st => (false, leafR l x aw o op D v st)) (by omega) op.length (fun N v st => Fishref2counts_v1.loop1 ((op.length : Nat) : Int) ((D + 1 : Nat) : Int) o op D l x aw fu N v st.1 st.2) (by
    intro N v st hv hd
    show Fishref2counts_v1.loop1 ((op.length : Nat) : Int) ((D + 1 : Nat) : Int) o op D l x aw fu (N + 1) v st.1 st.2 = _
    rw [Fishref2counts_v1.loop1, take_eq l x aw hx hl hn hD hopl hol hod hop v st hv hd]
    simp only [Option.bind_some, Bool.false_eq_true, if_false]
    have ho := odo ((D + 1 : Nat) : Int) (by omega) (Fishref2counts_v1.loop2 ((D + 1 : Nat) : Int)) (fun N k v => by rw [Fishref2counts_v1.loop2]) v.length v [] fu rfl (by omega) (by omega) hd
    rw [w64_id (x := ((op.length : Nat) : Int) - 1) (by omega)]
    rw [List.append_nil, hv] at ho
    cases hi : inc ((D + 1 : Nat) : Int) v with
    | none =>
      obtain ⟨v', e⟩ := ho.1 hi
      rw [e]
      simp only [Option.bind_some]
      rw [if_pos (by simp)]
    | some v' =>
      obtain ⟨k, u, y, e1, e2, e3, e4, e5⟩ := ho.2 v' hi
      rw [e1]
      simp only [Option.bind_some]
      rw [if_neg (by simp; omega), e3]
      simp only [Option.bind_some]
      rw [e4, e5]
      simp only [Option.bind_some, List.append_nil]) op.length [] (fu - (D + 1) ^ op.length) (-1, []) (by simp) (fun d hd => by cases hd)
  have hpow : (D + 1) ^ op.length ≤ 390625 := Nat.le_trans (Nat.pow_le_pow_left (show D + 1 ≤ 5 by omega) _) (Nat.le_trans (Nat.pow_le_pow_right (by omega) hop) (by decide))
  have e : (D + 1) ^ op.length + (fu - (D + 1) ^ op.length) = fu := by omega
  rw [e] at hb
  simp only [List.nil_append] at hb ⊢
  rw [hb, Cn_En]
  have hm := En_map (D + 1) (encR o op D) (leafU l x (Aw l aw) o op D) (leafR l x aw o op D) (fun v st => leaf_enc l x aw o op D v st) op.length [] none
  have e2 : encR o op D none = (-1, []) := rfl
  rw [e2] at hm
  rw [hm]
  rfl
end
/-! a roster that breaks no rule -/
section
variable (l : List FleetShift) (x : FleetLimits)
theorem notone : ∀ (r : List Int) (j : Nat), (SlicesIndexFuncLint_v1.loop1 r j = .next () ∧ ∀ v ∈ r, v = 1) ∨ (∃ i : Nat, SlicesIndexFuncLint_v1.loop1 r j = .ret (i : Int))
  | [], j => .inl ⟨rfl, fun v h => by cases h⟩
  | v :: r, j => by
    simp only [SlicesIndexFuncLint_v1.loop1, FleetjudgeRoster_1]
    by_cases hv : v = 1
    · subst hv
      simp only [bne_self_eq_false, Bool.false_eq_true, if_false]
      rcases notone r (j + 1) with ⟨h1, h2⟩ | h
      · refine .inl ⟨h1, fun w hw => ?_⟩
        rcases List.mem_cons.1 hw with rfl | hw
        · rfl
        · exact h2 w hw
      · exact .inr h
    · have hb : (v != 1) = true := by simpa using hv
      simp only [hb, if_true]
      exact .inr ⟨j, rfl⟩
theorem judge0 (hl : ∀ s ∈ l, Ok s) (hn : l.length ≤ 8) (ds : List (List Int)) (hs : ∀ d ∈ ds, d.length ≤ 9223372036854775807) (h : ∀ d ∈ ds, ∀ i ∈ d, 0 ≤ i ∧ i < l.length) (h0 : FleetjudgeRoster l ds x = some 0) :
    (∀ d ∈ ds, okd l x d = true) ∧ ∃ m', Fishref2RosterCode.loop1 ds (List.replicate l.length 0) = some m' ∧ ∀ v ∈ m', v = 1 := by
  have hm : mks (l.length : Int) (0 : Int) = some (List.replicate l.length 0) := by unfold mks; rw [if_pos ⟨by omega, by omega⟩]; simp
  obtain ⟨m', e1, e2, e3⟩ := judge_loop l x hl ds false false false (List.replicate l.length 0) hs h (by simp)
  unfold FleetjudgeRoster at h0
  simp only [hm, Option.bind_some, e1, Bool.false_or] at h0
  rcases notone m' 0 with ⟨f1, f2⟩ | ⟨i, f1⟩
  · have f3 : SlicesContainsFuncLint_v1 m' = false := by unfold SlicesContainsFuncLint_v1 SlicesIndexFuncLint_v1; rw [f1]; rfl
    simp only [f3, Bool.false_eq_true, if_false] at h0
    refine ⟨?_, m', e2, f2⟩
    intro d hd
    cases ht : T l ds with
    | true => simp [ht] at h0
    | false =>
      cases hg : G l x ds with
      | true => simp [ht, hg] at h0
      | false =>
        cases hF : F l x ds with
        | true => simp [ht, hg, hF] at h0
        | false =>
          have a1 := (List.any_eq_false.1 ht) d hd
          have a2 := (List.any_eq_false.1 hg) d hd
          have a3 := (List.any_eq_false.1 hF) d hd
          unfold okd
          simp only [Bool.not_eq_true] at a1 a2 a3
          rw [a1, a2, a3]; rfl
  · have f3 : SlicesContainsFuncLint_v1 m' = true := by unfold SlicesContainsFuncLint_v1 SlicesIndexFuncLint_v1; rw [f1]; simp [bnd_eq]
    simp [f3] at h0
theorem okd_nodup {d : List Int} (h : okd l x d = true) : d.Nodup := by
  unfold okd at h
  simp only [Bool.and_eq_true, Bool.not_eq_true'] at h
  have h1 := h.1.1
  clear h
  induction d with
  | nil => simp
  | cons a d ih =>
    simp only [pairs, Bool.or_eq_false_iff] at h1
    rw [List.nodup_cons]
    refine ⟨fun hm => ?_, ih h1.2⟩
    have := (List.any_eq_false.1 h1.1) a hm
    simp [same] at this
theorem row_short {d : List Int} (hd : d.Nodup) (h : ∀ i ∈ d, 0 ≤ i ∧ i < l.length) : d.length ≤ l.length := by
  have : d.Perm (((List.range l.length).filter fun i : Nat => d.contains (i : Int)).map fun i : Nat => (i : Int)) := by
    refine perm_mem hd ?_ ?_
    · exact (List.pairwise_map.2 ((List.Pairwise.filter _ List.pairwise_lt_range).imp fun h => by omega))
    · intro i
      simp only [List.mem_map, List.mem_filter, List.mem_range]
      constructor
      · intro hi
        have := h i hi
        exact ⟨i.toNat, ⟨by omega, by have e : ((i.toNat : Nat) : Int) = i := by omega
                                      rw [e]; simpa using hi⟩, by omega⟩
      · rintro ⟨k, ⟨_, h2⟩, rfl⟩; simpa using h2
  rw [this.length_eq, List.length_map]
  exact Nat.le_trans (List.length_filter_le _ _) (by simp)
/-- how often each shift is on the rows -/
theorem count2 : ∀ (d : List Int) (m : List Int), (∀ i ∈ d, 0 ≤ i ∧ i < m.length) → (∀ v ∈ m, 0 ≤ v ∧ v + d.length ≤ 1000) → ∃ m', Fishref2RosterCode.loop2 d m = some m' ∧ m'.length = m.length ∧ (∀ v ∈ m', 0 ≤ v ∧ v ≤ 1000) ∧ ∀ (i : Nat) (h : i < m'.length) (h2 : i < m.length), m'[i] = m[i] + ((d.count (i : Int) : Nat) : Int)
  | [], m, _, hb => ⟨m, rfl, rfl, fun v hv => by have := hb v hv; simp at this; omega, fun i h h2 => by simp⟩
  | a :: d, m, h, hb => by
    have ha := h a (by simp)
    have hi : a.toNat < m.length := by omega
    have hv := hb m[a.toNat] (List.getElem_mem hi)
    simp only [List.length_cons] at hb hv
    rw [Fishref2RosterCode.loop2, gx_toNat ha.1 hi]
    simp only [Option.bind_some]
    rw [ix_in ha.1 (by omega), sx_in ha.1 (by omega)]
    simp only [Option.bind_some]
    rw [w64_id (by omega)]
    obtain ⟨m', e1, e2, e3, e4⟩ := count2 d (m.set a.toNat (m[a.toNat] + 1)) (fun i hi => by simpa using h i (by simp [hi])) (by
      intro v hv
      rcases List.mem_or_eq_of_mem_set hv with hv | rfl
      · have := hb v hv; omega
      · omega)
    refine ⟨m', e1, by simpa using e2, e3, ?_⟩
    intro i h1 h2
    rw [e4 i h1 (by simpa using h2), List.getElem_set, List.count_cons]
    by_cases c : a.toNat = i
    · have : (a == (i : Int)) = true := by simp; omega
      rw [if_pos c, if_pos this]
      subst c; omega
    · have : ¬ (a == (i : Int)) = true := by simp; omega
      rw [if_neg c, if_neg this]; omega
theorem count1 : ∀ (ds : List (List Int)) (m : List Int), (∀ d ∈ ds, ∀ i ∈ d, 0 ≤ i ∧ i < m.length) → (∀ d ∈ ds, d.length ≤ 8) → ds.length ≤ 4 → (∀ v ∈ m, 0 ≤ v ∧ v + 8 * ds.length ≤ 100) → ∃ m', Fishref2RosterCode.loop1 ds m = some m' ∧ m'.length = m.length ∧ ∀ (i : Nat) (h : i < m'.length) (h2 : i < m.length), m'[i] = m[i] + ((ds.flatten.count (i : Int) : Nat) : Int)
  | [], m, _, _, _, _ => ⟨m, rfl, rfl, fun i h h2 => by simp⟩
  | d :: ds, m, h, hs, hd4, hb => by
    have hd := hs d (by simp)
    simp only [List.length_cons] at hb hd4
    obtain ⟨m1, e1, e2, e3, e4⟩ := count2 d m (h d (by simp)) (fun v hv => by have := hb v hv; omega)
    rw [Fishref2RosterCode.loop1, e1]
    simp only [Option.bind_some]
    have hb1 : ∀ v ∈ m1, 0 ≤ v ∧ v + 8 * ds.length ≤ 100 := by
      intro v hv
      obtain ⟨i, hi, rfl⟩ := List.getElem_of_mem hv
      have h3 := e4 i hi (by omega)
      have h4 := hb m[i] (List.getElem_mem (by omega))
      have h5 : d.count (i : Int) ≤ d.length := List.count_le_length
      omega
    obtain ⟨m', f1, f2, f3⟩ := count1 ds m1 (fun d hd i hi => by rw [e2]; exact h d (by simp [hd]) i hi) (fun d hd => hs d (by simp [hd])) (by omega) hb1
    refine ⟨m', f1, by omega, ?_⟩
    intro i h1 h2
    rw [f3 i h1 (by omega), e4 i (by omega) h2, List.flatten_cons, List.count_append]
    omega

/-- who has which shift -/
structure Cov (ds : List (List Int)) (o : List Int) : Prop where
  len : o.length = l.length
  row : ∀ (d : Nat) (h : d < ds.length) (i : Int), i ∈ ds[d] ↔ 0 ≤ i ∧ o[i.toNat]? = some (d : Int)
  low : ∀ e ∈ o, 0 ≤ e ∧ e < (ds.length : Int)
theorem own2 (k : Nat) : ∀ (d : List Int) (o : List Int), (∀ i ∈ d, 0 ≤ i ∧ i < o.length) → ∃ o', Fishref2StandInsOf.loop2 k d o = some o' ∧ o'.length = o.length ∧ (∀ i ∈ d, o'[i.toNat]? = some (k : Int)) ∧ ∀ i : Nat, (i : Int) ∉ d → o'[i]? = o[i]?
  | [], o, _ => ⟨o, rfl, rfl, fun i h => (by cases h), fun i _ => rfl⟩
  | a :: d, o, h => by
    have ha := h a (by simp)
    rw [Fishref2StandInsOf.loop2, ix_in ha.1 (by omega), sx_in ha.1 (by omega)]
    simp only [Option.bind_some]
    obtain ⟨o', e1, e2, e3, e4⟩ := own2 k d (o.set a.toNat (k : Int)) (fun i hi => by simpa using h i (by simp [hi]))
    refine ⟨o', e1, by simpa using e2, ?_, ?_⟩
    · intro i hi
      by_cases c : i ∈ d
      · exact e3 i c
      · rcases List.mem_cons.1 hi with rfl | hi
        · have e : ((i.toNat : Nat) : Int) = i := by omega
          rw [e4 i.toNat (by rw [e]; exact c), List.getElem?_set_self (by omega)]
        · exact absurd hi c
    · intro i hi
      rw [List.mem_cons] at hi
      rw [e4 i (fun h => hi (.inr h)), List.getElem?_set_ne (by omega)]
theorem own1 : ∀ (ds : List (List Int)) (k : Nat) (o : List Int), (∀ d ∈ ds, ∀ i ∈ d, 0 ≤ i ∧ i < o.length) → ds.flatten.Nodup → ∃ o', Fishref2StandInsOf.loop1 ds k o = some o' ∧ o'.length = o.length ∧ (∀ (d : Nat) (h : d < ds.length), ∀ i ∈ ds[d], o'[i.toNat]? = some ((k + d : Nat) : Int)) ∧ ∀ i : Nat, (i : Int) ∉ ds.flatten → o'[i]? = o[i]?
  | [], k, o, _, _ => ⟨o, rfl, rfl, fun d h => (by simp at h), fun i _ => rfl⟩
  | r :: ds, k, o, h, hnd => by
    rw [List.flatten_cons, List.nodup_append] at hnd
    obtain ⟨o1, e1, e2, e3, e4⟩ := own2 k r o (h r (by simp))
    rw [Fishref2StandInsOf.loop1, e1]
    simp only [Option.bind_some]
    obtain ⟨o', f1, f2, f3, f4⟩ := own1 ds (k + 1) o1 (fun d hd i hi => by rw [e2]; exact h d (by simp [hd]) i hi) hnd.2.1
    refine ⟨o', f1, by omega, ?_, ?_⟩
    · intro d hd i hi
      cases d with
      | zero =>
        simp only [List.getElem_cons_zero] at hi
        have hb := h r (by simp) i hi
        have e : ((i.toNat : Nat) : Int) = i := by omega
        rw [f4 i.toNat (by rw [e]; exact fun hm => hnd.2.2 i hi i hm rfl)]
        simpa using e3 i hi
      | succ d =>
        simp only [List.getElem_cons_succ] at hi
        have := f3 d (by simpa using hd) i hi
        rw [this]; congr 2; omega
    · intro i hi
      rw [List.flatten_cons, List.mem_append] at hi
      rw [f4 i (fun h => hi (.inr h)), e4 i (fun h => hi (.inl h))]
theorem cover (hl : ∀ s ∈ l, Ok s) (hn : l.length ≤ 8) (ds : List (List Int)) (hD : ds.length ≤ 4) (hs : ∀ d ∈ ds, d.length ≤ 9223372036854775807) (h : ∀ d ∈ ds, ∀ i ∈ d, 0 ≤ i ∧ i < l.length) (h0 : FleetjudgeRoster l ds x = some 0) :
    (∀ d ∈ ds, okd l x d = true) ∧ ∃ o, Fishref2StandInsOf.loop1 ds 0 (List.replicate l.length 0) = some o ∧ Cov l ds o := by
  obtain ⟨h1, m', e1, e2⟩ := judge0 l x hl hn ds hs h h0
  refine ⟨h1, ?_⟩
  have hsh : ∀ d ∈ ds, d.length ≤ 8 := fun d hd => Nat.le_trans (row_short l (okd_nodup l x (h1 d hd)) (h d hd)) hn
  obtain ⟨m2, f1, f2, f3⟩ := count1 ds (List.replicate l.length 0) (fun d hd i hi => by simpa using h d hd i hi) hsh hD (fun v hv => by rw [List.eq_of_mem_replicate hv]; omega)
  rw [e1] at f1; injection f1 with f1; subst f1
  have hc : ∀ i : Nat, i < l.length → ds.flatten.count (i : Int) = 1 := by
    intro i hi
    have h3 : i < m'.length := by rw [f2]; simpa using hi
    have h4 := f3 i h3 (by simpa using hi)
    rw [e2 _ (List.getElem_mem h3)] at h4
    simp at h4; omega
  have hnd : ds.flatten.Nodup := by
    rw [List.nodup_iff_count]
    intro a
    by_cases c : a ∈ ds.flatten
    · obtain ⟨d, hd, ha⟩ := List.mem_flatten.1 c
      have := h d hd a ha
      have h4 := hc a.toNat (by omega)
      have e : ((a.toNat : Nat) : Int) = a := by omega
      rw [e] at h4; omega
    · rw [List.count_eq_zero_of_not_mem c]; omega
  obtain ⟨o, g1, g2, g3, g4⟩ := own1 ds 0 (List.replicate l.length 0) (fun d hd i hi => by simpa using h d hd i hi) hnd
  have hwho : ∀ i : Nat, i < l.length → ∃ (d : Nat) (hd : d < ds.length), (i : Int) ∈ ds[d] ∧ o[i]? = some (d : Int) := by
    intro i hi
    have : (i : Int) ∈ ds.flatten := List.count_pos_iff.1 (by rw [hc i hi]; omega)
    obtain ⟨r, hr, hm⟩ := List.mem_flatten.1 this
    obtain ⟨d, hd, rfl⟩ := List.getElem_of_mem hr
    have := g3 d hd _ hm
    exact ⟨d, hd, hm, by simpa using this⟩
  refine ⟨o, g1, by simpa using g2, ?_, ?_⟩
  · intro d hd i
    constructor
    · intro hi
      exact ⟨(h _ (List.getElem_mem hd) i hi).1, by simpa using g3 d hd i hi⟩
    · rintro ⟨h3, h4⟩
      have h5 := (List.getElem?_eq_some_iff.1 h4).1
      obtain ⟨e, he, hm, h6⟩ := hwho i.toNat (by rw [g2] at h5; simpa using h5)
      rw [h4] at h6
      injection h6 with h6
      have : d = e := by omega
      subst this
      have e2 : ((i.toNat : Nat) : Int) = i := by omega
      rwa [e2] at hm
  · intro e he
    obtain ⟨i, hi, rfl⟩ := List.getElem_of_mem he
    obtain ⟨d, hd, _, h6⟩ := hwho i (by rw [g2] at hi; simpa using hi)
    rw [List.getElem?_eq_getElem hi] at h6
    injection h6 with h6
    omega
end
/-! the standing at the start -/
section
variable (l : List FleetShift) (x : FleetLimits)
theorem absM (a b : FleetAbsence) : (a == b) = decide (a = b) := by
  by_cases h : a = b
  · subst h; simp
  · have : (a == b) = false := by
      cases k : a == b with
      | false => rfl
      | true => exact absurd (eq_of_beq k) h
    simp [h, this]
theorem mget_putA (m : List (FleetAbsence × Bool)) (k j : FleetAbsence) (v : Bool) : mget (mput m k v) j = if j = k then some v else mget m j := by
  induction m with
  | nil => simp [mput, mget, absM]
  | cons p r ih =>
    obtain ⟨a, b⟩ := p
    simp only [mput]
    by_cases h : k = a
    · subst h
      simp only [absM, decide_true, if_true, mget]
      by_cases h2 : j = k <;> simp [h2]
    · simp only [absM, h, decide_false, Bool.false_eq_true, if_false, mget]
      by_cases h2 : j = a
      · subst h2; have : ¬ j = k := fun e => h e.symm; simp [this]
      · simp [h2, ih]
theorem mget_putI (m : List (Int × Int)) (k j v : Int) : mget (mput m k v) j = if j = k then some v else mget m j := by
  induction m with
  | nil => simp [mput, mget]
  | cons p r ih =>
    obtain ⟨a, b⟩ := p
    simp only [mput]
    by_cases h : k = a
    · subst h
      simp only [beq_self_eq_true, if_true, mget]
      by_cases h2 : j = k <;> simp [h2]
    · have hb : (k == a) = false := by simpa using h
      simp only [hb, Bool.false_eq_true, if_false, mget]
      by_cases h2 : j = a
      · subst h2; have : ¬ j = k := fun e => h e.symm; simp [this]
      · have hb2 : (j == a) = false := by simpa using h2
        simp [hb2, ih]
theorem indexA (y : FleetAbsence) : ∀ (r : List FleetAbsence) (j : Nat), (SlicesIndexLfleetAbsence.loop1 y r j = .next () ∧ y ∉ r) ∨ ((∃ i : Nat, SlicesIndexLfleetAbsence.loop1 y r j = .ret (i : Int)) ∧ y ∈ r)
  | [], j => .inl ⟨rfl, by simp⟩
  | z :: r, j => by
    simp only [SlicesIndexLfleetAbsence.loop1]
    by_cases h : y = z
    · subst h
      exact .inr ⟨⟨j, by simp⟩, by simp⟩
    · have hb : ¬ (y.Driver == z.Driver && y.Day == z.Day) = true := by
        intro k
        simp only [Bool.and_eq_true, beq_iff_eq] at k
        refine h ?_
        cases y; cases z
        simp at k ⊢; exact k
      rw [if_neg hb]
      rcases indexA y r (j + 1) with ⟨h1, h2⟩ | ⟨h1, h2⟩
      · exact .inl ⟨h1, by simp [h, h2]⟩
      · exact .inr ⟨h1, by simp [h2]⟩
theorem containsA (r : List FleetAbsence) (y : FleetAbsence) : SlicesContainsLfleetAbsence r y = decide (y ∈ r) := by
  unfold SlicesContainsLfleetAbsence SlicesIndexLfleetAbsence
  rcases indexA y r 0 with ⟨h1, h2⟩ | ⟨⟨i, h1⟩, h2⟩
  · rw [h1]; simp [h2, bnd_eq]
  · rw [h1]; simp [h2, bnd_eq]
theorem gone_loop (ds : List (List Int)) (hd : ds.length ≤ 4) : ∀ (aw : List FleetAbsence) (m : List (FleetAbsence × Bool)), (FleetStandIns.loop1 ds aw m = .ret ([], [], 2) ∧ Fishref2StandInsFault.loop1 ds aw = .ret 2) ∨
    (∃ m', FleetStandIns.loop1 ds aw m = .next m' ∧ Fishref2StandInsFault.loop1 ds aw = .next () ∧ ∀ y, (mget m' y).getD false = ((mget m y).getD false || decide (y ∈ aw)))
  | [], m => .inr ⟨m, rfl, rfl, fun y => by simp⟩
  | a :: aw, m => by
    have hw : (!(Fleetwithin a.Driver 0 (w64 (((ds).length : Int) - 1)))) = (decide (a.Driver < 0) || decide (a.Driver ≥ (ds.length : Int))) := by
      rw [w64_id (by omega), within_iff]
      by_cases c1 : a.Driver < 0
      · have : ¬ (0 ≤ a.Driver ∧ a.Driver ≤ (ds.length : Int) - 1) := by omega
        simp [c1, this]
      · by_cases c2 : a.Driver ≥ (ds.length : Int)
        · have : ¬ (0 ≤ a.Driver ∧ a.Driver ≤ (ds.length : Int) - 1) := by omega
          simp [c2, this]
        · have : 0 ≤ a.Driver ∧ a.Driver ≤ (ds.length : Int) - 1 := by omega
          simp [c1, c2, this]
    simp only [FleetStandIns.loop1, Fishref2StandInsFault.loop1, bnd_eq, within_ref, hw]
    cases h1 : decide (a.Driver < 0) with
    | true => left; simp
    | false =>
      cases h2 : decide (a.Driver ≥ (ds.length : Int)) with
      | true => left; simp
      | false =>
        cases h3 : Fleetwithin a.Day 0 6 with
        | false => left; simp
        | true =>
          simp only [Bool.or_self, Bool.false_eq_true, if_false, Bool.not_true]
          rcases gone_loop ds hd aw (mput m a true) with h | ⟨m', e1, e2, e3⟩
          · exact .inl h
          · refine .inr ⟨m', e1, e2, ?_⟩
            intro y
            rw [e3 y, mget_putA]
            by_cases c : y = a
            · subst c; simp
            · simp [c]
/-- what the rows become: who stays, who is away -/
theorem part3 (gn : List (FleetAbsence × Bool)) (k : Nat) (A : Int → Int → Bool) (hA : ∀ d s, (mget gn (FleetAbsence.mk d (sh l s).Day)).getD false = A d s) :
    ∀ (row : List Int) (now : List (List Int)) (open_ : List Int) (own : List (Int × Int)) (hk : k < now.length), (∀ i ∈ row, 0 ≤ i ∧ i < l.length) → (now[k]).length + row.length < 4294967296 → open_.length + row.length < 4294967296 →
      (∀ s ∈ open_, ∃ d : Int, mget own s = some d ∧ A d s = true) →
      ∃ own', FleetStandIns.loop3 l gn k row now open_ own = some (now.set k (now[k] ++ row.filter fun i => !A k i), open_ ++ row.filter (fun i => A k i), own') ∧ (∀ s ∈ open_ ++ row.filter (fun i => A k i), ∃ d : Int, mget own' s = some d ∧ A d s = true)
  | [], now, open_, own, hk, _, _, _, hO => ⟨own, by simp [FleetStandIns.loop3], by simpa using hO⟩
  | i :: row, now, open_, own, hk, h, hb, hb2, hO => by
    have hi := h i (by simp)
    simp only [List.length_cons] at hb hb2
    rw [FleetStandIns.loop3, gx_sh hi]
    simp only [Option.bind_some]
    rw [hA (k : Int) i]
    cases ha : A k i with
    | true =>
      simp only [if_true]
      rw [apd_lt (by simp; omega)]
      simp only [Option.bind_some]
      obtain ⟨own', e1, e2⟩ := part3 gn k A hA row now (open_ ++ [i]) (mput own i (k : Int)) hk (fun j hj => h j (by simp [hj])) (by omega) (by simp; omega) (by
        intro s hs
        rw [mget_putI]
        by_cases c : s = i
        · rw [if_pos c]; exact ⟨_, rfl, by rw [c]; exact ha⟩
        · rw [if_neg c]
          rcases List.mem_append.1 hs with hs | hs
          · exact hO s hs
          · simp at hs; exact absurd hs c)
      refine ⟨own', ?_, ?_⟩
      · rw [e1]; simp [ha]
      · intro s hs
        refine e2 s ?_
        simpa [ha] using hs
    | false =>
      simp only [Bool.false_eq_true, if_false]
      rw [gx_at hk]
      simp only [Option.bind_some]
      rw [apd_lt (by simp; omega)]
      simp only [Option.bind_some]
      rw [ix_in (by omega) (by omega), sx_in (by omega) (by omega)]
      simp only [Option.bind_some, Int.toNat_natCast]
      have hk' : k < (now.set k (now[k] ++ [i])).length := by simpa using hk
      have hg : (now.set k (now[k] ++ [i]))[k] = now[k] ++ [i] := List.getElem_set_self _
      obtain ⟨own', e1, e2⟩ := part3 gn k A hA row (now.set k (now[k] ++ [i])) open_ own hk' (fun j hj => h j (by simp [hj])) (by rw [hg]; simp; omega) (by omega) hO
      refine ⟨own', ?_, ?_⟩
      · rw [e1, hg, List.set_set]; simp [ha]
      · intro s hs
        refine e2 s ?_
        simpa [ha] using hs
theorem part2 (gn : List (FleetAbsence × Bool)) (A : Int → Int → Bool) (hA : ∀ d s, (mget gn (FleetAbsence.mk d (sh l s).Day)).getD false = A d s) :
    ∀ (rows : List (List Int)) (k : Nat) (now : List (List Int)) (open_ : List Int) (own : List (Int × Int)), k + rows.length = now.length → (∀ r ∈ rows, ∀ i ∈ r, 0 ≤ i ∧ i < l.length) → (∀ r ∈ rows, r.length ≤ 8) → open_.length + 8 * rows.length < 100 →
      (∀ (j : Nat) (h : j < now.length), k ≤ j → now[j] = []) → (∀ s ∈ open_, ∃ d : Int, mget own s = some d ∧ A d s = true) →
      ∃ now' open' own', FleetStandIns.loop2 l gn rows k now open_ own = some (now', open', own') ∧ now'.length = now.length ∧ (∀ (j : Nat) (h : j < now'.length) (h2 : j < now.length), j < k → now'[j] = now[j]) ∧
        (∀ (j : Nat) (h : j < rows.length) (h2 : k + j < now'.length), now'[k + j] = (rows[j]).filter fun i => !A ((k + j : Nat) : Int) i) ∧
        (∀ s, s ∈ open' ↔ s ∈ open_ ∨ ∃ (j : Nat) (h : j < rows.length), s ∈ rows[j] ∧ A ((k + j : Nat) : Int) s = true) ∧ (open'.length ≤ open_.length + 8 * rows.length) ∧
        (open_.Nodup → rows.flatten.Nodup → (∀ s ∈ open_, s ∉ rows.flatten) → open'.Nodup) ∧ (∀ s ∈ open', ∃ d : Int, mget own' s = some d ∧ A d s = true)
  | [], k, now, open_, own, hk, _, _, _, _, hO => ⟨now, open_, own, rfl, rfl, fun _ _ _ _ => rfl, fun j h => (by simp at h), fun s => by simp, by simp, fun h _ _ => h, hO⟩
  | r :: rows, k, now, open_, own, hk, h, h8, hb, hz, hO => by
    simp only [List.length_cons] at hk hb
    have hkn : k < now.length := by omega
    have hr8 := h8 r (by simp)
    have hz0 := hz k hkn (Nat.le_refl _)
    obtain ⟨own1, e1, e2⟩ := part3 l gn k A hA r now open_ own hkn (h r (by simp)) (by rw [hz0]; simp; omega) (by omega) hO
    rw [FleetStandIns.loop2, e1]
    simp only [Option.bind_some]
    have hfl : (r.filter fun i => A k i).length ≤ 8 := Nat.le_trans (List.length_filter_le _ _) hr8
    obtain ⟨now', open', own', f1, f2, f3, f4, f5, f6, f7, f8⟩ := part2 gn A hA rows (k + 1) (now.set k (now[k] ++ r.filter fun i => !A k i)) (open_ ++ r.filter fun i => A k i) own1 (by simp; omega) (fun q hq => h q (by simp [hq])) (fun q hq => h8 q (by simp [hq])) (by simp; omega) (by
      intro j hj hkj
      rw [List.getElem_set_ne (by omega)]
      exact hz j (by simpa using hj) (by omega)) e2
    have f2' : now'.length = now.length := by simpa using f2
    refine ⟨now', open', own', f1, f2', ?_, ?_, ?_, ?_, ?_, f8⟩
    · intro j h1 h2 h3
      rw [f3 j h1 (by simpa using h2) (by omega), List.getElem_set_ne (by omega)]
    · intro j h1 h2
      cases j with
      | zero =>
        simp only [Nat.add_zero, List.getElem_cons_zero]
        rw [f3 k (by omega) (by simpa using hkn) (by omega), List.getElem_set_self, hz0]; simp
      | succ j =>
        have h3 : k + 1 + j < now'.length := by omega
        have := f4 j (by simpa using h1) h3
        simp only [List.getElem_cons_succ]
        have e : k + (j + 1) = k + 1 + j := by omega
        simp only [e]; exact this
    · intro s
      rw [f5 s, List.mem_append, List.mem_filter]
      constructor
      · rintro ((h1 | h1) | ⟨j, hj, h1⟩)
        · exact .inl h1
        · exact .inr ⟨0, by simp, by simpa using h1⟩
        · refine .inr ⟨j + 1, by simpa using hj, ?_⟩
          have e : k + (j + 1) = k + 1 + j := by omega
          rw [e]; simpa using h1
      · rintro (h1 | ⟨j, hj, h1⟩)
        · exact .inl (.inl h1)
        · cases j with
          | zero => exact .inl (.inr (by simpa using h1))
          | succ j =>
            refine .inr ⟨j, by simpa using hj, ?_⟩
            have e : k + (j + 1) = k + 1 + j := by omega
            rw [e] at h1; simpa using h1
    · rw [List.length_append] at f6; simp only [List.length_cons]; omega
    · intro n1 n2 n3
      rw [List.flatten_cons, List.nodup_append] at n2
      refine f7 ?_ n2.2.1 ?_
      · rw [List.nodup_append]
        refine ⟨n1, n2.1.sublist List.filter_sublist, ?_⟩
        intro a ha b hb e
        subst e
        exact n3 a ha (by rw [List.flatten_cons, List.mem_append]; exact .inl (List.mem_filter.1 hb).1)
      · intro s hs hm
        rcases List.mem_append.1 hs with hs | hs
        · exact n3 s hs (by rw [List.flatten_cons, List.mem_append]; exact .inr hm)
        · exact n2.2.2 s (List.mem_filter.1 hs).1 s hm rfl
end
/-! the whole -/
section
theorem isort_eq {a b : List Int} (ha : a.Nodup) (hb : b.Pairwise (· < ·)) (h : ∀ i, i ∈ a ↔ i ∈ b) : isort a = b := by
  have h1 : (isort a).Perm a := List.mergeSort_perm a _
  have h2 : (isort a).Pairwise (fun x y => decide (x ≤ y) = true) := List.pairwise_mergeSort (fun a b c h1 h2 => by simp at *; omega) (fun a b => by simp; omega) a
  refine (h1.trans (perm_mem ha (asc_nodup hb) h)).eq_of_pairwise (fun i j _ _ h1 h2 => ?_) (h2.imp fun h => by simpa using h) (hb.imp fun h => by omega)
  omega
variable (l : List FleetShift) (x : FleetLimits)
theorem open_loop (aw : List FleetAbsence) (o : List Int) (ho : o.length = l.length) (hn : l.length ≤ 8) : ∀ (rest k : Nat) (acc : List Int), rest + k = l.length → acc.length ≤ k → acc.Pairwise (· < ·) → (∀ i, i ∈ acc ↔ 0 ≤ i ∧ i < (k : Int) ∧ ∃ d, o[i.toNat]? = some d ∧ Aw l aw d i = true) →
    ∃ op, Fishref2StandInsOf.loop3 l aw o rest k acc = some op ∧ op.length ≤ l.length ∧ op.Pairwise (· < ·) ∧ ∀ i, i ∈ op ↔ 0 ≤ i ∧ ∃ d, o[i.toNat]? = some d ∧ Aw l aw d i = true
  | 0, k, acc, h, hl, ha, hm => by
    refine ⟨acc, rfl, by omega, ha, ?_⟩
    intro i
    rw [hm i]
    constructor
    · rintro ⟨h1, _, h2⟩; exact ⟨h1, h2⟩
    · rintro ⟨h1, d, h2, h3⟩
      have := (List.getElem?_eq_some_iff.1 h2).1
      exact ⟨h1, by omega, d, h2, h3⟩
  | rest + 1, k, acc, h, hl, ha, hm => by
    have hk : k < o.length := by omega
    have hkl : k < l.length := by omega
    have hshk : l[k] = sh l (k : Int) := by unfold sh; simp [hkl]
    have hmem : ∀ (i : Int) (q : List Int), (∀ i, i ∈ q ↔ i ∈ acc ∨ (i = (k : Int) ∧ Aw l aw o[k] k = true)) → (i ∈ q ↔ 0 ≤ i ∧ i < ((k + 1 : Nat) : Int) ∧ ∃ d, o[i.toNat]? = some d ∧ Aw l aw d i = true) := by
      intro i q hq
      rw [hq i, hm i]
      constructor
      · rintro (⟨h1, h2, h3⟩ | ⟨rfl, h2⟩)
        · exact ⟨h1, by omega, h3⟩
        · exact ⟨by omega, by omega, o[k], by simp [hk], h2⟩
      · rintro ⟨h1, h2, d, h3, h4⟩
        by_cases c : i = (k : Int)
        · subst c
          rw [Int.toNat_natCast, List.getElem?_eq_getElem hk] at h3
          injection h3 with h3
          subst h3
          exact .inr ⟨rfl, h4⟩
        · exact .inl ⟨h1, by omega, d, h3, h4⟩
    rw [Fishref2StandInsOf.loop3, gx_at hk]
    simp only [Option.bind_some]
    rw [gx_at hkl]
    simp only [Option.bind_some]
    have hA : Fishref2StandInsOf_1_v1 o[k] l[k].Day aw = Aw l aw o[k] k := by rw [hshk]; rfl
    rw [hA]
    cases hc : Aw l aw o[k] k with
    | true =>
      simp only [if_true]
      rw [apd_lt (by simp; omega)]
      simp only [Option.bind_some]
      refine open_loop aw o ho hn rest (k + 1) (acc ++ [(k : Int)]) (by omega) (by simp; omega) ?_ (fun i => hmem i _ (fun i => by simp [hc]))
      rw [List.pairwise_append]
      refine ⟨ha, by simp, ?_⟩
      intro a h1 b h2
      simp at h2; subst h2
      have := (hm a).1 h1
      omega
    | false =>
      simp only [Bool.false_eq_true, if_false, Option.bind_some]
      exact open_loop aw o ho hn rest (k + 1) acc (by omega) (by omega) ha (fun i => hmem i _ (fun i => by simp [hc]))

theorem Rw_step (v : List Int) (k : Nat) (hk : k < v.length) (d : Int) : Rw (v.take (k + 1)) [] d = Rw (v.take k) [] d ++ (if v[k] = d then [(k : Int)] else []) := by
  refine eq_mem (Rw_asc _ _ _) ?_ ?_
  · rw [List.pairwise_append]
    refine ⟨Rw_asc _ _ _, by split <;> simp, ?_⟩
    intro a ha b hb
    obtain ⟨a0, a1, _⟩ := mem_Rw.1 ha
    have := (List.getElem?_eq_some_iff.1 a1).1
    rw [List.length_take] at this
    split at hb
    · simp at hb; omega
    · cases hb
  · intro i
    rw [List.mem_append, mem_Rw, mem_Rw, List.getElem?_take, List.getElem?_take]
    have hif : i ∈ (if v[k] = d then [(k : Int)] else []) ↔ i = (k : Int) ∧ v[k] = d := by split <;> simp [*]
    rw [hif]
    by_cases c : i.toNat < k
    · have c2 : i.toNat < k + 1 := by omega
      rw [if_pos c, if_pos c2]
      constructor
      · exact fun h => .inl h
      · rintro (h | ⟨h, _⟩)
        · exact h
        · omega
    · rw [if_neg c]
      by_cases c2 : i.toNat < k + 1
      · have c3 : i.toNat = k := by omega
        rw [if_pos c2, c3, List.getElem?_eq_getElem hk]
        simp
        intro _
        constructor
        · intro h; omega
        · intro h; omega
      · rw [if_neg c2]
        simp
        intro h; omega
theorem left_loop (ds : List (List Int)) (v : List Int) (hv : v.length ≤ 8) : ∀ (rest : List Int) (k : Nat), v.drop k = rest → Fishref2StandInsOf.loop4 ds rest k (Rw (v.take k) [] (ds.length : Int)) = some (Rw v [] (ds.length : Int))
  | [], k, h => by
    have := drop_nil h
    rw [List.take_of_length_le this]; rfl
  | y :: rest, k, h => by
    obtain ⟨d1, d2, d3⟩ := drop_cons h
    have hy : v[k] = y := by rw [List.getElem?_eq_getElem d1] at d2; injection d2
    have ih := left_loop ds v hv rest (k + 1) d3
    rw [Rw_step v k d1, hy] at ih
    rw [Fishref2StandInsOf.loop4]
    by_cases c : y = (ds.length : Int)
    · rw [if_pos (by simpa using c)]
      rw [if_pos c] at ih
      have hl : (Rw (v.take k) [] (ds.length : Int)).length ≤ 8 := Nat.le_trans (Rw_len _ _ _) (by rw [List.length_take]; omega)
      rw [apd_lt (by simp; omega)]
      simp only [Option.bind_some]
      exact ih
    · rw [if_neg (by simpa using c)]
      rw [if_neg c, List.append_nil] at ih
      simp only [Option.bind_some]
      exact ih

theorem main (ds : List (List Int)) (aw : List FleetAbsence) (fu : Nat) (hf : 400000 < fu) (hl : ∀ s ∈ l, Ok s) (hn : l.length ≤ 8) (hx : x.Row ≥ 1) (hD : ds.length ≤ 4) (hs : ∀ d ∈ ds, d.length ≤ 9223372036854775807) (h : ∀ d ∈ ds, ∀ i ∈ d, 0 ≤ i ∧ i < l.length) (h0 : FleetjudgeRoster l ds x = some 0)
    (gn : List (FleetAbsence × Bool)) (hgn : ∀ y, (mget gn y).getD false = decide (y ∈ aw)) :
    ∃ r left, ((mks ((ds).length : Int) ([] : List Int)).bind fun x85 => ((FleetStandIns.loop2 l gn ds 0 x85 [] []).bind fun q97 => match q97 with | (q107, q114, q121) => ((srt q114).bind fun q228 => ((FleetStandIns_1_z fu 0 [] [] [] q228 q107 q121 gn l x).bind fun q240 => ((srtRows q240.2.1 q240.2.2.2).bind fun q259 => some (q259, q240.2.2.2, (0 : Int))))))) = some (r, left, 0) ∧
      ((mks ((l).length : Int) (0 : Int)).bind fun x60 => ((Fishref2StandInsOf.loop1 ds 0 x60).bind fun q78 => ((Fishref2StandInsOf.loop3 l aw q78 x60.length 0 []).bind fun q138 => ((Fishref2counts_v1 fu ((q138.length : Nat) : Int) (w64 (((ds).length : Int) + 1)) q78 q138 ((ds).length : Int) l x (-1) [] aw).bind fun q187 => ((Fishref2StandInsOf.loop4 ds q187.2.2 0 []).bind fun q206 => ((Fishref2given ((ds).length : Int) q187.2.2).bind fun q238 => some (q238, q206, (0 : Int)))))))) = some (r, left, 0) := by
  obtain ⟨hok, o, e1, C⟩ := cover l x hl hn ds hD hs h h0
  have hsh : ∀ d ∈ ds, d.length ≤ 8 := fun d hd => Nat.le_trans (row_short l (okd_nodup l x (hok d hd)) (h d hd)) hn
  obtain ⟨op, e2, hopl, hasc, hop⟩ := open_loop l aw o C.len hn l.length 0 [] (by omega) (by simp) (by simp) (fun i => by constructor <;> intro h; cases h; omega)
  have hA : ∀ d s, (mget gn (FleetAbsence.mk d (sh l s).Day)).getD false = Aw l aw d s := by
    intro d s; rw [hgn]; unfold Aw Fishref2StandInsOf_1_v1; rw [containsA]
  -- who is open
  have hwho : ∀ s, s ∈ op ↔ ∃ (j : Nat) (hj : j < ds.length), s ∈ ds[j] ∧ Aw l aw (j : Int) s = true := by
    intro s
    rw [hop s]
    constructor
    · rintro ⟨h1, d, h2, h3⟩
      have hd := C.low d (List.mem_of_getElem? h2)
      have e : ((d.toNat : Nat) : Int) = d := by omega
      refine ⟨d.toNat, by omega, (C.row d.toNat (by omega) s).2 ⟨h1, by rw [e]; exact h2⟩, by rw [e]; exact h3⟩
    · rintro ⟨j, hj, h1, h2⟩
      obtain ⟨h3, h4⟩ := (C.row j hj s).1 h1
      exact ⟨h3, j, h4, h2⟩
  have hnd : ds.flatten.Nodup := by
    rw [List.nodup_iff_pairwise_ne, List.pairwise_flatten]
    refine ⟨fun d hd => okd_nodup l x (hok d hd), ?_⟩
    rw [List.pairwise_iff_getElem]
    intro i j hi hj hij a ha b hb e
    subst e
    have h1 := ((C.row i hi a).1 ha).2
    have h2 := ((C.row j hj a).1 hb).2
    rw [h1] at h2
    injection h2 with h2
    omega
  have H : Opn o op ds.length := ⟨hasc, fun s hs => by
    obtain ⟨h1, d, h2, _⟩ := (hop s).1 hs
    have := (List.getElem?_eq_some_iff.1 h2).1
    exact ⟨h1, by omega⟩, fun d hd => (C.low d hd).2⟩
  have hopb : ∀ s ∈ op, 0 ≤ s ∧ s < (l.length : Int) := fun s hs => by have := H.inb s hs; rw [C.len] at this; exact this
  have hod : Dig ((ds.length + 1 : Nat) : Int) o := fun d hd => by have := C.low d hd; omega
  -- the program's rows
  obtain ⟨now, op', own, f1, f2, _, f4, f5, f6, f7, f8⟩ := part2 l gn (Aw l aw) hA ds 0 (List.replicate ds.length []) [] [] (by simp) h hsh (by simp; omega) (fun j hj _ => by simp) (fun s hs => by cases hs)
  have hso : isort op' = op := isort_eq (f7 (by simp) hnd (by simp)) hasc (fun s => by rw [f5 s, hwho s]; simp)
  have hnl : now.length = ds.length := by simpa using f2
  have I : Inv o op ds.length [] now [] := by
    have e0 : Sa o op [] = o := by cases op <;> rfl
    refine ⟨hnl, ?_, ?_, by simp [nD]⟩
    · intro d hd
      have hd' : d < ds.length := by omega
      have := f4 d hd' (by simpa using hd)
      simp only [Nat.zero_add] at this
      rw [this, e0]
      refine perm_mem ((okd_nodup l x (hok _ (List.getElem_mem hd'))).sublist List.filter_sublist) (Rw_nodup _ _ _) ?_
      intro i
      rw [List.mem_filter, mem_Rw, C.row d hd' i]
      simp only [List.length_nil, List.drop_zero, Bool.not_eq_true']
      constructor
      · rintro ⟨⟨h1, h2⟩, h3⟩
        refine ⟨h1, h2, ?_⟩
        intro hm
        obtain ⟨_, d', h4, h5⟩ := (hop i).1 hm
        rw [h2] at h4; injection h4 with h4
        rw [← h4, h3] at h5; cases h5
      · rintro ⟨h1, h2, h3⟩
        refine ⟨⟨h1, h2⟩, ?_⟩
        cases k : Aw l aw (d : Int) i with
        | false => rfl
        | true => exact absurd ((hop i).2 ⟨h1, d, h2, k⟩) h3
    · rw [e0]
      refine (List.eq_nil_iff_forall_not_mem.2 fun i hi => ?_).symm
      obtain ⟨_, h2, _⟩ := mem_Rw.1 hi
      have := C.low _ (List.mem_of_getElem? h2)
      omega
  have hg0 : gd l x (Aw l aw) o op ds.length [] = true := by
    unfold gd
    have e : awOk (Aw l aw) ds.length [] op = true := by cases op <;> rfl
    rw [e, Bool.true_and]
    unfold rwOk
    rw [List.all_eq_true]
    intro d hd
    have hd' : d < ds.length := List.mem_range.1 hd
    rw [← okd_perm l x (I.row d (by omega))]
    have := f4 d hd' (by simp only [Nat.zero_add]; omega)
    simp only [Nat.zero_add] at this
    rw [this]
    exact okd_sub l x List.filter_sublist (hok _ (List.getElem_mem hd'))
  -- the search
  have hgive : ∃ best left, FleetStandIns_1_z fu 0 [] [] [] op now own gn l x = some (now, best, [], left) ∧ EncP o op ds.length (En (ds.length + 1) (leafU l x (Aw l aw) o op ds.length) op.length [] none) best left := by
    unfold FleetStandIns_1_z
    by_cases c : op.length = 0
    · rw [if_pos c]
      refine ⟨now, [], ?_, ?_⟩
      · unfold FleetStandIns_1_c
        have hx0 : ((0 : Int) == ((op.length : Nat) : Int)) = true := by simp; omega
        simp only [List.isEmpty_nil, Bool.not_true, Bool.false_eq_true, if_false, bnd_eq]
        rw [if_pos hx0, clone_reflL now (by omega), Option.bind_some, clone_refl [] (by simp), Option.bind_some]
      · rw [c]
        simp only [En, leafU, hg0, if_true, EncP]
        exact I
    · rw [if_neg c]
      have hD0 : 1 ≤ ds.length := by
        rcases Nat.eq_zero_or_pos ds.length with z | z
        · exfalso
          have : op = [] := List.eq_nil_iff_forall_not_mem.2 fun s hs => by
            obtain ⟨j, hj, _⟩ := (hwho s).1 hs
            omega
          rw [this] at c; simp at c
        · exact z
      refine give_eq l x (Aw l aw) H own gn hl hn C.len (by omega) hD0 hD ?_ ?_ op.length [] now [] none [] [] fu (by simp) (by omega) I hg0 (fun d hd => by cases hd) (fun q hq => by cases hq) ⟨rfl, rfl⟩
      · intro s hs d hd
        obtain ⟨e, g1, g2⟩ := f8 s ((f5 s).2 (.inr (by simpa using (hwho s).1 hs)))
        rw [g1] at hd
        rw [hd]; exact g2
      · intro s hs d; exact hA d s
  obtain ⟨best, left, g1, g2⟩ := hgive
  have hcnt := counts_eq l x aw hx hl hn hD hopb C.len hod (by omega) fu hf
  cases hEn : En (ds.length + 1) (leafU l x (Aw l aw) o op ds.length) op.length [] none with
  | none => exact absurd hEn (En_some l x (Aw l aw) H op.length [] none (by simp) hg0)
  | some q =>
    rw [hEn] at g2 hcnt
    have J : Inv o op ds.length q best left := g2
    have F := En_fit l x (Aw l aw) (o := o) (op := op) (D := ds.length) op.length [] none (by simp) (fun d hd => by cases hd) (fun q hq => by cases hq) q hEn
    have hdr : op.drop q.length = [] := List.drop_eq_nil_of_le (by rw [F.len]; omega)
    have hlen := J.len
    obtain ⟨r, k1, k2, k3⟩ := given_v1_eq (D := ds.length) hD (Sa o op q) (by rw [Sa_len, C.len]; exact hn) (Sa_dig _ _ _ _ hod F.dig)
    have hrow : ∀ (d : Nat) (hd : d < best.length), (best[d]).Perm (Rw (Sa o op q) [] (d : Int)) := by
      intro d hd; have := J.row d hd; rwa [hdr] at this
    have hleft : left = Rw (Sa o op q) [] (ds.length : Int) := by have := J.los; rwa [hdr] at this
    have hmap : best.map isort = r := by
      apply List.ext_getElem
      · simp; omega
      · intro d h1 h2
        rw [List.getElem_map, k3 d h2]
        have hd : d < best.length := by simpa using h1
        exact isort_eq ((hrow d hd).nodup_iff.2 (Rw_nodup _ _ _)) (Rw_asc _ _ _) (fun i => (hrow d hd).mem_iff)
    have hnd2 : (best.flatten ++ left).Nodup := by
      rw [List.nodup_append]
      refine ⟨?_, by rw [hleft]; exact Rw_nodup _ _ _, ?_⟩
      · rw [List.nodup_iff_pairwise_ne, List.pairwise_flatten]
        refine ⟨?_, ?_⟩
        · intro d hd
          obtain ⟨j, hj, rfl⟩ := List.getElem_of_mem hd
          exact (hrow j hj).nodup_iff.2 (Rw_nodup _ _ _)
        · rw [List.pairwise_iff_getElem]
          intro i j hi hj hij a ha b hb e
          subst e
          have h1 := (mem_Rw.1 ((hrow i hi).mem_iff.1 ha)).2.1
          have h2 := (mem_Rw.1 ((hrow j hj).mem_iff.1 hb)).2.1
          rw [h1] at h2
          injection h2 with h2
          omega
      · intro a ha b hb e
        subst e
        obtain ⟨d, hd, hm⟩ := List.mem_flatten.1 ha
        obtain ⟨j, hj, rfl⟩ := List.getElem_of_mem hd
        have h1 := (mem_Rw.1 ((hrow j hj).mem_iff.1 hm)).2.1
        rw [hleft] at hb
        have h2 := (mem_Rw.1 hb).2.1
        rw [h1] at h2
        injection h2 with h2
        omega
    have hsr : srtRows best left = some r := by
      have hall : best.all (fun x => decide (x.length < 4294967296)) = true := by
        rw [List.all_eq_true]
        intro d hd
        obtain ⟨j, hj, rfl⟩ := List.getElem_of_mem hd
        have := Rw_len (Sa o op q) [] (j : Int)
        rw [Sa_len, C.len, ← (hrow j hj).length_eq] at this
        exact decide_eq_true (by omega)
      unfold srtRows
      rw [if_pos ⟨hnd2, hall⟩, hmap]
    have hsrt : srt op' = some op := by
      unfold srt
      rw [if_pos (by simp at f6; omega), hso]
    have hw : w64 ((ds.length : Int) + 1) = ((ds.length + 1 : Nat) : Int) := by rw [w64_id (by omega)]; omega
    have h4 := left_loop ds (Sa o op q) (by rw [Sa_len, C.len]; exact hn) (Sa o op q) 0 rfl
    have h5 : Rw ((Sa o op q).take 0) [] (ds.length : Int) = [] := by simp [Rw]
    rw [h5] at h4
    have hm1 : mks ((ds.length : Nat) : Int) ([] : List Int) = some (List.replicate ds.length []) := by rw [mks_in (by omega)]
    have hm2 : mks ((l.length : Nat) : Int) (0 : Int) = some (List.replicate l.length 0) := by rw [mks_in (by omega)]
    have hrl : (List.replicate l.length (0 : Int)).length = l.length := List.length_replicate
    have k4 : Fishref2given ((ds.length : Nat) : Int) (Sa o op q) = some r := by rw [given_eq2]; exact k1
    refine ⟨r, left, ?_, ?_⟩
    · rw [hm1, Option.bind_some, f1, Option.bind_some]
      show ((srt op').bind fun q228 => ((FleetStandIns_1_z fu 0 [] [] [] q228 now own gn l x).bind fun q240 => ((srtRows q240.2.1 q240.2.2.2).bind fun q259 => some (q259, q240.2.2.2, (0 : Int))))) = _
      rw [hsrt, Option.bind_some, g1, Option.bind_some]
      show ((srtRows best left).bind fun q259 => some (q259, left, (0 : Int))) = _
      rw [hsr, Option.bind_some]
    · rw [hm2, Option.bind_some, e1, Option.bind_some, hrl, e2, Option.bind_some, hw, hcnt, Option.bind_some]
      show ((Fishref2StandInsOf.loop4 ds (Sa o op q) 0 []).bind fun q206 => ((Fishref2given ((ds.length : Nat) : Int) (Sa o op q)).bind fun q238 => some (q238, q206, (0 : Int)))) = _
      rw [h4, Option.bind_some, k4, Option.bind_some, hleft]
end

theorem FleetStands_law (l : List FleetShift) (ds : List (List Int)) (x : FleetLimits) (aw : List FleetAbsence) (hl : l.length ≤ 9223372036854775807) (_ : ds.length ≤ 9223372036854775807) (hs : ∀ d ∈ ds, d.length ≤ 9223372036854775807) (_ : aw.length ≤ 9223372036854775807) : ∃ fu, Fishlaw2FleetStands fu l ds x aw = some true := by
  refine ⟨400001, ?_⟩
  have hJ : ∃ c e, FleetJudgeRoster l ds x = some (c, e) ∧ Fishref2JudgeRosterOf l ds x = some (c, e) ∧ (e = 0 → FleetCheckShifts l = 0 ∧ FleetCheckLimits x = 0 ∧ FleetcheckRoster l ds = 0 ∧ FleetjudgeRoster l ds x = some c) := by
    unfold FleetJudgeRoster Fishref2JudgeRosterOf
    rw [shifts_ref, limits_ref, roster_ref l hl]
    by_cases h1 : FleetCheckShifts l = 0
    · by_cases h2 : FleetCheckLimits x = 0
      · by_cases h3 : FleetcheckRoster l ds = 0
        · obtain ⟨a1, a2⟩ := check_ok l h1
          obtain ⟨b1, b2⟩ := roster_ok l hl ds h3
          obtain ⟨c, e1, e2⟩ := code_eq l x (limits_ok x h2) a2 a1 ds hs b2
          exact ⟨c, 0, by simp [h1, h2, h3, e1], by simp [h1, h2, h3, e2], fun _ => ⟨h1, h2, h3, e1⟩⟩
        · have hb : (FleetcheckRoster l ds != 0) = true := by simpa using h3
          exact ⟨0, FleetcheckRoster l ds, by simp only [h1, h2, hb, bne_self_eq_false, Bool.false_eq_true, if_false, if_true], by simp only [h1, h2, hb, bne_self_eq_false, Bool.false_eq_true, if_false, if_true], fun h => absurd h h3⟩
      · have hb : (FleetCheckLimits x != 0) = true := by simpa using h2
        exact ⟨0, FleetCheckLimits x, by simp only [h1, hb, bne_self_eq_false, Bool.false_eq_true, if_false, if_true], by simp only [h1, hb, bne_self_eq_false, Bool.false_eq_true, if_false, if_true], fun h => absurd h h2⟩
    · have hb : (FleetCheckShifts l != 0) = true := by simpa using h1
      exact ⟨0, FleetCheckShifts l, by simp only [hb, if_true], by simp only [hb, if_true], fun h => absurd h h1⟩
  obtain ⟨c, e, j1, j2, j3⟩ := hJ
  have key : ∃ r left e, FleetStandIns 400001 l ds x aw = some (r, left, e) ∧ Fishref2StandInsOf 400001 l ds x aw = some (r, left, e) := by
    by_cases he : e = 0
    · subst he
      obtain ⟨h1, h2, h3, h4⟩ := j3 rfl
      obtain ⟨a1, a2⟩ := check_ok l h1
      obtain ⟨b1, b2⟩ := roster_ok l hl ds h3
      by_cases hc : c = 0
      · subst hc
        rcases gone_loop ds b1 aw [] with ⟨g1, g2⟩ | ⟨gn, g1, g2, g3⟩
        · have hF : Fishref2StandInsFault l ds x aw = some 2 := by
            unfold Fishref2StandInsFault
            rw [j2, Option.bind_some, if_neg (by simp), if_neg (by simp), bnd, g2]
          refine ⟨[], [], 2, ?_, ?_⟩
          · unfold FleetStandIns
            rw [j1, Option.bind_some, if_neg (by simp), if_neg (by simp), bnd, g1]
          · unfold Fishref2StandInsOf
            rw [hF, Option.bind_some, if_pos (by decide)]
        · have hF : Fishref2StandInsFault l ds x aw = some 0 := by
            unfold Fishref2StandInsFault
            rw [j2, Option.bind_some, if_neg (by simp), if_neg (by simp), bnd, g2]
          obtain ⟨r, left, m1, m2⟩ := main l x ds aw 400001 (by omega) a2 a1 (limits_ok x h2) b1 hs b2 h4 gn (fun y => by rw [g3 y]; simp [mget])
          refine ⟨r, left, 0, ?_, ?_⟩
          · unfold FleetStandIns
            rw [j1, Option.bind_some, if_neg (by simp), if_neg (by simp), bnd, g1]
            exact m1
          · unfold Fishref2StandInsOf
            rw [hF, Option.bind_some, if_neg (by decide)]
            exact m2
      · have hb : (c != 0) = true := by simpa using hc
        have hF : Fishref2StandInsFault l ds x aw = some 1 := by
          unfold Fishref2StandInsFault
          rw [j2, Option.bind_some, if_neg (by simp), if_pos hb]
        refine ⟨[], [], 1, ?_, ?_⟩
        · unfold FleetStandIns
          rw [j1, Option.bind_some, if_neg (by simp), if_pos hb]
        · unfold Fishref2StandInsOf
          rw [hF, Option.bind_some, if_pos (by decide)]
    · have hb : (e != 0) = true := by simpa using he
      have hF : Fishref2StandInsFault l ds x aw = some e := by
        unfold Fishref2StandInsFault
        rw [j2, Option.bind_some, if_pos hb]
      refine ⟨[], [], e, ?_, ?_⟩
      · unfold FleetStandIns
        rw [j1, Option.bind_some, if_pos hb]
      · unfold Fishref2StandInsOf
        rw [hF, Option.bind_some, if_pos hb]
  obtain ⟨r, left, e, h1, h2⟩ := key
  unfold Fishlaw2FleetStands
  rw [h1, Option.bind_some, h2, Option.bind_some, crews_true, Option.bind_some, if_pos rfl, if_pos (by simp), lists_refl, Option.bind_some, if_pos rfl, equal_refl]
  rfl
end Go.Fp
