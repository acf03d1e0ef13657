/- FleetRosters: the mirror of the law is true of all shifts, numbers of drivers and limits. -/
import Derived.Test.YtfhkpdnohcidgaaFleetRostersM
import Derived.Test.YtfhkpdnohcidgaaFpPlain
namespace Go.Fp

theorem within_ref : Fishref2within = Fleetwithin := rfl
theorem limits_loop : ∀ l, Fishref2LimitsFault.loop1 l = FleetCheckLimits.loop1 l
  | [] => rfl
  | x :: r => by simp only [Fishref2LimitsFault.loop1, FleetCheckLimits.loop1, limits_loop r]; rfl
theorem limits_ref (x : FleetLimits) : Fishref2LimitsFault x = FleetCheckLimits x := by
  unfold Fishref2LimitsFault FleetCheckLimits; rw [limits_loop]; rfl
theorem within_len {n : Int} {m : Nat} (hm : m ≤ 9223372036854775807) : (!Fleetwithin n 0 (w64 ((m : Int) - 1))) = (if decide (n < 0) then true else decide (n ≥ (m : Int))) := by
  rw [w64_id (by omega)]
  unfold Fleetwithin bnd
  by_cases h : n < 0
  · have h1 : ¬ n ≥ 0 := by omega
    simp [h, h1]
  · have h1 : n ≥ 0 := by omega
    have h2 : decide (n ≤ (m : Int) - 1) = !decide (n ≥ (m : Int)) := by
      by_cases hh : n ≥ (m : Int) <;> simp [hh] <;> omega
    simp [h, h1, h2]

theorem within_iff (n a b : Int) : Fleetwithin n a b = decide (a ≤ n ∧ n ≤ b) := by
  unfold Fleetwithin bnd
  by_cases h : n ≥ a
  · by_cases h2 : n ≤ b <;> simp [h, h2]
  · simp [h]

theorem shifts_loop : ∀ l, Fishref2ShiftsFault.loop1 l = FleetCheckShifts.loop1 l
  | [] => rfl
  | x :: r => by simp only [Fishref2ShiftsFault.loop1, FleetCheckShifts.loop1, shifts_loop r]; rfl
theorem shifts_ref (l : List FleetShift) : Fishref2ShiftsFault l = FleetCheckShifts l := by
  unfold Fishref2ShiftsFault FleetCheckShifts; rw [shifts_loop]
/-- what right shifts are -/
structure Ok (s : FleetShift) : Prop where
  d0 : 0 ≤ s.Day
  d1 : s.Day ≤ 6
  s0 : 0 ≤ s.Start
  s1 : s.Start ≤ 28800
  e0 : 0 ≤ s.End
  e1 : s.End ≤ 28800

theorem shifts_ok : ∀ l, FleetCheckShifts.loop1 l = .next () → ∀ s ∈ l, Ok s
  | [], _ => by simp
  | x :: r, h => by
    simp only [FleetCheckShifts.loop1, within_iff, bnd_eq] at h
    by_cases h1 : 0 ≤ x.Day ∧ x.Day ≤ 6
    · by_cases h2 : 0 ≤ x.Start ∧ x.Start ≤ 28800
      · by_cases h3 : 0 ≤ x.End ∧ x.End ≤ 28800
        · by_cases h4 : x.End ≤ x.Start
          · simp [h1, h2, h3, h4] at h
          · simp [h1, h2, h3, h4] at h
            intro s hs
            rcases List.mem_cons.1 hs with rfl | hs
            · exact ⟨h1.1, h1.2, h2.1, h2.2, h3.1, h3.2⟩
            · exact shifts_ok r h s hs
        · simp [h1, h2, h3] at h
      · simp [h1, h2] at h
    · simp [h1] at h

theorem check_ok (l : List FleetShift) (h : FleetCheckShifts l = 0) : l.length ≤ 8 ∧ ∀ s ∈ l, Ok s := by
  unfold FleetCheckShifts at h
  by_cases h1 : (l.length : Int) > 8
  · simp [h1] at h
  · simp only [h1, decide_false, Bool.false_eq_true, if_false, bnd_eq] at h
    refine ⟨by omega, ?_⟩
    rcases h2 : FleetCheckShifts.loop1 l with r | _
    · rw [h2] at h
      exact absurd h (by
        have : ∀ l r, FleetCheckShifts.loop1 l = .ret r → r ≠ 0 := by
          intro l
          induction l with
          | nil => intro r h; simp [FleetCheckShifts.loop1] at h
          | cons x l ih =>
            intro r h
            simp only [FleetCheckShifts.loop1, bnd_eq] at h
            generalize (if (!Fleetwithin x.Day 0 6) = true then true else if (!Fleetwithin x.Start 0 28800) = true then true else !Fleetwithin x.End 0 28800) = b at h
            cases b with
            | true => simp at h; subst h; decide
            | false =>
              simp only [Bool.false_eq_true, if_false] at h
              by_cases hc : x.End ≤ x.Start
              · simp [hc] at h; subst h; decide
              · simp only [hc, decide_false, Bool.false_eq_true, if_false] at h
                exact ih r h
        exact this l r h2)
    · exact shifts_ok l h2
/-- the shift number i -/
def sh (l : List FleetShift) (i : Int) : FleetShift := (l[i.toNat]?).getD default
theorem gx_sh {l : List FleetShift} {i : Int} (h : 0 ≤ i ∧ i < l.length) : gx l i = some (sh l i) := by
  have : i.toNat < l.length := by omega
  simp [gx, h.1, sh, this]
theorem sh_ok {l : List FleetShift} (hl : ∀ s ∈ l, Ok s) {i : Int} (h : 0 ≤ i ∧ i < l.length) : Ok (sh l i) := by
  have h2 : i.toNat < l.length := by omega
  have e : sh l i = l[i.toNat] := by simp [sh, h2]
  rw [e]; exact hl _ (List.getElem_mem h2)

/-! pairs -/
def same (s t : FleetShift) : Bool := s.Day == t.Day
/-- a later one of the list, an earlier one -/
def g3 (x : FleetLimits) (a b : FleetShift) : Bool :=
  if a.Day > b.Day then (b.Day != a.Day && decide ((w64 ((w64 ((w64 ((w64 (a.Day * 86400)) + a.Start)) - (w64 (b.Day * 86400)))) - b.End)) < x.Rest))
  else (a.Day != b.Day && decide ((w64 ((w64 ((w64 ((w64 (b.Day * 86400)) + b.Start)) - (w64 (a.Day * 86400)))) - a.End)) < x.Rest))
/-- an earlier one, a later one -/
def r3 (x : FleetLimits) (a b : FleetShift) : Bool := decide ((mx (w64 ((Fishref2begins b) - (Fishref2ends a))) (w64 ((Fishref2begins a) - (Fishref2ends b)))) < x.Rest)

theorem g3_r3 (x : FleetLimits) {a b : FleetShift} (ha : Ok a) (hb : Ok b) (h : same b a = false) : g3 x a b = r3 x b a := by
  have hne : b.Day ≠ a.Day := by simpa [same] using h
  have h1 := ha.d0; have h2 := ha.d1; have h3 := ha.s0; have h4 := ha.s1; have h5 := ha.e0; have h6 := ha.e1
  have k1 := hb.d0; have k2 := hb.d1; have k3 := hb.s0; have k4 := hb.s1; have k5 := hb.e0; have k6 := hb.e1
  unfold g3 r3 Fishref2begins Fishref2ends mx
  rw [w64_id (x := a.Day * 86400) (by omega), w64_id (x := b.Day * 86400) (by omega), w64_id (x := a.Day * 86400 + a.Start) (by omega), w64_id (x := b.Day * 86400 + b.Start) (by omega),
    w64_id (x := a.Day * 86400 + a.End) (by omega), w64_id (x := b.Day * 86400 + b.End) (by omega)]
  rw [w64_id (x := a.Day * 86400 + a.Start - b.Day * 86400) (by omega), w64_id (x := b.Day * 86400 + b.Start - a.Day * 86400) (by omega)]
  rw [w64_id (x := a.Day * 86400 + a.Start - b.Day * 86400 - b.End) (by omega), w64_id (x := b.Day * 86400 + b.Start - a.Day * 86400 - a.End) (by omega),
    w64_id (x := a.Day * 86400 + a.Start - (b.Day * 86400 + b.End)) (by omega), w64_id (x := b.Day * 86400 + b.Start - (a.Day * 86400 + a.End)) (by omega)]
  by_cases hc : a.Day > b.Day
  · have e1 : (b.Day != a.Day) = true := by simpa using hne
    have e2 : ¬ (b.Day * 86400 + b.Start - (a.Day * 86400 + a.End) > a.Day * 86400 + a.Start - (b.Day * 86400 + b.End)) := by omega
    rw [if_pos hc, e1, if_neg e2, Bool.true_and]
    congr 1
    apply propext
    constructor <;> intro h <;> omega
  · have e1 : (a.Day != b.Day) = true := by simp; exact fun e => hne e.symm
    have e2 : b.Day * 86400 + b.Start - (a.Day * 86400 + a.End) > a.Day * 86400 + a.Start - (b.Day * 86400 + b.End) := by omega
    rw [if_neg hc, e1, if_pos e2, Bool.true_and]
    congr 1
    apply propext
    constructor <;> intro h <;> omega

theorem g3_same (x : FleetLimits) {a b : FleetShift} (h : same b a = true) : g3 x a b = false := by
  have : b.Day = a.Day := by simpa [same] using h
  simp [g3, this]

/-- a pair, the earlier one first, for which f is true -/
def pairs (f : Int → Int → Bool) : List Int → Bool
  | [] => false
  | a :: r => r.any (f a) || pairs f r
/-- the same, seen from the later ones -/
def back (f : Int → Int → Bool) : List Int → List Int → Bool
  | _, [] => false
  | pre, a :: r => pre.any (fun b => f b a) || back f (pre ++ [a]) r
theorem back_pairs (f : Int → Int → Bool) : ∀ (r pre : List Int), back f pre r = (r.any (fun a => pre.any (fun b => f b a)) || pairs f r)
  | [], pre => by simp [back, pairs]
  | a :: r, pre => by
    rw [back, back_pairs f r, pairs]
    rw [Bool.eq_iff_iff]
    simp only [List.any_append, List.any_cons, List.any_nil, Bool.or_false, Bool.or_eq_true, List.any_eq_true]
    constructor
    · rintro (h | ⟨c, hc, h | h⟩ | h)
      · exact .inl (.inl h)
      · exact .inl (.inr ⟨c, hc, h⟩)
      · exact .inr (.inl ⟨c, hc, h⟩)
      · exact .inr (.inr h)
    · rintro ((h | ⟨c, hc, h⟩) | ⟨c, hc, h⟩ | h)
      · exact .inl h
      · exact .inr (.inl ⟨c, hc, .inl h⟩)
      · exact .inr (.inl ⟨c, hc, .inr h⟩)
      · exact .inr (.inr h)

theorem pairs_congr (f g : Int → Int → Bool) : ∀ (d : List Int), (∀ a ∈ d, ∀ b ∈ d, f a b = g a b) → pairs f d = pairs g d
  | [], _ => rfl
  | a :: r, h => by
    rw [pairs, pairs, pairs_congr f g r (fun a ha b hb => h a (by simp [ha]) b (by simp [hb]))]
    congr 1
    rw [Bool.eq_iff_iff]
    simp only [List.any_eq_true]
    constructor
    · rintro ⟨c, hc, hh⟩; exact ⟨c, hc, by rw [← h a (by simp) c (by simp [hc])]; exact hh⟩
    · rintro ⟨c, hc, hh⟩; exact ⟨c, hc, by rw [h a (by simp) c (by simp [hc])]; exact hh⟩

theorem pairs_not (f g : Int → Int → Bool) : ∀ (d : List Int), pairs f d = false → (∀ a ∈ d, ∀ b ∈ d, f a b = false → g a b = f a b ∨ True) → True := fun _ _ _ => trivial

/-- where no pair has the same day, two readings of pairs that agree on the others agree -/
theorem pairs_apart (e f g : Int → Int → Bool) : ∀ (d : List Int), pairs e d = false → (∀ a ∈ d, ∀ b ∈ d, e a b = false → f a b = g a b) → pairs f d = pairs g d
  | [], _, _ => rfl
  | a :: r, h, hh => by
    simp only [pairs, Bool.or_eq_false_iff] at h
    rw [pairs, pairs, pairs_apart e f g r h.2 (fun a ha b hb => hh a (by simp [ha]) b (by simp [hb]))]
    congr 1
    have hall : ∀ c ∈ r, f a c = g a c := fun c hc => hh a (by simp) c (by simp [hc]) (by
      have := h.1; rw [List.any_eq_false] at this; simpa using this c hc)
    rw [Bool.eq_iff_iff]
    simp only [List.any_eq_true]
    exact ⟨fun ⟨c, hc, q⟩ => ⟨c, hc, by rw [← hall c hc]; exact q⟩, fun ⟨c, hc, q⟩ => ⟨c, hc, by rw [hall c hc]; exact q⟩⟩

section
variable (l : List FleetShift) (x : FleetLimits)

/-- how many of d are on day j -/
def cnt (d : List Int) (j : Nat) : Nat := (d.filter fun a => (sh l a).Day == (j : Int)).length

theorem cnt_cons (a : Int) (d : List Int) (j : Nat) : cnt l (a :: d) j = cnt l d j + if (sh l a).Day = (j : Int) then 1 else 0 := by
  unfold cnt
  by_cases h : (sh l a).Day = (j : Int) <;> simp [h]

theorem cnt_le (d : List Int) (j : Nat) : cnt l d j ≤ d.length := List.length_filter_le _ _

theorem two_pairs (hl : ∀ s ∈ l, Ok s) : ∀ (d : List Int), (∀ i ∈ d, 0 ≤ i ∧ i < l.length) → (pairs (fun a b => same (sh l a) (sh l b)) d = true ↔ ∃ j, j < 7 ∧ cnt l d j > 1)
  | [], _ => by simp [pairs, cnt]
  | a :: r, h => by
    have ha := sh_ok hl (h a (by simp))
    have h1 := ha.d0; have h2 := ha.d1
    have ih := two_pairs hl r (fun i hi => h i (by simp [hi]))
    simp only [pairs, Bool.or_eq_true, ih]
    constructor
    · rintro (hh | ⟨j, hj, hc⟩)
      · obtain ⟨b, hb, hs⟩ := List.any_eq_true.1 hh
        refine ⟨(sh l a).Day.toNat, by omega, ?_⟩
        rw [cnt_cons]
        have e : (sh l a).Day = (((sh l a).Day.toNat : Nat) : Int) := by omega
        rw [if_pos e]
        have hs' : (sh l a).Day = (sh l b).Day := by simpa [same] using hs
        have : 0 < cnt l r (sh l a).Day.toNat := by
          unfold cnt
          apply List.length_pos_of_mem (a := b)
          rw [List.mem_filter]
          exact ⟨hb, by rw [← hs', ← e]; simp⟩
        omega
      · exact ⟨j, hj, by rw [cnt_cons]; omega⟩
    · rintro ⟨j, hj, hc⟩
      rw [cnt_cons] at hc
      by_cases hd : (sh l a).Day = (j : Int)
      · rw [if_pos hd] at hc
        left
        have : 0 < cnt l r j := by omega
        unfold cnt at this
        obtain ⟨b, hb⟩ := List.exists_mem_of_length_pos this
        rw [List.mem_filter] at hb
        exact List.any_eq_true.2 ⟨b, hb.1, by have := hb.2; simp at this; simp [same, hd, this]⟩
      · rw [if_neg hd] at hc
        exact .inr ⟨j, hj, by omega⟩

/-! the program's way -/
theorem db2 (a : Int) (ha : 0 ≤ a ∧ a < l.length) : ∀ (r : List Int) (q : Bool), (∀ i ∈ r, 0 ≤ i ∧ i < l.length) → FleetdriverBreaks.loop2 l x a r q = some (q || r.any (fun b => g3 x (sh l a) (sh l b)))
  | [], q, _ => by simp [FleetdriverBreaks.loop2]
  | b :: r, q, h => by
    have hb := h b (by simp)
    simp only [FleetdriverBreaks.loop2, gx_sh ha, gx_sh hb, Option.bind_some, bnd_eq]
    by_cases hc : (sh l a).Day > (sh l b).Day
    · simp only [hc, decide_true, if_true]
      rw [db2 a ha r _ (fun i hi => h i (by simp [hi]))]
      congr 1
      rw [List.any_cons, g3, if_pos hc, ← Bool.or_assoc]
      congr 1
      cases q <;> cases (sh l b).Day != (sh l a).Day <;> simp
    · simp only [hc, decide_false, Bool.false_eq_true, if_false]
      rw [db2 a ha r _ (fun i hi => h i (by simp [hi]))]
      congr 1
      rw [List.any_cons, g3, if_neg hc, ← Bool.or_assoc]
      congr 1
      cases q <;> cases (sh l a).Day != (sh l b).Day <;> simp

theorem db1 (d : List Int) (hd : d.length ≤ 9223372036854775807) (hl : ∀ s ∈ l, Ok s) (h : ∀ i ∈ d, 0 ≤ i ∧ i < l.length) :
    ∀ (r pre : List Int) (k : Nat) (q : Bool) (days : List Int), d = pre ++ r → k = pre.length → days.length = 7 → (∀ j, j < 7 → days[j]? = some ((cnt l pre j : Nat) : Int)) →
    ∃ days', FleetdriverBreaks.loop1 l d x r k q days = some (q || back (fun b a => g3 x (sh l a) (sh l b)) pre r, days') ∧ days'.length = 7 ∧ ∀ j, j < 7 → days'[j]? = some ((cnt l d j : Nat) : Int)
  | [], pre, k, q, days, hp, _, h7, hc => ⟨days, by simp [FleetdriverBreaks.loop1, back], h7, by rw [hp]; simpa using hc⟩
  | a :: r, pre, k, q, days, hp, hk, h7, hc => by
    have ha := h a (by rw [hp]; simp)
    have hok := sh_ok hl ha
    have h1 := hok.d0; have h2 := hok.d1
    have hj : (sh l a).Day.toNat < 7 := by omega
    have hg : gx days (sh l a).Day = some ((cnt l pre (sh l a).Day.toNat : Nat) : Int) := by unfold gx; rw [if_pos h1]; exact hc _ hj
    have hix : ix days (sh l a).Day = some () := by unfold ix; rw [if_pos ⟨h1, by omega⟩]
    have hsx : ∀ v, sx days (sh l a).Day v = some (days.set (sh l a).Day.toNat v) := by intro v; unfold sx; rw [if_pos ⟨h1, by omega⟩]
    have hcut : cutl d 0 ((k : Nat) : Int) = some pre := by
      unfold cutl
      rw [if_pos ⟨by omega, by omega, by rw [hp, hk]; simp; omega⟩]
      rw [hp, hk]; simp
    have hlen : pre.length < d.length := by rw [hp]; simp
    have hw : w64 (((cnt l pre (sh l a).Day.toNat : Nat) : Int) + 1) = (((cnt l pre (sh l a).Day.toNat + 1 : Nat) : Nat) : Int) := by
      have := cnt_le l pre (sh l a).Day.toNat
      rw [w64_id (by omega)]; omega
    simp only [FleetdriverBreaks.loop1, gx_sh ha, Option.bind_some, hg, hix, hsx, hcut, hw]
    rw [db2 l x a ha pre q (fun i hi => h i (by rw [hp]; simp [hi]))]
    simp only [Option.bind_some]
    have hcnt : ∀ j, cnt l (pre ++ [a]) j = cnt l pre j + if (sh l a).Day = (j : Int) then 1 else 0 := by
      intro j
      unfold cnt
      rw [List.filter_append, List.length_append]
      by_cases hh : (sh l a).Day = (j : Int) <;> simp [hh]
    obtain ⟨days', e1, e2, e3⟩ := db1 d hd hl h r (pre ++ [a]) (k + 1) (q || pre.any (fun b => g3 x (sh l a) (sh l b))) (days.set (sh l a).Day.toNat (((cnt l pre (sh l a).Day.toNat + 1 : Nat) : Nat) : Int))
      (by rw [hp]; simp) (by simp [hk]) (by simpa using h7) (by
        intro j hj7
        rw [hcnt, List.getElem?_set]
        by_cases hh : (sh l a).Day.toNat = j
        · have : (sh l a).Day = (j : Int) := by omega
          rw [if_pos hh, if_pos (by omega), if_pos this, hh]
        · have : ¬ (sh l a).Day = (j : Int) := by omega
          rw [if_neg hh, if_neg this, hc j hj7]; rfl)
    refine ⟨days', ?_, e2, e3⟩
    rw [e1, back, Bool.or_assoc]

/-- runs of days -/
def runs (x : FleetLimits) : List Bool → Int → Bool
  | [], _ => false
  | b :: r, n => if b then decide (n + 1 > x.Row) || runs x r (n + 1) else runs x r 0

theorem db3 : ∀ (days : List Int) (t f : Bool) (n : Int), 0 ≤ n → n + days.length ≤ 9223372036854775807 → (∀ v ∈ days, 0 ≤ v) →
    ∃ n', FleetdriverBreaks.loop3 x days t f n = (t || days.any (fun v => decide (v > 1)), f || runs x (days.map fun v => decide (v > 0)) n, n')
  | [], t, f, n, _, _, _ => ⟨n, by simp [FleetdriverBreaks.loop3, runs]⟩
  | v :: r, t, f, n, h0, hn, hv => by
    simp only [List.length_cons] at hn
    have hv0 := hv v (by simp)
    simp only [FleetdriverBreaks.loop3, bnd_eq]
    by_cases hz : v = 0
    · subst hz
      obtain ⟨n', e⟩ := db3 r (if t then true else decide ((0 : Int) > 1)) f 0 (by omega) (by omega) (fun v h => hv v (by simp [h]))
      refine ⟨n', ?_⟩
      simp only [beq_self_eq_true, if_true, e]
      simp only [List.any_cons, List.map_cons, runs]
      cases t <;> simp
    · have hb : (v == 0) = false := by simpa using hz
      have hp : v > 0 := by omega
      have hw : w64 (n + 1) = n + 1 := w64_id (by omega)
      simp only [hb, Bool.false_eq_true, if_false, hw]
      obtain ⟨n', e⟩ := db3 r (if t then true else decide (v > 1)) (if f then true else decide (n + 1 > x.Row)) (n + 1) (by omega) (by omega) (fun v h => hv v (by simp [h]))
      refine ⟨n', ?_⟩
      rw [e]
      simp only [List.any_cons, List.map_cons, runs, hp, decide_true, if_true]
      cases t <;> cases f <;> simp

def dayB (d : List Int) : List Bool := (List.range 7).map fun j => decide (cnt l d j > 0)

theorem breaks (d : List Int) (hd : d.length ≤ 9223372036854775807) (hl : ∀ s ∈ l, Ok s) (h : ∀ i ∈ d, 0 ≤ i ∧ i < l.length) :
    FleetdriverBreaks l d x = some (pairs (fun a b => same (sh l a) (sh l b)) d, pairs (fun b a => g3 x (sh l a) (sh l b)) d, runs x (dayB l d) 0) := by
  obtain ⟨days, e1, e2, e3⟩ := db1 l x d hd hl h d [] 0 false [0, 0, 0, 0, 0, 0, 0] rfl rfl rfl (by
    intro j hj
    have : j = 0 ∨ j = 1 ∨ j = 2 ∨ j = 3 ∨ j = 4 ∨ j = 5 ∨ j = 6 := by omega
    rcases this with rfl | rfl | rfl | rfl | rfl | rfl | rfl <;> rfl)
  have hdays : days = (List.range 7).map fun j => ((cnt l d j : Nat) : Int) := by
    apply List.ext_getElem?
    intro j
    rcases Nat.lt_or_ge j 7 with hj | hj
    · rw [e3 j hj]; simp [hj]
    · rw [List.getElem?_eq_none (by omega), List.getElem?_eq_none (by simp; omega)]
  obtain ⟨n', e4⟩ := db3 x days false false 0 (by omega) (by rw [e2]; omega) (by rw [hdays]; intro v hv; simp at hv; obtain ⟨j, _, rfl⟩ := hv; omega)
  unfold FleetdriverBreaks
  simp only [e1, Option.bind_some, bnd_eq, e4, Bool.false_or]
  rw [back_pairs]
  have ha : (d.any fun a => ([] : List Int).any fun b => g3 x (sh l a) (sh l b)) = false := by simp
  rw [ha, Bool.false_or]
  congr 2
  · rw [Bool.eq_iff_iff, two_pairs l hl d h, hdays]
    simp only [List.any_eq_true, List.mem_map, List.mem_range]
    constructor
    · rintro ⟨v, ⟨j, hj, rfl⟩, hv⟩; exact ⟨j, hj, by have := of_decide_eq_true hv; omega⟩
    · rintro ⟨j, hj, hc⟩; exact ⟨_, ⟨j, hj, rfl⟩, decide_eq_true (by omega)⟩
  · congr 2
    rw [hdays, dayB, List.map_map]
    congr 1
    funext j
    simp

/-! the reference's way -/
def enc (a b c : Bool) : Int := if a then 2 else if b then 3 else if c then 4 else 0
theorem w2 (a b c : Bool) : Fishref2later_1_v1 2 (enc a b c) = enc true b c := by cases a <;> cases b <;> cases c <;> rfl
theorem w3 (a b c : Bool) : Fishref2later_1_v1 3 (enc a b c) = enc a true c := by cases a <;> cases b <;> cases c <;> rfl
theorem w4 (a b c : Bool) : Fishref2later_1_v1 4 (enc a b c) = enc a b true := by cases a <;> cases b <;> cases c <;> rfl

theorem la3 (a : Int) (ha : 0 ≤ a ∧ a < l.length) : ∀ (r : List Int) (p q c : Bool), (∀ i ∈ r, 0 ≤ i ∧ i < l.length) →
    Fishref2later.loop3 l x a r (enc p q c) = some (enc (p || r.any (fun b => same (sh l a) (sh l b))) (q || r.any (fun b => r3 x (sh l a) (sh l b))) c)
  | [], p, q, c, _ => by simp [Fishref2later.loop3]
  | b :: r, p, q, c, h => by
    have hb := h b (by simp)
    have hr := fun p q => la3 a ha r p q c (fun i hi => h i (by simp [hi]))
    simp only [Fishref2later.loop3, gx_sh ha, gx_sh hb, Option.bind_some, bnd_eq, w2, w3]
    have es : ((sh l a).Day == (sh l b).Day) = same (sh l a) (sh l b) := rfl
    have er : decide ((mx (w64 ((Fishref2begins (sh l b)) - (Fishref2ends (sh l a)))) (w64 ((Fishref2begins (sh l a)) - (Fishref2ends (sh l b))))) < x.Rest) = r3 x (sh l a) (sh l b) := rfl
    rw [es, er]
    simp only [List.any_cons]
    cases h1 : same (sh l a) (sh l b) <;> cases h2 : r3 x (sh l a) (sh l b) <;> simp [hr]

theorem la2 (d : List Int) (hl : ∀ s ∈ l, Ok s) (h : ∀ i ∈ d, 0 ≤ i ∧ i < l.length) : ∀ (r pre : List Int) (k : Nat) (days : List Bool) (p q c : Bool), d = pre ++ r → k = pre.length → days.length = 8 →
    (∀ j, j < 7 → days[j]? = some (decide (cnt l pre j > 0))) → days[7]? = some false →
    ∃ days', Fishref2later.loop2 l x d r k days (enc p q c) = some (days', enc (p || pairs (fun a b => same (sh l a) (sh l b)) r) (q || pairs (fun a b => r3 x (sh l a) (sh l b)) r) c) ∧ days'.length = 8 ∧
      (∀ j, j < 7 → days'[j]? = some (decide (cnt l d j > 0))) ∧ days'[7]? = some false
  | [], pre, k, days, p, q, c, hp, _, h8, hc, hz => ⟨days, by simp [Fishref2later.loop2, pairs], h8, by rw [hp]; simpa using hc, hz⟩
  | a :: r, pre, k, days, p, q, c, hp, hk, h8, hc, hz => by
    have ha := h a (by rw [hp]; simp)
    have hok := sh_ok hl ha
    have h1 := hok.d0; have h2 := hok.d1
    have hix : ix days (sh l a).Day = some () := by unfold ix; rw [if_pos ⟨h1, by omega⟩]
    have hsx : sx days (sh l a).Day true = some (days.set (sh l a).Day.toNat true) := by unfold sx; rw [if_pos ⟨h1, by omega⟩]
    have hcut : cutl d ((k + 1 : Nat) : Int) (d.length : Int) = some r := by
      unfold cutl
      have hlen : d.length = pre.length + 1 + r.length := by rw [hp]; simp; omega
      rw [if_pos ⟨by omega, by omega, by omega⟩]
      simp only [Int.toNat_natCast, List.take_length]
      rw [hp, hk]
      simp
    simp only [Fishref2later.loop2, gx_sh ha, Option.bind_some, hix, hsx, hcut]
    rw [la3 l x a ha r p q c (fun i hi => h i (by rw [hp]; simp [hi]))]
    simp only [Option.bind_some]
    have hcnt : ∀ j, cnt l (pre ++ [a]) j = cnt l pre j + if (sh l a).Day = (j : Int) then 1 else 0 := by
      intro j
      unfold cnt
      rw [List.filter_append, List.length_append]
      by_cases hh : (sh l a).Day = (j : Int) <;> simp [hh]
    obtain ⟨days', e1, e2, e3, e4⟩ := la2 d hl h r (pre ++ [a]) (k + 1) (days.set (sh l a).Day.toNat true) (p || r.any (fun b => same (sh l a) (sh l b))) (q || r.any (fun b => r3 x (sh l a) (sh l b))) c
      (by rw [hp]; simp) (by simp [hk]) (by simpa using h8) (by
        intro j hj7
        rw [hcnt, List.getElem?_set]
        by_cases hh : (sh l a).Day.toNat = j
        · have : (sh l a).Day = (j : Int) := by omega
          rw [if_pos hh, if_pos (by omega), if_pos this]; simp
        · have : ¬ (sh l a).Day = (j : Int) := by omega
          rw [if_neg hh, if_neg this, hc j hj7]; rfl) (by
        rw [List.getElem?_set, if_neg (by omega)]; exact hz)
    refine ⟨days', ?_, e2, e3, e4⟩
    rw [e1, pairs, pairs, Bool.or_assoc, Bool.or_assoc]

theorem la4 (hx : x.Row ≥ 1) (days : List Bool) : ∀ (bs : List Bool) (k : Nat) (n : Int) (p q c : Bool), days.drop k = bs → 0 ≤ n → n + bs.length ≤ 9223372036854775807 →
    ∃ n', Fishref2later.loop4 x days bs.length k n (enc p q c) = some (n', enc p q (c || runs x bs n))
  | [], k, n, p, q, c, _, _, _ => ⟨n, by simp [Fishref2later.loop4, runs]⟩
  | b :: bs, k, n, p, q, c, hd, h0, hn => by
    obtain ⟨d1, d2, d3⟩ := drop_cons hd
    simp only [List.length_cons] at hn ⊢
    simp only [Fishref2later.loop4, gx_nat, d2, Option.bind_some, bnd_eq]
    cases b with
    | false =>
      simp only [Bool.not_false, if_true]
      have : ¬ ((0 : Int) > x.Row) := by omega
      simp only [this, decide_false, Bool.false_eq_true, if_false]
      obtain ⟨n', e⟩ := la4 hx days bs (k + 1) 0 p q c d3 (by omega) (by omega)
      exact ⟨n', by rw [e]; simp [runs]⟩
    | true =>
      have hw : w64 (n + 1) = n + 1 := w64_id (by omega)
      simp only [Bool.not_true, Bool.false_eq_true, if_false, hw]
      by_cases hr : n + 1 > x.Row
      · simp only [hr, decide_true, if_true, w4]
        obtain ⟨n', e⟩ := la4 hx days bs (k + 1) (n + 1) p q true d3 (by omega) (by omega)
        exact ⟨n', by rw [e]; simp [runs, hr]⟩
      · simp only [hr, decide_false, Bool.false_eq_true, if_false]
        obtain ⟨n', e⟩ := la4 hx days bs (k + 1) (n + 1) p q c d3 (by omega) (by omega)
        exact ⟨n', by rw [e]; simp [runs, hr]⟩

theorem runs_snoc (hx : x.Row ≥ 1) : ∀ (bs : List Bool) (n : Int), runs x (bs ++ [false]) n = runs x bs n
  | [], n => by simp [runs]
  | b :: bs, n => by simp only [List.cons_append, runs, runs_snoc hx bs]

/-- one driver -/
theorem driver (hx : x.Row ≥ 1) (d : List Int) (hl : ∀ s ∈ l, Ok s) (h : ∀ i ∈ d, 0 ≤ i ∧ i < l.length) (ds : List (List Int)) (p q c : Bool) :
    Fishref2later.loop1 l x (d :: ds) (enc p q c) = Fishref2later.loop1 l x ds (enc (p || pairs (fun a b => same (sh l a) (sh l b)) d) (q || pairs (fun a b => r3 x (sh l a) (sh l b)) d) (c || runs x (dayB l d) 0)) := by
  have hm : mks 8 (false : Bool) = some (List.replicate 8 false) := rfl
  obtain ⟨days, e1, e2, e3, e4⟩ := la2 l x d hl h d [] 0 (List.replicate 8 false) p q c rfl rfl rfl (by
    intro j hj; rw [List.getElem?_replicate, if_pos (by omega)]; simp [cnt]) rfl
  have hdays : days = dayB l d ++ [false] := by
    apply List.ext_getElem?
    intro j
    rcases Nat.lt_or_ge j 7 with hj | hj
    · rw [e3 j hj, List.getElem?_append_left (by simp [dayB]; omega)]; simp [dayB, hj]
    · rcases Nat.eq_or_lt_of_le hj with rfl | hj'
      · rw [e4]; simp [dayB]
      · rw [List.getElem?_eq_none (by omega), List.getElem?_eq_none (by simp [dayB]; omega)]
  obtain ⟨n', e5⟩ := la4 x hx days days 0 0 (p || pairs (fun a b => same (sh l a) (sh l b)) d) (q || pairs (fun a b => r3 x (sh l a) (sh l b)) d) c rfl (by omega) (by rw [e2]; omega)
  rw [e2] at e5
  rw [Fishref2later.loop1, hm]
  simp only [Option.bind_some, e1, List.length_replicate, e5]
  rw [hdays, runs_snoc x hx]

/-! both -/
theorem or3 (p q c a b e : Bool) : (if p then (if q then (if c then (true, true, true) else (true, true, e)) else (if c then (true, b, true) else (true, b, e))) else (if q then (if c then (a, true, true) else (a, true, e)) else (if c then (a, b, true) else (a, b, e))) : Bool × Bool × Bool) = (p || a, q || b, c || e) := by
  cases p <;> cases q <;> cases c <;> simp

def T (ds : List (List Int)) : Bool := ds.any fun d => pairs (fun a b => same (sh l a) (sh l b)) d
def G (ds : List (List Int)) : Bool := ds.any fun d => pairs (fun b a => g3 x (sh l a) (sh l b)) d
def R3 (ds : List (List Int)) : Bool := ds.any fun d => pairs (fun a b => r3 x (sh l a) (sh l b)) d
def F (ds : List (List Int)) : Bool := ds.any fun d => runs x (dayB l d) 0

theorem later_eq (hx : x.Row ≥ 1) (hl : ∀ s ∈ l, Ok s) : ∀ (ds : List (List Int)) (p q c : Bool), (∀ d ∈ ds, ∀ i ∈ d, 0 ≤ i ∧ i < l.length) →
    Fishref2later.loop1 l x ds (enc p q c) = some (enc (p || T l ds) (q || R3 l x ds) (c || F l x ds))
  | [], p, q, c, _ => by simp [Fishref2later.loop1, T, R3, F]
  | d :: ds, p, q, c, h => by
    rw [driver l x hx d hl (h d (by simp)), later_eq hx hl ds _ _ _ (fun d hd => h d (by simp [hd]))]
    simp only [T, R3, F, List.any_cons, Bool.or_assoc]
theorem G_R3 (hl : ∀ s ∈ l, Ok s) : ∀ (ds : List (List Int)), (∀ d ∈ ds, ∀ i ∈ d, 0 ≤ i ∧ i < l.length) → T l ds = false → G l x ds = R3 l x ds
  | [], _, _ => rfl
  | d :: ds, h, ht => by
    simp only [T, List.any_cons, Bool.or_eq_false_iff] at ht
    have ih := G_R3 hl ds (fun d hd => h d (by simp [hd])) ht.2
    simp only [G, R3, List.any_cons] at ih ⊢
    rw [ih]
    congr 1
    refine pairs_apart _ _ _ d ht.1 ?_
    intro a ha b hb hs
    exact g3_r3 x (sh_ok hl (h d (by simp) b hb)) (sh_ok hl (h d (by simp) a ha)) hs

end
theorem load_eq (l : List FleetShift) : ∀ (d : List Int) (n : Int), (∀ i ∈ d, 0 ≤ i ∧ i < l.length) → ∃ n', Fleetload.loop1 l d n = some n' ∧ Fishref2LoadsOf.loop2 l d n = some n'
  | [], n, _ => ⟨n, rfl, rfl⟩
  | i :: d, n, h => by
    simp only [Fleetload.loop1, Fishref2LoadsOf.loop2, gx_sh (h i (by simp)), Option.bind_some]
    exact load_eq l d _ (fun j hj => h j (by simp [hj]))

theorem equal_refl (l : List Int) : SlicesEqualLint l l = some true := by
  have key : ∀ (r : List Int) (k : Nat), l.drop k = r → SlicesEqualLint.loop1 l r k = some (.next ()) := by
    intro r
    induction r with
    | nil => intro k _; rfl
    | cons v r ih =>
      intro k hd
      obtain ⟨d1, d2, d3⟩ := drop_cons hd
      simp only [SlicesEqualLint.loop1, gx_nat, d2, Option.bind_some, bne_self_eq_false, Bool.false_eq_true, if_false]
      exact ih (k + 1) d3
  unfold SlicesEqualLint
  simp [key l 0 rfl]

theorem crews_true : Fishlaw2crews = some true := by decide +kernel

theorem limits_ok (x : FleetLimits) (h : FleetCheckLimits x = 0) : x.Row ≥ 1 := by
  unfold FleetCheckLimits at h
  simp only [bnd_eq] at h
  rcases h1 : FleetCheckLimits.loop1 [x.Change, x.Long, x.Work, x.After, x.Break, x.Rest] with c | _
  · rw [h1] at h
    exfalso
    have : ∀ r c, FleetCheckLimits.loop1 r = .ret c → c ≠ 0 := by
      intro r
      induction r with
      | nil => intro c h; simp [FleetCheckLimits.loop1] at h
      | cons y r ih =>
        intro c h
        simp only [FleetCheckLimits.loop1] at h
        cases hb : Fleetwithin y 0 86400 with
        | true => simp [hb] at h; exact ih c h
        | false => simp [hb] at h; subst h; decide
    exact this _ c h1 h
  · rw [h1] at h
    simp only [within_iff] at h
    by_cases hr : 1 ≤ x.Row ∧ x.Row ≤ 7
    · exact hr.1
    · simp [hr] at h
/-! lists of digits in order -/
/-- the next list of digits below D; the last ones first -/
def incR (D : Int) : List Int → Option (List Int)
  | [] => none
  | d :: t => if d = D - 1 then (incR D t).map (0 :: ·) else some ((d + 1) :: t)
def inc (D : Int) (v : List Int) : Option (List Int) := (incR D v.reverse).map List.reverse
theorem inc_nil (D : Int) : inc D [] = none := rfl
theorem inc_snoc (D : Int) (p : List Int) (d : Int) : inc D (p ++ [d]) = if d = D - 1 then (inc D p).map (· ++ [0]) else some (p ++ [d + 1]) := by
  unfold inc
  rw [List.reverse_append, List.reverse_singleton, List.singleton_append, incR]
  by_cases h : d = D - 1
  · rw [if_pos h, if_pos h]
    cases incR D p.reverse <;> simp
  · rw [if_neg h, if_neg h]; simp
theorem inc_len {D : Int} : ∀ {p q : List Int}, inc D p = some q → q.length = p.length := by
  have key : ∀ {p q : List Int}, incR D p = some q → q.length = p.length := by
    intro p
    induction p with
    | nil => intro q h; cases h
    | cons d t ih =>
      intro q h
      rw [incR] at h
      by_cases c : d = D - 1
      · rw [if_pos c] at h
        cases k : incR D t with
        | none => rw [k] at h; cases h
        | some t' => rw [k] at h; injection h with h; subst h; simp [ih k]
      · rw [if_neg c] at h; injection h with h; subst h; simp
  intro p q h
  unfold inc at h
  cases k : incR D p.reverse with
  | none => rw [k] at h; cases h
  | some t' => rw [k] at h; injection h with h; subst h; have := key k; simpa using this
/-- digits -/
def Dig (D : Int) (v : List Int) : Prop := ∀ d ∈ v, 0 ≤ d ∧ d < D
theorem inc_dig {D : Int} (hD : 1 ≤ D) : ∀ {p q : List Int}, inc D p = some q → Dig D p → Dig D q := by
  have key : ∀ {p q : List Int}, incR D p = some q → Dig D p → Dig D q := by
    intro p
    induction p with
    | nil => intro q h; cases h
    | cons d t ih =>
      intro q h hd
      rw [incR] at h
      have h1 := hd d (List.mem_cons_self ..)
      have h2 : Dig D t := fun e he => hd e (List.mem_cons_of_mem _ he)
      by_cases c : d = D - 1
      · rw [if_pos c] at h
        cases k : incR D t with
        | none => rw [k] at h; cases h
        | some t' =>
          rw [k] at h; injection h with h; subst h
          intro e he
          rcases List.mem_cons.1 he with rfl | he
          · omega
          · exact ih k h2 e he
      · rw [if_neg c] at h; injection h with h; subst h
        intro e he
        rcases List.mem_cons.1 he with rfl | he
        · omega
        · exact h2 e he
  intro p q h hd
  unfold inc at h
  cases k : incR D p.reverse with
  | none => rw [k] at h; cases h
  | some t' =>
    rw [k] at h; injection h with h; subst h
    have := key k (fun e he => hd e (List.mem_reverse.1 he))
    exact fun e he => this e (List.mem_reverse.1 he)

section
variable {σ τ : Type} (D : Nat) (take : List Int → σ → Bool × σ)
/-- the digits from D - j on behind a beginning, in order; it ends when one is taken -/
def Cd (g : List Int → σ → Bool × σ) : Nat → List Int → σ → Bool × σ
  | 0, _, st => (false, st)
  | j + 1, p, st => if (g (p ++ [((D - (j + 1) : Nat) : Int)]) st).1 then (true, (g (p ++ [((D - (j + 1) : Nat) : Int)]) st).2) else Cd g j p (g (p ++ [((D - (j + 1) : Nat) : Int)]) st).2
/-- all lists of digits behind a beginning, in order -/
def Cn : Nat → List Int → σ → Bool × σ
  | 0, p, st => take p st
  | m + 1, p, st => Cd D (Cn m) D p st
theorem dig_snoc {p : List Int} (hp : Dig D p) {d : Int} (h0 : 0 ≤ d) (h1 : d < D) : Dig (D : Int) (p ++ [d]) := by
  intro e he
  rcases List.mem_append.1 he with he | he
  · exact hp e he
  · simp at he; subst he; exact ⟨h0, h1⟩

/-- a loop that goes from list to list -/
theorem block (hD : 1 ≤ D) (n : Nat) (F : Nat → List Int → σ → Option (Out (Bool × σ) τ))
    (step : ∀ N v st, v.length = n → Dig D v → F (N + 1) v st = if (take v st).1 then some (.ret (true, (take v st).2)) else match inc D v with | none => some (.ret (false, (take v st).2)) | some v' => F N v' (take v st).2) :
    ∀ (m : Nat) (p : List Int) (N : Nat) (st : σ), p.length + m = n → Dig D p →
      F (D ^ m + N) (p ++ List.replicate m 0) st = if (Cn D take m p st).1 then some (.ret (true, (Cn D take m p st).2)) else match inc D p with | none => some (.ret (false, (Cn D take m p st).2)) | some p' => F N (p' ++ List.replicate m 0) (Cn D take m p st).2 := by
  intro m
  induction m with
  | zero =>
    intro p N st hn hp
    rw [Nat.pow_zero, Nat.add_comm 1 N, List.replicate_zero, List.append_nil, step N p st (by simpa using hn) hp, Cn]
    simp
  | succ m ih =>
    have run : ∀ (j : Nat), j < D → ∀ (p : List Int) (N : Nat) (st : σ), p.length + (m + 1) = n → Dig D p →
        F ((j + 1) * D ^ m + N) (p ++ [((D - (j + 1) : Nat) : Int)] ++ List.replicate m 0) st = if (Cd D (Cn D take m) (j + 1) p st).1 then some (.ret (true, (Cd D (Cn D take m) (j + 1) p st).2)) else match inc D p with | none => some (.ret (false, (Cd D (Cn D take m) (j + 1) p st).2)) | some p' => F N (p' ++ List.replicate (m + 1) 0) (Cd D (Cn D take m) (j + 1) p st).2 := by
      intro j
      induction j with
      | zero =>
        intro hj p N st hn hp
        have hl : ∀ d : Int, (p ++ [d]).length + m = n := by intro d; rw [List.length_append, List.length_singleton]; omega
        have h0 : (0 : Int) ≤ ((D - 1 : Nat) : Int) := by omega
        have h1 : ((D - 1 : Nat) : Int) < (D : Int) := by omega
        have h2 : ((D - 1 : Nat) : Int) = (D : Int) - 1 := by omega
        have e := ih (p ++ [((D - 1 : Nat) : Int)]) N st (hl _) (dig_snoc D hp h0 h1)
        rw [inc_snoc, if_pos h2] at e
        simp only [Nat.zero_add, Nat.one_mul, Cd]
        rw [e]
        by_cases c : (Cn D take m (p ++ [((D - 1 : Nat) : Int)]) st).1 = true
        · simp only [if_pos c]; rfl
        · simp only [if_neg c]
          cases inc (D : Int) p with
          | none => rfl
          | some p' => simp [List.replicate_succ]
      | succ j ihj =>
        intro hj p N st hn hp
        have e : (j + 1 + 1) * D ^ m + N = D ^ m + ((j + 1) * D ^ m + N) := by rw [Nat.add_mul (j + 1) 1, Nat.one_mul]; omega
        have hl : ∀ d : Int, (p ++ [d]).length + m = n := by intro d; rw [List.length_append, List.length_singleton]; omega
        have h0 : (0 : Int) ≤ ((D - (j + 1 + 1) : Nat) : Int) := by omega
        have h1 : ((D - (j + 1 + 1) : Nat) : Int) < (D : Int) := by omega
        have h2 : ¬ ((D - (j + 1 + 1) : Nat) : Int) = (D : Int) - 1 := by omega
        have h3 : ((D - (j + 1 + 1) : Nat) : Int) + 1 = ((D - (j + 1) : Nat) : Int) := by omega
        have e' := ih (p ++ [((D - (j + 1 + 1) : Nat) : Int)]) ((j + 1) * D ^ m + N) st (hl _) (dig_snoc D hp h0 h1)
        rw [inc_snoc, if_neg h2] at e'
        rw [e, e', Cd]
        by_cases c : (Cn D take m (p ++ [((D - (j + 1 + 1) : Nat) : Int)]) st).1 = true
        · simp only [if_pos c]; rfl
        · simp only [if_neg c, h3]
          exact ihj (by omega) p N (Cn D take m (p ++ [((D - (j + 1 + 1) : Nat) : Int)]) st).2 hn hp
    intro p N st hn hp
    obtain ⟨j, rfl⟩ : ∃ j, D = j + 1 := ⟨D - 1, by omega⟩
    have h := run j (by omega) p N st hn hp
    rw [Nat.sub_self] at h
    rw [Nat.pow_succ, Nat.mul_comm, Cn]
    rw [List.append_assoc, List.singleton_append] at h
    rw [List.replicate_succ]
    exact h
end

/-- the odometer's inner loop -/
theorem odo (D : Int) (hD : 1 ≤ D ∧ D ≤ 1000) (L : Nat → Int → List Int → Option (Int × List Int))
    (step : ∀ N k v, L (N + 1) k v = ((if decide (k ≥ 0) then ((gx v k).bind fun x => some (x == (w64 (D - 1)))) else some false) : Option Bool).bind fun q => (if q then ((ix v k).bind fun _ => ((sx v k 0).bind fun y => L N (w64 (k - 1)) y)) else some (k, v))) :
    ∀ (n : Nat) (q z : List Int) (N : Nat), q.length = n → n ≤ 1000000 → n < N → Dig D q →
      (inc D q = none → ∃ v', L N ((n : Int) - 1) (q ++ z) = some (-1, v')) ∧
      (∀ q', inc D q = some q' → ∃ k v' y, L N ((n : Int) - 1) (q ++ z) = some (k, v') ∧ 0 ≤ k ∧ gx v' k = some y ∧ ix v' k = some () ∧ sx v' k (w64 (y + 1)) = some (q' ++ z)) := by
  intro n
  induction n with
  | zero =>
    intro q z N hq _ hN _
    obtain rfl := List.eq_nil_of_length_eq_zero hq
    obtain ⟨M, rfl⟩ : ∃ M, N = M + 1 := ⟨N - 1, by omega⟩
    refine ⟨fun _ => ⟨z, ?_⟩, fun q' h => by cases h⟩
    rw [step]; simp
  | succ n ih =>
    intro q z N hq hb hN hdig
    obtain ⟨p, d, rfl⟩ : ∃ p d, q = p ++ [d] := ⟨q.dropLast, q.getLast (by intro h; subst h; simp at hq), (List.dropLast_concat_getLast _).symm⟩
    have hp : p.length = n := by simpa using hq
    obtain ⟨M, rfl⟩ : ∃ M, N = M + 1 := ⟨N - 1, by omega⟩
    have hd := hdig d (by simp)
    have hk : ((n + 1 : Nat) : Int) - 1 = (n : Int) := by omega
    have hlen : n < (p ++ [d] ++ z).length := by simp; omega
    have hget : gx (p ++ [d] ++ z) (n : Int) = some d := by rw [gx_nat, List.append_assoc, List.getElem?_append_right (by omega), hp]; simp
    have hset : ∀ e, (p ++ [d] ++ z).set n e = p ++ (e :: z) := by
      intro e
      rw [List.append_assoc, List.set_append_right _ _ (by omega), hp]; simp
    have hw : w64 (D - 1) = D - 1 := w64_id (by omega)
    rw [hk, step, hget, hw, inc_snoc]
    simp only [Option.bind_some, show ((n : Int) ≥ 0) = True by simp, decide_true, if_true]
    by_cases c : d = D - 1
    · have cb : (d == D - 1) = true := by simpa using c
      rw [cb, ix_in (by omega) (by omega), sx_in (by omega) (by omega), Int.toNat_natCast, hset, if_pos c]
      simp only [Option.bind_some, if_true]
      rw [w64_id (by omega)]
      obtain ⟨h1, h2⟩ := ih p (0 :: z) M hp (by omega) (by omega) (fun e he => hdig e (by simp [he]))
      refine ⟨fun h => h1 (by cases k : inc D p with | none => rfl | some p' => rw [k] at h; cases h), fun q' h => ?_⟩
      cases k : inc D p with
      | none => rw [k] at h; cases h
      | some p' =>
        rw [k] at h; injection h with h; subst h
        have := h2 p' k
        simpa using this
    · have cb : (d == D - 1) = false := by simpa using c
      rw [cb, if_neg c]
      refine ⟨fun h => (by cases h), fun q' h => ?_⟩
      injection h with h; subst h
      refine ⟨(n : Int), p ++ [d] ++ z, d, by simp, by omega, hget, ix_in (by omega) (by omega), ?_⟩
      rw [w64_id (by omega), sx_in (by omega) (by omega), Int.toNat_natCast, hset]
      simp

/-! what a driver may have -/
section
variable (l : List FleetShift) (x : FleetLimits)
def okd (d : List Int) : Bool := !(pairs (fun a b => same (sh l a) (sh l b)) d) && !(pairs (fun b a => g3 x (sh l a) (sh l b)) d) && !(runs x (dayB l d) 0)
/-- the numbers of a list are shifts -/
def Inb (d : List Int) : Prop := ∀ i ∈ d, 0 ≤ i ∧ i < l.length

theorem fits_eq (d : List Int) (hd : d.length ≤ 9223372036854775807) (hl : ∀ s ∈ l, Ok s) (h : Inb l d) : Fleetfits l d x = some (okd l x d) := by
  unfold Fleetfits
  rw [breaks l x d hd hl h]
  simp only [Option.bind_some, bnd, okd]
  cases pairs (fun a b => same (sh l a) (sh l b)) d <;> cases pairs (fun b a => g3 x (sh l a) (sh l b)) d <;> cases runs x (dayB l d) 0 <;> rfl

theorem later_iff (hx : x.Row ≥ 1) (hl : ∀ s ∈ l, Ok s) (ds : List (List Int)) (h : ∀ d ∈ ds, Inb l d) : ∃ c, Fishref2later l ds x = some c ∧ (c != 0) = !(ds.all (okd l x)) := by
  have h0 : (0 : Int) = enc false false false := rfl
  refine ⟨enc (T l ds) (R3 l x ds) (F l x ds), ?_, ?_⟩
  · unfold Fishref2later
    rw [h0, later_eq l x hx hl ds false false false h]
    simp
  · have e1 : (enc (T l ds) (R3 l x ds) (F l x ds) != 0) = (T l ds || R3 l x ds || F l x ds) := by
      cases T l ds <;> cases R3 l x ds <;> cases F l x ds <;> rfl
    have e2 : (T l ds || R3 l x ds || F l x ds) = (T l ds || G l x ds || F l x ds) := by
      cases k : T l ds with
      | true => rfl
      | false => rw [G_R3 l x hl ds h k]
    have e3 : ∀ ds : List (List Int), (T l ds || G l x ds || F l x ds) = !(ds.all (okd l x)) := by
      intro ds
      induction ds with
      | nil => rfl
      | cons d ds ih =>
        simp only [T, G, F, List.any_cons, List.all_cons, Bool.not_and] at ih ⊢
        rw [← ih]
        unfold okd
        cases pairs (fun a b => same (sh l a) (sh l b)) d <;> cases pairs (fun b a => g3 x (sh l a) (sh l b)) d <;> cases runs x (dayB l d) 0 <;>
          cases (ds.any fun d => pairs (fun a b => same (sh l a) (sh l b)) d) <;> cases (ds.any fun d => pairs (fun b a => g3 x (sh l a) (sh l b)) d) <;> cases (ds.any fun d => runs x (dayB l d) 0) <;> rfl
    rw [e1, e2, e3]

theorem pairs_snoc (f : Int → Int → Bool) (s : Int) : ∀ d, pairs f (d ++ [s]) = false → pairs f d = false
  | [], _ => rfl
  | a :: r, h => by
    simp only [List.cons_append, pairs, List.any_append, Bool.or_eq_false_iff] at h ⊢
    exact ⟨h.1.1, pairs_snoc f s r h.2⟩
theorem runs_mono : ∀ (bs cs : List Bool) (n m : Int), bs.length = cs.length → (∀ j : Nat, bs[j]? = some true → cs[j]? = some true) → 0 ≤ n → n ≤ m → runs x bs n = true → runs x cs m = true
  | [], _, _, _, _, _, _, _, h => by cases h
  | b :: bs, [], _, _, hl, _, _, _, _ => by cases hl
  | b :: bs, c :: cs, n, m, hl, hp, h0, hm, h => by
    have ih := fun n m => runs_mono bs cs n m (by simpa using hl) (fun j hj => by simpa using hp (j + 1) (by simpa using hj))
    have hbc := hp 0
    simp only [List.getElem?_cons_zero, Option.some.injEq] at hbc
    simp only [runs] at h ⊢
    cases b with
    | true =>
      rw [hbc rfl]
      simp only [if_true, Bool.or_eq_true, decide_eq_true_eq] at h ⊢
      rcases h with h | h
      · exact .inl (by omega)
      · exact .inr (ih _ _ (by omega) (by omega) h)
    | false =>
      simp only [Bool.false_eq_true, if_false] at h
      cases c with
      | true =>
        simp only [if_true, Bool.or_eq_true]
        exact .inr (ih _ _ (by omega) (by omega) h)
      | false =>
        simp only [Bool.false_eq_true, if_false]
        exact ih _ _ (by omega) (by omega) h
theorem okd_snoc (d : List Int) (s : Int) (h : okd l x (d ++ [s]) = true) : okd l x d = true := by
  unfold okd at h ⊢
  simp only [Bool.and_eq_true, Bool.not_eq_true'] at h ⊢
  refine ⟨⟨pairs_snoc _ s d h.1.1, pairs_snoc _ s d h.1.2⟩, ?_⟩
  cases k : runs x (dayB l d) 0 with
  | false => rfl
  | true =>
    have := runs_mono x (dayB l d) (dayB l (d ++ [s])) 0 0 (by simp [dayB]) (by
      intro j hj
      simp only [dayB, List.getElem?_map, Option.map_eq_some_iff, List.getElem?_eq_some_iff] at hj ⊢
      obtain ⟨i, ⟨hi, e⟩, q⟩ := hj
      refine ⟨i, ⟨hi, e⟩, ?_⟩
      simp only [decide_eq_true_eq] at q ⊢
      have : cnt l (d ++ [s]) i ≥ cnt l d i := by
        unfold cnt; rw [List.filter_append, List.length_append]; omega
      omega) (by omega) (by omega) k
    rw [h.2] at this; cases this

/-! loads -/
def ldv (d : List Int) : Int := (d.map fun i => (sh l i).End - (sh l i).Start).sum
theorem load_v (hl : ∀ s ∈ l, Ok s) : ∀ (d : List Int) (n : Int), Inb l d → -100000000 ≤ n - 28800 * d.length → n + 28800 * d.length ≤ 100000000 → Fleetload.loop1 l d n = some (n + ldv l d)
  | [], n, _, _, _ => by simp [Fleetload.loop1, ldv]
  | i :: d, n, h, h0, h1 => by
    have hi := h i (by simp)
    have o := sh_ok hl hi
    have a := o.s0; have b := o.s1; have c := o.e0; have e := o.e1
    simp only [List.length_cons, Int.natCast_add, Int.natCast_one] at h0 h1
    simp only [Fleetload.loop1, gx_sh hi, Option.bind_some]
    rw [w64_id (x := (sh l i).End - (sh l i).Start) (by omega), w64_id (by omega), load_v hl d _ (fun j hj => h j (by simp [hj])) (by omega) (by omega)]
    simp [ldv]; omega
theorem load_v2 (hl : ∀ s ∈ l, Ok s) (d : List Int) (h : Inb l d) (hd : d.length ≤ 100) : Fleetload l d = some (ldv l d) := by
  unfold Fleetload; rw [load_v l hl d 0 h (by omega) (by omega)]; simp
theorem loads_v (hl : ∀ s ∈ l, Ok s) : ∀ (ds : List (List Int)) (o : List Int), o.length + ds.length < 4294967296 → (∀ d ∈ ds, Inb l d ∧ d.length ≤ 100) → Fishref2LoadsOf.loop1 l ds o = some (o ++ ds.map (ldv l))
  | [], o, _, _ => by simp [Fishref2LoadsOf.loop1]
  | d :: ds, o, ho, h => by
    simp only [List.length_cons] at ho
    have hd := h d (by simp)
    obtain ⟨n, e1, e2⟩ := load_eq l d 0 hd.1
    rw [load_v l hl d 0 hd.1 (by have := hd.2; omega) (by have := hd.2; omega)] at e1
    injection e1 with e1
    subst e1
    rw [Fishref2LoadsOf.loop1, e2]
    simp only [Option.bind_some, Int.zero_add]
    rw [apd_lt (by simp; omega)]
    simp only [Option.bind_some]
    rw [loads_v hl ds _ (by simp; omega) (fun d hd => h d (by simp [hd]))]
    simp
theorem max_loop (v : List Int) (hv : v.length ≤ 1000000) : ∀ (r : List Int) (k : Nat) (m : Int) (N : Nat), v.drop k = r → r.length < N → SlicesMaxLint.loop1 v N m k = some (r.foldl mx m, ((v.length : Nat) : Int)) ∨ v.length < k
  | [], k, m, N, hr, hN => by
    obtain ⟨M, rfl⟩ : ∃ M, N = M + 1 := ⟨N - 1, by omega⟩
    have := drop_nil hr
    rcases Nat.lt_or_eq_of_le this with h | h
    · exact .inr h
    · refine .inl ?_
      rw [SlicesMaxLint.loop1, if_neg (by simp; omega), ← h]; rfl
  | a :: r, k, m, N, hr, hN => by
    obtain ⟨M, rfl⟩ : ∃ M, N = M + 1 := ⟨N - 1, by omega⟩
    obtain ⟨h1, h2, h3⟩ := drop_cons hr
    simp only [List.length_cons] at hN
    rw [SlicesMaxLint.loop1, if_pos (by simp; omega), gx_nat, h2]
    simp only [Option.bind_some]
    rw [w64_id (by omega)]
    have e : ((k : Int) + 1) = ((k + 1 : Nat) : Int) := by omega
    rw [e]
    rcases max_loop v hv r (k + 1) (mx m a) M h3 (by omega) with h | h
    · exact .inl (by rw [h]; rfl)
    · omega
theorem max_v (v : List Int) (hv : v.length ≤ 1000) (h0 : 0 < v.length) (hp : ∀ a ∈ v, 0 ≤ a) (N : Nat) (hN : 1000 < N) : SlicesMaxLint N v = some (v.foldl mx 0) := by
  obtain ⟨a, r, rfl⟩ : ∃ a r, v = a :: r := by cases v with | nil => cases h0 | cons a r => exact ⟨a, r, rfl⟩
  unfold SlicesMaxLint
  rw [if_neg (by simp; omega), gx_zero]
  simp only [List.getElem?_cons_zero, Option.bind_some]
  simp only [List.length_cons] at hv
  rcases max_loop (a :: r) (by simp; omega) r 1 a N rfl (by omega) with h | h
  · have e : ((1 : Nat) : Int) = 1 := rfl
    rw [e] at h; rw [h]
    simp only [Option.bind_some, List.foldl_cons]
    have : mx 0 a = a := by have := hp a (by simp); unfold mx; split <;> omega
    rw [this]
  · simp at h
end

section
variable (l : List FleetShift) (x : FleetLimits) (D : Nat)
abbrev St5 := Int × List (List Int)
def most (r : List (List Int)) : Int := (r.map (ldv l)).foldl mx 0
def leafU (r : List (List Int)) (st : St5) : St5 := if r.all (okd l x) then (if st.1 < 0 ∨ most l r < st.1 then (most l r, r) else st) else st
def putd (r : List (List Int)) (d : Nat) (s : Int) : List (List Int) := r.set d ((r[d]?).getD [] ++ [s])
/-- all ways to give m more shifts, from number s on; the drivers from D - j on -/
def Ed (g : Nat → St5 → St5) : Nat → St5 → St5
  | 0, st => st
  | j + 1, st => Ed g j (g (D - (j + 1)) st)
def En : Nat → Int → List (List Int) → St5 → St5
  | 0, _, r, st => leafU l x r st
  | m + 1, s, r, st => Ed D (fun d st => En m (s + 1) (putd r d s) st) D st

theorem bad_put {r : List (List Int)} {d : Nat} {s : Int} (hd : d < r.length) (h : r.all (okd l x) = false) : (putd r d s).all (okd l x) = false := by
  rw [List.all_eq_false] at h ⊢
  obtain ⟨q, hq, hb⟩ := h
  obtain ⟨j, hj, e⟩ := List.getElem_of_mem hq
  by_cases hjd : j = d
  · subst hjd
    refine ⟨q ++ [s], ?_, ?_⟩
    · unfold putd; rw [List.getElem?_eq_getElem hj, e]; exact List.mem_set hj _
    · intro k; exact hb (okd_snoc l x q s k)
  · refine ⟨q, ?_, hb⟩
    unfold putd
    rw [List.mem_iff_getElem]
    exact ⟨j, by simpa using hj, by rw [List.getElem_set_ne (fun k => hjd k.symm)]; exact e⟩
theorem En_bad : ∀ (m : Nat) (s : Int) (r : List (List Int)) (st : St5), r.length = D → r.all (okd l x) = false → En l x D m s r st = st := by
  intro m
  induction m with
  | zero => intro s r st _ h; simp [En, leafU, h]
  | succ m ih =>
    intro s r st hr h
    rw [En]
    have key : ∀ j, j ≤ D → ∀ st, Ed D (fun d st => En l x D m (s + 1) (putd r d s) st) j st = st := by
      intro j
      induction j with
      | zero => intro _ st; rfl
      | succ j ihj =>
        intro hj st
        rw [Ed, ih _ _ _ (by simp [putd, hr]) (bad_put l x (by omega) h)]
        exact ihj (by omega) st
    exact key D (Nat.le_refl _) st

/-- a roster of the shifts below s -/
structure Ros (n : Nat) (r : List (List Int)) : Prop where
  len : r.length = D
  inb : ∀ d ∈ r, Inb l d
  short : ∀ d ∈ r, d.length ≤ n
theorem Ros.put {n : Nat} {r : List (List Int)} (h : Ros l D n r) {d : Nat} {s : Int} (hd : d < D) (h0 : 0 ≤ s) (h1 : s < l.length) : Ros l D (n + 1) (putd r d s) := by
  have hr := h.len
  have e : (r[d]?).getD [] = r[d]'(by omega) := by simp [show d < r.length by omega]
  have hm : r[d]'(by omega) ∈ r := List.getElem_mem _
  refine ⟨by simp [putd, hr], ?_, ?_⟩
  · intro q hq
    rcases List.mem_or_eq_of_mem_set hq with hq | rfl
    · exact h.inb q hq
    · rw [e]
      intro i hi
      rcases List.mem_append.1 hi with hi | hi
      · exact h.inb _ hm i hi
      · simp at hi; subst hi; exact ⟨h0, h1⟩
  · intro q hq
    rcases List.mem_or_eq_of_mem_set hq with hq | rfl
    · have := h.short q hq; omega
    · rw [e, List.length_append]; have := h.short _ hm; simp; omega

theorem leaf_loop (hl : ∀ s ∈ l, Ok s) (r : List (List Int)) (hr : ∀ d ∈ r, Inb l d ∧ d.length ≤ 100) : ∀ (rest k : Nat) (m : Int), rest + k = r.length →
    FleetRoster_1_v1.loop1 l r rest k m = some (((r.drop k).map (ldv l)).foldl mx m)
  | 0, k, m, h => by
    have : r.drop k = [] := List.drop_eq_nil_of_le (by omega)
    rw [this]; rfl
  | rest + 1, k, m, h => by
    have hk : k < r.length := by omega
    have hm := hr r[k] (List.getElem_mem hk)
    rw [FleetRoster_1_v1.loop1, gx_at hk]
    simp only [Option.bind_some]
    rw [load_v2 l hl _ hm.1 hm.2]
    simp only [Option.bind_some]
    rw [leaf_loop hl r hr rest (k + 1) _ (by omega), List.drop_eq_getElem_cons hk]
    rfl

theorem clone_refl (v : List Int) (h : v.length < 4294967296) : SlicesCloneLint v = some v := by
  unfold SlicesCloneLint
  simp only [apd_lt (a := []) (b := v) (by simpa using h)]
  simp
theorem nz_in {α : Type} {v : List α} (h : v ≠ []) : nz v = some () := by cases v with | nil => exact absurd rfl h | cons a r => rfl
theorem clone_reflL (v : List (List Int)) (h : v.length < 4294967296) (h0 : 0 < v.length) : SlicesCloneLLint_v1 v = some v := by
  have hne : v ≠ [] := by intro e; subst e; cases h0
  unfold SlicesCloneLLint_v1
  simp only [apd_lt (a := []) (b := v) (by simpa using h), nz_in hne]
  simp

/-- the program's search -/
theorem give_eq (hl : ∀ s ∈ l, Ok s) (hn : l.length ≤ 8) (hD0 : 1 ≤ D) (hD : D ≤ 4) : ∀ (m : Nat) (s : Nat) (r : List (List Int)) (st : St5) (fu : Nat), s + m = l.length → m < fu → Ros l D s r → r.all (okd l x) = true →
    FleetRoster_1_v1 fu s l r st.1 st.2 x = some (r, En l x D m s r st) := by
  intro m
  induction m with
  | zero =>
    intro s r st fu hs hf hr hok
    obtain ⟨f, rfl⟩ : ∃ f, fu = f + 1 := ⟨fu - 1, by omega⟩
    have hlen := hr.len
    rw [FleetRoster_1_v1, if_pos (by simp; omega), leaf_loop l hl r (fun d hd => ⟨hr.inb d hd, by have := hr.short d hd; omega⟩) r.length 0 0 (by omega)]
    simp only [Option.bind_some, List.drop_zero, bnd, clone_reflL r (by omega) (by omega)]
    simp only [En, leafU, hok, if_true]
    have hm : List.foldl mx 0 (List.map (ldv l) r) = most l r := rfl
    rw [hm]
    by_cases c1 : st.1 < 0
    · simp [c1]
    · by_cases c2 : most l r < st.1
      · simp [c1, c2]
      · simp [c1, c2]
  | succ m ih =>
    intro s r st fu hs hf hr hok
    obtain ⟨f, rfl⟩ : ∃ f, fu = f + 1 := ⟨fu - 1, by omega⟩
    have hlen := hr.len
    rw [FleetRoster_1_v1, if_neg (by simp; omega)]
    have loop : ∀ (j k : Nat) (st : St5), j + k = D →
        FleetRoster_1_v1.loop2 s l x (FleetRoster_1_v1 f) j k r st.1 st.2 = some (r, Ed D (fun d st => En l x D m ((s : Int) + 1) (putd r d s) st) j st) := by
      intro j
      induction j with
      | zero => intro k st _; simp [FleetRoster_1_v1.loop2, Ed]
      | succ j ihj =>
        intro k st hk
        have hkr : k < r.length := by omega
        have hm : r[k] ∈ r := List.getElem_mem hkr
        have hsh := hr.short _ hm
        have hput : putd r k s = r.set k (r[k] ++ [(s : Int)]) := by unfold putd; simp [hkr]
        have hRos := hr.put l D (d := k) (s := s) (by omega) (by omega) (by omega)
        have hback : (r.set k (r[k] ++ [(s : Int)])).set k r[k] = r := by rw [List.set_set]; simp
        have hmem : r[k] ++ [(s : Int)] ∈ putd r k s := by rw [hput]; exact List.mem_set hkr _
        have hl1 : ((r.set k (r[k] ++ [(s : Int)])).length : Int) = r.length := by simp
        have hDk : D - (j + 1) = k := by omega
        rw [FleetRoster_1_v1.loop2, gx_at hkr]
        simp only [Option.bind_some]
        rw [clone_refl _ (by omega)]
        simp only [Option.bind_some]
        rw [apd_lt (by simp; omega)]
        simp only [Option.bind_some]
        rw [ix_in (by omega) (by omega), sx_in (by omega) (by omega)]
        simp only [Option.bind_some, Int.toNat_natCast]
        rw [gx_nat, List.getElem?_set_self hkr]
        simp only [Option.bind_some]
        rw [fits_eq l x _ (by simp; omega) hl (hRos.inb _ hmem)]
        simp only [Option.bind_some]
        rw [Ed, hDk]
        cases hfit : okd l x (r[k] ++ [(s : Int)]) with
        | true =>
          have hall : (putd r k s).all (okd l x) = true := by
            rw [List.all_eq_true] at hok ⊢
            intro q hq
            rw [hput] at hq
            rcases List.mem_or_eq_of_mem_set hq with hq | rfl
            · exact hok q hq
            · exact hfit
          have e := ih (s + 1) (putd r k s) st f (by omega) (by omega) hRos hall
          rw [hput] at e
          have hs1 : ((s + 1 : Nat) : Int) = (s : Int) + 1 := by omega
          rw [hs1] at e
          simp only [if_true]
          rw [w64_id (by omega), e]
          simp only [Option.bind_some]
          rw [ix_in (by omega) (by omega), sx_in (by omega) (by omega)]
          simp only [Option.bind_some, Int.toNat_natCast]
          rw [hback, hput]
          exact ihj (k + 1) _ (by omega)
        | false =>
          have hall : (putd r k s).all (okd l x) = false := List.all_eq_false.2 ⟨_, hmem, by rw [hfit]; simp⟩
          simp only [Bool.false_eq_true, if_false]
          rw [ix_in (by omega) (by omega), sx_in (by omega) (by omega)]
          simp only [Option.bind_some, Int.toNat_natCast]
          rw [hback, En_bad l x D m _ _ _ (by simp [putd, hlen]) hall]
          exact ihj (k + 1) _ (by omega)
    have e := loop r.length 0 st (by omega)
    rw [e, hlen]
    rfl

/-! the reference -/
def giv : List Int → Nat → List (List Int) → List (List Int)
  | [], _, r => r
  | d :: t, k, r => giv t (k + 1) (putd r d.toNat k)
theorem giv_snoc (d : Int) : ∀ (p : List Int) (k : Nat) (r : List (List Int)), giv (p ++ [d]) k r = putd (giv p k r) d.toNat ((k + p.length : Nat) : Int)
  | [], k, r => rfl
  | e :: p, k, r => by rw [List.cons_append, giv, giv, giv_snoc d p]; congr 1; simp; omega
def given0 (p : List Int) : List (List Int) := giv p 0 (List.replicate D [])
theorem giv_ros (hn : l.length ≤ 8) : ∀ (p : List Int) (k n : Nat) (r : List (List Int)), Dig D p → k + p.length ≤ l.length → Ros l D n r → Ros l D (n + p.length) (giv p k r)
  | [], k, n, r, _, _, h => h
  | d :: p, k, n, r, hd, hk, h => by
    simp only [List.length_cons] at hk
    have h1 := hd d (List.mem_cons_self ..)
    have := giv_ros hn p (k + 1) (n + 1) (putd r d.toNat k) (fun e he => hd e (List.mem_cons_of_mem _ he)) (by omega) (h.put l D (by omega) (by omega) (by omega))
    rw [giv]
    have e : n + (d :: p).length = n + 1 + p.length := by simp; omega
    rw [e]; exact this
theorem ros0 : Ros l D 0 (List.replicate D []) := by
  refine ⟨by simp, ?_, ?_⟩
  · intro d hd
    rw [List.eq_of_mem_replicate hd]
    intro i hi
    cases hi
  · intro d hd
    rw [List.eq_of_mem_replicate hd]
    simp
theorem given_loop (hD : D ≤ 4) (v : List Int) (hv : v.length ≤ 8) (hd : Dig D v) : ∀ (rest k : Nat) (r : List (List Int)), rest + k = v.length → r.length = D → (∀ d ∈ r, d.length ≤ k) →
    Fishref2given_v1.loop1 D v rest k r = some (giv (v.drop k) k r)
  | 0, k, r, h, _, _ => by
    have : v.drop k = [] := List.drop_eq_nil_of_le (by omega)
    rw [this]; rfl
  | rest + 1, k, r, h, hr, hs => by
    have hk : k < v.length := by omega
    have h1 := hd v[k] (List.getElem_mem hk)
    have hi : v[k].toNat < r.length := by omega
    have hsh := hs r[v[k].toNat] (List.getElem_mem hi)
    rw [Fishref2given_v1.loop1, gx_at hk]
    simp only [Option.bind_some]
    rw [if_pos (by simpa using h1.2), gx_toNat h1.1 hi]
    simp only [Option.bind_some]
    rw [apd_lt (by simp; omega)]
    simp only [Option.bind_some]
    rw [ix_in h1.1 (by omega), sx_in h1.1 (by omega)]
    simp only [Option.bind_some]
    rw [given_loop hD v hv hd rest (k + 1) _ (by omega) (by simp [hr]) (by
      intro q hq
      rcases List.mem_or_eq_of_mem_set hq with hq | rfl
      · have := hs q hq; omega
      · rw [List.length_append]; simp; omega), List.drop_eq_getElem_cons hk, giv]
    congr 2
    unfold putd
    simp [hi]
theorem given_eq (hD : D ≤ 4) (v : List Int) (hv : v.length ≤ 8) (hd : Dig D v) : Fishref2given_v1 D v = some (given0 D v) := by
  unfold Fishref2given_v1
  rw [mks_in (by omega)]
  simp only [Option.bind_some]
  rw [given_loop D hD v hv hd v.length 0 _ (by omega) (by simp) (fun d hd => by rw [List.eq_of_mem_replicate hd]; simp)]
  rfl

def takeR (v : List Int) (st : St5) : Bool × St5 := (false, leafU l x (given0 D v) st)
theorem take_eq (hx : x.Row ≥ 1) (hl : ∀ s ∈ l, Ok s) (hlt : ∀ s ∈ l, s.Start < s.End) (hn : l.length ≤ 8) (hD0 : 1 ≤ D) (hD : D ≤ 4) (fu : Nat) (hf : 1000 < fu) (v : List Int) (st : St5) (hv : v.length = l.length) (hd : Dig D v) :
    Fishref2RosterOf_1_v2 fu v D l x st.1 st.2 = some (takeR l x D v st) := by
  have hros : Ros l D (0 + v.length) (given0 D v) := giv_ros l D hn v 0 0 _ hd (by omega) (ros0 l D)
  obtain ⟨c, e1, e2⟩ := later_iff l x hx hl (given0 D v) hros.inb
  unfold Fishref2RosterOf_1_v2
  rw [given_eq D hD v (by omega) hd]
  simp only [Option.bind_some]
  rw [e1]
  simp only [Option.bind_some]
  rw [e2]
  unfold takeR leafU
  cases hall : (given0 D v).all (okd l x) with
  | false => simp
  | true =>
    have hlen := hros.len
    have hlo : Fishref2LoadsOf l (given0 D v) = some ((given0 D v).map (ldv l)) := by
      unfold Fishref2LoadsOf
      rw [loads_v l hl _ [] (by simp; omega) (fun d hd => ⟨hros.inb d hd, by have := hros.short d hd; omega⟩)]
      simp
    have hpos : ∀ a ∈ (given0 D v).map (ldv l), 0 ≤ a := by
      intro a ha
      obtain ⟨d, hd', rfl⟩ := List.mem_map.1 ha
      have hin := hros.inb d hd'
      unfold ldv
      clear ha hd'
      induction d with
      | nil => simp
      | cons i d ih =>
        have hi := hin i (by simp)
        have h2 : i.toNat < l.length := by omega
        have e : sh l i = l[i.toNat] := by simp [sh, h2]
        have := hlt (sh l i) (by rw [e]; exact List.getElem_mem h2)
        have := ih (fun j hj => hin j (by simp [hj]))
        simp only [List.map_cons, List.sum_cons]
        omega
    simp only [Bool.not_true, Bool.false_eq_true, if_false, if_true]
    rw [hlo]
    simp only [Option.bind_some]
    rw [max_v _ (by simp; omega) (by simp; omega) hpos fu hf]
    simp only [Option.bind_some, bnd]
    change (match (if (if decide (st.1 < 0) = true then true else decide (most l (given0 D v) < st.1)) = true then (most l (given0 D v), given0 D v) else (st.1, st.2)) with | (a, b) => some (false, a, b)) = _
    by_cases c1 : st.1 < 0
    · simp [c1]
    · by_cases c2 : most l (given0 D v) < st.1
      · simp [c1, c2]
      · simp [c1, c2]

theorem Cn_En : ∀ (m : Nat) (p : List Int) (st : St5), Dig D p → Cn D (takeR l x D) m p st = (false, En l x D m p.length (given0 D p) st) := by
  intro m
  induction m with
  | zero => intro p st _; rfl
  | succ m ih =>
    intro p st hp
    rw [Cn, En]
    have key : ∀ j, j ≤ D → ∀ st, Cd D (Cn D (takeR l x D) m) j p st = (false, Ed D (fun d st => En l x D m ((p.length : Int) + 1) (putd (given0 D p) d p.length) st) j st) := by
      intro j
      induction j with
      | zero => intro _ st; rfl
      | succ j ihj =>
        intro hj st
        rw [Cd, ih _ _ (dig_snoc D hp (by omega) (by omega)), Ed]
        simp only [Bool.false_eq_true, if_false]
        rw [ihj (by omega)]
        have e1 : given0 D (p ++ [((D - (j + 1) : Nat) : Int)]) = putd (given0 D p) (D - (j + 1)) p.length := by
          unfold given0; rw [giv_snoc]; simp
        have e2 : (((p ++ [((D - (j + 1) : Nat) : Int)]).length : Nat) : Int) = (p.length : Int) + 1 := by simp
        rw [e1, e2]
    exact key D (Nat.le_refl _) st

theorem counts_eq (hx : x.Row ≥ 1) (hl : ∀ s ∈ l, Ok s) (hlt : ∀ s ∈ l, s.Start < s.End) (hn : l.length ≤ 8) (hD0 : 1 ≤ D) (hD : D ≤ 4) (fu : Nat) (hf : 70000 < fu) :
    Fishref2counts_v1 fu l.length D D l x (-1) [] = some (false, En l x D l.length 0 (List.replicate D []) (-1, [])) := by
  unfold Fishref2counts_v1
  rw [mks_in (by omega)]
  simp only [Option.bind_some]
  have hb := block D (takeR l x D) hD0 l.length (fun N v st => Fishref2counts_v1.loop1 l.length D D l x fu N v st.1 st.2) (by
    intro N v st hv hd
    have hd2 : Dig (D : Int) v := hd
    show Fishref2counts_v1.loop1 l.length D D l x fu (N + 1) v st.1 st.2 = _
    rw [Fishref2counts_v1.loop1, take_eq l x D hx hl hlt hn hD0 hD fu (by omega) v st hv hd]
    simp only [Option.bind_some, takeR, Bool.false_eq_true, if_false]
    have ho := odo (D : Int) (by omega) (Fishref2counts_v1.loop2 D) (fun N k v => by rw [Fishref2counts_v1.loop2]) v.length v [] fu rfl (by omega) (by omega) hd
    rw [w64_id (x := (l.length : Int) - 1) (by omega)]
    rw [List.append_nil, hv] at ho
    cases hi : inc (D : Int) v with
    | none =>
      obtain ⟨v', e⟩ := ho.1 hi
      rw [e]
      simp only [Option.bind_some]
      rw [if_pos (by simp)]
    | some v' =>
      obtain ⟨k, u, y, e1, e2, e3, e4, e5⟩ := ho.2 v' hi
      rw [e1]
      simp only [Option.bind_some]
      rw [if_neg (by simp; omega), e3]
      simp only [Option.bind_some]
      rw [e4, e5]
      simp only [Option.bind_some, List.append_nil]) l.length [] (fu - D ^ l.length) (-1, []) (by simp) (fun d hd => by cases hd)
  have hpow : D ^ l.length ≤ 65536 := Nat.le_trans (Nat.pow_le_pow_left hD _) (Nat.le_trans (Nat.pow_le_pow_right (by omega) hn) (by decide))
  have e : D ^ l.length + (fu - D ^ l.length) = fu := by omega
  rw [e] at hb
  simp only [List.nil_append] at hb
  rw [hb, Cn_En l x D l.length [] _ (fun d hd => by cases hd)]
  rfl
end

theorem shifts_lt : ∀ l, FleetCheckShifts.loop1 l = .next () → ∀ s ∈ l, s.Start < s.End
  | [], _ => by simp
  | x :: r, h => by
    simp only [FleetCheckShifts.loop1, within_iff, bnd_eq] at h
    by_cases h1 : 0 ≤ x.Day ∧ x.Day ≤ 6
    · by_cases h2 : 0 ≤ x.Start ∧ x.Start ≤ 28800
      · by_cases h3 : 0 ≤ x.End ∧ x.End ≤ 28800
        · by_cases h4 : x.End ≤ x.Start
          · simp [h1, h2, h3, h4] at h
          · simp [h1, h2, h3, h4] at h
            intro s hs
            rcases List.mem_cons.1 hs with rfl | hs
            · omega
            · exact shifts_lt r h s hs
        · simp [h1, h2, h3] at h
      · simp [h1, h2] at h
    · simp [h1] at h
theorem shifts_lt2 (l : List FleetShift) (h : FleetCheckShifts l = 0) : ∀ s ∈ l, s.Start < s.End := by
  unfold FleetCheckShifts at h
  by_cases h1 : (l.length : Int) > 8
  · simp [h1] at h
  · rw [if_neg (by simpa using h1)] at h
    simp only [bnd_eq] at h
    rcases h2 : FleetCheckShifts.loop1 l with c | _
    · exfalso
      rw [h2] at h
      have : ∀ l c, FleetCheckShifts.loop1 l = .ret c → c ≠ 0 := by
        intro l
        induction l with
        | nil => intro c h; cases h
        | cons y r ih =>
          intro c h
          simp only [FleetCheckShifts.loop1, bnd] at h
          generalize (if (!Fleetwithin y.Day 0 6) = true then true else if (!Fleetwithin y.Start 0 28800) = true then true else !Fleetwithin y.End 0 28800) = b at h
          cases b with
          | true => rw [if_pos rfl] at h; injection h with h; omega
          | false =>
            rw [if_neg (by simp)] at h
            split at h
            · injection h with h; omega
            · exact ih c h
      exact this l c h2 h
    · exact shifts_lt l h2

theorem lists_refl (r : List (List Int)) : Fishlaw2lists r r = some true := by
  have key : ∀ (q : List (List Int)) (k : Nat), r.drop k = q → SlicesEqualFuncLLint_v1.loop1 r q k = some (.next ()) := by
    intro q
    induction q with
    | nil => intro k _; rfl
    | cons v q ih =>
      intro k hd
      obtain ⟨d1, d2, d3⟩ := drop_cons hd
      simp only [SlicesEqualFuncLLint_v1.loop1, gx_nat, d2, Option.bind_some, equal_refl, Bool.not_true, Bool.false_eq_true, if_false]
      exact ih (k + 1) d3
  unfold Fishlaw2lists SlicesEqualFuncLLint_v1
  simp [key r 0 rfl]

theorem FleetRosters_law (l : List FleetShift) (n : Int) (x : FleetLimits) (hl : l.length ≤ 9223372036854775807) (_ : -9223372036854775808 ≤ n ∧ n ≤ 9223372036854775807) : ∃ fu, Fishlaw2FleetRosters fu l n x = some true := by
  refine ⟨70001, ?_⟩
  have main : FleetRoster 70001 l n x = Fishref2RosterOf 70001 l n x ∧ Tot (FleetRoster 70001 l n x) := by
    unfold FleetRoster Fishref2RosterOf
    rw [shifts_ref, limits_ref, within_ref]
    by_cases c1 : (FleetCheckShifts l != 0) = true
    · simp only [if_pos c1]; exact ⟨trivial, Tot.some _⟩
    by_cases c2 : (FleetCheckLimits x != 0) = true
    · simp only [if_neg c1, if_pos c2]; exact ⟨trivial, Tot.some _⟩
    by_cases c3 : (!(Fleetwithin n 1 4)) = true
    · simp only [if_neg c1, if_neg c2, if_pos c3]; exact ⟨trivial, Tot.some _⟩
    simp only [if_neg c1, if_neg c2, if_neg c3]
    have h1 : FleetCheckShifts l = 0 := by simpa using c1
    obtain ⟨hn, hok⟩ := check_ok l h1
    have hlt := shifts_lt2 l h1
    have hx := limits_ok x (by simpa using c2)
    have hw : 1 ≤ n ∧ n ≤ 4 := by rw [within_iff] at c3; simpa using c3
    obtain ⟨D, rfl⟩ : ∃ D : Nat, n = (D : Int) := ⟨n.toNat, by omega⟩
    rw [mks_in (by omega)]
    simp only [Option.bind_some]
    have e1 := give_eq l x D hok hn (by omega) (by omega) l.length 0 (List.replicate D []) (-1, []) 70001 (by omega) (by omega) (ros0 l D) (by
      rw [List.all_eq_true]
      intro d hd
      rw [List.eq_of_mem_replicate hd]
      have : ∀ (bs : List Bool), (∀ b ∈ bs, b = false) → runs x bs 0 = false := by
        intro bs
        induction bs with
        | nil => intro _; rfl
        | cons b bs ih => intro h; rw [runs, h b (by simp)]; exact ih (fun c hc => h c (by simp [hc]))
      have e : runs x (dayB l []) 0 = false := this _ (by intro b hb; simp [dayB, cnt] at hb; exact hb.2)
      simp [okd, pairs, e])
    have e2 := counts_eq l x D hx hok hlt hn (by omega) (by omega) 70001 (by omega)
    rw [show ((0 : Nat) : Int) = 0 from rfl] at e1
    rw [e1, e2]
    simp only [Option.bind_some]
    refine ⟨trivial, ?_⟩
    exact Tot.ite (fun _ => Tot.some _) (fun _ => Tot.some _)
  obtain ⟨z, hz⟩ := main.2
  unfold Fishlaw2FleetRosters
  rw [← main.1, hz]
  simp only [Option.bind_some]
  rw [crews_true, lists_refl]
  simp

end Go.Fp
