/- FleetShifts: the mirror of the law is true of all shifts, rosters and limits whose lists are no longer than any slice. -/
import Derived.Test.YtpoooohaoekbaaaFleetShiftsM
import Derived.Test.YtpoooohaoekbaaaFpPlain
namespace Go.Fp

theorem within_ref : Fishref2within = Fleetwithin := rfl
theorem limits_loop : ∀ l, Fishref2LimitsFault.loop1 l = FleetCheckLimits.loop1 l
  | [] => rfl
  | x :: r => by simp only [Fishref2LimitsFault.loop1, FleetCheckLimits.loop1, limits_loop r]; rfl
theorem limits_ref (x : FleetLimits) : Fishref2LimitsFault x = FleetCheckLimits x := by
  unfold Fishref2LimitsFault FleetCheckLimits; rw [limits_loop]; rfl
theorem within_len {n : Int} {m : Nat} (hm : m ≤ 9223372036854775807) : (!Fleetwithin n 0 (w64 ((m : Int) - 1))) = (if decide (n < 0) then true else decide (n ≥ (m : Int))) := by
  rw [w64_id (by omega)]
  unfold Fleetwithin bnd
  by_cases h : n < 0
  · have h1 : ¬ n ≥ 0 := by omega
    simp [h, h1]
  · have h1 : n ≥ 0 := by omega
    have h2 : decide (n ≤ (m : Int) - 1) = !decide (n ≥ (m : Int)) := by
      by_cases hh : n ≥ (m : Int) <;> simp [hh] <;> omega
    simp [h, h1, h2]

theorem within_iff (n a b : Int) : Fleetwithin n a b = decide (a ≤ n ∧ n ≤ b) := by
  unfold Fleetwithin bnd
  by_cases h : n ≥ a
  · by_cases h2 : n ≤ b <;> simp [h, h2]
  · simp [h]

theorem shifts_loop : ∀ l, Fishref2ShiftsFault.loop1 l = FleetCheckShifts.loop1 l
  | [] => rfl
  | x :: r => by simp only [Fishref2ShiftsFault.loop1, FleetCheckShifts.loop1, shifts_loop r]; rfl
theorem shifts_ref (l : List FleetShift) : Fishref2ShiftsFault l = FleetCheckShifts l := by
  unfold Fishref2ShiftsFault FleetCheckShifts; rw [shifts_loop]

theorem ros_loop2 (l : List FleetShift) (hl : l.length ≤ 9223372036854775807) : ∀ r, Fishref2RosterFault.loop2 l r = FleetcheckRoster.loop2 l r
  | [] => rfl
  | x :: r => by
    simp only [Fishref2RosterFault.loop2, FleetcheckRoster.loop2, ros_loop2 l hl r, bnd_eq]
    rw [within_len hl]
theorem ros_loop1 (l : List FleetShift) (hl : l.length ≤ 9223372036854775807) : ∀ r, Fishref2RosterFault.loop1 l r = FleetcheckRoster.loop1 l r
  | [] => rfl
  | x :: r => by simp only [Fishref2RosterFault.loop1, FleetcheckRoster.loop1, ros_loop1 l hl r, ros_loop2 l hl]
theorem roster_ref (l : List FleetShift) (hl : l.length ≤ 9223372036854775807) (r : List (List Int)) : Fishref2RosterFault l r = FleetcheckRoster l r := by
  unfold Fishref2RosterFault FleetcheckRoster; rw [ros_loop1 l hl]

/-- what right shifts are -/
structure Ok (s : FleetShift) : Prop where
  d0 : 0 ≤ s.Day
  d1 : s.Day ≤ 6
  s0 : 0 ≤ s.Start
  s1 : s.Start ≤ 28800
  e0 : 0 ≤ s.End
  e1 : s.End ≤ 28800

theorem shifts_ok : ∀ l, FleetCheckShifts.loop1 l = .next () → ∀ s ∈ l, Ok s
  | [], _ => by simp
  | x :: r, h => by
    simp only [FleetCheckShifts.loop1, within_iff, bnd_eq] at h
    by_cases h1 : 0 ≤ x.Day ∧ x.Day ≤ 6
    · by_cases h2 : 0 ≤ x.Start ∧ x.Start ≤ 28800
      · by_cases h3 : 0 ≤ x.End ∧ x.End ≤ 28800
        · by_cases h4 : x.End ≤ x.Start
          · simp [h1, h2, h3, h4] at h
          · simp [h1, h2, h3, h4] at h
            intro s hs
            rcases List.mem_cons.1 hs with rfl | hs
            · exact ⟨h1.1, h1.2, h2.1, h2.2, h3.1, h3.2⟩
            · exact shifts_ok r h s hs
        · simp [h1, h2, h3] at h
      · simp [h1, h2] at h
    · simp [h1] at h

theorem check_ok (l : List FleetShift) (h : FleetCheckShifts l = 0) : l.length ≤ 8 ∧ ∀ s ∈ l, Ok s := by
  unfold FleetCheckShifts at h
  by_cases h1 : (l.length : Int) > 8
  · simp [h1] at h
  · simp only [h1, decide_false, Bool.false_eq_true, if_false, bnd_eq] at h
    refine ⟨by omega, ?_⟩
    rcases h2 : FleetCheckShifts.loop1 l with r | _
    · rw [h2] at h
      exact absurd h (by
        have : ∀ l r, FleetCheckShifts.loop1 l = .ret r → r ≠ 0 := by
          intro l
          induction l with
          | nil => intro r h; simp [FleetCheckShifts.loop1] at h
          | cons x l ih =>
            intro r h
            simp only [FleetCheckShifts.loop1, bnd_eq] at h
            generalize (if (!Fleetwithin x.Day 0 6) = true then true else if (!Fleetwithin x.Start 0 28800) = true then true else !Fleetwithin x.End 0 28800) = b at h
            cases b with
            | true => simp at h; subst h; decide
            | false =>
              simp only [Bool.false_eq_true, if_false] at h
              by_cases hc : x.End ≤ x.Start
              · simp [hc] at h; subst h; decide
              · simp only [hc, decide_false, Bool.false_eq_true, if_false] at h
                exact ih r h
        exact this l r h2)
    · exact shifts_ok l h2

theorem ros_in2 (l : List FleetShift) (hl : l.length ≤ 9223372036854775807) : ∀ r, FleetcheckRoster.loop2 l r = .next () → ∀ i ∈ r, 0 ≤ i ∧ i < l.length
  | [], _ => by simp
  | x :: r, h => by
    simp only [FleetcheckRoster.loop2, within_len hl] at h
    by_cases h1 : x < 0
    · simp [h1] at h
    by_cases h2 : x ≥ (l.length : Int)
    · simp [h1, h2] at h
    simp only [h1, h2, decide_false, Bool.false_eq_true, if_false] at h
    intro i hi
    rcases List.mem_cons.1 hi with rfl | hi
    · omega
    · exact ros_in2 l hl r h i hi
theorem ros_ret2 (l : List FleetShift) : ∀ r c, FleetcheckRoster.loop2 l r = .ret c → c ≠ 0
  | [], c, h => by simp [FleetcheckRoster.loop2] at h
  | x :: r, c, h => by
    simp only [FleetcheckRoster.loop2] at h
    split at h
    · injection h with h; subst h; decide
    · exact ros_ret2 l r c h
theorem ros_in1 (l : List FleetShift) (hl : l.length ≤ 9223372036854775807) : ∀ r, (∀ c, FleetcheckRoster.loop1 l r = .ret c → c ≠ 0) ∧ (FleetcheckRoster.loop1 l r = .next () → ∀ d ∈ r, ∀ i ∈ d, 0 ≤ i ∧ i < l.length)
  | [] => ⟨by simp [FleetcheckRoster.loop1], by simp⟩
  | x :: r => by
    obtain ⟨h1, h2⟩ := ros_in1 l hl r
    simp only [FleetcheckRoster.loop1, bnd_eq]
    rcases h3 : FleetcheckRoster.loop2 l x with c | _
    · refine ⟨?_, by simp⟩
      intro c' h; injection h with h; subst h; exact ros_ret2 l x c h3
    · refine ⟨h1, fun h d hd => ?_⟩
      rcases List.mem_cons.1 hd with rfl | hd
      · exact ros_in2 l hl d h3
      · exact h2 h d hd
theorem roster_ok (l : List FleetShift) (hl : l.length ≤ 9223372036854775807) (r : List (List Int)) (h : FleetcheckRoster l r = 0) : r.length ≤ 4 ∧ ∀ d ∈ r, ∀ i ∈ d, 0 ≤ i ∧ i < l.length := by
  unfold FleetcheckRoster at h
  by_cases h1 : (r.length : Int) > 4
  · simp [h1] at h
  · simp only [h1, decide_false, Bool.false_eq_true, if_false, bnd_eq] at h
    obtain ⟨h2, h3⟩ := ros_in1 l hl r
    rcases h4 : FleetcheckRoster.loop1 l r with c | _
    · rw [h4] at h; exact absurd h (h2 c h4)
    · exact ⟨by omega, h3 h4⟩

/-- the shift number i -/
def sh (l : List FleetShift) (i : Int) : FleetShift := (l[i.toNat]?).getD default
theorem gx_sh {l : List FleetShift} {i : Int} (h : 0 ≤ i ∧ i < l.length) : gx l i = some (sh l i) := by
  have : i.toNat < l.length := by omega
  simp [gx, h.1, sh, this]
theorem sh_ok {l : List FleetShift} (hl : ∀ s ∈ l, Ok s) {i : Int} (h : 0 ≤ i ∧ i < l.length) : Ok (sh l i) := by
  have h2 : i.toNat < l.length := by omega
  have e : sh l i = l[i.toNat] := by simp [sh, h2]
  rw [e]; exact hl _ (List.getElem_mem h2)

/-! pairs -/
def same (s t : FleetShift) : Bool := s.Day == t.Day
/-- a later one of the list, an earlier one -/
def g3 (x : FleetLimits) (a b : FleetShift) : Bool :=
  if a.Day > b.Day then (b.Day != a.Day && decide ((w64 ((w64 ((w64 ((w64 (a.Day * 86400)) + a.Start)) - (w64 (b.Day * 86400)))) - b.End)) < x.Rest))
  else (a.Day != b.Day && decide ((w64 ((w64 ((w64 ((w64 (b.Day * 86400)) + b.Start)) - (w64 (a.Day * 86400)))) - a.End)) < x.Rest))
/-- an earlier one, a later one -/
def r3 (x : FleetLimits) (a b : FleetShift) : Bool := decide ((mx (w64 ((Fishref2begins b) - (Fishref2ends a))) (w64 ((Fishref2begins a) - (Fishref2ends b)))) < x.Rest)

theorem g3_r3 (x : FleetLimits) {a b : FleetShift} (ha : Ok a) (hb : Ok b) (h : same b a = false) : g3 x a b = r3 x b a := by
  have hne : b.Day ≠ a.Day := by simpa [same] using h
  have h1 := ha.d0; have h2 := ha.d1; have h3 := ha.s0; have h4 := ha.s1; have h5 := ha.e0; have h6 := ha.e1
  have k1 := hb.d0; have k2 := hb.d1; have k3 := hb.s0; have k4 := hb.s1; have k5 := hb.e0; have k6 := hb.e1
  unfold g3 r3 Fishref2begins Fishref2ends mx
  rw [w64_id (x := a.Day * 86400) (by omega), w64_id (x := b.Day * 86400) (by omega), w64_id (x := a.Day * 86400 + a.Start) (by omega), w64_id (x := b.Day * 86400 + b.Start) (by omega),
    w64_id (x := a.Day * 86400 + a.End) (by omega), w64_id (x := b.Day * 86400 + b.End) (by omega)]
  rw [w64_id (x := a.Day * 86400 + a.Start - b.Day * 86400) (by omega), w64_id (x := b.Day * 86400 + b.Start - a.Day * 86400) (by omega)]
  rw [w64_id (x := a.Day * 86400 + a.Start - b.Day * 86400 - b.End) (by omega), w64_id (x := b.Day * 86400 + b.Start - a.Day * 86400 - a.End) (by omega),
    w64_id (x := a.Day * 86400 + a.Start - (b.Day * 86400 + b.End)) (by omega), w64_id (x := b.Day * 86400 + b.Start - (a.Day * 86400 + a.End)) (by omega)]
  by_cases hc : a.Day > b.Day
  · have e1 : (b.Day != a.Day) = true := by simpa using hne
    have e2 : ¬ (b.Day * 86400 + b.Start - (a.Day * 86400 + a.End) > a.Day * 86400 + a.Start - (b.Day * 86400 + b.End)) := by omega
    rw [if_pos hc, e1, if_neg e2, Bool.true_and]
    congr 1
    apply propext
    constructor <;> intro h <;> omega
  · have e1 : (a.Day != b.Day) = true := by simp; exact fun e => hne e.symm
    have e2 : b.Day * 86400 + b.Start - (a.Day * 86400 + a.End) > a.Day * 86400 + a.Start - (b.Day * 86400 + b.End) := by omega
    rw [if_neg hc, e1, if_pos e2, Bool.true_and]
    congr 1
    apply propext
    constructor <;> intro h <;> omega

theorem g3_same (x : FleetLimits) {a b : FleetShift} (h : same b a = true) : g3 x a b = false := by
  have : b.Day = a.Day := by simpa [same] using h
  simp [g3, this]

/-- a pair, the earlier one first, for which f is true -/
def pairs (f : Int → Int → Bool) : List Int → Bool
  | [] => false
  | a :: r => r.any (f a) || pairs f r
/-- the same, seen from the later ones -/
def back (f : Int → Int → Bool) : List Int → List Int → Bool
  | _, [] => false
  | pre, a :: r => pre.any (fun b => f b a) || back f (pre ++ [a]) r
theorem back_pairs (f : Int → Int → Bool) : ∀ (r pre : List Int), back f pre r = (r.any (fun a => pre.any (fun b => f b a)) || pairs f r)
  | [], pre => by simp [back, pairs]
  | a :: r, pre => by
    rw [back, back_pairs f r, pairs]
    rw [Bool.eq_iff_iff]
    simp only [List.any_append, List.any_cons, List.any_nil, Bool.or_false, Bool.or_eq_true, List.any_eq_true]
    constructor
    · rintro (h | ⟨c, hc, h | h⟩ | h)
      · exact .inl (.inl h)
      · exact .inl (.inr ⟨c, hc, h⟩)
      · exact .inr (.inl ⟨c, hc, h⟩)
      · exact .inr (.inr h)
    · rintro ((h | ⟨c, hc, h⟩) | ⟨c, hc, h⟩ | h)
      · exact .inl h
      · exact .inr (.inl ⟨c, hc, .inl h⟩)
      · exact .inr (.inl ⟨c, hc, .inr h⟩)
      · exact .inr (.inr h)

theorem pairs_congr (f g : Int → Int → Bool) : ∀ (d : List Int), (∀ a ∈ d, ∀ b ∈ d, f a b = g a b) → pairs f d = pairs g d
  | [], _ => rfl
  | a :: r, h => by
    rw [pairs, pairs, pairs_congr f g r (fun a ha b hb => h a (by simp [ha]) b (by simp [hb]))]
    congr 1
    rw [Bool.eq_iff_iff]
    simp only [List.any_eq_true]
    constructor
    · rintro ⟨c, hc, hh⟩; exact ⟨c, hc, by rw [← h a (by simp) c (by simp [hc])]; exact hh⟩
    · rintro ⟨c, hc, hh⟩; exact ⟨c, hc, by rw [h a (by simp) c (by simp [hc])]; exact hh⟩

theorem pairs_not (f g : Int → Int → Bool) : ∀ (d : List Int), pairs f d = false → (∀ a ∈ d, ∀ b ∈ d, f a b = false → g a b = f a b ∨ True) → True := fun _ _ _ => trivial

/-- where no pair has the same day, two readings of pairs that agree on the others agree -/
theorem pairs_apart (e f g : Int → Int → Bool) : ∀ (d : List Int), pairs e d = false → (∀ a ∈ d, ∀ b ∈ d, e a b = false → f a b = g a b) → pairs f d = pairs g d
  | [], _, _ => rfl
  | a :: r, h, hh => by
    simp only [pairs, Bool.or_eq_false_iff] at h
    rw [pairs, pairs, pairs_apart e f g r h.2 (fun a ha b hb => hh a (by simp [ha]) b (by simp [hb]))]
    congr 1
    have hall : ∀ c ∈ r, f a c = g a c := fun c hc => hh a (by simp) c (by simp [hc]) (by
      have := h.1; rw [List.any_eq_false] at this; simpa using this c hc)
    rw [Bool.eq_iff_iff]
    simp only [List.any_eq_true]
    exact ⟨fun ⟨c, hc, q⟩ => ⟨c, hc, by rw [← hall c hc]; exact q⟩, fun ⟨c, hc, q⟩ => ⟨c, hc, by rw [hall c hc]; exact q⟩⟩

section
variable (l : List FleetShift) (x : FleetLimits)

/-- how many of d are on day j -/
def cnt (d : List Int) (j : Nat) : Nat := (d.filter fun a => (sh l a).Day == (j : Int)).length

theorem cnt_cons (a : Int) (d : List Int) (j : Nat) : cnt l (a :: d) j = cnt l d j + if (sh l a).Day = (j : Int) then 1 else 0 := by
  unfold cnt
  by_cases h : (sh l a).Day = (j : Int) <;> simp [h]

theorem cnt_le (d : List Int) (j : Nat) : cnt l d j ≤ d.length := List.length_filter_le _ _

theorem two_pairs (hl : ∀ s ∈ l, Ok s) : ∀ (d : List Int), (∀ i ∈ d, 0 ≤ i ∧ i < l.length) → (pairs (fun a b => same (sh l a) (sh l b)) d = true ↔ ∃ j, j < 7 ∧ cnt l d j > 1)
  | [], _ => by simp [pairs, cnt]
  | a :: r, h => by
    have ha := sh_ok hl (h a (by simp))
    have h1 := ha.d0; have h2 := ha.d1
    have ih := two_pairs hl r (fun i hi => h i (by simp [hi]))
    simp only [pairs, Bool.or_eq_true, ih]
    constructor
    · rintro (hh | ⟨j, hj, hc⟩)
      · obtain ⟨b, hb, hs⟩ := List.any_eq_true.1 hh
        refine ⟨(sh l a).Day.toNat, by omega, ?_⟩
        rw [cnt_cons]
        have e : (sh l a).Day = (((sh l a).Day.toNat : Nat) : Int) := by omega
        rw [if_pos e]
        have hs' : (sh l a).Day = (sh l b).Day := by simpa [same] using hs
        have : 0 < cnt l r (sh l a).Day.toNat := by
          unfold cnt
          apply List.length_pos_of_mem (a := b)
          rw [List.mem_filter]
          exact ⟨hb, by rw [← hs', ← e]; simp⟩
        omega
      · exact ⟨j, hj, by rw [cnt_cons]; omega⟩
    · rintro ⟨j, hj, hc⟩
      rw [cnt_cons] at hc
      by_cases hd : (sh l a).Day = (j : Int)
      · rw [if_pos hd] at hc
        left
        have : 0 < cnt l r j := by omega
        unfold cnt at this
        obtain ⟨b, hb⟩ := List.exists_mem_of_length_pos this
        rw [List.mem_filter] at hb
        exact List.any_eq_true.2 ⟨b, hb.1, by have := hb.2; simp at this; simp [same, hd, this]⟩
      · rw [if_neg hd] at hc
        exact .inr ⟨j, hj, by omega⟩

/-! the program's way -/
theorem db2 (a : Int) (ha : 0 ≤ a ∧ a < l.length) : ∀ (r : List Int) (q : Bool), (∀ i ∈ r, 0 ≤ i ∧ i < l.length) → FleetdriverBreaks.loop2 l x a r q = some (q || r.any (fun b => g3 x (sh l a) (sh l b)))
  | [], q, _ => by simp [FleetdriverBreaks.loop2]
  | b :: r, q, h => by
    have hb := h b (by simp)
    simp only [FleetdriverBreaks.loop2, gx_sh ha, gx_sh hb, Option.bind_some, bnd_eq]
    by_cases hc : (sh l a).Day > (sh l b).Day
    · simp only [hc, decide_true, if_true]
      rw [db2 a ha r _ (fun i hi => h i (by simp [hi]))]
      congr 1
      rw [List.any_cons, g3, if_pos hc, ← Bool.or_assoc]
      congr 1
      cases q <;> cases (sh l b).Day != (sh l a).Day <;> simp
    · simp only [hc, decide_false, Bool.false_eq_true, if_false]
      rw [db2 a ha r _ (fun i hi => h i (by simp [hi]))]
      congr 1
      rw [List.any_cons, g3, if_neg hc, ← Bool.or_assoc]
      congr 1
      cases q <;> cases (sh l a).Day != (sh l b).Day <;> simp

theorem db1 (d : List Int) (hd : d.length ≤ 9223372036854775807) (hl : ∀ s ∈ l, Ok s) (h : ∀ i ∈ d, 0 ≤ i ∧ i < l.length) :
    ∀ (r pre : List Int) (k : Nat) (q : Bool) (days : List Int), d = pre ++ r → k = pre.length → days.length = 7 → (∀ j, j < 7 → days[j]? = some ((cnt l pre j : Nat) : Int)) →
    ∃ days', FleetdriverBreaks.loop1 l d x r k q days = some (q || back (fun b a => g3 x (sh l a) (sh l b)) pre r, days') ∧ days'.length = 7 ∧ ∀ j, j < 7 → days'[j]? = some ((cnt l d j : Nat) : Int)
  | [], pre, k, q, days, hp, _, h7, hc => ⟨days, by simp [FleetdriverBreaks.loop1, back], h7, by rw [hp]; simpa using hc⟩
  | a :: r, pre, k, q, days, hp, hk, h7, hc => by
    have ha := h a (by rw [hp]; simp)
    have hok := sh_ok hl ha
    have h1 := hok.d0; have h2 := hok.d1
    have hj : (sh l a).Day.toNat < 7 := by omega
    have hg : gx days (sh l a).Day = some ((cnt l pre (sh l a).Day.toNat : Nat) : Int) := by unfold gx; rw [if_pos h1]; exact hc _ hj
    have hix : ix days (sh l a).Day = some () := by unfold ix; rw [if_pos ⟨h1, by omega⟩]
    have hsx : ∀ v, sx days (sh l a).Day v = some (days.set (sh l a).Day.toNat v) := by intro v; unfold sx; rw [if_pos ⟨h1, by omega⟩]
    have hcut : cutl d 0 ((k : Nat) : Int) = some pre := by
      unfold cutl
      rw [if_pos ⟨by omega, by omega, by rw [hp, hk]; simp; omega⟩]
      rw [hp, hk]; simp
    have hlen : pre.length < d.length := by rw [hp]; simp
    have hw : w64 (((cnt l pre (sh l a).Day.toNat : Nat) : Int) + 1) = (((cnt l pre (sh l a).Day.toNat + 1 : Nat) : Nat) : Int) := by
      have := cnt_le l pre (sh l a).Day.toNat
      rw [w64_id (by omega)]; omega
    simp only [FleetdriverBreaks.loop1, gx_sh ha, Option.bind_some, hg, hix, hsx, hcut, hw]
    rw [db2 l x a ha pre q (fun i hi => h i (by rw [hp]; simp [hi]))]
    simp only [Option.bind_some]
    have hcnt : ∀ j, cnt l (pre ++ [a]) j = cnt l pre j + if (sh l a).Day = (j : Int) then 1 else 0 := by
      intro j
      unfold cnt
      rw [List.filter_append, List.length_append]
      by_cases hh : (sh l a).Day = (j : Int) <;> simp [hh]
    obtain ⟨days', e1, e2, e3⟩ := db1 d hd hl h r (pre ++ [a]) (k + 1) (q || pre.any (fun b => g3 x (sh l a) (sh l b))) (days.set (sh l a).Day.toNat (((cnt l pre (sh l a).Day.toNat + 1 : Nat) : Nat) : Int))
      (by rw [hp]; simp) (by simp [hk]) (by simpa using h7) (by
        intro j hj7
        rw [hcnt, List.getElem?_set]
        by_cases hh : (sh l a).Day.toNat = j
        · have : (sh l a).Day = (j : Int) := by omega
          rw [if_pos hh, if_pos (by omega), if_pos this, hh]
        · have : ¬ (sh l a).Day = (j : Int) := by omega
          rw [if_neg hh, if_neg this, hc j hj7]; rfl)
    refine ⟨days', ?_, e2, e3⟩
    rw [e1, back, Bool.or_assoc]

/-- runs of days -/
def runs (x : FleetLimits) : List Bool → Int → Bool
  | [], _ => false
  | b :: r, n => if b then decide (n + 1 > x.Row) || runs x r (n + 1) else runs x r 0

theorem db3 : ∀ (days : List Int) (t f : Bool) (n : Int), 0 ≤ n → n + days.length ≤ 9223372036854775807 → (∀ v ∈ days, 0 ≤ v) →
    ∃ n', FleetdriverBreaks.loop3 x days t f n = (t || days.any (fun v => decide (v > 1)), f || runs x (days.map fun v => decide (v > 0)) n, n')
  | [], t, f, n, _, _, _ => ⟨n, by simp [FleetdriverBreaks.loop3, runs]⟩
  | v :: r, t, f, n, h0, hn, hv => by
    simp only [List.length_cons] at hn
    have hv0 := hv v (by simp)
    simp only [FleetdriverBreaks.loop3, bnd_eq]
    by_cases hz : v = 0
    · subst hz
      obtain ⟨n', e⟩ := db3 r (if t then true else decide ((0 : Int) > 1)) f 0 (by omega) (by omega) (fun v h => hv v (by simp [h]))
      refine ⟨n', ?_⟩
      simp only [beq_self_eq_true, if_true, e]
      simp only [List.any_cons, List.map_cons, runs]
      cases t <;> simp
    · have hb : (v == 0) = false := by simpa using hz
      have hp : v > 0 := by omega
      have hw : w64 (n + 1) = n + 1 := w64_id (by omega)
      simp only [hb, Bool.false_eq_true, if_false, hw]
      obtain ⟨n', e⟩ := db3 r (if t then true else decide (v > 1)) (if f then true else decide (n + 1 > x.Row)) (n + 1) (by omega) (by omega) (fun v h => hv v (by simp [h]))
      refine ⟨n', ?_⟩
      rw [e]
      simp only [List.any_cons, List.map_cons, runs, hp, decide_true, if_true]
      cases t <;> cases f <;> simp

def dayB (d : List Int) : List Bool := (List.range 7).map fun j => decide (cnt l d j > 0)

theorem breaks (d : List Int) (hd : d.length ≤ 9223372036854775807) (hl : ∀ s ∈ l, Ok s) (h : ∀ i ∈ d, 0 ≤ i ∧ i < l.length) :
    FleetdriverBreaks l d x = some (pairs (fun a b => same (sh l a) (sh l b)) d, pairs (fun b a => g3 x (sh l a) (sh l b)) d, runs x (dayB l d) 0) := by
  obtain ⟨days, e1, e2, e3⟩ := db1 l x d hd hl h d [] 0 false [0, 0, 0, 0, 0, 0, 0] rfl rfl rfl (by
    intro j hj
    have : j = 0 ∨ j = 1 ∨ j = 2 ∨ j = 3 ∨ j = 4 ∨ j = 5 ∨ j = 6 := by omega
    rcases this with rfl | rfl | rfl | rfl | rfl | rfl | rfl <;> rfl)
  have hdays : days = (List.range 7).map fun j => ((cnt l d j : Nat) : Int) := by
    apply List.ext_getElem?
    intro j
    rcases Nat.lt_or_ge j 7 with hj | hj
    · rw [e3 j hj]; simp [hj]
    · rw [List.getElem?_eq_none (by omega), List.getElem?_eq_none (by simp; omega)]
  obtain ⟨n', e4⟩ := db3 x days false false 0 (by omega) (by rw [e2]; omega) (by rw [hdays]; intro v hv; simp at hv; obtain ⟨j, _, rfl⟩ := hv; omega)
  unfold FleetdriverBreaks
  simp only [e1, Option.bind_some, bnd_eq, e4, Bool.false_or]
  rw [back_pairs]
  have ha : (d.any fun a => ([] : List Int).any fun b => g3 x (sh l a) (sh l b)) = false := by simp
  rw [ha, Bool.false_or]
  congr 2
  · rw [Bool.eq_iff_iff, two_pairs l hl d h, hdays]
    simp only [List.any_eq_true, List.mem_map, List.mem_range]
    constructor
    · rintro ⟨v, ⟨j, hj, rfl⟩, hv⟩; exact ⟨j, hj, by have := of_decide_eq_true hv; omega⟩
    · rintro ⟨j, hj, hc⟩; exact ⟨_, ⟨j, hj, rfl⟩, decide_eq_true (by omega)⟩
  · congr 2
    rw [hdays, dayB, List.map_map]
    congr 1
    funext j
    simp

/-! the reference's way -/
def enc (a b c : Bool) : Int := if a then 2 else if b then 3 else if c then 4 else 0
theorem w2 (a b c : Bool) : Fishref2later_1_v1 2 (enc a b c) = enc true b c := by cases a <;> cases b <;> cases c <;> rfl
theorem w3 (a b c : Bool) : Fishref2later_1_v1 3 (enc a b c) = enc a true c := by cases a <;> cases b <;> cases c <;> rfl
theorem w4 (a b c : Bool) : Fishref2later_1_v1 4 (enc a b c) = enc a b true := by cases a <;> cases b <;> cases c <;> rfl

theorem la3 (a : Int) (ha : 0 ≤ a ∧ a < l.length) : ∀ (r : List Int) (p q c : Bool), (∀ i ∈ r, 0 ≤ i ∧ i < l.length) →
    Fishref2later.loop3 l x a r (enc p q c) = some (enc (p || r.any (fun b => same (sh l a) (sh l b))) (q || r.any (fun b => r3 x (sh l a) (sh l b))) c)
  | [], p, q, c, _ => by simp [Fishref2later.loop3]
  | b :: r, p, q, c, h => by
    have hb := h b (by simp)
    have hr := fun p q => la3 a ha r p q c (fun i hi => h i (by simp [hi]))
    simp only [Fishref2later.loop3, gx_sh ha, gx_sh hb, Option.bind_some, bnd_eq, w2, w3]
    have es : ((sh l a).Day == (sh l b).Day) = same (sh l a) (sh l b) := rfl
    have er : decide ((mx (w64 ((Fishref2begins (sh l b)) - (Fishref2ends (sh l a)))) (w64 ((Fishref2begins (sh l a)) - (Fishref2ends (sh l b))))) < x.Rest) = r3 x (sh l a) (sh l b) := rfl
    rw [es, er]
    simp only [List.any_cons]
    cases h1 : same (sh l a) (sh l b) <;> cases h2 : r3 x (sh l a) (sh l b) <;> simp [hr]

theorem la2 (d : List Int) (hl : ∀ s ∈ l, Ok s) (h : ∀ i ∈ d, 0 ≤ i ∧ i < l.length) : ∀ (r pre : List Int) (k : Nat) (days : List Bool) (p q c : Bool), d = pre ++ r → k = pre.length → days.length = 8 →
    (∀ j, j < 7 → days[j]? = some (decide (cnt l pre j > 0))) → days[7]? = some false →
    ∃ days', Fishref2later.loop2 l x d r k days (enc p q c) = some (days', enc (p || pairs (fun a b => same (sh l a) (sh l b)) r) (q || pairs (fun a b => r3 x (sh l a) (sh l b)) r) c) ∧ days'.length = 8 ∧
      (∀ j, j < 7 → days'[j]? = some (decide (cnt l d j > 0))) ∧ days'[7]? = some false
  | [], pre, k, days, p, q, c, hp, _, h8, hc, hz => ⟨days, by simp [Fishref2later.loop2, pairs], h8, by rw [hp]; simpa using hc, hz⟩
  | a :: r, pre, k, days, p, q, c, hp, hk, h8, hc, hz => by
    have ha := h a (by rw [hp]; simp)
    have hok := sh_ok hl ha
    have h1 := hok.d0; have h2 := hok.d1
    have hix : ix days (sh l a).Day = some () := by unfold ix; rw [if_pos ⟨h1, by omega⟩]
    have hsx : sx days (sh l a).Day true = some (days.set (sh l a).Day.toNat true) := by unfold sx; rw [if_pos ⟨h1, by omega⟩]
    have hcut : cutl d ((k + 1 : Nat) : Int) (d.length : Int) = some r := by
      unfold cutl
      have hlen : d.length = pre.length + 1 + r.length := by rw [hp]; simp; omega
      rw [if_pos ⟨by omega, by omega, by omega⟩]
      simp only [Int.toNat_natCast, List.take_length]
      rw [hp, hk]
      simp
    simp only [Fishref2later.loop2, gx_sh ha, Option.bind_some, hix, hsx, hcut]
    rw [la3 l x a ha r p q c (fun i hi => h i (by rw [hp]; simp [hi]))]
    simp only [Option.bind_some]
    have hcnt : ∀ j, cnt l (pre ++ [a]) j = cnt l pre j + if (sh l a).Day = (j : Int) then 1 else 0 := by
      intro j
      unfold cnt
      rw [List.filter_append, List.length_append]
      by_cases hh : (sh l a).Day = (j : Int) <;> simp [hh]
    obtain ⟨days', e1, e2, e3, e4⟩ := la2 d hl h r (pre ++ [a]) (k + 1) (days.set (sh l a).Day.toNat true) (p || r.any (fun b => same (sh l a) (sh l b))) (q || r.any (fun b => r3 x (sh l a) (sh l b))) c
      (by rw [hp]; simp) (by simp [hk]) (by simpa using h8) (by
        intro j hj7
        rw [hcnt, List.getElem?_set]
        by_cases hh : (sh l a).Day.toNat = j
        · have : (sh l a).Day = (j : Int) := by omega
          rw [if_pos hh, if_pos (by omega), if_pos this]; simp
        · have : ¬ (sh l a).Day = (j : Int) := by omega
          rw [if_neg hh, if_neg this, hc j hj7]; rfl) (by
        rw [List.getElem?_set, if_neg (by omega)]; exact hz)
    refine ⟨days', ?_, e2, e3, e4⟩
    rw [e1, pairs, pairs, Bool.or_assoc, Bool.or_assoc]

theorem la4 (hx : x.Row ≥ 1) (days : List Bool) : ∀ (bs : List Bool) (k : Nat) (n : Int) (p q c : Bool), days.drop k = bs → 0 ≤ n → n + bs.length ≤ 9223372036854775807 →
    ∃ n', Fishref2later.loop4 x days bs.length k n (enc p q c) = some (n', enc p q (c || runs x bs n))
  | [], k, n, p, q, c, _, _, _ => ⟨n, by simp [Fishref2later.loop4, runs]⟩
  | b :: bs, k, n, p, q, c, hd, h0, hn => by
    obtain ⟨d1, d2, d3⟩ := drop_cons hd
    simp only [List.length_cons] at hn ⊢
    simp only [Fishref2later.loop4, gx_nat, d2, Option.bind_some, bnd_eq]
    cases b with
    | false =>
      simp only [Bool.not_false, if_true]
      have : ¬ ((0 : Int) > x.Row) := by omega
      simp only [this, decide_false, Bool.false_eq_true, if_false]
      obtain ⟨n', e⟩ := la4 hx days bs (k + 1) 0 p q c d3 (by omega) (by omega)
      exact ⟨n', by rw [e]; simp [runs]⟩
    | true =>
      have hw : w64 (n + 1) = n + 1 := w64_id (by omega)
      simp only [Bool.not_true, Bool.false_eq_true, if_false, hw]
      by_cases hr : n + 1 > x.Row
      · simp only [hr, decide_true, if_true, w4]
        obtain ⟨n', e⟩ := la4 hx days bs (k + 1) (n + 1) p q true d3 (by omega) (by omega)
        exact ⟨n', by rw [e]; simp [runs, hr]⟩
      · simp only [hr, decide_false, Bool.false_eq_true, if_false]
        obtain ⟨n', e⟩ := la4 hx days bs (k + 1) (n + 1) p q c d3 (by omega) (by omega)
        exact ⟨n', by rw [e]; simp [runs, hr]⟩

theorem runs_snoc (hx : x.Row ≥ 1) : ∀ (bs : List Bool) (n : Int), runs x (bs ++ [false]) n = runs x bs n
  | [], n => by simp [runs]
  | b :: bs, n => by simp only [List.cons_append, runs, runs_snoc hx bs]

/-- one driver -/
theorem driver (hx : x.Row ≥ 1) (d : List Int) (hl : ∀ s ∈ l, Ok s) (h : ∀ i ∈ d, 0 ≤ i ∧ i < l.length) (ds : List (List Int)) (p q c : Bool) :
    Fishref2later.loop1 l x (d :: ds) (enc p q c) = Fishref2later.loop1 l x ds (enc (p || pairs (fun a b => same (sh l a) (sh l b)) d) (q || pairs (fun a b => r3 x (sh l a) (sh l b)) d) (c || runs x (dayB l d) 0)) := by
  have hm : mks 8 (false : Bool) = some (List.replicate 8 false) := rfl
  obtain ⟨days, e1, e2, e3, e4⟩ := la2 l x d hl h d [] 0 (List.replicate 8 false) p q c rfl rfl rfl (by
    intro j hj; rw [List.getElem?_replicate, if_pos (by omega)]; simp [cnt]) rfl
  have hdays : days = dayB l d ++ [false] := by
    apply List.ext_getElem?
    intro j
    rcases Nat.lt_or_ge j 7 with hj | hj
    · rw [e3 j hj, List.getElem?_append_left (by simp [dayB]; omega)]; simp [dayB, hj]
    · rcases Nat.eq_or_lt_of_le hj with rfl | hj'
      · rw [e4]; simp [dayB]
      · rw [List.getElem?_eq_none (by omega), List.getElem?_eq_none (by simp [dayB]; omega)]
  obtain ⟨n', e5⟩ := la4 x hx days days 0 0 (p || pairs (fun a b => same (sh l a) (sh l b)) d) (q || pairs (fun a b => r3 x (sh l a) (sh l b)) d) c rfl (by omega) (by rw [e2]; omega)
  rw [e2] at e5
  rw [Fishref2later.loop1, hm]
  simp only [Option.bind_some, e1, List.length_replicate, e5]
  rw [hdays, runs_snoc x hx]

/-! both -/
theorem or3 (p q c a b e : Bool) : (if p then (if q then (if c then (true, true, true) else (true, true, e)) else (if c then (true, b, true) else (true, b, e))) else (if q then (if c then (a, true, true) else (a, true, e)) else (if c then (a, b, true) else (a, b, e))) : Bool × Bool × Bool) = (p || a, q || b, c || e) := by
  cases p <;> cases q <;> cases c <;> simp

def T (ds : List (List Int)) : Bool := ds.any fun d => pairs (fun a b => same (sh l a) (sh l b)) d
def G (ds : List (List Int)) : Bool := ds.any fun d => pairs (fun b a => g3 x (sh l a) (sh l b)) d
def R3 (ds : List (List Int)) : Bool := ds.any fun d => pairs (fun a b => r3 x (sh l a) (sh l b)) d
def F (ds : List (List Int)) : Bool := ds.any fun d => runs x (dayB l d) 0

theorem later_eq (hx : x.Row ≥ 1) (hl : ∀ s ∈ l, Ok s) : ∀ (ds : List (List Int)) (p q c : Bool), (∀ d ∈ ds, ∀ i ∈ d, 0 ≤ i ∧ i < l.length) →
    Fishref2later.loop1 l x ds (enc p q c) = some (enc (p || T l ds) (q || R3 l x ds) (c || F l x ds))
  | [], p, q, c, _ => by simp [Fishref2later.loop1, T, R3, F]
  | d :: ds, p, q, c, h => by
    rw [driver l x hx d hl (h d (by simp)), later_eq hx hl ds _ _ _ (fun d hd => h d (by simp [hd]))]
    simp only [T, R3, F, List.any_cons, Bool.or_assoc]

theorem cnts (ds : List Int) : ∀ (m : List Int), m.length = l.length → (∀ i ∈ ds, 0 ≤ i ∧ i < l.length) → ∃ m', FleetjudgeRoster.loop2 ds m = some m' ∧ Fishref2RosterCode.loop2 ds m = some m' ∧ m'.length = l.length := by
  induction ds with
  | nil => intro m hm _; exact ⟨m, rfl, rfl, hm⟩
  | cons i ds ih =>
    intro m hm h
    have hi := h i (by simp)
    have hg : gx m i = some (m[i.toNat]'(by omega)) := by unfold gx; rw [if_pos hi.1]; exact List.getElem?_eq_getElem (by omega)
    have hix : ix m i = some () := by unfold ix; rw [if_pos ⟨hi.1, by omega⟩]
    have hsx : ∀ v, sx m i v = some (m.set i.toNat v) := by intro v; unfold sx; rw [if_pos ⟨hi.1, by omega⟩]
    simp only [FleetjudgeRoster.loop2, Fishref2RosterCode.loop2, hg, hix, hsx, Option.bind_some]
    exact ih _ (by simpa using hm) (fun j hj => h j (by simp [hj]))

theorem judge_loop (hl : ∀ s ∈ l, Ok s) : ∀ (ds : List (List Int)) (p q c : Bool) (m : List Int), (∀ d ∈ ds, d.length ≤ 9223372036854775807) → (∀ d ∈ ds, ∀ i ∈ d, 0 ≤ i ∧ i < l.length) → m.length = l.length →
    ∃ m', FleetjudgeRoster.loop1 l x ds p q c m = some (p || T l ds, q || G l x ds, c || F l x ds, m') ∧ Fishref2RosterCode.loop1 ds m = some m' ∧ m'.length = l.length
  | [], p, q, c, m, _, _, hm => ⟨m, by simp [FleetjudgeRoster.loop1, T, G, F], rfl, hm⟩
  | d :: ds, p, q, c, m, hs, h, hm => by
    obtain ⟨m1, e1, e2, e3⟩ := cnts l d m hm (h d (by simp))
    simp only [FleetjudgeRoster.loop1, Fishref2RosterCode.loop1, e1, e2, Option.bind_some, breaks l x d (hs d (by simp)) hl (h d (by simp)), bnd_eq, or3]
    obtain ⟨m', e4, e5, e6⟩ := judge_loop hl ds (p || pairs (fun a b => same (sh l a) (sh l b)) d) (q || pairs (fun b a => g3 x (sh l a) (sh l b)) d) (c || runs x (dayB l d) 0) m1 (fun d hd => hs d (by simp [hd])) (fun d hd => h d (by simp [hd])) e3
    refine ⟨m', ?_, e5, e6⟩
    rw [e4]
    simp only [T, G, F, List.any_cons, Bool.or_assoc]

theorem G_R3 (hl : ∀ s ∈ l, Ok s) : ∀ (ds : List (List Int)), (∀ d ∈ ds, ∀ i ∈ d, 0 ≤ i ∧ i < l.length) → T l ds = false → G l x ds = R3 l x ds
  | [], _, _ => rfl
  | d :: ds, h, ht => by
    simp only [T, List.any_cons, Bool.or_eq_false_iff] at ht
    have ih := G_R3 hl ds (fun d hd => h d (by simp [hd])) ht.2
    simp only [G, R3, List.any_cons] at ih ⊢
    rw [ih]
    congr 1
    refine pairs_apart _ _ _ d ht.1 ?_
    intro a ha b hb hs
    exact g3_r3 x (sh_ok hl (h d (by simp) b hb)) (sh_ok hl (h d (by simp) a ha)) hs

theorem ones (m : List Int) : ∀ (r : List Int) (k j : Nat), m.drop k = r →
    (SlicesIndexFuncLint_v1.loop1 r j = .next () ∧ Fishref2RosterCode.loop3 m r.length k = some (.next ())) ∨ ((∃ i : Nat, SlicesIndexFuncLint_v1.loop1 r j = .ret (i : Int)) ∧ Fishref2RosterCode.loop3 m r.length k = some (.ret 1))
  | [], k, j, _ => .inl ⟨rfl, rfl⟩
  | v :: r, k, j, hd => by
    obtain ⟨d1, d2, d3⟩ := drop_cons hd
    simp only [SlicesIndexFuncLint_v1.loop1, FleetjudgeRoster_1, List.length_cons, Fishref2RosterCode.loop3, gx_nat, d2, Option.bind_some]
    by_cases hv : v = 1
    · subst hv
      simp only [bne_self_eq_false, Bool.false_eq_true, if_false]
      exact ones m r (k + 1) (j + 1) d3
    · have hb : (v != 1) = true := by simpa using hv
      simp only [hb, if_true]
      exact .inr ⟨⟨j, rfl⟩, trivial⟩

theorem code_eq (hx : x.Row ≥ 1) (hl : ∀ s ∈ l, Ok s) (hn : l.length ≤ 8) (ds : List (List Int)) (hs : ∀ d ∈ ds, d.length ≤ 9223372036854775807) (h : ∀ d ∈ ds, ∀ i ∈ d, 0 ≤ i ∧ i < l.length) :
    ∃ c, FleetjudgeRoster l ds x = some c ∧ Fishref2RosterCode l ds x = some c := by
  have hm : mks (l.length : Int) (0 : Int) = some (List.replicate l.length 0) := by unfold mks; rw [if_pos ⟨by omega, by omega⟩]; simp
  obtain ⟨m', e1, e2, e3⟩ := judge_loop l x hl ds false false false (List.replicate l.length 0) hs h (by simp)
  have el : Fishref2later l ds x = some (enc (T l ds) (R3 l x ds) (F l x ds)) := by
    unfold Fishref2later
    have := later_eq l x hx hl ds false false false h
    have e0 : enc false false false = 0 := rfl
    rw [e0] at this
    simp [this]
  unfold FleetjudgeRoster Fishref2RosterCode
  simp only [hm, Option.bind_some, e1, e2, Bool.false_or, List.length_replicate]
  rw [← e3]
  rcases ones m' m' 0 0 rfl with ⟨f1, f2⟩ | ⟨⟨i, f1⟩, f2⟩
  · have f3 : SlicesContainsFuncLint_v1 m' = false := by unfold SlicesContainsFuncLint_v1 SlicesIndexFuncLint_v1; rw [f1]; rfl
    simp only [f2, f3, Option.bind_some, el, Bool.false_eq_true, if_false]
    cases ht : T l ds with
    | true => exact ⟨2, by simp, by simp [enc]⟩
    | false =>
      rw [G_R3 l x hl ds h ht]
      cases R3 l x ds with
      | true => exact ⟨3, by simp, by simp [enc]⟩
      | false =>
        cases F l x ds with
        | true => exact ⟨4, by simp, by simp [enc]⟩
        | false => exact ⟨0, by simp, by simp [enc]⟩
  · have f3 : SlicesContainsFuncLint_v1 m' = true := by unfold SlicesContainsFuncLint_v1 SlicesIndexFuncLint_v1; rw [f1]; simp [bnd_eq]
    simp only [f2, f3, Option.bind_some, if_true]
    exact ⟨1, rfl, rfl⟩
end

theorem load_eq (l : List FleetShift) : ∀ (d : List Int) (n : Int), (∀ i ∈ d, 0 ≤ i ∧ i < l.length) → ∃ n', Fleetload.loop1 l d n = some n' ∧ Fishref2LoadsOf.loop2 l d n = some n'
  | [], n, _ => ⟨n, rfl, rfl⟩
  | i :: d, n, h => by
    simp only [Fleetload.loop1, Fishref2LoadsOf.loop2, gx_sh (h i (by simp)), Option.bind_some]
    exact load_eq l d _ (fun j hj => h j (by simp [hj]))

theorem loads_eq (l : List FleetShift) : ∀ (ds : List (List Int)) (o : List Int), o.length + ds.length < 4294967296 → (∀ d ∈ ds, ∀ i ∈ d, 0 ≤ i ∧ i < l.length) → ∃ o', FleetLoads.loop1 l ds o = some o' ∧ Fishref2LoadsOf.loop1 l ds o = some o'
  | [], o, _, _ => ⟨o, rfl, rfl⟩
  | d :: ds, o, ho, h => by
    simp only [List.length_cons] at ho
    obtain ⟨n, e1, e2⟩ := load_eq l d 0 (h d (by simp))
    have ha : apd o [n] = some (o ++ [n]) := by unfold apd; rw [if_pos (by simp; omega)]
    simp only [FleetLoads.loop1, Fishref2LoadsOf.loop1, Fleetload, e1, e2, Option.bind_some, ha]
    exact loads_eq l ds (o ++ [n]) (by simp; omega) (fun d hd => h d (by simp [hd]))

theorem equal_refl (l : List Int) : SlicesEqualLint l l = some true := by
  have key : ∀ (r : List Int) (k : Nat), l.drop k = r → SlicesEqualLint.loop1 l r k = some (.next ()) := by
    intro r
    induction r with
    | nil => intro k _; rfl
    | cons v r ih =>
      intro k hd
      obtain ⟨d1, d2, d3⟩ := drop_cons hd
      simp only [SlicesEqualLint.loop1, gx_nat, d2, Option.bind_some, bne_self_eq_false, Bool.false_eq_true, if_false]
      exact ih (k + 1) d3
  unfold SlicesEqualLint
  simp [key l 0 rfl]

theorem crews_true : Fishlaw2crews = some true := by decide +kernel

theorem limits_ok (x : FleetLimits) (h : FleetCheckLimits x = 0) : x.Row ≥ 1 := by
  unfold FleetCheckLimits at h
  simp only [bnd_eq] at h
  rcases h1 : FleetCheckLimits.loop1 [x.Change, x.Long, x.Work, x.After, x.Break, x.Rest] with c | _
  · rw [h1] at h
    exfalso
    have : ∀ r c, FleetCheckLimits.loop1 r = .ret c → c ≠ 0 := by
      intro r
      induction r with
      | nil => intro c h; simp [FleetCheckLimits.loop1] at h
      | cons y r ih =>
        intro c h
        simp only [FleetCheckLimits.loop1] at h
        cases hb : Fleetwithin y 0 86400 with
        | true => simp [hb] at h; exact ih c h
        | false => simp [hb] at h; subst h; decide
    exact this _ c h1 h
  · rw [h1] at h
    simp only [within_iff] at h
    by_cases hr : 1 ≤ x.Row ∧ x.Row ≤ 7
    · exact hr.1
    · simp [hr] at h

theorem FleetShifts_law (l : List FleetShift) (ds : List (List Int)) (x : FleetLimits) (hl : l.length ≤ 9223372036854775807) (_ : ds.length ≤ 9223372036854775807) (hs : ∀ d ∈ ds, d.length ≤ 9223372036854775807) : Fishlaw2FleetShifts l ds x = some true := by
  have hJ : ∃ r, FleetJudgeRoster l ds x = some r ∧ Fishref2JudgeRosterOf l ds x = some r := by
    unfold FleetJudgeRoster Fishref2JudgeRosterOf
    rw [shifts_ref, limits_ref, roster_ref l hl]
    by_cases h1 : FleetCheckShifts l = 0
    · by_cases h2 : FleetCheckLimits x = 0
      · by_cases h3 : FleetcheckRoster l ds = 0
        · obtain ⟨a1, a2⟩ := check_ok l h1
          obtain ⟨b1, b2⟩ := roster_ok l hl ds h3
          obtain ⟨c, e1, e2⟩ := code_eq l x (limits_ok x h2) a2 a1 ds hs b2
          exact ⟨(c, 0), by simp [h1, h2, h3, e1], by simp [h1, h2, h3, e2]⟩
        · have hb : (FleetcheckRoster l ds != 0) = true := by simpa using h3
          exact ⟨(0, FleetcheckRoster l ds), by simp only [h1, h2, hb, bne_self_eq_false, Bool.false_eq_true, if_false, if_true], by simp only [h1, h2, hb, bne_self_eq_false, Bool.false_eq_true, if_false, if_true]⟩
      · have hb : (FleetCheckLimits x != 0) = true := by simpa using h2
        exact ⟨(0, FleetCheckLimits x), by simp only [h1, hb, bne_self_eq_false, Bool.false_eq_true, if_false, if_true], by simp only [h1, hb, bne_self_eq_false, Bool.false_eq_true, if_false, if_true]⟩
    · have hb : (FleetCheckShifts l != 0) = true := by simpa using h1
      exact ⟨(0, FleetCheckShifts l), by simp only [hb, if_true], by simp only [hb, if_true]⟩
  obtain ⟨r, e1, e2⟩ := hJ
  unfold Fishlaw2FleetShifts
  simp only [e1, e2, crews_true, Option.bind_some, Bool.not_true, Bool.false_eq_true, if_false, shifts_ref, roster_ref l hl, bne_self_eq_false]
  unfold FleetLoads
  by_cases h1 : FleetCheckShifts l = 0
  · by_cases h3 : FleetcheckRoster l ds = 0
    · obtain ⟨b1, b2⟩ := roster_ok l hl ds h3
      obtain ⟨o, f1, f2⟩ := loads_eq l ds [] (by simp; omega) b2
      simp [h1, h3, f1, f2, Fishref2LoadsOf, equal_refl, bnd_eq]
    · have hb : (FleetcheckRoster l ds != 0) = true := by simpa using h3
      simp [h1, h3, bnd_eq]
  · simp [h1, bnd_eq]

end Go.Fp
