/- FleetLegals: the mirror of the law is true of all tasks, turning times and turns. -/
import Derived.Test.YtpoooohaoekbaaaFleetLegalsM
import Derived.Test.YtpoooohaoekbaaaFpPlain
import Derived.KernelRfl
namespace Go.Fp

theorem within_ref : Fishref2within = Fleetwithin := rfl
theorem tasks_loop : ∀ l, Fishref2TasksFault.loop1 l = FleetCheckTasks.loop1 l
  | [] => rfl
  | x :: r => by simp only [Fishref2TasksFault.loop1, FleetCheckTasks.loop1, tasks_loop r]; rfl
theorem tasks_ref (l : List FleetTask) : Fishref2TasksFault l = FleetCheckTasks l := by
  unfold Fishref2TasksFault FleetCheckTasks; rw [tasks_loop]
theorem turn_ref (l : List FleetTask) (t : Int) : Fishref2TurnFault l t = FleetcheckTurn l t := by
  unfold Fishref2TurnFault FleetcheckTurn; rw [tasks_ref]; rfl
theorem within_len {n : Int} {m : Nat} (hm : m ≤ 9223372036854775807) : (!Fleetwithin n 0 (w64 ((m : Int) - 1))) = (if decide (n < 0) then true else decide (n ≥ (m : Int))) := by
  rw [w64_id (by omega)]
  unfold Fleetwithin bnd
  by_cases h : n < 0
  · have h1 : ¬ n ≥ 0 := by omega
    simp [h, h1]
  · have h1 : n ≥ 0 := by omega
    have h2 : decide (n ≤ (m : Int) - 1) = !decide (n ≥ (m : Int)) := by
      by_cases hh : n ≥ (m : Int) <;> simp [hh] <;> omega
    simp [h, h1, h2]
theorem tasks_len (l : List FleetTask) (h : FleetCheckTasks l = 0) : l.length ≤ 40 := by
  unfold FleetCheckTasks at h
  by_cases h1 : ((l.length : Int) > 40)
  · simp [h1] at h
  · omega
theorem check_len (l : List FleetTask) (t : Int) (h : FleetcheckTurn l t = 0) : l.length ≤ 40 := by
  unfold FleetcheckTurn at h
  by_cases h1 : FleetCheckTasks l = 0
  · exact tasks_len l h1
  · have h2 : (FleetCheckTasks l != 0) = true := by simpa using h1
    rw [if_pos h2] at h; exact absurd h h1
theorem sets_true (n : Nat) : Fishlaw2sets (n + 60) = some true := by kernel_rfl

theorem follows_not (a b : FleetTask) (t : Int) : (!(Fleetfollows a b t)) = (if (a.To != b.From) then true else decide ((w64 (a.Arr + t)) > b.Dep)) := by
  unfold Fleetfollows bnd
  by_cases h : b.From = a.To
  · have h1 : (b.From == a.To) = true := by simpa using h
    have h2 : (a.To != b.From) = false := by simp [h]
    simp only [h1, h2, if_true, Bool.false_eq_true, if_false]
    by_cases h3 : b.Dep ≥ w64 (a.Arr + t) <;> simp [h3] <;> omega
  · have h1 : (b.From == a.To) = false := by simpa using h
    have h2 : (a.To != b.From) = true := by simp; exact fun e => h e.symm
    simp [h1, h2]

theorem inner (l : List FleetTask) (t : Int) (x : List Int) (hl : l.length ≤ 9223372036854775807) (hx : x.length ≤ 9223372036854775807) :
    ∀ (r : List Int) (k : Nat) (m : List Int), x.drop k = r → m.length = l.length → (∀ i ∈ x.take k, 0 ≤ i ∧ i < l.length) →
    (∃ c, FleetLegal.loop2 l t x r k m = some (.ret c) ∧ Fishref2LegalFault.loop2 l t x r k m = some (.ret c)) ∨
    ∃ m', FleetLegal.loop2 l t x r k m = some (.next m') ∧ Fishref2LegalFault.loop2 l t x r k m = some (.next m') ∧ m'.length = l.length
  | [], k, m, _, hm, _ => .inr ⟨m, rfl, rfl, hm⟩
  | i :: r, k, m, hd, hm, hall => by
    obtain ⟨d1, d2, d3⟩ := drop_cons hd
    have hc : cutl x 0 ((k : Nat) : Int) = some ((x.take k).drop 0) := by simp [cutl]; omega
    simp only [FleetLegal.loop2, Fishref2LegalFault.loop2, within_len hl, hc, Option.bind_some, bnd_eq]
    by_cases h1 : i < 0
    · left; exact ⟨2, by simp [h1], by simp [h1]⟩
    by_cases h2 : i ≥ (l.length : Int)
    · left; exact ⟨2, by simp [h1, h2], by simp [h1, h2]⟩
    simp only [h1, h2, decide_false, Bool.false_eq_true, if_false]
    cases h3 : SlicesContainsLint (List.drop 0 (List.take k x)) i with
    | true => left; exact ⟨6, by simp, by simp⟩
    | false =>
      simp only [Bool.false_eq_true, if_false]
      have hi : gx l i = some (l[i.toNat]'(by omega)) := by simp [gx]; omega
      have hg : gx m i = some (m[i.toNat]'(by omega)) := by simp [gx]; omega
      have hix : ix m i = some () := by simp [ix]; omega
      have hs : ∀ v, sx m i v = some (m.set i.toNat v) := by intro v; simp [sx]; omega
      have hrest := fun (m' : List Int) (hm' : m'.length = l.length) => inner l t x hl hx r (k + 1) m' d3 hm' (by
        intro j hj
        rw [List.take_succ_eq_append_getElem d1] at hj
        rcases List.mem_append.1 hj with hj | hj
        · exact hall j hj
        · have e : x[k] = i := by rw [List.getElem?_eq_getElem d1] at d2; exact Option.some.inj d2
          rw [e] at hj; simp at hj; subst hj; omega)
      rcases Nat.eq_zero_or_pos k with hk | hk
      · subst hk
        simp only [Int.natCast_zero, gt_iff_lt, Int.lt_irrefl, decide_false, Bool.false_eq_true, if_false, Option.bind_some, hg, hix, hs]
        exact hrest _ (by simp [hm])
      · have hkk : ((k : Nat) : Int) > 0 := by omega
        have hk1 : w64 (((k : Nat) : Int) - 1) = (((k - 1 : Nat) : Nat) : Int) := by rw [w64_id (by omega)]; omega
        have hp : x[k - 1]? = some (x[k - 1]'(by omega)) := List.getElem?_eq_getElem (by omega)
        have hpin := hall (x[k - 1]'(by omega)) (by
          have : (x.take k)[k - 1]? = some (x[k - 1]'(by omega)) := by rw [List.getElem?_take, if_pos (by omega)]; exact hp
          exact List.mem_of_getElem? this)
        have hgp : gx l (x[k - 1]'(by omega)) = some (l[(x[k - 1]'(by omega)).toNat]'(by omega)) := by simp [gx]; omega
        simp only [hkk, decide_true, if_true, hk1, gx_nat, hp, Option.bind_some, hgp, hi, follows_not]
        by_cases h4 : ((l[(x[k - 1]'(by omega)).toNat]'(by omega)).To != (l[i.toNat]'(by omega)).From) = true
        · left; exact ⟨13, by simp [h4], by simp [h4]⟩
        · have h4' : ((l[(x[k - 1]'(by omega)).toNat]'(by omega)).To != (l[i.toNat]'(by omega)).From) = false := by simpa using h4
          simp only [h4', Bool.false_eq_true, if_false, Option.bind_some]
          by_cases h5 : w64 ((l[(x[k - 1]'(by omega)).toNat]'(by omega)).Arr + t) > (l[i.toNat]'(by omega)).Dep
          · left; exact ⟨13, by simp [h5], by simp [h5]⟩
          · simp only [h5, decide_false, Bool.false_eq_true, if_false, Option.bind_some, hg, hix, hs]
            exact hrest _ (by simp [hm])

theorem outer (l : List FleetTask) (t : Int) (hl : l.length ≤ 9223372036854775807) : ∀ (x : List (List Int)) (m : List Int), (∀ y ∈ x, y.length ≤ 9223372036854775807) → m.length = l.length →
    (∃ c, FleetLegal.loop1 l t x m = some (.ret c) ∧ Fishref2LegalFault.loop1 l t x m = some (.ret c)) ∨
    ∃ m', FleetLegal.loop1 l t x m = some (.next m') ∧ Fishref2LegalFault.loop1 l t x m = some (.next m') ∧ m'.length = l.length
  | [], m, _, hm => .inr ⟨m, rfl, rfl, hm⟩
  | y :: x, m, hx, hm => by
    simp only [FleetLegal.loop1, Fishref2LegalFault.loop1]
    rcases inner l t y hl (hx y (by simp)) y 0 m rfl hm (by simp) with ⟨c, h1, h2⟩ | ⟨m', h1, h2, h3⟩
    · left; exact ⟨c, by rw [h1]; rfl, by rw [h2]; rfl⟩
    · rw [h1, h2]
      exact outer l t hl x m' (fun z hz => hx z (by simp [hz])) h3

theorem last (m : List Int) : ∀ (r : List FleetTask) (k : Nat), k + r.length ≤ m.length → FleetLegal.loop3 m r k = Fishref2LegalFault.loop3 m r k ∧ FleetLegal.loop3 m r k ≠ none
  | [], k, _ => ⟨rfl, by simp [FleetLegal.loop3]⟩
  | x :: r, k, h => by
    simp only [List.length_cons] at h
    have hg : gx m ((k : Nat) : Int) = some (m[k]'(by omega)) := by rw [gx_nat]; exact List.getElem?_eq_getElem (by omega)
    obtain ⟨h1, h2⟩ := last m r (k + 1) (by omega)
    simp only [FleetLegal.loop3, Fishref2LegalFault.loop3, hg, Option.bind_some, h1]
    refine ⟨trivial, ?_⟩
    split
    · simp
    · split
      · simp
      · rw [← h1]; exact h2

theorem FleetLegals_law (l : List FleetTask) (t : Int) (x : List (List Int)) (hl : l.length ≤ 9223372036854775807) (_ : -9223372036854775808 ≤ t ∧ t ≤ 9223372036854775807) (_ : x.length ≤ 9223372036854775807) (hx : ∀ y ∈ x, y.length ≤ 9223372036854775807) :
    ∃ fu, Fishlaw2FleetLegals fu l t x = some true := by
  refine ⟨0 + 60, ?_⟩
  unfold Fishlaw2FleetLegals FleetLegal
  rw [sets_true, turn_ref]
  by_cases h1 : FleetcheckTurn l t = 0
  · have h1' : (FleetcheckTurn l t == 0) = true := by simpa using h1
    have h1'' : (FleetcheckTurn l t != 0) = false := by simp [h1]
    have h40 := check_len l t h1
    have hm : mks (l.length : Int) (0 : Int) = some (List.replicate l.length 0) := by simp [mks]; omega
    unfold Fishref2LegalFault
    simp only [h1', h1'', if_true, Bool.false_eq_true, if_false, hm, Option.bind_some]
    rcases outer l t hl x (List.replicate l.length 0) hx (by simp) with ⟨c, h2, h3⟩ | ⟨m', h2, h3, h4⟩
    · simp [h2, h3]
    · obtain ⟨h5, h6⟩ := last m' l 0 (by omega)
      rcases h7 : FleetLegal.loop3 m' l 0 with _ | q
      · exact absurd h7 h6
      · rw [h7] at h5
        rcases q with q | q <;> simp [h2, h3, h7, ← h5]
  · have h1' : (FleetcheckTurn l t == 0) = false := by simpa using h1
    have h1'' : (FleetcheckTurn l t != 0) = true := by simpa using h1
    simp [h1', h1'']

end Go.Fp
