/- FleetRuns: the mirror of the law is true of all tasks and turns (within the reach of a process's addresses). -/
import Derived.Test.YtheolnmeelgmeaaFleetRunsM
import Derived.Test.YtheolnmeelgmeaaFpPlain
import Derived.Test.YtheolnmeelgmeaaFpReach
import Derived.Test.YtheolnmeelgmeaaFpWide
import Derived.KernelRfl
namespace Go.Fp

theorem within_ref : Fishref2within = Fleetwithin := rfl
theorem tasks_loop : ∀ l, Fishref2TasksFault.loop1 l = FleetCheckTasks.loop1 l
  | [] => rfl
  | x :: r => by simp only [Fishref2TasksFault.loop1, FleetCheckTasks.loop1, tasks_loop r]; rfl
theorem tasks_ref (l : List FleetTask) : Fishref2TasksFault l = FleetCheckTasks l := by
  unfold Fishref2TasksFault FleetCheckTasks; rw [tasks_loop]
theorem within_len {n : Int} {m : Nat} (hm : m ≤ 9223372036854775807) : (!Fleetwithin n 0 (w64 ((m : Int) - 1))) = (if decide (n < 0) then true else decide (n ≥ (m : Int))) := by
  rw [w64_id (by omega)]
  unfold Fleetwithin bnd
  by_cases h : n < 0
  · have h1 : ¬ n ≥ 0 := by omega
    simp [h, h1]
  · have h1 : n ≥ 0 := by omega
    have h2 : decide (n ≤ (m : Int) - 1) = !decide (n ≥ (m : Int)) := by
      by_cases hh : n ≥ (m : Int) <;> simp [hh] <;> omega
    simp [h, h1, h2]
theorem equal_refl (l : List Int) : SlicesEqualLint l l = some true := by
  have key : ∀ (r : List Int) (k : Nat), l.drop k = r → SlicesEqualLint.loop1 l r k = some (.next ()) := by
    intro r
    induction r with
    | nil => intro k _; rfl
    | cons v r ih =>
      intro k hd
      obtain ⟨d1, d2, d3⟩ := drop_cons hd
      simp only [SlicesEqualLint.loop1, gx_nat, d2, Option.bind_some, bne_self_eq_false, Bool.false_eq_true, if_false]
      exact ih (k + 1) d3
  unfold SlicesEqualLint
  simp [key l 0 rfl]
theorem equalf_refl (l : List (List Int)) : SlicesEqualFuncLLint_v1 l l = some true := by
  have key : ∀ (r : List (List Int)) (k : Nat), l.drop k = r → SlicesEqualFuncLLint_v1.loop1 l r k = some (.next ()) := by
    intro r
    induction r with
    | nil => intro k _; rfl
    | cons v r ih =>
      intro k hd
      obtain ⟨d1, d2, d3⟩ := drop_cons hd
      simp only [SlicesEqualFuncLLint_v1.loop1, gx_nat, d2, Option.bind_some, equal_refl, Bool.not_true, Bool.false_eq_true, if_false]
      exact ih (k + 1) d3
  unfold SlicesEqualFuncLLint_v1
  simp [key l 0 rfl]
theorem sets_true (n : Nat) : Fishlaw2sets (n + 60) = some true := by kernel_rfl

theorem runs2 (l : List FleetTask) (hl : l.length ≤ 9223372036854775807) : ∀ (r : List Int) (n : Int) (o : List Int), (o.length + r.length) * 8 ≤ 140737488355328 →
    FleetRuns.loop2 l r n o = Fishref2SumsOf.loop2 l r n o ∧ FleetRuns.loop2 l r n o ≠ none
  | [], n, o, _ => ⟨rfl, by simp [FleetRuns.loop2]⟩
  | i :: r, n, o, h => by
    simp only [List.length_cons] at h
    simp only [FleetRuns.loop2, Fishref2SumsOf.loop2, within_len hl, bnd_eq]
    by_cases h1 : i < 0
    · simp [h1]
    by_cases h2 : i ≥ (l.length : Int)
    · simp [h1, h2]
    obtain ⟨t, ht, _⟩ := gx_in (l := l) (i := i) (by omega) (by omega)
    have ha : ∀ v, apw 8 o [v] = some (o ++ [v]) := fun v => apw_in (by simp only [List.length_cons, List.length_nil]; omega)
    simp only [h1, h2, decide_false, Bool.false_eq_true, if_false, ht, Option.bind_some, ha]
    exact runs2 l hl r _ _ (by simp; omega)

theorem runs1 (l : List FleetTask) (hl : l.length ≤ 9223372036854775807) : ∀ (ts o : List (List Int)), (o.length + ts.length) * 24 ≤ 140737488355328 → (∀ t ∈ ts, t.length * 8 ≤ 140737488355328) →
    FleetRuns.loop1 l ts o = Fishref2SumsOf.loop1 l ts o ∧ FleetRuns.loop1 l ts o ≠ none
  | [], o, _, _ => ⟨rfl, by simp [FleetRuns.loop1]⟩
  | t :: ts, o, h, ht => by
    simp only [List.length_cons] at h
    obtain ⟨e1, e2⟩ := runs2 l hl t 0 [] (by simpa using ht t (by simp))
    simp only [FleetRuns.loop1, Fishref2SumsOf.loop1]
    rw [← e1]
    rcases h3 : FleetRuns.loop2 l t 0 [] with _ | q
    · exact absurd h3 e2
    · rcases q with r | ⟨n, s⟩
      · simp
      · have ha : apw 24 o [s] = some (o ++ [s]) := apw_in (by simp only [List.length_cons, List.length_nil]; omega)
        simp only [Option.bind_some, ha]
        exact runs1 l hl ts _ (by simp; omega) (fun t h => ht t (by simp [h]))

theorem FleetRuns_law (l : List FleetTask) (x : List (List Int)) (hl : l.length ≤ 9223372036854775807) (hx : x.length * 24 ≤ reachBytes ∧ ∀ t ∈ x, t.length * 8 ≤ reachBytes ∧ ∀ y ∈ t, True) : ∃ fu, Fishlaw2FleetRuns fu l x = some true := by
  refine ⟨0 + 60, ?_⟩
  have hr : reachBytes = 140737488351232 := rfl
  have hx1 : x.length * 24 ≤ 140737488355328 := by omega
  have hx2 : ∀ t ∈ x, t.length * 8 ≤ 140737488355328 := fun t ht => by have := (hx.2 t ht).1; omega
  unfold Fishlaw2FleetRuns FleetRuns
  rw [sets_true, tasks_ref]
  by_cases h1 : FleetCheckTasks l = 0
  · obtain ⟨e1, e2⟩ := runs1 l hl x [] (by simpa using hx1) hx2
    unfold Fishref2SumsOf
    rw [← e1]
    rcases h3 : FleetRuns.loop1 l x [] with _ | q
    · exact absurd h3 e2
    · rcases q with ⟨r1, r2⟩ | s
      · simp [h1, Fishlaw2lists, equalf_refl]
      · simp [h1, Fishlaw2lists, equalf_refl]
  · have hb : (FleetCheckTasks l != 0) = true := by simpa using h1
    have hb2 : (FleetCheckTasks l == 0) = false := by simpa using h1
    simp [h1, Fishlaw2lists, equalf_refl]

end Go.Fp
