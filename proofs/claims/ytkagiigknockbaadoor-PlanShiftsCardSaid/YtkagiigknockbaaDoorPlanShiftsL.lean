/- PlanShifts: the mirror of the law is true of all days and numbers (within the reach of a process's addresses). -/
import Derived.Test.YtkagiigknockbaaDoorPlanShiftsM
import Derived.Test.YtkagiigknockbaaDoorFpPlain
import Derived.Test.YtkagiigknockbaaDoorFpReach
import Derived.Test.YtkagiigknockbaaDoorFpWide
import Derived.KernelRfl
namespace Go.Fp
theorem equal_refl (l : List Int) : SlicesEqualLint l l = some true := by
  have key : ∀ (r : List Int) (k : Nat), l.drop k = r → SlicesEqualLint.loop1 l r k = some (.next ()) := by
    intro r
    induction r with
    | nil => intro k _; rfl
    | cons v r ih =>
      intro k hd
      obtain ⟨d1, d2, d3⟩ := drop_cons hd
      simp only [SlicesEqualLint.loop1, gx_nat, d2, Option.bind_some, bne_self_eq_false, Bool.false_eq_true, if_false]
      exact ih (k + 1) d3
  unfold SlicesEqualLint
  simp [key l 0 rfl]
theorem equalf_refl (l : List (List Int)) : SlicesEqualFuncLLint_v1 l l = some true := by
  have key : ∀ (r : List (List Int)) (k : Nat), l.drop k = r → SlicesEqualFuncLLint_v1.loop1 l r k = some (.next ()) := by
    intro r
    induction r with
    | nil => intro k _; rfl
    | cons v r ih =>
      intro k hd
      obtain ⟨d1, d2, d3⟩ := drop_cons hd
      simp only [SlicesEqualFuncLLint_v1.loop1, gx_nat, d2, Option.bind_some, equal_refl, Bool.not_true, Bool.false_eq_true, if_false]
      exact ih (k + 1) d3
  unfold SlicesEqualFuncLLint_v1
  simp [key l 0 rfl]
theorem plans_true : Fishlaw2plans = some true := by kernel_rfl
theorem stops_refl (l : List ApiStop) : SlicesEqualLapiStop l l = some true := by
  have key : ∀ (r : List ApiStop) (k : Nat), l.drop k = r → SlicesEqualLapiStop.loop1 l r k = some (.next ()) := by
    intro r
    induction r with
    | nil => intro k _; rfl
    | cons v r ih =>
      intro k hd
      obtain ⟨d1, d2, d3⟩ := drop_cons hd
      simp only [SlicesEqualLapiStop.loop1, gx_nat, d2, Option.bind_some]
      rw [if_neg (by simp)]
      exact ih (k + 1) d3
  unfold SlicesEqualLapiStop
  simp [key l 0 rfl]
theorem train_refl (t : ApiTrain) : Fishref2SameTrain t t = some true := by
  unfold Fishref2SameTrain; simp [stops_refl, equalf_refl]
theorem trains_refl (l : List ApiTrain) : SlicesEqualFuncLapiTrain_v1 l l = some true := by
  have key : ∀ (r : List ApiTrain) (k : Nat), l.drop k = r → SlicesEqualFuncLapiTrain_v1.loop1 l r k = some (.next ()) := by
    intro r
    induction r with
    | nil => intro k _; rfl
    | cons v r ih =>
      intro k hd
      obtain ⟨d1, d2, d3⟩ := drop_cons hd
      simp only [SlicesEqualFuncLapiTrain_v1.loop1, gx_nat, d2, Option.bind_some, train_refl, Bool.not_true, Bool.false_eq_true, if_false]
      exact ih (k + 1) d3
  unfold SlicesEqualFuncLapiTrain_v1
  simp [key l 0 rfl]
theorem day_refl (d : ApiDay) : Fishref2SameDay d d = some true := by
  unfold Fishref2SameDay; simp [trains_refl, equalf_refl]

theorem clone_int {l : List Int} (h : l.length * 8 ≤ 140737488351232) : SlicesCloneLint l = some l := by
  unfold SlicesCloneLint; rw [apw_in (by simpa using h)]; simp
theorem clone_lint {l : List (List Int)} (h : l.length * 24 ≤ 140737488351232) : SlicesCloneLLint l = some l := by
  unfold SlicesCloneLLint; rw [apw_in (by simpa using h)]; simp
theorem clone_stop {l : List ApiStop} (h : l.length * 32 ≤ 140737488351232) : SlicesCloneLapiStop l = some l := by
  unfold SlicesCloneLapiStop; rw [apw_in (by simpa using h)]; simp
theorem clone_train {l : List ApiTrain} (h : l.length * 64 ≤ 140737488351232) : SlicesCloneLapiTrain l = some l := by
  unfold SlicesCloneLapiTrain; rw [apw_in (by simpa using h)]; simp
theorem set_get {α : Type} {l : List α} {k : Nat} (h : k < l.length) : l.set k l[k] = l := by
  apply List.ext_getElem?; intro i
  rw [List.getElem?_set]
  by_cases c : k = i
  · subst c; simp [h]
  · simp [c]
theorem copied_loop {l : List (List Int)} (hl : ∀ x ∈ l, x.length * 8 ≤ 140737488351232) : ∀ (n k : Nat), k + n = l.length → Plancopied.loop1 n k l = some l
  | 0, _, _ => rfl
  | n + 1, k, h => by
    have hk : k < l.length := by omega
    rw [Plancopied.loop1, gx_at hk, Option.bind_some, clone_int (hl _ (List.getElem_mem hk)), Option.bind_some, ix_in (by omega) (by omega), Option.bind_some, sx_in (by omega) (by omega), Option.bind_some, Int.toNat_natCast, set_get hk]
    exact copied_loop hl n (k + 1) (by omega)
def Fine (t : ApiTrain) : Prop := t.Stops.length * 32 ≤ 140737488351232 ∧ t.Legs.length * 24 ≤ 140737488351232 ∧ ∀ x ∈ t.Legs, x.length * 8 ≤ 140737488351232
theorem copied_self {t : ApiTrain} (h : Fine t) : Plancopied t = some t := by
  unfold Plancopied
  rw [clone_stop h.1, Option.bind_some, clone_lint h.2.1, Option.bind_some, copied_loop h.2.2 _ 0 (by omega)]; rfl
theorem own_loop1 {l : List ApiTrain} (hl : ∀ x ∈ l, Fine x) : ∀ (n k : Nat), k + n = l.length → Planown.loop1 n k l = some l
  | 0, _, _ => rfl
  | n + 1, k, h => by
    have hk : k < l.length := by omega
    rw [Planown.loop1, gx_at hk, Option.bind_some, copied_self (hl _ (List.getElem_mem hk)), Option.bind_some, ix_in (by omega) (by omega), Option.bind_some, sx_in (by omega) (by omega), Option.bind_some, Int.toNat_natCast, set_get hk]
    exact own_loop1 hl n (k + 1) (by omega)
theorem own_loop2 {l : List (List Int)} (hl : ∀ x ∈ l, x.length * 8 ≤ 140737488351232) : ∀ (n k : Nat), k + n = l.length → Planown.loop2 n k l = some l
  | 0, _, _ => rfl
  | n + 1, k, h => by
    have hk : k < l.length := by omega
    rw [Planown.loop2, gx_at hk, Option.bind_some, clone_int (hl _ (List.getElem_mem hk)), Option.bind_some, ix_in (by omega) (by omega), Option.bind_some, sx_in (by omega) (by omega), Option.bind_some, Int.toNat_natCast, set_get hk]
    exact own_loop2 hl n (k + 1) (by omega)
structure FineDay (d : ApiDay) : Prop where
  a : d.Trains.length * 64 ≤ 140737488351232
  b : d.Turns.length * 24 ≤ 140737488351232
  c : ∀ x ∈ d.Trains, Fine x
  d : ∀ x ∈ d.Turns, x.length * 8 ≤ 140737488351232
theorem own_self {d : ApiDay} (h : FineDay d) : Planown d = some d := by
  unfold Planown
  rw [clone_train h.a, Option.bind_some, clone_lint h.b, Option.bind_some, own_loop1 h.c _ 0 (by omega), Option.bind_some, own_loop2 h.d _ 0 (by omega)]; rfl
theorem fine_reach {d : ApiDay} (h : (d.Trains.length * 64 ≤ reachBytes ∧ ∀ t ∈ d.Trains, (t.Stops.length * 32 ≤ reachBytes ∧ ∀ x ∈ t.Stops, True) ∧ (t.Legs.length * 24 ≤ reachBytes ∧ ∀ x ∈ t.Legs, x.length * 8 ≤ reachBytes ∧ ∀ y ∈ x, True)) ∧ (d.Turns.length * 24 ≤ reachBytes ∧ ∀ x ∈ d.Turns, x.length * 8 ≤ reachBytes ∧ ∀ y ∈ x, True)) : FineDay d := by
  have hr : reachBytes = 140737488351232 := rfl
  obtain ⟨⟨h1, h2⟩, h3, h4⟩ := h
  refine ⟨by omega, by omega, fun t ht => ?_, fun x hx => by have := (h4 x hx).1; omega⟩
  obtain ⟨⟨k1, _⟩, k2, k3⟩ := h2 t ht
  exact ⟨by omega, by omega, fun x hx => by have := (k3 x hx).1; omega⟩

def Good (t by_ : Int) : Prop := 0 ≤ t + by_ ∧ t + by_ ≤ 28800
instance (t b : Int) : Decidable (Good t b) := by unfold Good; infer_instance
theorem late_yes {t b : Int} (hb : -3600 ≤ b ∧ b ≤ 3600) (h : Good t b) : PlanShift_1_v1 t b = (true, t + b) := by
  unfold Good at h
  unfold PlanShift_1_v1 Planwithin
  simp only [bnd_eq, w64_id (x := t + b) (by omega)]
  rw [if_pos (by simp; omega : decide (t ≥ -3600) = true), show decide (t ≤ 32400) = true by simp; omega, if_neg (by simp), if_pos (by simp; omega : decide (t + b ≥ 0) = true), show decide (t + b ≤ 28800) = true by simp; omega]
theorem late_no {t b : Int} (hb : -3600 ≤ b ∧ b ≤ 3600) (h : ¬ Good t b) : (PlanShift_1_v1 t b).1 = false := by
  unfold Good at h
  unfold PlanShift_1_v1 Planwithin
  simp only [bnd_eq]
  by_cases c : -3600 ≤ t ∧ t ≤ 32400
  · simp only [w64_id (x := t + b) (by omega)]
    rw [if_pos (by simp; omega : decide (t ≥ -3600) = true), show decide (t ≤ 32400) = true by simp; omega, if_neg (by simp)]
    by_cases c2 : t + b ≥ 0
    · rw [if_pos (by simpa using c2)]; simp; omega
    · rw [if_neg (by simpa using c2)]
  · by_cases c2 : t ≥ -3600
    · rw [if_pos (by simpa using c2), show decide (t ≤ 32400) = false by simp; omega]; rfl
    · rw [if_neg (by simpa using c2 : ¬ decide (t ≥ -3600) = true)]; rfl
theorem ref_late {t b : Int} (hb : -3600 ≤ b ∧ b ≤ 3600) : Fishref2ShiftOf_1_v1 t true b = if Good t b then (t + b, true) else (t, false) := by
  unfold Fishref2ShiftOf_1_v1
  simp only [bnd_eq, if_true, w64_id (x := 0 - b) (by omega), w64_id (x := 28800 - b) (by omega)]
  by_cases c : Good t b
  · rw [if_pos c]; unfold Good at c
    simp only [w64_id (x := t + b) (by omega)]
    rw [if_pos (by simp; omega : decide (t ≥ 0 - b) = true), show decide (t ≤ 28800 - b) = true by simp; omega]; rfl
  · rw [if_neg c]; unfold Good at c
    by_cases c2 : t ≥ 0 - b
    · rw [if_pos (show decide (t ≥ 0 - b) = true by simp; omega), show decide (t ≤ 28800 - b) = false by simp; omega]; rfl
    · rw [if_neg (show ¬ decide (t ≥ 0 - b) = true by simp; omega)]; rfl
theorem ref_off {t b : Int} : Fishref2ShiftOf_1_v1 t false b = (t, false) := by
  unfold Fishref2ShiftOf_1_v1; rfl

section
variable {x2 x3 : Int} {q : List ApiStop} (hq : q.length ≤ 9223372036854775806)
theorem ref_stay (hq : q.length ≤ 9223372036854775806) : ∀ (fu i : Nat) (l : List ApiStop), l.length = q.length → i ≤ q.length → q.length < i + fu → ∃ a r, Fishref2ShiftOf.loop1 x2 x3 q fu ((i : Nat) : Int) l false = some (a, r, false)
  | 0, i, l, _, h2, h3 => by omega
  | fu + 1, i, l, h1, h2, h3 => by
    rw [Fishref2ShiftOf.loop1]
    by_cases hi : i < q.length
    · rw [if_pos (by simpa using hi)]
      generalize (if decide (((i : Nat) : Int) > x2) = true then true else (if (((i : Nat) : Int) == 0) = true then true else (((i : Nat) : Int) == (w64 (((q.length : Nat) : Int) - 1))))) = o
      have hw : w64 (((i : Nat) : Int) + 1) = ((i + 1 : Nat) : Int) := by rw [w64_id (by omega)]; omega
      have hl : i < l.length := by omega
      rw [bnd_eq]
      cases o with
      | true =>
        rw [if_pos rfl]
        simp only [gx_at hl, Option.bind_some, bnd_eq, ref_off, hw, Int.toNat_natCast]
        rw [gx_at (by rw [List.length_set]; exact hl), Option.bind_some]
        exact ref_stay hq fu (i + 1) _ (by simp only [List.length_set]; exact h1) (by omega) (by omega)
      | false =>
        rw [if_neg (by simp)]
        simp only [gx_at hl, Option.bind_some, bnd_eq, ref_off, hw, Int.toNat_natCast]
        exact ref_stay hq fu (i + 1) _ (by simp only [List.length_set]; exact h1) (by omega) (by omega)
    · rw [if_neg (by simpa using hi)]; exact ⟨_, _, rfl⟩
theorem both_run (t : ApiTrain) (ht : t.Stops = q) (hb : -3600 ≤ x3 ∧ x3 ≤ 3600) (hq : q.length ≤ 9223372036854775806) : ∀ (fu i : Nat) (l : List ApiStop), l.length = q.length → i ≤ q.length → q.length < i + fu →
    (∃ a r, PlanShift.loop1 x2 x3 t fu ((i : Nat) : Int) l [] [] = some (.ret (ApiDay.mk [] [], 13)) ∧ Fishref2ShiftOf.loop1 x2 x3 q fu ((i : Nat) : Int) l true = some (a, r, false)) ∨
    (∃ a r, PlanShift.loop1 x2 x3 t fu ((i : Nat) : Int) l [] [] = some (.next (a, r, [], [])) ∧ Fishref2ShiftOf.loop1 x2 x3 q fu ((i : Nat) : Int) l true = some (a, r, true))
  | 0, i, l, _, h2, h3 => by omega
  | fu + 1, i, l, h1, h2, h3 => by
    rw [Fishref2ShiftOf.loop1, PlanShift.loop1, ht]
    by_cases hi : i < q.length
    · rw [if_pos (by simpa using hi : decide (((i : Nat) : Int) < ((q.length : Nat) : Int)) = true), if_pos (by simpa using hi : decide (((i : Nat) : Int) < ((q.length : Nat) : Int)) = true)]
      generalize (if (((i : Nat) : Int) == 0) = true then true else (((i : Nat) : Int) == (w64 (((q.length : Nat) : Int) - 1)))) = o
      generalize hg : decide (((i : Nat) : Int) > x2) = g
      have hw : w64 (((i : Nat) : Int) + 1) = ((i + 1 : Nat) : Int) := by rw [w64_id (by omega)]; omega
      have hl : i < l.length := by omega
      have hl2 : ∀ x, i < (l.set i x).length := fun x => by rw [List.length_set]; exact hl
      have hs : ∀ x, (l.set i x)[i]'(hl2 x) = x := fun x => by simp
      rw [bnd_eq, bnd_eq]
      by_cases c1 : Good l[i].Dep x3
      · by_cases c2 : Good l[i].Arr x3
        · have key : ∀ l2 : List ApiStop, l2.length = q.length → _ := fun l2 h => both_run t ht hb hq fu (i + 1) l2 h (by omega) (by omega)
          cases g <;> cases o <;> simp only [gx_at hl, gx_at (hl2 _), hs, Option.bind_some, bnd_eq, ref_late hb, late_yes hb c1, late_yes hb c2, if_pos c1, if_pos c2, hw, Int.toNat_natCast, Bool.not_true, Bool.false_eq_true, if_false, if_true, List.set_set] <;>
            exact key _ (by simp only [List.length_set]; exact h1)
        · have e2 := late_no hb c2
          cases g <;> cases o <;> simp only [gx_at hl, gx_at (hl2 _), hs, Option.bind_some, bnd_eq, ref_late hb, late_yes hb c1, e2, ref_off, if_pos c1, if_neg c2, hw, Int.toNat_natCast, Bool.not_true, Bool.not_false, Bool.false_eq_true, if_false, if_true, List.set_set]
          · exact both_run t ht hb hq fu (i + 1) _ (by simp only [List.length_set]; exact h1) (by omega) (by omega)
          all_goals
            left
            obtain ⟨a, r, e⟩ := ref_stay (x2 := x2) (x3 := x3) hq fu (i + 1) (l.set i l[i]) (by simp only [List.length_set]; exact h1) (by omega) (by omega)
            exact ⟨a, r, trivial, e⟩
      · have e1 := late_no hb c1
        left
        by_cases c2 : Good l[i].Arr x3
        · cases g <;> cases o <;> simp only [gx_at hl, gx_at (hl2 _), hs, Option.bind_some, bnd_eq, ref_late hb, e1, ref_off, if_neg c1, if_pos c2, hw, Int.toNat_natCast, Bool.not_true, Bool.not_false, Bool.false_eq_true, if_false, if_true, List.set_set]
          all_goals
            obtain ⟨a, r, e⟩ := ref_stay (x2 := x2) (x3 := x3) hq fu (i + 1) (l.set i _) (by simp only [List.length_set]; exact h1) (by omega) (by omega)
            exact ⟨a, r, trivial, e⟩
        · cases g <;> cases o <;> simp only [gx_at hl, gx_at (hl2 _), hs, Option.bind_some, bnd_eq, ref_late hb, e1, ref_off, if_neg c1, if_neg c2, hw, Int.toNat_natCast, Bool.not_true, Bool.not_false, Bool.false_eq_true, if_false, if_true, List.set_set]
          all_goals
            obtain ⟨a, r, e⟩ := ref_stay (x2 := x2) (x3 := x3) hq fu (i + 1) (l.set i _) (by simp only [List.length_set]; exact h1) (by omega) (by omega)
            exact ⟨a, r, trivial, e⟩
    · rw [if_neg (by simpa using hi : ¬ decide (((i : Nat) : Int) < ((q.length : Nat) : Int)) = true), if_neg (by simpa using hi : ¬ decide (((i : Nat) : Int) < ((q.length : Nat) : Int)) = true)]
      exact .inr ⟨_, _, rfl, rfl⟩
end

theorem within_eq (x a b : Int) : Planwithin x a b = decide (a ≤ x ∧ x ≤ b) := by
  unfold Planwithin; rw [bnd_eq]
  by_cases c : x ≥ a
  · rw [if_pos (by simpa using c)]; simp; omega
  · rw [if_neg (by simpa using c)]; simp; omega
theorem rwithin_eq (x a b : Int) : Fishref2within x a b = decide (a ≤ x ∧ x ≤ b) := by
  unfold Fishref2within; rw [bnd_eq]
  by_cases c : x ≥ a
  · rw [if_pos (by simpa using c)]; simp; omega
  · rw [if_neg (by simpa using c)]; simp; omega
theorem same_shift {x0 : ApiDay} (F : FineDay x0) (x1 x2 x3 : Int) {fu : Nat} (hf : 140737488351232 ≤ fu) : ∃ r, PlanShift fu x0 x1 x2 x3 = some r ∧ Fishref2ShiftOf fu x0 x1 x2 x3 = some r := by
  have ha := F.a
  unfold PlanShift Fishref2ShiftOf PlanhasStop
  simp only [within_eq, rwithin_eq, w64_id (x := ((x0.Trains.length : Nat) : Int) - 1) (by omega)]
  by_cases c1 : 0 ≤ x1 ∧ x1 < x0.Trains.length
  · have hl : x1.toNat < x0.Trains.length := by omega
    have hg : gx x0.Trains x1 = some x0.Trains[x1.toNat] := gx_toNat c1.1 hl
    have hF := F.c _ (List.getElem_mem hl)
    generalize ht : x0.Trains[x1.toNat] = t at hg hF
    have hs := hF.1
    rw [if_pos (by simp; omega : decide (0 ≤ x1 ∧ x1 ≤ ((x0.Trains.length : Nat) : Int) - 1) = true), if_neg (by simp; omega : ¬ decide (x1 < 0) = true), if_neg (by simp; omega : ¬ decide (x1 ≥ ((x0.Trains.length : Nat) : Int)) = true), hg]
    simp only [Option.bind_some, w64_id (x := ((t.Stops.length : Nat) : Int) - 1) (by omega)]
    by_cases c2 : 0 ≤ x2 ∧ x2 < t.Stops.length
    · rw [show decide (0 ≤ x2 ∧ x2 ≤ ((t.Stops.length : Nat) : Int) - 1) = true by simp; omega, if_neg (by simp; omega : ¬ decide (x2 < 0) = true), show decide (x2 ≥ ((t.Stops.length : Nat) : Int)) = false by simp; omega]
      simp only [Option.bind_some, Bool.not_true, Bool.false_eq_true, if_false]
      by_cases c3 : -3600 ≤ x3 ∧ x3 ≤ 3600
      · rw [show decide (-3600 ≤ x3 ∧ x3 ≤ 3600) = true by simp; omega]
        simp only [Bool.not_true, Bool.false_eq_true, if_false, own_self F, Option.bind_some, hg, clone_stop hs]
        obtain ⟨i, rfl⟩ : ∃ i : Nat, x2 = ((i : Nat) : Int) := ⟨x2.toNat, by omega⟩
        rcases both_run (x2 := ((i : Nat) : Int)) (x3 := x3) (q := t.Stops) t rfl c3 (by omega) fu i t.Stops rfl (by omega) (by omega) with ⟨a, r, e1, e2⟩ | ⟨a, r, e1, e2⟩
        · rw [e1, e2]; exact ⟨_, rfl, rfl⟩
        · rw [e1, e2]
          simp only [Option.bind_some, Bool.not_true, Bool.false_eq_true, if_false, clone_train ha, hg, bnd_eq]
          refine ⟨_, rfl, ?_⟩
          unfold putStops
          rw [show x0.Trains[x1.toNat]? = some t by rw [List.getElem?_eq_getElem hl, ht]]
      · rw [show decide (-3600 ≤ x3 ∧ x3 ≤ 3600) = false by simp; omega]
        exact ⟨_, rfl, rfl⟩
    · rw [show decide (0 ≤ x2 ∧ x2 ≤ ((t.Stops.length : Nat) : Int) - 1) = false by simp; omega]
      by_cases c4 : x2 < 0
      · rw [if_pos (by simpa using c4 : decide (x2 < 0) = true)]; exact ⟨_, rfl, rfl⟩
      · rw [if_neg (by simpa using c4 : ¬ decide (x2 < 0) = true), show decide (x2 ≥ ((t.Stops.length : Nat) : Int)) = true by simp; omega]; exact ⟨_, rfl, rfl⟩
  · rw [if_neg (by simp; omega : ¬ decide (0 ≤ x1 ∧ x1 ≤ ((x0.Trains.length : Nat) : Int) - 1) = true)]
    by_cases c4 : x1 < 0
    · rw [if_pos (by simpa using c4 : decide (x1 < 0) = true)]; exact ⟨_, rfl, rfl⟩
    · rw [if_neg (by simpa using c4 : ¬ decide (x1 < 0) = true), if_pos (by simp; omega : decide (x1 ≥ ((x0.Trains.length : Nat) : Int)) = true)]; exact ⟨_, rfl, rfl⟩
theorem PlanShifts_law (x0 : ApiDay) (x1 : Int) (x2 : Int) (x3 : Int) (_ : x0.Trains.length ≤ 9223372036854775807) (_ : x0.Turns.length ≤ 9223372036854775807) (_ : -9223372036854775808 ≤ x1 ∧ x1 ≤ 9223372036854775807) (_ : -9223372036854775808 ≤ x2 ∧ x2 ≤ 9223372036854775807)
    (_ : -9223372036854775808 ≤ x3 ∧ x3 ≤ 9223372036854775807) (z0 : FineDay x0) : ∃ fu, Fishlaw2PlanShifts fu x0 x1 x2 x3 = some true := by
  obtain ⟨fu, hfu⟩ : ∃ fu, 140737488351232 ≤ fu := ⟨_, Nat.le_refl _⟩
  refine ⟨fu, ?_⟩
  obtain ⟨r, r1, r2⟩ := same_shift z0 x1 x2 x3 hfu
  unfold Fishlaw2PlanShifts
  rw [r1, r2, plans_true]
  simp [day_refl]
end Go.Fp
