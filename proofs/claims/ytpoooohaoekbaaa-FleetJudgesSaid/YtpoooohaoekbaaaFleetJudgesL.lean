/- FleetJudges: the mirror of the law is true of all tasks, duties and limits whose lists are no longer than any slice. -/
import Derived.Test.YtpoooohaoekbaaaFleetJudgesM
import Derived.Test.YtpoooohaoekbaaaFpPlain
namespace Go.Fp

theorem within_ref : Fishref2within = Fleetwithin := rfl

theorem tasks_loop : ∀ l, Fishref2TasksFault.loop1 l = FleetCheckTasks.loop1 l
  | [] => rfl
  | x :: r => by simp only [Fishref2TasksFault.loop1, FleetCheckTasks.loop1, tasks_loop r]; rfl
theorem tasks_ref (l : List FleetTask) : Fishref2TasksFault l = FleetCheckTasks l := by
  unfold Fishref2TasksFault FleetCheckTasks; rw [tasks_loop]
theorem limits_loop : ∀ l, Fishref2LimitsFault.loop1 l = FleetCheckLimits.loop1 l
  | [] => rfl
  | x :: r => by simp only [Fishref2LimitsFault.loop1, FleetCheckLimits.loop1, limits_loop r]; rfl
theorem limits_ref (x : FleetLimits) : Fishref2LimitsFault x = FleetCheckLimits x := by
  unfold Fishref2LimitsFault FleetCheckLimits; rw [limits_loop]; rfl

theorem within_len {n : Int} {m : Nat} (hm : m ≤ 9223372036854775807) : (!Fleetwithin n 0 (w64 ((m : Int) - 1))) = (if decide (n < 0) then true else decide (n ≥ (m : Int))) := by
  rw [w64_id (by omega)]
  unfold Fleetwithin bnd
  by_cases h : n < 0
  · have h1 : ¬ n ≥ 0 := by omega
    simp [h, h1]
  · have h1 : n ≥ 0 := by omega
    have h2 : decide (n ≤ (m : Int) - 1) = !decide (n ≥ (m : Int)) := by
      by_cases hh : n ≥ (m : Int) <;> simp [hh] <;> omega
    simp [h, h1, h2]

theorem judge_loop (l : List FleetTask) (d : List Int) (hl : l.length ≤ 9223372036854775807) : ∀ r k, Fishref2JudgeOf.loop1 l d r k = FleetJudge.loop1 l d r k
  | [], k => rfl
  | x :: r, k => by
    simp only [Fishref2JudgeOf.loop1, FleetJudge.loop1, judge_loop l d hl r, bnd_eq]
    rw [within_len hl]

/-- behind the loop all numbers of the duty are of tasks -/
theorem judge_in (l : List FleetTask) (d : List Int) (hl : l.length ≤ 9223372036854775807) : ∀ r k, FleetJudge.loop1 l d r k = some (.next ()) → ∀ i ∈ r, 0 ≤ i ∧ i < l.length
  | [], _, _ => by simp
  | x :: r, k, h => by
    simp only [FleetJudge.loop1] at h
    rw [within_len hl] at h
    by_cases h3 : x < 0
    · simp [h3] at h
    by_cases h4 : x ≥ (l.length : Int)
    · simp [h3, h4] at h
    simp only [h3, h4, decide_false, Bool.false_eq_true, if_false] at h
    rcases h2 : cutl d 0 ((k : Nat) : Int) with _ | y
    · rw [h2] at h; simp at h
    · rw [h2] at h
      simp only [Option.bind_some] at h
      by_cases h5 : SlicesContainsLint y x = true
      · simp [h5] at h
      · simp only [h5, Bool.false_eq_true, if_false] at h
        intro i hi
        rcases List.mem_cons.1 hi with rfl | hi
        · omega
        · exact judge_in l d hl r _ h i hi

theorem judge_some (l : List FleetTask) (d : List Int) (hl : l.length ≤ 9223372036854775807) : ∀ r k, k + r.length ≤ d.length → FleetJudge.loop1 l d r k ≠ none
  | [], k, _ => by simp [FleetJudge.loop1]
  | x :: r, k, h => by
    simp only [List.length_cons] at h
    have h1 : cutl d 0 ((k : Nat) : Int) = some ((d.take k).drop 0) := by simp [cutl]; omega
    simp only [FleetJudge.loop1, h1, Option.bind_some]
    have := judge_some l d hl r (k + 1) (by omega)
    split
    · simp
    · split
      · simp
      · exact this

def bad4 (x : FleetLimits) (a g : Int) : Bool := decide (w64 (a - g) > x.After)

/-- one pass or two -/
theorem judge_pass (l : List FleetTask) (d : List Int) (x : FleetLimits) (hd : d.length ≤ 9223372036854775807) (hall : ∀ i ∈ d, 0 ≤ i ∧ i < l.length) :
    ∀ (r : List Int) (pre : List Int) (p : Int) (k : Nat) (w b g : Int), d = pre ++ p :: r → k = pre.length + 1 → b = 0 ∨ b = 4 →
      (Fishref2Code.loop1 l d x r k w = some (.ret 1) ∧ Fleetjudge.loop1 l d x r k w b g = some (.ret 1)) ∨
      ∃ w' b' g', Fishref2Code.loop1 l d x r k w = some (.next w') ∧ Fleetjudge.loop1 l d x r k w b g = some (.next (w', b', g')) ∧
        (b = 4 → b' = 4) ∧ (b' = 0 ∨ b' = 4) ∧ ∀ t, gx l ((p :: r).getLast (by simp)) = some t → b = 0 →
          Fishref2Code.loop2 l d x (p :: r) (k - 1) g = some (if (b' == 4 || bad4 x t.Arr g') then .ret 4 else .next g')
  | [], pre, p, k, w, b, g, hdd, hk, hb => by
    refine .inr ⟨w, b, g, rfl, rfl, id, hb, ?_⟩
    intro t ht hb0
    subst hb0
    have hlen : d.length = pre.length + 1 := by rw [hdd]; simp
    simp only [List.getLast_singleton] at ht
    have hk1 : k - 1 = pre.length := by omega
    have e1 : ((pre.length + 1 : Nat) : Int) < (d.length : Int) ↔ False := by rw [hlen]; simp
    have e2 : (((pre.length + 1 : Nat) : Int) == (d.length : Int)) = true := by rw [hlen]; simp
    rw [hk1]
    simp only [Fishref2Code.loop2, e1, e2, decide_false, Option.bind_some, if_true, ht, if_false, Bool.false_eq_true]
    simp only [bad4]
    by_cases h : w64 (t.Arr - g) > x.After <;> simp [h]
  | q :: r, pre, p, k, w, b, g, hdd, hk, hb => by
    have hlen : d.length = pre.length + 2 + r.length := by rw [hdd]; simp; omega
    have hq : 0 ≤ q ∧ q < l.length := hall q (by rw [hdd]; simp)
    have hp : 0 ≤ p ∧ p < l.length := hall p (by rw [hdd]; simp)
    obtain ⟨tq, gq, _⟩ := gx_in hq.1 hq.2
    obtain ⟨tp, gp, _⟩ := gx_in hp.1 hp.2
    have hdp : d[pre.length]? = some p := by rw [hdd]; simp
    have hdq : d[pre.length + 1]? = some q := by rw [hdd, List.getElem?_append_right (by omega)]; simp
    have hk0 : ((k : Nat) : Int) - 1 = ((pre.length : Nat) : Int) := by omega
    have hw : w64 (((k : Nat) : Int) - 1) = ((pre.length : Nat) : Int) := by rw [hk0]; exact w64_id (by omega)
    have hk2 : (((k : Nat) : Int) == 0) = false := by simp; omega
    have hk3 : ((k : Nat) : Int) > 0 := by omega
    have hk4 : k - 1 + 1 = k := by omega
    have hk5 : k = pre.length + 1 := hk
    have e1 : (((pre.length + 1 : Nat) : Nat) : Int) < (d.length : Int) := by rw [hlen]; omega
    have e2 : ((((pre.length + 1 : Nat) : Nat) : Int) == (d.length : Int)) = false := by rw [hlen]; simp; omega
    simp only [Fishref2Code.loop1, Fleetjudge.loop1, gq, Option.bind_some, hw, gx_nat, hdp, gp, hk2, hk3, decide_true, if_true, Bool.false_eq_true, if_false, bnd_eq]
    by_cases hc : (tp.To != tq.From) = true
    · left
      have hc' : (tq.From != tp.To) = true := by simp at hc ⊢; exact fun h => hc h.symm
      simp [hc, hc']
    · have hc1 : (tp.To != tq.From) = false := by simpa using hc
      have hc2 : (tq.From != tp.To) = false := by simp at hc ⊢; exact hc.symm
      simp only [hc1, hc2, if_false, Bool.false_eq_true, Option.bind_some]
      by_cases hd2 : tq.Dep < w64 (tp.Arr + x.Change)
      · left; simp [hd2]
      · simp only [hd2, decide_false, if_false, Bool.false_eq_true, Option.bind_some]
        have ih := judge_pass l d x hd hall r (pre ++ [p]) q (k + 1) (w64 (w + w64 (tq.Arr - tq.Dep)))
        by_cases hbr : w64 (tq.Dep - tp.Arr) ≥ x.Break
        · simp only [hbr, decide_true, if_true]
          have e3 : Fleetjudge_1_v1 tp.Arr g x b = if bad4 x tp.Arr g then 4 else b := by simp [Fleetjudge_1_v1, bad4, bnd_eq]
          rw [e3]
          rcases ih (if bad4 x tp.Arr g then 4 else b) tq.Dep (by rw [hdd]; simp) (by simp; omega) (by split <;> simp [hb]) with h | ⟨w', b', g', h1, h2, h3, h4, h5⟩
          · exact .inl h
          · refine .inr ⟨w', b', g', h1, h2, ?_, h4, ?_⟩
            · intro h; exact h3 (by simp [h])
            · intro t ht hb0
              subst hb0
              have hl' : gx l ((q :: r).getLast (by simp)) = some t := by rw [List.getLast_cons (by simp)] at ht; exact ht
              have hn : ((k - 1 + 1 : Nat) : Int) = ((pre.length + 1 : Nat) : Int) := by omega
              rw [Fishref2Code.loop2]
              simp only [hn, e1, gx_nat, hdq, gq, gp, hbr, decide_true, if_true, Option.bind_some]
              cases hbad : bad4 x tp.Arr g with
              | true =>
                have hbad' : w64 (tp.Arr - g) > x.After := by simpa [bad4] using hbad
                simp [hbad', h3 (by simp [hbad])]
              | false =>
                have hbad' : ¬ w64 (tp.Arr - g) > x.After := by simpa [bad4] using hbad
                simp only [hbad', decide_false, if_false, Bool.false_eq_true]
                have := h5 t hl' (by simp [hbad])
                rw [Nat.add_sub_cancel] at this
                rw [hk4, this]
        · simp only [hbr, decide_false, if_false, Bool.false_eq_true]
          rcases ih b g (by rw [hdd]; simp) (by simp; omega) hb with h | ⟨w', b', g', h1, h2, h3, h4, h5⟩
          · exact .inl h
          · refine .inr ⟨w', b', g', h1, h2, h3, h4, ?_⟩
            intro t ht hb0
            have hl' : gx l ((q :: r).getLast (by simp)) = some t := by rw [List.getLast_cons (by simp)] at ht; exact ht
            have hn : ((k - 1 + 1 : Nat) : Int) = ((pre.length + 1 : Nat) : Int) := by omega
            rw [Fishref2Code.loop2]
            simp only [hn, e1, e2, gx_nat, hdq, gq, gp, hbr, decide_true, decide_false, if_true, if_false, Bool.false_eq_true, Option.bind_some]
            have := h5 t hl' hb0
            rw [Nat.add_sub_cancel] at this
            rw [hk4, this]

theorem judge_eq (l : List FleetTask) (d : List Int) (x : FleetLimits) (hd : d.length ≤ 9223372036854775807) (h0 : d ≠ []) (hall : ∀ i ∈ d, 0 ≤ i ∧ i < l.length) :
    ∃ c, Fleetjudge l d x = some c ∧ Fishref2Code l d x = some c := by
  match d, h0 with
  | p :: r, _ =>
    have hp : 0 ≤ p ∧ p < l.length := hall p (by simp)
    obtain ⟨tp, gp, _⟩ := gx_in hp.1 hp.2
    have hz := hall ((p :: r).getLast (by simp)) (List.getLast_mem _)
    obtain ⟨tz, gz, _⟩ := gx_in hz.1 hz.2
    have hlast : gx (p :: r) (w64 (((p :: r).length : Int) - 1)) = some ((p :: r).getLast (by simp)) := by
      have e : (((p :: r).length : Int) - 1) = ((r.length : Nat) : Int) := by simp
      rw [e, w64_id (by simp at hd; omega), gx_nat]
      rw [List.getLast_eq_getElem]
      simp
    have hfirst : gx (p :: r) 0 = some p := by simp [gx]
    unfold Fleetjudge Fishref2Code
    simp only [hfirst, hlast, gp, gz, Option.bind_some, bnd_eq]
    rw [Fishref2Code.loop1, Fleetjudge.loop1]
    simp only [gp, Option.bind_some, Int.natCast_zero, beq_self_eq_true, if_true, gt_iff_lt, Int.lt_irrefl, decide_false, Bool.false_eq_true, if_false]
    rcases judge_pass l (p :: r) x hd hall r [] p 1 (w64 (0 + w64 (tp.Arr - tp.Dep))) 0 tp.Dep rfl rfl (.inl rfl) with ⟨h1, h2⟩ | ⟨w', b', g', h1, h2, h3, h4, h5⟩
    · exact ⟨1, by rw [h2]; rfl, by rw [h1]; rfl⟩
    · have h6 := h5 tz gz rfl
      simp only [Nat.sub_self] at h6
      simp only [h1, h2, Option.bind_some, Nat.zero_add]
      have e3 : Fleetjudge_1_v1 tz.Arr g' x b' = if bad4 x tz.Arr g' then 4 else b' := by simp [Fleetjudge_1_v1, bad4, bnd_eq]
      rw [e3]
      by_cases c2 : w64 (tz.Arr - tp.Dep) > x.Long
      · exact ⟨2, by simp [c2], by simp [c2]⟩
      by_cases c3 : w' > x.Work
      · exact ⟨3, by simp [c2, c3], by simp [c2, c3]⟩
      have c2' : ¬ x.Long < w64 (tz.Arr - tp.Dep) := c2
      have c3' : ¬ x.Work < w' := c3
      simp only [c2', c3', decide_false, Bool.false_eq_true, if_false, h6]
      cases hbad : bad4 x tz.Arr g' with
      | true => exact ⟨4, by simp, by simp⟩
      | false =>
        rcases h4 with rfl | rfl
        · cases h7 : (tz.To != tp.From) with
          | true => exact ⟨5, by simp, by simp⟩
          | false => exact ⟨0, by simp, by simp⟩
        · exact ⟨4, by simp, by simp⟩

theorem crews_true : Fishlaw2crews = some true := by decide +kernel

theorem FleetJudges_law (l : List FleetTask) (d : List Int) (x : FleetLimits) (hl : l.length ≤ 9223372036854775807) (hd : d.length ≤ 9223372036854775807) : Fishlaw2FleetJudges l d x = some true := by
  have key : ∃ r, FleetJudge l d x = some r ∧ Fishref2JudgeOf l d x = some r := by
    unfold FleetJudge Fishref2JudgeOf FleetcheckTasks
    rw [tasks_ref, limits_ref]
    by_cases h1 : (FleetCheckTasks l != 0) = true
    · simp [h1]
    · simp only [h1, if_false, Bool.false_eq_true]
      by_cases h2 : (FleetCheckLimits x != 0) = true
      · simp [h2]
      · simp only [h2, if_false, Bool.false_eq_true]
        by_cases h3 : ((d.length : Int) == 0) = true
        · simp [h3]
        · simp only [h3, if_false, Bool.false_eq_true]
          rw [show Fishref2JudgeOf.loop1 l d d 0 = FleetJudge.loop1 l d d 0 from judge_loop l d hl d 0]
          rcases h4 : FleetJudge.loop1 l d d 0 with _ | q
          · exact absurd h4 (judge_some l d hl d 0 (by simp))
          · rcases q with q | _
            · simp
            · have h5 : d ≠ [] := by rintro rfl; simp at h3
              obtain ⟨c, g1, g2⟩ := judge_eq l d x hd h5 (judge_in l d hl d 0 h4)
              simp [g1, g2]
  obtain ⟨r, h1, h2⟩ := key
  unfold Fishlaw2FleetJudges
  simp [h1, h2, crews_true]

end Go.Fp
