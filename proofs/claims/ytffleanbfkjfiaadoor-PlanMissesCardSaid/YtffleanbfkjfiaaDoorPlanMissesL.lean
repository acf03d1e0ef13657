/- PlanMisses: the mirror of the law is true of all days and connections. -/
import Derived.Test.YtffleanbfkjfiaaDoorPlanMissesM
import Derived.Test.YtffleanbfkjfiaaDoorFpPlain
import Derived.KernelRfl
namespace Go.Fp
theorem equal_refl (l : List Int) : SlicesEqualLint l l = some true := by
  have key : ∀ (r : List Int) (k : Nat), l.drop k = r → SlicesEqualLint.loop1 l r k = some (.next ()) := by
    intro r
    induction r with
    | nil => intro k _; rfl
    | cons v r ih =>
      intro k hd
      obtain ⟨d1, d2, d3⟩ := drop_cons hd
      simp only [SlicesEqualLint.loop1, gx_nat, d2, Option.bind_some, bne_self_eq_false, Bool.false_eq_true, if_false]
      exact ih (k + 1) d3
  unfold SlicesEqualLint
  simp [key l 0 rfl]
theorem plans_true : Fishlaw2plans = some true := by kernel_rfl

section
variable (x0 : ApiDay) (hs : x0.Trains.length ≤ 9223372036854775807) (hs2 : ∀ t ∈ x0.Trains, t.Stops.length ≤ 9223372036854775807)

/-- stop s of train t is there -/
def Has (t s : Int) : Prop := ∃ y, gx x0.Trains t = some y ∧ y ∈ x0.Trains ∧ 0 ≤ s ∧ s < y.Stops.length

theorem within_iff (x a b : Int) : Planwithin x a b = true ↔ a ≤ x ∧ x ≤ b := by
  unfold Planwithin bnd
  by_cases h : x ≥ a <;> simp [h] <;> omega
theorem within_ref (x a b : Int) : Fishref2within x a b = Planwithin x a b := rfl

theorem stops_of (t : Int) : ∃ m : Int, Fishref2MissedOf_1_v1 t x0 = some m ∧ (m = 0 ∨ ∃ y, gx x0.Trains t = some y ∧ y ∈ x0.Trains ∧ m = y.Stops.length) ∧ ((t < 0 ∨ t ≥ x0.Trains.length) → m = 0) ∧ (∀ y, gx x0.Trains t = some y → m = y.Stops.length) := by
  unfold Fishref2MissedOf_1_v1 bnd
  by_cases h : t < 0 ∨ t ≥ x0.Trains.length
  · refine ⟨0, ?_, .inl rfl, fun _ => rfl, ?_⟩
    · rcases h with h | h <;> simp [h]
    · intro y hy
      have := gx_some hy
      omega
  · obtain ⟨y, h1, h2⟩ := gx_in (l := x0.Trains) (i := t) (by omega) (by omega)
    refine ⟨y.Stops.length, ?_, .inr ⟨y, h1, h2, rfl⟩, fun k => absurd k h, ?_⟩
    · have e1 : decide (t < 0) = false := by simp; omega
      have e2 : decide (t ≥ (x0.Trains.length : Int)) = false := by simp; omega
      rw [e1, e2]
      simp [h1]
    · intro z hz
      rw [h1] at hz; cases hz; rfl

theorem has_ref (t s : Int) {m : Int} (h : Fishref2MissedOf_1_v1 t x0 = some m) : Has x0 t s ↔ 0 ≤ s ∧ s < m := by
  obtain ⟨m', h1, h2, h3, h4⟩ := stops_of x0 t
  rw [h1] at h; cases h
  constructor
  · rintro ⟨y, y1, _, y2, y3⟩
    rw [h4 y y1]; exact ⟨y2, y3⟩
  · rintro ⟨k1, k2⟩
    rcases h2 with h2 | ⟨y, y1, y2, y3⟩
    · omega
    · exact ⟨y, y1, y2, k1, by omega⟩

include hs hs2 in
theorem has_stop (t s : Int) : ∃ b, PlanhasStop x0 t s = some b ∧ (b = true ↔ Has x0 t s) := by
  unfold PlanhasStop
  rw [w64_id (by omega)]
  by_cases c : Planwithin t 0 ((x0.Trains.length : Int) - 1) = true
  · rw [if_pos c]
    have c' := (within_iff _ _ _).1 c
    obtain ⟨y, h1, h2⟩ := gx_in (l := x0.Trains) (i := t) (by omega) (by omega)
    rw [h1]
    have := hs2 y h2
    refine ⟨_, by simp only [Option.bind_some]; rfl, ?_⟩
    rw [w64_id (by omega), within_iff]
    constructor
    · rintro ⟨k1, k2⟩; exact ⟨y, h1, h2, k1, by omega⟩
    · rintro ⟨z, z1, z2, z3, z4⟩
      rw [h1] at z1; cases z1; omega
  · rw [if_neg c]
    refine ⟨false, rfl, ?_⟩
    constructor
    · intro k; cases k
    · rintro ⟨z, z1, z2, z3, z4⟩
      have := gx_some z1
      exact absurd ((within_iff _ _ _).2 ⟨by omega, by omega⟩) c

include hs hs2 in
theorem miss1 : ∀ l : List PlanMeet, ∃ o, PlanMissed.loop1 x0 l = some o ∧ Fishref2MissedOf.loop1 x0 l = some o ∧ (∀ r, o = .ret r → r.1 = []) ∧ (o = .next () → ∀ m ∈ l, Has x0 m.From m.FromStop ∧ Has x0 m.To m.ToStop)
  | [] => ⟨.next (), rfl, rfl, (by intro r h; cases h), (by intro _ m h; cases h)⟩
  | m :: l => by
    obtain ⟨o, ih1, ih2, ih3, ih4⟩ := miss1 l
    obtain ⟨b1, p1, q1⟩ := has_stop x0 hs hs2 m.From m.FromStop
    obtain ⟨b2, p2, q2⟩ := has_stop x0 hs hs2 m.To m.ToStop
    obtain ⟨n1, s1, s2, s3, s4⟩ := stops_of x0 m.From
    obtain ⟨n2, t1, t2, t3, t4⟩ := stops_of x0 m.To
    have e1 := has_ref x0 m.From m.FromStop s1
    have e2 := has_ref x0 m.To m.ToStop t1
    rw [PlanMissed.loop1, Fishref2MissedOf.loop1, p1, p2, s1, t1]
    simp only [Option.bind_some, within_ref]
    have hL : (if (!b1) = true then some true else some (!b2)) = some (!(b1 && b2)) := by cases b1 <;> cases b2 <;> rfl
    have hR : (if decide (m.FromStop < 0) = true then some true else if decide (m.FromStop ≥ n1) = true then some true else if decide (m.ToStop < 0) = true then some true else some (decide (m.ToStop ≥ n2))) = some (!(b1 && b2)) := by
      have k1 : b1 = (decide (0 ≤ m.FromStop) && decide (m.FromStop < n1)) := by
        rw [Bool.eq_iff_iff, q1, e1]; simp
      have k2 : b2 = (decide (0 ≤ m.ToStop) && decide (m.ToStop < n2)) := by
        rw [Bool.eq_iff_iff, q2, e2]; simp
      rw [k1, k2]
      by_cases a1 : m.FromStop < 0
      · have : ¬ 0 ≤ m.FromStop := by omega
        simp [a1, this]
      · have a1' : 0 ≤ m.FromStop := by omega
        by_cases a2 : m.FromStop ≥ n1
        · have : ¬ m.FromStop < n1 := by omega
          simp [a1, a2, this]
        · have a2' : m.FromStop < n1 := by omega
          by_cases a3 : m.ToStop < 0
          · have : ¬ 0 ≤ m.ToStop := by omega
            simp [a1, a2, a3, this]
          · have a3' : 0 ≤ m.ToStop := by omega
            by_cases a4 : m.ToStop ≥ n2
            · have : ¬ m.ToStop < n2 := by omega
              simp [a1, a2, a3, a4, this]
            · have a4' : m.ToStop < n2 := by omega
              simp [a1, a2, a3, a4, a1', a2', a3', a4']
    rw [hL, hR]
    simp only [Option.bind_some]
    cases hb : (b1 && b2) with
    | false => exact ⟨.ret ([], 3), by simp, by simp, (by intro r h; cases h; rfl), (by intro h; cases h)⟩
    | true =>
      simp only [Bool.and_eq_true] at hb
      have g1 := q1.1 hb.1
      have g2 := q2.1 hb.2
      obtain ⟨y, y1, y2, _, _⟩ := g2
      rw [y1, t4 y y1]
      simp only [Option.bind_some]
      by_cases c1 : (if (m.FromStop == 0) = true then some true else some (m.ToStop == w64 ((y.Stops.length : Int) - 1))) = some true
      · rw [c1]
        exact ⟨.ret ([], 1), by simp, by simp, (by intro r h; cases h; rfl), (by intro h; cases h)⟩
      · have c1' : (if (m.FromStop == 0) = true then some true else some (m.ToStop == w64 ((y.Stops.length : Int) - 1))) = some false := by
          generalize (m.FromStop == 0) = u at c1 ⊢
          generalize (m.ToStop == w64 ((y.Stops.length : Int) - 1)) = v at c1 ⊢
          cases u <;> cases v <;> simp_all
        rw [c1']
        by_cases c2 : (!Planwithin m.Least 0 28800) = true
        · simp only [c2]
          exact ⟨.ret ([], 2), by simp, by simp, (by intro r h; cases h; rfl), (by intro h; cases h)⟩
        · simp only [Bool.not_eq_true] at c2
          simp only [c2]
          refine ⟨o, by simpa using ih1, by simpa using ih2, ih3, ?_⟩
          intro ho k hk
          rcases List.mem_cons.1 hk with rfl | hk
          · exact ⟨g1, q2.1 hb.2⟩
          · exact ih4 ho k hk

theorem miss2 : ∀ (l : List PlanMeet) (k : Nat) (q : List Int), (∀ m ∈ l, Has x0 m.From m.FromStop ∧ Has x0 m.To m.ToStop) → q.length + l.length < 4294967296 →
    ∃ r, PlanMissed.loop2 x0 l k q = some r ∧ Fishref2MissedOf.loop2 x0 l k q = some r
  | [], k, q, _, _ => ⟨q, rfl, rfl⟩
  | m :: l, k, q, h, hl => by
    obtain ⟨⟨y, y1, _, y2, y3⟩, ⟨z, z1, _, z2, z3⟩⟩ := h m (List.mem_cons_self ..)
    obtain ⟨u, u1, _⟩ := gx_in (l := y.Stops) y2 y3
    obtain ⟨v, v1, _⟩ := gx_in (l := z.Stops) z2 z3
    rw [PlanMissed.loop2, Fishref2MissedOf.loop2, z1, y1]
    simp only [Option.bind_some, v1, u1]
    simp only [List.length_cons] at hl
    rw [apd_lt (by simp; omega)]
    by_cases c : decide (w64 (v.Dep - u.Arr) < m.Least) = true
    · rw [if_pos c]
      exact miss2 l (k + 1) _ (fun j hj => h j (List.mem_cons_of_mem _ hj)) (by simp; omega)
    · rw [if_neg c]
      exact miss2 l (k + 1) q (fun j hj => h j (List.mem_cons_of_mem _ hj)) (by omega)
end

theorem big2 : ∀ l : List ApiStop, Fishlaw2PlanMisses.loop2 l = some (.ret true) ∨ Fishlaw2PlanMisses.loop2 l = some (.next ())
  | [] => .inr rfl
  | s :: l => by
    rw [Fishlaw2PlanMisses.loop2, plans_true]
    simp only [bnd, Option.bind_some]
    generalize (if decide (mx s.Arr s.Dep > 1099511627776) = true then true else decide (mn s.Arr s.Dep < -1099511627776)) = b
    cases b
    · simpa using big2 l
    · left; rfl
theorem big1 : ∀ l : List ApiTrain, Fishlaw2PlanMisses.loop1 l = some (.ret true) ∨ Fishlaw2PlanMisses.loop1 l = some (.next ())
  | [] => .inr rfl
  | t :: l => by
    rw [Fishlaw2PlanMisses.loop1]
    rcases big2 t.Stops with h | h <;> rw [h]
    · left; rfl
    · exact big1 l

theorem PlanMisses_law (x0 : ApiDay) (x1 : List PlanMeet) (h0_0 : x0.Trains.length ≤ 9223372036854775807) (h0_0' : ∀ t ∈ x0.Trains, t.Stops.length ≤ 9223372036854775807) (_ : x0.Turns.length ≤ 9223372036854775807) (_ : x1.length ≤ 9223372036854775807) : Fishlaw2PlanMisses x0 x1 = some true := by
  unfold Fishlaw2PlanMisses
  rcases big1 x0.Trains with h | h <;> rw [h]
  · rfl
  · simp only [Option.bind_some]
    have key : ∃ r, PlanMissed x0 x1 = some r ∧ Fishref2MissedOf x0 x1 = some r := by
      unfold PlanMissed Fishref2MissedOf
      by_cases c : decide ((x1.length : Int) > 40) = true
      · rw [if_pos c, if_pos c]; exact ⟨_, rfl, rfl⟩
      · rw [if_neg c, if_neg c]
        obtain ⟨o, o1, o2, _, o4⟩ := miss1 x0 h0_0 h0_0' x1
        rw [o1, o2]
        cases o with
        | ret r => exact ⟨r, rfl, rfl⟩
        | next u =>
          have hc : ¬ (x1.length : Int) > 40 := by simpa using c
          obtain ⟨r, r1, r2⟩ := miss2 x0 x1 0 [] (o4 rfl) (by simp; omega)
          rw [Option.bind_some, Option.bind_some]
          simp only [r1, r2]
          exact ⟨_, rfl, rfl⟩
    obtain ⟨r, r1, r2⟩ := key
    rw [r1, r2, plans_true]
    simp [equal_refl]
end Go.Fp
