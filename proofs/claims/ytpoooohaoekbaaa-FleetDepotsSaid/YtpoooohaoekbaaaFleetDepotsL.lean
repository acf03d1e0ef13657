/- FleetDepots: the mirror of the law is true of all depots and sets. -/
import Derived.Test.YtpoooohaoekbaaaFleetDepotsM
import Derived.Test.YtpoooohaoekbaaaFpPlain
namespace Go.Fp

theorem mget_put (m : List (Int × Bool)) (k j : Int) (v : Bool) : mget (mput m k v) j = if j = k then some v else mget m j := by
  induction m with
  | nil => simp [mput, mget]
  | cons p r ih =>
    obtain ⟨a, b⟩ := p
    simp only [mput]
    by_cases h : k = a
    · subst h
      simp only [beq_self_eq_true, if_true, mget]
      by_cases h2 : j = k <;> simp [h2]
    · have hb : (k == a) = false := by simpa using h
      simp only [hb, Bool.false_eq_true, if_false, mget]
      by_cases h2 : j = a
      · subst h2; have : ¬ j = k := fun e => h e.symm; simp [this]
      · have hb2 : (j == a) = false := by simpa using h2
        simp [hb2, ih]

theorem index_loop (x : Int) : ∀ (l : List Int) (k : Nat), (SlicesIndexLint.loop1 x l k = .next () ∧ x ∉ l) ∨ (∃ j : Nat, SlicesIndexLint.loop1 x l k = .ret (((k + j : Nat) : Nat) : Int) ∧ l[j]? = some x)
  | [], k => .inl ⟨rfl, by simp⟩
  | y :: r, k => by
    by_cases h : x = y
    · subst h; exact .inr ⟨0, by simp [SlicesIndexLint.loop1], rfl⟩
    · have hb : (x == y) = false := by simpa using h
      rcases index_loop x r (k + 1) with ⟨h1, h2⟩ | ⟨j, h1, h2⟩
      · exact .inl ⟨by simp [SlicesIndexLint.loop1, hb, h1], by simp [h, h2]⟩
      · refine .inr ⟨j + 1, ?_, by simpa using h2⟩
        simp only [SlicesIndexLint.loop1, hb, Bool.false_eq_true, if_false, h1]
        have e : k + 1 + j = k + (j + 1) := by omega
        rw [e]
theorem index_cases (l : List Int) (x : Int) : (SlicesIndexLint l x = -1 ∧ x ∉ l) ∨ (∃ j : Nat, SlicesIndexLint l x = (j : Int) ∧ l[j]? = some x) := by
  unfold SlicesIndexLint
  rcases index_loop x l 0 with ⟨h1, h2⟩ | ⟨j, h1, h2⟩
  · exact .inl ⟨by simp [h1, bnd_eq], h2⟩
  · exact .inr ⟨j, by simp [h1, bnd_eq], h2⟩
theorem contains_eq (l : List Int) (x : Int) : SlicesContainsLint l x = l.contains x := by
  unfold SlicesContainsLint
  rcases index_cases l x with ⟨h1, h2⟩ | ⟨j, h1, h2⟩
  · rw [h1]; simp [h2]
  · rw [h1]; have := List.mem_of_getElem? h2; simp [this]

theorem within_ref : Fishref2within = Fleetwithin := rfl

def Rel (m : List (Int × Bool)) (q : List Int) : Prop := ∀ x, (mget m x).getD false = q.contains x

theorem track_eq : ∀ (l : List Int) (m : List (Int × Bool)) (q : List Int), Rel m q → q.length + l.length < 4294967296 →
    (∃ c, Fishref2DepotFault.loop2 l q = some (.ret c) ∧ FleetCheckDepot.loop2 l m = .ret c) ∨
    ∃ q' m', Fishref2DepotFault.loop2 l q = some (.next q') ∧ FleetCheckDepot.loop2 l m = .next m' ∧ Rel m' q' ∧ q'.length = q.length + l.length
  | [], m, q, hr, _ => .inr ⟨q, m, rfl, rfl, hr, by simp⟩
  | x :: l, m, q, hr, hl => by
    simp only [List.length_cons] at hl
    simp only [Fishref2DepotFault.loop2, FleetCheckDepot.loop2, within_ref, hr x, contains_eq]
    by_cases h1 : (!Fleetwithin x 0 99) = true
    · left; exact ⟨2, by rw [if_pos h1], by rw [if_pos h1]⟩
    · rw [if_neg h1, if_neg h1]
      by_cases h2 : q.contains x = true
      · left; exact ⟨6, by rw [if_pos h2], by rw [if_pos h2]⟩
      · rw [if_neg h2, if_neg h2]
        have ha : apd q [x] = some (q ++ [x]) := by simp [apd]; omega
        rw [ha]
        have hr' : Rel (mput m x true) (q ++ [x]) := by
          intro y
          rw [mget_put]
          by_cases h : y = x
          · subst h; simp
          · simp [h]; simpa using hr y
        rcases track_eq l (mput m x true) (q ++ [x]) hr' (by simp; omega) with ⟨c, h3, h4⟩ | ⟨q', m', h3, h4, h5, h6⟩
        · exact .inl ⟨c, h3, h4⟩
        · exact .inr ⟨q', m', h3, h4, h5, by rw [h6]; simp; omega⟩

theorem outer_eq (x0 : FleetDepot) : ∀ (ts : List (List Int)) (rs : List Int) (k : Nat) (m : List (Int × Bool)) (q : List Int),
    x0.Tracks.drop k = ts → x0.Room.drop k = rs → ts.length = rs.length → Rel m q → q.length ≤ 4 * k → k + ts.length ≤ 4 →
    (∃ c, FleetCheckDepot.loop1 x0 ts k m = some (.ret c) ∧ Fishref2DepotFault.loop1 x0 rs k q = some (.ret c)) ∨
    ∃ m' q', FleetCheckDepot.loop1 x0 ts k m = some (.next m') ∧ Fishref2DepotFault.loop1 x0 rs k q = some (.next q')
  | [], [], k, m, q, _, _, _, _, _, _ => .inr ⟨m, q, rfl, rfl⟩
  | [], _ :: _, _, _, _, _, _, h, _, _, _ => by simp at h
  | _ :: _, [], _, _, _, _, _, h, _, _, _ => by simp at h
  | t :: ts, r :: rs, k, m, q, ht, hr, hlen, hrel, hq, hk => by
    simp only [List.length_cons] at hk hlen
    obtain ⟨t1, t2, t3⟩ := drop_cons ht
    obtain ⟨r1, r2, r3⟩ := drop_cons hr
    simp only [FleetCheckDepot.loop1, Fishref2DepotFault.loop1, gx_nat, t2, r2, Option.bind_some, within_ref, bnd_eq]
    by_cases h1 : (!Fleetwithin r 1 4) = true
    · left; exact ⟨2, by rw [if_pos h1], by rw [if_pos h1]⟩
    · rw [if_neg h1, if_neg h1]
      by_cases h2 : decide ((t.length : Int) > r) = true
      · left; exact ⟨14, by rw [if_pos h2], by rw [if_pos h2]⟩
      · rw [if_neg h2, if_neg h2]
        have hr4 : r ≤ 4 := by
          unfold Fleetwithin at h1
          by_cases h : r ≥ 1 <;> simp [h, bnd_eq] at h1
          exact h1
        have ht4 : t.length ≤ 4 := by simp at h2; omega
        rcases track_eq t m q hrel (by omega) with ⟨c, h3, h4⟩ | ⟨q', m', h3, h4, h5, h6⟩
        · left; exact ⟨c, by rw [h4], by rw [h3]; rfl⟩
        · rw [h4, h3]
          exact outer_eq x0 ts rs (k + 1) m' q' t3 r3 (by omega) h5 (by omega) (by omega)

theorem check_eq (x0 : FleetDepot) : ∃ c, FleetCheckDepot x0 = some c ∧ Fishref2DepotFault x0 = some c := by
  unfold FleetCheckDepot Fishref2DepotFault
  rw [within_ref]
  by_cases h1 : (!Fleetwithin (x0.Room.length : Int) 1 4) = true
  · exact ⟨4, by rw [if_pos h1], by rw [if_pos h1]⟩
  · rw [if_neg h1, if_neg h1]
    by_cases h2 : ((x0.Tracks.length : Int) != (x0.Room.length : Int)) = true
    · exact ⟨1, by rw [if_pos h2], by rw [if_pos h2]⟩
    · rw [if_neg h2, if_neg h2]
      have h3 : x0.Tracks.length = x0.Room.length := by simp at h2; omega
      have h4 : x0.Room.length ≤ 4 := by
        unfold Fleetwithin at h1
        by_cases h : (x0.Room.length : Int) ≥ 1 <;> simp [h, bnd_eq] at h1
        omega
      rcases outer_eq x0 x0.Tracks x0.Room 0 [] [] rfl rfl h3 (fun x => by simp [mget]) (by simp) (by omega) with ⟨c, g1, g2⟩ | ⟨m', q', g1, g2⟩
      · exact ⟨c, by rw [g1]; rfl, by rw [g2]; rfl⟩
      · exact ⟨0, by rw [g1]; rfl, by rw [g2]; rfl⟩

theorem yards_true : Fishlaw2yards = some true := by decide +kernel

theorem behind_ret (x : Int) (r : Int × Int) : ∀ ts, FleetBehind.loop1 x ts = .ret r → Fishlaw2FleetDepots.loop1 x r ts = .ret true
  | [], h => by simp [FleetBehind.loop1] at h
  | t :: ts, h => by
    simp only [FleetBehind.loop1, Fishlaw2FleetDepots.loop1] at h ⊢
    by_cases h1 : decide (SlicesIndexLint t x ≥ 0) = true
    · rw [if_pos h1] at h ⊢
      injection h with h
      subst h
      simp [bnd_eq]
    · rw [if_neg h1] at h ⊢
      exact behind_ret x r ts h

theorem behind_next (x : Int) (r : Int × Int) : ∀ ts, FleetBehind.loop1 x ts = .next () → Fishlaw2FleetDepots.loop1 x r ts = .next ()
  | [], _ => rfl
  | t :: ts, h => by
    simp only [FleetBehind.loop1, Fishlaw2FleetDepots.loop1] at h ⊢
    by_cases h1 : decide (SlicesIndexLint t x ≥ 0) = true
    · rw [if_pos h1] at h; cases h
    · rw [if_neg h1] at h ⊢
      exact behind_next x r ts h

theorem FleetDepots_law (x0 : FleetDepot) (x1 : Int) (_ : -9223372036854775808 ≤ x1 ∧ x1 ≤ 9223372036854775807) : Fishlaw2FleetDepots x0 x1 = some true := by
  obtain ⟨c, h1, h2⟩ := check_eq x0
  unfold Fishlaw2FleetDepots FleetBehind
  simp only [h1, h2, yards_true, Option.bind_some, Bool.not_true, Bool.false_eq_true, if_false]
  by_cases hc : c = 0
  · subst hc
    simp only [bne_self_eq_false, Bool.false_eq_true, if_false, Option.bind_some, bnd_eq]
    rcases h3 : FleetBehind.loop1 x1 x0.Tracks with r | _
    · simp only [Option.bind_some, behind_ret x1 r _ h3]
    · simp only [Option.bind_some, behind_next x1 _ _ h3]
      rfl
  · have hb : (c != 0) = true := by simpa using hc
    simp [hb, bnd_eq]

end Go.Fp
