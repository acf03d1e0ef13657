/- FleetMoves: the mirror of the law is true of all depots and moves. -/
import Derived.Test.YtpoooohaoekbaaaFleetMovesM
import Derived.Test.YtpoooohaoekbaaaFpPlain
namespace Go.Fp

theorem mget_put (m : List (Int × Bool)) (k j : Int) (v : Bool) : mget (mput m k v) j = if j = k then some v else mget m j := by
  induction m with
  | nil => simp [mput, mget]
  | cons p r ih =>
    obtain ⟨a, b⟩ := p
    simp only [mput]
    by_cases h : k = a
    · subst h
      simp only [beq_self_eq_true, if_true, mget]
      by_cases h2 : j = k <;> simp [h2]
    · have hb : (k == a) = false := by simpa using h
      simp only [hb, Bool.false_eq_true, if_false, mget]
      by_cases h2 : j = a
      · subst h2; have : ¬ j = k := fun e => h e.symm; simp [this]
      · have hb2 : (j == a) = false := by simpa using h2
        simp [hb2, ih]

theorem index_loop (x : Int) : ∀ (l : List Int) (k : Nat), (SlicesIndexLint.loop1 x l k = .next () ∧ x ∉ l) ∨ (∃ j : Nat, SlicesIndexLint.loop1 x l k = .ret (((k + j : Nat) : Nat) : Int) ∧ l[j]? = some x)
  | [], k => .inl ⟨rfl, by simp⟩
  | y :: r, k => by
    by_cases h : x = y
    · subst h; exact .inr ⟨0, by simp [SlicesIndexLint.loop1], rfl⟩
    · have hb : (x == y) = false := by simpa using h
      rcases index_loop x r (k + 1) with ⟨h1, h2⟩ | ⟨j, h1, h2⟩
      · exact .inl ⟨by simp [SlicesIndexLint.loop1, hb, h1], by simp [h, h2]⟩
      · refine .inr ⟨j + 1, ?_, by simpa using h2⟩
        simp only [SlicesIndexLint.loop1, hb, Bool.false_eq_true, if_false, h1]
        have e : k + 1 + j = k + (j + 1) := by omega
        rw [e]
theorem index_cases (l : List Int) (x : Int) : (SlicesIndexLint l x = -1 ∧ x ∉ l) ∨ (∃ j : Nat, SlicesIndexLint l x = (j : Int) ∧ l[j]? = some x) := by
  unfold SlicesIndexLint
  rcases index_loop x l 0 with ⟨h1, h2⟩ | ⟨j, h1, h2⟩
  · exact .inl ⟨by simp [h1, bnd_eq], h2⟩
  · exact .inr ⟨j, by simp [h1, bnd_eq], h2⟩
theorem contains_eq (l : List Int) (x : Int) : SlicesContainsLint l x = l.contains x := by
  unfold SlicesContainsLint
  rcases index_cases l x with ⟨h1, h2⟩ | ⟨j, h1, h2⟩
  · rw [h1]; simp [h2]
  · rw [h1]; have := List.mem_of_getElem? h2; simp [this]

theorem within_ref : Fishref2within = Fleetwithin := rfl

def Rel (m : List (Int × Bool)) (q : List Int) : Prop := ∀ x, (mget m x).getD false = q.contains x

theorem track_eq : ∀ (l : List Int) (m : List (Int × Bool)) (q : List Int), Rel m q → q.length + l.length < 4294967296 →
    (∃ c, Fishref2DepotFault.loop2 l q = some (.ret c) ∧ FleetCheckDepot.loop2 l m = .ret c) ∨
    ∃ q' m', Fishref2DepotFault.loop2 l q = some (.next q') ∧ FleetCheckDepot.loop2 l m = .next m' ∧ Rel m' q' ∧ q'.length = q.length + l.length
  | [], m, q, hr, _ => .inr ⟨q, m, rfl, rfl, hr, by simp⟩
  | x :: l, m, q, hr, hl => by
    simp only [List.length_cons] at hl
    simp only [Fishref2DepotFault.loop2, FleetCheckDepot.loop2, within_ref, hr x, contains_eq]
    by_cases h1 : (!Fleetwithin x 0 99) = true
    · left; exact ⟨2, by rw [if_pos h1], by rw [if_pos h1]⟩
    · rw [if_neg h1, if_neg h1]
      by_cases h2 : q.contains x = true
      · left; exact ⟨6, by rw [if_pos h2], by rw [if_pos h2]⟩
      · rw [if_neg h2, if_neg h2]
        have ha : apd q [x] = some (q ++ [x]) := by simp [apd]; omega
        rw [ha]
        have hr' : Rel (mput m x true) (q ++ [x]) := by
          intro y
          rw [mget_put]
          by_cases h : y = x
          · subst h; simp
          · simp [h]; simpa using hr y
        rcases track_eq l (mput m x true) (q ++ [x]) hr' (by simp; omega) with ⟨c, h3, h4⟩ | ⟨q', m', h3, h4, h5, h6⟩
        · exact .inl ⟨c, h3, h4⟩
        · exact .inr ⟨q', m', h3, h4, h5, by rw [h6]; simp; omega⟩

theorem outer_eq (x0 : FleetDepot) : ∀ (ts : List (List Int)) (rs : List Int) (k : Nat) (m : List (Int × Bool)) (q : List Int),
    x0.Tracks.drop k = ts → x0.Room.drop k = rs → ts.length = rs.length → Rel m q → q.length ≤ 4 * k → k + ts.length ≤ 4 →
    (∃ c, FleetCheckDepot.loop1 x0 ts k m = some (.ret c) ∧ Fishref2DepotFault.loop1 x0 rs k q = some (.ret c)) ∨
    ∃ m' q', FleetCheckDepot.loop1 x0 ts k m = some (.next m') ∧ Fishref2DepotFault.loop1 x0 rs k q = some (.next q')
  | [], [], k, m, q, _, _, _, _, _, _ => .inr ⟨m, q, rfl, rfl⟩
  | [], _ :: _, _, _, _, _, _, h, _, _, _ => by simp at h
  | _ :: _, [], _, _, _, _, _, h, _, _, _ => by simp at h
  | t :: ts, r :: rs, k, m, q, ht, hr, hlen, hrel, hq, hk => by
    simp only [List.length_cons] at hk hlen
    obtain ⟨t1, t2, t3⟩ := drop_cons ht
    obtain ⟨r1, r2, r3⟩ := drop_cons hr
    simp only [FleetCheckDepot.loop1, Fishref2DepotFault.loop1, gx_nat, t2, r2, Option.bind_some, within_ref, bnd_eq]
    by_cases h1 : (!Fleetwithin r 1 4) = true
    · left; exact ⟨2, by rw [if_pos h1], by rw [if_pos h1]⟩
    · rw [if_neg h1, if_neg h1]
      by_cases h2 : decide ((t.length : Int) > r) = true
      · left; exact ⟨14, by rw [if_pos h2], by rw [if_pos h2]⟩
      · rw [if_neg h2, if_neg h2]
        have hr4 : r ≤ 4 := by
          unfold Fleetwithin at h1
          by_cases h : r ≥ 1 <;> simp [h, bnd_eq] at h1
          exact h1
        have ht4 : t.length ≤ 4 := by simp at h2; omega
        rcases track_eq t m q hrel (by omega) with ⟨c, h3, h4⟩ | ⟨q', m', h3, h4, h5, h6⟩
        · left; exact ⟨c, by rw [h4], by rw [h3]; rfl⟩
        · rw [h4, h3]
          exact outer_eq x0 ts rs (k + 1) m' q' t3 r3 (by omega) h5 (by omega) (by omega)

theorem check_eq (x0 : FleetDepot) : ∃ c, FleetCheckDepot x0 = some c ∧ Fishref2DepotFault x0 = some c := by
  unfold FleetCheckDepot Fishref2DepotFault
  rw [within_ref]
  by_cases h1 : (!Fleetwithin (x0.Room.length : Int) 1 4) = true
  · exact ⟨4, by rw [if_pos h1], by rw [if_pos h1]⟩
  · rw [if_neg h1, if_neg h1]
    by_cases h2 : ((x0.Tracks.length : Int) != (x0.Room.length : Int)) = true
    · exact ⟨1, by rw [if_pos h2], by rw [if_pos h2]⟩
    · rw [if_neg h2, if_neg h2]
      have h3 : x0.Tracks.length = x0.Room.length := by simp at h2; omega
      have h4 : x0.Room.length ≤ 4 := by
        unfold Fleetwithin at h1
        by_cases h : (x0.Room.length : Int) ≥ 1 <;> simp [h, bnd_eq] at h1
        omega
      rcases outer_eq x0 x0.Tracks x0.Room 0 [] [] rfl rfl h3 (fun x => by simp [mget]) (by simp) (by omega) with ⟨c, g1, g2⟩ | ⟨m', q', g1, g2⟩
      · exact ⟨c, by rw [g1]; rfl, by rw [g2]; rfl⟩
      · exact ⟨0, by rw [g1]; rfl, by rw [g2]; rfl⟩

theorem equal_refl (l : List Int) : SlicesEqualLint l l = some true := by
  have key : ∀ (r : List Int) (k : Nat), l.drop k = r → SlicesEqualLint.loop1 l r k = some (.next ()) := by
    intro r
    induction r with
    | nil => intro k _; rfl
    | cons v r ih =>
      intro k hd
      obtain ⟨d1, d2, d3⟩ := drop_cons hd
      simp only [SlicesEqualLint.loop1, gx_nat, d2, Option.bind_some, bne_self_eq_false, Bool.false_eq_true, if_false]
      exact ih (k + 1) d3
  unfold SlicesEqualLint
  simp [key l 0 rfl]
theorem equalf_refl (l : List (List Int)) : SlicesEqualFuncLLint_v1 l l = some true := by
  have key : ∀ (r : List (List Int)) (k : Nat), l.drop k = r → SlicesEqualFuncLLint_v1.loop1 l r k = some (.next ()) := by
    intro r
    induction r with
    | nil => intro k _; rfl
    | cons v r ih =>
      intro k hd
      obtain ⟨d1, d2, d3⟩ := drop_cons hd
      simp only [SlicesEqualFuncLLint_v1.loop1, gx_nat, d2, Option.bind_some, equal_refl, Bool.not_true, Bool.false_eq_true, if_false]
      exact ih (k + 1) d3
  unfold SlicesEqualFuncLLint_v1
  simp [key l 0 rfl]
theorem yards_true : Fishlaw2yards = some true := by decide +kernel
theorem same_refl (d : FleetDepot) : Fishref2SameDepot d d = some true := by
  unfold Fishref2SameDepot; simp [equal_refl, equalf_refl]

theorem within_iff (n a b : Int) : Fleetwithin n a b = decide (a ≤ n ∧ n ≤ b) := by
  unfold Fleetwithin bnd
  by_cases h : n ≥ a
  · by_cases h2 : n ≤ b <;> simp [h, h2]
  · simp [h]

/-- a right depot -/
structure V (d : FleetDepot) : Prop where
  n1 : 1 ≤ d.Room.length
  n4 : d.Room.length ≤ 4
  tn : d.Tracks.length = d.Room.length
  rm : ∀ (i : Nat) (t : List Int) (r : Int), d.Tracks[i]? = some t → d.Room[i]? = some r → 1 ≤ r ∧ r ≤ 4 ∧ (t.length : Int) ≤ r
  rg : ∀ s ∈ d.Tracks.flatten, 0 ≤ s ∧ s ≤ 99
  nd : d.Tracks.flatten.Nodup

theorem l2 : ∀ (l q q' : List Int), q.Nodup → Fishref2DepotFault.loop2 l q = some (.next q') → q' = q ++ l ∧ (∀ s ∈ l, 0 ≤ s ∧ s ≤ 99) ∧ (q ++ l).Nodup
  | [], q, q', hq, h => by simp [Fishref2DepotFault.loop2] at h; subst h; simp [hq]
  | x :: l, q, q', hq, h => by
    simp only [Fishref2DepotFault.loop2, within_ref, within_iff, contains_eq] at h
    by_cases h1 : 0 ≤ x ∧ x ≤ 99
    · simp only [h1, and_self, decide_true, Bool.not_true, Bool.false_eq_true, if_false] at h
      by_cases h2 : x ∈ q
      · simp [h2] at h
      · have hc : q.contains x = false := by simpa using h2
        simp only [hc, Bool.false_eq_true, if_false] at h
        rcases ha : apd q [x] with _ | y
        · rw [ha] at h; simp at h
        · rw [ha] at h
          obtain ⟨_, rfl⟩ := apd_some ha
          have hn : (q ++ [x]).Nodup := by
            rw [List.nodup_append]
            exact ⟨hq, by simp, fun a ha' b hb => by simp at hb; subst hb; intro e; subst e; exact h2 ha'⟩
          obtain ⟨e1, e2, e3⟩ := l2 l (q ++ [x]) q' hn h
          refine ⟨by simpa using e1, ?_, by simpa using e3⟩
          intro s hs
          rcases List.mem_cons.1 hs with rfl | hs
          · exact h1
          · exact e2 s hs
    · have : decide (0 ≤ x ∧ x ≤ 99) = false := by simpa using h1
      simp [this] at h
theorem l2' : ∀ (l q : List Int), (∀ s ∈ l, 0 ≤ s ∧ s ≤ 99) → (q ++ l).Nodup → (q ++ l).length < 4294967296 → Fishref2DepotFault.loop2 l q = some (.next (q ++ l))
  | [], q, _, _, _ => by simp [Fishref2DepotFault.loop2]
  | x :: l, q, h1, h2, h3 => by
    have hx : x ∉ q := by
      rw [List.nodup_append] at h2
      intro hq
      exact h2.2.2 x hq x (by simp) rfl
    have hc : q.contains x = false := by simpa using hx
    have hr := h1 x (by simp)
    simp only [List.length_append, List.length_cons] at h3
    have ha : apd q [x] = some (q ++ [x]) := by unfold apd; rw [if_pos (by simp; omega)]
    simp only [Fishref2DepotFault.loop2, within_ref, within_iff, contains_eq, hr, and_self, decide_true, Bool.not_true, Bool.false_eq_true, if_false, hc, ha, Option.bind_some]
    rw [l2' l (q ++ [x]) (fun s hs => h1 s (by simp [hs])) (by simpa using h2) (by simp; omega)]
    simp

theorem l1 (d : FleetDepot) (hn : d.Tracks.length = d.Room.length) : ∀ (rs : List Int) (k : Nat) (q q' : List Int), d.Room.drop k = rs → q.Nodup → Fishref2DepotFault.loop1 d rs k q = some (.next q') →
    (∀ (i : Nat) (t : List Int) (r : Int), k ≤ i → d.Tracks[i]? = some t → d.Room[i]? = some r → 1 ≤ r ∧ r ≤ 4 ∧ (t.length : Int) ≤ r) ∧ (∀ s ∈ (d.Tracks.drop k).flatten, 0 ≤ s ∧ s ≤ 99) ∧ (q ++ (d.Tracks.drop k).flatten).Nodup
  | [], k, q, q', hd, hq, h => by
    have hk := drop_nil hd
    refine ⟨fun i t r hi _ hr => ?_, ?_, ?_⟩
    · rw [List.getElem?_eq_none (by omega)] at hr; cases hr
    · rw [List.drop_eq_nil_of_le (by omega)]; simp
    · rw [List.drop_eq_nil_of_le (by omega)]; simpa using hq
  | r :: rs, k, q, q', hd, hq, h => by
    obtain ⟨d1, d2, d3⟩ := drop_cons hd
    have hk : k < d.Tracks.length := by omega
    have hg : gx d.Tracks ((k : Nat) : Int) = some d.Tracks[k] := by rw [gx_nat]; exact List.getElem?_eq_getElem hk
    simp only [Fishref2DepotFault.loop1, within_ref, within_iff, hg, Option.bind_some] at h
    by_cases h1 : 1 ≤ r ∧ r ≤ 4
    · simp only [h1, and_self, decide_true, Bool.not_true, Bool.false_eq_true, if_false] at h
      by_cases h2 : (d.Tracks[k].length : Int) > r
      · simp [h2] at h
      · simp only [h2, decide_false, Bool.false_eq_true, if_false] at h
        rcases h3 : Fishref2DepotFault.loop2 d.Tracks[k] q with _ | o
        · rw [h3] at h; simp at h
        · rw [h3] at h
          rcases o with c | q2
          · simp at h
          · simp only [Option.bind_some] at h
            obtain ⟨e1, e2, e3⟩ := l2 _ _ _ hq h3
            subst e1
            obtain ⟨f1, f2, f3⟩ := l1 d hn rs (k + 1) _ q' d3 e3 h
            have hdk : d.Tracks.drop k = d.Tracks[k] :: d.Tracks.drop (k + 1) := List.drop_eq_getElem_cons hk
            refine ⟨?_, ?_, ?_⟩
            · intro i t r' hi ht hr'
              rcases Nat.eq_or_lt_of_le hi with rfl | hi
              · rw [List.getElem?_eq_getElem hk] at ht; rw [d2] at hr'
                have et := Option.some.inj ht; have er := Option.some.inj hr'
                subst et; subst er
                exact ⟨h1.1, h1.2, by omega⟩
              · exact f1 i t r' hi ht hr'
            · rw [hdk]
              intro s hs
              simp only [List.flatten_cons, List.mem_append] at hs
              rcases hs with hs | hs
              · exact e2 s hs
              · exact f2 s hs
            · rw [hdk, List.flatten_cons, ← List.append_assoc]; exact f3
    · have : decide (1 ≤ r ∧ r ≤ 4) = false := by simpa using h1
      simp [this] at h

theorem l1' (d : FleetDepot) (hV : V d) (hlen : d.Tracks.flatten.length < 4294967296) : ∀ (rs : List Int) (k : Nat) (q : List Int), d.Room.drop k = rs → q ++ (d.Tracks.drop k).flatten = d.Tracks.flatten →
    ∃ q', Fishref2DepotFault.loop1 d rs k q = some (.next q')
  | [], k, q, _, _ => ⟨q, rfl⟩
  | r :: rs, k, q, hd, hq => by
    obtain ⟨d1, d2, d3⟩ := drop_cons hd
    have hk : k < d.Tracks.length := by have := hV.tn; omega
    have hg : gx d.Tracks ((k : Nat) : Int) = some d.Tracks[k] := by rw [gx_nat]; exact List.getElem?_eq_getElem hk
    obtain ⟨a1, a2, a3⟩ := hV.rm k _ r (List.getElem?_eq_getElem hk) d2
    have hdk : d.Tracks.drop k = d.Tracks[k] :: d.Tracks.drop (k + 1) := List.drop_eq_getElem_cons hk
    rw [hdk, List.flatten_cons, ← List.append_assoc] at hq
    have hsub : (q ++ d.Tracks[k]).Sublist d.Tracks.flatten := by rw [← hq]; exact List.sublist_append_left _ _
    have hlen2 := hsub.length_le
    have e := l2' d.Tracks[k] q (fun s hs => hV.rg s (hsub.subset (by simp [hs]))) (hsub.nodup hV.nd) (by omega)
    have h2 : ¬ ((d.Tracks[k].length : Int) > r) := by omega
    simp only [Fishref2DepotFault.loop1, within_ref, within_iff, hg, Option.bind_some, a1, a2, and_self, decide_true, Bool.not_true, Bool.false_eq_true, if_false, h2, decide_false, e]
    exact l1' d hV hlen rs (k + 1) _ d3 hq

theorem flat_le : ∀ (ts : List (List Int)), (∀ t ∈ ts, t.length ≤ 4) → ts.flatten.length ≤ 4 * ts.length
  | [], _ => by simp
  | t :: ts, h => by
    have h1 := flat_le ts (fun u hu => h u (by simp [hu]))
    have h2 := h t (by simp)
    rw [List.flatten_cons, List.length_append, List.length_cons]
    omega
theorem fl_len (d : FleetDepot) (hV : V d) : d.Tracks.flatten.length ≤ 100 := by
  have h1 := flat_le d.Tracks (fun u hu => by
    obtain ⟨j, hj⟩ := List.getElem?_of_mem hu
    have hjl : j < d.Tracks.length := (List.getElem?_eq_some_iff.1 hj).1
    have := hV.tn
    obtain ⟨_, q2, q3⟩ := hV.rm j u _ hj (List.getElem?_eq_getElem (by omega))
    omega)
  have := hV.n4; have := hV.tn
  omega

theorem ref_V (d : FleetDepot) (h : Fishref2DepotFault d = some 0) : V d := by
  unfold Fishref2DepotFault at h
  rw [within_ref, within_iff] at h
  by_cases h1 : 1 ≤ (d.Room.length : Int) ∧ (d.Room.length : Int) ≤ 4
  · simp only [h1, and_self, decide_true, Bool.not_true, Bool.false_eq_true, if_false] at h
    by_cases h2 : (d.Tracks.length : Int) = (d.Room.length : Int)
    · have hb : ((d.Tracks.length : Int) != (d.Room.length : Int)) = false := by simpa using h2
      simp only [hb, Bool.false_eq_true, if_false] at h
      rcases h3 : Fishref2DepotFault.loop1 d d.Room 0 [] with _ | o
      · rw [h3] at h; simp at h
      · rw [h3] at h
        rcases o with c | q
        · simp at h
          subst h
          exfalso
          have key : ∀ (l q : List Int), Fishref2DepotFault.loop2 l q ≠ some (.ret 0) := by
            intro l
            induction l with
            | nil => intro q; simp [Fishref2DepotFault.loop2]
            | cons x l ih =>
              intro q
              simp only [Fishref2DepotFault.loop2]
              split
              · simp
              · split
                · simp
                · rcases apd q [x] with _ | y
                  · simp
                  · exact ih y
          have key1 : ∀ (rs : List Int) (k : Nat) (q : List Int), Fishref2DepotFault.loop1 d rs k q ≠ some (.ret 0) := by
            intro rs
            induction rs with
            | nil => intro k q; simp [Fishref2DepotFault.loop1]
            | cons x l ih =>
              intro k q
              simp only [Fishref2DepotFault.loop1]
              split
              · simp
              · rcases gx d.Tracks ((k : Nat) : Int) with _ | t
                · simp
                · simp only [Option.bind_some]
                  split
                  · simp
                  · rcases h4 : Fishref2DepotFault.loop2 t q with _ | o
                    · simp
                    · rcases o with c | q2
                      · simp only [Option.bind_some]
                        intro e
                        have := Option.some.inj e
                        injection this with this
                        subst this
                        exact key t q h4
                      · exact ih _ _
          exact key1 _ _ _ h3
        · obtain ⟨a, b, c⟩ := l1 d (by omega) d.Room 0 [] q rfl (by simp) h3
          exact ⟨by omega, by omega, by omega, fun i t r => a i t r (Nat.zero_le _), by simpa using b, by simpa using c⟩
    · have hb : ((d.Tracks.length : Int) != (d.Room.length : Int)) = true := by simpa using h2
      simp [hb] at h
  · have : decide (1 ≤ (d.Room.length : Int) ∧ (d.Room.length : Int) ≤ 4) = false := by simpa using h1
    simp [this] at h

theorem V_check (d : FleetDepot) (hV : V d) : FleetCheckDepot d = some 0 := by
  obtain ⟨c, e1, e2⟩ := check_eq d
  rw [e1]
  unfold Fishref2DepotFault at e2
  obtain ⟨q', h⟩ := l1' d hV (by have := fl_len d hV; omega) d.Room 0 [] rfl (by simp)
  have h1 := hV.n1; have h4 := hV.n4; have ht := hV.tn
  have g1 : 1 ≤ (d.Room.length : Int) ∧ (d.Room.length : Int) ≤ 4 := by omega
  have g2 : ((d.Tracks.length : Int) != (d.Room.length : Int)) = false := by simp; omega
  simp only [within_ref, within_iff, g1, and_self, decide_true, Bool.not_true, Bool.false_eq_true, if_false, g2, h, Option.bind_some] at e2
  exact e2.symm

theorem clone_eq (l : List Int) (h : l.length < 4294967296) : SlicesCloneLint l = some l := by
  unfold SlicesCloneLint
  have : apd [] l = some l := by unfold apd; rw [if_pos (by simpa using h)]; simp
  simp [this]

theorem do_loop : ∀ (ts acc : List (List Int)), acc.length + ts.length < 4294967296 → (∀ t ∈ ts, t.length < 4294967296) → Fleetdo.loop1 ts acc = some (acc ++ ts)
  | [], acc, _, _ => by simp [Fleetdo.loop1]
  | t :: ts, acc, h, ht => by
    simp only [List.length_cons] at h
    have ha : apd acc [t] = some (acc ++ [t]) := by unfold apd; rw [if_pos (by simp; omega)]
    simp only [Fleetdo.loop1, clone_eq t (ht t (by simp)), ha, Option.bind_some]
    rw [do_loop ts (acc ++ [t]) (by simp; omega) (fun t h => ht t (by simp [h]))]
    simp
theorem moved_loop : ∀ (ts acc : List (List Int)), Fishref2Moved.loop1 ts acc = Fleetdo.loop1 ts acc
  | [], acc => rfl
  | t :: ts, acc => by simp only [Fishref2Moved.loop1, Fleetdo.loop1, moved_loop ts]
theorem play_loop : ∀ (ts acc : List (List Int)), FleetPlay.loop1 ts acc = Fleetdo.loop1 ts acc
  | [], acc => rfl
  | t :: ts, acc => by simp only [FleetPlay.loop1, Fleetdo.loop1, play_loop ts]

theorem flat_perm {α : Type} : ∀ (l : List (List α)) (i : Nat) (a : List α), l[i]? = some a → l.flatten.Perm (a ++ (l.eraseIdx i).flatten)
  | [], i, a, h => by simp at h
  | x :: l, 0, a, h => by simp at h; subst h; simp
  | x :: l, i + 1, a, h => by
    simp at h
    have ih := flat_perm l i a h
    simp only [List.flatten_cons, List.eraseIdx_cons_succ]
    refine (ih.append_left x).trans ?_
    rw [← List.append_assoc, ← List.append_assoc]
    exact List.perm_append_comm.append_right _
theorem flat_set {α : Type} (l : List (List α)) (i : Nat) (b : List α) (hi : i < l.length) : (l.set i b).flatten.Perm (b ++ (l.eraseIdx i).flatten) := by
  have := flat_perm (l.set i b) i b (by simp [hi])
  rwa [List.eraseIdx_set_eq] at this

/-- a move in a right depot -/
theorem step (d : FleetDepot) (hV : V d) (m : FleetMove) :
    (∃ e, e ≠ 0 ∧ Fleetdo d m = some (⟨[], []⟩, 0, e) ∧ Fishref2Moved d m = some (⟨[], []⟩, -1, e)) ∨
    ∃ d' s, Fleetdo d m = some (d', s, 0) ∧ V d' ∧ 0 ≤ s ∧ d'.Tracks.flatten.length + (if m.To < 0 then 1 else 0) = d.Tracks.flatten.length ∧ Fishref2Moved d m = some (d', if m.To < 0 then s else -1, 0) := by
  have h1 := hV.n1; have h4 := hV.n4; have htn := hV.tn
  have hw : w64 ((d.Tracks.length : Int) - 1) = (d.Tracks.length : Int) - 1 := w64_id (by omega)
  have hcond : (if !(Fleetdo_1_v1 m.From d) then true else (if !(Fleetdo_1_v1 m.To d) then (m.To != (-1)) else false)) = (if decide (m.From < 0) then true else (if decide (m.From ≥ ((d.Room).length : Int)) then true else (if decide (m.To < (-1)) then true else decide (m.To ≥ ((d.Room).length : Int))))) := by
    unfold Fleetdo_1_v1
    simp only [within_iff, hw]
    by_cases a1 : m.From < 0
    · have : ¬ (0 ≤ m.From ∧ m.From ≤ (d.Tracks.length : Int) - 1) := by omega
      simp [a1, this]
    · by_cases a2 : m.From ≥ (d.Room.length : Int)
      · have : ¬ (0 ≤ m.From ∧ m.From ≤ (d.Tracks.length : Int) - 1) := by omega
        simp [a1, a2, this]
      · have a3 : 0 ≤ m.From ∧ m.From ≤ (d.Tracks.length : Int) - 1 := by omega
        simp only [a3, and_self, decide_true, Bool.not_true, Bool.false_eq_true, if_false, a1, a2, decide_false]
        by_cases b1 : m.To < -1
        · have b2 : ¬ (0 ≤ m.To ∧ m.To ≤ (d.Tracks.length : Int) - 1) := by omega
          have b3 : (m.To != -1) = true := by simp; omega
          simp [b1, b2, b3]
        · by_cases b4 : m.To ≥ (d.Room.length : Int)
          · have b2 : ¬ (0 ≤ m.To ∧ m.To ≤ (d.Tracks.length : Int) - 1) := by omega
            have b3 : (m.To != -1) = true := by simp; omega
            simp [b1, b2, b3, b4]
          · by_cases b5 : m.To = -1
            · simp [b5]; omega
            · have b6 : 0 ≤ m.To ∧ m.To ≤ (d.Tracks.length : Int) - 1 := by omega
              simp [b1, b4, b6]
  unfold Fleetdo Fishref2Moved
  simp only [hcond, bnd_eq]
  by_cases c1 : (if decide (m.From < 0) then true else (if decide (m.From ≥ ((d.Room).length : Int)) then true else (if decide (m.To < (-1)) then true else decide (m.To ≥ ((d.Room).length : Int))))) = true
  · left; exact ⟨2, by decide, by rw [if_pos c1], by rw [if_pos c1]⟩
  rw [if_neg c1, if_neg c1]
  have hF : 0 ≤ m.From ∧ m.From < d.Room.length ∧ -1 ≤ m.To ∧ m.To < d.Room.length := by
    by_cases a1 : m.From < 0
    · simp [a1] at c1
    by_cases a2 : m.From ≥ (d.Room.length : Int)
    · simp [a1, a2] at c1
    by_cases a3 : m.To < -1
    · simp [a1, a2, a3] at c1
    by_cases a4 : m.To ≥ (d.Room.length : Int)
    · simp [a1, a2, a3, a4] at c1
    omega
  clear c1 hcond
  by_cases c2 : m.From = m.To
  · have : (m.From == m.To) = true := by simpa using c2
    left; exact ⟨1, by decide, by rw [if_pos this], by rw [if_pos this]⟩
  have c2' : (m.From == m.To) = false := by simpa using c2
  rw [c2']
  simp only [Bool.false_eq_true, if_false]
  have hi : m.From.toNat < d.Tracks.length := by omega
  have gT : gx d.Tracks m.From = some d.Tracks[m.From.toNat] := by unfold gx; rw [if_pos hF.1]; exact List.getElem?_eq_getElem hi
  generalize ht : d.Tracks[m.From.toNat] = t at gT
  have htT : d.Tracks[m.From.toNat]? = some t := by rw [List.getElem?_eq_getElem hi, ht]
  rw [gT]
  simp only [Option.bind_some]
  by_cases c3 : t = []
  · subst c3
    left; exact ⟨9, by decide, by simp, by simp⟩
  have hpos : 0 < t.length := List.length_pos_iff.2 c3
  have c3' : ((t.length : Int) == 0) = false := by simp [c3]
  rw [c3']
  simp only [Bool.false_eq_true, if_false]
  have hrF : d.Room[m.From.toNat]? = some (d.Room[m.From.toNat]'(by omega)) := List.getElem?_eq_getElem (by omega)
  obtain ⟨rF1, rF2, rF3⟩ := hV.rm _ _ _ htT hrF
  have hlens : ∀ t ∈ d.Tracks, t.length < 4294967296 := by
    intro u hu
    obtain ⟨j, hj⟩ := List.getElem?_of_mem hu
    have hjl : j < d.Tracks.length := (List.getElem?_eq_some_iff.1 hj).1
    obtain ⟨_, q2, q3⟩ := hV.rm j u _ hj (List.getElem?_eq_getElem (by omega))
    omega
  have hcl : SlicesCloneLint d.Room = some d.Room := clone_eq _ (by omega)
  have hlp : Fleetdo.loop1 d.Tracks [] = some d.Tracks := by rw [do_loop d.Tracks [] (by simp; omega) hlens]; simp
  have hw2 : w64 ((t.length : Int) - 1) = ((t.length - 1 : Nat) : Int) := by rw [w64_id (by omega)]; omega
  have hlast : gx t (w64 ((t.length : Int) - 1)) = some (t[t.length - 1]'(by omega)) := by rw [hw2, gx_nat]; exact List.getElem?_eq_getElem (by omega)
  generalize hs : t[t.length - 1]'(by omega) = s at hlast
  have hcut : cutl t 0 (w64 ((t.length : Int) - 1)) = some (t.take (t.length - 1)) := by
    rw [hw2]; unfold cutl; rw [if_pos ⟨by omega, by omega, by omega⟩]; simp
  have hix : ix d.Tracks m.From = some () := by unfold ix; rw [if_pos ⟨hF.1, by omega⟩]
  have hsx : sx d.Tracks m.From (t.take (t.length - 1)) = some (d.Tracks.set m.From.toNat (t.take (t.length - 1))) := by unfold sx; rw [if_pos ⟨hF.1, by omega⟩]
  have hts : t = t.take (t.length - 1) ++ [s] := by
    have h5 : t.take (t.length - 1 + 1) = t.take (t.length - 1) ++ [t[t.length - 1]'(by omega)] := List.take_succ_eq_append_getElem (by omega)
    rw [hs] at h5
    have h6 : t.length - 1 + 1 = t.length := by omega
    rw [h6, List.take_length] at h5
    exact h5
  generalize ht' : t.take (t.length - 1) = t' at hts hcut hsx
  have htl : t'.length + 1 = t.length := by rw [hts]; simp
  have hperm : d.Tracks.flatten.Perm (s :: (d.Tracks.set m.From.toNat t').flatten) := by
    have p1 := flat_perm d.Tracks _ t htT
    have p2 := flat_set d.Tracks m.From.toNat t' hi
    rw [hts] at p1
    refine p1.trans ?_
    rw [List.append_assoc]
    refine List.Perm.trans ?_ (p2.cons s).symm
    exact (List.perm_middle (l₁ := t') (a := s) (l₂ := (d.Tracks.eraseIdx m.From.toNat).flatten)).symm.symm
  have hs0 : 0 ≤ s := (hV.rg s (hperm.symm.subset (by simp))).1
  have hV1 : V ⟨d.Room, d.Tracks.set m.From.toNat t'⟩ := by
    refine ⟨h1, h4, by simpa using htn, ?_, ?_, ?_⟩
    · intro i u r hu hr
      simp only at hu hr
      rw [List.getElem?_set] at hu
      by_cases hij : m.From.toNat = i
      · subst hij
        rw [if_pos rfl, if_pos hi] at hu
        have e := Option.some.inj hu; subst e
        obtain ⟨x1, x2, x3⟩ := hV.rm _ _ _ htT hr
        exact ⟨x1, x2, by omega⟩
      · rw [if_neg hij] at hu; exact hV.rm i u r hu hr
    · intro x hx; exact hV.rg x (hperm.symm.subset (List.mem_cons_of_mem _ hx))
    · have := hperm.nodup_iff.1 hV.nd; exact (List.nodup_cons.1 this).2
  have hlen1 : (d.Tracks.set m.From.toNat t').flatten.length + 1 = d.Tracks.flatten.length := by rw [hperm.length_eq]; simp
  by_cases c4 : m.To ≥ 0
  · have hj : m.To.toNat < d.Tracks.length := by omega
    have hne : m.From.toNat ≠ m.To.toNat := by omega
    have gU : gx d.Tracks m.To = some d.Tracks[m.To.toNat] := by unfold gx; rw [if_pos c4]; exact List.getElem?_eq_getElem hj
    generalize hu : d.Tracks[m.To.toNat] = u at gU
    have huT : d.Tracks[m.To.toNat]? = some u := by rw [List.getElem?_eq_getElem hj, hu]
    have gR : gx d.Room m.To = some (d.Room[m.To.toNat]'(by omega)) := by unfold gx; rw [if_pos c4]; exact List.getElem?_eq_getElem (by omega)
    generalize hr : d.Room[m.To.toNat]'(by omega) = r at gR
    have hrR : d.Room[m.To.toNat]? = some r := by rw [List.getElem?_eq_getElem (by omega), hr]
    have c5 : ¬ m.To < 0 := by omega
    simp only [c4, decide_true, if_true, gU, gR, Option.bind_some, c5, decide_false, Bool.false_eq_true, if_false]
    by_cases c6 : (u.length : Int) ≥ r
    · left; exact ⟨14, by decide, by simp [c6], by simp [c6]⟩
    · right
      obtain ⟨u1, u2, u3⟩ := hV.rm _ _ _ huT hrR
      simp only [c6, decide_false, Bool.false_eq_true, if_false, hcl, hlp, moved_loop, Option.bind_some, gT, hlast, hcut, hix, hsx]
      have gU1 : gx (d.Tracks.set m.From.toNat t') m.To = some u := by unfold gx; rw [if_pos c4, List.getElem?_set, if_neg hne]; exact huT
      have ha : apd u [s] = some (u ++ [s]) := by unfold apd; rw [if_pos (by simp; omega)]
      have hix1 : ix (d.Tracks.set m.From.toNat t') m.To = some () := by unfold ix; rw [if_pos ⟨c4, by simp; omega⟩]
      have hsx1 : sx (d.Tracks.set m.From.toNat t') m.To (u ++ [s]) = some ((d.Tracks.set m.From.toNat t').set m.To.toNat (u ++ [s])) := by unfold sx; rw [if_pos ⟨c4, by simp; omega⟩]
      simp only [gU1, ha, hix1, hsx1, Option.bind_some]
      have huT1 : (d.Tracks.set m.From.toNat t')[m.To.toNat]? = some u := by rw [List.getElem?_set, if_neg hne]; exact huT
      have hperm2 : ((d.Tracks.set m.From.toNat t').set m.To.toNat (u ++ [s])).flatten.Perm d.Tracks.flatten := by
        have p1 := flat_perm _ _ u huT1
        have p2 := flat_set (d.Tracks.set m.From.toNat t') m.To.toNat (u ++ [s]) (by simpa using hj)
        refine p2.trans (List.Perm.trans ?_ hperm.symm)
        rw [List.append_assoc]
        refine List.Perm.trans ?_ (p1.symm.cons s)
        exact List.perm_middle
      refine ⟨_, s, rfl, ?_, hs0, ?_, rfl⟩
      · refine ⟨h1, h4, by simpa using htn, ?_, ?_, ?_⟩
        · intro i x r' hx hr'
          simp only at hx hr'
          rw [List.getElem?_set] at hx
          by_cases hij : m.To.toNat = i
          · subst hij
            rw [if_pos rfl, if_pos (by simpa using hj)] at hx
            have e := Option.some.inj hx; subst e
            rw [hrR] at hr'
            have e2 := Option.some.inj hr'; subst e2
            exact ⟨u1, u2, by simp; omega⟩
          · rw [if_neg hij] at hx; exact hV1.rm i x r' hx hr'
        · intro x hx; exact hV.rg x (hperm2.subset hx)
        · exact hperm2.nodup_iff.2 hV.nd
      · rw [hperm2.length_eq]; rfl
  · have c5 : m.To < 0 := by omega
    right
    simp only [c4, c5, decide_true, decide_false, Bool.false_eq_true, if_false, if_true, Option.bind_some, hcl, hlp, moved_loop, gT, hlast, hcut, hix, hsx]
    exact ⟨_, s, rfl, hV1, hs0, hlen1, rfl⟩

theorem play_eq : ∀ (ms : List FleetMove) (d : FleetDepot) (out a1 a5 : List Int) (a2 a6 : List (List Int)), V d → out.length + d.Tracks.flatten.length ≤ 100 →
    (∃ e, e ≠ 0 ∧ FleetPlay.loop2 ms out a1 a2 d.Room d.Tracks = some (.ret (⟨[], []⟩, [], e)) ∧ Fishref2PlayOf.loop1 ms out d.Room d.Tracks a5 a6 = some (.ret (⟨[], []⟩, [], e))) ∨
    ∃ (out' : List Int) (d' : FleetDepot), FleetPlay.loop2 ms out a1 a2 d.Room d.Tracks = some (.next (out', a1, a2, d'.Room, d'.Tracks)) ∧ Fishref2PlayOf.loop1 ms out d.Room d.Tracks a5 a6 = some (.next (out', d'.Room, d'.Tracks, a5, a6))
  | [], d, out, a1, a5, a2, a6, _, _ => .inr ⟨out, d, rfl, rfl⟩
  | m :: ms, d, out, a1, a5, a2, a6, hV, ho => by
    simp only [FleetPlay.loop2, Fishref2PlayOf.loop1]
    rcases step d hV m with ⟨e, he, h1, h2⟩ | ⟨d', s, h1, h2, h3, h4, h5⟩
    · have hb : (e != 0) = true := by simpa using he
      left; exact ⟨e, he, by simp only [h1, Option.bind_some, hb, if_true], by simp only [h2, Option.bind_some, hb, if_true]⟩
    · simp only [h1, h5, Option.bind_some, bne_self_eq_false, Bool.false_eq_true, if_false]
      by_cases c : m.To < 0
      · rw [if_pos c] at h4
        have ha : apd out [s] = some (out ++ [s]) := by unfold apd; rw [if_pos (by simp; omega)]
        simp only [c, decide_true, if_true, ge_iff_le, h3, ha, Option.bind_some]
        exact play_eq ms d' (out ++ [s]) a1 a5 a2 a6 h2 (by rw [List.length_append, List.length_singleton]; omega)
      · rw [if_neg c] at h4
        have hm : ¬ (0 : Int) ≤ -1 := by omega
        simp only [c, decide_false, Bool.false_eq_true, if_false, ge_iff_le, hm, Option.bind_some]
        exact play_eq ms d' out a1 a5 a2 a6 h2 (by omega)

theorem law_loop : ∀ (ms : List FleetMove) (d : FleetDepot), V d → ∃ r r2, Fishlaw2FleetMoves.loop1 ms d.Room d.Tracks = some (.next (r, r2))
  | [], d, _ => ⟨_, _, rfl⟩
  | m :: ms, d, hV => by
    simp only [Fishlaw2FleetMoves.loop1, FleetDo, V_check d hV, Option.bind_some, bne_self_eq_false, Bool.false_eq_true, if_false]
    rcases step d hV m with ⟨e, he, h1, h2⟩ | ⟨d', s, h1, h2, h3, h4, h5⟩
    · have hb : (e != 0) = true := by simpa using he
      simp only [h1, h2, Option.bind_some, bne_self_eq_false, Bool.false_eq_true, if_false, same_refl, Bool.not_true, hb, if_true]
      exact ⟨_, _, rfl⟩
    · simp only [h1, h5, Option.bind_some, bne_self_eq_false, Bool.false_eq_true, if_false, same_refl, Bool.not_true]
      exact law_loop ms d' h2

theorem FleetMoves_law (d : FleetDepot) (ms : List FleetMove) (_ : ms.length ≤ 9223372036854775807) : Fishlaw2FleetMoves d ms = some true := by
  obtain ⟨c, e1, e2⟩ := check_eq d
  unfold Fishlaw2FleetMoves
  by_cases hc : c = 0
  · subst hc
    have hV := ref_V d e2
    have hlens : ∀ t ∈ d.Tracks, t.length < 4294967296 := by
      intro u hu
      obtain ⟨j, hj⟩ := List.getElem?_of_mem hu
      have hjl : j < d.Tracks.length := (List.getElem?_eq_some_iff.1 hj).1
      have := hV.tn
      obtain ⟨_, q2, q3⟩ := hV.rm j u _ hj (List.getElem?_eq_getElem (by omega))
      omega
    have h4 := hV.n4; have htn := hV.tn
    have hcl : SlicesCloneLint d.Room = some d.Room := clone_eq _ (by omega)
    have hlp : FleetPlay.loop1 d.Tracks [] = some d.Tracks := by rw [play_loop, do_loop d.Tracks [] (by simp; omega) hlens]; simp
    obtain ⟨r, r2, hl⟩ := law_loop ms d hV
    have hout := fl_len d hV
    unfold FleetPlay Fishref2PlayOf
    simp only [e1, e2, Option.bind_some, bne_self_eq_false, Bool.false_eq_true, if_false, hcl, hlp, yards_true, Bool.not_true]
    rcases play_eq ms d [] [] [] [] [] hV (by simpa using hout) with ⟨e, he, g1, g2⟩ | ⟨out', d', g1, g2⟩
    · simp [g1, g2, equal_refl, same_refl, hl]
    · simp [g1, g2, equal_refl, same_refl, hl]
  · have hb : (c != 0) = true := by simpa using hc
    unfold FleetPlay FleetDo
    simp only [e1, e2, Option.bind_some, hb, if_true, yards_true]
    simp [same_refl]

end Go.Fp
