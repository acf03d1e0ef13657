/- FleetShunts: the mirror of the law is true of all depots, kinds and wishes. -/
import Derived.Test.YtfhkpdnohcidgaaDoorFleetShuntsM
import Derived.Test.YtfhkpdnohcidgaaDoorFpPlain
import Derived.KernelRfl
namespace Go.Fp

theorem mget_put (m : List (Int × Bool)) (k j : Int) (v : Bool) : mget (mput m k v) j = if j = k then some v else mget m j := by
  induction m with
  | nil => simp [mput, mget]
  | cons p r ih =>
    obtain ⟨a, b⟩ := p
    simp only [mput]
    by_cases h : k = a
    · subst h
      simp only [beq_self_eq_true, if_true, mget]
      by_cases h2 : j = k <;> simp [h2]
    · have hb : (k == a) = false := by simpa using h
      simp only [hb, Bool.false_eq_true, if_false, mget]
      by_cases h2 : j = a
      · subst h2; have : ¬ j = k := fun e => h e.symm; simp [this]
      · have hb2 : (j == a) = false := by simpa using h2
        simp [hb2, ih]

theorem index_loop (x : Int) : ∀ (l : List Int) (k : Nat), (SlicesIndexLint.loop1 x l k = .next () ∧ x ∉ l) ∨ (∃ j : Nat, SlicesIndexLint.loop1 x l k = .ret (((k + j : Nat) : Nat) : Int) ∧ l[j]? = some x)
  | [], k => .inl ⟨rfl, by simp⟩
  | y :: r, k => by
    by_cases h : x = y
    · subst h; exact .inr ⟨0, by simp [SlicesIndexLint.loop1], rfl⟩
    · have hb : (x == y) = false := by simpa using h
      rcases index_loop x r (k + 1) with ⟨h1, h2⟩ | ⟨j, h1, h2⟩
      · exact .inl ⟨by simp [SlicesIndexLint.loop1, hb, h1], by simp [h, h2]⟩
      · refine .inr ⟨j + 1, ?_, by simpa using h2⟩
        simp only [SlicesIndexLint.loop1, hb, Bool.false_eq_true, if_false, h1]
        have e : k + 1 + j = k + (j + 1) := by omega
        rw [e]
theorem index_cases (l : List Int) (x : Int) : (SlicesIndexLint l x = -1 ∧ x ∉ l) ∨ (∃ j : Nat, SlicesIndexLint l x = (j : Int) ∧ l[j]? = some x) := by
  unfold SlicesIndexLint
  rcases index_loop x l 0 with ⟨h1, h2⟩ | ⟨j, h1, h2⟩
  · exact .inl ⟨by simp [h1, bnd_eq], h2⟩
  · exact .inr ⟨j, by simp [h1, bnd_eq], h2⟩
theorem contains_eq (l : List Int) (x : Int) : SlicesContainsLint l x = l.contains x := by
  unfold SlicesContainsLint
  rcases index_cases l x with ⟨h1, h2⟩ | ⟨j, h1, h2⟩
  · rw [h1]; simp [h2]
  · rw [h1]; have := List.mem_of_getElem? h2; simp [this]

theorem within_ref : Fishref2within = Fleetwithin := rfl

def Rel (m : List (Int × Bool)) (q : List Int) : Prop := ∀ x, (mget m x).getD false = q.contains x

theorem track_eq : ∀ (l : List Int) (m : List (Int × Bool)) (q : List Int), Rel m q → q.length + l.length < 4294967296 →
    (∃ c, Fishref2DepotFault.loop2 l q = some (.ret c) ∧ FleetCheckDepot.loop2 l m = .ret c) ∨
    ∃ q' m', Fishref2DepotFault.loop2 l q = some (.next q') ∧ FleetCheckDepot.loop2 l m = .next m' ∧ Rel m' q' ∧ q'.length = q.length + l.length
  | [], m, q, hr, _ => .inr ⟨q, m, rfl, rfl, hr, by simp⟩
  | x :: l, m, q, hr, hl => by
    simp only [List.length_cons] at hl
    simp only [Fishref2DepotFault.loop2, FleetCheckDepot.loop2, within_ref, hr x, contains_eq]
    by_cases h1 : (!Fleetwithin x 0 99) = true
    · left; exact ⟨2, by rw [if_pos h1], by rw [if_pos h1]⟩
    · rw [if_neg h1, if_neg h1]
      by_cases h2 : q.contains x = true
      · left; exact ⟨6, by rw [if_pos h2], by rw [if_pos h2]⟩
      · rw [if_neg h2, if_neg h2]
        have ha : apd q [x] = some (q ++ [x]) := by simp [apd]; omega
        rw [ha]
        have hr' : Rel (mput m x true) (q ++ [x]) := by
          intro y
          rw [mget_put]
          by_cases h : y = x
          · subst h; simp
          · simp [h]; simpa using hr y
        rcases track_eq l (mput m x true) (q ++ [x]) hr' (by simp; omega) with ⟨c, h3, h4⟩ | ⟨q', m', h3, h4, h5, h6⟩
        · exact .inl ⟨c, h3, h4⟩
        · exact .inr ⟨q', m', h3, h4, h5, by rw [h6]; simp; omega⟩

theorem outer_eq (x0 : FleetDepot) : ∀ (ts : List (List Int)) (rs : List Int) (k : Nat) (m : List (Int × Bool)) (q : List Int),
    x0.Tracks.drop k = ts → x0.Room.drop k = rs → ts.length = rs.length → Rel m q → q.length ≤ 4 * k → k + ts.length ≤ 4 →
    (∃ c, FleetCheckDepot.loop1 x0 ts k m = some (.ret c) ∧ Fishref2DepotFault.loop1 x0 rs k q = some (.ret c)) ∨
    ∃ m' q', FleetCheckDepot.loop1 x0 ts k m = some (.next m') ∧ Fishref2DepotFault.loop1 x0 rs k q = some (.next q')
  | [], [], k, m, q, _, _, _, _, _, _ => .inr ⟨m, q, rfl, rfl⟩
  | [], _ :: _, _, _, _, _, _, h, _, _, _ => by simp at h
  | _ :: _, [], _, _, _, _, _, h, _, _, _ => by simp at h
  | t :: ts, r :: rs, k, m, q, ht, hr, hlen, hrel, hq, hk => by
    simp only [List.length_cons] at hk hlen
    obtain ⟨t1, t2, t3⟩ := drop_cons ht
    obtain ⟨r1, r2, r3⟩ := drop_cons hr
    simp only [FleetCheckDepot.loop1, Fishref2DepotFault.loop1, gx_nat, t2, r2, Option.bind_some, within_ref, bnd_eq]
    by_cases h1 : (!Fleetwithin r 1 4) = true
    · left; exact ⟨2, by rw [if_pos h1], by rw [if_pos h1]⟩
    · rw [if_neg h1, if_neg h1]
      by_cases h2 : decide ((t.length : Int) > r) = true
      · left; exact ⟨14, by rw [if_pos h2], by rw [if_pos h2]⟩
      · rw [if_neg h2, if_neg h2]
        have hr4 : r ≤ 4 := by
          unfold Fleetwithin at h1
          by_cases h : r ≥ 1 <;> simp [h, bnd_eq] at h1
          exact h1
        have ht4 : t.length ≤ 4 := by simp at h2; omega
        rcases track_eq t m q hrel (by omega) with ⟨c, h3, h4⟩ | ⟨q', m', h3, h4, h5, h6⟩
        · left; exact ⟨c, by rw [h4], by rw [h3]; rfl⟩
        · rw [h4, h3]
          exact outer_eq x0 ts rs (k + 1) m' q' t3 r3 (by omega) h5 (by omega) (by omega)

theorem check_eq (x0 : FleetDepot) : ∃ c, FleetCheckDepot x0 = some c ∧ Fishref2DepotFault x0 = some c := by
  unfold FleetCheckDepot Fishref2DepotFault
  rw [within_ref]
  by_cases h1 : (!Fleetwithin (x0.Room.length : Int) 1 4) = true
  · exact ⟨4, by rw [if_pos h1], by rw [if_pos h1]⟩
  · rw [if_neg h1, if_neg h1]
    by_cases h2 : ((x0.Tracks.length : Int) != (x0.Room.length : Int)) = true
    · exact ⟨1, by rw [if_pos h2], by rw [if_pos h2]⟩
    · rw [if_neg h2, if_neg h2]
      have h3 : x0.Tracks.length = x0.Room.length := by simp at h2; omega
      have h4 : x0.Room.length ≤ 4 := by
        unfold Fleetwithin at h1
        by_cases h : (x0.Room.length : Int) ≥ 1 <;> simp [h, bnd_eq] at h1
        omega
      rcases outer_eq x0 x0.Tracks x0.Room 0 [] [] rfl rfl h3 (fun x => by simp [mget]) (by simp) (by omega) with ⟨c, g1, g2⟩ | ⟨m', q', g1, g2⟩
      · exact ⟨c, by rw [g1]; rfl, by rw [g2]; rfl⟩
      · exact ⟨0, by rw [g1]; rfl, by rw [g2]; rfl⟩

theorem within_iff (n a b : Int) : Fleetwithin n a b = decide (a ≤ n ∧ n ≤ b) := by
  unfold Fleetwithin bnd
  by_cases h : n ≥ a
  · by_cases h2 : n ≤ b <;> simp [h, h2]
  · simp [h]

/-- a right depot -/
structure V (d : FleetDepot) : Prop where
  n1 : 1 ≤ d.Room.length
  n4 : d.Room.length ≤ 4
  tn : d.Tracks.length = d.Room.length
  rm : ∀ (i : Nat) (t : List Int) (r : Int), d.Tracks[i]? = some t → d.Room[i]? = some r → 1 ≤ r ∧ r ≤ 4 ∧ (t.length : Int) ≤ r
  rg : ∀ s ∈ d.Tracks.flatten, 0 ≤ s ∧ s ≤ 99
  nd : d.Tracks.flatten.Nodup

theorem l2 : ∀ (l q q' : List Int), q.Nodup → Fishref2DepotFault.loop2 l q = some (.next q') → q' = q ++ l ∧ (∀ s ∈ l, 0 ≤ s ∧ s ≤ 99) ∧ (q ++ l).Nodup
  | [], q, q', hq, h => by simp [Fishref2DepotFault.loop2] at h; subst h; simp [hq]
  | x :: l, q, q', hq, h => by
    simp only [Fishref2DepotFault.loop2, within_ref, within_iff, contains_eq] at h
    by_cases h1 : 0 ≤ x ∧ x ≤ 99
    · simp only [h1, and_self, decide_true, Bool.not_true, Bool.false_eq_true, if_false] at h
      by_cases h2 : x ∈ q
      · simp [h2] at h
      · have hc : q.contains x = false := by simpa using h2
        simp only [hc, Bool.false_eq_true, if_false] at h
        rcases ha : apd q [x] with _ | y
        · rw [ha] at h; simp at h
        · rw [ha] at h
          obtain ⟨_, rfl⟩ := apd_some ha
          have hn : (q ++ [x]).Nodup := by
            rw [List.nodup_append]
            exact ⟨hq, by simp, fun a ha' b hb => by simp at hb; subst hb; intro e; subst e; exact h2 ha'⟩
          obtain ⟨e1, e2, e3⟩ := l2 l (q ++ [x]) q' hn h
          refine ⟨by simpa using e1, ?_, by simpa using e3⟩
          intro s hs
          rcases List.mem_cons.1 hs with rfl | hs
          · exact h1
          · exact e2 s hs
    · have : decide (0 ≤ x ∧ x ≤ 99) = false := by simpa using h1
      simp [this] at h
theorem l2' : ∀ (l q : List Int), (∀ s ∈ l, 0 ≤ s ∧ s ≤ 99) → (q ++ l).Nodup → (q ++ l).length < 4294967296 → Fishref2DepotFault.loop2 l q = some (.next (q ++ l))
  | [], q, _, _, _ => by simp [Fishref2DepotFault.loop2]
  | x :: l, q, h1, h2, h3 => by
    have hx : x ∉ q := by
      rw [List.nodup_append] at h2
      intro hq
      exact h2.2.2 x hq x (by simp) rfl
    have hc : q.contains x = false := by simpa using hx
    have hr := h1 x (by simp)
    simp only [List.length_append, List.length_cons] at h3
    have ha : apd q [x] = some (q ++ [x]) := by unfold apd; rw [if_pos (by simp; omega)]
    simp only [Fishref2DepotFault.loop2, within_ref, within_iff, contains_eq, hr, and_self, decide_true, Bool.not_true, Bool.false_eq_true, if_false, hc, ha, Option.bind_some]
    rw [l2' l (q ++ [x]) (fun s hs => h1 s (by simp [hs])) (by simpa using h2) (by simp; omega)]
    simp

theorem l1 (d : FleetDepot) (hn : d.Tracks.length = d.Room.length) : ∀ (rs : List Int) (k : Nat) (q q' : List Int), d.Room.drop k = rs → q.Nodup → Fishref2DepotFault.loop1 d rs k q = some (.next q') →
    (∀ (i : Nat) (t : List Int) (r : Int), k ≤ i → d.Tracks[i]? = some t → d.Room[i]? = some r → 1 ≤ r ∧ r ≤ 4 ∧ (t.length : Int) ≤ r) ∧ (∀ s ∈ (d.Tracks.drop k).flatten, 0 ≤ s ∧ s ≤ 99) ∧ (q ++ (d.Tracks.drop k).flatten).Nodup
  | [], k, q, q', hd, hq, h => by
    have hk := drop_nil hd
    refine ⟨fun i t r hi _ hr => ?_, ?_, ?_⟩
    · rw [List.getElem?_eq_none (by omega)] at hr; cases hr
    · rw [List.drop_eq_nil_of_le (by omega)]; simp
    · rw [List.drop_eq_nil_of_le (by omega)]; simpa using hq
  | r :: rs, k, q, q', hd, hq, h => by
    obtain ⟨d1, d2, d3⟩ := drop_cons hd
    have hk : k < d.Tracks.length := by omega
    have hg : gx d.Tracks ((k : Nat) : Int) = some d.Tracks[k] := by rw [gx_nat]; exact List.getElem?_eq_getElem hk
    simp only [Fishref2DepotFault.loop1, within_ref, within_iff, hg, Option.bind_some] at h
    by_cases h1 : 1 ≤ r ∧ r ≤ 4
    · simp only [h1, and_self, decide_true, Bool.not_true, Bool.false_eq_true, if_false] at h
      by_cases h2 : (d.Tracks[k].length : Int) > r
      · simp [h2] at h
      · simp only [h2, decide_false, Bool.false_eq_true, if_false] at h
        rcases h3 : Fishref2DepotFault.loop2 d.Tracks[k] q with _ | o
        · rw [h3] at h; simp at h
        · rw [h3] at h
          rcases o with c | q2
          · simp at h
          · simp only [Option.bind_some] at h
            obtain ⟨e1, e2, e3⟩ := l2 _ _ _ hq h3
            subst e1
            obtain ⟨f1, f2, f3⟩ := l1 d hn rs (k + 1) _ q' d3 e3 h
            have hdk : d.Tracks.drop k = d.Tracks[k] :: d.Tracks.drop (k + 1) := List.drop_eq_getElem_cons hk
            refine ⟨?_, ?_, ?_⟩
            · intro i t r' hi ht hr'
              rcases Nat.eq_or_lt_of_le hi with rfl | hi
              · rw [List.getElem?_eq_getElem hk] at ht; rw [d2] at hr'
                have et := Option.some.inj ht; have er := Option.some.inj hr'
                subst et; subst er
                exact ⟨h1.1, h1.2, by omega⟩
              · exact f1 i t r' hi ht hr'
            · rw [hdk]
              intro s hs
              simp only [List.flatten_cons, List.mem_append] at hs
              rcases hs with hs | hs
              · exact e2 s hs
              · exact f2 s hs
            · rw [hdk, List.flatten_cons, ← List.append_assoc]; exact f3
    · have : decide (1 ≤ r ∧ r ≤ 4) = false := by simpa using h1
      simp [this] at h

theorem l1' (d : FleetDepot) (hV : V d) (hlen : d.Tracks.flatten.length < 4294967296) : ∀ (rs : List Int) (k : Nat) (q : List Int), d.Room.drop k = rs → q ++ (d.Tracks.drop k).flatten = d.Tracks.flatten →
    ∃ q', Fishref2DepotFault.loop1 d rs k q = some (.next q')
  | [], k, q, _, _ => ⟨q, rfl⟩
  | r :: rs, k, q, hd, hq => by
    obtain ⟨d1, d2, d3⟩ := drop_cons hd
    have hk : k < d.Tracks.length := by have := hV.tn; omega
    have hg : gx d.Tracks ((k : Nat) : Int) = some d.Tracks[k] := by rw [gx_nat]; exact List.getElem?_eq_getElem hk
    obtain ⟨a1, a2, a3⟩ := hV.rm k _ r (List.getElem?_eq_getElem hk) d2
    have hdk : d.Tracks.drop k = d.Tracks[k] :: d.Tracks.drop (k + 1) := List.drop_eq_getElem_cons hk
    rw [hdk, List.flatten_cons, ← List.append_assoc] at hq
    have hsub : (q ++ d.Tracks[k]).Sublist d.Tracks.flatten := by rw [← hq]; exact List.sublist_append_left _ _
    have hlen2 := hsub.length_le
    have e := l2' d.Tracks[k] q (fun s hs => hV.rg s (hsub.subset (by simp [hs]))) (hsub.nodup hV.nd) (by omega)
    have h2 : ¬ ((d.Tracks[k].length : Int) > r) := by omega
    simp only [Fishref2DepotFault.loop1, within_ref, within_iff, hg, Option.bind_some, a1, a2, and_self, decide_true, Bool.not_true, Bool.false_eq_true, if_false, h2, decide_false, e]
    exact l1' d hV hlen rs (k + 1) _ d3 hq

theorem flat_le : ∀ (ts : List (List Int)), (∀ t ∈ ts, t.length ≤ 4) → ts.flatten.length ≤ 4 * ts.length
  | [], _ => by simp
  | t :: ts, h => by
    have h1 := flat_le ts (fun u hu => h u (by simp [hu]))
    have h2 := h t (by simp)
    rw [List.flatten_cons, List.length_append, List.length_cons]
    omega
theorem fl_len (d : FleetDepot) (hV : V d) : d.Tracks.flatten.length ≤ 100 := by
  have h1 := flat_le d.Tracks (fun u hu => by
    obtain ⟨j, hj⟩ := List.getElem?_of_mem hu
    have hjl : j < d.Tracks.length := (List.getElem?_eq_some_iff.1 hj).1
    have := hV.tn
    obtain ⟨_, q2, q3⟩ := hV.rm j u _ hj (List.getElem?_eq_getElem (by omega))
    omega)
  have := hV.n4; have := hV.tn
  omega

theorem ref_V (d : FleetDepot) (h : Fishref2DepotFault d = some 0) : V d := by
  unfold Fishref2DepotFault at h
  rw [within_ref, within_iff] at h
  by_cases h1 : 1 ≤ (d.Room.length : Int) ∧ (d.Room.length : Int) ≤ 4
  · simp only [h1, and_self, decide_true, Bool.not_true, Bool.false_eq_true, if_false] at h
    by_cases h2 : (d.Tracks.length : Int) = (d.Room.length : Int)
    · have hb : ((d.Tracks.length : Int) != (d.Room.length : Int)) = false := by simpa using h2
      simp only [hb, Bool.false_eq_true, if_false] at h
      rcases h3 : Fishref2DepotFault.loop1 d d.Room 0 [] with _ | o
      · rw [h3] at h; simp at h
      · rw [h3] at h
        rcases o with c | q
        · simp at h
          subst h
          exfalso
          have key : ∀ (l q : List Int), Fishref2DepotFault.loop2 l q ≠ some (.ret 0) := by
            intro l
            induction l with
            | nil => intro q; simp [Fishref2DepotFault.loop2]
            | cons x l ih =>
              intro q
              simp only [Fishref2DepotFault.loop2]
              split
              · simp
              · split
                · simp
                · rcases apd q [x] with _ | y
                  · simp
                  · exact ih y
          have key1 : ∀ (rs : List Int) (k : Nat) (q : List Int), Fishref2DepotFault.loop1 d rs k q ≠ some (.ret 0) := by
            intro rs
            induction rs with
            | nil => intro k q; simp [Fishref2DepotFault.loop1]
            | cons x l ih =>
              intro k q
              simp only [Fishref2DepotFault.loop1]
              split
              · simp
              · rcases gx d.Tracks ((k : Nat) : Int) with _ | t
                · simp
                · simp only [Option.bind_some]
                  split
                  · simp
                  · rcases h4 : Fishref2DepotFault.loop2 t q with _ | o
                    · simp
                    · rcases o with c | q2
                      · simp only [Option.bind_some]
                        intro e
                        have := Option.some.inj e
                        injection this with this
                        subst this
                        exact key t q h4
                      · exact ih _ _
          exact key1 _ _ _ h3
        · obtain ⟨a, b, c⟩ := l1 d (by omega) d.Room 0 [] q rfl (by simp) h3
          exact ⟨by omega, by omega, by omega, fun i t r => a i t r (Nat.zero_le _), by simpa using b, by simpa using c⟩
    · have hb : ((d.Tracks.length : Int) != (d.Room.length : Int)) = true := by simpa using h2
      simp [hb] at h
  · have : decide (1 ≤ (d.Room.length : Int) ∧ (d.Room.length : Int) ≤ 4) = false := by simpa using h1
    simp [this] at h

theorem V_check (d : FleetDepot) (hV : V d) : FleetCheckDepot d = some 0 := by
  obtain ⟨c, e1, e2⟩ := check_eq d
  rw [e1]
  unfold Fishref2DepotFault at e2
  obtain ⟨q', h⟩ := l1' d hV (by have := fl_len d hV; omega) d.Room 0 [] rfl (by simp)
  have h1 := hV.n1; have h4 := hV.n4; have ht := hV.tn
  have g1 : 1 ≤ (d.Room.length : Int) ∧ (d.Room.length : Int) ≤ 4 := by omega
  have g2 : ((d.Tracks.length : Int) != (d.Room.length : Int)) = false := by simp; omega
  simp only [within_ref, within_iff, g1, and_self, decide_true, Bool.not_true, Bool.false_eq_true, if_false, g2, h, Option.bind_some] at e2
  exact e2.symm

theorem clone_eq (l : List Int) (h : l.length < 4294967296) : SlicesCloneLint l = some l := by
  unfold SlicesCloneLint
  have : apd [] l = some l := by unfold apd; rw [if_pos (by simpa using h)]; simp
  simp [this]

theorem do_loop : ∀ (ts acc : List (List Int)), acc.length + ts.length < 4294967296 → (∀ t ∈ ts, t.length < 4294967296) → Fleetdo.loop1 ts acc = some (acc ++ ts)
  | [], acc, _, _ => by simp [Fleetdo.loop1]
  | t :: ts, acc, h, ht => by
    simp only [List.length_cons] at h
    have ha : apd acc [t] = some (acc ++ [t]) := by unfold apd; rw [if_pos (by simp; omega)]
    simp only [Fleetdo.loop1, clone_eq t (ht t (by simp)), ha, Option.bind_some]
    rw [do_loop ts (acc ++ [t]) (by simp; omega) (fun t h => ht t (by simp [h]))]
    simp
theorem moved_loop : ∀ (ts acc : List (List Int)), Fishref2Moved.loop1 ts acc = Fleetdo.loop1 ts acc
  | [], acc => rfl
  | t :: ts, acc => by simp only [Fishref2Moved.loop1, Fleetdo.loop1, moved_loop ts]
theorem flat_perm {α : Type} : ∀ (l : List (List α)) (i : Nat) (a : List α), l[i]? = some a → l.flatten.Perm (a ++ (l.eraseIdx i).flatten)
  | [], i, a, h => by simp at h
  | x :: l, 0, a, h => by simp at h; subst h; simp
  | x :: l, i + 1, a, h => by
    simp at h
    have ih := flat_perm l i a h
    simp only [List.flatten_cons, List.eraseIdx_cons_succ]
    refine (ih.append_left x).trans ?_
    rw [← List.append_assoc, ← List.append_assoc]
    exact List.perm_append_comm.append_right _
theorem flat_set {α : Type} (l : List (List α)) (i : Nat) (b : List α) (hi : i < l.length) : (l.set i b).flatten.Perm (b ++ (l.eraseIdx i).flatten) := by
  have := flat_perm (l.set i b) i b (by simp [hi])
  rwa [List.eraseIdx_set_eq] at this

/-- a move in a right depot -/
theorem step (d : FleetDepot) (hV : V d) (m : FleetMove) :
    (∃ e, e ≠ 0 ∧ Fleetdo d m = some (⟨[], []⟩, 0, e) ∧ Fishref2Moved d m = some (⟨[], []⟩, -1, e)) ∨
    ∃ d' s, Fleetdo d m = some (d', s, 0) ∧ V d' ∧ 0 ≤ s ∧ d'.Tracks.flatten.length + (if m.To < 0 then 1 else 0) = d.Tracks.flatten.length ∧ Fishref2Moved d m = some (d', if m.To < 0 then s else -1, 0) ∧ d'.Room = d.Room ∧ s ∈ d.Tracks.flatten ∧ ∀ x ∈ d'.Tracks.flatten, x ∈ d.Tracks.flatten := by
  have h1 := hV.n1; have h4 := hV.n4; have htn := hV.tn
  have hw : w64 ((d.Tracks.length : Int) - 1) = (d.Tracks.length : Int) - 1 := w64_id (by omega)
  have hcond : (if !(Fleetdo_1_v1 m.From d) then true else (if !(Fleetdo_1_v1 m.To d) then (m.To != (-1)) else false)) = (if decide (m.From < 0) then true else (if decide (m.From ≥ ((d.Room).length : Int)) then true else (if decide (m.To < (-1)) then true else decide (m.To ≥ ((d.Room).length : Int))))) := by
    unfold Fleetdo_1_v1
    simp only [within_iff, hw]
    by_cases a1 : m.From < 0
    · have : ¬ (0 ≤ m.From ∧ m.From ≤ (d.Tracks.length : Int) - 1) := by omega
      simp [a1, this]
    · by_cases a2 : m.From ≥ (d.Room.length : Int)
      · have : ¬ (0 ≤ m.From ∧ m.From ≤ (d.Tracks.length : Int) - 1) := by omega
        simp [a1, a2, this]
      · have a3 : 0 ≤ m.From ∧ m.From ≤ (d.Tracks.length : Int) - 1 := by omega
        simp only [a3, and_self, decide_true, Bool.not_true, Bool.false_eq_true, if_false, a1, a2, decide_false]
        by_cases b1 : m.To < -1
        · have b2 : ¬ (0 ≤ m.To ∧ m.To ≤ (d.Tracks.length : Int) - 1) := by omega
          have b3 : (m.To != -1) = true := by simp; omega
          simp [b1, b2, b3]
        · by_cases b4 : m.To ≥ (d.Room.length : Int)
          · have b2 : ¬ (0 ≤ m.To ∧ m.To ≤ (d.Tracks.length : Int) - 1) := by omega
            have b3 : (m.To != -1) = true := by simp; omega
            simp [b1, b2, b3, b4]
          · by_cases b5 : m.To = -1
            · simp [b5]; omega
            · have b6 : 0 ≤ m.To ∧ m.To ≤ (d.Tracks.length : Int) - 1 := by omega
              simp [b1, b4, b6]
  unfold Fleetdo Fishref2Moved
  simp only [hcond, bnd_eq]
  by_cases c1 : (if decide (m.From < 0) then true else (if decide (m.From ≥ ((d.Room).length : Int)) then true else (if decide (m.To < (-1)) then true else decide (m.To ≥ ((d.Room).length : Int))))) = true
  · left; exact ⟨2, by decide, by rw [if_pos c1], by rw [if_pos c1]⟩
  rw [if_neg c1, if_neg c1]
  have hF : 0 ≤ m.From ∧ m.From < d.Room.length ∧ -1 ≤ m.To ∧ m.To < d.Room.length := by
    by_cases a1 : m.From < 0
    · simp [a1] at c1
    by_cases a2 : m.From ≥ (d.Room.length : Int)
    · simp [a1, a2] at c1
    by_cases a3 : m.To < -1
    · simp [a1, a2, a3] at c1
    by_cases a4 : m.To ≥ (d.Room.length : Int)
    · simp [a1, a2, a3, a4] at c1
    omega
  clear c1 hcond
  by_cases c2 : m.From = m.To
  · have : (m.From == m.To) = true := by simpa using c2
    left; exact ⟨1, by decide, by rw [if_pos this], by rw [if_pos this]⟩
  have c2' : (m.From == m.To) = false := by simpa using c2
  rw [c2']
  simp only [Bool.false_eq_true, if_false]
  have hi : m.From.toNat < d.Tracks.length := by omega
  have gT : gx d.Tracks m.From = some d.Tracks[m.From.toNat] := by unfold gx; rw [if_pos hF.1]; exact List.getElem?_eq_getElem hi
  generalize ht : d.Tracks[m.From.toNat] = t at gT
  have htT : d.Tracks[m.From.toNat]? = some t := by rw [List.getElem?_eq_getElem hi, ht]
  rw [gT]
  simp only [Option.bind_some]
  by_cases c3 : t = []
  · subst c3
    left; exact ⟨9, by decide, by simp, by simp⟩
  have hpos : 0 < t.length := List.length_pos_iff.2 c3
  have c3' : ((t.length : Int) == 0) = false := by simp [c3]
  rw [c3']
  simp only [Bool.false_eq_true, if_false]
  have hrF : d.Room[m.From.toNat]? = some (d.Room[m.From.toNat]'(by omega)) := List.getElem?_eq_getElem (by omega)
  obtain ⟨rF1, rF2, rF3⟩ := hV.rm _ _ _ htT hrF
  have hlens : ∀ t ∈ d.Tracks, t.length < 4294967296 := by
    intro u hu
    obtain ⟨j, hj⟩ := List.getElem?_of_mem hu
    have hjl : j < d.Tracks.length := (List.getElem?_eq_some_iff.1 hj).1
    obtain ⟨_, q2, q3⟩ := hV.rm j u _ hj (List.getElem?_eq_getElem (by omega))
    omega
  have hcl : SlicesCloneLint d.Room = some d.Room := clone_eq _ (by omega)
  have hlp : Fleetdo.loop1 d.Tracks [] = some d.Tracks := by rw [do_loop d.Tracks [] (by simp; omega) hlens]; simp
  have hw2 : w64 ((t.length : Int) - 1) = ((t.length - 1 : Nat) : Int) := by rw [w64_id (by omega)]; omega
  have hlast : gx t (w64 ((t.length : Int) - 1)) = some (t[t.length - 1]'(by omega)) := by rw [hw2, gx_nat]; exact List.getElem?_eq_getElem (by omega)
  generalize hs : t[t.length - 1]'(by omega) = s at hlast
  have hcut : cutl t 0 (w64 ((t.length : Int) - 1)) = some (t.take (t.length - 1)) := by
    rw [hw2]; unfold cutl; rw [if_pos ⟨by omega, by omega, by omega⟩]; simp
  have hix : ix d.Tracks m.From = some () := by unfold ix; rw [if_pos ⟨hF.1, by omega⟩]
  have hsx : sx d.Tracks m.From (t.take (t.length - 1)) = some (d.Tracks.set m.From.toNat (t.take (t.length - 1))) := by unfold sx; rw [if_pos ⟨hF.1, by omega⟩]
  have hts : t = t.take (t.length - 1) ++ [s] := by
    have h5 : t.take (t.length - 1 + 1) = t.take (t.length - 1) ++ [t[t.length - 1]'(by omega)] := List.take_succ_eq_append_getElem (by omega)
    rw [hs] at h5
    have h6 : t.length - 1 + 1 = t.length := by omega
    rw [h6, List.take_length] at h5
    exact h5
  generalize ht' : t.take (t.length - 1) = t' at hts hcut hsx
  have htl : t'.length + 1 = t.length := by rw [hts]; simp
  have hperm : d.Tracks.flatten.Perm (s :: (d.Tracks.set m.From.toNat t').flatten) := by
    have p1 := flat_perm d.Tracks _ t htT
    have p2 := flat_set d.Tracks m.From.toNat t' hi
    rw [hts] at p1
    refine p1.trans ?_
    rw [List.append_assoc]
    refine List.Perm.trans ?_ (p2.cons s).symm
    exact (List.perm_middle (l₁ := t') (a := s) (l₂ := (d.Tracks.eraseIdx m.From.toNat).flatten)).symm.symm
  have hs0 : 0 ≤ s := (hV.rg s (hperm.symm.subset (by simp))).1
  have hV1 : V ⟨d.Room, d.Tracks.set m.From.toNat t'⟩ := by
    refine ⟨h1, h4, by simpa using htn, ?_, ?_, ?_⟩
    · intro i u r hu hr
      simp only at hu hr
      rw [List.getElem?_set] at hu
      by_cases hij : m.From.toNat = i
      · subst hij
        rw [if_pos rfl, if_pos hi] at hu
        have e := Option.some.inj hu; subst e
        obtain ⟨x1, x2, x3⟩ := hV.rm _ _ _ htT hr
        exact ⟨x1, x2, by omega⟩
      · rw [if_neg hij] at hu; exact hV.rm i u r hu hr
    · intro x hx; exact hV.rg x (hperm.symm.subset (List.mem_cons_of_mem _ hx))
    · have := hperm.nodup_iff.1 hV.nd; exact (List.nodup_cons.1 this).2
  have hlen1 : (d.Tracks.set m.From.toNat t').flatten.length + 1 = d.Tracks.flatten.length := by rw [hperm.length_eq]; simp
  by_cases c4 : m.To ≥ 0
  · have hj : m.To.toNat < d.Tracks.length := by omega
    have hne : m.From.toNat ≠ m.To.toNat := by omega
    have gU : gx d.Tracks m.To = some d.Tracks[m.To.toNat] := by unfold gx; rw [if_pos c4]; exact List.getElem?_eq_getElem hj
    generalize hu : d.Tracks[m.To.toNat] = u at gU
    have huT : d.Tracks[m.To.toNat]? = some u := by rw [List.getElem?_eq_getElem hj, hu]
    have gR : gx d.Room m.To = some (d.Room[m.To.toNat]'(by omega)) := by unfold gx; rw [if_pos c4]; exact List.getElem?_eq_getElem (by omega)
    generalize hr : d.Room[m.To.toNat]'(by omega) = r at gR
    have hrR : d.Room[m.To.toNat]? = some r := by rw [List.getElem?_eq_getElem (by omega), hr]
    have c5 : ¬ m.To < 0 := by omega
    simp only [c4, decide_true, if_true, gU, gR, Option.bind_some, c5, decide_false, Bool.false_eq_true, if_false]
    by_cases c6 : (u.length : Int) ≥ r
    · left; exact ⟨14, by decide, by simp [c6], by simp [c6]⟩
    · right
      obtain ⟨u1, u2, u3⟩ := hV.rm _ _ _ huT hrR
      simp only [c6, decide_false, Bool.false_eq_true, if_false, hcl, hlp, moved_loop, Option.bind_some, gT, hlast, hcut, hix, hsx]
      have gU1 : gx (d.Tracks.set m.From.toNat t') m.To = some u := by unfold gx; rw [if_pos c4, List.getElem?_set, if_neg hne]; exact huT
      have ha : apd u [s] = some (u ++ [s]) := by unfold apd; rw [if_pos (by simp; omega)]
      have hix1 : ix (d.Tracks.set m.From.toNat t') m.To = some () := by unfold ix; rw [if_pos ⟨c4, by simp; omega⟩]
      have hsx1 : sx (d.Tracks.set m.From.toNat t') m.To (u ++ [s]) = some ((d.Tracks.set m.From.toNat t').set m.To.toNat (u ++ [s])) := by unfold sx; rw [if_pos ⟨c4, by simp; omega⟩]
      simp only [gU1, ha, hix1, hsx1, Option.bind_some]
      have huT1 : (d.Tracks.set m.From.toNat t')[m.To.toNat]? = some u := by rw [List.getElem?_set, if_neg hne]; exact huT
      have hperm2 : ((d.Tracks.set m.From.toNat t').set m.To.toNat (u ++ [s])).flatten.Perm d.Tracks.flatten := by
        have p1 := flat_perm _ _ u huT1
        have p2 := flat_set (d.Tracks.set m.From.toNat t') m.To.toNat (u ++ [s]) (by simpa using hj)
        refine p2.trans (List.Perm.trans ?_ hperm.symm)
        rw [List.append_assoc]
        refine List.Perm.trans ?_ (p1.symm.cons s)
        exact List.perm_middle
      refine ⟨_, s, rfl, ?_, hs0, ?_, rfl, rfl, hperm.symm.subset (by simp), fun x hx => hperm2.subset hx⟩
      · refine ⟨h1, h4, by simpa using htn, ?_, ?_, ?_⟩
        · intro i x r' hx hr'
          simp only at hx hr'
          rw [List.getElem?_set] at hx
          by_cases hij : m.To.toNat = i
          · subst hij
            rw [if_pos rfl, if_pos (by simpa using hj)] at hx
            have e := Option.some.inj hx; subst e
            rw [hrR] at hr'
            have e2 := Option.some.inj hr'; subst e2
            exact ⟨u1, u2, by simp; omega⟩
          · rw [if_neg hij] at hx; exact hV1.rm i x r' hx hr'
        · intro x hx; exact hV.rg x (hperm2.subset hx)
        · exact hperm2.nodup_iff.2 hV.nd
      · rw [hperm2.length_eq]; rfl
  · have c5 : m.To < 0 := by omega
    right
    simp only [c4, c5, decide_true, decide_false, Bool.false_eq_true, if_false, if_true, Option.bind_some, hcl, hlp, moved_loop, gT, hlast, hcut, hix, hsx]
    exact ⟨_, s, rfl, hV1, hs0, hlen1, rfl, rfl, hperm.symm.subset (by simp), fun x hx => hperm.symm.subset (List.mem_cons_of_mem _ hx)⟩

/-! names -/
def itb (n : Nat) : List UInt8 := if n < 10 then [UInt8.ofNat (48 + n)] else [UInt8.ofNat (48 + n / 10), UInt8.ofNat (48 + n % 10)]
theorem itoa_all : ∀ n : Fin 100, StrconvItoa ((n.val : Nat) : Int) = some (ByteArray.mk (itb n.val).toArray) := by decide +kernel
theorem itoa_eq {n : Nat} (h : n < 100) : StrconvItoa ((n : Nat) : Int) = some (ByteArray.mk (itb n).toArray) := itoa_all ⟨n, h⟩
theorem itb_digits : ∀ n : Fin 100, ((itb n.val).all fun b => decide (48 ≤ b.toNat) && decide (b.toNat ≤ 57)) = true ∧ (itb n.val) ≠ [] ∧ (itb n.val).length ≤ 2 := by decide +kernel
theorem itb_inj : ∀ a b : Fin 100, itb a.val = itb b.val → a = b := by decide +kernel
theorem itb_dig {n : Nat} (h : n < 100) {b : UInt8} (hb : b ∈ itb n) : 48 ≤ b.toNat ∧ b.toNat ≤ 57 := by
  have := List.all_eq_true.1 (itb_digits ⟨n, h⟩).1 b hb
  simpa using this
/-- what stands ahead of a sign that it does not hold -/
theorem cut_at {c : UInt8} : ∀ {p q X Y : List UInt8}, (∀ b ∈ p, b ≠ c) → (∀ b ∈ q, b ≠ c) → p ++ c :: X = q ++ c :: Y → p = q ∧ X = Y
  | [], [], X, Y, _, _, h => by simpa using h
  | [], b :: q, X, Y, _, hq, h => by
    simp only [List.nil_append, List.cons_append, List.cons.injEq] at h
    exact absurd h.1.symm (hq b (by simp))
  | a :: p, [], X, Y, hp, _, h => by
    simp only [List.nil_append, List.cons_append, List.cons.injEq] at h
    exact absurd h.1 (hp a (by simp))
  | a :: p, b :: q, X, Y, hp, hq, h => by
    simp only [List.cons_append, List.cons.injEq] at h
    obtain ⟨h1, h2⟩ := cut_at (fun x hx => hp x (by simp [hx])) (fun x hx => hq x (by simp [hx])) h.2
    exact ⟨by rw [h.1, h1], h2⟩
def encT (t : List Int) : List UInt8 := t.flatMap fun s => itb s.toNat ++ [44]
def enc (ts : List (List Int)) : List UInt8 := ts.flatMap fun t => 124 :: encT t
def In99 (t : List Int) : Prop := ∀ s ∈ t, 0 ≤ s ∧ s ≤ 99
theorem it_ne {s : Int} (h : 0 ≤ s ∧ s ≤ 99) (c : UInt8) (hc : c.toNat < 48 ∨ 57 < c.toNat) : ∀ b ∈ itb s.toNat, b ≠ c := by
  intro b hb e
  have := itb_dig (n := s.toNat) (by omega) hb
  subst e; omega
theorem encT_inj : ∀ {t t' : List Int} {R R' : List UInt8}, In99 t → In99 t' → (R = [] ∨ ∃ X, R = 124 :: X) → (R' = [] ∨ ∃ X, R' = 124 :: X) → encT t ++ R = encT t' ++ R' → t = t' ∧ R = R'
  | [], [], R, R', _, _, _, _, h => ⟨rfl, by simpa [encT] using h⟩
  | [], s :: t', R, R', _, h2, hR, _, h => by
    exfalso
    obtain ⟨b, r, e⟩ := List.exists_cons_of_ne_nil (itb_digits ⟨s.toNat, by have := h2 s (by simp); omega⟩).2.1
    have hd := itb_dig (n := s.toNat) (by have := h2 s (by simp); omega) (b := b) (by rw [e]; simp)
    have e' : encT (s :: t') = itb s.toNat ++ [44] ++ encT t' := by simp [encT]
    rw [e'] at h
    simp only at e
    rw [e] at h
    rcases hR with rfl | ⟨X, rfl⟩
    · simp [encT] at h
    · simp only [encT, List.flatMap_nil, List.nil_append, List.cons_append, List.cons.injEq] at h
      rw [← h.1] at hd
      revert hd; decide
  | s :: t, [], R, R', h1, _, _, hR', h => by
    exfalso
    obtain ⟨b, r, e⟩ := List.exists_cons_of_ne_nil (itb_digits ⟨s.toNat, by have := h1 s (by simp); omega⟩).2.1
    have hd := itb_dig (n := s.toNat) (by have := h1 s (by simp); omega) (b := b) (by rw [e]; simp)
    have e' : encT (s :: t) = itb s.toNat ++ [44] ++ encT t := by simp [encT]
    rw [e'] at h
    simp only at e
    rw [e] at h
    rcases hR' with rfl | ⟨X, rfl⟩
    · simp [encT] at h
    · simp only [encT, List.flatMap_nil, List.nil_append, List.cons_append, List.cons.injEq] at h
      rw [h.1] at hd
      revert hd; decide
  | s :: t, s' :: t', R, R', h1, h2, hR, hR', h => by
    have a1 := h1 s (by simp)
    have a2 := h2 s' (by simp)
    have e : ∀ (s : Int) (t : List Int) (R : List UInt8), encT (s :: t) ++ R = itb s.toNat ++ 44 :: (encT t ++ R) := by intro s t R; simp [encT]
    rw [e, e] at h
    obtain ⟨g1, g2⟩ := cut_at (it_ne a1 44 (by decide)) (it_ne a2 44 (by decide)) h
    have g3 := itb_inj ⟨s.toNat, by omega⟩ ⟨s'.toNat, by omega⟩ g1
    have g4 : s = s' := by
      have := congrArg Fin.val g3
      simp only at this
      omega
    obtain ⟨g5, g6⟩ := encT_inj (fun x hx => h1 x (by simp [hx])) (fun x hx => h2 x (by simp [hx])) hR hR' g2
    exact ⟨by rw [g4, g5], g6⟩
theorem enc_shape (ts : List (List Int)) : enc ts = [] ∨ ∃ X, enc ts = 124 :: X := by
  cases ts with
  | nil => exact .inl rfl
  | cons t ts => exact .inr ⟨encT t ++ enc ts, by simp [enc]⟩
theorem enc_inj : ∀ {ts ts' : List (List Int)}, (∀ t ∈ ts, In99 t) → (∀ t ∈ ts', In99 t) → enc ts = enc ts' → ts = ts'
  | [], [], _, _, _ => rfl
  | [], t :: ts, _, _, h => by simp [enc] at h
  | t :: ts, [], _, _, h => by simp [enc] at h
  | t :: ts, t' :: ts', h1, h2, h => by
    have e : ∀ (t : List Int) (ts : List (List Int)), enc (t :: ts) = 124 :: (encT t ++ enc ts) := by intro t ts; simp [enc]
    rw [e, e] at h
    obtain ⟨g1, g2⟩ := encT_inj (h1 t (by simp)) (h2 t' (by simp)) (enc_shape ts) (enc_shape ts') (List.cons.inj h).2
    rw [g1, enc_inj (fun x hx => h1 x (by simp [hx])) (fun x hx => h2 x (by simp [hx])) g2]
theorem scat_lists {A B : List UInt8} (h : A.length + B.length < 1000000) : scat (ByteArray.mk A.toArray) (ByteArray.mk B.toArray) = some (ByteArray.mk (A ++ B).toArray) := by
  unfold scat
  rw [if_pos (by simp [ByteArray.size]; omega)]
  congr 1
theorem str_one (b : UInt8) : str [b] = ByteArray.mk [b].toArray := rfl
theorem encT_len : ∀ t : List Int, In99 t → (encT t).length ≤ 3 * t.length
  | [], _ => by simp [encT]
  | s :: t, h => by
    have := encT_len t (fun x hx => h x (by simp [hx]))
    have h2 := (itb_digits ⟨s.toNat, by have := h s (by simp); omega⟩).2.2
    have e : encT (s :: t) = itb s.toNat ++ 44 :: encT t := by simp [encT]
    rw [e]; simp only [List.length_append, List.length_cons] at *; omega
theorem name_loop2 : ∀ (t : List Int) (A : List UInt8), In99 t → A.length + 3 * t.length < 900000 → Fishref2Yardname.loop2 t (ByteArray.mk A.toArray) = some (ByteArray.mk (A ++ encT t).toArray)
  | [], A, _, _ => by simp [Fishref2Yardname.loop2, encT]
  | s :: t, A, h, hl => by
    simp only [List.length_cons] at hl
    have hs := h s (by simp)
    have h2 := (itb_digits ⟨s.toNat, by omega⟩).2.2
    simp only at h2
    have hi : StrconvItoa s = some (ByteArray.mk (itb s.toNat).toArray) := by
      have := itoa_eq (n := s.toNat) (by omega)
      rwa [show ((s.toNat : Nat) : Int) = s by omega] at this
    rw [Fishref2Yardname.loop2, hi, Option.bind_some, str_one 44, scat_lists (by simp; omega), Option.bind_some, scat_lists (by simp; omega), Option.bind_some, name_loop2 t _ (fun x hx => h x (by simp [hx])) (by simp; omega)]
    simp [encT]
theorem name_loop1 : ∀ (ts : List (List Int)) (A : List UInt8), (∀ t ∈ ts, In99 t ∧ t.length ≤ 10) → A.length + 31 * ts.length < 800000 → Fishref2Yardname.loop1 ts (ByteArray.mk A.toArray) = some (ByteArray.mk (A ++ enc ts).toArray)
  | [], A, _, _ => by simp [Fishref2Yardname.loop1, enc]
  | t :: ts, A, h, hl => by
    simp only [List.length_cons] at hl
    have ht := h t (by simp)
    have hel := encT_len t ht.1
    rw [Fishref2Yardname.loop1, str_one 124, scat_lists (by simp; omega), Option.bind_some, name_loop2 t _ ht.1 (by simp; omega), Option.bind_some, name_loop1 ts _ (fun x hx => h x (by simp [hx])) (by simp; omega)]
    simp [enc]
/-- the name of a yard -/
def nameOf (g : Int) (ts : List (List Int)) : ByteArray := ByteArray.mk (itb g.toNat ++ enc ts).toArray
theorem name_eq {d : FleetDepot} {g : Int} (mv : List FleetMove) (hV : V d) (hg : 0 ≤ g ∧ g ≤ 99) : Fishref2Yardname ⟨d, g, mv⟩ = some (nameOf g d.Tracks) := by
  have h2 := (itb_digits ⟨g.toNat, by omega⟩).2.2
  simp only at h2
  have hi : StrconvItoa g = some (ByteArray.mk (itb g.toNat).toArray) := by
    have := itoa_eq (n := g.toNat) (by omega)
    rwa [show ((g.toNat : Nat) : Int) = g by omega] at this
  have h4 := hV.n4; have htn := hV.tn
  have ht : ∀ t ∈ d.Tracks, In99 t ∧ t.length ≤ 10 := by
    intro t ht
    refine ⟨fun s hs => hV.rg s (List.mem_flatten.2 ⟨t, ht, hs⟩), ?_⟩
    obtain ⟨j, hj⟩ := List.getElem?_of_mem ht
    have hjl : j < d.Tracks.length := (List.getElem?_eq_some_iff.1 hj).1
    obtain ⟨_, q2, q3⟩ := hV.rm j t _ hj (List.getElem?_eq_getElem (by omega))
    omega
  unfold Fishref2Yardname
  simp only
  rw [hi, Option.bind_some, name_loop1 d.Tracks _ ht (by omega), Option.bind_some]
  rfl
theorem name_inj {g g' : Int} {ts ts' : List (List Int)} (hg : 0 ≤ g ∧ g ≤ 99) (hg' : 0 ≤ g' ∧ g' ≤ 99) (h1 : ∀ t ∈ ts, In99 t) (h2 : ∀ t ∈ ts', In99 t) (n1 : ts ≠ []) (n2 : ts' ≠ []) (h : nameOf g ts = nameOf g' ts') : ts = ts' := by
  unfold nameOf at h
  have h3 : itb g.toNat ++ enc ts = itb g'.toNat ++ enc ts' := by simpa using h
  have s1 : ∃ X, enc ts = 124 :: X := by
    rcases enc_shape ts with e | e
    · cases ts with
      | nil => exact absurd rfl n1
      | cons t ts => simp [enc] at e
    · exact e
  have s2 : ∃ X, enc ts' = 124 :: X := by
    rcases enc_shape ts' with e | e
    · cases ts' with
      | nil => exact absurd rfl n2
      | cons t ts => simp [enc] at e
    · exact e
  obtain ⟨X, hX⟩ := s1
  obtain ⟨Y, hY⟩ := s2
  rw [hX, hY] at h3
  obtain ⟨_, h4⟩ := cut_at (it_ne hg 124 (by decide)) (it_ne hg' 124 (by decide)) h3
  exact enc_inj h1 h2 (by rw [hX, hY, h4])
/-! states -/
def pad4 (t : List Int) : List Int := t.map (· + 1) ++ List.replicate (4 - t.length) 0
def stq (ts : List (List Int)) : List Int := ts.flatMap pad4 ++ List.replicate (16 - 4 * ts.length) 0
theorem pad4_len {t : List Int} (h : t.length ≤ 4) : (pad4 t).length = 4 := by unfold pad4; simp; omega
theorem flat4_len : ∀ {ts : List (List Int)}, (∀ t ∈ ts, t.length ≤ 4) → (ts.flatMap pad4).length = 4 * ts.length
  | [], _ => rfl
  | t :: ts, h => by
    rw [List.flatMap_cons, List.length_append, pad4_len (h t (by simp)), flat4_len (fun x hx => h x (by simp [hx])), List.length_cons]; omega
theorem stq_len {ts : List (List Int)} (h : ∀ t ∈ ts, t.length ≤ 4) (hn : ts.length ≤ 4) : (stq ts).length = 16 := by
  unfold stq
  rw [List.length_append, flat4_len h, List.length_replicate]; omega
theorem pad4_inj {t t' : List Int} (h : In99 t) (h' : In99 t') (e : pad4 t = pad4 t') : t = t' := by
  have key : ∀ (t t' : List Int) (m m' : Nat), In99 t → In99 t' → t.map (· + 1) ++ List.replicate m (0 : Int) = t'.map (· + 1) ++ List.replicate m' 0 → t = t' := by
    intro t
    induction t with
    | nil =>
      intro t' m m' _ h2 e
      cases t' with
      | nil => rfl
      | cons s t' =>
        exfalso
        simp only [List.map_nil, List.nil_append, List.map_cons, List.cons_append] at e
        have : s + 1 ∈ List.replicate m (0 : Int) := by rw [e]; simp
        have h3 := List.eq_of_mem_replicate this
        have := h2 s (by simp); omega
    | cons s t ih =>
      intro t' m m' h1 h2 e
      cases t' with
      | nil =>
        exfalso
        simp only [List.map_nil, List.nil_append, List.map_cons, List.cons_append] at e
        have : s + 1 ∈ List.replicate m' (0 : Int) := by rw [← e]; simp
        have h3 := List.eq_of_mem_replicate this
        have := h1 s (by simp); omega
      | cons s' t' =>
        simp only [List.map_cons, List.cons_append, List.cons.injEq] at e
        rw [show s = s' by omega, ih t' m m' (fun x hx => h1 x (by simp [hx])) (fun x hx => h2 x (by simp [hx])) e.2]
  exact key t t' _ _ h h' e
theorem stq_inj : ∀ {ts ts' : List (List Int)}, (∀ t ∈ ts, In99 t ∧ t.length ≤ 4) → (∀ t ∈ ts', In99 t ∧ t.length ≤ 4) → ts.length = ts'.length → stq ts = stq ts' → ts = ts' := by
  have key : ∀ (ts ts' : List (List Int)) (X Y : List Int), (∀ t ∈ ts, In99 t ∧ t.length ≤ 4) → (∀ t ∈ ts', In99 t ∧ t.length ≤ 4) → ts.length = ts'.length → ts.flatMap pad4 ++ X = ts'.flatMap pad4 ++ Y → ts = ts' := by
    intro ts
    induction ts with
    | nil => intro ts' X Y _ _ hl _; exact (List.eq_nil_of_length_eq_zero hl.symm).symm
    | cons t ts ih =>
      intro ts' X Y h1 h2 hl e
      cases ts' with
      | nil => simp at hl
      | cons t' ts' =>
        simp only [List.flatMap_cons, List.append_assoc] at e
        have a := h1 t (by simp)
        have b := h2 t' (by simp)
        obtain ⟨e1, e2⟩ := List.append_inj e (by rw [pad4_len a.2, pad4_len b.2])
        rw [pad4_inj a.1 b.1 e1, ih ts' X Y (fun x hx => h1 x (by simp [hx])) (fun x hx => h2 x (by simp [hx])) (by simpa using hl) e2]
  intro ts ts' h1 h2 hl e
  exact key ts ts' _ _ h1 h2 hl e
theorem sx_midq {A T : List Int} {x v : Int} {i : Int} (h : i = (A.length : Int)) : sx (A ++ x :: T) i v = some (A ++ v :: T) := by
  subst h; unfold sx; rw [if_pos]
  · simp
  · simp; omega
theorem state_loop2 {k : Nat} (hk : k < 4) : ∀ (t : List Int) (j : Nat) (A Z : List Int), In99 t → A.length = k * 4 + j → j + t.length ≤ 4 → FleetstateOf.loop2 k t j (A ++ (List.replicate (4 - j) 0 ++ Z)) = some (A ++ (t.map (· + 1) ++ (List.replicate (4 - (j + t.length)) 0 ++ Z)))
  | [], j, A, Z, _, _, _ => by simp [FleetstateOf.loop2]
  | s :: t, j, A, Z, h, hA, hj => by
    simp only [List.length_cons] at hj
    have hs := h s (by simp)
    have b1 : bx 4 ((k : Nat) : Int) = some () := by unfold bx; rw [if_pos (by omega)]
    have b2 : bx 4 ((j : Nat) : Int) = some () := by unfold bx; rw [if_pos (by omega)]
    have e : List.replicate (4 - j) (0 : Int) = 0 :: List.replicate (4 - (j + 1)) 0 := by
      rw [show 4 - j = (4 - (j + 1)) + 1 by omega, List.replicate_succ]
    rw [FleetstateOf.loop2, b1, Option.bind_some, b2, Option.bind_some, e, List.cons_append, sx_midq (by rw [hA]; omega), Option.bind_some, w64_id (by omega)]
    have ih := state_loop2 hk t (j + 1) (A ++ [s + 1]) Z (fun x hx => h x (by simp [hx])) (by simp; omega) (by omega)
    rw [List.append_assoc, List.singleton_append] at ih
    rw [ih]
    simp only [List.length_cons, List.map_cons, List.append_assoc, List.cons_append, List.nil_append]
    rw [show j + 1 + t.length = j + (t.length + 1) by omega]
theorem state_loop1 : ∀ (ts : List (List Int)) (k : Nat) (A : List Int), (∀ t ∈ ts, In99 t ∧ t.length ≤ 4) → A.length = k * 4 → k + ts.length ≤ 4 → FleetstateOf.loop1 ts k (A ++ List.replicate (16 - 4 * k) 0) = some (A ++ (ts.flatMap pad4 ++ List.replicate (16 - 4 * (k + ts.length)) 0))
  | [], k, A, _, _, _ => by simp [FleetstateOf.loop1]
  | t :: ts, k, A, h, hA, hk => by
    simp only [List.length_cons] at hk
    have ht := h t (by simp)
    have e : List.replicate (16 - 4 * k) (0 : Int) = List.replicate (4 - 0) 0 ++ List.replicate (16 - 4 * (k + 1)) 0 := by
      rw [List.replicate_append_replicate]; congr 1; omega
    rw [FleetstateOf.loop1, e, state_loop2 (by omega) t 0 A _ ht.1 (by omega) (by omega), Option.bind_some]
    have ih := state_loop1 ts (k + 1) (A ++ pad4 t) (fun x hx => h x (by simp [hx])) (by rw [List.length_append, pad4_len ht.2]; omega) (by omega)
    have e2 : A ++ (t.map (· + 1) ++ (List.replicate (4 - (0 + t.length)) 0 ++ List.replicate (16 - 4 * (k + 1)) 0)) = (A ++ pad4 t) ++ List.replicate (16 - 4 * (k + 1)) 0 := by
      unfold pad4; rw [Nat.zero_add]; simp only [List.append_assoc]
    rw [e2, ih, List.flatMap_cons, List.length_cons, show k + 1 + ts.length = k + (ts.length + 1) by omega]
    simp only [List.append_assoc]
theorem tracks_ok {d : FleetDepot} (hV : V d) : (∀ t ∈ d.Tracks, In99 t ∧ t.length ≤ 4) ∧ d.Tracks.length ≤ 4 ∧ d.Tracks ≠ [] := by
  have h1 := hV.n1; have h4 := hV.n4; have htn := hV.tn
  refine ⟨fun t ht => ⟨fun s hs => hV.rg s (List.mem_flatten.2 ⟨t, ht, hs⟩), ?_⟩, by omega, fun e => by rw [e] at htn; simp at htn; omega⟩
  obtain ⟨j, hj⟩ := List.getElem?_of_mem ht
  have hjl : j < d.Tracks.length := (List.getElem?_eq_some_iff.1 hj).1
  obtain ⟨_, q2, q3⟩ := hV.rm j t _ hj (List.getElem?_eq_getElem (by omega))
  omega
theorem state_eq {d : FleetDepot} (hV : V d) : FleetstateOf d = some (stq d.Tracks) := by
  obtain ⟨h1, h2, _⟩ := tracks_ok hV
  have := state_loop1 d.Tracks 0 [] h1 rfl (by omega)
  unfold FleetstateOf stq
  simp only [List.nil_append, Nat.mul_zero, Nat.sub_zero, Nat.zero_add] at this
  have e : ([0, 0, 0, 0, 0, 0, 0, 0, 0, 0, 0, 0, 0, 0, 0, 0] : List Int) = List.replicate 16 0 := rfl
  rw [e, this, Option.bind_some]

/-! numbers of standings -/
def num : List Nat → Nat
  | [] => 0
  | x :: l => (x + 1) + 8 * num l
theorem num_inj : ∀ {l r : List Nat}, (∀ x ∈ l, x < 7) → (∀ x ∈ r, x < 7) → num l = num r → l = r
  | [], [], _, _, _ => rfl
  | [], y :: r, _, _, h => by simp only [num] at h; omega
  | x :: l, [], _, _, h => by simp only [num] at h; omega
  | x :: l, y :: r, h1, h2, h => by
    have a := h1 x (by simp)
    have b := h2 y (by simp)
    simp only [num] at h
    have e : x = y := by omega
    have e2 : num l = num r := by omega
    rw [e, num_inj (fun z hz => h1 z (by simp [hz])) (fun z hz => h2 z (by simp [hz])) e2]
theorem num_lt : ∀ {l : List Nat}, (∀ x ∈ l, x < 7) → num l < 8 ^ l.length
  | [], _ => by simp [num]
  | x :: l, h => by
    have a := h x (by simp)
    have := num_lt (l := l) (fun z hz => h z (by simp [hz]))
    simp only [num, List.length_cons, Nat.pow_succ]; omega
def wordq (S : List Int) (ts : List (List Int)) : List Nat := ts.flatMap fun t => t.map (fun s => S.idxOf s) ++ [6]
theorem wordq_len (S : List Int) : ∀ ts : List (List Int), (wordq S ts).length = ts.flatten.length + ts.length
  | [] => rfl
  | t :: ts => by
    have := wordq_len S ts
    unfold wordq at *
    rw [List.flatMap_cons, List.length_append, this]
    simp; omega
theorem wordq_lt {S : List Int} (hS : S.length ≤ 6) {ts : List (List Int)} (h : ∀ s ∈ ts.flatten, s ∈ S) : ∀ x ∈ wordq S ts, x < 7 := by
  intro x hx
  unfold wordq at hx
  obtain ⟨t, ht, hx⟩ := List.mem_flatMap.1 hx
  rcases List.mem_append.1 hx with hx | hx
  · obtain ⟨s, hs, rfl⟩ := List.mem_map.1 hx
    have := List.idxOf_lt_length_of_mem (h s (List.mem_flatten.2 ⟨t, ht, hs⟩))
    omega
  · simp at hx; omega
theorem idx_inj {S : List Int} {a b : Int} (ha : a ∈ S) (hb : b ∈ S) (h : S.idxOf a = S.idxOf b) : a = b := by
  have h1 := List.getElem_idxOf (List.idxOf_lt_length_of_mem ha)
  have h2 := List.getElem_idxOf (List.idxOf_lt_length_of_mem hb)
  have h3 : S[S.idxOf a]? = S[S.idxOf b]? := by rw [h]
  rw [List.getElem?_eq_getElem (List.idxOf_lt_length_of_mem ha), List.getElem?_eq_getElem (List.idxOf_lt_length_of_mem hb), h1, h2] at h3
  exact Option.some.inj h3
theorem cut6 : ∀ {p q X Y : List Nat}, (∀ b ∈ p, b ≠ 6) → (∀ b ∈ q, b ≠ 6) → p ++ 6 :: X = q ++ 6 :: Y → p = q ∧ X = Y
  | [], [], X, Y, _, _, h => by simpa using h
  | [], b :: q, X, Y, _, hq, h => by
    simp only [List.nil_append, List.cons_append, List.cons.injEq] at h
    exact absurd h.1.symm (hq b (by simp))
  | a :: p, [], X, Y, hp, _, h => by
    simp only [List.nil_append, List.cons_append, List.cons.injEq] at h
    exact absurd h.1 (hp a (by simp))
  | a :: p, b :: q, X, Y, hp, hq, h => by
    simp only [List.cons_append, List.cons.injEq] at h
    obtain ⟨h1, h2⟩ := cut6 (fun x hx => hp x (by simp [hx])) (fun x hx => hq x (by simp [hx])) h.2
    exact ⟨by rw [h.1, h1], h2⟩
theorem map_idx_inj {S : List Int} : ∀ {t t' : List Int}, (∀ s ∈ t, s ∈ S) → (∀ s ∈ t', s ∈ S) → t.map (fun s => S.idxOf s) = t'.map (fun s => S.idxOf s) → t = t'
  | [], [], _, _, _ => rfl
  | [], _ :: _, _, _, h => by simp at h
  | _ :: _, [], _, _, h => by simp at h
  | s :: t, s' :: t', h1, h2, h => by
    simp only [List.map_cons, List.cons.injEq] at h
    rw [idx_inj (h1 s (by simp)) (h2 s' (by simp)) h.1, map_idx_inj (fun x hx => h1 x (by simp [hx])) (fun x hx => h2 x (by simp [hx])) h.2]
theorem wordq_inj {S : List Int} (hS : S.length ≤ 6) : ∀ {ts ts' : List (List Int)}, (∀ s ∈ ts.flatten, s ∈ S) → (∀ s ∈ ts'.flatten, s ∈ S) → wordq S ts = wordq S ts' → ts = ts'
  | [], [], _, _, _ => rfl
  | [], t :: ts, _, _, h => by simp [wordq] at h
  | t :: ts, [], _, _, h => by simp [wordq] at h
  | t :: ts, t' :: ts', h1, h2, h => by
    have e : ∀ (t : List Int) (ts : List (List Int)), wordq S (t :: ts) = t.map (fun s => S.idxOf s) ++ 6 :: wordq S ts := by intro t ts; simp [wordq]
    have n6 : ∀ (t : List Int), (∀ s ∈ t, s ∈ S) → ∀ b ∈ t.map (fun s => S.idxOf s), b ≠ 6 := by
      intro t ht b hb
      obtain ⟨s, hs, rfl⟩ := List.mem_map.1 hb
      have := List.idxOf_lt_length_of_mem (ht s hs)
      omega
    have a1 : ∀ s ∈ t, s ∈ S := fun s hs => h1 s (by simp [hs])
    have a2 : ∀ s ∈ t', s ∈ S := fun s hs => h2 s (by simp [hs])
    rw [e, e] at h
    obtain ⟨g1, g2⟩ := cut6 (n6 t a1) (n6 t' a2) h
    rw [map_idx_inj a1 a2 g1, wordq_inj hS (fun s hs => h1 s (by simp at hs ⊢; exact .inr hs)) (fun s hs => h2 s (by simp at hs ⊢; exact .inr hs)) g2]
/-- a list of numbers below N that holds none twice is no longer than N -/
theorem nodup_short : ∀ (N : Nat) (l : List Nat), l.Nodup → (∀ x ∈ l, x < N) → l.length ≤ N
  | 0, l, _, h => by
    cases l with
    | nil => simp
    | cons x l => exact absurd (h x (by simp)) (Nat.not_lt_zero _)
  | N + 1, l, hn, h => by
    have h1 : (l.filter (fun x => decide (x ≠ N))).length ≤ N := by
      refine nodup_short N _ (hn.filter _) fun x hx => ?_
      have := h x (List.mem_filter.1 hx).1
      have h2 := (List.mem_filter.1 hx).2
      simp at h2; omega
    have h2 : l.length ≤ (l.filter (fun x => decide (x ≠ N))).length + 1 := by
      clear h h1
      induction l with
      | nil => simp
      | cons x l ih =>
        have hn' := List.nodup_cons.1 hn
        by_cases c : x = N
        · subst c
          have : l.filter (fun y => decide (y ≠ x)) = l := by
            refine List.filter_eq_self.2 fun y hy => ?_
            simp; intro e; subst e; exact hn'.1 hy
          rw [List.filter_cons_of_neg (by simp), this, List.length_cons]; omega
        · have := ih hn'.2
          rw [List.filter_cons_of_pos (by simpa using c), List.length_cons, List.length_cons]; omega
    omega
/-- standings of few sets are not too many -/
theorem few {S : List Int} (hS : S.length ≤ 6) {K : List (List (List Int))} (hn : K.Nodup) (h : ∀ ts ∈ K, (∀ s ∈ ts.flatten, s ∈ S) ∧ ts.flatten.length ≤ 6 ∧ ts.length ≤ 4) : K.length ≤ 1073741824 := by
  have := nodup_short 1073741824 (K.map fun ts => num (wordq S ts)) ?_ ?_
  · simpa using this
  · refine List.pairwise_map.2 (hn.imp_of_mem ?_)
    intro a b ha hb hab e
    exact hab (wordq_inj hS (h a ha).1 (h b hb).1 (num_inj (wordq_lt hS (h a ha).1) (wordq_lt hS (h b hb).1) e))
  · intro x hx
    obtain ⟨ts, hts, rfl⟩ := List.mem_map.1 hx
    have h1 := num_lt (wordq_lt hS (h ts hts).1)
    have h2 : (wordq S ts).length ≤ 10 := by rw [wordq_len]; have := (h ts hts).2; omega
    have h3 : 8 ^ (wordq S ts).length ≤ 8 ^ 10 := Nat.pow_le_pow_right (by omega) h2
    have h4 : (8 : Nat) ^ 10 = 1073741824 := by decide
    omega
/-! what has been seen -/
theorem pad_eqv {n : Nat} {a b : PadK n} : (a == b) = true ↔ a.cells = b.cells := by rw [PadK.beq]; simp
theorem mget_mputP {n : Nat} (m : List (PadK n × Bool)) (k j : PadK n) (v : Bool) : mget (mput m k v) j = if j.cells = k.cells then some v else mget m j := by
  induction m with
  | nil =>
    by_cases h : j.cells = k.cells
    · simp [mput, mget, h, pad_eqv]
    · have : (j == k) = false := by rw [PadK.beq]; simpa using h
      simp [mput, mget, h, this]
  | cons p r ih =>
    obtain ⟨a, b⟩ := p
    simp only [mput]
    by_cases h : k.cells = a.cells
    · have hb : (k == a) = true := pad_eqv.2 h
      rw [if_pos hb]
      by_cases h2 : j.cells = a.cells
      · have h3 : j.cells = k.cells := by rw [h2, h]
        simp [mget, pad_eqv, h2, h]
      · have h3 : ¬ j.cells = k.cells := by rw [h]; exact h2
        have h4 : (j == a) = false := by rw [PadK.beq]; simpa using h2
        simp [mget, h4, h3]
    · have hb : (k == a) = false := by rw [PadK.beq]; simpa using h
      rw [hb]
      simp only [Bool.false_eq_true, if_false, mget]
      by_cases h2 : j.cells = a.cells
      · have h3 : ¬ j.cells = k.cells := fun e => h (by rw [← e, h2])
        have h4 : (j == a) = true := pad_eqv.2 h2
        simp [h4, h3]
      · have h4 : (j == a) = false := by rw [PadK.beq]; simpa using h2
        simp [h4, ih]
theorem bytes_iff {a b : ByteArray} : (a == b) = true ↔ a = b := ⟨bytes_beq, fun h => by rw [h]; exact bytes_refl b⟩
theorem mget_mputS (m : List (ByteArray × Bool)) (k j : ByteArray) (v : Bool) : mget (mput m k v) j = if j = k then some v else mget m j := by
  have hf : ∀ {a b : ByteArray}, ¬ a = b → (a == b) = false := by
    intro a b h
    cases e : (a == b) with
    | false => rfl
    | true => exact absurd (bytes_iff.1 e) h
  induction m with
  | nil =>
    by_cases h : j = k
    · simp [mput, mget, h, bytes_refl]
    · simp [mput, mget, h, hf h]
  | cons p r ih =>
    obtain ⟨a, b⟩ := p
    simp only [mput]
    by_cases h : k = a
    · subst h
      rw [if_pos (bytes_refl k)]
      by_cases h2 : j = k
      · simp [mget, h2, bytes_refl]
      · simp [mget, h2, hf h2]
    · rw [hf h]
      simp only [Bool.false_eq_true, if_false, mget]
      by_cases h2 : j = a
      · have h3 : ¬ j = k := fun e => h (by rw [← e, h2])
        rw [if_pos (bytes_iff.2 h2), if_neg h3, if_pos (bytes_iff.2 h2)]
      · rw [hf h2]; simp [ih]
/-- a standing that moves lead to, with so many sets gone -/
structure Gd (d0 d : FleetDepot) (g : Int) : Prop where
  v : V d
  rm : d.Room = d0.Room
  sub : ∀ s ∈ d.Tracks.flatten, s ∈ d0.Tracks.flatten
  g0 : 0 ≤ g
  gl : (d.Tracks.flatten.length : Int) + g = d0.Tracks.flatten.length
section
variable {d0 : FleetDepot} (hS : d0.Tracks.flatten.length ≤ 6)
include hS
theorem gd_same {d d' : FleetDepot} {g g' : Int} (h : Gd d0 d g) (h' : Gd d0 d' g') : (stq d.Tracks = stq d'.Tracks ↔ d.Tracks = d'.Tracks) ∧ (nameOf g d.Tracks = nameOf g' d'.Tracks ↔ d.Tracks = d'.Tracks) := by
  obtain ⟨a1, a2, a3⟩ := tracks_ok h.v
  obtain ⟨b1, b2, b3⟩ := tracks_ok h'.v
  have hl : d.Tracks.length = d'.Tracks.length := by rw [h.v.tn, h'.v.tn, h.rm, h'.rm]
  have g1 := h.gl; have g2 := h'.gl; have g3 := h.g0; have g4 := h'.g0
  refine ⟨⟨fun e => stq_inj a1 b1 hl e, fun e => by rw [e]⟩, ⟨fun e => name_inj (by omega) (by omega) (fun t ht => (a1 t ht).1) (fun t ht => (b1 t ht).1) a3 b3 e, fun e => ?_⟩⟩
  rw [e] at g1
  rw [e, show g = g' by omega]
/-- both have seen the standings of K -/
structure Sn (d0 : FleetDepot) (K : List (List (List Int))) (P : List (PadK (4 * 4) × Bool)) (Q : List (ByteArray × Bool)) : Prop where
  p : ∀ d g, Gd d0 d g → (mget P (PadK.mk (stq d.Tracks) : PadK (4 * 4))).getD false = decide (d.Tracks ∈ K)
  q : ∀ d g, Gd d0 d g → (mget Q (nameOf g d.Tracks)).getD false = decide (d.Tracks ∈ K)
theorem Sn.put {K : List (List (List Int))} {P : List (PadK (4 * 4) × Bool)} {Q : List (ByteArray × Bool)} (h : Sn d0 K P Q) {d : FleetDepot} {g : Int} (hd : Gd d0 d g) : Sn d0 (K ++ [d.Tracks]) (mput P (PadK.mk (stq d.Tracks) : PadK (4 * 4)) true) (mput Q (nameOf g d.Tracks) true) := by
  have hc : ∀ {e : FleetDepot} {k : Int}, Gd d0 e k → (PadK.mk (stq e.Tracks) : PadK (4 * 4)).cells = stq e.Tracks := by
    intro e k he
    obtain ⟨a1, a2, a3⟩ := tracks_ok he.v
    exact PadK.cells_of (stq_len (fun t ht => (a1 t ht).2) a2)
  constructor
  · intro e k he
    rw [mget_mputP, hc he, hc hd]
    have hs := (gd_same hS he hd).1
    by_cases c : e.Tracks = d.Tracks
    · rw [if_pos (hs.2 c)]; simp [c]
    · rw [if_neg (fun q => c (hs.1 q)), h.p e k he]; simp [c]
  · intro e k he
    rw [mget_mputS]
    have hs := (gd_same hS he hd).2
    by_cases c : e.Tracks = d.Tracks
    · rw [if_pos (hs.2 c)]; simp [c]
    · rw [if_neg (fun q => c (hs.1 q)), h.q e k he]; simp [c]
end
/-! one standing after the other -/
def toY (x : FleetTry) : Fishref2Yard := ⟨x.depot, x.left, x.moves⟩
/-- all is well with what is kept -/
structure St9 (d0 : FleetDepot) (want : List Int) (K : List (List (List Int))) (P : List (PadK (4 * 4) × Bool)) (Q : List (ByteArray × Bool)) (q : List FleetTry) : Prop where
  sn : Sn d0 K P Q
  nd : K.Nodup
  kg : ∀ ts ∈ K, (∀ s ∈ ts.flatten, s ∈ d0.Tracks.flatten) ∧ ts.flatten.length ≤ 6 ∧ ts.length ≤ 4
  suf : q.map (fun x => x.depot.Tracks) <:+ K
  nodes : ∀ x ∈ q, Gd d0 x.depot x.left ∧ x.left ≤ want.length ∧ x.moves.length + 1 ≤ K.length
section
variable {d0 : FleetDepot} {kinds want : List Int} (hV0 : V d0) (hS : d0.Tracks.flatten.length ≤ 6) (hk : ∀ s ∈ d0.Tracks.flatten, s < kinds.length)
include hS
omit hV0 hk in
theorem St9.few {K P Q q} (h : St9 d0 want K P Q q) : K.length ≤ 1073741824 := Go.Fp.few hS h.nd h.kg
omit hS in
theorem gd_next {d d' : FleetDepot} {g : Int} {m : FleetMove} (h : Gd d0 d g) (hv : V d') (hr : d'.Room = d.Room) (hs : ∀ x ∈ d'.Tracks.flatten, x ∈ d.Tracks.flatten) (hl : d'.Tracks.flatten.length + (if m.To < 0 then 1 else 0) = d.Tracks.flatten.length) : Gd d0 d' (if m.To < 0 then g + 1 else g) := by
  have h1 := h.g0; have h2 := h.gl
  refine ⟨hv, by rw [hr, h.rm], fun s x => h.sub s (hs s x), ?_, ?_⟩
  · split <;> omega
  · split at hl <;> rename_i c
    · rw [if_pos c]; omega
    · rw [if_neg c]; omega
omit hS in
theorem clonem_eq (l : List FleetMove) (h : l.length < 4294967296) : SlicesCloneLfleetMove l = some l := by
  unfold SlicesCloneLfleetMove
  rw [apd_lt (by simpa using h)]; rfl
include hV0 hk
/-- the moves from one track, tried by both -/
theorem to_loop {c : FleetTry × Bool × List FleetTry} (hx : Gd d0 c.1.depot c.1.left) (hxw : c.1.left < want.length) {k : Nat} : ∀ (n : Nat) (m : Nat) (K : List (List (List Int))) (P : List (PadK (4 * 4) × Bool)) (Q : List (ByteArray × Bool)) (q : List FleetTry) (nx : List Fishref2Yard), m ≤ d0.Tracks.length + 1 → d0.Tracks.length + 1 - m < n → nx.length ≤ q.length → c.1.moves.length + 1 ≤ K.length → St9 d0 want K P Q q →
    ∃ kids K' P' Q' z z', FleetShunt.loop5 d0 kinds want c k n (((m : Nat) : Int) - 1) q P = some (z, q ++ kids, P') ∧
      Fishref2ShuntOf.loop5 d0 kinds want (toY c.1) k n nx (((m : Nat) : Int) - 1) Q = some (nx ++ kids.map toY, z', Q') ∧ St9 d0 want K' P' Q' (q ++ kids) ∧ K'.length = K.length + kids.length
  | 0, m, _, _, _, _, _, _, h, _, _, _ => absurd h (Nat.not_lt_zero _)
  | n + 1, m, K, P, Q, q, nx, hm, hn, hnx, hmv, h => by
    have hKf := h.few hS
    have htn := hV0.tn; have hn4 := hV0.n4
    have hql : q.length ≤ K.length := by
      have := h.suf.length_le
      simpa using this
    have g0 := hx.g0; have gl := hx.gl
    rw [FleetShunt.loop5, Fishref2ShuntOf.loop5, ← htn]
    by_cases hlt : ((m : Nat) : Int) - 1 < (d0.Tracks.length : Int)
    · have hw : w64 (((m : Nat) : Int) - 1 + 1) = ((m + 1 : Nat) : Int) - 1 := by rw [w64_id (by omega)]; omega
      rw [if_pos (decide_eq_true hlt), if_pos (decide_eq_true hlt), hw]
      have skip : ∃ kids K' P' Q' z z', FleetShunt.loop5 d0 kinds want c k n (((m + 1 : Nat) : Int) - 1) q P = some (z, q ++ kids, P') ∧
          Fishref2ShuntOf.loop5 d0 kinds want (toY c.1) k n nx (((m + 1 : Nat) : Int) - 1) Q = some (nx ++ kids.map toY, z', Q') ∧ St9 d0 want K' P' Q' (q ++ kids) ∧ K'.length = K.length + kids.length :=
        to_loop hx hxw n (m + 1) K P Q q nx (by omega) (by omega) hnx hmv h
      have hty : (toY c.1).d = c.1.depot ∧ (toY c.1).gone = c.1.left ∧ (toY c.1).moves = c.1.moves := ⟨rfl, rfl, rfl⟩
      rw [hty.1, hty.2.1, hty.2.2]
      rcases step c.1.depot hx.v (FleetMove.mk ((k : Nat) : Int) (((m : Nat) : Int) - 1)) with ⟨e, e0, p1, p2⟩ | ⟨d', s, p1, v', s0, hlen, p2, rm', smem, sub'⟩
      · have eb : (e != 0) = true := by simpa using e0
        rw [p1, p2, Option.bind_some, Option.bind_some]
        simp only [eb, if_true, Option.bind_some]
        exact skip
      · have hgd := gd_next hx v' rm' sub' hlen
        simp only at hgd p2
        have hsk := hk s (hx.sub s smem)
        have gk : gx kinds s = some (kinds[s.toNat]'(by omega)) := gx_toNat s0 (by omega)
        have gw : gx want c.1.left = some (want[c.1.left.toNat]'(by omega)) := gx_toNat g0 (by omega)
        have e00 : (((0 : Int)) != 0) = false := rfl
        rw [p1, p2, Option.bind_some, Option.bind_some]
        simp only [e00, Bool.false_eq_true, if_false]
        have hcp : ∃ b, ((if decide (((m : Nat) : Int) - 1 < 0) then ((gx kinds s).bind fun x209 => ((gx want c.1.left).bind fun x218 => some (x209 != x218))) else some false) : Option Bool) = some b ∧
            ((if decide ((if ((m : Nat) : Int) - 1 < 0 then s else -1) ≥ 0) then (if decide (c.1.left ≥ (want.length : Int)) then some true else ((gx kinds (if ((m : Nat) : Int) - 1 < 0 then s else -1)).bind fun x216 => ((gx want c.1.left).bind fun x225 => some (x216 != x225)))) else some false) : Option Bool) = some b ∧
            ((if decide (((m : Nat) : Int) - 1 < 0) then w64 (c.1.left + 1) else c.1.left) = if ((m : Nat) : Int) - 1 < 0 then c.1.left + 1 else c.1.left) ∧
            ((if decide ((if ((m : Nat) : Int) - 1 < 0 then s else -1) ≥ 0) then w64 (c.1.left + 1) else c.1.left) = if ((m : Nat) : Int) - 1 < 0 then c.1.left + 1 else c.1.left) := by
          by_cases ht : ((m : Nat) : Int) - 1 < 0
          · have hd : decide (c.1.left ≥ (want.length : Int)) = false := decide_eq_false (by omega)
            have hs : decide (s ≥ 0) = true := decide_eq_true s0
            simp only [ht, decide_true, if_true, gk, gw, Option.bind_some, hs, hd, Bool.false_eq_true, if_false]
            rw [w64_id (by omega)]
            exact ⟨_, rfl, rfl, rfl, rfl⟩
          · have hs : decide ((-1 : Int) ≥ 0) = false := rfl
            simp only [ht, decide_false, Bool.false_eq_true, if_false, hs]
            exact ⟨_, rfl, rfl, trivial, trivial⟩
        obtain ⟨b, c1, c2, c3, c4⟩ := hcp
        rw [c1, c2, Option.bind_some, Option.bind_some]
        cases b with
        | true => simp only [if_true]; exact skip
        | false =>
          simp only [Bool.false_eq_true, if_false]
          have hg99 : 0 ≤ (if ((m : Nat) : Int) - 1 < 0 then c.1.left + 1 else c.1.left) ∧ (if ((m : Nat) : Int) - 1 < 0 then c.1.left + 1 else c.1.left) ≤ 99 := by
            have := hgd.g0; have := hgd.gl; omega
          rw [clonem_eq _ (by omega), Option.bind_some, Option.bind_some, apd_lt (by simp; omega), Option.bind_some, Option.bind_some, bnd_eq, bnd_eq, c3, c4, state_eq v', Option.bind_some, name_eq _ v' hg99, Option.bind_some]
          have sp := h.sn.p d' _ hgd
          have sq := h.sn.q d' _ hgd
          rw [sp, sq]
          by_cases hmem : d'.Tracks ∈ K
          · rw [decide_eq_true hmem]
            simp only [Bool.not_true, Bool.false_eq_true, if_false, Option.bind_some]
            exact skip
          · rw [decide_eq_false hmem]
            simp only [Bool.not_false, if_true]
            unfold FleetQueueputfleettry_v1
            simp only
            rw [apd_lt (by simp; omega), Option.bind_some, Option.bind_some, apd_lt (by simp; omega), Option.bind_some, Option.bind_some]
            simp only
            have h' : St9 d0 want (K ++ [d'.Tracks]) (mput P (PadK.mk (stq d'.Tracks) : PadK (4 * 4)) true) (mput Q (nameOf (if ((m : Nat) : Int) - 1 < 0 then c.1.left + 1 else c.1.left) d'.Tracks) true) (q ++ [FleetTry.mk d' (if ((m : Nat) : Int) - 1 < 0 then c.1.left + 1 else c.1.left) (c.1.moves ++ [FleetMove.mk ((k : Nat) : Int) (((m : Nat) : Int) - 1)])]) := by
              refine ⟨h.sn.put hS hgd, ?_, ?_, ?_, ?_⟩
              · refine List.nodup_append.2 ⟨h.nd, by simp, ?_⟩
                intro a ha b hb e
                simp at hb; subst hb; subst e; exact hmem ha
              · intro ts hts
                rcases List.mem_append.1 hts with q1 | q1
                · exact h.kg ts q1
                · simp at q1; subst q1
                  have t2 := (tracks_ok v').2.1
                  have := hgd.gl; have := hgd.g0
                  exact ⟨hgd.sub, by omega, t2⟩
              · rw [List.map_append]
                obtain ⟨Z, hZ⟩ := h.suf
                exact ⟨Z, by rw [← hZ]; simp⟩
              · intro y hy
                rcases List.mem_append.1 hy with q1 | q1
                · obtain ⟨y1, y2, y3⟩ := h.nodes y q1
                  exact ⟨y1, y2, by rw [List.length_append, List.length_singleton]; omega⟩
                · simp at q1; subst q1
                  refine ⟨hgd, ?_, by simp; omega⟩
                  simp only
                  split <;> omega
            obtain ⟨kids, K', P', Q', z, z', r1, r2, r3, r4⟩ := to_loop hx hxw n (m + 1) _ _ _ _ (nx ++ [toY (FleetTry.mk d' (if ((m : Nat) : Int) - 1 < 0 then c.1.left + 1 else c.1.left) (c.1.moves ++ [FleetMove.mk ((k : Nat) : Int) (((m : Nat) : Int) - 1)]))]) (by omega) (by omega) (by simp; omega) (by simp; omega) h'
            refine ⟨FleetTry.mk d' (if ((m : Nat) : Int) - 1 < 0 then c.1.left + 1 else c.1.left) (c.1.moves ++ [FleetMove.mk ((k : Nat) : Int) (((m : Nat) : Int) - 1)]) :: kids, K', P', Q', z, z', ?_, ?_, ?_, ?_⟩
            · rw [r1]; simp
            · have e9 : (⟨d', (if ((m : Nat) : Int) - 1 < 0 then c.1.left + 1 else c.1.left), c.1.moves ++ [FleetMove.mk ((k : Nat) : Int) (((m : Nat) : Int) - 1)]⟩ : Fishref2Yard) = toY (FleetTry.mk d' (if ((m : Nat) : Int) - 1 < 0 then c.1.left + 1 else c.1.left) (c.1.moves ++ [FleetMove.mk ((k : Nat) : Int) (((m : Nat) : Int) - 1)])) := rfl
              rw [e9, r2]; simp
            · rw [List.append_assoc] at r3; exact r3
            · rw [r4]; simp; omega
    · rw [if_neg (by simpa using hlt), if_neg (by simpa using hlt)]
      exact ⟨[], K, P, Q, _, _, by rw [List.append_nil], by rw [List.map_nil, List.append_nil], by rw [List.append_nil]; exact h, by simp⟩
end
/-! level by level -/
section
variable {d0 : FleetDepot} {kinds want : List Int} (hV0 : V d0) (hS : d0.Tracks.flatten.length ≤ 6) (hk : ∀ s ∈ d0.Tracks.flatten, s < kinds.length) {fu : Nat} (hfu : 100 ≤ fu)
include hV0 hS hk hfu
theorem from_loop {c : FleetTry × Bool × List FleetTry} (hx : Gd d0 c.1.depot c.1.left) (hxw : c.1.left < want.length) : ∀ (ts : List (List Int)) (rs : List Int) (k : Nat) (K : List (List (List Int))) (P : List (PadK (4 * 4) × Bool)) (Q : List (ByteArray × Bool)) (q : List FleetTry) (nx : List Fishref2Yard), ts.length = rs.length → nx.length ≤ q.length → c.1.moves.length + 1 ≤ K.length → St9 d0 want K P Q q →
    ∃ kids K' P' Q', FleetShunt.loop4 d0 kinds want fu c ts k q P = some (q ++ kids, P') ∧
      Fishref2ShuntOf.loop4 d0 kinds want fu (toY c.1) rs k nx Q = some (nx ++ kids.map toY, Q') ∧ St9 d0 want K' P' Q' (q ++ kids) ∧ K'.length = K.length + kids.length
  | [], [], k, K, P, Q, q, nx, _, _, _, h => ⟨[], K, P, Q, by simp [FleetShunt.loop4], by simp [Fishref2ShuntOf.loop4], by rw [List.append_nil]; exact h, by simp⟩
  | [], _ :: _, _, _, _, _, _, _, h, _, _, _ => by simp at h
  | _ :: _, [], _, _, _, _, _, _, h, _, _, _ => by simp at h
  | t :: ts, r :: rs, k, K, P, Q, q, nx, hl, hnx, hmv, h => by
    have hn4 := hV0.n4; have htn := hV0.tn
    obtain ⟨kids, K', P', Q', z, z', r1, r2, r3, r4⟩ := to_loop hV0 hS hk hx hxw (k := k) fu 0 K P Q q nx (by omega) (by omega) hnx hmv h
    obtain ⟨kids2, K2, P2, Q2, s1, s2, s3, s4⟩ := from_loop hx hxw ts rs (k + 1) K' P' Q' (q ++ kids) (nx ++ kids.map toY) (by simpa using hl) (by simp; omega) (by omega) r3
    have e1 : (((0 : Nat) : Int) - 1) = -1 := rfl
    rw [e1] at r1 r2
    rw [FleetShunt.loop4, Fishref2ShuntOf.loop4, r1, r2, Option.bind_some, Option.bind_some]
    simp only
    refine ⟨kids ++ kids2, K2, P2, Q2, by rw [s1, List.append_assoc], by rw [s2, List.append_assoc, List.map_append], by rw [← List.append_assoc]; exact s3, by rw [s4, r4, List.length_append]; omega⟩
omit hV0 hS hk hfu in
theorem take_eq9 (x : FleetTry) (l : List FleetTry) (hl : l.length < 9223372036854775807) : FleetQueuetakefleettry_v1 ⟨x :: l⟩ = some (x, true, l) := by
  unfold FleetQueuetakefleettry_v1
  have h1 : ((((x :: l).length : Nat) : Int) == 0) = false := by rw [beq_eq_false_iff_ne]; simp; omega
  simp only
  rw [h1]
  simp only [Bool.false_eq_true, if_false]
  have h2 : gx (x :: l) 0 = some x := by simp [gx]
  rw [h2, Option.bind_some, cutl_in (by omega) (by simp; omega) (by simp), Option.bind_some]
  simp
theorem level9 : ∀ (L N : List FleetTry) (n : Nat) (K : List (List (List Int))) (P : List (PadK (4 * 4) × Bool)) (Q : List (ByteArray × Bool)), St9 d0 want K P Q (L ++ N) → (∀ x ∈ L, x.left ≠ (want.length : Int)) → L.length ≤ n →
    ∃ kids K' P' Q', FleetShunt.loop3 d0 kinds want fu n (L ++ N) P = FleetShunt.loop3 d0 kinds want fu (n - L.length) (N ++ kids) P' ∧
      Fishref2ShuntOf.loop3 d0 kinds want fu (L.map toY) (N.map toY) Q = some ((N ++ kids).map toY, Q') ∧ St9 d0 want K' P' Q' (N ++ kids) ∧ K'.length = K.length + kids.length
  | [], N, n, K, P, Q, h, _, _ => ⟨[], K, P, Q, by simp, by simp [Fishref2ShuntOf.loop3], by simpa using h, by simp⟩
  | x :: L, N, n, K, P, Q, h, hg, hn => by
    obtain ⟨n, rfl⟩ : ∃ z, n = z + 1 := ⟨n - 1, by simp at hn; omega⟩
    have hKf := h.few hS
    have hsl := h.suf.length_le
    simp only [List.length_map, List.length_append, List.length_cons] at hsl
    obtain ⟨y1, y2, y3⟩ := h.nodes x (by simp)
    have hxg := hg x (by simp)
    have h0 : St9 d0 want K P Q (L ++ N) := by
      refine ⟨h.sn, h.nd, h.kg, ?_, fun y hy => h.nodes y (by simp only [List.cons_append, List.mem_cons]; exact .inr hy)⟩
      have := h.suf
      rw [List.cons_append, List.map_cons] at this
      exact (List.suffix_cons _ _).trans this
    obtain ⟨kids, K', P', Q', r1, r2, r3, r4⟩ := from_loop hV0 hS hk hfu (c := (x, true, L ++ N)) y1 (by show x.left < _; omega) d0.Tracks d0.Room 0 K P Q (L ++ N) (N.map toY) hV0.tn (by simp) y3 h0
    rw [List.append_assoc] at r1 r3
    obtain ⟨kids2, K2, P2, Q2, s1, s2, s3, s4⟩ := level9 L (N ++ kids) n K' P' Q' r3 (fun y hy => hg y (by simp [hy])) (by simp at hn; omega)
    have hb : (x.left == (want.length : Int)) = false := by rw [beq_eq_false_iff_ne]; exact hxg
    rw [List.cons_append, FleetShunt.loop3, take_eq9 x (L ++ N) (by simp; omega), Option.bind_some]
    simp only [Bool.not_true, Bool.false_eq_true, if_false, hb]
    rw [r1, Option.bind_some]
    simp only
    rw [List.map_cons, Fishref2ShuntOf.loop3, r2, Option.bind_some]
    simp only
    refine ⟨kids ++ kids2, K2, P2, Q2, ?_, ?_, ?_, by rw [s4, r4, List.length_append]; omega⟩
    · rw [s1, List.length_cons, Nat.add_sub_add_right, List.append_assoc]
    · rw [← List.map_append, s2, List.append_assoc]
    · rw [← List.append_assoc]; exact s3
omit hV0 hS hk hfu in
theorem goal_cases : ∀ (L : List FleetTry), (Fishref2ShuntOf.loop2 want (L.map toY) = .next () ∧ ∀ x ∈ L, x.left ≠ (want.length : Int)) ∨ ∃ A y B, L = A ++ y :: B ∧ (∀ x ∈ A, x.left ≠ (want.length : Int)) ∧ y.left = (want.length : Int) ∧ Fishref2ShuntOf.loop2 want (L.map toY) = .ret (y.moves, 0)
  | [] => .inl ⟨rfl, fun _ h => by cases h⟩
  | x :: L => by
    rw [List.map_cons, Fishref2ShuntOf.loop2]
    have e : (toY x).gone = x.left ∧ (toY x).moves = x.moves := ⟨rfl, rfl⟩
    rw [e.1, e.2]
    by_cases c : x.left = (want.length : Int)
    · right
      exact ⟨[], x, L, rfl, fun _ h => (by cases h), c, by rw [if_pos (by simpa using c)]⟩
    · rw [if_neg (by simpa using c)]
      rcases goal_cases L with ⟨h1, h2⟩ | ⟨A, y, B, h1, h2, h3, h4⟩
      · left
        refine ⟨h1, fun y hy => ?_⟩
        rcases List.mem_cons.1 hy with rfl | hy
        · exact c
        · exact h2 y hy
      · right
        refine ⟨x :: A, y, B, by rw [h1]; rfl, fun z hz => ?_, h3, h4⟩
        rcases List.mem_cons.1 hz with rfl | hz
        · exact c
        · exact h2 z hz
theorem sim9 : ∀ (n' n : Nat) (L : List FleetTry) (K : List (List (List Int))) (P : List (PadK (4 * 4) × Bool)) (Q : List (ByteArray × Bool)), St9 d0 want K P Q L → 1073741825 - (K.length - L.length) ≤ n → 1073741825 - (K.length - L.length) ≤ n' →
    ∃ r, FleetShunt.loop3 d0 kinds want fu n L P = some (.ret r) ∧ ((Fishref2ShuntOf.loop1 d0 kinds want fu n' (L.map toY) Q = some (.ret r) ∧ ∃ d g, Gd d0 d g ∧ g = want.length) ∨ ((∃ z, Fishref2ShuntOf.loop1 d0 kinds want fu n' (L.map toY) Q = some (.next z)) ∧ r = ([], 9)))
  | 0, n, L, K, P, Q, h, _, hn => by have := h.few hS; omega
  | n' + 1, n, L, K, P, Q, h, hn, hn' => by
    have hKf := h.few hS
    have hsl := h.suf.length_le
    simp only [List.length_map] at hsl
    obtain ⟨n, rfl⟩ : ∃ z, n = z + 1 := ⟨n - 1, by omega⟩
    cases L with
    | nil =>
      refine ⟨([], 9), ?_, .inr ⟨?_, rfl⟩⟩
      · rw [FleetShunt.loop3]
        have e : FleetQueuetakefleettry_v1 ⟨[]⟩ = some (FleetTry.mk (FleetDepot.mk [] []) 0 [], false, []) := rfl
        rw [e, Option.bind_some]; rfl
      · refine ⟨([], Q), ?_⟩
        rw [List.map_nil, Fishref2ShuntOf.loop1, if_neg (by simp)]
    | cons x L =>
      simp only [List.length_cons] at hsl hn hn'
      rw [Fishref2ShuntOf.loop1, if_pos (by simp), bnd_eq]
      rcases goal_cases (want := want) (x :: L) with ⟨g1, g2⟩ | ⟨A, y, B, g1, g2, g3, g4⟩
      · obtain ⟨kids, K', P', Q', r1, r2, r3, r4⟩ := level9 hV0 hS hk hfu (x :: L) [] (n + 1) K P Q (by rw [List.append_nil]; exact h) g2 (by simp only [List.length_cons]; omega)
        rw [List.append_nil, List.nil_append] at r1
        rw [List.map_nil, List.nil_append] at r2
        rw [List.nil_append] at r3
        rw [g1]
        simp only
        rw [r1, r2, Option.bind_some]
        simp only
        simp only [List.length_cons]
        exact sim9 n' (n + 1 - (L.length + 1)) kids K' P' Q' r3 (by omega) (by omega)
      · have hA : A.length + (B.length + 1) = L.length + 1 := by
          have := congrArg List.length g1
          simp at this; omega
        rw [g1] at h
        obtain ⟨kids, K', P', Q', r1, r2, r3, r4⟩ := level9 hV0 hS hk hfu A (y :: B) (n + 1) K P Q h g2 (by omega)
        rw [g4]
        simp only
        rw [g1, r1]
        obtain ⟨n2, hn2⟩ : ∃ z, n + 1 - A.length = z + 1 := ⟨n - A.length, by omega⟩
        have hsl2 := r3.suf.length_le
        have hKf2 := r3.few hS
        simp only [List.length_map, List.length_append, List.length_cons] at hsl2
        have hb : (y.left == (want.length : Int)) = true := by simpa using g3
        refine ⟨(y.moves, 0), ?_, .inl ⟨rfl, y.depot, y.left, (h.nodes y (by simp)).1, g3⟩⟩
        rw [hn2, List.cons_append, FleetShunt.loop3, take_eq9 y (B ++ kids) (by simp; omega), Option.bind_some]
        simp only [Bool.not_true, Bool.false_eq_true, if_false, hb, if_true]
end
/-! the whole law -/
theorem sum_loop : ∀ (ts : List (List Int)) (acc : Int), 0 ≤ acc → acc + ts.flatten.length ≤ 1000 → FleetShunt.loop1 ts acc = acc + ts.flatten.length ∧ Fishref2ShuntFault.loop1 ts acc = acc + ts.flatten.length
  | [], acc, _, _ => by simp [FleetShunt.loop1, Fishref2ShuntFault.loop1]
  | t :: ts, acc, h0, h => by
    simp only [List.flatten_cons, List.length_append] at h
    have hw : w64 (acc + ((t.length : Nat) : Int)) = acc + t.length := w64_id (by omega)
    rw [FleetShunt.loop1, Fishref2ShuntFault.loop1, hw]
    obtain ⟨h1, h2⟩ := sum_loop ts (acc + t.length) (by omega) (by omega)
    rw [h1, h2]
    simp only [List.flatten_cons, List.length_append]
    constructor <;> omega
theorem kinds_loop (kinds : List Int) : ∀ (ts : List (List Int)), (FleetShunt.loop2 kinds ts = .next () ∧ Fishref2ShuntFault.loop2 kinds ts = .next () ∧ ∀ s ∈ ts.flatten, s < kinds.length) ∨ (FleetShunt.loop2 kinds ts = .ret ([], 2) ∧ Fishref2ShuntFault.loop2 kinds ts = .ret 2) := by
  have inner : ∀ (t : List Int), (SlicesContainsFuncLint_v1 t kinds = false ∧ Fishref2ShuntFault.loop3 kinds t = .next () ∧ ∀ s ∈ t, s < kinds.length) ∨ (SlicesContainsFuncLint_v1 t kinds = true ∧ Fishref2ShuntFault.loop3 kinds t = .ret 2) := by
    intro t
    have key : ∀ (t : List Int) (k : Nat), (SlicesIndexFuncLint_v1.loop1 kinds t k = .next () ∧ Fishref2ShuntFault.loop3 kinds t = .next () ∧ ∀ s ∈ t, s < kinds.length) ∨ ((∃ j : Nat, SlicesIndexFuncLint_v1.loop1 kinds t k = .ret ((j : Nat) : Int)) ∧ Fishref2ShuntFault.loop3 kinds t = .ret 2) := by
      intro t
      induction t with
      | nil => intro k; exact .inl ⟨rfl, rfl, fun _ h => by cases h⟩
      | cons s t ih =>
        intro k
        rw [SlicesIndexFuncLint_v1.loop1, Fishref2ShuntFault.loop3]
        unfold FleetShunt_1_v1
        by_cases c : s ≥ (kinds.length : Int)
        · rw [if_pos (by simpa using c), if_pos (by simpa using c)]
          exact .inr ⟨⟨k, rfl⟩, rfl⟩
        · rw [if_neg (by simpa using c), if_neg (by simpa using c)]
          rcases ih (k + 1) with ⟨h1, h2, h3⟩ | h
          · refine .inl ⟨h1, h2, fun x hx => ?_⟩
            rcases List.mem_cons.1 hx with rfl | hx
            · omega
            · exact h3 x hx
          · exact .inr h
    unfold SlicesContainsFuncLint_v1 SlicesIndexFuncLint_v1
    rw [bnd_eq]
    rcases key t 0 with ⟨h1, h2, h3⟩ | ⟨⟨j, h1⟩, h2⟩
    · left; rw [h1]; exact ⟨by simp, h2, h3⟩
    · right; rw [h1]; exact ⟨by simp, h2⟩
  intro ts
  induction ts with
  | nil => exact .inl ⟨rfl, rfl, fun _ h => by cases h⟩
  | cons t ts ih =>
    rw [FleetShunt.loop2, Fishref2ShuntFault.loop2, bnd_eq]
    rcases inner t with ⟨h1, h2, h3⟩ | ⟨h1, h2⟩
    · rw [h1, h2]
      simp only [Bool.false_eq_true, if_false]
      rcases ih with ⟨g1, g2, g3⟩ | ⟨g1, g2⟩
      · refine .inl ⟨g1, g2, fun s hs => ?_⟩
        rw [List.flatten_cons] at hs
        rcases List.mem_append.1 hs with hs | hs
        · exact h3 s hs
        · exact g3 s hs
      · exact .inr ⟨g1, g2⟩
    · rw [h1, h2]
      exact .inr ⟨rfl, rfl⟩
theorem moves_self (l : List FleetMove) : SlicesEqualLfleetMove l l = some true := by
  have key : ∀ (r : List FleetMove) (k : Nat), l.drop k = r → SlicesEqualLfleetMove.loop1 l r k = some (.next ()) := by
    intro r
    induction r with
    | nil => intro k _; rfl
    | cons x r ih =>
      intro k hd
      have hkl : k < l.length := by
        rcases Nat.lt_or_ge k l.length with h | h
        · exact h
        · rw [List.drop_eq_nil_of_le h] at hd; cases hd
      rw [List.drop_eq_getElem_cons hkl] at hd
      obtain ⟨h1, h2⟩ := List.cons.inj hd
      rw [SlicesEqualLfleetMove.loop1, gx_at hkl, Option.bind_some, h1]
      rw [if_neg (by simp)]
      exact ih (k + 1) h2
  unfold SlicesEqualLfleetMove
  rw [if_neg (by simp), key l 0 rfl]; rfl
theorem yards_true : Fishlaw2yards = some true := by decide +kernel
/-- what both say -/
theorem both9 (x0 : FleetDepot) (x1 x2 : List Int) (h2 : x2.length ≤ 9223372036854775807) (N : Nat) (hN : N = 1073741825) : ∃ r c, FleetShunt (N + 200) x0 x1 x2 = some r ∧ Fishref2ShuntFault x0 x1 = some c ∧ Fishref2ShuntOf (N + 200) x0 x1 x2 = some r ∧ (c = 0 → x2.length > 6 → r = ([], 9)) := by
  obtain ⟨c, e1, e2⟩ := check_eq x0
  unfold FleetShunt Fishref2ShuntOf Fishref2ShuntFault
  rw [e1, e2, Option.bind_some, Option.bind_some]
  by_cases hc : c = 0
  · subst hc
    have hV := ref_V x0 e2
    have hfl := fl_len x0 hV
    obtain ⟨s1, s2⟩ := sum_loop x0.Tracks 0 (by omega) (by omega)
    rw [Int.zero_add] at s1 s2
    have e00 : (((0 : Int)) != 0) = false := rfl
    simp only [e00, Bool.false_eq_true, if_false, bnd_eq]
    rw [s1, s2]
    by_cases h6 : ((x0.Tracks.flatten.length : Nat) : Int) > 6
    · rw [decide_eq_true h6]
      simp only [if_true, Option.bind_some]
      exact ⟨([], 4), 4, rfl, rfl, by rw [if_pos (by decide)], fun q => by cases q⟩
    · rw [decide_eq_false h6]
      simp only [Bool.false_eq_true, if_false]
      rcases kinds_loop x1 x0.Tracks with ⟨k1, k2, k3⟩ | ⟨k1, k2⟩
      · rw [k1, k2]
        simp only
        rw [Option.bind_some]
        simp only [e00, Bool.false_eq_true, if_false]
        have hg : Gd x0 x0 0 := ⟨hV, rfl, fun s h => h, by omega, by omega⟩
        have hSn : Sn x0 [] [] [] := ⟨fun d g _ => by simp [mget], fun d g _ => by simp [mget]⟩
        have hS6 : x0.Tracks.flatten.length ≤ 6 := by omega
        have h9 : St9 x0 x2 [x0.Tracks] (mput [] (PadK.mk (stq x0.Tracks) : PadK (4 * 4)) true) (mput [] (nameOf 0 x0.Tracks) true) [⟨x0, 0, []⟩] := by
          refine ⟨hSn.put hS6 hg, by simp, ?_, List.suffix_refl _, ?_⟩
          · intro ts hts
            simp at hts; subst hts
            exact ⟨fun s h => h, hS6, (tracks_ok hV).2.1⟩
          · intro x hx
            simp at hx; subst hx
            exact ⟨hg, by simp only; omega, by simp⟩
        obtain ⟨r, r1, r2⟩ := sim9 (want := x2) hV hS6 k3 (fu := N + 200) (by omega) (N + 200) (N + 200) _ _ _ _ h9 (by rw [hN]; omega) (by rw [hN]; omega)
        have ey : ([⟨x0, 0, []⟩] : List FleetTry).map toY = [Fishref2Yard.mk x0 0 []] := rfl
        rw [ey] at r2
        have hgx : gx [(Fishref2Yard.mk x0 0 [])] 0 = some (Fishref2Yard.mk x0 0 []) := rfl
        rw [hgx, Option.bind_some, name_eq [] hV (by omega), Option.bind_some]
        have hput : FleetQueueputfleettry_v1 (FleetTry.mk x0 0 []) (FleetQueueTry.mk []) = some [⟨x0, 0, []⟩] := by
          unfold FleetQueueputfleettry_v1
          simp only
          rw [apd_lt (by simp), Option.bind_some]; rfl
        have h9r : x2.length > x0.Tracks.flatten.length → r = ([], 9) := by
          intro hl
          rcases r2 with ⟨_, d, g, hgd, rfl⟩ | ⟨_, e⟩
          · have := hgd.gl; omega
          · exact e
        have fin : ∀ y : Option (List FleetMove × Int), y = some r → ∃ r' c, (if decide (((x2.length : Nat) : Int) > ((x0.Tracks.flatten.length : Nat) : Int)) = true then some ([], 9) else (FleetstateOf x0).bind fun q99 => (FleetQueueputfleettry_v1 (FleetTry.mk x0 0 []) (FleetQueueTry.mk [])).bind fun q105 => (FleetShunt.loop3 x0 x1 x2 (N + 200) (N + 200) q105 (mput [] (PadK.mk q99 : PadK (4 * 4)) true)).bind fun q113 => match q113 with | .ret r => some r | .next _ => none) = some r' ∧ some (0 : Int) = some c ∧ y = some r' ∧ (c = 0 → x2.length > 6 → r' = ([], 9)) := by
          intro y hy
          rw [hy]
          by_cases hl : ((x2.length : Nat) : Int) > ((x0.Tracks.flatten.length : Nat) : Int)
          · rw [if_pos (decide_eq_true hl)]
            obtain rfl := h9r (by omega)
            exact ⟨_, 0, rfl, rfl, rfl, fun _ _ => rfl⟩
          · rw [if_neg (by simpa using hl), state_eq hV, Option.bind_some, hput, Option.bind_some, r1, Option.bind_some]
            exact ⟨_, 0, rfl, rfl, rfl, fun _ h => h9r (by omega)⟩
        refine fin _ ?_
        rcases r2 with ⟨r2, _⟩ | ⟨⟨z, r2⟩, rfl⟩
        · rw [r2]; rfl
        · rw [r2]; rfl
      · rw [k1, k2]
        simp only
        rw [Option.bind_some]
        exact ⟨([], 2), 2, rfl, rfl, by rw [if_pos (by decide)], fun q => by cases q⟩
  · have cb : (c != 0) = true := by simpa using hc
    simp only [cb, if_true, Option.bind_some]
    exact ⟨_, c, rfl, rfl, rfl, fun q => absurd q hc⟩
theorem FleetShunts_law (x0 : FleetDepot) (x1 x2 : List Int) (_ : x0.Room.length ≤ 9223372036854775807) (_ : x0.Tracks.length ≤ 9223372036854775807) (_ : x1.length ≤ 9223372036854775807) (h2 : x2.length ≤ 9223372036854775807) : ∃ fu, Fishlaw2FleetShunts fu x0 x1 x2 = some true := by
  obtain ⟨r, c, e1, e2, e3, e4⟩ := both9 x0 x1 x2 h2 1073741825 rfl
  refine ⟨1073741825 + 200, ?_⟩
  generalize 1073741825 + 200 = fu at e1 e3
  unfold Fishlaw2FleetShunts
  rw [e1, Option.bind_some, e2, e3, yards_true]
  by_cases h6 : ((x2.length : Nat) : Int) > 6
  · rw [if_pos (by simpa using h6), Option.bind_some, Option.bind_some]
    by_cases hc : c = 0
    · have cb : (c == 0) = true := by simpa using hc
      obtain rfl := e4 hc (by omega)
      rw [if_pos cb]
      rfl
    · have cb : ¬ ((c == 0) = true) := by simpa using hc
      rw [if_neg cb, Option.bind_some, Option.bind_some]
      simp only [if_true, beq_self_eq_true]
      rw [moves_self]
      rfl
  · rw [if_neg (by simpa using h6), Option.bind_some]
    simp only [Bool.false_eq_true, if_false]
    rw [Option.bind_some, Option.bind_some]
    simp only [if_true, beq_self_eq_true]
    rw [moves_self]
    rfl

end Go.Fp
