/- FareHolds: the mirror of the law is true of all conditions of bounded size, and all trips. -/
import Derived.Test.YtmgdigencbganaaFareHoldsM
import Derived.Test.YtmgdigencbganaaFpPlain
import Derived.KernelRfl
namespace Go.Fp

theorem within_ref : Fishref2within = Farewithin := rfl
theorem numbers_ref : Fishref2numbersOf = Farenumbers := rfl
/-! nodes and levels of a condition -/
mutual
def cN : FareCond → Nat
  | ⟨_, _, _, k⟩ => cNs k + 1
def cNs : List FareCond → Nat
  | [] => 0
  | x :: r => cN x + cNs r
end
mutual
def cL : FareCond → Nat
  | ⟨_, _, _, k⟩ => cLs k + 1
def cLs : List FareCond → Nat
  | [] => 0
  | x :: r => max (cL x) (cLs r)
end
theorem cN_eq (c : FareCond) : cN c = cNs c.Kids + 1 := by cases c; rw [cN]
theorem cL_eq (c : FareCond) : cL c = cLs c.Kids + 1 := by cases c; rw [cL]
theorem cL_pos (c : FareCond) : 1 ≤ cL c := by rw [cL_eq]; omega
theorem cN_pos (c : FareCond) : 1 ≤ cN c := by rw [cN_eq]; omega
mutual
theorem cN_sz : ∀ c : FareCond, cN c + 1 ≤ szFareCond c
  | ⟨_, _, _, k⟩ => by rw [cN, szFareCond]; have := cNs_sz k; omega
theorem cNs_sz : ∀ l : List FareCond, cNs l + 1 ≤ szsFareCond l
  | [] => by simp [cNs, szsFareCond]
  | x :: r => by rw [cNs, szsFareCond]; have := cN_sz x; have := cNs_sz r; omega
end
mutual
theorem cL_le : ∀ c : FareCond, cL c ≤ cN c
  | ⟨_, _, _, k⟩ => by rw [cN, cL]; have := cLs_le k; omega
theorem cLs_le : ∀ l : List FareCond, cLs l ≤ cNs l
  | [] => by simp [cNs, cLs]
  | x :: r => by rw [cNs, cLs]; have := cL_le x; have := cLs_le r; omega
end
theorem len_cNs : ∀ l : List FareCond, l.length ≤ cNs l
  | [] => by simp
  | x :: r => by rw [cNs]; have := cN_pos x; have := len_cNs r; simp only [List.length_cons]; omega
theorem mx_nat (a b : Nat) : mx (a : Int) (b : Int) = ((max a b : Nat) : Int) := by unfold mx; omega
mutual
theorem size_ok : ∀ (c : FareCond) (fu : Nat), cL c ≤ fu → cN c ≤ 1048576 → FareCondsize fu c = some ((cN c : Int), (cL c : Int))
  | _, 0, h, _ => absurd h (by have := cL_pos (by assumption); omega)
  | ⟨a, b, d, k⟩, fu + 1, h, hb => by
    rw [cL] at h; rw [cN] at hb
    have h2 := cLs_le k
    have e : FareCondsize.loop1 (FareCondsize fu) k 1 0 = some (((1 + cNs k : Nat) : Int), ((max 0 (cLs k) : Nat) : Int)) := sizes_ok k fu 1 0 (by omega) (by omega)
    rw [FareCondsize, e]
    simp only [Option.bind_some, cN, cL]
    rw [w64_id (by omega)]
    congr 2 <;> omega
theorem sizes_ok : ∀ (l : List FareCond) (fu a b : Nat), cLs l ≤ fu → cNs l + a ≤ 1048576 → FareCondsize.loop1 (FareCondsize fu) l (a : Int) (b : Int) = some (((a + cNs l : Nat) : Int), ((max b (cLs l) : Nat) : Int))
  | [], fu, a, b, _, _ => by simp [FareCondsize.loop1, cNs, cLs]
  | x :: r, fu, a, b, h, hb => by
    rw [cLs] at h; rw [cNs] at hb
    rw [FareCondsize.loop1, size_ok x fu (by omega) (by omega), Option.bind_some]
    rw [w64_id (by simp only; omega)]
    have e : ((a : Int) + (cN x : Int)) = ((a + cN x : Nat) : Int) := by omega
    simp only
    rw [e, mx_nat, sizes_ok r fu _ _ (by omega) (by omega), cNs, cLs]
    congr 3 <;> omega
end
mutual
theorem shape_ok : ∀ (c : FareCond) (fu : Nat) (left : Nat), cL c ≤ fu → left ≤ 40 → cN c ≤ 1048576 → ∃ lv lf : Int, Fishref2shape_v1 fu c (left : Int) = some (lv, lf) ∧ (cN c ≤ left → lv = cL c ∧ lf = ((left - cN c : Nat) : Int)) ∧ (left < cN c → lf < 0)
  | _, 0, _, h, _, _ => absurd h (by have := cL_pos (by assumption); omega)
  | ⟨a, b, d, k⟩, fu + 1, left, h, hl, hb => by
    rw [cL] at h; rw [cN] at hb
    have h2 := cLs_le k
    rw [Fishref2shape_v1, w64_id (by omega)]
    rcases Nat.eq_zero_or_pos left with h0 | h0
    · subst h0
      refine ⟨1, -1, by simp, by rw [cN]; omega, by omega⟩
    · obtain ⟨lv, lf, e1, e2, e3, e4⟩ := shapes_ok k fu 0 (left - 1) (by omega) (by omega) (by omega)
      have e : ((left : Int) - 1) = ((left - 1 : Nat) : Int) := by omega
      have hn : ¬ (((left - 1 : Nat) : Int) < 0) := by omega
      have e1' : Fishref2shape_v1.loop1 (Fishref2shape_v1 fu) k 0 (((left - 1 : Nat) : Nat) : Int) = some (lv, lf) := e1
      simp only [e, hn, decide_false, Bool.false_eq_true, if_false, e1', Option.bind_some]
      refine ⟨_, _, rfl, ?_, ?_⟩
      · intro hc
        rw [cN] at hc
        obtain ⟨p1, p2⟩ := e2 (by omega)
        rw [cL, cN, p1, p2, w64_id (by omega)]
        constructor <;> omega
      · intro hc; rw [cN] at hc; exact e3 (by omega)
theorem shapes_ok : ∀ (l : List FareCond) (fu a left : Nat), cLs l ≤ fu → left ≤ 40 → cNs l ≤ 1048576 → ∃ lv lf : Int, Fishref2shape_v1.loop1 (Fishref2shape_v1 fu) l (a : Int) (left : Int) = some (lv, lf) ∧ (cNs l ≤ left → lv = ((max a (cLs l) : Nat) : Int) ∧ lf = ((left - cNs l : Nat) : Int)) ∧ (left < cNs l → lf < 0) ∧ True
  | [], fu, a, left, _, _, _ => ⟨a, left, rfl, by simp [cNs, cLs], by simp [cNs], trivial⟩
  | x :: r, fu, a, left, h, hl, hb => by
    rw [cLs] at h; rw [cNs] at hb
    obtain ⟨lv, lf, e1, e2, e3⟩ := shape_ok x fu left (by omega) hl (by omega)
    rw [Fishref2shape_v1.loop1, e1, Option.bind_some]
    by_cases hx : cN x ≤ left
    · obtain ⟨p1, p2⟩ := e2 hx
      subst p1; subst p2
      have hn : ¬ (((left - cN x : Nat) : Int) < 0) := by omega
      simp only [hn, decide_false, Bool.false_eq_true, if_false, mx_nat]
      obtain ⟨lv, lf, q1, q2, q3, _⟩ := shapes_ok r fu (max a (cL x)) (left - cN x) (by omega) (by omega) (by omega)
      refine ⟨lv, lf, q1, ?_, ?_, trivial⟩
      · intro hc
        rw [cNs] at hc
        obtain ⟨r1, r2⟩ := q2 (by omega)
        rw [r1, r2, cNs, cLs]
        constructor <;> omega
      · intro hc; rw [cNs] at hc; exact q3 (by omega)
    · have hn := e3 (by omega)
      simp only [hn, decide_true, if_true]
      refine ⟨_, _, rfl, ?_, ?_, trivial⟩
      · intro hc; rw [cNs] at hc; omega
      · intro _; exact hn
end
theorem node_loop1 (s : FareCond → Option Int) : ∀ l, Fishref2nodeFault.loop1 s l = FareCondnode.loop1 s l
  | [] => rfl
  | x :: r => by simp only [Fishref2nodeFault.loop1, FareCondnode.loop1, node_loop1 s r]
theorem node_loop2 (s : FareCond → Option Int) : ∀ l, Fishref2nodeFault.loop2 s l = FareCondnode.loop1 s l
  | [] => rfl
  | x :: r => by simp only [Fishref2nodeFault.loop2, FareCondnode.loop1, node_loop2 s r]
theorem node_loop3 (s : FareCond → Option Int) : ∀ l, Fishref2nodeFault.loop3 s l = FareCondnode.loop1 s l
  | [] => rfl
  | x :: r => by simp only [Fishref2nodeFault.loop3, FareCondnode.loop1, node_loop3 s r]
theorem within_iff (x a b : Int) : Farewithin x a b = decide (a ≤ x ∧ x ≤ b) := by
  unfold Farewithin bnd
  by_cases h1 : a ≤ x <;> by_cases h2 : x ≤ b <;> simp [h1, h2]
theorem node_ref : ∀ (fu : Nat) (c : FareCond), Fishref2nodeFault fu c = FareCondnode fu c
  | 0, _ => rfl
  | fu + 1, c => by
    have ih : Fishref2nodeFault fu = FareCondnode fu := funext (node_ref fu)
    rw [Fishref2nodeFault, FareCondnode, ih]
    simp only [node_loop1, node_loop2, node_loop3, within_ref, numbers_ref, bnd_eq]
    by_cases hk : Farewithin c.Kind 0 11 = true
    · rw [within_iff, decide_eq_true_eq] at hk
      have hk' : Farewithin c.Kind 0 11 = true := by rw [within_iff]; exact decide_eq_true hk
      simp only [hk', Bool.not_true, Bool.false_eq_true, if_false]
      refine ite_same fun _ => ite_same fun _ => ?_
      · skip
        · by_cases h9 : c.Kind = 9
          · have e9 : (c.Kind == 9) = true := by simpa using h9
            have g9 : ¬ c.Kind > 9 := by omega
            have l9 : ¬ c.Kind < 9 := by omega
            simp only [e9, g9, l9, decide_false, Bool.false_eq_true, if_false, if_true]
            by_cases hl : ((c.Kids.length : Nat) : Int) = 1
            · have e1 : (((c.Kids.length : Nat) : Int) != 1) = false := by simp [hl]
              simp only [e1, Bool.false_eq_true, if_false] <;> rfl
            · have e1 : (((c.Kids.length : Nat) : Int) != 1) = true := by simpa using hl
              simp only [e1, if_true]
          · have e9 : (c.Kind == 9) = false := by simpa using h9
            by_cases hg : c.Kind > 9
            · have l9 : ¬ c.Kind < 9 := by omega
              have e10 : (if (c.Kind == 10) = true then (c.Kind == 10) else (c.Kind == 11)) = true := by
                have : c.Kind = 10 ∨ c.Kind = 11 := by omega
                rcases this with h | h <;> simp [h]
              simp only [e9, hg, l9, e10, decide_true, decide_false, Bool.false_eq_true, if_false, if_true]
              by_cases hl : ((c.Kids.length : Nat) : Int) < 2
              · simp only [hl, decide_true, if_true]
              · simp only [hl, decide_false, Bool.false_eq_true, if_false] <;> rfl
            · have l9 : c.Kind < 9 := by omega
              have e10 : (if (c.Kind == 10) = true then (c.Kind == 10) else (c.Kind == 11)) = false := by
                have h1 : (c.Kind == 10) = false := by simp; omega
                have h2 : (c.Kind == 11) = false := by simp; omega
                simp [h1, h2]
              simp only [e9, hg, l9, e10, decide_true, decide_false, Bool.false_eq_true, if_false, if_true]
    · have hk' : Farewithin c.Kind 0 11 = false := by simpa using hk
      simp only [hk', Bool.not_false, if_true]
mutual
theorem node_tot : ∀ (c : FareCond) (fu : Nat), cL c ≤ fu → Tot (FareCondnode fu c)
  | _, 0, h => absurd h (by have := cL_pos (by assumption); omega)
  | ⟨a, b, d, k⟩, fu + 1, h => by
    rw [cL] at h
    rw [FareCondnode]
    refine .ite (fun _ => .some _) fun _ => .bnd (.ite (fun _ => .some _) fun _ => .bnd (.ite (fun _ => .some _) fun _ => .bnd (.ite (fun _ => .some _) fun _ => .bind (nodes_tot k fu (by omega)) fun z _ => ?_)))
    cases z <;> exact .some _
theorem nodes_tot : ∀ (l : List FareCond) (fu : Nat), cLs l ≤ fu → Tot (FareCondnode.loop1 (FareCondnode fu) l)
  | [], _, _ => .some _
  | x :: r, fu, h => by
    rw [cLs] at h
    exact .bind (node_tot x fu (by omega)) fun z _ => .ite (fun _ => .some _) fun _ => nodes_tot r fu (by omega)
end
theorem cond_ref {fu : Nat} {c : FareCond} (hf : 1048576 ≤ fu) (hc : szFareCond c ≤ 1048576) : Fishref2CondFault fu c = FareCondcheck fu c ∧ Tot (FareCondcheck fu c) := by
  have h1 := cN_sz c
  have h2 := cL_le c
  obtain ⟨lv, lf, e1, e2, e3⟩ := shape_ok c fu 40 (by omega) (by omega) (by omega)
  have e1' : Fishref2shape_v1 fu c 40 = some (lv, lf) := e1
  unfold Fishref2CondFault FareCondcheck
  rw [e1', size_ok c fu (by omega) (by omega)]
  simp only [Option.bind_some, node_ref, bnd_eq]
  by_cases hn : cN c ≤ 40
  · obtain ⟨p1, p2⟩ := e2 hn
    have a1 : ¬ lf < 0 := by omega
    have a2 : ¬ ((cN c : Nat) : Int) > 40 := by omega
    simp only [a1, a2, p1, decide_false, Bool.false_eq_true, if_false]
    refine ⟨trivial, .ite (fun _ => .some _) fun _ => .bind (node_tot c fu (by omega)) fun _ _ => .some _⟩
  · have a1 := e3 (by omega)
    have a2 : ((cN c : Nat) : Int) > 40 := by omega
    simp only [a1, a2, decide_true, if_true]
    exact ⟨trivial, .some _⟩
theorem trip_loop (t : FareTrip) : ∀ (r : List Int) (k : Nat), Fishref2TripFault.loop1 t r k = FarecheckZones.loop1 t.Zones false r k
  | [], _ => rfl
  | x :: r, k => by
    simp only [Fishref2TripFault.loop1, FarecheckZones.loop1, within_ref, trip_loop t r]
    congr 1
    congr 1
    congr 1
    congr 1
    funext y
    by_cases h : x = y
    · simp [h]
    · have e : (x == y) = false := by simpa using h
      simp [e]
theorem zones_tot (l : List Int) (b : Bool) (hl : l.length ≤ 9223372036854775807) : ∀ (r : List Int) (k : Nat), l.drop k = r → Tot (FarecheckZones.loop1 l b r k)
  | [], _, _ => .some _
  | x :: r, k, hd => by
    obtain ⟨d1, d2, d3⟩ := drop_cons hd
    rw [FarecheckZones.loop1]
    refine .ite (fun _ => .some _) fun _ => .bind (.ite (fun h => ?_) fun _ => .some _) fun _ _ => .ite (fun _ => .some _) fun _ => zones_tot l b hl r (k + 1) d3
    have hk : 0 < k := by have := of_decide_eq_true h; omega
    have hp := gx_prev (l := l) hk (by omega) hl
    exact .bind1 hp (.ite (fun _ => .some _) fun _ => .ite (fun _ => .bind1 hp (.some _)) fun _ => .some _)
theorem trip_ref (t : FareTrip) (hl : t.Zones.length ≤ 9223372036854775807) : Fishref2TripFault t = FareCheckTrip t ∧ Tot (FareCheckTrip t) := by
  unfold Fishref2TripFault FareCheckTrip FarecheckZones
  simp only [within_ref, trip_loop, bnd_eq]
  obtain ⟨z, hz⟩ := zones_tot t.Zones false hl t.Zones 0 rfl
  simp only [hz, Option.bind_some]
  refine ⟨by cases z <;> rfl, .ite (fun _ => .some _) fun _ => .ite (fun _ => .some _) fun _ => ?_⟩
  cases z <;> exact .some _
theorem ite_zero {b : Bool} {c : Int} {y : Option Int} (h : (if b = true then some c else y) = some 0) (hc : c ≠ 0) : b = false ∧ y = some 0 := by
  cases b
  · exact ⟨rfl, h⟩
  · exact absurd (Option.some.inj h) hc
theorem nodes_zero (s : FareCond → Option Int) : ∀ l, (∀ r, FareCondnode.loop1 s l = some (.ret r) → r ≠ 0) ∧ (FareCondnode.loop1 s l = some (.next ()) → ∀ x ∈ l, s x = some 0)
  | [] => ⟨by intro r h; simp [FareCondnode.loop1] at h, by simp⟩
  | x :: t => by
    obtain ⟨h1, h2⟩ := nodes_zero s t
    simp only [FareCondnode.loop1]
    cases hx : s x with
    | none => exact ⟨by intro r h; simp at h, by intro h; simp at h⟩
    | some v =>
      simp only [Option.bind_some]
      by_cases hv : v = 0
      · subst hv
        simp only [bne_self_eq_false, Bool.false_eq_true, if_false]
        refine ⟨h1, fun h y hy => ?_⟩
        rcases List.mem_cons.1 hy with rfl | hy
        · exact hx
        · exact h2 h y hy
      · have e : (v != 0) = true := by simpa using hv
        simp only [e, if_true]
        refine ⟨fun r h => ?_, fun h => by simp at h⟩
        simp at h; omega
theorem node_zero {fu : Nat} {c : FareCond} (h : FareCondnode (fu + 1) c = some 0) : (c.Kind = 9 → c.Kids.length = 1) ∧ ∀ x ∈ c.Kids, FareCondnode fu x = some 0 := by
  rw [FareCondnode] at h
  simp only [bnd_eq] at h
  obtain ⟨_, h⟩ := ite_zero h (by omega)
  obtain ⟨_, h⟩ := ite_zero h (by omega)
  obtain ⟨_, h⟩ := ite_zero h (by omega)
  obtain ⟨h1, h⟩ := ite_zero h (by omega)
  constructor
  · intro h9
    have e9 : (c.Kind == 9) = true := by simpa using h9
    simp only [e9, if_true] at h1
    by_cases hl : ((c.Kids.length : Nat) : Int) = 1
    · omega
    · have e1 : (((c.Kids.length : Nat) : Int) != 1) = true := by simpa using hl
      simp [e1] at h1
  · obtain ⟨h2, h3⟩ := nodes_zero (FareCondnode fu) c.Kids
    cases hz : FareCondnode.loop1 (FareCondnode fu) c.Kids with
    | none => rw [hz] at h; simp at h
    | some z =>
      rw [hz] at h
      cases z with
      | next u => exact h3 hz
      | ret r => exact absurd (by simpa using h) (h2 r hz)
theorem cN_mem : ∀ {l : List FareCond} {x : FareCond}, x ∈ l → cN x ≤ cNs l
  | y :: l, x, h => by
    rw [cNs]
    rcases List.mem_cons.1 h with rfl | h
    · omega
    · have := cN_mem h; omega
def hb (fu : Nat) (t : FareTrip) (c : FareCond) : Bool := (FareCondholds fu c t).getD false
def HB (fu : Nat) (t : FareTrip) (c : FareCond) : Prop := FareCondholds fu c t = some (hb fu t c) ∧ Fishref2HoldsOf fu c t = some (hb fu t c)
theorem idx1 (fu : Nat) (t : FareTrip) : ∀ (l : List FareCond) (k : Nat), (∀ c ∈ l, HB fu t c) → (SlicesIndexFuncLfareCond_v1.loop1 t (FareCondholds fu) l k = some (.next ()) ∧ l.all (hb fu t) = true) ∨ ∃ j : Nat, SlicesIndexFuncLfareCond_v1.loop1 t (FareCondholds fu) l k = some (.ret (j : Int)) ∧ l.all (hb fu t) = false
  | [], _, _ => .inl ⟨rfl, rfl⟩
  | c :: l, k, h => by
    simp only [SlicesIndexFuncLfareCond_v1.loop1, FareCondholds_2_v1, (h c (by simp)).1, Option.bind_some, List.all_cons]
    cases hb fu t c
    · exact .inr ⟨k, rfl, rfl⟩
    · exact idx1 fu t l (k + 1) (fun x hx => h x (by simp [hx]))
theorem idx2 (fu : Nat) (t : FareTrip) : ∀ (l : List FareCond) (k : Nat), (∀ c ∈ l, HB fu t c) → (SlicesIndexFuncLfareCond_v2.loop1 t (FareCondholds fu) l k = some (.next ()) ∧ l.any (hb fu t) = false) ∨ ∃ j : Nat, SlicesIndexFuncLfareCond_v2.loop1 t (FareCondholds fu) l k = some (.ret (j : Int)) ∧ l.any (hb fu t) = true
  | [], _, _ => .inl ⟨rfl, rfl⟩
  | c :: l, k, h => by
    simp only [SlicesIndexFuncLfareCond_v2.loop1, FareCondholds_3_v1, (h c (by simp)).1, Option.bind_some, List.any_cons]
    cases hb fu t c
    · exact idx2 fu t l (k + 1) (fun x hx => h x (by simp [hx]))
    · exact .inr ⟨k, rfl, rfl⟩
theorem cnt1 (fu : Nat) (t : FareTrip) : ∀ (l : List FareCond) (q : Nat), (∀ c ∈ l, HB fu t c) → q + l.length ≤ 1048576 → ∃ n : Nat, Fishref2HoldsOf.loop1 t (Fishref2HoldsOf fu) l (q : Int) = some ((q + n : Nat) : Int) ∧ n ≤ l.length ∧ (n = l.length ↔ l.all (hb fu t) = true)
  | [], q, _, _ => ⟨0, rfl, by simp, by simp⟩
  | c :: l, q, h, hq => by
    simp only [List.length_cons] at hq
    simp only [Fishref2HoldsOf.loop1, (h c (by simp)).2, Option.bind_some, List.all_cons, bnd_eq]
    cases hb fu t c
    · obtain ⟨n, h1, h2, h3⟩ := cnt1 fu t l q (fun x hx => h x (by simp [hx])) (by omega)
      refine ⟨n, by simpa using h1, by simp only [List.length_cons]; omega, ?_⟩
      simp only [List.length_cons, Bool.false_and, Bool.false_eq_true, iff_false]; omega
    · obtain ⟨n, h1, h2, h3⟩ := cnt1 fu t l (q + 1) (fun x hx => h x (by simp [hx])) (by omega)
      refine ⟨n + 1, ?_, by simp only [List.length_cons]; omega, ?_⟩
      · rw [if_pos rfl, w64_id (by omega)]
        have e : ((q : Int) + 1) = ((q + 1 : Nat) : Int) := by omega
        rw [e, h1]; congr 2; omega
      · simp only [List.length_cons, Bool.true_and]; rw [← h3]; omega
theorem any2 (fu : Nat) (t : FareTrip) : ∀ (l : List FareCond), (∀ c ∈ l, HB fu t c) → Fishref2HoldsOf.loop2 t (Fishref2HoldsOf fu) l = some (if l.any (hb fu t) then .ret true else .next ())
  | [], _ => rfl
  | c :: l, h => by
    simp only [Fishref2HoldsOf.loop2, (h c (by simp)).2, Option.bind_some, List.any_cons]
    have ih := any2 fu t l (fun x hx => h x (by simp [hx]))
    rcases Bool.eq_false_or_eq_true (hb fu t c) with e | e
    · simp [e]
    · simp [e, ih]
theorem holds_ref (t : FareTrip) (hz : 0 < t.Zones.length) (hz2 : t.Zones.length ≤ 10) : ∀ (fu : Nat) (c : FareCond), FareCondnode fu c = some 0 → cN c ≤ 1048576 → Fishref2HoldsOf fu c t = FareCondholds fu c t ∧ Tot (FareCondholds fu c t)
  | 0, c, h, _ => by simp [FareCondnode] at h
  | fu + 1, c, h, hn => by
    obtain ⟨h9, hk⟩ := node_zero h
    rw [cN_eq] at hn
    have hlen := len_cNs c.Kids
    have hall : ∀ x ∈ c.Kids, HB fu t x := by
      intro x hx
      have := cN_mem hx
      obtain ⟨e1, z, e2⟩ := holds_ref t hz hz2 fu x (hk x hx) (by omega)
      have e3 : hb fu t x = z := by unfold hb; rw [e2]; rfl
      exact ⟨by rw [e3, e2], by rw [e1, e2, e3]⟩
    have g0 : gx t.Zones 0 = some t.Zones[0] := gx_at hz
    have g1 : gx t.Zones (w64 ((t.Zones.length : Int) - 1)) = some t.Zones[t.Zones.length - 1] := gx_prev hz (by omega) (by omega)
    have k9 : c.Kind = 9 → ∃ x, gx c.Kids 0 = some x ∧ HB fu t x := by
      intro e
      have := h9 e
      have hl : 0 < c.Kids.length := by omega
      exact ⟨c.Kids[0], gx_at hl, hall _ (List.getElem_mem _)⟩
    obtain ⟨n, c1, c2, c3⟩ := cnt1 fu t c.Kids 0 hall (by omega)
    have c1' : Fishref2HoldsOf.loop1 t (Fishref2HoldsOf fu) c.Kids 0 = some ((n : Nat) : Int) := by have := c1; simpa using this
    have a2 := any2 fu t c.Kids hall
    have hAnd : SlicesContainsFuncLfareCond_v1 (FareCondholds fu) c.Kids t = some (!(c.Kids.all (hb fu t))) := by
      unfold SlicesContainsFuncLfareCond_v1 SlicesIndexFuncLfareCond_v1
      rcases idx1 fu t c.Kids 0 hall with ⟨e1, e2⟩ | ⟨j, e1, e2⟩
      · rw [e1, e2]; rfl
      · rw [e1, e2]; simp
    have hOr : SlicesContainsFuncLfareCond_v2 (FareCondholds fu) c.Kids t = some (c.Kids.any (hb fu t)) := by
      unfold SlicesContainsFuncLfareCond_v2 SlicesIndexFuncLfareCond_v2
      rcases idx2 fu t c.Kids 0 hall with ⟨e1, e2⟩ | ⟨j, e1, e2⟩
      · rw [e1, e2]; rfl
      · rw [e1, e2]; simp
    have hN : (((n : Nat) : Int) == ((c.Kids.length : Nat) : Int)) = c.Kids.all (hb fu t) := by
      by_cases e : n = c.Kids.length
      · rw [c3.1 e, e]; simp
      · have : c.Kids.all (hb fu t) = false := by
          cases ha : c.Kids.all (hb fu t)
          · rfl
          · exact absurd (c3.2 ha) e
        rw [this]; simp; omega
    rw [Fishref2HoldsOf, FareCondholds, g0, g1, c1', a2, hAnd, hOr]
    simp only [Option.bind_some, hN, Bool.not_not, within_ref]
    constructor
    · refine ite_same fun _ => ite_both (fun _ => rfl) fun _ => ite_both (fun _ => rfl) fun _ => ite_both (fun _ => rfl) fun _ => ite_both (fun _ => rfl) fun _ => ite_same fun _ => ite_same fun _ => ite_same fun _ => ite_both (fun e => ?_) fun _ => ite_same fun _ => ite_both (fun _ => ?_) fun _ => rfl
      · obtain ⟨x, e1, e2⟩ := k9 (by simpa using e)
        rw [e1, Option.bind_some, Option.bind_some, e2.1, e2.2]
      · cases c.Kids.any (hb fu t) <;> rfl
    · refine .ite (fun _ => .some _) fun _ => .ite (fun _ => .some _) fun _ => .ite (fun _ => .some _) fun _ => .ite (fun _ => .some _) fun _ => .ite (fun _ => .some _) fun _ => .ite (fun _ => .some _) fun _ => .ite (fun _ => .some _) fun _ => .ite (fun _ => .some _) fun _ => .ite (fun e => ?_) fun _ => .ite (fun _ => .some _) fun _ => .ite (fun _ => .some _) fun _ => .some _
      obtain ⟨x, e1, e2⟩ := k9 (by simpa using e)
      rw [e1, Option.bind_some, e2.1]; exact .some _
theorem check_node {fu : Nat} {c : FareCond} (h : FareCondcheck fu c = some 0) : FareCondnode fu c = some 0 := by
  unfold FareCondcheck at h
  cases h1 : FareCondsize fu c with
  | none => rw [h1] at h; simp at h
  | some z =>
    rw [h1] at h
    simp only [Option.bind_some, bnd_eq] at h
    obtain ⟨_, h⟩ := ite_zero h (by omega)
    cases h2 : FareCondnode fu c with
    | none => rw [h2] at h; simp at h
    | some z => rw [h2] at h; exact h
theorem trip_zero {t : FareTrip} (h : FareCheckTrip t = some 0) : 0 < t.Zones.length ∧ t.Zones.length ≤ 10 := by
  unfold FareCheckTrip at h
  simp only [bnd_eq] at h
  obtain ⟨_, h⟩ := ite_zero h (by omega)
  obtain ⟨h1, _⟩ := ite_zero h (by omega)
  rw [within_iff] at h1
  simp at h1; omega
theorem fares_true (n : Nat) : Fishlaw2fares (n + 60) = some true := by kernel_rfl

theorem FareHolds_law (c : FareCond) (r : FareTrip) (_ : c.Kids.length ≤ 9223372036854775807) (h2 : r.Zones.length ≤ 9223372036854775807) (z0 : szFareCond c ≤ 1048576) (_ : szFareTrip r ≤ 1048576) : ∃ fu, Fishlaw2FareHolds fu c r = some true := by
  refine ⟨1048576 + 60, ?_⟩
  unfold Fishlaw2FareHolds FareHolds
  obtain ⟨e1, z1, e2⟩ := cond_ref (fu := 1048576 + 60) (by omega) z0
  obtain ⟨e3, z2, e4⟩ := trip_ref r h2
  rw [fares_true]
  simp only [e1, e2, e3, e4, Option.bind_some]
  by_cases h1 : z1 = 0
  · subst h1
    by_cases h2 : z2 = 0
    · subst h2
      have hz := trip_zero e4
      have hn := cN_sz c
      obtain ⟨e5, z3, e6⟩ := holds_ref r hz.1 hz.2 (1048576 + 60) c (check_node e2) (by omega)
      simp [e5, e6]
    · have e : (z2 != 0) = true := by simpa using h2
      simp [h2]
  · have e : (z1 != 0) = true := by simpa using h1
    simp [h1]

end Go.Fp
