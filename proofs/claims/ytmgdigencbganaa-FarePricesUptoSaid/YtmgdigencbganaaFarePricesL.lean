/- FarePrices: the mirror of the law is true of all tariffs of bounded size, and all trips. -/
import Derived.Test.YtmgdigencbganaaFarePricesM
import Derived.Test.YtmgdigencbganaaFpPlain
import Derived.KernelRfl
namespace Go.Fp

theorem within_ref : Fishref2within = Farewithin := rfl
theorem numbers_ref : Fishref2numbersOf = Farenumbers := rfl
/-! nodes and levels of a condition -/
mutual
def cN : FareCond → Nat
  | ⟨_, _, _, k⟩ => cNs k + 1
def cNs : List FareCond → Nat
  | [] => 0
  | x :: r => cN x + cNs r
end
mutual
def cL : FareCond → Nat
  | ⟨_, _, _, k⟩ => cLs k + 1
def cLs : List FareCond → Nat
  | [] => 0
  | x :: r => max (cL x) (cLs r)
end
theorem cN_eq (c : FareCond) : cN c = cNs c.Kids + 1 := by cases c; rw [cN]
theorem cL_eq (c : FareCond) : cL c = cLs c.Kids + 1 := by cases c; rw [cL]
theorem cL_pos (c : FareCond) : 1 ≤ cL c := by rw [cL_eq]; omega
theorem cN_pos (c : FareCond) : 1 ≤ cN c := by rw [cN_eq]; omega
mutual
theorem cN_sz : ∀ c : FareCond, cN c + 1 ≤ szFareCond c
  | ⟨_, _, _, k⟩ => by rw [cN, szFareCond]; have := cNs_sz k; omega
theorem cNs_sz : ∀ l : List FareCond, cNs l + 1 ≤ szsFareCond l
  | [] => by simp [cNs, szsFareCond]
  | x :: r => by rw [cNs, szsFareCond]; have := cN_sz x; have := cNs_sz r; omega
end
mutual
theorem cL_le : ∀ c : FareCond, cL c ≤ cN c
  | ⟨_, _, _, k⟩ => by rw [cN, cL]; have := cLs_le k; omega
theorem cLs_le : ∀ l : List FareCond, cLs l ≤ cNs l
  | [] => by simp [cNs, cLs]
  | x :: r => by rw [cNs, cLs]; have := cL_le x; have := cLs_le r; omega
end
theorem len_cNs : ∀ l : List FareCond, l.length ≤ cNs l
  | [] => by simp
  | x :: r => by rw [cNs]; have := cN_pos x; have := len_cNs r; simp only [List.length_cons]; omega
theorem mx_nat (a b : Nat) : mx (a : Int) (b : Int) = ((max a b : Nat) : Int) := by unfold mx; omega
mutual
theorem size_ok : ∀ (c : FareCond) (fu : Nat), cL c ≤ fu → cN c ≤ 1048576 → FareCondsize fu c = some ((cN c : Int), (cL c : Int))
  | _, 0, h, _ => absurd h (by have := cL_pos (by assumption); omega)
  | ⟨a, b, d, k⟩, fu + 1, h, hb => by
    rw [cL] at h; rw [cN] at hb
    have h2 := cLs_le k
    have e : FareCondsize.loop1 (FareCondsize fu) k 1 0 = some (((1 + cNs k : Nat) : Int), ((max 0 (cLs k) : Nat) : Int)) := sizes_ok k fu 1 0 (by omega) (by omega)
    rw [FareCondsize, e]
    simp only [Option.bind_some, cN, cL]
    rw [w64_id (by omega)]
    congr 2 <;> omega
theorem sizes_ok : ∀ (l : List FareCond) (fu a b : Nat), cLs l ≤ fu → cNs l + a ≤ 1048576 → FareCondsize.loop1 (FareCondsize fu) l (a : Int) (b : Int) = some (((a + cNs l : Nat) : Int), ((max b (cLs l) : Nat) : Int))
  | [], fu, a, b, _, _ => by simp [FareCondsize.loop1, cNs, cLs]
  | x :: r, fu, a, b, h, hb => by
    rw [cLs] at h; rw [cNs] at hb
    rw [FareCondsize.loop1, size_ok x fu (by omega) (by omega), Option.bind_some]
    rw [w64_id (by simp only; omega)]
    have e : ((a : Int) + (cN x : Int)) = ((a + cN x : Nat) : Int) := by omega
    simp only
    rw [e, mx_nat, sizes_ok r fu _ _ (by omega) (by omega), cNs, cLs]
    congr 3 <;> omega
end
mutual
theorem shape_ok : ∀ (c : FareCond) (fu : Nat) (left : Nat), cL c ≤ fu → left ≤ 40 → cN c ≤ 1048576 → ∃ lv lf : Int, Fishref2shape_v1 fu c (left : Int) = some (lv, lf) ∧ (cN c ≤ left → lv = cL c ∧ lf = ((left - cN c : Nat) : Int)) ∧ (left < cN c → lf < 0)
  | _, 0, _, h, _, _ => absurd h (by have := cL_pos (by assumption); omega)
  | ⟨a, b, d, k⟩, fu + 1, left, h, hl, hb => by
    rw [cL] at h; rw [cN] at hb
    have h2 := cLs_le k
    rw [Fishref2shape_v1, w64_id (by omega)]
    rcases Nat.eq_zero_or_pos left with h0 | h0
    · subst h0
      refine ⟨1, -1, by simp, by rw [cN]; omega, by omega⟩
    · obtain ⟨lv, lf, e1, e2, e3, e4⟩ := shapes_ok k fu 0 (left - 1) (by omega) (by omega) (by omega)
      have e : ((left : Int) - 1) = ((left - 1 : Nat) : Int) := by omega
      have hn : ¬ (((left - 1 : Nat) : Int) < 0) := by omega
      have e1' : Fishref2shape_v1.loop1 (Fishref2shape_v1 fu) k 0 (((left - 1 : Nat) : Nat) : Int) = some (lv, lf) := e1
      simp only [e, hn, decide_false, Bool.false_eq_true, if_false, e1', Option.bind_some]
      refine ⟨_, _, rfl, ?_, ?_⟩
      · intro hc
        rw [cN] at hc
        obtain ⟨p1, p2⟩ := e2 (by omega)
        rw [cL, cN, p1, p2, w64_id (by omega)]
        constructor <;> omega
      · intro hc; rw [cN] at hc; exact e3 (by omega)
theorem shapes_ok : ∀ (l : List FareCond) (fu a left : Nat), cLs l ≤ fu → left ≤ 40 → cNs l ≤ 1048576 → ∃ lv lf : Int, Fishref2shape_v1.loop1 (Fishref2shape_v1 fu) l (a : Int) (left : Int) = some (lv, lf) ∧ (cNs l ≤ left → lv = ((max a (cLs l) : Nat) : Int) ∧ lf = ((left - cNs l : Nat) : Int)) ∧ (left < cNs l → lf < 0) ∧ True
  | [], fu, a, left, _, _, _ => ⟨a, left, rfl, by simp [cNs, cLs], by simp [cNs], trivial⟩
  | x :: r, fu, a, left, h, hl, hb => by
    rw [cLs] at h; rw [cNs] at hb
    obtain ⟨lv, lf, e1, e2, e3⟩ := shape_ok x fu left (by omega) hl (by omega)
    rw [Fishref2shape_v1.loop1, e1, Option.bind_some]
    by_cases hx : cN x ≤ left
    · obtain ⟨p1, p2⟩ := e2 hx
      subst p1; subst p2
      have hn : ¬ (((left - cN x : Nat) : Int) < 0) := by omega
      simp only [hn, decide_false, Bool.false_eq_true, if_false, mx_nat]
      obtain ⟨lv, lf, q1, q2, q3, _⟩ := shapes_ok r fu (max a (cL x)) (left - cN x) (by omega) (by omega) (by omega)
      refine ⟨lv, lf, q1, ?_, ?_, trivial⟩
      · intro hc
        rw [cNs] at hc
        obtain ⟨r1, r2⟩ := q2 (by omega)
        rw [r1, r2, cNs, cLs]
        constructor <;> omega
      · intro hc; rw [cNs] at hc; exact q3 (by omega)
    · have hn := e3 (by omega)
      simp only [hn, decide_true, if_true]
      refine ⟨_, _, rfl, ?_, ?_, trivial⟩
      · intro hc; rw [cNs] at hc; omega
      · intro _; exact hn
end
theorem node_loop1 (s : FareCond → Option Int) : ∀ l, Fishref2nodeFault.loop1 s l = FareCondnode.loop1 s l
  | [] => rfl
  | x :: r => by simp only [Fishref2nodeFault.loop1, FareCondnode.loop1, node_loop1 s r]
theorem node_loop2 (s : FareCond → Option Int) : ∀ l, Fishref2nodeFault.loop2 s l = FareCondnode.loop1 s l
  | [] => rfl
  | x :: r => by simp only [Fishref2nodeFault.loop2, FareCondnode.loop1, node_loop2 s r]
theorem node_loop3 (s : FareCond → Option Int) : ∀ l, Fishref2nodeFault.loop3 s l = FareCondnode.loop1 s l
  | [] => rfl
  | x :: r => by simp only [Fishref2nodeFault.loop3, FareCondnode.loop1, node_loop3 s r]
theorem within_iff (x a b : Int) : Farewithin x a b = decide (a ≤ x ∧ x ≤ b) := by
  unfold Farewithin bnd
  by_cases h1 : a ≤ x <;> by_cases h2 : x ≤ b <;> simp [h1, h2]
theorem node_ref : ∀ (fu : Nat) (c : FareCond), Fishref2nodeFault fu c = FareCondnode fu c
  | 0, _ => rfl
  | fu + 1, c => by
    have ih : Fishref2nodeFault fu = FareCondnode fu := funext (node_ref fu)
    rw [Fishref2nodeFault, FareCondnode, ih]
    simp only [node_loop1, node_loop2, node_loop3, within_ref, numbers_ref, bnd_eq]
    by_cases hk : Farewithin c.Kind 0 11 = true
    · rw [within_iff, decide_eq_true_eq] at hk
      have hk' : Farewithin c.Kind 0 11 = true := by rw [within_iff]; exact decide_eq_true hk
      simp only [hk', Bool.not_true, Bool.false_eq_true, if_false]
      refine ite_same fun _ => ite_same fun _ => ?_
      · skip
        · by_cases h9 : c.Kind = 9
          · have e9 : (c.Kind == 9) = true := by simpa using h9
            have g9 : ¬ c.Kind > 9 := by omega
            have l9 : ¬ c.Kind < 9 := by omega
            simp only [e9, g9, l9, decide_false, Bool.false_eq_true, if_false, if_true]
            by_cases hl : ((c.Kids.length : Nat) : Int) = 1
            · have e1 : (((c.Kids.length : Nat) : Int) != 1) = false := by simp [hl]
              simp only [e1, Bool.false_eq_true, if_false] <;> rfl
            · have e1 : (((c.Kids.length : Nat) : Int) != 1) = true := by simpa using hl
              simp only [e1, if_true]
          · have e9 : (c.Kind == 9) = false := by simpa using h9
            by_cases hg : c.Kind > 9
            · have l9 : ¬ c.Kind < 9 := by omega
              have e10 : (if (c.Kind == 10) = true then (c.Kind == 10) else (c.Kind == 11)) = true := by
                have : c.Kind = 10 ∨ c.Kind = 11 := by omega
                rcases this with h | h <;> simp [h]
              simp only [e9, hg, l9, e10, decide_true, decide_false, Bool.false_eq_true, if_false, if_true]
              by_cases hl : ((c.Kids.length : Nat) : Int) < 2
              · simp only [hl, decide_true, if_true]
              · simp only [hl, decide_false, Bool.false_eq_true, if_false] <;> rfl
            · have l9 : c.Kind < 9 := by omega
              have e10 : (if (c.Kind == 10) = true then (c.Kind == 10) else (c.Kind == 11)) = false := by
                have h1 : (c.Kind == 10) = false := by simp; omega
                have h2 : (c.Kind == 11) = false := by simp; omega
                simp [h1, h2]
              simp only [e9, hg, l9, e10, decide_true, decide_false, Bool.false_eq_true, if_false, if_true]
    · have hk' : Farewithin c.Kind 0 11 = false := by simpa using hk
      simp only [hk', Bool.not_false, if_true]
mutual
theorem node_tot : ∀ (c : FareCond) (fu : Nat), cL c ≤ fu → Tot (FareCondnode fu c)
  | _, 0, h => absurd h (by have := cL_pos (by assumption); omega)
  | ⟨a, b, d, k⟩, fu + 1, h => by
    rw [cL] at h
    rw [FareCondnode]
    refine .ite (fun _ => .some _) fun _ => .bnd (.ite (fun _ => .some _) fun _ => .bnd (.ite (fun _ => .some _) fun _ => .bnd (.ite (fun _ => .some _) fun _ => .bind (nodes_tot k fu (by omega)) fun z _ => ?_)))
    cases z <;> exact .some _
theorem nodes_tot : ∀ (l : List FareCond) (fu : Nat), cLs l ≤ fu → Tot (FareCondnode.loop1 (FareCondnode fu) l)
  | [], _, _ => .some _
  | x :: r, fu, h => by
    rw [cLs] at h
    exact .bind (node_tot x fu (by omega)) fun z _ => .ite (fun _ => .some _) fun _ => nodes_tot r fu (by omega)
end
theorem cond_ref {fu : Nat} {c : FareCond} (hf : 1048576 ≤ fu) (hc : szFareCond c ≤ 1048576) : Fishref2CondFault fu c = FareCondcheck fu c ∧ Tot (FareCondcheck fu c) := by
  have h1 := cN_sz c
  have h2 := cL_le c
  obtain ⟨lv, lf, e1, e2, e3⟩ := shape_ok c fu 40 (by omega) (by omega) (by omega)
  have e1' : Fishref2shape_v1 fu c 40 = some (lv, lf) := e1
  unfold Fishref2CondFault FareCondcheck
  rw [e1', size_ok c fu (by omega) (by omega)]
  simp only [Option.bind_some, node_ref, bnd_eq]
  by_cases hn : cN c ≤ 40
  · obtain ⟨p1, p2⟩ := e2 hn
    have a1 : ¬ lf < 0 := by omega
    have a2 : ¬ ((cN c : Nat) : Int) > 40 := by omega
    simp only [a1, a2, p1, decide_false, Bool.false_eq_true, if_false]
    refine ⟨trivial, .ite (fun _ => .some _) fun _ => .bind (node_tot c fu (by omega)) fun _ _ => .some _⟩
  · have a1 := e3 (by omega)
    have a2 : ((cN c : Nat) : Int) > 40 := by omega
    simp only [a1, a2, decide_true, if_true]
    exact ⟨trivial, .some _⟩
theorem trip_loop (t : FareTrip) : ∀ (r : List Int) (k : Nat), Fishref2TripFault.loop1 t r k = FarecheckZones.loop1 t.Zones false r k
  | [], _ => rfl
  | x :: r, k => by
    simp only [Fishref2TripFault.loop1, FarecheckZones.loop1, within_ref, trip_loop t r]
    congr 1
    congr 1
    congr 1
    congr 1
    funext y
    by_cases h : x = y
    · simp [h]
    · have e : (x == y) = false := by simpa using h
      simp [e]
theorem zones_tot (l : List Int) (b : Bool) (hl : l.length ≤ 9223372036854775807) : ∀ (r : List Int) (k : Nat), l.drop k = r → Tot (FarecheckZones.loop1 l b r k)
  | [], _, _ => .some _
  | x :: r, k, hd => by
    obtain ⟨d1, d2, d3⟩ := drop_cons hd
    rw [FarecheckZones.loop1]
    refine .ite (fun _ => .some _) fun _ => .bind (.ite (fun h => ?_) fun _ => .some _) fun _ _ => .ite (fun _ => .some _) fun _ => zones_tot l b hl r (k + 1) d3
    have hk : 0 < k := by have := of_decide_eq_true h; omega
    have hp := gx_prev (l := l) hk (by omega) hl
    exact .bind1 hp (.ite (fun _ => .some _) fun _ => .ite (fun _ => .bind1 hp (.some _)) fun _ => .some _)
theorem trip_ref (t : FareTrip) (hl : t.Zones.length ≤ 9223372036854775807) : Fishref2TripFault t = FareCheckTrip t ∧ Tot (FareCheckTrip t) := by
  unfold Fishref2TripFault FareCheckTrip FarecheckZones
  simp only [within_ref, trip_loop, bnd_eq]
  obtain ⟨z, hz⟩ := zones_tot t.Zones false hl t.Zones 0 rfl
  simp only [hz, Option.bind_some]
  refine ⟨by cases z <;> rfl, .ite (fun _ => .some _) fun _ => .ite (fun _ => .some _) fun _ => ?_⟩
  cases z <;> exact .some _
theorem tariff_loop1 (t : FareTariff) : ∀ (r : List FareBand) (k : Nat), Fishref2TariffFault.loop1 t r k = FareCheckTariff.loop1 t r k
  | [], _ => rfl
  | x :: r, k => by simp only [Fishref2TariffFault.loop1, FareCheckTariff.loop1, within_ref, tariff_loop1 t r] <;> rfl
theorem bands_tot (t : FareTariff) (hl : t.Bands.length ≤ 9223372036854775807) : ∀ (r : List FareBand) (k : Nat), t.Bands.drop k = r → Tot (FareCheckTariff.loop1 t r k)
  | [], _, _ => .some _
  | x :: r, k, hd => by
    obtain ⟨d1, d2, d3⟩ := drop_cons hd
    rw [FareCheckTariff.loop1]
    refine .bnd (.ite (fun _ => .some _) fun _ => .bind (.ite (fun h => ?_) fun _ => .some _) fun _ _ => .ite (fun _ => .some _) fun _ => bands_tot t hl r (k + 1) d3)
    have hk : 0 < k := by have := of_decide_eq_true h; omega
    have hp := gx_prev (l := t.Bands) hk (by omega) hl
    exact .bind1 hp (.ite (fun _ => .some _) fun _ => .bind1 hp (.some _))
theorem tariff_loop2 {fu : Nat} (hf : 1048576 ≤ fu) : ∀ (r : List FareRule), (∀ x ∈ r, szFareCond x.If ≤ 1048576) → Fishref2TariffFault.loop2 fu r = FareCheckTariff.loop2 fu r ∧ Tot (FareCheckTariff.loop2 fu r)
  | [], _ => ⟨rfl, .some _⟩
  | x :: r, h => by
    obtain ⟨h1, h2⟩ := cond_ref hf (h x (by simp))
    obtain ⟨h3, h4⟩ := tariff_loop2 hf r (fun y hy => h y (by simp [hy]))
    obtain ⟨z, hz⟩ := h2
    simp only [Fishref2TariffFault.loop2, FareCheckTariff.loop2, h1, hz, Option.bind_some, within_ref, h3, bnd_eq]
    exact ⟨trivial, .ite (fun _ => .some _) fun _ => .ite (fun _ => .some _) fun _ => .ite (fun _ => .some _) fun _ => h4⟩
theorem rules_sz {t : FareTariff} (h : szFareTariff t ≤ 1048576) : ∀ x ∈ t.Rules, szFareCond x.If ≤ 1048576 := by
  intro x hx
  unfold szFareTariff at h
  have h1 := szL_mem (f := szFareRule) hx
  unfold szFareRule at h1
  have h2 : szL (fun x : FareRule => szFareCond x.If + 1) t.Rules = szL szFareRule t.Rules := rfl
  omega
theorem tariff_ref {fu : Nat} (hf : 1048576 ≤ fu) (t : FareTariff) (hl : t.Bands.length ≤ 9223372036854775807) (hz : szFareTariff t ≤ 1048576) : Fishref2TariffFault fu t = FareCheckTariff fu t ∧ Tot (FareCheckTariff fu t) := by
  unfold Fishref2TariffFault FareCheckTariff
  obtain ⟨h1, z2, h2⟩ := tariff_loop2 hf t.Rules (rules_sz hz)
  obtain ⟨z1, h3⟩ := bands_tot t hl t.Bands 0 rfl
  simp only [within_ref, tariff_loop1, bnd_eq, h1, h2, h3, Option.bind_some]
  refine ⟨by cases z1 <;> cases z2 <;> rfl, .ite (fun _ => .some _) fun _ => ?_⟩
  cases z1
  · exact .some _
  · refine .ite (fun _ => .some _) fun _ => ?_
    cases z2 <;> exact .some _
theorem ite_zero {b : Bool} {c : Int} {y : Option Int} (h : (if b = true then some c else y) = some 0) (hc : c ≠ 0) : b = false ∧ y = some 0 := by
  cases b
  · exact ⟨rfl, h⟩
  · exact absurd (Option.some.inj h) hc
theorem nodes_zero (s : FareCond → Option Int) : ∀ l, (∀ r, FareCondnode.loop1 s l = some (.ret r) → r ≠ 0) ∧ (FareCondnode.loop1 s l = some (.next ()) → ∀ x ∈ l, s x = some 0)
  | [] => ⟨by intro r h; simp [FareCondnode.loop1] at h, by simp⟩
  | x :: t => by
    obtain ⟨h1, h2⟩ := nodes_zero s t
    simp only [FareCondnode.loop1]
    cases hx : s x with
    | none => exact ⟨by intro r h; simp at h, by intro h; simp at h⟩
    | some v =>
      simp only [Option.bind_some]
      by_cases hv : v = 0
      · subst hv
        simp only [bne_self_eq_false, Bool.false_eq_true, if_false]
        refine ⟨h1, fun h y hy => ?_⟩
        rcases List.mem_cons.1 hy with rfl | hy
        · exact hx
        · exact h2 h y hy
      · have e : (v != 0) = true := by simpa using hv
        simp only [e, if_true]
        refine ⟨fun r h => ?_, fun h => by simp at h⟩
        simp at h; omega
theorem node_zero {fu : Nat} {c : FareCond} (h : FareCondnode (fu + 1) c = some 0) : (c.Kind = 9 → c.Kids.length = 1) ∧ ∀ x ∈ c.Kids, FareCondnode fu x = some 0 := by
  rw [FareCondnode] at h
  simp only [bnd_eq] at h
  obtain ⟨_, h⟩ := ite_zero h (by omega)
  obtain ⟨_, h⟩ := ite_zero h (by omega)
  obtain ⟨_, h⟩ := ite_zero h (by omega)
  obtain ⟨h1, h⟩ := ite_zero h (by omega)
  constructor
  · intro h9
    have e9 : (c.Kind == 9) = true := by simpa using h9
    simp only [e9, if_true] at h1
    by_cases hl : ((c.Kids.length : Nat) : Int) = 1
    · omega
    · have e1 : (((c.Kids.length : Nat) : Int) != 1) = true := by simpa using hl
      simp [e1] at h1
  · obtain ⟨h2, h3⟩ := nodes_zero (FareCondnode fu) c.Kids
    cases hz : FareCondnode.loop1 (FareCondnode fu) c.Kids with
    | none => rw [hz] at h; simp at h
    | some z =>
      rw [hz] at h
      cases z with
      | next u => exact h3 hz
      | ret r => exact absurd (by simpa using h) (h2 r hz)
theorem cN_mem : ∀ {l : List FareCond} {x : FareCond}, x ∈ l → cN x ≤ cNs l
  | y :: l, x, h => by
    rw [cNs]
    rcases List.mem_cons.1 h with rfl | h
    · omega
    · have := cN_mem h; omega
def hb (fu : Nat) (t : FareTrip) (c : FareCond) : Bool := (FareCondholds fu c t).getD false
def HB (fu : Nat) (t : FareTrip) (c : FareCond) : Prop := FareCondholds fu c t = some (hb fu t c) ∧ Fishref2HoldsOf fu c t = some (hb fu t c)
theorem idx1 (fu : Nat) (t : FareTrip) : ∀ (l : List FareCond) (k : Nat), (∀ c ∈ l, HB fu t c) → (SlicesIndexFuncLfareCond_v1.loop1 t (FareCondholds fu) l k = some (.next ()) ∧ l.all (hb fu t) = true) ∨ ∃ j : Nat, SlicesIndexFuncLfareCond_v1.loop1 t (FareCondholds fu) l k = some (.ret (j : Int)) ∧ l.all (hb fu t) = false
  | [], _, _ => .inl ⟨rfl, rfl⟩
  | c :: l, k, h => by
    simp only [SlicesIndexFuncLfareCond_v1.loop1, FareCondholds_2_v1, (h c (by simp)).1, Option.bind_some, List.all_cons]
    cases hb fu t c
    · exact .inr ⟨k, rfl, rfl⟩
    · exact idx1 fu t l (k + 1) (fun x hx => h x (by simp [hx]))
theorem idx2 (fu : Nat) (t : FareTrip) : ∀ (l : List FareCond) (k : Nat), (∀ c ∈ l, HB fu t c) → (SlicesIndexFuncLfareCond_v2.loop1 t (FareCondholds fu) l k = some (.next ()) ∧ l.any (hb fu t) = false) ∨ ∃ j : Nat, SlicesIndexFuncLfareCond_v2.loop1 t (FareCondholds fu) l k = some (.ret (j : Int)) ∧ l.any (hb fu t) = true
  | [], _, _ => .inl ⟨rfl, rfl⟩
  | c :: l, k, h => by
    simp only [SlicesIndexFuncLfareCond_v2.loop1, FareCondholds_3_v1, (h c (by simp)).1, Option.bind_some, List.any_cons]
    cases hb fu t c
    · exact idx2 fu t l (k + 1) (fun x hx => h x (by simp [hx]))
    · exact .inr ⟨k, rfl, rfl⟩
theorem cnt1 (fu : Nat) (t : FareTrip) : ∀ (l : List FareCond) (q : Nat), (∀ c ∈ l, HB fu t c) → q + l.length ≤ 1048576 → ∃ n : Nat, Fishref2HoldsOf.loop1 t (Fishref2HoldsOf fu) l (q : Int) = some ((q + n : Nat) : Int) ∧ n ≤ l.length ∧ (n = l.length ↔ l.all (hb fu t) = true)
  | [], q, _, _ => ⟨0, rfl, by simp, by simp⟩
  | c :: l, q, h, hq => by
    simp only [List.length_cons] at hq
    simp only [Fishref2HoldsOf.loop1, (h c (by simp)).2, Option.bind_some, List.all_cons, bnd_eq]
    cases hb fu t c
    · obtain ⟨n, h1, h2, h3⟩ := cnt1 fu t l q (fun x hx => h x (by simp [hx])) (by omega)
      refine ⟨n, by simpa using h1, by simp only [List.length_cons]; omega, ?_⟩
      simp only [List.length_cons, Bool.false_and, Bool.false_eq_true, iff_false]; omega
    · obtain ⟨n, h1, h2, h3⟩ := cnt1 fu t l (q + 1) (fun x hx => h x (by simp [hx])) (by omega)
      refine ⟨n + 1, ?_, by simp only [List.length_cons]; omega, ?_⟩
      · rw [if_pos rfl, w64_id (by omega)]
        have e : ((q : Int) + 1) = ((q + 1 : Nat) : Int) := by omega
        rw [e, h1]; congr 2; omega
      · simp only [List.length_cons, Bool.true_and]; rw [← h3]; omega
theorem any2 (fu : Nat) (t : FareTrip) : ∀ (l : List FareCond), (∀ c ∈ l, HB fu t c) → Fishref2HoldsOf.loop2 t (Fishref2HoldsOf fu) l = some (if l.any (hb fu t) then .ret true else .next ())
  | [], _ => rfl
  | c :: l, h => by
    simp only [Fishref2HoldsOf.loop2, (h c (by simp)).2, Option.bind_some, List.any_cons]
    have ih := any2 fu t l (fun x hx => h x (by simp [hx]))
    rcases Bool.eq_false_or_eq_true (hb fu t c) with e | e
    · simp [e]
    · simp [e, ih]
theorem holds_ref (t : FareTrip) (hz : 0 < t.Zones.length) (hz2 : t.Zones.length ≤ 10) : ∀ (fu : Nat) (c : FareCond), FareCondnode fu c = some 0 → cN c ≤ 1048576 → Fishref2HoldsOf fu c t = FareCondholds fu c t ∧ Tot (FareCondholds fu c t)
  | 0, c, h, _ => by simp [FareCondnode] at h
  | fu + 1, c, h, hn => by
    obtain ⟨h9, hk⟩ := node_zero h
    rw [cN_eq] at hn
    have hlen := len_cNs c.Kids
    have hall : ∀ x ∈ c.Kids, HB fu t x := by
      intro x hx
      have := cN_mem hx
      obtain ⟨e1, z, e2⟩ := holds_ref t hz hz2 fu x (hk x hx) (by omega)
      have e3 : hb fu t x = z := by unfold hb; rw [e2]; rfl
      exact ⟨by rw [e3, e2], by rw [e1, e2, e3]⟩
    have g0 : gx t.Zones 0 = some t.Zones[0] := gx_at hz
    have g1 : gx t.Zones (w64 ((t.Zones.length : Int) - 1)) = some t.Zones[t.Zones.length - 1] := gx_prev hz (by omega) (by omega)
    have k9 : c.Kind = 9 → ∃ x, gx c.Kids 0 = some x ∧ HB fu t x := by
      intro e
      have := h9 e
      have hl : 0 < c.Kids.length := by omega
      exact ⟨c.Kids[0], gx_at hl, hall _ (List.getElem_mem _)⟩
    obtain ⟨n, c1, c2, c3⟩ := cnt1 fu t c.Kids 0 hall (by omega)
    have c1' : Fishref2HoldsOf.loop1 t (Fishref2HoldsOf fu) c.Kids 0 = some ((n : Nat) : Int) := by have := c1; simpa using this
    have a2 := any2 fu t c.Kids hall
    have hAnd : SlicesContainsFuncLfareCond_v1 (FareCondholds fu) c.Kids t = some (!(c.Kids.all (hb fu t))) := by
      unfold SlicesContainsFuncLfareCond_v1 SlicesIndexFuncLfareCond_v1
      rcases idx1 fu t c.Kids 0 hall with ⟨e1, e2⟩ | ⟨j, e1, e2⟩
      · rw [e1, e2]; rfl
      · rw [e1, e2]; simp
    have hOr : SlicesContainsFuncLfareCond_v2 (FareCondholds fu) c.Kids t = some (c.Kids.any (hb fu t)) := by
      unfold SlicesContainsFuncLfareCond_v2 SlicesIndexFuncLfareCond_v2
      rcases idx2 fu t c.Kids 0 hall with ⟨e1, e2⟩ | ⟨j, e1, e2⟩
      · rw [e1, e2]; rfl
      · rw [e1, e2]; simp
    have hN : (((n : Nat) : Int) == ((c.Kids.length : Nat) : Int)) = c.Kids.all (hb fu t) := by
      by_cases e : n = c.Kids.length
      · rw [c3.1 e, e]; simp
      · have : c.Kids.all (hb fu t) = false := by
          cases ha : c.Kids.all (hb fu t)
          · rfl
          · exact absurd (c3.2 ha) e
        rw [this]; simp; omega
    rw [Fishref2HoldsOf, FareCondholds, g0, g1, c1', a2, hAnd, hOr]
    simp only [Option.bind_some, hN, Bool.not_not, within_ref]
    constructor
    · refine ite_same fun _ => ite_both (fun _ => rfl) fun _ => ite_both (fun _ => rfl) fun _ => ite_both (fun _ => rfl) fun _ => ite_both (fun _ => rfl) fun _ => ite_same fun _ => ite_same fun _ => ite_same fun _ => ite_both (fun e => ?_) fun _ => ite_same fun _ => ite_both (fun _ => ?_) fun _ => rfl
      · obtain ⟨x, e1, e2⟩ := k9 (by simpa using e)
        rw [e1, Option.bind_some, Option.bind_some, e2.1, e2.2]
      · cases c.Kids.any (hb fu t) <;> rfl
    · refine .ite (fun _ => .some _) fun _ => .ite (fun _ => .some _) fun _ => .ite (fun _ => .some _) fun _ => .ite (fun _ => .some _) fun _ => .ite (fun _ => .some _) fun _ => .ite (fun _ => .some _) fun _ => .ite (fun _ => .some _) fun _ => .ite (fun _ => .some _) fun _ => .ite (fun e => ?_) fun _ => .ite (fun _ => .some _) fun _ => .ite (fun _ => .some _) fun _ => .some _
      obtain ⟨x, e1, e2⟩ := k9 (by simpa using e)
      rw [e1, Option.bind_some, e2.1]; exact .some _
theorem check_node {fu : Nat} {c : FareCond} (h : FareCondcheck fu c = some 0) : FareCondnode fu c = some 0 := by
  unfold FareCondcheck at h
  cases h1 : FareCondsize fu c with
  | none => rw [h1] at h; simp at h
  | some z =>
    rw [h1] at h
    simp only [Option.bind_some, bnd_eq] at h
    obtain ⟨_, h⟩ := ite_zero h (by omega)
    cases h2 : FareCondnode fu c with
    | none => rw [h2] at h; simp at h
    | some z => rw [h2] at h; exact h
theorem trip_zero {t : FareTrip} (h : FareCheckTrip t = some 0) : 0 < t.Zones.length ∧ t.Zones.length ≤ 10 := by
  unfold FareCheckTrip at h
  simp only [bnd_eq] at h
  obtain ⟨_, h⟩ := ite_zero h (by omega)
  obtain ⟨h1, _⟩ := ite_zero h (by omega)
  rw [within_iff] at h1
  simp at h1; omega
theorem bands_zero (t : FareTariff) : ∀ (r : List FareBand) (k : Nat), (∀ v, FareCheckTariff.loop1 t r k = some (.ret v) → v ≠ 0) ∧ (FareCheckTariff.loop1 t r k = some (.next ()) → ∀ b ∈ r, 1 ≤ b.Upto ∧ b.Upto ≤ 1000 ∧ 0 ≤ b.Price ∧ b.Price ≤ 100000)
  | [], _ => ⟨by intro v h; simp [FareCheckTariff.loop1] at h, by simp⟩
  | x :: r, k => by
    obtain ⟨i1, i2⟩ := bands_zero t r (k + 1)
    simp only [FareCheckTariff.loop1, bnd_eq, within_iff]
    by_cases h : 1 ≤ x.Upto ∧ x.Upto ≤ 1000
    · by_cases h' : 0 ≤ x.Price ∧ x.Price ≤ 100000
      · simp only [h, h', and_self, decide_true, Bool.not_true, Bool.false_eq_true, if_false]
        generalize (if decide (((k : Nat) : Int) > 0) = true then (gx t.Bands (w64 (((k : Nat) : Int) - 1))).bind fun x92 => if decide (x.Upto ≤ x92.Upto) = true then some true else (gx t.Bands (w64 (((k : Nat) : Int) - 1))).bind fun x102 => some (decide (x.Price < x102.Price)) else some false) = q
        rcases q with _ | q
        · exact ⟨by intro v h; simp at h, by intro h; simp at h⟩
        · cases q
          · simp only [Option.bind_some, Bool.false_eq_true, if_false]
            refine ⟨i1, fun e b hb => ?_⟩
            rcases List.mem_cons.1 hb with rfl | hb
            · exact ⟨h.1, h.2, h'.1, h'.2⟩
            · exact i2 e b hb
          · refine ⟨by intro v h; simp at h; omega, by intro h; simp at h⟩
      · refine ⟨by intro v h; simp [h'] at h; omega, by intro h; simp [h'] at h⟩
    · refine ⟨by intro v h2; simp [h] at h2; omega, by intro h2; simp [h] at h2⟩
theorem rules_zero (fu : Nat) : ∀ (r : List FareRule), (∀ v, FareCheckTariff.loop2 fu r = some (.ret v) → v ≠ 0) ∧ (FareCheckTariff.loop2 fu r = some (.next ()) → ∀ x ∈ r, FareCondcheck fu x.If = some 0 ∧ 1 ≤ x.Do ∧ x.Do ≤ 6 ∧ 0 ≤ x.N ∧ x.N ≤ 100000 ∧ (x.Do = 1 → x.N ≤ 200))
  | [] => ⟨by intro v h; simp [FareCheckTariff.loop2] at h, by simp⟩
  | x :: r => by
    obtain ⟨i1, i2⟩ := rules_zero fu r
    simp only [FareCheckTariff.loop2, bnd_eq, within_iff]
    cases hc : FareCondcheck fu x.If with
    | none => exact ⟨by intro v h; simp at h, by intro h; simp at h⟩
    | some z =>
      simp only [Option.bind_some]
      by_cases hz : z = 0
      · subst hz
        simp only [bne_self_eq_false, Bool.false_eq_true, if_false]
        by_cases hd : 1 ≤ x.Do ∧ x.Do ≤ 6
        · simp only [hd, and_self, decide_true, Bool.not_true, Bool.false_eq_true, if_false]
          by_cases hn : 0 ≤ x.N ∧ x.N ≤ (if (x.Do == 1) = true then (200 : Int) else 100000)
          · simp only [hn, and_self, decide_true, Bool.not_true, Bool.false_eq_true, if_false]
            refine ⟨i1, fun e b hb => ?_⟩
            rcases List.mem_cons.1 hb with rfl | hb
            · refine ⟨hc, hd.1, hd.2, hn.1, ?_, ?_⟩
              · have := hn.2; split at this <;> omega
              · intro h; have := hn.2; rw [if_pos (by simpa using h)] at this; exact this
            · exact i2 e b hb
          · refine ⟨by intro v h; simp only [hn, decide_false, Bool.not_false, if_true] at h; simp at h; omega, by intro h; simp only [hn, decide_false, Bool.not_false, if_true] at h; simp at h⟩
        · refine ⟨by intro v h; simp only [hd, decide_false, Bool.not_false, if_true] at h; simp at h; omega, by intro h; simp only [hd, decide_false, Bool.not_false, if_true] at h; simp at h⟩
      · have e : (z != 0) = true := by simpa using hz
        simp only [e, if_true]
        refine ⟨by intro v h; simp at h; omega, by intro h; simp at h⟩
theorem tariff_zero {fu : Nat} {t : FareTariff} (h : FareCheckTariff fu t = some 0) : 0 < t.Bands.length ∧ t.Bands.length ≤ 8 ∧ t.Rules.length ≤ 20 ∧ 1 ≤ t.Round ∧ t.Round ≤ 100 ∧ (∀ b ∈ t.Bands, 1 ≤ b.Upto ∧ b.Upto ≤ 1000 ∧ 0 ≤ b.Price ∧ b.Price ≤ 100000) ∧
    ∀ x ∈ t.Rules, FareCondcheck fu x.If = some 0 ∧ 1 ≤ x.Do ∧ x.Do ≤ 6 ∧ 0 ≤ x.N ∧ x.N ≤ 100000 ∧ (x.Do = 1 → x.N ≤ 200) := by
  unfold FareCheckTariff at h
  simp only [bnd_eq] at h
  obtain ⟨h1, h⟩ := ite_zero h (by omega)
  have hb : 1 ≤ ((t.Bands.length : Nat) : Int) ∧ ((t.Bands.length : Nat) : Int) ≤ 8 ∧ ¬ ((t.Rules.length : Nat) : Int) > 20 := by
    rw [within_iff] at h1
    by_cases e : 1 ≤ ((t.Bands.length : Nat) : Int) ∧ ((t.Bands.length : Nat) : Int) ≤ 8
    · refine ⟨e.1, e.2, ?_⟩
      simp only [e, and_self, decide_true, Bool.not_true, Bool.false_eq_true, if_false] at h1
      simpa using h1
    · simp [e] at h1
  obtain ⟨b1, b2⟩ := bands_zero t t.Bands 0
  cases hz : FareCheckTariff.loop1 t t.Bands 0 with
  | none => rw [hz] at h; simp at h
  | some z =>
    rw [hz] at h
    cases z with
    | ret r => exact absurd (by simpa using h) (b1 r hz)
    | next u =>
      simp only [Option.bind_some] at h
      obtain ⟨h2, h⟩ := ite_zero h (by omega)
      rw [within_iff] at h2
      have h2' : 1 ≤ t.Round ∧ t.Round ≤ 100 := by simpa using h2
      obtain ⟨r1, r2⟩ := rules_zero fu t.Rules
      cases hy : FareCheckTariff.loop2 fu t.Rules with
      | none => rw [hy] at h; simp at h
      | some y =>
        rw [hy] at h
        cases y with
        | ret r => exact absurd (by simpa using h) (r1 r hy)
        | next u => exact ⟨by omega, by omega, by omega, h2'.1, h2'.2, b2 hz, r2 hy⟩
/-- the first band that reaches so far, else the last one -/
def bandOf (n : Int) (p : Int) : List FareBand → Int
  | [] => p
  | b :: r => if n ≤ b.Upto then b.Price else bandOf n p r
theorem band_index (n : Int) : ∀ (l : List FareBand) (k : Nat), (SlicesIndexFuncLfareBand_v1.loop1 n l k = .next () ∧ ∀ p, bandOf n p l = p) ∨ ∃ j : Nat, SlicesIndexFuncLfareBand_v1.loop1 n l k = .ret (((k + j : Nat) : Nat) : Int) ∧ ∃ b, l[j]? = some b ∧ ∀ p, bandOf n p l = b.Price
  | [], k => .inl ⟨rfl, fun _ => rfl⟩
  | b :: l, k => by
    simp only [SlicesIndexFuncLfareBand_v1.loop1, FareTariffprice_1_v1]
    by_cases h : n ≤ b.Upto
    · refine .inr ⟨0, by simp [h], b, rfl, fun p => by simp [bandOf, h]⟩
    · have h' : ¬ b.Upto ≥ n := h
      simp only [h', decide_false, Bool.false_eq_true, if_false]
      rcases band_index n l (k + 1) with ⟨e1, e2⟩ | ⟨j, e1, b', e2, e3⟩
      · exact .inl ⟨e1, fun p => by simp [bandOf, h, e2]⟩
      · refine .inr ⟨j + 1, ?_, b', by simpa using e2, fun p => by simp [bandOf, h, e3]⟩
        rw [e1]; congr 2; omega
theorem band_down (t : FareTariff) (n : Int) (p : Int) (hl : t.Bands.length ≤ 8) : ∀ (j : Nat) (fu : Nat), j ≤ t.Bands.length → j < fu → ∃ i, Fishref2PriceOf.loop1 t n fu (bandOf n p (t.Bands.drop j)) ((j : Int) - 1) = some (bandOf n p t.Bands, i)
  | 0, fu + 1, _, _ => ⟨-1, by simp [Fishref2PriceOf.loop1]⟩
  | 0, 0, _, h => absurd h (by omega)
  | _ + 1, 0, _, h => absurd h (by omega)
  | j + 1, fu + 1, hj, hf => by
    have e : (((j + 1 : Nat) : Int) - 1) = (j : Int) := by omega
    have g : gx t.Bands (j : Int) = some (t.Bands[j]'(by omega)) := gx_at (by omega)
    rw [e, Fishref2PriceOf.loop1, g]
    have hn : ((j : Int) ≥ 0) := by omega
    simp only [hn, decide_true, if_true, Option.bind_some]
    rw [w64_id (by omega)]
    have hd : t.Bands.drop j = t.Bands[j]'(by omega) :: t.Bands.drop (j + 1) := List.drop_eq_getElem_cons (by omega)
    obtain ⟨i, hi⟩ := band_down t n p hl j fu (by omega) (by omega)
    rw [hd, bandOf] at hi
    by_cases h : n ≤ (t.Bands[j]'(by omega)).Upto
    · rw [if_pos h] at hi
      simp only [h, decide_true, if_true, Option.bind_some]
      exact ⟨i, hi⟩
    · rw [if_neg h] at hi
      simp only [h, decide_false, Bool.false_eq_true, if_false, Option.bind_some]
      exact ⟨i, hi⟩
theorem mn_comm (a b : Int) : mn a b = mn b a := by unfold mn; omega
theorem mx_comm (a b : Int) : mx a b = mx b a := by unfold mx; omega
theorem change_in (x : FareRule) (p : Int) (hp : 0 ≤ p ∧ p ≤ 100000) (h1 : 1 ≤ x.Do) (h2 : x.Do ≤ 6) (h3 : 0 ≤ x.N) (h4 : x.N ≤ 100000) (h5 : x.Do = 1 → x.N ≤ 200) : 0 ≤ FareRulechange x p ∧ FareRulechange x p ≤ 100000 := by
  unfold FareRulechange
  by_cases e1 : x.Do = 1
  · have hm : 0 ≤ p * x.N ∧ p * x.N ≤ 100000 * 200 := ⟨Int.mul_nonneg hp.1 h3, Int.mul_le_mul hp.2 (h5 e1) h3 (by omega)⟩
    rw [if_pos (by simpa using e1), w64_id (x := p * x.N) (by omega)]
    have hd : 0 ≤ Int.tdiv (p * x.N) 100 ∧ Int.tdiv (p * x.N) 100 ≤ 100000 * 200 := by
      rw [Int.tdiv_eq_ediv_of_nonneg hm.1]; omega
    rw [w64_id (by omega)]
    unfold mn; omega
  · rw [if_neg (by simpa using e1)]
    by_cases e2 : x.Do = 2
    · rw [if_pos (by simpa using e2), w64_id (by omega)]; unfold mx; omega
    · rw [if_neg (by simpa using e2)]
      by_cases e3 : x.Do = 3
      · rw [if_pos (by simpa using e3), w64_id (by omega)]; unfold mn; omega
      · rw [if_neg (by simpa using e3)]
        by_cases e4 : x.Do = 4
        · rw [if_pos (by simpa using e4)]; omega
        · rw [if_neg (by simpa using e4)]
          by_cases e5 : x.Do = 5
          · rw [if_pos (by simpa using e5)]; unfold mn; omega
          · rw [if_neg (by simpa using e5)]; unfold mx; omega
theorem rules_ref {fu : Nat} (t : FareTrip) (hz : 0 < t.Zones.length) (hz2 : t.Zones.length ≤ 10) : ∀ (r : List FareRule) (k : Nat) (p : Int) (l : List Int), (∀ x ∈ r, FareCondcheck fu x.If = some 0 ∧ 1 ≤ x.Do ∧ x.Do ≤ 6 ∧ 0 ≤ x.N ∧ x.N ≤ 100000 ∧ (x.Do = 1 → x.N ≤ 200)) → (∀ x ∈ r, szFareCond x.If ≤ 1048576) → 0 ≤ p ∧ p ≤ 100000 → l.length + r.length ≤ 1000 →
    ∃ q m, FareTariffprice.loop1 t fu r k p l = some (q, m) ∧ Fishref2PriceOf.loop2 t fu r k p l = some (q, m) ∧ 0 ≤ q ∧ q ≤ 100000
  | [], k, p, l, _, _, hp, _ => ⟨p, l, rfl, rfl, hp⟩
  | x :: r, k, p, l, h, hs, hp, hl => by
    obtain ⟨c0, c1, c2, c3, c4, c5⟩ := h x (by simp)
    have hn := cN_sz x.If
    have hsx := hs x (by simp)
    obtain ⟨e1, z, e2⟩ := holds_ref t hz hz2 fu x.If (check_node c0) (by omega)
    simp only [List.length_cons] at hl
    simp only [FareTariffprice.loop1, Fishref2PriceOf.loop2, e1, e2, Option.bind_some]
    cases z
    · simp only [Bool.not_false, if_true]
      exact rules_ref t hz hz2 r (k + 1) p l (fun y hy => h y (by simp [hy])) (fun y hy => hs y (by simp [hy])) hp (by omega)
    · have ha : ∀ v, apd l [v] = some (l ++ [v]) := fun v => apd_lt (by simp; omega)
      simp only [Bool.not_true, Bool.false_eq_true, if_false, ha, Option.bind_some, bnd_eq]
      have hch := change_in x p hp c1 c2 c3 c4 c5
      have e : (if (x.Do == 1) = true then mn (w64 (Int.tdiv (w64 (p * x.N)) 100)) 100000 else if (x.Do == 2) = true then mx (w64 (p - x.N)) 0 else if (x.Do == 3) = true then mn (w64 (p + x.N)) 100000 else if (x.Do == 4) = true then x.N else if (x.Do == 5) = true then mn p x.N else if (x.Do == 6) = true then mx p x.N else p) = FareRulechange x p := by
        unfold FareRulechange
        refine ite_both (fun _ => mn_comm _ _) fun d1 => ite_both (fun _ => mx_comm _ _) fun d2 => ite_both (fun _ => mn_comm _ _) fun d3 => ite_both (fun _ => rfl) fun d4 => ite_both (fun _ => rfl) fun d5 => ?_
        have d6 : x.Do = 6 := by
          have d1 : ¬ x.Do = 1 := by simpa using d1
          have d2 : ¬ x.Do = 2 := by simpa using d2
          have d3 : ¬ x.Do = 3 := by simpa using d3
          have d4 : ¬ x.Do = 4 := by simpa using d4
          have d5 : ¬ x.Do = 5 := by simpa using d5
          omega
        rw [if_pos (by simpa using d6)]
      simp only [e]
      cases x.Stop
      · simp only [Bool.false_eq_true, if_false]
        exact rules_ref t hz hz2 r (k + 1) _ _ (fun y hy => h y (by simp [hy])) (fun y hy => hs y (by simp [hy])) hch (by simp; omega)
      · exact ⟨_, _, rfl, rfl, hch⟩
theorem round_up (t : FareTariff) (hr : 1 ≤ t.Round ∧ t.Round ≤ 100) : ∀ (fu : Nat) (p m : Int), 0 ≤ p → m ≤ 1000000 → p ≤ m → m < p + fu → m % t.Round = 0 → m < p + t.Round → Fishref2PriceOf.loop3 t fu p = some m
  | 0, _, _, _, _, _, _, _, _ => by omega
  | fu + 1, p, m, h0, h1, h2, h3, h4, h5 => by
    have hrm : rm p t.Round = some (p % t.Round) := by unfold rm; rw [if_neg (by omega), Int.tmod_eq_emod_of_nonneg h0]
    rw [Fishref2PriceOf.loop3, hrm, Option.bind_some]
    by_cases h : p % t.Round = 0
    · have e : (p % t.Round != 0) = false := by simp [h]
      rw [e, if_neg (by simp)]
      have a1 := Int.emod_add_mul_ediv p t.Round
      have a2 := Int.emod_add_mul_ediv m t.Round
      rw [h] at a1; rw [h4] at a2
      by_cases hq : m / t.Round = p / t.Round
      · rw [hq] at a2; congr 1; omega
      · have hlt : p / t.Round + 1 ≤ m / t.Round := by
          have := Int.ediv_le_ediv (show 0 < t.Round by omega) h2; omega
        have := Int.mul_le_mul_of_nonneg_left hlt (show 0 ≤ t.Round by omega)
        rw [Int.mul_add] at this
        omega
    · have e : (p % t.Round != 0) = true := by simpa using h
      rw [e, if_pos rfl, w64_id (by omega)]
      have hne : p ≠ m := by intro hh; subst hh; exact h h4
      exact round_up t hr fu (p + 1) m (by omega) h1 (by omega) (by omega) h4 (by omega)
theorem price_ref {fu : Nat} (hf : 1048576 ≤ fu) (t : FareTariff) (r : FareTrip) (h1 : FareCheckTariff fu t = some 0) (h2 : FareCheckTrip r = some 0) (hz : szFareTariff t ≤ 1048576) : ∃ p l, FareTariffprice fu t r = some (p, l) ∧ Fishref2PriceOf fu t r = some (p, l) := by
  obtain ⟨b1, b2, b3, r1, r2, b4, r3⟩ := tariff_zero h1
  have z := trip_zero h2
  unfold FareTariffprice Fishref2PriceOf
  simp only [bnd_eq]
  generalize (if t.ByKm = true then r.Km else ((r.Zones.length : Nat) : Int)) = n
  have hlast : gx t.Bands (w64 (((t.Bands.length : Nat) : Int) - 1)) = some (t.Bands[t.Bands.length - 1]'(by omega)) := gx_prev b1 (by omega) (by omega)
  have hw : w64 (((t.Bands.length : Nat) : Int) - 1) = ((t.Bands.length : Nat) : Int) - 1 := w64_id (by omega)
  generalize hP : (t.Bands[t.Bands.length - 1]'(by omega)) = B at hlast
  obtain ⟨i, hi⟩ := band_down t n B.Price b2 t.Bands.length fu (by omega) (by omega)
  rw [List.drop_length, show bandOf n B.Price [] = B.Price from rfl] at hi
  have hprog : ∃ b, (gx t.Bands (if decide (SlicesIndexFuncLfareBand_v1 t.Bands n < 0) = true then w64 (((t.Bands.length : Nat) : Int) - 1) else SlicesIndexFuncLfareBand_v1 t.Bands n)) = some b ∧ b.Price = bandOf n B.Price t.Bands ∧ b ∈ t.Bands := by
    unfold SlicesIndexFuncLfareBand_v1
    rcases band_index n t.Bands 0 with ⟨e1, e2⟩ | ⟨j, e1, b, e2, e3⟩
    · refine ⟨B, ?_, (e2 _).symm, by rw [← hP]; exact List.getElem_mem _⟩
      simp only [e1, bnd_eq]
      exact hlast
    · refine ⟨b, ?_, (e3 _).symm, List.mem_of_getElem? e2⟩
      have hn : ¬ (((0 + j : Nat) : Int) < 0) := by omega
      simp only [e1, bnd_eq, hn, decide_false, Bool.false_eq_true, if_false]
      rw [gx_nat, Nat.zero_add]; exact e2
  obtain ⟨b, p1, p2, p3⟩ := hprog
  obtain ⟨q1, q2, q3, q4⟩ := b4 b p3
  obtain ⟨p, l, s1, s2, s3, s4⟩ := rules_ref r z.1 z.2 t.Rules 0 b.Price [] r3 (rules_sz hz) ⟨q3, q4⟩ (by simp; omega)
  simp only [p1, hlast, Option.bind_some, s1]
  rw [hw, hi]
  simp only [Option.bind_some]
  rw [← p2, s2]
  simp only [Option.bind_some]
  have hw1 : w64 (p + t.Round) = p + t.Round := w64_id (by omega)
  have hw2 : w64 (p + t.Round - 1) = p + t.Round - 1 := w64_id (by omega)
  have hdv : dv (p + t.Round - 1) t.Round = some ((p + t.Round - 1) / t.Round) := by
    unfold dv
    rw [if_neg (by omega), Int.tdiv_eq_ediv_of_nonneg (by omega)]
    have h0 : 0 ≤ (p + t.Round - 1) / t.Round := Int.ediv_nonneg (by omega) (by omega)
    have h9 : (p + t.Round - 1) / t.Round ≤ p + t.Round - 1 := Int.ediv_le_self _ (by omega)
    congr 1
    exact IntWalk.i64_in _ ⟨by omega, by omega⟩
  rw [hw1, hw2, hdv]
  simp only [Option.bind_some]
  generalize hQ : (p + t.Round - 1) / t.Round = Q
  have a1 := Int.emod_add_mul_ediv (p + t.Round - 1) t.Round
  have a2 := Int.emod_nonneg (p + t.Round - 1) (show t.Round ≠ 0 by omega)
  have a3 := Int.emod_lt_of_pos (p + t.Round - 1) (show 0 < t.Round by omega)
  rw [hQ] at a1
  have hc : Q * t.Round = t.Round * Q := Int.mul_comm _ _
  have hw3 : w64 (Q * t.Round) = Q * t.Round := w64_id (by omega)
  rw [hw3]
  have := round_up t ⟨r1, r2⟩ fu p (Q * t.Round) s3 (by omega) (by omega) (by omega) (Int.mul_emod_left _ _) (by omega)
  rw [this]
  exact ⟨_, _, rfl, rfl⟩
theorem equal_refl (l : List Int) : SlicesEqualLint l l = some true := by
  have key : ∀ (r : List Int) (k : Nat), l.drop k = r → SlicesEqualLint.loop1 l r k = some (.next ()) := by
    intro r
    induction r with
    | nil => intro k _; rfl
    | cons v r ih =>
      intro k hd
      obtain ⟨d1, d2, d3⟩ := drop_cons hd
      simp only [SlicesEqualLint.loop1, gx_nat, d2, Option.bind_some, bne_self_eq_false, Bool.false_eq_true, if_false]
      exact ih (k + 1) d3
  unfold SlicesEqualLint
  simp [key l 0 rfl]
theorem fares_true (n : Nat) : Fishlaw2fares (n + 60) = some true := by kernel_rfl

theorem FarePrices_law (t : FareTariff) (r : FareTrip) (h1 : t.Bands.length ≤ 9223372036854775807) (_ : t.Rules.length ≤ 9223372036854775807) (h2 : r.Zones.length ≤ 9223372036854775807) (z0 : szFareTariff t ≤ 1048576) (_ : szFareTrip r ≤ 1048576) : ∃ fu, Fishlaw2FarePrices fu t r = some true := by
  refine ⟨1048576 + 60, ?_⟩
  unfold Fishlaw2FarePrices FarePrice
  obtain ⟨e1, z1, e2⟩ := tariff_ref (fu := 1048576 + 60) (by omega) t h1 z0
  obtain ⟨e3, z2, e4⟩ := trip_ref r h2
  rw [fares_true]
  simp only [e1, e2, e3, e4, Option.bind_some]
  by_cases h1 : z1 = 0
  · subst h1
    by_cases h2 : z2 = 0
    · subst h2
      obtain ⟨p, l, e5, e6⟩ := price_ref (fu := 1048576 + 60) (by omega) t r e2 e4 z0
      simp [e5, e6, equal_refl]
    · have e : (z2 != 0) = true := by simpa using h2
      simp [h2]
  · have e : (z1 != 0) = true := by simpa using h1
    simp [h1]

end Go.Fp
