/- FareTariffs: the mirror of the law is true of all tariffs of bounded size, and all trips. -/
import Derived.Test.YtmgdigencbganaaFareTariffsM
import Derived.Test.YtmgdigencbganaaFpPlain
import Derived.KernelRfl
namespace Go.Fp

theorem within_ref : Fishref2within = Farewithin := rfl
theorem numbers_ref : Fishref2numbersOf = Farenumbers := rfl
/-! nodes and levels of a condition -/
mutual
def cN : FareCond → Nat
  | ⟨_, _, _, k⟩ => cNs k + 1
def cNs : List FareCond → Nat
  | [] => 0
  | x :: r => cN x + cNs r
end
mutual
def cL : FareCond → Nat
  | ⟨_, _, _, k⟩ => cLs k + 1
def cLs : List FareCond → Nat
  | [] => 0
  | x :: r => max (cL x) (cLs r)
end
theorem cN_eq (c : FareCond) : cN c = cNs c.Kids + 1 := by cases c; rw [cN]
theorem cL_eq (c : FareCond) : cL c = cLs c.Kids + 1 := by cases c; rw [cL]
theorem cL_pos (c : FareCond) : 1 ≤ cL c := by rw [cL_eq]; omega
theorem cN_pos (c : FareCond) : 1 ≤ cN c := by rw [cN_eq]; omega
mutual
theorem cN_sz : ∀ c : FareCond, cN c + 1 ≤ szFareCond c
  | ⟨_, _, _, k⟩ => by rw [cN, szFareCond]; have := cNs_sz k; omega
theorem cNs_sz : ∀ l : List FareCond, cNs l + 1 ≤ szsFareCond l
  | [] => by simp [cNs, szsFareCond]
  | x :: r => by rw [cNs, szsFareCond]; have := cN_sz x; have := cNs_sz r; omega
end
mutual
theorem cL_le : ∀ c : FareCond, cL c ≤ cN c
  | ⟨_, _, _, k⟩ => by rw [cN, cL]; have := cLs_le k; omega
theorem cLs_le : ∀ l : List FareCond, cLs l ≤ cNs l
  | [] => by simp [cNs, cLs]
  | x :: r => by rw [cNs, cLs]; have := cL_le x; have := cLs_le r; omega
end
theorem len_cNs : ∀ l : List FareCond, l.length ≤ cNs l
  | [] => by simp
  | x :: r => by rw [cNs]; have := cN_pos x; have := len_cNs r; simp only [List.length_cons]; omega
theorem mx_nat (a b : Nat) : mx (a : Int) (b : Int) = ((max a b : Nat) : Int) := by unfold mx; omega
mutual
theorem size_ok : ∀ (c : FareCond) (fu : Nat), cL c ≤ fu → cN c ≤ 1048576 → FareCondsize fu c = some ((cN c : Int), (cL c : Int))
  | _, 0, h, _ => absurd h (by have := cL_pos (by assumption); omega)
  | ⟨a, b, d, k⟩, fu + 1, h, hb => by
    rw [cL] at h; rw [cN] at hb
    have h2 := cLs_le k
    have e : FareCondsize.loop1 (FareCondsize fu) k 1 0 = some (((1 + cNs k : Nat) : Int), ((max 0 (cLs k) : Nat) : Int)) := sizes_ok k fu 1 0 (by omega) (by omega)
    rw [FareCondsize, e]
    simp only [Option.bind_some, cN, cL]
    rw [w64_id (by omega)]
    congr 2 <;> omega
theorem sizes_ok : ∀ (l : List FareCond) (fu a b : Nat), cLs l ≤ fu → cNs l + a ≤ 1048576 → FareCondsize.loop1 (FareCondsize fu) l (a : Int) (b : Int) = some (((a + cNs l : Nat) : Int), ((max b (cLs l) : Nat) : Int))
  | [], fu, a, b, _, _ => by simp [FareCondsize.loop1, cNs, cLs]
  | x :: r, fu, a, b, h, hb => by
    rw [cLs] at h; rw [cNs] at hb
    rw [FareCondsize.loop1, size_ok x fu (by omega) (by omega), Option.bind_some]
    rw [w64_id (by simp only; omega)]
    have e : ((a : Int) + (cN x : Int)) = ((a + cN x : Nat) : Int) := by omega
    simp only
    rw [e, mx_nat, sizes_ok r fu _ _ (by omega) (by omega), cNs, cLs]
    congr 3 <;> omega
end
mutual
theorem shape_ok : ∀ (c : FareCond) (fu : Nat) (left : Nat), cL c ≤ fu → left ≤ 40 → cN c ≤ 1048576 → ∃ lv lf : Int, Fishref2shape_v1 fu c (left : Int) = some (lv, lf) ∧ (cN c ≤ left → lv = cL c ∧ lf = ((left - cN c : Nat) : Int)) ∧ (left < cN c → lf < 0)
  | _, 0, _, h, _, _ => absurd h (by have := cL_pos (by assumption); omega)
  | ⟨a, b, d, k⟩, fu + 1, left, h, hl, hb => by
    rw [cL] at h; rw [cN] at hb
    have h2 := cLs_le k
    rw [Fishref2shape_v1, w64_id (by omega)]
    rcases Nat.eq_zero_or_pos left with h0 | h0
    · subst h0
      refine ⟨1, -1, by simp, by rw [cN]; omega, by omega⟩
    · obtain ⟨lv, lf, e1, e2, e3, e4⟩ := shapes_ok k fu 0 (left - 1) (by omega) (by omega) (by omega)
      have e : ((left : Int) - 1) = ((left - 1 : Nat) : Int) := by omega
      have hn : ¬ (((left - 1 : Nat) : Int) < 0) := by omega
      have e1' : Fishref2shape_v1.loop1 (Fishref2shape_v1 fu) k 0 (((left - 1 : Nat) : Nat) : Int) = some (lv, lf) := e1
      simp only [e, hn, decide_false, Bool.false_eq_true, if_false, e1', Option.bind_some]
      refine ⟨_, _, rfl, ?_, ?_⟩
      · intro hc
        rw [cN] at hc
        obtain ⟨p1, p2⟩ := e2 (by omega)
        rw [cL, cN, p1, p2, w64_id (by omega)]
        constructor <;> omega
      · intro hc; rw [cN] at hc; exact e3 (by omega)
theorem shapes_ok : ∀ (l : List FareCond) (fu a left : Nat), cLs l ≤ fu → left ≤ 40 → cNs l ≤ 1048576 → ∃ lv lf : Int, Fishref2shape_v1.loop1 (Fishref2shape_v1 fu) l (a : Int) (left : Int) = some (lv, lf) ∧ (cNs l ≤ left → lv = ((max a (cLs l) : Nat) : Int) ∧ lf = ((left - cNs l : Nat) : Int)) ∧ (left < cNs l → lf < 0) ∧ True
  | [], fu, a, left, _, _, _ => ⟨a, left, rfl, by simp [cNs, cLs], by simp [cNs], trivial⟩
  | x :: r, fu, a, left, h, hl, hb => by
    rw [cLs] at h; rw [cNs] at hb
    obtain ⟨lv, lf, e1, e2, e3⟩ := shape_ok x fu left (by omega) hl (by omega)
    rw [Fishref2shape_v1.loop1, e1, Option.bind_some]
    by_cases hx : cN x ≤ left
    · obtain ⟨p1, p2⟩ := e2 hx
      subst p1; subst p2
      have hn : ¬ (((left - cN x : Nat) : Int) < 0) := by omega
      simp only [hn, decide_false, Bool.false_eq_true, if_false, mx_nat]
      obtain ⟨lv, lf, q1, q2, q3, _⟩ := shapes_ok r fu (max a (cL x)) (left - cN x) (by omega) (by omega) (by omega)
      refine ⟨lv, lf, q1, ?_, ?_, trivial⟩
      · intro hc
        rw [cNs] at hc
        obtain ⟨r1, r2⟩ := q2 (by omega)
        rw [r1, r2, cNs, cLs]
        constructor <;> omega
      · intro hc; rw [cNs] at hc; exact q3 (by omega)
    · have hn := e3 (by omega)
      simp only [hn, decide_true, if_true]
      refine ⟨_, _, rfl, ?_, ?_, trivial⟩
      · intro hc; rw [cNs] at hc; omega
      · intro _; exact hn
end
theorem node_loop1 (s : FareCond → Option Int) : ∀ l, Fishref2nodeFault.loop1 s l = FareCondnode.loop1 s l
  | [] => rfl
  | x :: r => by simp only [Fishref2nodeFault.loop1, FareCondnode.loop1, node_loop1 s r]
theorem node_loop2 (s : FareCond → Option Int) : ∀ l, Fishref2nodeFault.loop2 s l = FareCondnode.loop1 s l
  | [] => rfl
  | x :: r => by simp only [Fishref2nodeFault.loop2, FareCondnode.loop1, node_loop2 s r]
theorem node_loop3 (s : FareCond → Option Int) : ∀ l, Fishref2nodeFault.loop3 s l = FareCondnode.loop1 s l
  | [] => rfl
  | x :: r => by simp only [Fishref2nodeFault.loop3, FareCondnode.loop1, node_loop3 s r]
theorem within_iff (x a b : Int) : Farewithin x a b = decide (a ≤ x ∧ x ≤ b) := by
  unfold Farewithin bnd
  by_cases h1 : a ≤ x <;> by_cases h2 : x ≤ b <;> simp [h1, h2]
theorem node_ref : ∀ (fu : Nat) (c : FareCond), Fishref2nodeFault fu c = FareCondnode fu c
  | 0, _ => rfl
  | fu + 1, c => by
    have ih : Fishref2nodeFault fu = FareCondnode fu := funext (node_ref fu)
    rw [Fishref2nodeFault, FareCondnode, ih]
    simp only [node_loop1, node_loop2, node_loop3, within_ref, numbers_ref, bnd_eq]
    by_cases hk : Farewithin c.Kind 0 11 = true
    · rw [within_iff, decide_eq_true_eq] at hk
      have hk' : Farewithin c.Kind 0 11 = true := by rw [within_iff]; exact decide_eq_true hk
      simp only [hk', Bool.not_true, Bool.false_eq_true, if_false]
      refine ite_same fun _ => ite_same fun _ => ?_
      · skip
        · by_cases h9 : c.Kind = 9
          · have e9 : (c.Kind == 9) = true := by simpa using h9
            have g9 : ¬ c.Kind > 9 := by omega
            have l9 : ¬ c.Kind < 9 := by omega
            simp only [e9, g9, l9, decide_false, Bool.false_eq_true, if_false, if_true]
            by_cases hl : ((c.Kids.length : Nat) : Int) = 1
            · have e1 : (((c.Kids.length : Nat) : Int) != 1) = false := by simp [hl]
              simp only [e1, Bool.false_eq_true, if_false] <;> rfl
            · have e1 : (((c.Kids.length : Nat) : Int) != 1) = true := by simpa using hl
              simp only [e1, if_true]
          · have e9 : (c.Kind == 9) = false := by simpa using h9
            by_cases hg : c.Kind > 9
            · have l9 : ¬ c.Kind < 9 := by omega
              have e10 : (if (c.Kind == 10) = true then (c.Kind == 10) else (c.Kind == 11)) = true := by
                have : c.Kind = 10 ∨ c.Kind = 11 := by omega
                rcases this with h | h <;> simp [h]
              simp only [e9, hg, l9, e10, decide_true, decide_false, Bool.false_eq_true, if_false, if_true]
              by_cases hl : ((c.Kids.length : Nat) : Int) < 2
              · simp only [hl, decide_true, if_true]
              · simp only [hl, decide_false, Bool.false_eq_true, if_false] <;> rfl
            · have l9 : c.Kind < 9 := by omega
              have e10 : (if (c.Kind == 10) = true then (c.Kind == 10) else (c.Kind == 11)) = false := by
                have h1 : (c.Kind == 10) = false := by simp; omega
                have h2 : (c.Kind == 11) = false := by simp; omega
                simp [h1, h2]
              simp only [e9, hg, l9, e10, decide_true, decide_false, Bool.false_eq_true, if_false, if_true]
    · have hk' : Farewithin c.Kind 0 11 = false := by simpa using hk
      simp only [hk', Bool.not_false, if_true]
mutual
theorem node_tot : ∀ (c : FareCond) (fu : Nat), cL c ≤ fu → Tot (FareCondnode fu c)
  | _, 0, h => absurd h (by have := cL_pos (by assumption); omega)
  | ⟨a, b, d, k⟩, fu + 1, h => by
    rw [cL] at h
    rw [FareCondnode]
    refine .ite (fun _ => .some _) fun _ => .bnd (.ite (fun _ => .some _) fun _ => .bnd (.ite (fun _ => .some _) fun _ => .bnd (.ite (fun _ => .some _) fun _ => .bind (nodes_tot k fu (by omega)) fun z _ => ?_)))
    cases z <;> exact .some _
theorem nodes_tot : ∀ (l : List FareCond) (fu : Nat), cLs l ≤ fu → Tot (FareCondnode.loop1 (FareCondnode fu) l)
  | [], _, _ => .some _
  | x :: r, fu, h => by
    rw [cLs] at h
    exact .bind (node_tot x fu (by omega)) fun z _ => .ite (fun _ => .some _) fun _ => nodes_tot r fu (by omega)
end
theorem cond_ref {fu : Nat} {c : FareCond} (hf : 1048576 ≤ fu) (hc : szFareCond c ≤ 1048576) : Fishref2CondFault fu c = FareCondcheck fu c ∧ Tot (FareCondcheck fu c) := by
  have h1 := cN_sz c
  have h2 := cL_le c
  obtain ⟨lv, lf, e1, e2, e3⟩ := shape_ok c fu 40 (by omega) (by omega) (by omega)
  have e1' : Fishref2shape_v1 fu c 40 = some (lv, lf) := e1
  unfold Fishref2CondFault FareCondcheck
  rw [e1', size_ok c fu (by omega) (by omega)]
  simp only [Option.bind_some, node_ref, bnd_eq]
  by_cases hn : cN c ≤ 40
  · obtain ⟨p1, p2⟩ := e2 hn
    have a1 : ¬ lf < 0 := by omega
    have a2 : ¬ ((cN c : Nat) : Int) > 40 := by omega
    simp only [a1, a2, p1, decide_false, Bool.false_eq_true, if_false]
    refine ⟨trivial, .ite (fun _ => .some _) fun _ => .bind (node_tot c fu (by omega)) fun _ _ => .some _⟩
  · have a1 := e3 (by omega)
    have a2 : ((cN c : Nat) : Int) > 40 := by omega
    simp only [a1, a2, decide_true, if_true]
    exact ⟨trivial, .some _⟩
theorem trip_loop (t : FareTrip) : ∀ (r : List Int) (k : Nat), Fishref2TripFault.loop1 t r k = FarecheckZones.loop1 t.Zones false r k
  | [], _ => rfl
  | x :: r, k => by
    simp only [Fishref2TripFault.loop1, FarecheckZones.loop1, within_ref, trip_loop t r]
    congr 1
    congr 1
    congr 1
    congr 1
    funext y
    by_cases h : x = y
    · simp [h]
    · have e : (x == y) = false := by simpa using h
      simp [e]
theorem zones_tot (l : List Int) (b : Bool) (hl : l.length ≤ 9223372036854775807) : ∀ (r : List Int) (k : Nat), l.drop k = r → Tot (FarecheckZones.loop1 l b r k)
  | [], _, _ => .some _
  | x :: r, k, hd => by
    obtain ⟨d1, d2, d3⟩ := drop_cons hd
    rw [FarecheckZones.loop1]
    refine .ite (fun _ => .some _) fun _ => .bind (.ite (fun h => ?_) fun _ => .some _) fun _ _ => .ite (fun _ => .some _) fun _ => zones_tot l b hl r (k + 1) d3
    have hk : 0 < k := by have := of_decide_eq_true h; omega
    have hp := gx_prev (l := l) hk (by omega) hl
    exact .bind1 hp (.ite (fun _ => .some _) fun _ => .ite (fun _ => .bind1 hp (.some _)) fun _ => .some _)
theorem trip_ref (t : FareTrip) (hl : t.Zones.length ≤ 9223372036854775807) : Fishref2TripFault t = FareCheckTrip t ∧ Tot (FareCheckTrip t) := by
  unfold Fishref2TripFault FareCheckTrip FarecheckZones
  simp only [within_ref, trip_loop, bnd_eq]
  obtain ⟨z, hz⟩ := zones_tot t.Zones false hl t.Zones 0 rfl
  simp only [hz, Option.bind_some]
  refine ⟨by cases z <;> rfl, .ite (fun _ => .some _) fun _ => .ite (fun _ => .some _) fun _ => ?_⟩
  cases z <;> exact .some _
theorem tariff_loop1 (t : FareTariff) : ∀ (r : List FareBand) (k : Nat), Fishref2TariffFault.loop1 t r k = FareCheckTariff.loop1 t r k
  | [], _ => rfl
  | x :: r, k => by simp only [Fishref2TariffFault.loop1, FareCheckTariff.loop1, within_ref, tariff_loop1 t r] <;> rfl
theorem bands_tot (t : FareTariff) (hl : t.Bands.length ≤ 9223372036854775807) : ∀ (r : List FareBand) (k : Nat), t.Bands.drop k = r → Tot (FareCheckTariff.loop1 t r k)
  | [], _, _ => .some _
  | x :: r, k, hd => by
    obtain ⟨d1, d2, d3⟩ := drop_cons hd
    rw [FareCheckTariff.loop1]
    refine .bnd (.ite (fun _ => .some _) fun _ => .bind (.ite (fun h => ?_) fun _ => .some _) fun _ _ => .ite (fun _ => .some _) fun _ => bands_tot t hl r (k + 1) d3)
    have hk : 0 < k := by have := of_decide_eq_true h; omega
    have hp := gx_prev (l := t.Bands) hk (by omega) hl
    exact .bind1 hp (.ite (fun _ => .some _) fun _ => .bind1 hp (.some _))
theorem tariff_loop2 {fu : Nat} (hf : 1048576 ≤ fu) : ∀ (r : List FareRule), (∀ x ∈ r, szFareCond x.If ≤ 1048576) → Fishref2TariffFault.loop2 fu r = FareCheckTariff.loop2 fu r ∧ Tot (FareCheckTariff.loop2 fu r)
  | [], _ => ⟨rfl, .some _⟩
  | x :: r, h => by
    obtain ⟨h1, h2⟩ := cond_ref hf (h x (by simp))
    obtain ⟨h3, h4⟩ := tariff_loop2 hf r (fun y hy => h y (by simp [hy]))
    obtain ⟨z, hz⟩ := h2
    simp only [Fishref2TariffFault.loop2, FareCheckTariff.loop2, h1, hz, Option.bind_some, within_ref, h3, bnd_eq]
    exact ⟨trivial, .ite (fun _ => .some _) fun _ => .ite (fun _ => .some _) fun _ => .ite (fun _ => .some _) fun _ => h4⟩
theorem rules_sz {t : FareTariff} (h : szFareTariff t ≤ 1048576) : ∀ x ∈ t.Rules, szFareCond x.If ≤ 1048576 := by
  intro x hx
  unfold szFareTariff at h
  have h1 := szL_mem (f := szFareRule) hx
  unfold szFareRule at h1
  have h2 : szL (fun x : FareRule => szFareCond x.If + 1) t.Rules = szL szFareRule t.Rules := rfl
  omega
theorem tariff_ref {fu : Nat} (hf : 1048576 ≤ fu) (t : FareTariff) (hl : t.Bands.length ≤ 9223372036854775807) (hz : szFareTariff t ≤ 1048576) : Fishref2TariffFault fu t = FareCheckTariff fu t ∧ Tot (FareCheckTariff fu t) := by
  unfold Fishref2TariffFault FareCheckTariff
  obtain ⟨h1, z2, h2⟩ := tariff_loop2 hf t.Rules (rules_sz hz)
  obtain ⟨z1, h3⟩ := bands_tot t hl t.Bands 0 rfl
  simp only [within_ref, tariff_loop1, bnd_eq, h1, h2, h3, Option.bind_some]
  refine ⟨by cases z1 <;> cases z2 <;> rfl, .ite (fun _ => .some _) fun _ => ?_⟩
  cases z1
  · exact .some _
  · refine .ite (fun _ => .some _) fun _ => ?_
    cases z2 <;> exact .some _
theorem fares_true (n : Nat) : Fishlaw2fares (n + 60) = some true := by kernel_rfl

theorem FareTariffs_law (t : FareTariff) (r : FareTrip) (h1 : t.Bands.length ≤ 9223372036854775807) (_ : t.Rules.length ≤ 9223372036854775807) (h2 : r.Zones.length ≤ 9223372036854775807) (z0 : szFareTariff t ≤ 1048576) (_ : szFareTrip r ≤ 1048576) : ∃ fu, Fishlaw2FareTariffs fu t r = some true := by
  refine ⟨1048576 + 60, ?_⟩
  unfold Fishlaw2FareTariffs
  obtain ⟨e1, z1, e2⟩ := tariff_ref (fu := 1048576 + 60) (by omega) t h1 z0
  obtain ⟨e3, z2, e4⟩ := trip_ref r h2
  rw [fares_true]
  simp only [e1, e2, e3, e4, Option.bind_some, if_true, beq_self_eq_true]

end Go.Fp
