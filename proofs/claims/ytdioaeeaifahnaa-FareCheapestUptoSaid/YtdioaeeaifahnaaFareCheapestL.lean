/- FareCheapest: the mirror of the law is true of all tariffs of bounded size, trips and passes. -/
import Derived.Test.YtdioaeeaifahnaaFareCheapestM
import Derived.Test.YtdioaeeaifahnaaFpPlain
import Derived.KernelRfl
namespace Go.Fp

theorem within_ref : Fishref2within = Farewithin := rfl
theorem numbers_ref : Fishref2numbersOf = Farenumbers := rfl
/-! nodes and levels of a condition -/
mutual
def cN : FareCond → Nat
  | ⟨_, _, _, k⟩ => cNs k + 1
def cNs : List FareCond → Nat
  | [] => 0
  | x :: r => cN x + cNs r
end
mutual
def cL : FareCond → Nat
  | ⟨_, _, _, k⟩ => cLs k + 1
def cLs : List FareCond → Nat
  | [] => 0
  | x :: r => max (cL x) (cLs r)
end
theorem cN_eq (c : FareCond) : cN c = cNs c.Kids + 1 := by cases c; rw [cN]
theorem cL_eq (c : FareCond) : cL c = cLs c.Kids + 1 := by cases c; rw [cL]
theorem cL_pos (c : FareCond) : 1 ≤ cL c := by rw [cL_eq]; omega
theorem cN_pos (c : FareCond) : 1 ≤ cN c := by rw [cN_eq]; omega
mutual
theorem cN_sz : ∀ c : FareCond, cN c + 1 ≤ szFareCond c
  | ⟨_, _, _, k⟩ => by rw [cN, szFareCond]; have := cNs_sz k; omega
theorem cNs_sz : ∀ l : List FareCond, cNs l + 1 ≤ szsFareCond l
  | [] => by simp [cNs, szsFareCond]
  | x :: r => by rw [cNs, szsFareCond]; have := cN_sz x; have := cNs_sz r; omega
end
mutual
theorem cL_le : ∀ c : FareCond, cL c ≤ cN c
  | ⟨_, _, _, k⟩ => by rw [cN, cL]; have := cLs_le k; omega
theorem cLs_le : ∀ l : List FareCond, cLs l ≤ cNs l
  | [] => by simp [cNs, cLs]
  | x :: r => by rw [cNs, cLs]; have := cL_le x; have := cLs_le r; omega
end
theorem len_cNs : ∀ l : List FareCond, l.length ≤ cNs l
  | [] => by simp
  | x :: r => by rw [cNs]; have := cN_pos x; have := len_cNs r; simp only [List.length_cons]; omega
theorem mx_nat (a b : Nat) : mx (a : Int) (b : Int) = ((max a b : Nat) : Int) := by unfold mx; omega
mutual
theorem size_ok : ∀ (c : FareCond) (fu : Nat), cL c ≤ fu → cN c ≤ 1048576 → FareCondsize fu c = some ((cN c : Int), (cL c : Int))
  | _, 0, h, _ => absurd h (by have := cL_pos (by assumption); omega)
  | ⟨a, b, d, k⟩, fu + 1, h, hb => by
    rw [cL] at h; rw [cN] at hb
    have h2 := cLs_le k
    have e : FareCondsize.loop1 (FareCondsize fu) k 1 0 = some (((1 + cNs k : Nat) : Int), ((max 0 (cLs k) : Nat) : Int)) := sizes_ok k fu 1 0 (by omega) (by omega)
    rw [FareCondsize, e]
    simp only [Option.bind_some, cN, cL]
    rw [w64_id (by omega)]
    congr 2 <;> omega
theorem sizes_ok : ∀ (l : List FareCond) (fu a b : Nat), cLs l ≤ fu → cNs l + a ≤ 1048576 → FareCondsize.loop1 (FareCondsize fu) l (a : Int) (b : Int) = some (((a + cNs l : Nat) : Int), ((max b (cLs l) : Nat) : Int))
  | [], fu, a, b, _, _ => by simp [FareCondsize.loop1, cNs, cLs]
  | x :: r, fu, a, b, h, hb => by
    rw [cLs] at h; rw [cNs] at hb
    rw [FareCondsize.loop1, size_ok x fu (by omega) (by omega), Option.bind_some]
    rw [w64_id (by simp only; omega)]
    have e : ((a : Int) + (cN x : Int)) = ((a + cN x : Nat) : Int) := by omega
    simp only
    rw [e, mx_nat, sizes_ok r fu _ _ (by omega) (by omega), cNs, cLs]
    congr 3 <;> omega
end
mutual
theorem shape_ok : ∀ (c : FareCond) (fu : Nat) (left : Nat), cL c ≤ fu → left ≤ 40 → cN c ≤ 1048576 → ∃ lv lf : Int, Fishref2shape_v1 fu c (left : Int) = some (lv, lf) ∧ (cN c ≤ left → lv = cL c ∧ lf = ((left - cN c : Nat) : Int)) ∧ (left < cN c → lf < 0)
  | _, 0, _, h, _, _ => absurd h (by have := cL_pos (by assumption); omega)
  | ⟨a, b, d, k⟩, fu + 1, left, h, hl, hb => by
    rw [cL] at h; rw [cN] at hb
    have h2 := cLs_le k
    rw [Fishref2shape_v1, w64_id (by omega)]
    rcases Nat.eq_zero_or_pos left with h0 | h0
    · subst h0
      refine ⟨1, -1, by simp, by rw [cN]; omega, by omega⟩
    · obtain ⟨lv, lf, e1, e2, e3, e4⟩ := shapes_ok k fu 0 (left - 1) (by omega) (by omega) (by omega)
      have e : ((left : Int) - 1) = ((left - 1 : Nat) : Int) := by omega
      have hn : ¬ (((left - 1 : Nat) : Int) < 0) := by omega
      have e1' : Fishref2shape_v1.loop1 (Fishref2shape_v1 fu) k 0 (((left - 1 : Nat) : Nat) : Int) = some (lv, lf) := e1
      simp only [e, hn, decide_false, Bool.false_eq_true, if_false, e1', Option.bind_some]
      refine ⟨_, _, rfl, ?_, ?_⟩
      · intro hc
        rw [cN] at hc
        obtain ⟨p1, p2⟩ := e2 (by omega)
        rw [cL, cN, p1, p2, w64_id (by omega)]
        constructor <;> omega
      · intro hc; rw [cN] at hc; exact e3 (by omega)
theorem shapes_ok : ∀ (l : List FareCond) (fu a left : Nat), cLs l ≤ fu → left ≤ 40 → cNs l ≤ 1048576 → ∃ lv lf : Int, Fishref2shape_v1.loop1 (Fishref2shape_v1 fu) l (a : Int) (left : Int) = some (lv, lf) ∧ (cNs l ≤ left → lv = ((max a (cLs l) : Nat) : Int) ∧ lf = ((left - cNs l : Nat) : Int)) ∧ (left < cNs l → lf < 0) ∧ True
  | [], fu, a, left, _, _, _ => ⟨a, left, rfl, by simp [cNs, cLs], by simp [cNs], trivial⟩
  | x :: r, fu, a, left, h, hl, hb => by
    rw [cLs] at h; rw [cNs] at hb
    obtain ⟨lv, lf, e1, e2, e3⟩ := shape_ok x fu left (by omega) hl (by omega)
    rw [Fishref2shape_v1.loop1, e1, Option.bind_some]
    by_cases hx : cN x ≤ left
    · obtain ⟨p1, p2⟩ := e2 hx
      subst p1; subst p2
      have hn : ¬ (((left - cN x : Nat) : Int) < 0) := by omega
      simp only [hn, decide_false, Bool.false_eq_true, if_false, mx_nat]
      obtain ⟨lv, lf, q1, q2, q3, _⟩ := shapes_ok r fu (max a (cL x)) (left - cN x) (by omega) (by omega) (by omega)
      refine ⟨lv, lf, q1, ?_, ?_, trivial⟩
      · intro hc
        rw [cNs] at hc
        obtain ⟨r1, r2⟩ := q2 (by omega)
        rw [r1, r2, cNs, cLs]
        constructor <;> omega
      · intro hc; rw [cNs] at hc; exact q3 (by omega)
    · have hn := e3 (by omega)
      simp only [hn, decide_true, if_true]
      refine ⟨_, _, rfl, ?_, ?_, trivial⟩
      · intro hc; rw [cNs] at hc; omega
      · intro _; exact hn
end
theorem node_loop1 (s : FareCond → Option Int) : ∀ l, Fishref2nodeFault.loop1 s l = FareCondnode.loop1 s l
  | [] => rfl
  | x :: r => by simp only [Fishref2nodeFault.loop1, FareCondnode.loop1, node_loop1 s r]
theorem node_loop2 (s : FareCond → Option Int) : ∀ l, Fishref2nodeFault.loop2 s l = FareCondnode.loop1 s l
  | [] => rfl
  | x :: r => by simp only [Fishref2nodeFault.loop2, FareCondnode.loop1, node_loop2 s r]
theorem node_loop3 (s : FareCond → Option Int) : ∀ l, Fishref2nodeFault.loop3 s l = FareCondnode.loop1 s l
  | [] => rfl
  | x :: r => by simp only [Fishref2nodeFault.loop3, FareCondnode.loop1, node_loop3 s r]
theorem within_iff (x a b : Int) : Farewithin x a b = decide (a ≤ x ∧ x ≤ b) := by
  unfold Farewithin bnd
  by_cases h1 : a ≤ x <;> by_cases h2 : x ≤ b <;> simp [h1, h2]
theorem node_ref : ∀ (fu : Nat) (c : FareCond), Fishref2nodeFault fu c = FareCondnode fu c
  | 0, _ => rfl
  | fu + 1, c => by
    have ih : Fishref2nodeFault fu = FareCondnode fu := funext (node_ref fu)
    rw [Fishref2nodeFault, FareCondnode, ih]
    simp only [node_loop1, node_loop2, node_loop3, within_ref, numbers_ref, bnd_eq]
    by_cases hk : Farewithin c.Kind 0 11 = true
    · rw [within_iff, decide_eq_true_eq] at hk
      have hk' : Farewithin c.Kind 0 11 = true := by rw [within_iff]; exact decide_eq_true hk
      simp only [hk', Bool.not_true, Bool.false_eq_true, if_false]
      refine ite_same fun _ => ite_same fun _ => ?_
      · skip
        · by_cases h9 : c.Kind = 9
          · have e9 : (c.Kind == 9) = true := by simpa using h9
            have g9 : ¬ c.Kind > 9 := by omega
            have l9 : ¬ c.Kind < 9 := by omega
            simp only [e9, g9, l9, decide_false, Bool.false_eq_true, if_false, if_true]
            by_cases hl : ((c.Kids.length : Nat) : Int) = 1
            · have e1 : (((c.Kids.length : Nat) : Int) != 1) = false := by simp [hl]
              simp only [e1, Bool.false_eq_true, if_false] <;> rfl
            · have e1 : (((c.Kids.length : Nat) : Int) != 1) = true := by simpa using hl
              simp only [e1, if_true]
          · have e9 : (c.Kind == 9) = false := by simpa using h9
            by_cases hg : c.Kind > 9
            · have l9 : ¬ c.Kind < 9 := by omega
              have e10 : (if (c.Kind == 10) = true then (c.Kind == 10) else (c.Kind == 11)) = true := by
                have : c.Kind = 10 ∨ c.Kind = 11 := by omega
                rcases this with h | h <;> simp [h]
              simp only [e9, hg, l9, e10, decide_true, decide_false, Bool.false_eq_true, if_false, if_true]
              by_cases hl : ((c.Kids.length : Nat) : Int) < 2
              · simp only [hl, decide_true, if_true]
              · simp only [hl, decide_false, Bool.false_eq_true, if_false] <;> rfl
            · have l9 : c.Kind < 9 := by omega
              have e10 : (if (c.Kind == 10) = true then (c.Kind == 10) else (c.Kind == 11)) = false := by
                have h1 : (c.Kind == 10) = false := by simp; omega
                have h2 : (c.Kind == 11) = false := by simp; omega
                simp [h1, h2]
              simp only [e9, hg, l9, e10, decide_true, decide_false, Bool.false_eq_true, if_false, if_true]
    · have hk' : Farewithin c.Kind 0 11 = false := by simpa using hk
      simp only [hk', Bool.not_false, if_true]
mutual
theorem node_tot : ∀ (c : FareCond) (fu : Nat), cL c ≤ fu → Tot (FareCondnode fu c)
  | _, 0, h => absurd h (by have := cL_pos (by assumption); omega)
  | ⟨a, b, d, k⟩, fu + 1, h => by
    rw [cL] at h
    rw [FareCondnode]
    refine .ite (fun _ => .some _) fun _ => .bnd (.ite (fun _ => .some _) fun _ => .bnd (.ite (fun _ => .some _) fun _ => .bnd (.ite (fun _ => .some _) fun _ => .bind (nodes_tot k fu (by omega)) fun z _ => ?_)))
    cases z <;> exact .some _
theorem nodes_tot : ∀ (l : List FareCond) (fu : Nat), cLs l ≤ fu → Tot (FareCondnode.loop1 (FareCondnode fu) l)
  | [], _, _ => .some _
  | x :: r, fu, h => by
    rw [cLs] at h
    exact .bind (node_tot x fu (by omega)) fun z _ => .ite (fun _ => .some _) fun _ => nodes_tot r fu (by omega)
end
theorem cond_ref {fu : Nat} {c : FareCond} (hf : 1048576 ≤ fu) (hc : szFareCond c ≤ 1048576) : Fishref2CondFault fu c = FareCondcheck fu c ∧ Tot (FareCondcheck fu c) := by
  have h1 := cN_sz c
  have h2 := cL_le c
  obtain ⟨lv, lf, e1, e2, e3⟩ := shape_ok c fu 40 (by omega) (by omega) (by omega)
  have e1' : Fishref2shape_v1 fu c 40 = some (lv, lf) := e1
  unfold Fishref2CondFault FareCondcheck
  rw [e1', size_ok c fu (by omega) (by omega)]
  simp only [Option.bind_some, node_ref, bnd_eq]
  by_cases hn : cN c ≤ 40
  · obtain ⟨p1, p2⟩ := e2 hn
    have a1 : ¬ lf < 0 := by omega
    have a2 : ¬ ((cN c : Nat) : Int) > 40 := by omega
    simp only [a1, a2, p1, decide_false, Bool.false_eq_true, if_false]
    refine ⟨trivial, .ite (fun _ => .some _) fun _ => .bind (node_tot c fu (by omega)) fun _ _ => .some _⟩
  · have a1 := e3 (by omega)
    have a2 : ((cN c : Nat) : Int) > 40 := by omega
    simp only [a1, a2, decide_true, if_true]
    exact ⟨trivial, .some _⟩
theorem trip_loop (t : FareTrip) : ∀ (r : List Int) (k : Nat), Fishref2TripFault.loop1 t r k = FarecheckZones.loop1 t.Zones false r k
  | [], _ => rfl
  | x :: r, k => by
    simp only [Fishref2TripFault.loop1, FarecheckZones.loop1, within_ref, trip_loop t r]
    congr 1
    congr 1
    congr 1
    congr 1
    funext y
    by_cases h : x = y
    · simp [h]
    · have e : (x == y) = false := by simpa using h
      simp [e]
theorem zones_tot (l : List Int) (b : Bool) (hl : l.length ≤ 9223372036854775807) : ∀ (r : List Int) (k : Nat), l.drop k = r → Tot (FarecheckZones.loop1 l b r k)
  | [], _, _ => .some _
  | x :: r, k, hd => by
    obtain ⟨d1, d2, d3⟩ := drop_cons hd
    rw [FarecheckZones.loop1]
    refine .ite (fun _ => .some _) fun _ => .bind (.ite (fun h => ?_) fun _ => .some _) fun _ _ => .ite (fun _ => .some _) fun _ => zones_tot l b hl r (k + 1) d3
    have hk : 0 < k := by have := of_decide_eq_true h; omega
    have hp := gx_prev (l := l) hk (by omega) hl
    exact .bind1 hp (.ite (fun _ => .some _) fun _ => .ite (fun _ => .bind1 hp (.some _)) fun _ => .some _)
theorem trip_ref (t : FareTrip) (hl : t.Zones.length ≤ 9223372036854775807) : Fishref2TripFault t = FareCheckTrip t ∧ Tot (FareCheckTrip t) := by
  unfold Fishref2TripFault FareCheckTrip FarecheckZones
  simp only [within_ref, trip_loop, bnd_eq]
  obtain ⟨z, hz⟩ := zones_tot t.Zones false hl t.Zones 0 rfl
  simp only [hz, Option.bind_some]
  refine ⟨by cases z <;> rfl, .ite (fun _ => .some _) fun _ => .ite (fun _ => .some _) fun _ => ?_⟩
  cases z <;> exact .some _
theorem tariff_loop1 (t : FareTariff) : ∀ (r : List FareBand) (k : Nat), Fishref2TariffFault.loop1 t r k = FareCheckTariff.loop1 t r k
  | [], _ => rfl
  | x :: r, k => by simp only [Fishref2TariffFault.loop1, FareCheckTariff.loop1, within_ref, tariff_loop1 t r] <;> rfl
theorem bands_tot (t : FareTariff) (hl : t.Bands.length ≤ 9223372036854775807) : ∀ (r : List FareBand) (k : Nat), t.Bands.drop k = r → Tot (FareCheckTariff.loop1 t r k)
  | [], _, _ => .some _
  | x :: r, k, hd => by
    obtain ⟨d1, d2, d3⟩ := drop_cons hd
    rw [FareCheckTariff.loop1]
    refine .bnd (.ite (fun _ => .some _) fun _ => .bind (.ite (fun h => ?_) fun _ => .some _) fun _ _ => .ite (fun _ => .some _) fun _ => bands_tot t hl r (k + 1) d3)
    have hk : 0 < k := by have := of_decide_eq_true h; omega
    have hp := gx_prev (l := t.Bands) hk (by omega) hl
    exact .bind1 hp (.ite (fun _ => .some _) fun _ => .bind1 hp (.some _))
theorem tariff_loop2 {fu : Nat} (hf : 1048576 ≤ fu) : ∀ (r : List FareRule), (∀ x ∈ r, szFareCond x.If ≤ 1048576) → Fishref2TariffFault.loop2 fu r = FareCheckTariff.loop2 fu r ∧ Tot (FareCheckTariff.loop2 fu r)
  | [], _ => ⟨rfl, .some _⟩
  | x :: r, h => by
    obtain ⟨h1, h2⟩ := cond_ref hf (h x (by simp))
    obtain ⟨h3, h4⟩ := tariff_loop2 hf r (fun y hy => h y (by simp [hy]))
    obtain ⟨z, hz⟩ := h2
    simp only [Fishref2TariffFault.loop2, FareCheckTariff.loop2, h1, hz, Option.bind_some, within_ref, h3, bnd_eq]
    exact ⟨trivial, .ite (fun _ => .some _) fun _ => .ite (fun _ => .some _) fun _ => .ite (fun _ => .some _) fun _ => h4⟩
theorem rules_sz {t : FareTariff} (h : szFareTariff t ≤ 1048576) : ∀ x ∈ t.Rules, szFareCond x.If ≤ 1048576 := by
  intro x hx
  unfold szFareTariff at h
  have h1 := szL_mem (f := szFareRule) hx
  unfold szFareRule at h1
  have h2 : szL (fun x : FareRule => szFareCond x.If + 1) t.Rules = szL szFareRule t.Rules := rfl
  omega
theorem tariff_ref {fu : Nat} (hf : 1048576 ≤ fu) (t : FareTariff) (hl : t.Bands.length ≤ 9223372036854775807) (hz : szFareTariff t ≤ 1048576) : Fishref2TariffFault fu t = FareCheckTariff fu t ∧ Tot (FareCheckTariff fu t) := by
  unfold Fishref2TariffFault FareCheckTariff
  obtain ⟨h1, z2, h2⟩ := tariff_loop2 hf t.Rules (rules_sz hz)
  obtain ⟨z1, h3⟩ := bands_tot t hl t.Bands 0 rfl
  simp only [within_ref, tariff_loop1, bnd_eq, h1, h2, h3, Option.bind_some]
  refine ⟨by cases z1 <;> cases z2 <;> rfl, .ite (fun _ => .some _) fun _ => ?_⟩
  cases z1
  · exact .some _
  · refine .ite (fun _ => .some _) fun _ => ?_
    cases z2 <;> exact .some _
theorem ite_zero {b : Bool} {c : Int} {y : Option Int} (h : (if b = true then some c else y) = some 0) (hc : c ≠ 0) : b = false ∧ y = some 0 := by
  cases b
  · exact ⟨rfl, h⟩
  · exact absurd (Option.some.inj h) hc
theorem nodes_zero (s : FareCond → Option Int) : ∀ l, (∀ r, FareCondnode.loop1 s l = some (.ret r) → r ≠ 0) ∧ (FareCondnode.loop1 s l = some (.next ()) → ∀ x ∈ l, s x = some 0)
  | [] => ⟨by intro r h; simp [FareCondnode.loop1] at h, by simp⟩
  | x :: t => by
    obtain ⟨h1, h2⟩ := nodes_zero s t
    simp only [FareCondnode.loop1]
    cases hx : s x with
    | none => exact ⟨by intro r h; simp at h, by intro h; simp at h⟩
    | some v =>
      simp only [Option.bind_some]
      by_cases hv : v = 0
      · subst hv
        simp only [bne_self_eq_false, Bool.false_eq_true, if_false]
        refine ⟨h1, fun h y hy => ?_⟩
        rcases List.mem_cons.1 hy with rfl | hy
        · exact hx
        · exact h2 h y hy
      · have e : (v != 0) = true := by simpa using hv
        simp only [e, if_true]
        refine ⟨fun r h => ?_, fun h => by simp at h⟩
        simp at h; omega
theorem node_zero {fu : Nat} {c : FareCond} (h : FareCondnode (fu + 1) c = some 0) : (c.Kind = 9 → c.Kids.length = 1) ∧ ∀ x ∈ c.Kids, FareCondnode fu x = some 0 := by
  rw [FareCondnode] at h
  simp only [bnd_eq] at h
  obtain ⟨_, h⟩ := ite_zero h (by omega)
  obtain ⟨_, h⟩ := ite_zero h (by omega)
  obtain ⟨_, h⟩ := ite_zero h (by omega)
  obtain ⟨h1, h⟩ := ite_zero h (by omega)
  constructor
  · intro h9
    have e9 : (c.Kind == 9) = true := by simpa using h9
    simp only [e9, if_true] at h1
    by_cases hl : ((c.Kids.length : Nat) : Int) = 1
    · omega
    · have e1 : (((c.Kids.length : Nat) : Int) != 1) = true := by simpa using hl
      simp [e1] at h1
  · obtain ⟨h2, h3⟩ := nodes_zero (FareCondnode fu) c.Kids
    cases hz : FareCondnode.loop1 (FareCondnode fu) c.Kids with
    | none => rw [hz] at h; simp at h
    | some z =>
      rw [hz] at h
      cases z with
      | next u => exact h3 hz
      | ret r => exact absurd (by simpa using h) (h2 r hz)
theorem cN_mem : ∀ {l : List FareCond} {x : FareCond}, x ∈ l → cN x ≤ cNs l
  | y :: l, x, h => by
    rw [cNs]
    rcases List.mem_cons.1 h with rfl | h
    · omega
    · have := cN_mem h; omega
def hb (fu : Nat) (t : FareTrip) (c : FareCond) : Bool := (FareCondholds fu c t).getD false
def HB (fu : Nat) (t : FareTrip) (c : FareCond) : Prop := FareCondholds fu c t = some (hb fu t c) ∧ Fishref2HoldsOf fu c t = some (hb fu t c)
theorem idx1 (fu : Nat) (t : FareTrip) : ∀ (l : List FareCond) (k : Nat), (∀ c ∈ l, HB fu t c) → (SlicesIndexFuncLfareCond_v1.loop1 t (FareCondholds fu) l k = some (.next ()) ∧ l.all (hb fu t) = true) ∨ ∃ j : Nat, SlicesIndexFuncLfareCond_v1.loop1 t (FareCondholds fu) l k = some (.ret (j : Int)) ∧ l.all (hb fu t) = false
  | [], _, _ => .inl ⟨rfl, rfl⟩
  | c :: l, k, h => by
    simp only [SlicesIndexFuncLfareCond_v1.loop1, FareCondholds_2_v1, (h c (by simp)).1, Option.bind_some, List.all_cons]
    cases hb fu t c
    · exact .inr ⟨k, rfl, rfl⟩
    · exact idx1 fu t l (k + 1) (fun x hx => h x (by simp [hx]))
theorem idx2 (fu : Nat) (t : FareTrip) : ∀ (l : List FareCond) (k : Nat), (∀ c ∈ l, HB fu t c) → (SlicesIndexFuncLfareCond_v2.loop1 t (FareCondholds fu) l k = some (.next ()) ∧ l.any (hb fu t) = false) ∨ ∃ j : Nat, SlicesIndexFuncLfareCond_v2.loop1 t (FareCondholds fu) l k = some (.ret (j : Int)) ∧ l.any (hb fu t) = true
  | [], _, _ => .inl ⟨rfl, rfl⟩
  | c :: l, k, h => by
    simp only [SlicesIndexFuncLfareCond_v2.loop1, FareCondholds_3_v1, (h c (by simp)).1, Option.bind_some, List.any_cons]
    cases hb fu t c
    · exact idx2 fu t l (k + 1) (fun x hx => h x (by simp [hx]))
    · exact .inr ⟨k, rfl, rfl⟩
theorem cnt1 (fu : Nat) (t : FareTrip) : ∀ (l : List FareCond) (q : Nat), (∀ c ∈ l, HB fu t c) → q + l.length ≤ 1048576 → ∃ n : Nat, Fishref2HoldsOf.loop1 t (Fishref2HoldsOf fu) l (q : Int) = some ((q + n : Nat) : Int) ∧ n ≤ l.length ∧ (n = l.length ↔ l.all (hb fu t) = true)
  | [], q, _, _ => ⟨0, rfl, by simp, by simp⟩
  | c :: l, q, h, hq => by
    simp only [List.length_cons] at hq
    simp only [Fishref2HoldsOf.loop1, (h c (by simp)).2, Option.bind_some, List.all_cons, bnd_eq]
    cases hb fu t c
    · obtain ⟨n, h1, h2, h3⟩ := cnt1 fu t l q (fun x hx => h x (by simp [hx])) (by omega)
      refine ⟨n, by simpa using h1, by simp only [List.length_cons]; omega, ?_⟩
      simp only [List.length_cons, Bool.false_and, Bool.false_eq_true, iff_false]; omega
    · obtain ⟨n, h1, h2, h3⟩ := cnt1 fu t l (q + 1) (fun x hx => h x (by simp [hx])) (by omega)
      refine ⟨n + 1, ?_, by simp only [List.length_cons]; omega, ?_⟩
      · rw [if_pos rfl, w64_id (by omega)]
        have e : ((q : Int) + 1) = ((q + 1 : Nat) : Int) := by omega
        rw [e, h1]; congr 2; omega
      · simp only [List.length_cons, Bool.true_and]; rw [← h3]; omega
theorem any2 (fu : Nat) (t : FareTrip) : ∀ (l : List FareCond), (∀ c ∈ l, HB fu t c) → Fishref2HoldsOf.loop2 t (Fishref2HoldsOf fu) l = some (if l.any (hb fu t) then .ret true else .next ())
  | [], _ => rfl
  | c :: l, h => by
    simp only [Fishref2HoldsOf.loop2, (h c (by simp)).2, Option.bind_some, List.any_cons]
    have ih := any2 fu t l (fun x hx => h x (by simp [hx]))
    rcases Bool.eq_false_or_eq_true (hb fu t c) with e | e
    · simp [e]
    · simp [e, ih]
theorem holds_ref (t : FareTrip) (hz : 0 < t.Zones.length) (hz2 : t.Zones.length ≤ 10) : ∀ (fu : Nat) (c : FareCond), FareCondnode fu c = some 0 → cN c ≤ 1048576 → Fishref2HoldsOf fu c t = FareCondholds fu c t ∧ Tot (FareCondholds fu c t)
  | 0, c, h, _ => by simp [FareCondnode] at h
  | fu + 1, c, h, hn => by
    obtain ⟨h9, hk⟩ := node_zero h
    rw [cN_eq] at hn
    have hlen := len_cNs c.Kids
    have hall : ∀ x ∈ c.Kids, HB fu t x := by
      intro x hx
      have := cN_mem hx
      obtain ⟨e1, z, e2⟩ := holds_ref t hz hz2 fu x (hk x hx) (by omega)
      have e3 : hb fu t x = z := by unfold hb; rw [e2]; rfl
      exact ⟨by rw [e3, e2], by rw [e1, e2, e3]⟩
    have g0 : gx t.Zones 0 = some t.Zones[0] := gx_at hz
    have g1 : gx t.Zones (w64 ((t.Zones.length : Int) - 1)) = some t.Zones[t.Zones.length - 1] := gx_prev hz (by omega) (by omega)
    have k9 : c.Kind = 9 → ∃ x, gx c.Kids 0 = some x ∧ HB fu t x := by
      intro e
      have := h9 e
      have hl : 0 < c.Kids.length := by omega
      exact ⟨c.Kids[0], gx_at hl, hall _ (List.getElem_mem _)⟩
    obtain ⟨n, c1, c2, c3⟩ := cnt1 fu t c.Kids 0 hall (by omega)
    have c1' : Fishref2HoldsOf.loop1 t (Fishref2HoldsOf fu) c.Kids 0 = some ((n : Nat) : Int) := by have := c1; simpa using this
    have a2 := any2 fu t c.Kids hall
    have hAnd : SlicesContainsFuncLfareCond_v1 (FareCondholds fu) c.Kids t = some (!(c.Kids.all (hb fu t))) := by
      unfold SlicesContainsFuncLfareCond_v1 SlicesIndexFuncLfareCond_v1
      rcases idx1 fu t c.Kids 0 hall with ⟨e1, e2⟩ | ⟨j, e1, e2⟩
      · rw [e1, e2]; rfl
      · rw [e1, e2]; simp
    have hOr : SlicesContainsFuncLfareCond_v2 (FareCondholds fu) c.Kids t = some (c.Kids.any (hb fu t)) := by
      unfold SlicesContainsFuncLfareCond_v2 SlicesIndexFuncLfareCond_v2
      rcases idx2 fu t c.Kids 0 hall with ⟨e1, e2⟩ | ⟨j, e1, e2⟩
      · rw [e1, e2]; rfl
      · rw [e1, e2]; simp
    have hN : (((n : Nat) : Int) == ((c.Kids.length : Nat) : Int)) = c.Kids.all (hb fu t) := by
      by_cases e : n = c.Kids.length
      · rw [c3.1 e, e]; simp
      · have : c.Kids.all (hb fu t) = false := by
          cases ha : c.Kids.all (hb fu t)
          · rfl
          · exact absurd (c3.2 ha) e
        rw [this]; simp; omega
    rw [Fishref2HoldsOf, FareCondholds, g0, g1, c1', a2, hAnd, hOr]
    simp only [Option.bind_some, hN, Bool.not_not, within_ref]
    constructor
    · refine ite_same fun _ => ite_both (fun _ => rfl) fun _ => ite_both (fun _ => rfl) fun _ => ite_both (fun _ => rfl) fun _ => ite_both (fun _ => rfl) fun _ => ite_same fun _ => ite_same fun _ => ite_same fun _ => ite_both (fun e => ?_) fun _ => ite_same fun _ => ite_both (fun _ => ?_) fun _ => rfl
      · obtain ⟨x, e1, e2⟩ := k9 (by simpa using e)
        rw [e1, Option.bind_some, Option.bind_some, e2.1, e2.2]
      · cases c.Kids.any (hb fu t) <;> rfl
    · refine .ite (fun _ => .some _) fun _ => .ite (fun _ => .some _) fun _ => .ite (fun _ => .some _) fun _ => .ite (fun _ => .some _) fun _ => .ite (fun _ => .some _) fun _ => .ite (fun _ => .some _) fun _ => .ite (fun _ => .some _) fun _ => .ite (fun _ => .some _) fun _ => .ite (fun e => ?_) fun _ => .ite (fun _ => .some _) fun _ => .ite (fun _ => .some _) fun _ => .some _
      obtain ⟨x, e1, e2⟩ := k9 (by simpa using e)
      rw [e1, Option.bind_some, e2.1]; exact .some _
theorem check_node {fu : Nat} {c : FareCond} (h : FareCondcheck fu c = some 0) : FareCondnode fu c = some 0 := by
  unfold FareCondcheck at h
  cases h1 : FareCondsize fu c with
  | none => rw [h1] at h; simp at h
  | some z =>
    rw [h1] at h
    simp only [Option.bind_some, bnd_eq] at h
    obtain ⟨_, h⟩ := ite_zero h (by omega)
    cases h2 : FareCondnode fu c with
    | none => rw [h2] at h; simp at h
    | some z => rw [h2] at h; exact h
theorem trip_zero {t : FareTrip} (h : FareCheckTrip t = some 0) : 0 < t.Zones.length ∧ t.Zones.length ≤ 10 := by
  unfold FareCheckTrip at h
  simp only [bnd_eq] at h
  obtain ⟨_, h⟩ := ite_zero h (by omega)
  obtain ⟨h1, _⟩ := ite_zero h (by omega)
  rw [within_iff] at h1
  simp at h1; omega
theorem bands_zero (t : FareTariff) : ∀ (r : List FareBand) (k : Nat), (∀ v, FareCheckTariff.loop1 t r k = some (.ret v) → v ≠ 0) ∧ (FareCheckTariff.loop1 t r k = some (.next ()) → ∀ b ∈ r, 1 ≤ b.Upto ∧ b.Upto ≤ 1000 ∧ 0 ≤ b.Price ∧ b.Price ≤ 100000)
  | [], _ => ⟨by intro v h; simp [FareCheckTariff.loop1] at h, by simp⟩
  | x :: r, k => by
    obtain ⟨i1, i2⟩ := bands_zero t r (k + 1)
    simp only [FareCheckTariff.loop1, bnd_eq, within_iff]
    by_cases h : 1 ≤ x.Upto ∧ x.Upto ≤ 1000
    · by_cases h' : 0 ≤ x.Price ∧ x.Price ≤ 100000
      · simp only [h, h', and_self, decide_true, Bool.not_true, Bool.false_eq_true, if_false]
        generalize (if decide (((k : Nat) : Int) > 0) = true then (gx t.Bands (w64 (((k : Nat) : Int) - 1))).bind fun x92 => if decide (x.Upto ≤ x92.Upto) = true then some true else (gx t.Bands (w64 (((k : Nat) : Int) - 1))).bind fun x102 => some (decide (x.Price < x102.Price)) else some false) = q
        rcases q with _ | q
        · exact ⟨by intro v h; simp at h, by intro h; simp at h⟩
        · cases q
          · simp only [Option.bind_some, Bool.false_eq_true, if_false]
            refine ⟨i1, fun e b hb => ?_⟩
            rcases List.mem_cons.1 hb with rfl | hb
            · exact ⟨h.1, h.2, h'.1, h'.2⟩
            · exact i2 e b hb
          · refine ⟨by intro v h; simp at h; omega, by intro h; simp at h⟩
      · refine ⟨by intro v h; simp [h'] at h; omega, by intro h; simp [h'] at h⟩
    · refine ⟨by intro v h2; simp [h] at h2; omega, by intro h2; simp [h] at h2⟩
theorem rules_zero (fu : Nat) : ∀ (r : List FareRule), (∀ v, FareCheckTariff.loop2 fu r = some (.ret v) → v ≠ 0) ∧ (FareCheckTariff.loop2 fu r = some (.next ()) → ∀ x ∈ r, FareCondcheck fu x.If = some 0 ∧ 1 ≤ x.Do ∧ x.Do ≤ 6 ∧ 0 ≤ x.N ∧ x.N ≤ 100000 ∧ (x.Do = 1 → x.N ≤ 200))
  | [] => ⟨by intro v h; simp [FareCheckTariff.loop2] at h, by simp⟩
  | x :: r => by
    obtain ⟨i1, i2⟩ := rules_zero fu r
    simp only [FareCheckTariff.loop2, bnd_eq, within_iff]
    cases hc : FareCondcheck fu x.If with
    | none => exact ⟨by intro v h; simp at h, by intro h; simp at h⟩
    | some z =>
      simp only [Option.bind_some]
      by_cases hz : z = 0
      · subst hz
        simp only [bne_self_eq_false, Bool.false_eq_true, if_false]
        by_cases hd : 1 ≤ x.Do ∧ x.Do ≤ 6
        · simp only [hd, and_self, decide_true, Bool.not_true, Bool.false_eq_true, if_false]
          by_cases hn : 0 ≤ x.N ∧ x.N ≤ (if (x.Do == 1) = true then (200 : Int) else 100000)
          · simp only [hn, and_self, decide_true, Bool.not_true, Bool.false_eq_true, if_false]
            refine ⟨i1, fun e b hb => ?_⟩
            rcases List.mem_cons.1 hb with rfl | hb
            · refine ⟨hc, hd.1, hd.2, hn.1, ?_, ?_⟩
              · have := hn.2; split at this <;> omega
              · intro h; have := hn.2; rw [if_pos (by simpa using h)] at this; exact this
            · exact i2 e b hb
          · refine ⟨by intro v h; simp only [hn, decide_false, Bool.not_false, if_true] at h; simp at h; omega, by intro h; simp only [hn, decide_false, Bool.not_false, if_true] at h; simp at h⟩
        · refine ⟨by intro v h; simp only [hd, decide_false, Bool.not_false, if_true] at h; simp at h; omega, by intro h; simp only [hd, decide_false, Bool.not_false, if_true] at h; simp at h⟩
      · have e : (z != 0) = true := by simpa using hz
        simp only [e, if_true]
        refine ⟨by intro v h; simp at h; omega, by intro h; simp at h⟩
theorem tariff_zero {fu : Nat} {t : FareTariff} (h : FareCheckTariff fu t = some 0) : 0 < t.Bands.length ∧ t.Bands.length ≤ 8 ∧ t.Rules.length ≤ 20 ∧ 1 ≤ t.Round ∧ t.Round ≤ 100 ∧ (∀ b ∈ t.Bands, 1 ≤ b.Upto ∧ b.Upto ≤ 1000 ∧ 0 ≤ b.Price ∧ b.Price ≤ 100000) ∧
    ∀ x ∈ t.Rules, FareCondcheck fu x.If = some 0 ∧ 1 ≤ x.Do ∧ x.Do ≤ 6 ∧ 0 ≤ x.N ∧ x.N ≤ 100000 ∧ (x.Do = 1 → x.N ≤ 200) := by
  unfold FareCheckTariff at h
  simp only [bnd_eq] at h
  obtain ⟨h1, h⟩ := ite_zero h (by omega)
  have hb : 1 ≤ ((t.Bands.length : Nat) : Int) ∧ ((t.Bands.length : Nat) : Int) ≤ 8 ∧ ¬ ((t.Rules.length : Nat) : Int) > 20 := by
    rw [within_iff] at h1
    by_cases e : 1 ≤ ((t.Bands.length : Nat) : Int) ∧ ((t.Bands.length : Nat) : Int) ≤ 8
    · refine ⟨e.1, e.2, ?_⟩
      simp only [e, and_self, decide_true, Bool.not_true, Bool.false_eq_true, if_false] at h1
      simpa using h1
    · simp [e] at h1
  obtain ⟨b1, b2⟩ := bands_zero t t.Bands 0
  cases hz : FareCheckTariff.loop1 t t.Bands 0 with
  | none => rw [hz] at h; simp at h
  | some z =>
    rw [hz] at h
    cases z with
    | ret r => exact absurd (by simpa using h) (b1 r hz)
    | next u =>
      simp only [Option.bind_some] at h
      obtain ⟨h2, h⟩ := ite_zero h (by omega)
      rw [within_iff] at h2
      have h2' : 1 ≤ t.Round ∧ t.Round ≤ 100 := by simpa using h2
      obtain ⟨r1, r2⟩ := rules_zero fu t.Rules
      cases hy : FareCheckTariff.loop2 fu t.Rules with
      | none => rw [hy] at h; simp at h
      | some y =>
        rw [hy] at h
        cases y with
        | ret r => exact absurd (by simpa using h) (r1 r hy)
        | next u => exact ⟨by omega, by omega, by omega, h2'.1, h2'.2, b2 hz, r2 hy⟩
/-- the first band that reaches so far, else the last one -/
def bandOf (n : Int) (p : Int) : List FareBand → Int
  | [] => p
  | b :: r => if n ≤ b.Upto then b.Price else bandOf n p r
theorem band_index (n : Int) : ∀ (l : List FareBand) (k : Nat), (SlicesIndexFuncLfareBand_v1.loop1 n l k = .next () ∧ ∀ p, bandOf n p l = p) ∨ ∃ j : Nat, SlicesIndexFuncLfareBand_v1.loop1 n l k = .ret (((k + j : Nat) : Nat) : Int) ∧ ∃ b, l[j]? = some b ∧ ∀ p, bandOf n p l = b.Price
  | [], k => .inl ⟨rfl, fun _ => rfl⟩
  | b :: l, k => by
    simp only [SlicesIndexFuncLfareBand_v1.loop1, FareTariffprice_1_v1]
    by_cases h : n ≤ b.Upto
    · refine .inr ⟨0, by simp [h], b, rfl, fun p => by simp [bandOf, h]⟩
    · have h' : ¬ b.Upto ≥ n := h
      simp only [h', decide_false, Bool.false_eq_true, if_false]
      rcases band_index n l (k + 1) with ⟨e1, e2⟩ | ⟨j, e1, b', e2, e3⟩
      · exact .inl ⟨e1, fun p => by simp [bandOf, h, e2]⟩
      · refine .inr ⟨j + 1, ?_, b', by simpa using e2, fun p => by simp [bandOf, h, e3]⟩
        rw [e1]; congr 2; omega
theorem band_down (t : FareTariff) (n : Int) (p : Int) (hl : t.Bands.length ≤ 8) : ∀ (j : Nat) (fu : Nat), j ≤ t.Bands.length → j < fu → ∃ i, Fishref2PriceOf.loop1 t n fu (bandOf n p (t.Bands.drop j)) ((j : Int) - 1) = some (bandOf n p t.Bands, i)
  | 0, fu + 1, _, _ => ⟨-1, by simp [Fishref2PriceOf.loop1]⟩
  | 0, 0, _, h => absurd h (by omega)
  | _ + 1, 0, _, h => absurd h (by omega)
  | j + 1, fu + 1, hj, hf => by
    have e : (((j + 1 : Nat) : Int) - 1) = (j : Int) := by omega
    have g : gx t.Bands (j : Int) = some (t.Bands[j]'(by omega)) := gx_at (by omega)
    rw [e, Fishref2PriceOf.loop1, g]
    have hn : ((j : Int) ≥ 0) := by omega
    simp only [hn, decide_true, if_true, Option.bind_some]
    rw [w64_id (by omega)]
    have hd : t.Bands.drop j = t.Bands[j]'(by omega) :: t.Bands.drop (j + 1) := List.drop_eq_getElem_cons (by omega)
    obtain ⟨i, hi⟩ := band_down t n p hl j fu (by omega) (by omega)
    rw [hd, bandOf] at hi
    by_cases h : n ≤ (t.Bands[j]'(by omega)).Upto
    · rw [if_pos h] at hi
      simp only [h, decide_true, if_true, Option.bind_some]
      exact ⟨i, hi⟩
    · rw [if_neg h] at hi
      simp only [h, decide_false, Bool.false_eq_true, if_false, Option.bind_some]
      exact ⟨i, hi⟩
theorem mn_comm (a b : Int) : mn a b = mn b a := by unfold mn; omega
theorem mx_comm (a b : Int) : mx a b = mx b a := by unfold mx; omega
theorem change_in (x : FareRule) (p : Int) (hp : 0 ≤ p ∧ p ≤ 100000) (h1 : 1 ≤ x.Do) (h2 : x.Do ≤ 6) (h3 : 0 ≤ x.N) (h4 : x.N ≤ 100000) (h5 : x.Do = 1 → x.N ≤ 200) : 0 ≤ FareRulechange x p ∧ FareRulechange x p ≤ 100000 := by
  unfold FareRulechange
  by_cases e1 : x.Do = 1
  · have hm : 0 ≤ p * x.N ∧ p * x.N ≤ 100000 * 200 := ⟨Int.mul_nonneg hp.1 h3, Int.mul_le_mul hp.2 (h5 e1) h3 (by omega)⟩
    rw [if_pos (by simpa using e1), w64_id (x := p * x.N) (by omega)]
    have hd : 0 ≤ Int.tdiv (p * x.N) 100 ∧ Int.tdiv (p * x.N) 100 ≤ 100000 * 200 := by
      rw [Int.tdiv_eq_ediv_of_nonneg hm.1]; omega
    rw [w64_id (by omega)]
    unfold mn; omega
  · rw [if_neg (by simpa using e1)]
    by_cases e2 : x.Do = 2
    · rw [if_pos (by simpa using e2), w64_id (by omega)]; unfold mx; omega
    · rw [if_neg (by simpa using e2)]
      by_cases e3 : x.Do = 3
      · rw [if_pos (by simpa using e3), w64_id (by omega)]; unfold mn; omega
      · rw [if_neg (by simpa using e3)]
        by_cases e4 : x.Do = 4
        · rw [if_pos (by simpa using e4)]; omega
        · rw [if_neg (by simpa using e4)]
          by_cases e5 : x.Do = 5
          · rw [if_pos (by simpa using e5)]; unfold mn; omega
          · rw [if_neg (by simpa using e5)]; unfold mx; omega
theorem rules_ref {fu : Nat} (t : FareTrip) (hz : 0 < t.Zones.length) (hz2 : t.Zones.length ≤ 10) : ∀ (r : List FareRule) (k : Nat) (p : Int) (l : List Int), (∀ x ∈ r, FareCondcheck fu x.If = some 0 ∧ 1 ≤ x.Do ∧ x.Do ≤ 6 ∧ 0 ≤ x.N ∧ x.N ≤ 100000 ∧ (x.Do = 1 → x.N ≤ 200)) → (∀ x ∈ r, szFareCond x.If ≤ 1048576) → 0 ≤ p ∧ p ≤ 100000 → l.length + r.length ≤ 1000 →
    ∃ q m, FareTariffprice.loop1 t fu r k p l = some (q, m) ∧ Fishref2PriceOf.loop2 t fu r k p l = some (q, m) ∧ 0 ≤ q ∧ q ≤ 100000
  | [], k, p, l, _, _, hp, _ => ⟨p, l, rfl, rfl, hp⟩
  | x :: r, k, p, l, h, hs, hp, hl => by
    obtain ⟨c0, c1, c2, c3, c4, c5⟩ := h x (by simp)
    have hn := cN_sz x.If
    have hsx := hs x (by simp)
    obtain ⟨e1, z, e2⟩ := holds_ref t hz hz2 fu x.If (check_node c0) (by omega)
    simp only [List.length_cons] at hl
    simp only [FareTariffprice.loop1, Fishref2PriceOf.loop2, e1, e2, Option.bind_some]
    cases z
    · simp only [Bool.not_false, if_true]
      exact rules_ref t hz hz2 r (k + 1) p l (fun y hy => h y (by simp [hy])) (fun y hy => hs y (by simp [hy])) hp (by omega)
    · have ha : ∀ v, apd l [v] = some (l ++ [v]) := fun v => apd_lt (by simp; omega)
      simp only [Bool.not_true, Bool.false_eq_true, if_false, ha, Option.bind_some, bnd_eq]
      have hch := change_in x p hp c1 c2 c3 c4 c5
      have e : (if (x.Do == 1) = true then mn (w64 (Int.tdiv (w64 (p * x.N)) 100)) 100000 else if (x.Do == 2) = true then mx (w64 (p - x.N)) 0 else if (x.Do == 3) = true then mn (w64 (p + x.N)) 100000 else if (x.Do == 4) = true then x.N else if (x.Do == 5) = true then mn p x.N else if (x.Do == 6) = true then mx p x.N else p) = FareRulechange x p := by
        unfold FareRulechange
        refine ite_both (fun _ => mn_comm _ _) fun d1 => ite_both (fun _ => mx_comm _ _) fun d2 => ite_both (fun _ => mn_comm _ _) fun d3 => ite_both (fun _ => rfl) fun d4 => ite_both (fun _ => rfl) fun d5 => ?_
        have d6 : x.Do = 6 := by
          have d1 : ¬ x.Do = 1 := by simpa using d1
          have d2 : ¬ x.Do = 2 := by simpa using d2
          have d3 : ¬ x.Do = 3 := by simpa using d3
          have d4 : ¬ x.Do = 4 := by simpa using d4
          have d5 : ¬ x.Do = 5 := by simpa using d5
          omega
        rw [if_pos (by simpa using d6)]
      simp only [e]
      cases x.Stop
      · simp only [Bool.false_eq_true, if_false]
        exact rules_ref t hz hz2 r (k + 1) _ _ (fun y hy => h y (by simp [hy])) (fun y hy => hs y (by simp [hy])) hch (by simp; omega)
      · exact ⟨_, _, rfl, rfl, hch⟩
theorem round_up (t : FareTariff) (hr : 1 ≤ t.Round ∧ t.Round ≤ 100) : ∀ (fu : Nat) (p m : Int), 0 ≤ p → m ≤ 1000000 → p ≤ m → m < p + fu → m % t.Round = 0 → m < p + t.Round → Fishref2PriceOf.loop3 t fu p = some m
  | 0, _, _, _, _, _, _, _, _ => by omega
  | fu + 1, p, m, h0, h1, h2, h3, h4, h5 => by
    have hrm : rm p t.Round = some (p % t.Round) := by unfold rm; rw [if_neg (by omega), Int.tmod_eq_emod_of_nonneg h0]
    rw [Fishref2PriceOf.loop3, hrm, Option.bind_some]
    by_cases h : p % t.Round = 0
    · have e : (p % t.Round != 0) = false := by simp [h]
      rw [e, if_neg (by simp)]
      have a1 := Int.emod_add_mul_ediv p t.Round
      have a2 := Int.emod_add_mul_ediv m t.Round
      rw [h] at a1; rw [h4] at a2
      by_cases hq : m / t.Round = p / t.Round
      · rw [hq] at a2; congr 1; omega
      · have hlt : p / t.Round + 1 ≤ m / t.Round := by
          have := Int.ediv_le_ediv (show 0 < t.Round by omega) h2; omega
        have := Int.mul_le_mul_of_nonneg_left hlt (show 0 ≤ t.Round by omega)
        rw [Int.mul_add] at this
        omega
    · have e : (p % t.Round != 0) = true := by simpa using h
      rw [e, if_pos rfl, w64_id (by omega)]
      have hne : p ≠ m := by intro hh; subst hh; exact h h4
      exact round_up t hr fu (p + 1) m (by omega) h1 (by omega) (by omega) h4 (by omega)
theorem price_ref {fu : Nat} (hf : 1048576 ≤ fu) (t : FareTariff) (r : FareTrip) (h1 : FareCheckTariff fu t = some 0) (h2 : FareCheckTrip r = some 0) (hz : szFareTariff t ≤ 1048576) : ∃ p l, FareTariffprice fu t r = some (p, l) ∧ Fishref2PriceOf fu t r = some (p, l) := by
  obtain ⟨b1, b2, b3, r1, r2, b4, r3⟩ := tariff_zero h1
  have z := trip_zero h2
  unfold FareTariffprice Fishref2PriceOf
  simp only [bnd_eq]
  generalize (if t.ByKm = true then r.Km else ((r.Zones.length : Nat) : Int)) = n
  have hlast : gx t.Bands (w64 (((t.Bands.length : Nat) : Int) - 1)) = some (t.Bands[t.Bands.length - 1]'(by omega)) := gx_prev b1 (by omega) (by omega)
  have hw : w64 (((t.Bands.length : Nat) : Int) - 1) = ((t.Bands.length : Nat) : Int) - 1 := w64_id (by omega)
  generalize hP : (t.Bands[t.Bands.length - 1]'(by omega)) = B at hlast
  obtain ⟨i, hi⟩ := band_down t n B.Price b2 t.Bands.length fu (by omega) (by omega)
  rw [List.drop_length, show bandOf n B.Price [] = B.Price from rfl] at hi
  have hprog : ∃ b, (gx t.Bands (if decide (SlicesIndexFuncLfareBand_v1 t.Bands n < 0) = true then w64 (((t.Bands.length : Nat) : Int) - 1) else SlicesIndexFuncLfareBand_v1 t.Bands n)) = some b ∧ b.Price = bandOf n B.Price t.Bands ∧ b ∈ t.Bands := by
    unfold SlicesIndexFuncLfareBand_v1
    rcases band_index n t.Bands 0 with ⟨e1, e2⟩ | ⟨j, e1, b, e2, e3⟩
    · refine ⟨B, ?_, (e2 _).symm, by rw [← hP]; exact List.getElem_mem _⟩
      simp only [e1, bnd_eq]
      exact hlast
    · refine ⟨b, ?_, (e3 _).symm, List.mem_of_getElem? e2⟩
      have hn : ¬ (((0 + j : Nat) : Int) < 0) := by omega
      simp only [e1, bnd_eq, hn, decide_false, Bool.false_eq_true, if_false]
      rw [gx_nat, Nat.zero_add]; exact e2
  obtain ⟨b, p1, p2, p3⟩ := hprog
  obtain ⟨q1, q2, q3, q4⟩ := b4 b p3
  obtain ⟨p, l, s1, s2, s3, s4⟩ := rules_ref r z.1 z.2 t.Rules 0 b.Price [] r3 (rules_sz hz) ⟨q3, q4⟩ (by simp; omega)
  simp only [p1, hlast, Option.bind_some, s1]
  rw [hw, hi]
  simp only [Option.bind_some]
  rw [← p2, s2]
  simp only [Option.bind_some]
  have hw1 : w64 (p + t.Round) = p + t.Round := w64_id (by omega)
  have hw2 : w64 (p + t.Round - 1) = p + t.Round - 1 := w64_id (by omega)
  have hdv : dv (p + t.Round - 1) t.Round = some ((p + t.Round - 1) / t.Round) := by
    unfold dv
    rw [if_neg (by omega), Int.tdiv_eq_ediv_of_nonneg (by omega)]
    have h0 : 0 ≤ (p + t.Round - 1) / t.Round := Int.ediv_nonneg (by omega) (by omega)
    have h9 : (p + t.Round - 1) / t.Round ≤ p + t.Round - 1 := Int.ediv_le_self _ (by omega)
    congr 1
    exact IntWalk.i64_in _ ⟨by omega, by omega⟩
  rw [hw1, hw2, hdv]
  simp only [Option.bind_some]
  generalize hQ : (p + t.Round - 1) / t.Round = Q
  have a1 := Int.emod_add_mul_ediv (p + t.Round - 1) t.Round
  have a2 := Int.emod_nonneg (p + t.Round - 1) (show t.Round ≠ 0 by omega)
  have a3 := Int.emod_lt_of_pos (p + t.Round - 1) (show 0 < t.Round by omega)
  rw [hQ] at a1
  have hc : Q * t.Round = t.Round * Q := Int.mul_comm _ _
  have hw3 : w64 (Q * t.Round) = Q * t.Round := w64_id (by omega)
  rw [hw3]
  have := round_up t ⟨r1, r2⟩ fu p (Q * t.Round) s3 (by omega) (by omega) (by omega) (Int.mul_emod_left _ _) (by omega)
  rw [this]
  exact ⟨_, _, rfl, rfl⟩
/-! single bits -/
theorem bit_and1 {x : Int} (h0 : 0 ≤ x) (h1 : x < 9223372036854775808) : IntKind.wrap .i64 ((BitVec.ofInt (IntKind.bits .i64) x &&& BitVec.ofInt (IntKind.bits .i64) 1).toNat : Int) = x % 2 := by
  have e : (BitVec.ofInt (IntKind.bits .i64) x &&& BitVec.ofInt (IntKind.bits .i64) 1).toNat = x.toNat % 2 := by
    show (BitVec.ofInt 64 x &&& BitVec.ofInt 64 1).toNat = x.toNat % 2
    rw [BitVec.toNat_and]
    have h2 : (BitVec.ofInt 64 1).toNat = 1 := by decide
    have h3 : (BitVec.ofInt 64 x).toNat = x.toNat := by
      rw [BitVec.toNat_ofInt]
      have : x % ((2 ^ 64 : Nat) : Int) = x := Int.emod_eq_of_lt h0 (by omega)
      rw [this]
    rw [h2, h3, Nat.and_one_is_mod]
  rw [e]
  have : ((x.toNat % 2 : Nat) : Int) = x % 2 := by omega
  rw [this]
  exact IntWalk.i64_in _ ⟨by omega, by omega⟩
theorem shr_nat {x : Int} (h0 : 0 ≤ x) {k : Nat} (hk : k ≤ 64) : Int.fdiv x (2 ^ (min (Int.toNat ((k : Nat) : Int)) (IntKind.bits .i64))) = x / 2 ^ k := by
  have e : min (Int.toNat ((k : Nat) : Int)) (IntKind.bits .i64) = k := by show min (Int.toNat ((k : Nat) : Int)) 64 = k; omega
  rw [e, Int.fdiv_eq_ediv_of_nonneg x (Int.le_of_lt (Int.pow_pos (by omega)))]
theorem shr_lt {x : Int} (h0 : 0 ≤ x) (h1 : x < 9223372036854775808) (k : Nat) : 0 ≤ x / 2 ^ k ∧ x / 2 ^ k < 9223372036854775808 := by
  have hp : (0 : Int) < 2 ^ k := Int.pow_pos (by omega)
  exact ⟨Int.ediv_nonneg h0 (Int.le_of_lt hp), Int.lt_of_le_of_lt (Int.ediv_le_self _ h0) h1⟩
theorem index_loop (x : Int) : ∀ (l : List Int) (k : Nat), (SlicesIndexLint.loop1 x l k = .next () ∧ x ∉ l) ∨ (∃ j : Nat, SlicesIndexLint.loop1 x l k = .ret (((k + j : Nat) : Nat) : Int) ∧ l[j]? = some x)
  | [], k => .inl ⟨rfl, by simp⟩
  | y :: r, k => by
    by_cases h : x = y
    · subst h; exact .inr ⟨0, by simp [SlicesIndexLint.loop1], rfl⟩
    · have hb : (x == y) = false := by simpa using h
      rcases index_loop x r (k + 1) with ⟨h1, h2⟩ | ⟨j, h1, h2⟩
      · exact .inl ⟨by simp [SlicesIndexLint.loop1, hb, h1], by simp [h, h2]⟩
      · refine .inr ⟨j + 1, ?_, by simpa using h2⟩
        simp only [SlicesIndexLint.loop1, hb, Bool.false_eq_true, if_false, h1]
        have e : k + 1 + j = k + (j + 1) := by omega
        rw [e]
theorem index_cases (l : List Int) (x : Int) : (SlicesIndexLint l x = -1 ∧ x ∉ l) ∨ (∃ j : Nat, SlicesIndexLint l x = (j : Int) ∧ l[j]? = some x) := by
  unfold SlicesIndexLint
  rcases index_loop x l 0 with ⟨h1, h2⟩ | ⟨j, h1, h2⟩
  · exact .inl ⟨by simp [h1, bnd_eq], h2⟩
  · exact .inr ⟨j, by simp [h1, bnd_eq], h2⟩
theorem contains_eq (l : List Int) (x : Int) : SlicesContainsLint l x = l.contains x := by
  unfold SlicesContainsLint
  rcases index_cases l x with ⟨h1, h2⟩ | ⟨j, h1, h2⟩
  · rw [h1]; simp [h2]
  · rw [h1]; have := List.mem_of_getElem? h2; simp [this]
theorem fares_true (n : Nat) : Fishlaw2fares (n + 60) = some true := by kernel_rfl
theorem szL_one {α : Type} : ∀ l : List α, szL sz1 l = l.length + 1
  | [] => rfl
  | x :: l => by
    have := szL_one l
    unfold szL sz1 at *
    simp only [List.map_cons, List.sum_cons, List.length_cons]; omega

/-! the errors -/
theorem trips_ref {fu : Nat} (hf : 1048576 ≤ fu) (t : FareTariff) (ht : FareCheckTariff fu t = some 0) (hz : szFareTariff t ≤ 1048576) : ∀ (r : List FareTrip) (acc : List Int), (∀ x ∈ r, x.Zones.length ≤ 1048576) → acc.length + r.length ≤ 1000 →
    (∃ z, z ≠ 0 ∧ FareCheapest.loop1 t fu r acc = some (.ret (0, [], z)) ∧ Fishref2CheapestFault.loop1 r = some (.ret z)) ∨
    (∃ ps : List Int, FareCheapest.loop1 t fu r acc = some (.next (acc ++ ps)) ∧ Fishref2CheapestFault.loop1 r = some (.next ()) ∧ ps.length = r.length ∧ ∀ (i : Nat) (x : FareTrip), r[i]? = some x → ∃ u, ps[i]?.map (fun p => (p, u)) = Fishref2PriceOf fu t x ∧ (Fishref2PriceOf fu t x).isSome)
  | [], acc, _, _ => .inr ⟨[], by simp [FareCheapest.loop1], rfl, rfl, by intro i x h; simp at h⟩
  | x :: r, acc, hl, hb => by
    simp only [List.length_cons] at hb
    have hx := hl x (by simp)
    obtain ⟨e3, z, e4⟩ := trip_ref x (by omega)
    simp only [FareCheapest.loop1, Fishref2CheapestFault.loop1, e3, e4, Option.bind_some]
    by_cases h : z = 0
    · subst h
      obtain ⟨p, l, p1, p2⟩ := price_ref hf t x ht e4 hz
      have ha : apd acc [p] = some (acc ++ [p]) := apd_lt (by simp; omega)
      simp only [bne_self_eq_false, Bool.false_eq_true, if_false, p1, ha, Option.bind_some]
      rcases trips_ref hf t ht hz r (acc ++ [p]) (fun y hy => hl y (by simp [hy])) (by simp; omega) with ⟨z, z1, z2, z3⟩ | ⟨ps, q1, q2, q3, q4⟩
      · exact .inl ⟨z, z1, z2, z3⟩
      · refine .inr ⟨p :: ps, by rw [q1]; simp, q2, by simp [q3], ?_⟩
        intro i y hi
        cases i with
        | zero => simp at hi; subst hi; exact ⟨l, by rw [p2]; rfl, by rw [p2]; rfl⟩
        | succ i => simpa using q4 i y (by simpa using hi)
    · have e : (z != 0) = true := by simpa using h
      simp only [e, if_true]
      exact .inl ⟨z, h, rfl, rfl⟩
theorem zones_ret (l : List Int) (b : Bool) : ∀ (r : List Int) (k : Nat) (v : Int), FarecheckZones.loop1 l b r k = some (.ret v) → v ≠ 0
  | [], k, v, h => by simp [FarecheckZones.loop1] at h
  | x :: r, k, v, h => by
    rw [FarecheckZones.loop1] at h
    split at h
    · simp at h; omega
    · rw [Option.bind_eq_some_iff] at h
      obtain ⟨q, _, h2⟩ := h
      split at h2
      · simp at h2; omega
      · exact zones_ret l b r (k + 1) v h2
theorem zones_up (p : FarePass) : ∀ (r : List Int) (k : Nat), Fishref2CheapestFault.loop3 p r k = FarecheckZones.loop1 p.Zones true r k
  | [], _ => rfl
  | x :: r, k => by
    simp only [Fishref2CheapestFault.loop3, FarecheckZones.loop1, within_ref, zones_up p r]
    congr 1
    congr 1
    congr 1
    cases h : gx p.Zones (w64 (((k : Nat) : Int) - 1)) with
    | none => rfl
    | some y =>
      simp only [Option.bind_some, if_true]
      by_cases h1 : x = y
      · subst h1; simp
      · have e : (x == y) = false := by simpa using h1
        simp only [e, Bool.false_eq_true, if_false]
        have : (x ≤ y) ↔ (x < y) := by omega
        simp [this]
def PassOk (p : FarePass) : Prop := 1 ≤ p.Days ∧ p.Days ≤ 7
theorem passes_ref : ∀ r : List FarePass, (∀ x ∈ r, x.Zones.length ≤ 1048576) →
    (∃ z, z ≠ 0 ∧ FareCheapest.loop2 r = some (.ret (0, [], z)) ∧ Fishref2CheapestFault.loop2 r = some (.ret z)) ∨ (FareCheapest.loop2 r = some (.next ()) ∧ Fishref2CheapestFault.loop2 r = some (.next ()) ∧ ∀ p ∈ r, PassOk p)
  | [], _ => .inr ⟨rfl, rfl, by simp⟩
  | p :: r, hl => by
    simp only [FareCheapest.loop2, Fishref2CheapestFault.loop2, within_ref, within_iff, bnd_eq, zones_up]
    have ih := passes_ref r (fun y hy => hl y (by simp [hy]))
    have hp := hl p (by simp)
    by_cases h1 : 1 ≤ p.Days ∧ p.Days ≤ 7
    · by_cases h2 : 0 ≤ p.Price ∧ p.Price ≤ 100000
      · simp only [h1, h2, and_self, decide_true, Bool.not_true, Bool.false_eq_true, if_false]
        obtain ⟨z, hz⟩ := zones_tot p.Zones true (by omega) p.Zones 0 rfl
        unfold FarecheckZones
        rw [hz]
        cases z with
        | ret v =>
          have hv := zones_ret _ _ _ _ _ hz
          have e : (v != 0) = true := by simpa using hv
          simp only [Option.bind_some, e, if_true]
          exact .inl ⟨v, hv, rfl, rfl⟩
        | next u =>
          simp only [Option.bind_some, bne_self_eq_false, Bool.false_eq_true, if_false]
          rcases ih with h | ⟨a, b, c⟩
          · exact .inl h
          · refine .inr ⟨a, b, fun q hq => ?_⟩
            rcases List.mem_cons.1 hq with rfl | hq
            · exact h1
            · exact c q hq
      · exact .inl ⟨2, by omega, by simp [h1, h2], by simp [h1, h2]⟩
    · exact .inl ⟨2, by omega, by simp [h1], by simp [h1]⟩

/-! what a set buys -/
def BuyOk (n : Nat) (b : FareBuy) : Prop := 0 ≤ b.Day ∧ b.Day ≤ 7 ∧ 0 ≤ b.Pass ∧ b.Pass < n
theorem buys_eq (ps : List FarePass) (set : Int) : ∀ (n : Nat) (o : List FareBuy) (i : Int), Fishref2CheapestOf.loop4 ps set n o i = FareCheapest.loop6 ps set n o i
  | 0, _, _ => rfl
  | n + 1, o, i => by simp only [Fishref2CheapestOf.loop4, FareCheapest.loop6, buys_eq ps set n] <;> rfl
theorem buys_ok (ps : List FarePass) (hp : ps.length ≤ 2) (set : Int) (hs0 : 0 ≤ set) (hs1 : set < 9223372036854775808) : ∀ (n : Nat) (o : List FareBuy) (i : Nat), i ≤ 14 → 15 - i < n → o.length ≤ i → (∀ b ∈ o, BuyOk ps.length b) →
    ∃ o' j, FareCheapest.loop6 ps set n o (i : Int) = some (o', j) ∧ o'.length ≤ 14 ∧ ∀ b ∈ o', BuyOk ps.length b
  | 0, _, _, _, h, _, _ => absurd h (by omega)
  | n + 1, o, i, hi, hn, ho, hb => by
    rw [FareCheapest.loop6, w64_id (x := 7 * ((ps.length : Nat) : Int)) (by omega)]
    by_cases h : ((i : Nat) : Int) < 7 * ((ps.length : Nat) : Int)
    · have hnn : nn ((i : Nat) : Int) = some () := by unfold nn; rw [if_pos (by omega)]
      have hsh := shr_lt hs0 hs1 i
      have hw : w64 (((i : Nat) : Int) + 1) = ((i + 1 : Nat) : Int) := by rw [w64_id (by omega)]; omega
      have h14 : i < 14 := by omega
      rw [shr_nat hs0 (by omega), bit_and1 hsh.1 hsh.2]
      simp only [h, decide_true, if_true, hnn, Option.bind_some, hw]
      by_cases hbit : set / 2 ^ i % 2 = 1
      · have e : (set / 2 ^ i % 2 == 1) = true := by simpa using hbit
        have hq : 0 ≤ ((i : Nat) : Int) / (ps.length : Int) ∧ ((i : Nat) : Int) / (ps.length : Int) ≤ 7 := by
          refine ⟨Int.ediv_nonneg (by omega) (by omega), ?_⟩
          have : ((i : Nat) : Int) / (ps.length : Int) < 7 := Int.ediv_lt_of_lt_mul (by omega) h
          omega
        have hr : 0 ≤ ((i : Nat) : Int) % (ps.length : Int) ∧ ((i : Nat) : Int) % (ps.length : Int) < ps.length := ⟨Int.emod_nonneg _ (by omega), Int.emod_lt_of_pos _ (by omega)⟩
        have hdv : dv ((i : Nat) : Int) ((ps.length : Nat) : Int) = some (((i : Nat) : Int) / (ps.length : Int)) := by
          unfold dv
          rw [if_neg (by omega), Int.tdiv_eq_ediv_of_nonneg (by omega)]
          exact congrArg some (IntWalk.i64_in _ ⟨by omega, by omega⟩)
        have hrm : rm ((i : Nat) : Int) ((ps.length : Nat) : Int) = some (((i : Nat) : Int) % (ps.length : Int)) := by
          unfold rm
          rw [if_neg (by omega), Int.tmod_eq_emod_of_nonneg (by omega)]
        have ha : apd o [FareBuy.mk (((i : Nat) : Int) / (ps.length : Int)) (((i : Nat) : Int) % (ps.length : Int))] = some (o ++ [FareBuy.mk (((i : Nat) : Int) / (ps.length : Int)) (((i : Nat) : Int) % (ps.length : Int))]) := apd_lt (by simp; omega)
        simp only [e, if_true, hdv, hrm, ha, Option.bind_some]
        refine buys_ok ps hp set hs0 hs1 n _ (i + 1) (by omega) (by omega) (by simp; omega) ?_
        intro b hb'
        rcases List.mem_append.1 hb' with hb' | hb'
        · exact hb b hb'
        · simp at hb'; subst hb'
          exact ⟨hq.1, hq.2, hr.1, hr.2⟩
      · have e : (set / 2 ^ i % 2 == 1) = false := by simpa using hbit
        simp only [e, Bool.false_eq_true, if_false, Option.bind_some]
        exact buys_ok ps hp set hs0 hs1 n o (i + 1) (by omega) (by omega) (by omega) hb
    · simp only [h, decide_false, Bool.false_eq_true, if_false]
      exact ⟨o, _, rfl, by omega, hb⟩
theorem gx_pass {ps : List FarePass} {b : FareBuy} (h : BuyOk ps.length b) : gx ps b.Pass = some (ps[b.Pass.toNat]'(by have := h.2.2; omega)) := gx_toNat h.2.2.1 (by have := h.2.2; omega)
theorem pay_eq (ps : List FarePass) (bs : List FareBuy) : ∀ (n k : Nat) (q : Int), k + n = bs.length → FareCheapest.loop7 ps bs n k q = Fishref2SumOf.loop1 ps (bs.drop k) q
  | 0, k, q, h => by
    have : bs.drop k = [] := List.drop_eq_nil_iff.2 (by omega)
    rw [this]; rfl
  | n + 1, k, q, h => by
    have hk : k < bs.length := by omega
    rw [List.drop_eq_getElem_cons hk, FareCheapest.loop7, Fishref2SumOf.loop1, gx_at hk, Option.bind_some]
    refine bind_same fun z _ => pay_eq ps bs n (k + 1) _ (by omega)
theorem pay_tot (ps : List FarePass) : ∀ (bs : List FareBuy) (q : Int), (∀ b ∈ bs, BuyOk ps.length b) → Tot (Fishref2SumOf.loop1 ps bs q)
  | [], _, _ => .some _
  | b :: bs, q, h => by
    rw [Fishref2SumOf.loop1]
    exact .bind1 (gx_pass (h b (by simp))) (pay_tot ps bs _ (fun x hx => h x (by simp [hx])))
theorem cover_eq (p : FarePass) (hp : PassOk p) (d : Int) (hd : 0 ≤ d ∧ d ≤ 7) (t : FareTrip) : Fishref2Covered p d t = FarePasscovers p d t := by
  have hw : w64 (d + p.Days) = d + p.Days := w64_id (by have := hp.1; have := hp.2; omega)
  have hw2 : w64 (d + p.Days - 1) = d + p.Days - 1 := w64_id (by have := hp.1; have := hp.2; omega)
  have hz : ∀ (l : List Int) (k : Nat), (SlicesIndexFuncLint_v1.loop1 p l k = .next () ∧ Fishref2Covered.loop1 p l = .next ()) ∨ ((∃ j : Nat, SlicesIndexFuncLint_v1.loop1 p l k = .ret (j : Int)) ∧ Fishref2Covered.loop1 p l = .ret false) := by
    intro l
    induction l with
    | nil => intro k; exact .inl ⟨rfl, rfl⟩
    | cons x l ih =>
      intro k
      simp only [SlicesIndexFuncLint_v1.loop1, Fishref2Covered.loop1, FarePasscovers_1_v1]
      rcases Bool.eq_false_or_eq_true (SlicesContainsLint p.Zones x) with e | e
      · simpa [e] using ih (k + 1)
      · exact .inr ⟨⟨k, by simp [e]⟩, by simp [e]⟩
  unfold Fishref2Covered FarePasscovers SlicesContainsFuncLint_v1 SlicesIndexFuncLint_v1
  simp only [hw, hw2, within_iff, bnd_eq]
  by_cases h1 : t.Day < d
  · have : ¬ (d ≤ t.Day) := by omega
    simp [h1, this]
  · by_cases h2 : t.Day ≥ d + p.Days
    · have h3 : ¬ (t.Day ≤ d + p.Days - 1) := by omega
      simp [h1, h2, h3]
    · have h3 : d ≤ t.Day := by omega
      have h4 : t.Day ≤ d + p.Days - 1 := by omega
      rcases hz t.Zones 0 with ⟨a, b⟩ | ⟨⟨j, a⟩, b⟩
      · simp [h1, h2, h3, h4, a, b]
      · simp [h1, h2, h3, h4, a, b]
theorem free_eq (ps : List FarePass) (hps : ∀ p ∈ ps, PassOk p) (t : FareTrip) (bs : List FareBuy) (hb : ∀ b ∈ bs, BuyOk ps.length b) : ∃ f, SlicesContainsFuncLfareBuy_v1 bs ps t = some f ∧ Fishref2SumOf.loop3 ps t bs false = some f := by
  have key : ∀ (l : List FareBuy) (k : Nat), (∀ b ∈ l, BuyOk ps.length b) → Fishref2SumOf.loop3 ps t l true = some true ∧ ((SlicesIndexFuncLfareBuy_v1.loop1 ps t l k = some (.next ()) ∧ Fishref2SumOf.loop3 ps t l false = some false) ∨ ((∃ j : Nat, SlicesIndexFuncLfareBuy_v1.loop1 ps t l k = some (.ret (j : Int))) ∧ Fishref2SumOf.loop3 ps t l false = some true)) := by
    intro l
    induction l with
    | nil => intro k _; exact ⟨rfl, .inl ⟨rfl, rfl⟩⟩
    | cons b l ih =>
      intro k h
      obtain ⟨i1, i2⟩ := ih (k + 1) (fun x hx => h x (by simp [hx]))
      have hb := h b (by simp)
      have hpo := hps _ (List.getElem_mem (l := ps) (n := b.Pass.toNat) (by have := hb.2.2; omega))
      refine ⟨by simp only [Fishref2SumOf.loop3, if_true, Option.bind_some]; exact i1, ?_⟩
      simp only [SlicesIndexFuncLfareBuy_v1.loop1, FareCheapest_1_v1, Fishref2SumOf.loop3, gx_pass hb, Option.bind_some, Bool.false_eq_true, if_false, cover_eq _ hpo b.Day ⟨hb.1, hb.2.1⟩ t]
      rcases Bool.eq_false_or_eq_true (FarePasscovers (ps[b.Pass.toNat]'(by have := hb.2.2; omega)) b.Day t) with e | e
      · exact .inr ⟨⟨k, by simp [e]⟩, by simp [e, i1]⟩
      · simpa [e] using i2
  obtain ⟨_, k2⟩ := key bs 0 hb
  unfold SlicesContainsFuncLfareBuy_v1 SlicesIndexFuncLfareBuy_v1
  rcases k2 with ⟨a, b⟩ | ⟨⟨j, a⟩, b⟩
  · exact ⟨false, by simp [a], b⟩
  · exact ⟨true, by simp [a], b⟩
theorem rest_eq (fu : Nat) (t : FareTariff) (ps : List FarePass) (hps : ∀ p ∈ ps, PassOk p) (bs : List FareBuy) (hb : ∀ b ∈ bs, BuyOk ps.length b) (l : List FareTrip) (pr : List Int) (hpr : ∀ (i : Nat) (x : FareTrip), l[i]? = some x → ∃ u, pr[i]?.map (fun p => (p, u)) = Fishref2PriceOf fu t x ∧ (Fishref2PriceOf fu t x).isSome) :
    ∀ (r : List FareTrip) (k : Nat) (q : Int), l.drop k = r → ∃ z, FareCheapest.loop8 ps pr bs r k q = some z ∧ Fishref2SumOf.loop2 t ps bs fu r q = some z
  | [], _, q, _ => ⟨q, rfl, rfl⟩
  | x :: r, k, q, hd => by
    obtain ⟨d1, d2, d3⟩ := drop_cons hd
    obtain ⟨f, f1, f2⟩ := free_eq ps hps x bs hb
    simp only [FareCheapest.loop8, Fishref2SumOf.loop2, f1, f2, Option.bind_some]
    cases f
    · obtain ⟨u, u1, u2⟩ := hpr k x d2
      cases hp : pr[k]? with
      | none => rw [hp] at u1; rw [← u1] at u2; simp at u2
      | some p =>
        rw [hp] at u1
        have g : gx pr ((k : Nat) : Int) = some p := by rw [gx_nat, hp]
        simp only [Bool.not_false, if_true, g, ← u1, Option.map_some, Option.bind_some]
        exact rest_eq fu t ps hps bs hb l pr hpr r (k + 1) _ d3
    · simp only [Bool.not_true, Bool.false_eq_true, if_false, Option.bind_some]
      exact rest_eq fu t ps hps bs hb l pr hpr r (k + 1) _ d3

/-! which is better -/
theorem one_cmp (n : Nat) (hn : n ≤ 2) (a b : FareBuy) (ha : BuyOk n a) (hb : BuyOk n b) : (FarecompareBuys a b = 0 ↔ Fishref2compareBuys a b = 0) ∧ (FarecompareBuys a b < 0 ↔ Fishref2compareBuys a b < 0) := by
  obtain ⟨a1, a2, a3, a4⟩ := ha
  obtain ⟨b1, b2, b3, b4⟩ := hb
  unfold FarecompareBuys Fishref2compareBuys CmpOrint CmpCompareint CmpisNaNint
  rw [w64_id (x := a.Day - b.Day) (by omega), w64_id (x := a.Pass - b.Pass) (by omega)]
  simp only [bne_self_eq_false, Bool.false_eq_true, if_false, CmpOrint.loop1, bnd_eq]
  rcases Int.lt_trichotomy a.Day b.Day with h | h | h
  · have h2 : ¬ a.Day = b.Day := by omega
    simp [h, h2]; omega
  · rw [h]
    rcases Int.lt_trichotomy a.Pass b.Pass with g | g | g
    · simp [g]; omega
    · simp [g]
    · have g2 : ¬ a.Pass < b.Pass := by omega
      simp [g, g2]; omega
  · have h2 : ¬ a.Day = b.Day := by omega
    have h3 : ¬ a.Day < b.Day := by omega
    simp [h, h2, h3]; omega
theorem list_cmp (n : Nat) (hn : n ≤ 2) (b : List FareBuy) (hbl : b.length ≤ 14) (hb : ∀ x ∈ b, BuyOk n x) : ∀ (a : List FareBuy) (k : Nat), (∀ x ∈ a, BuyOk n x) →
    (SlicesCompareFuncLfareBuy_v1.loop1 b a k = some (.next ()) ∧ SlicesCompareFuncLfareBuy_v2.loop1 b a k = some (.next ())) ∨ ∃ c d, SlicesCompareFuncLfareBuy_v1.loop1 b a k = some (.ret c) ∧ SlicesCompareFuncLfareBuy_v2.loop1 b a k = some (.ret d) ∧ (c < 0 ↔ d < 0)
  | [], _, _ => .inl ⟨rfl, rfl⟩
  | x :: a, k, h => by
    simp only [SlicesCompareFuncLfareBuy_v1.loop1, SlicesCompareFuncLfareBuy_v2.loop1]
    by_cases hk : ((k : Nat) : Int) ≥ ((b.length : Nat) : Int)
    · simp only [hk, decide_true, if_true]
      exact .inr ⟨1, 1, rfl, rfl, Iff.rfl⟩
    · have hkl : k < b.length := by omega
      obtain ⟨o1, o2⟩ := one_cmp n hn x b[k] (h x (by simp)) (hb _ (List.getElem_mem hkl))
      simp only [hk, decide_false, Bool.false_eq_true, if_false, gx_at hkl, Option.bind_some]
      by_cases hz : FarecompareBuys x b[k] = 0
      · have e1 : (FarecompareBuys x b[k] != 0) = false := by simp [hz]
        have e2 : (Fishref2compareBuys x b[k] != 0) = false := by simp [o1.1 hz]
        simp only [e1, e2, Bool.false_eq_true, if_false]
        exact list_cmp n hn b hbl hb a (k + 1) (fun y hy => h y (by simp [hy]))
      · have e1 : (FarecompareBuys x b[k] != 0) = true := by simpa using hz
        have e2 : (Fishref2compareBuys x b[k] != 0) = true := by simp; exact fun hh => hz (o1.2 hh)
        simp only [e1, e2, if_true]
        exact .inr ⟨_, _, rfl, rfl, o2⟩
theorem lists_cmp (n : Nat) (hn : n ≤ 2) (a b : List FareBuy) (hbl : b.length ≤ 14) (ha : ∀ x ∈ a, BuyOk n x) (hb : ∀ x ∈ b, BuyOk n x) : ∃ c d, SlicesCompareFuncLfareBuy_v1 a b = some c ∧ SlicesCompareFuncLfareBuy_v2 a b = some d ∧ (c < 0 ↔ d < 0) := by
  unfold SlicesCompareFuncLfareBuy_v1 SlicesCompareFuncLfareBuy_v2
  rcases list_cmp n hn b hbl hb a 0 ha with ⟨h1, h2⟩ | ⟨c, d, h1, h2, h3⟩
  · rw [h1, h2]
    by_cases h : ((a.length : Nat) : Int) < ((b.length : Nat) : Int)
    · exact ⟨-1, -1, by simp [h], by simp [h], Iff.rfl⟩
    · exact ⟨0, 0, by simp [h], by simp [h], Iff.rfl⟩
  · rw [h1, h2]; exact ⟨c, d, rfl, rfl, h3⟩
theorem better_eq (s m la lb c d : Int) (hcd : c < 0 ↔ d < 0) :
    decide (CmpOrint [CmpCompareint s m, CmpCompareint la lb, c] < 0) = (if decide (s < m) = true then true else if (s == m) = true then (if decide (la < lb) = true then true else if (la == lb) = true then decide (d < 0) else false) else false) := by
  unfold CmpOrint CmpCompareint CmpisNaNint
  simp only [bne_self_eq_false, Bool.false_eq_true, if_false, CmpOrint.loop1, bnd_eq]
  rcases Int.lt_trichotomy s m with h | h | h
  · simp [h]
  · subst h
    rcases Int.lt_trichotomy la lb with g | g | g
    · simp [g]
    · subst g
      by_cases hc : c = 0
      · subst hc
        have : ¬ d < 0 := fun hh => by have := hcd.2 hh; omega
        simp; omega
      · have e : (c != 0) = true := by simpa using hc
        simp [hc, hcd]
    · have g2 : ¬ la < lb := by omega
      have g3 : ¬ la = lb := by omega
      simp [g, g2, g3]
  · have h2 : ¬ s < m := by omega
    have h3 : ¬ s = m := by omega
    simp [h, h2, h3]
theorem pow_n (n : Nat) (hn : n ≤ 14) : IntKind.wrap .i64 (1 * (2 ^ (min (Int.toNat ((n : Nat) : Int)) (IntKind.bits .i64)))) = 2 ^ n ∧ (2 : Int) ^ n ≤ 16384 := by
  have e : min (Int.toNat ((n : Nat) : Int)) (IntKind.bits .i64) = n := by show min (Int.toNat ((n : Nat) : Int)) 64 = n; omega
  have h : (2 : Int) ^ n ≤ 16384 := by
    have h1 : (2 : Nat) ^ n ≤ 2 ^ 14 := Nat.pow_le_pow_right (by omega) hn
    rw [show (2 : Nat) ^ 14 = 16384 from by decide] at h1
    have h2 := Int.ofNat_le.2 h1
    rw [Int.natCast_pow] at h2; exact h2
  have h0 : (0 : Int) < 2 ^ n := Int.pow_pos (by omega)
  rw [e, Int.one_mul]
  exact ⟨IntWalk.i64_in _ ⟨by omega, by omega⟩, h⟩
theorem sets_eq (fu : Nat) (hf : 1000 ≤ fu) (t : FareTariff) (l : List FareTrip) (ps : List FarePass) (hp : ps.length ≤ 2) (hps : ∀ p ∈ ps, PassOk p) (pr : List Int) (hpr : ∀ (i : Nat) (x : FareTrip), l[i]? = some x → ∃ u, pr[i]?.map (fun p => (p, u)) = Fishref2PriceOf fu t x ∧ (Fishref2PriceOf fu t x).isSome) :
    ∀ (m : Nat) (best : List FareBuy) (least set : Int), 0 ≤ set → set ≤ 16384 → (16384 - set).toNat < m → best.length ≤ 14 → (∀ b ∈ best, BuyOk ps.length b) →
    ∃ b' l' a a', FareCheapest.loop4 l ps fu pr m best least set = some (b', l', a) ∧ Fishref2CheapestOf.loop2 t l ps fu m best least set = some (b', l', a')
  | 0, _, _, _, _, _, h, _, _ => absurd h (by omega)
  | m + 1, best, least, set, h0, h1, h2, hbl, hb => by
    have hw : w64 (7 * ((ps.length : Nat) : Int)) = ((7 * ps.length : Nat) : Int) := by rw [w64_id (by omega)]; omega
    obtain ⟨p1, p2⟩ := pow_n (7 * ps.length) (by omega)
    rw [FareCheapest.loop4, Fishref2CheapestOf.loop2, hw, p1]
    by_cases hq : set < 2 ^ (7 * ps.length)
    · obtain ⟨o, j, o1, o2, o3⟩ := buys_ok ps hp set h0 (by omega) fu [] 0 (by omega) (by omega) (by simp) (by simp)
      obtain ⟨s1, hs1⟩ := pay_tot ps o 0 o3
      have hs1' : FareCheapest.loop7 ps o o.length 0 0 = some s1 := by rw [pay_eq ps o o.length 0 0 (by omega)]; exact hs1
      obtain ⟨s2, r1, r2⟩ := rest_eq fu t ps hps o o3 l pr hpr l 0 s1 rfl
      obtain ⟨c, d, c1, d1, hcd⟩ := lists_cmp ps.length hp o best hbl o3 hb
      have o1' : FareCheapest.loop6 ps set fu [] 0 = some (o, j) := o1
      have hS : Fishref2SumOf fu t l ps o = some s2 := by unfold Fishref2SumOf; rw [hs1]; simp only [Option.bind_some, r2]
      have hww : w64 (set + 1) = set + 1 := w64_id (by omega)
      simp only [hq, decide_true, if_true]
      rw [buys_eq, o1']
      simp only [Option.bind_some, hs1', r1, hS, c1, d1, better_eq s2 least _ _ c d hcd, hww, bnd_eq]
      have go := fun (be : List FareBuy) (le : Int) (g1 : be.length ≤ 14) (g2 : ∀ b ∈ be, BuyOk ps.length b) => sets_eq fu hf t l ps hp hps pr hpr m be le (set + 1) (by omega) (by omega) (by omega) g1 g2
      by_cases k1 : least < 0
      · simp only [k1, decide_true, if_true, Option.bind_some]
        exact go o s2 o2 o3
      · simp only [k1, decide_false, Bool.false_eq_true, if_false]
        by_cases k2 : s2 < least
        · simp only [k2, decide_true, if_true, Option.bind_some]
          exact go o s2 o2 o3
        · simp only [k2, decide_false, Bool.false_eq_true, if_false]
          by_cases k3 : s2 = least
          · have k3' : (s2 == least) = true := by simpa using k3
            simp only [k3', if_true]
            by_cases k4 : ((o.length : Nat) : Int) < ((best.length : Nat) : Int)
            · simp only [k4, decide_true, if_true, Option.bind_some]
              exact go o s2 o2 o3
            · simp only [k4, decide_false, Bool.false_eq_true, if_false]
              by_cases k5 : ((o.length : Nat) : Int) = ((best.length : Nat) : Int)
              · have k5' : (((o.length : Nat) : Int) == ((best.length : Nat) : Int)) = true := by simpa using k5
                simp only [k5', if_true, Option.bind_some]
                by_cases k6 : d < 0
                · simp only [k6, decide_true, if_true]
                  exact go o s2 o2 o3
                · simp only [k6, decide_false, Bool.false_eq_true, if_false]
                  exact go best least hbl hb
              · have k5' : (((o.length : Nat) : Int) == ((best.length : Nat) : Int)) = false := by simpa using k5
                simp only [k5', Bool.false_eq_true, if_false, Option.bind_some]
                exact go best least hbl hb
          · have k3' : (s2 == least) = false := by simpa using k3
            simp only [k3', Bool.false_eq_true, if_false, Option.bind_some]
            exact go best least hbl hb
    · simp only [hq, decide_false, Bool.false_eq_true, if_false]
      exact ⟨best, least, set, set, rfl, rfl⟩
theorem equalb_refl (l : List FareBuy) : SlicesEqualLfareBuy l l = some true := by
  have key : ∀ (r : List FareBuy) (k : Nat), l.drop k = r → SlicesEqualLfareBuy.loop1 l r k = some (.next ()) := by
    intro r
    induction r with
    | nil => intro k _; rfl
    | cons v r ih =>
      intro k hd
      obtain ⟨d1, d2, d3⟩ := drop_cons hd
      simp only [SlicesEqualLfareBuy.loop1, gx_nat, d2, Option.bind_some, beq_self_eq_true, Bool.and_self, Bool.not_true, Bool.false_eq_true, if_false]
      exact ih (k + 1) d3
  unfold SlicesEqualLfareBuy
  simp [key l 0 rfl]
theorem cheap_ref (fu : Nat) (hf : 1048576 ≤ fu) (t : FareTariff) (hb : t.Bands.length ≤ 9223372036854775807) (hz : szFareTariff t ≤ 1048576) (l : List FareTrip) (hl : ∀ x ∈ l, x.Zones.length ≤ 1048576) (ps : List FarePass) (hps : ∀ x ∈ ps, x.Zones.length ≤ 1048576) :
    ∃ n b e, FareCheapest fu t l ps = some (n, b, e) ∧ Fishref2CheapestFault fu t l ps = some e ∧ (e ≠ 0 → n = 0 ∧ b = []) ∧ (e = 0 → Fishref2CheapestOf fu t l ps = some (n, b)) := by
  unfold FareCheapest Fishref2CheapestFault
  obtain ⟨e1, z, e2⟩ := tariff_ref hf t hb hz
  rw [e1, e2]
  simp only [Option.bind_some]
  by_cases h : z = 0
  · subst h
    simp only [bne_self_eq_false, Bool.false_eq_true, if_false, bnd_eq]
    by_cases h1 : ((l.length : Nat) : Int) > 12
    · exact ⟨0, [], 4, by simp [h1], by simp [h1], fun _ => ⟨rfl, rfl⟩, fun h => by omega⟩
    · by_cases h2 : ((ps.length : Nat) : Int) > 2
      · exact ⟨0, [], 4, by simp [h1, h2], by simp [h1, h2], fun _ => ⟨rfl, rfl⟩, fun h => by omega⟩
      · simp only [h1, h2, decide_false, Bool.false_eq_true, if_false]
        rcases trips_ref hf t e2 hz l [] hl (by simp; omega) with ⟨y, y1, y2, y3⟩ | ⟨pr, q1, q2, q3, q4⟩
        · rw [y2, y3]
          exact ⟨0, [], y, rfl, rfl, fun _ => ⟨rfl, rfl⟩, fun h => absurd h y1⟩
        · rw [q1, q2]
          simp only [Option.bind_some, List.nil_append]
          rcases passes_ref ps hps with ⟨y, y1, y2, y3⟩ | ⟨a1, a2, a3⟩
          · rw [y2, y3]
            exact ⟨0, [], y, rfl, rfl, fun _ => ⟨rfl, rfl⟩, fun h => absurd h y1⟩
          · rw [a1, a2]
            simp only [Option.bind_some]
            have hnn : nn (w64 (7 * ((ps.length : Nat) : Int))) = some () := by
              unfold nn; rw [w64_id (by omega), if_pos (by omega)]
            obtain ⟨b', l', a, a', s1, s2⟩ := sets_eq fu (by omega) t l ps (by omega) a3 pr q4 fu [] (-1) 0 (by omega) (by omega) (by omega) (by simp) (by simp)
            refine ⟨l', b', 0, ?_, rfl, fun h => absurd rfl h, fun _ => ?_⟩
            · rw [hnn, Option.bind_some, s1]; rfl
            · unfold Fishref2CheapestOf
              rw [hnn, Option.bind_some, s2]; rfl
  · have e : (z != 0) = true := by simpa using h
    simp only [e, if_true]
    exact ⟨0, [], z, rfl, rfl, fun _ => ⟨rfl, rfl⟩, fun hh => absurd hh h⟩

theorem FareCheapest_law (t : FareTariff) (l : List FareTrip) (ps : List FarePass) (h0 : t.Bands.length ≤ 9223372036854775807) (_ : t.Rules.length ≤ 9223372036854775807) (_ : l.length ≤ 9223372036854775807) (_ : ps.length ≤ 9223372036854775807)
    (z0 : szFareTariff t ≤ 1048576) (z1 : szL szFareTrip l ≤ 1048576) (z2 : szL szFarePass ps ≤ 1048576) : ∃ fu, Fishlaw2FareCheapest fu t l ps = some true := by
  refine ⟨1048576 + 60, ?_⟩
  unfold Fishlaw2FareCheapest
  have hl : ∀ x ∈ l, x.Zones.length ≤ 1048576 := by
    intro x hx
    have h1 := szL_mem (f := szFareTrip) hx
    unfold szFareTrip at h1
    have h2 : szL (fun x : FareTrip => szL sz1 x.Zones + 1) l = szL szFareTrip l := rfl
    rw [szL_one] at h1
    omega
  have hp : ∀ x ∈ ps, x.Zones.length ≤ 1048576 := by
    intro x hx
    have h1 := szL_mem (f := szFarePass) hx
    unfold szFarePass at h1
    have h2 : szL (fun x : FarePass => szL sz1 x.Zones + 1) ps = szL szFarePass ps := rfl
    rw [szL_one] at h1
    omega
  obtain ⟨n, b, e, e1, e2, e3, e4⟩ := cheap_ref (1048576 + 60) (by omega) t h0 z0 l hl ps hp
  rw [fares_true, e1, e2]
  simp only [Option.bind_some]
  by_cases h : e = 0
  · subst h
    rw [e4 rfl]
    simp [equalb_refl]
  · obtain ⟨rfl, rfl⟩ := e3 h
    simp [h]

end Go.Fp
