/- FareCopies: the mirror of the law is true of all lists. -/
import Derived.Test.YtmgdigencbganaaFareCopiesM
import Derived.Test.YtmgdigencbganaaFpPlain
import Derived.KernelRfl
namespace Go.Fp

theorem fares_true (n : Nat) : Fishlaw2fares (n + 60) = some true := by kernel_rfl
theorem within_iff (x a b : Int) : Farewithin x a b = decide (a ≤ x ∧ x ≤ b) := by
  unfold Farewithin bnd
  by_cases h1 : a ≤ x <;> by_cases h2 : x ≤ b <;> simp [h1, h2]

theorem rows_index : ∀ (l : List (List Int)) (k : Nat), SlicesIndexFuncLLint_v2.loop1 l k = SlicesIndexFuncLLint_v1.loop1 l k ∧ ((SlicesIndexFuncLLint_v1.loop1 l k = .next () ∧ ∀ r ∈ l, r.length = 20) ∨ ∃ j : Nat, SlicesIndexFuncLLint_v1.loop1 l k = .ret (j : Int))
  | [], _ => ⟨rfl, .inl ⟨rfl, by simp⟩⟩
  | r :: l, k => by
    obtain ⟨h1, h2⟩ := rows_index l (k + 1)
    simp only [SlicesIndexFuncLLint_v2.loop1, SlicesIndexFuncLLint_v1.loop1, h1, show Fishref2CopiesOf_1 = FareCopies_1 from rfl]
    refine ⟨trivial, ?_⟩
    by_cases h : r.length = 20
    · have e : FareCopies_1 r = false := by simp [FareCopies_1, h]
      simp only [e, Bool.false_eq_true, if_false]
      rcases h2 with ⟨h3, h4⟩ | h3
      · refine .inl ⟨h3, fun x hx => ?_⟩
        rcases List.mem_cons.1 hx with rfl | hx
        · exact h
        · exact h4 x hx
      · exact .inr h3
    · have e : FareCopies_1 r = true := by simp [FareCopies_1]; omega
      simp only [e, if_true]
      exact .inr ⟨k, rfl⟩
theorem cell_index : ∀ (l : List Int) (k : Nat), (SlicesIndexFuncLint_v1.loop1 l k = .next () ∧ Fishref2CopiesOf.loop2 l = .next ()) ∨ ((∃ j : Nat, SlicesIndexFuncLint_v1.loop1 l k = .ret (j : Int)) ∧ Fishref2CopiesOf.loop2 l = .ret ([], 2))
  | [], _ => .inl ⟨rfl, rfl⟩
  | x :: l, k => by
    simp only [SlicesIndexFuncLint_v1.loop1, Fishref2CopiesOf.loop2, FareCopies_2, show Fishref2within = Farewithin from rfl]
    rcases Bool.eq_false_or_eq_true (Farewithin x 0 28800) with e | e
    · simpa [e] using cell_index l (k + 1)
    · exact .inr ⟨⟨k, by simp [e]⟩, by simp [e]⟩
theorem secs_eq : ∀ l : List (List Int), Fishref2CopiesOf.loop1 l = FareCopies.loop1 l
  | [] => rfl
  | r :: l => by
    simp only [Fishref2CopiesOf.loop1, FareCopies.loop1, SlicesContainsFuncLint_v1, SlicesIndexFuncLint_v1, bnd_eq]
    rcases cell_index r 0 with ⟨h1, h2⟩ | ⟨⟨j, h1⟩, h2⟩
    · simp [h1, h2, secs_eq l]
    · simp [h1, h2]
theorem seen_eq : ∀ l : List FareSeen, Fishref2CopiesOf.loop3 l = FareCopies.loop2 l
  | [] => rfl
  | x :: l => by simp only [Fishref2CopiesOf.loop3, FareCopies.loop2, show Fishref2within = Farewithin from rfl, seen_eq l] <;> rfl
theorem seen_in : ∀ l : List FareSeen, FareCopies.loop2 l = .next () → ∀ x ∈ l, 0 ≤ x.Zone ∧ x.Zone ≤ 19
  | [], _ => by simp
  | x :: l, h => by
    simp only [FareCopies.loop2, bnd_eq, within_iff] at h
    by_cases h1 : 0 ≤ x.No ∧ x.No ≤ 999999
    · by_cases h2 : 0 ≤ x.Zone ∧ x.Zone ≤ 19
      · by_cases h3 : 0 ≤ x.At ∧ x.At ≤ 28800
        · simp only [h1, h2, h3, and_self, decide_true, Bool.not_true, Bool.false_eq_true, if_false] at h
          intro y hy
          rcases List.mem_cons.1 hy with rfl | hy
          · exact h2
          · exact seen_in l h y hy
        · simp [h1, h2, h3] at h
      · simp [h1, h2] at h
    · simp [h1] at h
theorem pair_eq (l : List FareSeen) (s : List (List Int)) (x : FareSeen) (k : Nat) : ∀ (n : Nat) (o : List Ar2i64) (q : Int), Fishref2CopiesOf.loop5 l s x k n o q = FareCopies.loop4 l s x k n o q
  | 0, _, _ => rfl
  | n + 1, o, q => by simp only [Fishref2CopiesOf.loop5, FareCopies.loop4, pair_eq l s x k n] <;> rfl
theorem pairs_eq (l : List FareSeen) (s : List (List Int)) (fu : Nat) : ∀ (r : List FareSeen) (k : Nat) (o : List Ar2i64), Fishref2CopiesOf.loop4 l s fu r k o = FareCopies.loop3 l s fu r k o
  | [], _, _ => rfl
  | x :: r, k, o => by simp only [Fishref2CopiesOf.loop4, FareCopies.loop3, pair_eq, pairs_eq l s fu r] <;> rfl
theorem pair_tot (l : List FareSeen) (s : List (List Int)) (hl : l.length ≤ 100) (hz : ∀ x ∈ l, 0 ≤ x.Zone ∧ x.Zone ≤ 19) (hs : s.length = 20) (hr : ∀ r ∈ s, r.length = 20) (x : FareSeen) (hx : x ∈ l) (k : Nat) :
    ∀ (n : Nat) (o : List Ar2i64) (q : Int), 0 ≤ q → q ≤ 101 → (101 - q).toNat < n → o.length + n ≤ 1000000 → ∃ z, FareCopies.loop4 l s x k n o q = some z ∧ z.1.length ≤ o.length + n
  | 0, _, _, _, _, h, _ => absurd h (by omega)
  | n + 1, o, q, h0, h1, h2, ho => by
    rw [FareCopies.loop4]
    by_cases hq : q < (l.length : Int)
    · have hqn : q.toNat < l.length := by omega
      have g1 := gx_toNat (l := l) h0 hqn
      have hzx := hz x hx
      have hzy := hz _ (List.getElem_mem hqn)
      have g2 := gx_toNat (l := s) hzx.1 (by omega)
      have hrow := hr _ (List.getElem_mem (l := s) (n := x.Zone.toNat) (by omega))
      have g3 := gx_toNat (l := s[x.Zone.toNat]'(by omega)) hzy.1 (by omega)
      simp only [hq, decide_true, if_true, g1, g2, g3, Option.bind_some]
      rw [w64_id (x := q + 1) (by omega)]
      have ha : ∀ v, apd o [v] = some (o ++ [v]) := fun v => apd_lt (by simp; omega)
      have ih1 := pair_tot l s hl hz hs hr x hx k n o (q + 1) (by omega) (by omega) (by omega) (by omega)
      have ih2 := pair_tot l s hl hz hs hr x hx k n (o ++ [Ar2i64.mk ((k : Nat) : Int) q]) (q + 1) (by omega) (by omega) (by omega) (by simp; omega)
      have e1 : ∀ b : Bool, ∃ z, ((if b = true then some (decide (mx (w64 (x.At - (l[q.toNat]).At)) (w64 ((l[q.toNat]).At - x.At)) < (s[x.Zone.toNat]'(by omega))[(l[q.toNat]).Zone.toNat]'(by omega))) else some false).bind fun q165 =>
          (if q165 = true then (apd o [Ar2i64.mk ((k : Nat) : Int) q]).bind fun x203 => some x203 else some o).bind fun q193 => FareCopies.loop4 l s x k n q193 (q + 1)) = some z ∧ z.1.length ≤ o.length + (n + 1) := by
        intro b
        have e2 : ∀ c : Bool, ∃ z, ((some c).bind fun q165 => (if q165 = true then (apd o [Ar2i64.mk ((k : Nat) : Int) q]).bind fun x203 => some x203 else some o).bind fun q193 => FareCopies.loop4 l s x k n q193 (q + 1)) = some z ∧ z.1.length ≤ o.length + (n + 1) := by
          intro c
          cases c
          · obtain ⟨z, h3, h4⟩ := ih1
            exact ⟨z, by simpa using h3, by omega⟩
          · obtain ⟨z, h3, h4⟩ := ih2
            exact ⟨z, by simpa [ha] using h3, by simp at h4; omega⟩
        cases b
        · exact e2 _
        · exact e2 _
      exact e1 _
    · simp only [hq, decide_false, Bool.false_eq_true, if_false]
      exact ⟨_, rfl, by simp⟩
theorem pairs_tot (l : List FareSeen) (s : List (List Int)) (hl : l.length ≤ 100) (hz : ∀ x ∈ l, 0 ≤ x.Zone ∧ x.Zone ≤ 19) (hs : s.length = 20) (hr : ∀ r ∈ s, r.length = 20) : ∀ (r : List FareSeen) (k : Nat) (o : List Ar2i64), (∀ x ∈ r, x ∈ l) → k + r.length = l.length → o.length ≤ k * 200 → ∃ z, FareCopies.loop3 l s 200 r k o = some z
  | [], _, o, _, _, _ => ⟨o, rfl⟩
  | x :: r, k, o, hx, hk, ho => by
    simp only [List.length_cons] at hk
    rw [FareCopies.loop3]
    obtain ⟨z, h1, h2⟩ := pair_tot l s hl hz hs hr x (hx x (by simp)) k 200 o ((k + 1 : Nat) : Int) (by omega) (by omega) (by omega) (by omega)
    rw [h1]
    exact pairs_tot l s hl hz hs hr r (k + 1) z.1 (fun y hy => hx y (by simp [hy])) (by omega) (by omega)
theorem equal2_refl (l : List Ar2i64) : SlicesEqualL2int l l = some true := by
  have key : ∀ (r : List Ar2i64) (k : Nat), l.drop k = r → SlicesEqualL2int.loop1 l r k = some (.next ()) := by
    intro r
    induction r with
    | nil => intro k _; rfl
    | cons v r ih =>
      intro k hd
      obtain ⟨d1, d2, d3⟩ := drop_cons hd
      simp only [SlicesEqualL2int.loop1, gx_nat, d2, Option.bind_some, beq_self_eq_true, Bool.and_self, Bool.not_true, Bool.false_eq_true, if_false]
      exact ih (k + 1) d3
  unfold SlicesEqualL2int
  simp [key l 0 rfl]

theorem copies_ref (l : List FareSeen) (s : List (List Int)) : Fishref2CopiesOf 200 l s = FareCopies 200 l s ∧ Tot (FareCopies 200 l s) := by
  unfold Fishref2CopiesOf FareCopies
  have hc : SlicesContainsFuncLLint_v2 s = SlicesContainsFuncLLint_v1 s := by
    unfold SlicesContainsFuncLLint_v2 SlicesContainsFuncLLint_v1 SlicesIndexFuncLLint_v2 SlicesIndexFuncLLint_v1
    rw [(rows_index s 0).1] <;> rfl
  simp only [hc, secs_eq, seen_eq, pairs_eq]
  refine ⟨by first | trivial | rfl, ?_⟩
  refine .ite (fun _ => .some _) fun h1 => .bnd (.ite (fun _ => .some _) fun h2 => ?_)
  have h1 := of_decide_eq_false h1
  have hs : s.length = 20 := by
    by_cases h : ((s.length : Nat) : Int) = 20
    · omega
    · have e : (((s.length : Nat) : Int) != 20) = true := by simpa using h
      simp [e] at h2
  have hr : ∀ r ∈ s, r.length = 20 := by
    have e : (((s.length : Nat) : Int) != 20) = false := by simp [hs]
    rw [e] at h2
    simp only [Bool.false_eq_true, if_false] at h2
    unfold SlicesContainsFuncLLint_v1 SlicesIndexFuncLLint_v1 at h2
    rcases (rows_index s 0).2 with ⟨_, h4⟩ | ⟨j, h4⟩
    · exact h4
    · rw [h4] at h2; simp [bnd_eq] at h2
  show Tot (match FareCopies.loop1 s with | .ret r => some r | .next () => _)
  cases h3 : FareCopies.loop1 s with
  | ret r => exact .some _
  | next u =>
    show Tot (match FareCopies.loop2 l with | .ret r => some r | .next () => _)
    cases h4 : FareCopies.loop2 l with
    | ret r => exact .some _
    | next u =>
      obtain ⟨z, hz⟩ := pairs_tot l s (by omega) (seen_in l h4) hs hr l 0 [] (fun _ h => h) (by simp) (by simp)
      exact .bind1 hz (.some _)

theorem FareCopies_law (l : List FareSeen) (s : List (List Int)) (_ : l.length ≤ 9223372036854775807) (_ : s.length ≤ 9223372036854775807) (_ : ∀ x ∈ s, x.length ≤ 9223372036854775807) : ∃ fu, Fishlaw2FareCopies fu l s = some true := by
  refine ⟨140 + 60, ?_⟩
  unfold Fishlaw2FareCopies
  rw [fares_true]
  obtain ⟨e1, z, e2⟩ := copies_ref l s
  rw [e1, e2]
  simp [equal2_refl]

end Go.Fp
