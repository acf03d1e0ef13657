/- FleetStores: the mirror of the law is true of all tracks and stays. -/
import Derived.Test.YtfhkpdnohcidgaaFleetStoresM
import Derived.Test.YtfhkpdnohcidgaaFpPlain
import Derived.KernelRfl
namespace Go.Fp

/-! lists of digits in order -/
/-- the next list of digits below D; the last ones first -/
def incR (D : Int) : List Int → Option (List Int)
  | [] => none
  | d :: t => if d = D - 1 then (incR D t).map (0 :: ·) else some ((d + 1) :: t)
def inc (D : Int) (v : List Int) : Option (List Int) := (incR D v.reverse).map List.reverse
theorem inc_nil (D : Int) : inc D [] = none := rfl
theorem inc_snoc (D : Int) (p : List Int) (d : Int) : inc D (p ++ [d]) = if d = D - 1 then (inc D p).map (· ++ [0]) else some (p ++ [d + 1]) := by
  unfold inc
  rw [List.reverse_append, List.reverse_singleton, List.singleton_append, incR]
  by_cases h : d = D - 1
  · rw [if_pos h, if_pos h]
    cases incR D p.reverse <;> simp
  · rw [if_neg h, if_neg h]; simp
theorem inc_len {D : Int} : ∀ {p q : List Int}, inc D p = some q → q.length = p.length := by
  have key : ∀ {p q : List Int}, incR D p = some q → q.length = p.length := by
    intro p
    induction p with
    | nil => intro q h; cases h
    | cons d t ih =>
      intro q h
      rw [incR] at h
      by_cases c : d = D - 1
      · rw [if_pos c] at h
        cases k : incR D t with
        | none => rw [k] at h; cases h
        | some t' => rw [k] at h; injection h with h; subst h; simp [ih k]
      · rw [if_neg c] at h; injection h with h; subst h; simp
  intro p q h
  unfold inc at h
  cases k : incR D p.reverse with
  | none => rw [k] at h; cases h
  | some t' => rw [k] at h; injection h with h; subst h; have := key k; simpa using this
/-- digits -/
def Dig (D : Int) (v : List Int) : Prop := ∀ d ∈ v, 0 ≤ d ∧ d < D
theorem inc_dig {D : Int} (hD : 1 ≤ D) : ∀ {p q : List Int}, inc D p = some q → Dig D p → Dig D q := by
  have key : ∀ {p q : List Int}, incR D p = some q → Dig D p → Dig D q := by
    intro p
    induction p with
    | nil => intro q h; cases h
    | cons d t ih =>
      intro q h hd
      rw [incR] at h
      have h1 := hd d (List.mem_cons_self ..)
      have h2 : Dig D t := fun e he => hd e (List.mem_cons_of_mem _ he)
      by_cases c : d = D - 1
      · rw [if_pos c] at h
        cases k : incR D t with
        | none => rw [k] at h; cases h
        | some t' =>
          rw [k] at h; injection h with h; subst h
          intro e he
          rcases List.mem_cons.1 he with rfl | he
          · omega
          · exact ih k h2 e he
      · rw [if_neg c] at h; injection h with h; subst h
        intro e he
        rcases List.mem_cons.1 he with rfl | he
        · omega
        · exact h2 e he
  intro p q h hd
  unfold inc at h
  cases k : incR D p.reverse with
  | none => rw [k] at h; cases h
  | some t' =>
    rw [k] at h; injection h with h; subst h
    have := key k (fun e he => hd e (List.mem_reverse.1 he))
    exact fun e he => this e (List.mem_reverse.1 he)

section
variable {σ τ : Type} (D : Nat) (take : List Int → σ → Bool × σ)
/-- the digits from D - j on behind a beginning, in order; it ends when one is taken -/
def Cd (g : List Int → σ → Bool × σ) : Nat → List Int → σ → Bool × σ
  | 0, _, st => (false, st)
  | j + 1, p, st => if (g (p ++ [((D - (j + 1) : Nat) : Int)]) st).1 then (true, (g (p ++ [((D - (j + 1) : Nat) : Int)]) st).2) else Cd g j p (g (p ++ [((D - (j + 1) : Nat) : Int)]) st).2
/-- all lists of digits behind a beginning, in order -/
def Cn : Nat → List Int → σ → Bool × σ
  | 0, p, st => take p st
  | m + 1, p, st => Cd D (Cn m) D p st
theorem dig_snoc {p : List Int} (hp : Dig D p) {d : Int} (h0 : 0 ≤ d) (h1 : d < D) : Dig (D : Int) (p ++ [d]) := by
  intro e he
  rcases List.mem_append.1 he with he | he
  · exact hp e he
  · simp at he; subst he; exact ⟨h0, h1⟩

/-- a loop that goes from list to list -/
theorem block (hD : 1 ≤ D) (n : Nat) (F : Nat → List Int → σ → Option (Out (Bool × σ) τ))
    (step : ∀ N v st, v.length = n → Dig D v → F (N + 1) v st = if (take v st).1 then some (.ret (true, (take v st).2)) else match inc D v with | none => some (.ret (false, (take v st).2)) | some v' => F N v' (take v st).2) :
    ∀ (m : Nat) (p : List Int) (N : Nat) (st : σ), p.length + m = n → Dig D p →
      F (D ^ m + N) (p ++ List.replicate m 0) st = if (Cn D take m p st).1 then some (.ret (true, (Cn D take m p st).2)) else match inc D p with | none => some (.ret (false, (Cn D take m p st).2)) | some p' => F N (p' ++ List.replicate m 0) (Cn D take m p st).2 := by
  intro m
  induction m with
  | zero =>
    intro p N st hn hp
    rw [Nat.pow_zero, Nat.add_comm 1 N, List.replicate_zero, List.append_nil, step N p st (by simpa using hn) hp, Cn]
    simp
  | succ m ih =>
    have run : ∀ (j : Nat), j < D → ∀ (p : List Int) (N : Nat) (st : σ), p.length + (m + 1) = n → Dig D p →
        F ((j + 1) * D ^ m + N) (p ++ [((D - (j + 1) : Nat) : Int)] ++ List.replicate m 0) st = if (Cd D (Cn D take m) (j + 1) p st).1 then some (.ret (true, (Cd D (Cn D take m) (j + 1) p st).2)) else match inc D p with | none => some (.ret (false, (Cd D (Cn D take m) (j + 1) p st).2)) | some p' => F N (p' ++ List.replicate (m + 1) 0) (Cd D (Cn D take m) (j + 1) p st).2 := by
      intro j
      induction j with
      | zero =>
        intro hj p N st hn hp
        have hl : ∀ d : Int, (p ++ [d]).length + m = n := by intro d; rw [List.length_append, List.length_singleton]; omega
        have h0 : (0 : Int) ≤ ((D - 1 : Nat) : Int) := by omega
        have h1 : ((D - 1 : Nat) : Int) < (D : Int) := by omega
        have h2 : ((D - 1 : Nat) : Int) = (D : Int) - 1 := by omega
        have e := ih (p ++ [((D - 1 : Nat) : Int)]) N st (hl _) (dig_snoc D hp h0 h1)
        rw [inc_snoc, if_pos h2] at e
        simp only [Nat.zero_add, Nat.one_mul, Cd]
        rw [e]
        by_cases c : (Cn D take m (p ++ [((D - 1 : Nat) : Int)]) st).1 = true
        · simp only [if_pos c]; rfl
        · simp only [if_neg c]
          cases inc (D : Int) p with
          | none => rfl
          | some p' => simp [List.replicate_succ]
      | succ j ihj =>
        intro hj p N st hn hp
        have e : (j + 1 + 1) * D ^ m + N = D ^ m + ((j + 1) * D ^ m + N) := by rw [Nat.add_mul (j + 1) 1, Nat.one_mul]; omega
        have hl : ∀ d : Int, (p ++ [d]).length + m = n := by intro d; rw [List.length_append, List.length_singleton]; omega
        have h0 : (0 : Int) ≤ ((D - (j + 1 + 1) : Nat) : Int) := by omega
        have h1 : ((D - (j + 1 + 1) : Nat) : Int) < (D : Int) := by omega
        have h2 : ¬ ((D - (j + 1 + 1) : Nat) : Int) = (D : Int) - 1 := by omega
        have h3 : ((D - (j + 1 + 1) : Nat) : Int) + 1 = ((D - (j + 1) : Nat) : Int) := by omega
        have e' := ih (p ++ [((D - (j + 1 + 1) : Nat) : Int)]) ((j + 1) * D ^ m + N) st (hl _) (dig_snoc D hp h0 h1)
        rw [inc_snoc, if_neg h2] at e'
        rw [e, e', Cd]
        by_cases c : (Cn D take m (p ++ [((D - (j + 1 + 1) : Nat) : Int)]) st).1 = true
        · simp only [if_pos c]; rfl
        · simp only [if_neg c, h3]
          exact ihj (by omega) p N (Cn D take m (p ++ [((D - (j + 1 + 1) : Nat) : Int)]) st).2 hn hp
    intro p N st hn hp
    obtain ⟨j, rfl⟩ : ∃ j, D = j + 1 := ⟨D - 1, by omega⟩
    have h := run j (by omega) p N st hn hp
    rw [Nat.sub_self] at h
    rw [Nat.pow_succ, Nat.mul_comm, Cn]
    rw [List.append_assoc, List.singleton_append] at h
    rw [List.replicate_succ]
    exact h
end

/-- the odometer's inner loop -/
theorem odo (D : Int) (hD : 1 ≤ D ∧ D ≤ 1000) (L : Nat → Int → List Int → Option (Int × List Int))
    (step : ∀ N k v, L (N + 1) k v = ((if decide (k ≥ 0) then ((gx v k).bind fun x => some (x == (w64 (D - 1)))) else some false) : Option Bool).bind fun q => (if q then ((ix v k).bind fun _ => ((sx v k 0).bind fun y => L N (w64 (k - 1)) y)) else some (k, v))) :
    ∀ (n : Nat) (q z : List Int) (N : Nat), q.length = n → n ≤ 1000000 → n < N → Dig D q →
      (inc D q = none → ∃ v', L N ((n : Int) - 1) (q ++ z) = some (-1, v')) ∧
      (∀ q', inc D q = some q' → ∃ k v' y, L N ((n : Int) - 1) (q ++ z) = some (k, v') ∧ 0 ≤ k ∧ gx v' k = some y ∧ ix v' k = some () ∧ sx v' k (w64 (y + 1)) = some (q' ++ z)) := by
  intro n
  induction n with
  | zero =>
    intro q z N hq _ hN _
    obtain rfl := List.eq_nil_of_length_eq_zero hq
    obtain ⟨M, rfl⟩ : ∃ M, N = M + 1 := ⟨N - 1, by omega⟩
    refine ⟨fun _ => ⟨z, ?_⟩, fun q' h => by cases h⟩
    rw [step]; simp
  | succ n ih =>
    intro q z N hq hb hN hdig
    obtain ⟨p, d, rfl⟩ : ∃ p d, q = p ++ [d] := ⟨q.dropLast, q.getLast (by intro h; subst h; simp at hq), (List.dropLast_concat_getLast _).symm⟩
    have hp : p.length = n := by simpa using hq
    obtain ⟨M, rfl⟩ : ∃ M, N = M + 1 := ⟨N - 1, by omega⟩
    have hd := hdig d (by simp)
    have hk : ((n + 1 : Nat) : Int) - 1 = (n : Int) := by omega
    have hlen : n < (p ++ [d] ++ z).length := by simp; omega
    have hget : gx (p ++ [d] ++ z) (n : Int) = some d := by rw [gx_nat, List.append_assoc, List.getElem?_append_right (by omega), hp]; simp
    have hset : ∀ e, (p ++ [d] ++ z).set n e = p ++ (e :: z) := by
      intro e
      rw [List.append_assoc, List.set_append_right _ _ (by omega), hp]; simp
    have hw : w64 (D - 1) = D - 1 := w64_id (by omega)
    rw [hk, step, hget, hw, inc_snoc]
    simp only [Option.bind_some, show ((n : Int) ≥ 0) = True by simp, decide_true, if_true]
    by_cases c : d = D - 1
    · have cb : (d == D - 1) = true := by simpa using c
      rw [cb, ix_in (by omega) (by omega), sx_in (by omega) (by omega), Int.toNat_natCast, hset, if_pos c]
      simp only [Option.bind_some, if_true]
      rw [w64_id (by omega)]
      obtain ⟨h1, h2⟩ := ih p (0 :: z) M hp (by omega) (by omega) (fun e he => hdig e (by simp [he]))
      refine ⟨fun h => h1 (by cases k : inc D p with | none => rfl | some p' => rw [k] at h; cases h), fun q' h => ?_⟩
      cases k : inc D p with
      | none => rw [k] at h; cases h
      | some p' =>
        rw [k] at h; injection h with h; subst h
        have := h2 p' k
        simpa using this
    · have cb : (d == D - 1) = false := by simpa using c
      rw [cb, if_neg c]
      refine ⟨fun h => (by cases h), fun q' h => ?_⟩
      injection h with h; subst h
      refine ⟨(n : Int), p ++ [d] ++ z, d, by simp, by omega, hget, ix_in (by omega) (by omega), ?_⟩
      rw [w64_id (by omega), sx_in (by omega) (by omega), Int.toNat_natCast, hset]
      simp
/-! stacks: what comes and leaves -/
abbrev Ev3 := Int × Int × Bool
def stp (room tracks : List Int) (S : List (List Int)) (e : Ev3) : Option (List (List Int)) :=
  match tracks[e.2.1.toNat]? with
  | none => none
  | some t => match S[t.toNat]?, room[t.toNat]? with
    | some st, some r => if e.2.2 then (if (st.length : Int) < r then some (S.set t.toNat (st ++ [e.2.1])) else none) else if st.getLast? = some e.2.1 then some (S.set t.toNat st.dropLast) else none
    | _, _ => none
def run (room tracks : List Int) : List Ev3 → List (List Int) → Bool
  | [], _ => true
  | e :: E, S => match stp room tracks S e with
    | none => false
    | some S' => run room tracks E S'
def cutS (i : Int) (S : List (List Int)) : List (List Int) := S.map (List.filter (fun s => decide (s < i)))
theorem cutS_get {i : Int} {S : List (List Int)} {k : Nat} {st : List Int} (h : S[k]? = some st) : (cutS i S)[k]? = some (st.filter (fun s => decide (s < i))) := by
  unfold cutS; rw [List.getElem?_map, h]; rfl
theorem cutS_set (i : Int) (S : List (List Int)) (k : Nat) (st : List Int) : cutS i (S.set k st) = (cutS i S).set k (st.filter (fun s => decide (s < i))) := by
  unfold cutS; rw [List.map_set]
theorem set_sameq {α : Type} {l : List α} {k : Nat} {x : α} (h : l[k]? = some x) : l.set k x = l := by
  obtain ⟨hk, rfl⟩ := List.getElem?_eq_some_iff.1 h
  exact List.set_getElem_self hk
/-- those of the first sets alone stand in one another's way no more -/
theorem run_cutq {room tracks : List Int} {i : Nat} : ∀ {E : List Ev3} {S : List (List Int)}, (∀ e ∈ E, 0 ≤ e.2.1) → run room tracks E S = true →
    run room (tracks.take i) (E.filter (fun e => decide (e.2.1 < (i : Int)))) (cutS i S) = true
  | [], _, _, _ => rfl
  | e :: E, S, h0, h => by
    have he := h0 e (by simp)
    have ht := fun S' => run_cutq (room := room) (tracks := tracks) (i := i) (E := E) (S := S') (fun e he => h0 e (by simp [he]))
    rw [run] at h
    cases hs : stp room tracks S e with
    | none => rw [hs] at h; cases h
    | some S' =>
      rw [hs] at h
      have h := ht S' h
      unfold stp at hs
      cases hT : tracks[e.2.1.toNat]? with
      | none => rw [hT] at hs; cases hs
      | some t =>
        rw [hT] at hs
        simp only at hs
        cases hS : S[t.toNat]? with
        | none => rw [hS] at hs; cases hs
        | some st =>
          cases hR : room[t.toNat]? with
          | none => rw [hS, hR] at hs; cases hs
          | some r =>
            rw [hS, hR] at hs
            simp only at hs
            by_cases c : e.2.1 < (i : Int)
            · rw [List.filter_cons_of_pos (by simpa using c), run]
              have hT' : (tracks.take i)[e.2.1.toNat]? = some t := by rw [List.getElem?_take, if_pos (by omega)]; exact hT
              unfold stp
              rw [hT']
              simp only
              rw [cutS_get hS, hR]
              simp only
              by_cases b : e.2.2 = true
              · rw [if_pos b] at hs ⊢
                by_cases c2 : (st.length : Int) < r
                · rw [if_pos c2] at hs
                  obtain rfl := Option.some.inj hs
                  rw [if_pos (by have := List.length_filter_le (fun s => decide (s < (i : Int))) st; omega)]
                  simp only
                  rw [cutS_set, List.filter_append, List.filter_cons_of_pos (by simpa using c), List.filter_nil] at h
                  exact h
                · rw [if_neg c2] at hs; cases hs
              · rw [if_neg b] at hs ⊢
                by_cases c2 : st.getLast? = some e.2.1
                · rw [if_pos c2] at hs
                  obtain rfl := Option.some.inj hs
                  have hd : st = st.dropLast ++ [e.2.1] := by
                    obtain ⟨ys, rfl⟩ := List.getLast?_eq_some_iff.1 c2
                    simp
                  have hf : st.filter (fun s => decide (s < (i : Int))) = st.dropLast.filter (fun s => decide (s < (i : Int))) ++ [e.2.1] := by
                    conv => lhs; rw [hd, List.filter_append, List.filter_cons_of_pos (by simpa using c), List.filter_nil]
                  rw [hf, if_pos (by simp)]
                  simp only
                  rw [cutS_set] at h
                  simpa using h
                · rw [if_neg c2] at hs; cases hs
            · rw [List.filter_cons_of_neg (by simpa using c)]
              have key : cutS i S' = cutS i S := by
                by_cases b : e.2.2 = true
                · rw [if_pos b] at hs
                  by_cases c2 : (st.length : Int) < r
                  · rw [if_pos c2] at hs
                    obtain rfl := Option.some.inj hs
                    rw [cutS_set, List.filter_append, List.filter_cons_of_neg (by simpa using c), List.filter_nil, List.append_nil]
                    exact set_sameq (cutS_get hS)
                  · rw [if_neg c2] at hs; cases hs
                · rw [if_neg b] at hs
                  by_cases c2 : st.getLast? = some e.2.1
                  · rw [if_pos c2] at hs
                    obtain rfl := Option.some.inj hs
                    rw [cutS_set]
                    have hd : st = st.dropLast ++ [e.2.1] := by
                      obtain ⟨ys, rfl⟩ := List.getLast?_eq_some_iff.1 c2
                      simp
                    have hf : st.filter (fun s => decide (s < (i : Int))) = st.dropLast.filter (fun s => decide (s < (i : Int))) := by
                      conv => lhs; rw [hd, List.filter_append, List.filter_cons_of_neg (by simpa using c), List.filter_nil, List.append_nil]
                    rw [← hf]
                    exact set_sameq (cutS_get hS)
                  · rw [if_neg c2] at hs; cases hs
              rw [← key]
              exact h
/-! the events in order -/
def evsq : Int → List (Int × Int) → List Ev3
  | _, [] => []
  | k, p :: l => (p.1, k, true) :: (p.2, k, false) :: evsq (k + 1) l
def cmp3 (a b : Ev3) : Int := a.1 - b.1
/-- times are apart -/
structure Dst (l : List (Int × Int)) : Prop where
  nd : (l.flatMap fun p => [p.1, p.2]).Nodup
  lt : ∀ p ∈ l, p.1 < p.2
theorem nodup_inj {α β : Type} {f : α → β} : ∀ {l : List α}, (l.map f).Nodup → ∀ a ∈ l, ∀ b ∈ l, f a = f b → a = b
  | [], _, a, ha, _, _, _ => by cases ha
  | x :: l, h, a, ha, b, hb, e => by
    rw [List.map_cons, List.nodup_cons] at h
    rcases List.mem_cons.1 ha with h1 | h1
    · rcases List.mem_cons.1 hb with h2 | h2
      · rw [h1, h2]
      · subst h1; exact absurd (List.mem_map.2 ⟨b, h2, e.symm⟩) h.1
    · rcases List.mem_cons.1 hb with h2 | h2
      · subst h2; exact absurd (List.mem_map.2 ⟨a, h1, e⟩) h.1
      · exact nodup_inj h.2 a h1 b h2 e
theorem evsq_times : ∀ (l : List (Int × Int)) (k : Int), (evsq k l).map (·.1) = l.flatMap fun p => [p.1, p.2]
  | [], _ => rfl
  | p :: l, k => by rw [evsq, List.map_cons, List.map_cons, evsq_times l (k + 1)]; rfl
theorem evsq_len : ∀ (l : List (Int × Int)) (k : Int), (evsq k l).length = 2 * l.length
  | [], _ => rfl
  | p :: l, k => by rw [evsq, List.length_cons, List.length_cons, evsq_len l (k + 1), List.length_cons]; omega
theorem evsq_mem : ∀ {l : List (Int × Int)} {k : Int} {e : Ev3}, e ∈ evsq k l → ∃ i : Nat, ∃ p, l[i]? = some p ∧ e.2.1 = k + i ∧ (e.2.2 = true ∧ e.1 = p.1 ∨ e.2.2 = false ∧ e.1 = p.2)
  | [], _, _, h => by cases h
  | p :: l, k, e, h => by
    rw [evsq] at h
    rcases List.mem_cons.1 h with rfl | h
    · exact ⟨0, p, rfl, by simp, .inl ⟨rfl, rfl⟩⟩
    · rcases List.mem_cons.1 h with rfl | h
      · exact ⟨0, p, rfl, by simp, .inr ⟨rfl, rfl⟩⟩
      · obtain ⟨i, q, h1, h2, h3⟩ := evsq_mem h
        exact ⟨i + 1, q, by simpa using h1, by rw [h2]; omega, h3⟩
theorem evsq_has : ∀ {l : List (Int × Int)} {k : Int} {i : Nat} {p : Int × Int}, l[i]? = some p → (p.1, k + i, true) ∈ evsq k l ∧ (p.2, k + i, false) ∈ evsq k l
  | [], _, i, _, h => by simp at h
  | q :: l, k, 0, p, h => by
    simp at h; subst h
    rw [evsq]; simp
  | q :: l, k, i + 1, p, h => by
    have := evsq_has (l := l) (k := k + 1) (i := i) (p := p) (by simpa using h)
    have e : k + ((i + 1 : Nat) : Int) = k + 1 + (i : Int) := by omega
    rw [evsq, e]
    exact ⟨List.mem_cons_of_mem _ (List.mem_cons_of_mem _ this.1), List.mem_cons_of_mem _ (List.mem_cons_of_mem _ this.2)⟩
theorem evsq_snoc : ∀ (l : List (Int × Int)) (k : Int) (p : Int × Int), evsq k (l ++ [p]) = evsq k l ++ [(p.1, k + l.length, true), (p.2, k + l.length, false)]
  | [], k, p => by simp [evsq]
  | q :: l, k, p => by
    rw [List.cons_append, evsq, evsq_snoc l (k + 1) p, evsq]
    have e : k + 1 + (l.length : Int) = k + ((q :: l).length : Nat) := by rw [List.length_cons]; omega
    rw [e]; rfl
theorem evsq_cut : ∀ (l : List (Int × Int)) (k : Int) (i : Nat), (evsq k l).filter (fun e => decide (e.2.1 < k + (i : Int))) = evsq k (l.take i)
  | [], k, i => by simp [evsq]
  | p :: l, k, 0 => by
    have h : ∀ e ∈ evsq k (p :: l), ¬ (decide (e.2.1 < k + ((0 : Nat) : Int)) = true) := by
      intro e he
      obtain ⟨i, q, _, h2, _⟩ := evsq_mem he
      simp; omega
    rw [List.filter_eq_nil_iff.2 h]; rfl
  | p :: l, k, i + 1 => by
    have e : k + ((i + 1 : Nat) : Int) = k + 1 + (i : Int) := by omega
    rw [evsq, List.filter_cons_of_pos (by simp; omega), List.filter_cons_of_pos (by simp; omega), e, evsq_cut l (k + 1) i, List.take_succ_cons, evsq]
theorem evsq_ok {l : List (Int × Int)} (h : Dst l) (k : Int) : OkF cmp3 (evsq k l) := by
  refine ⟨fun x _ => by unfold cmp3; omega, fun x _ y _ z _ a b => by unfold cmp3 at *; omega, fun x hx y hy a b => ?_⟩
  refine nodup_inj (by rw [evsq_times]; exact h.nd) x hx y hy ?_
  unfold cmp3 at a b; show x.1 = y.1; omega
theorem Dst.take {l : List (Int × Int)} (h : Dst l) (i : Nat) : Dst (l.take i) := by
  refine ⟨?_, fun p hp => h.lt p (List.mem_of_mem_take hp)⟩
  have := h.nd
  rw [← List.take_append_drop i l, List.flatMap_append, List.nodup_append] at this
  exact this.1
def sorted (l : List (Int × Int)) : List Ev3 := isortF cmp3 (evsq 0 l)
theorem sorted_cut {l : List (Int × Int)} (h : Dst l) (i : Nat) : (sorted l).filter (fun e => decide (e.2.1 < (i : Int))) = sorted (l.take i) := by
  have hp : ((sorted l).filter (fun e => decide (e.2.1 < (i : Int)))).Perm (evsq 0 (l.take i)) := by
    rw [← evsq_cut l 0 i]
    simp only [Int.zero_add]
    exact (isortF_perm cmp3 (evsq 0 l)).filter _
  refine asc_one ((evsq_ok (h.take i) 0).sub fun x hx => hp.mem_iff.1 hx) (hp.trans (isortF_perm cmp3 _).symm) ?_ (isortF_asc (evsq_ok (h.take i) 0))
  exact List.Pairwise.filter _ (isortF_asc (evsq_ok h 0))
/-- the first sets can be on these tracks -/
def valid (room : List Int) (l : List (Int × Int)) (tracks : List Int) : Bool := run room tracks (sorted (l.take tracks.length)) (List.replicate room.length [])
theorem sorted_mem {l : List (Int × Int)} {e : Ev3} : e ∈ sorted l ↔ e ∈ evsq 0 l := (isortF_perm cmp3 (evsq 0 l)).mem_iff
theorem valid_take {room : List Int} {l : List (Int × Int)} (h : Dst l) {tracks : List Int} (hv : valid room l tracks = true) (i : Nat) (hi : i ≤ tracks.length) : valid room l (tracks.take i) = true := by
  unfold valid at *
  have := run_cutq (i := i) (E := sorted (l.take tracks.length)) (fun e he => by
    obtain ⟨j, q, _, h2, _⟩ := evsq_mem (sorted_mem.1 he); omega) hv
  rw [sorted_cut (h.take _), List.take_take, Nat.min_eq_left hi] at this
  have hc : cutS (i : Int) (List.replicate room.length []) = List.replicate room.length [] := by unfold cutS; simp
  rw [hc] at this
  rw [List.length_take, Nat.min_eq_left hi]
  exact this
theorem valid_nil (room : List Int) (l : List (Int × Int)) : valid room l [] = true := rfl

/-! the first of all lists -/
section
variable (V : List Int → Bool) (D : Nat)
def Fd (g : List Int → Option (List Int)) : Nat → List Int → Option (List Int)
  | 0, _ => none
  | j + 1, p => match g (p ++ [((D - (j + 1) : Nat) : Int)]) with
    | some v => some v
    | none => Fd g j p
def Fst : Nat → List Int → Option (List Int)
  | 0, p => if V p then some p else none
  | m + 1, p => Fd D (Fst m) D p
def takeV (v : List Int) (st : List Int) : Bool × List Int := if V v then (true, v) else (false, st)
theorem Cn_Fst : ∀ (m : Nat) (p st : List Int), Cn D (takeV V) m p st = match Fst V D m p with | some v => (true, v) | none => (false, st)
  | 0, p, st => by
    rw [Cn, Fst, takeV]
    cases V p <;> simp
  | m + 1, p, st => by
    rw [Cn, Fst]
    have : ∀ j, Cd D (Cn D (takeV V) m) j p st = match Fd D (Fst V D m) j p with | some v => (true, v) | none => (false, st) := by
      intro j
      induction j with
      | zero => rfl
      | succ j ih =>
        rw [Cd, Fd, Cn_Fst m]
        cases Fst V D m (p ++ [((D - (j + 1) : Nat) : Int)]) with
        | some v => simp
        | none => simpa using ih
    exact this D
variable {V D}
theorem Fst_some : ∀ {m : Nat} {p v : List Int}, Fst V D m p = some v → V v = true ∧ v.take p.length = p ∧ v.length = p.length + m
  | 0, p, v, h => by
    rw [Fst] at h
    by_cases c : V p = true
    · rw [if_pos c] at h; obtain rfl := Option.some.inj h; exact ⟨c, by simp, rfl⟩
    · rw [if_neg c] at h; cases h
  | m + 1, p, v, h => by
    rw [Fst] at h
    have : ∀ j, Fd D (Fst V D m) j p = some v → V v = true ∧ v.take p.length = p ∧ v.length = p.length + (m + 1) := by
      intro j
      induction j with
      | zero => intro h; cases h
      | succ j ih =>
        intro h
        rw [Fd] at h
        cases k : Fst V D m (p ++ [((D - (j + 1) : Nat) : Int)]) with
        | some v' =>
          rw [k] at h; obtain rfl := Option.some.inj h
          obtain ⟨h1, h2, h3⟩ := Fst_some k
          refine ⟨h1, ?_, by rw [h3]; simp; omega⟩
          have := congrArg (List.take p.length) h2
          rw [List.take_take, List.length_append, Nat.min_eq_left (by omega), List.take_left] at this
          exact this
        | none => rw [k] at h; exact ih h
    exact this D h
theorem Fst_prune (hV : ∀ v i, i ≤ v.length → V v = true → V (v.take i) = true) {m : Nat} {p : List Int} (h : V p = false) : Fst V D m p = none := by
  cases k : Fst V D m p with
  | none => rfl
  | some v =>
    obtain ⟨h1, h2, h3⟩ := Fst_some k
    have := hV v p.length (by omega) h1
    rw [h2, h] at this; cases this
end
/-! what the walks through the events say -/
def evp (e : FleetEvent) : Ev3 := (e.at_, e.set_, e.in_)
def evr (e : Fishref2Event) : Ev3 := (e.at_, e.set_, e.in_)
def prs (l : List FleetStay) : List (Int × Int) := l.map fun s => (s.In, s.Out)
theorem insF_map {α β : Type} {f : α → β} {c : α → α → Int} {d : β → β → Int} (x : α) : ∀ (l : List α), (∀ y ∈ l, c x y < 0 ↔ d (f x) (f y) < 0) → (insF c x l).map f = insF d (f x) (l.map f)
  | [], _ => rfl
  | y :: l, h => by
    rw [insF, List.map_cons, insF]
    by_cases k : c x y < 0
    · rw [if_pos k, if_pos ((h y (by simp)).1 k)]; rfl
    · rw [if_neg k, if_neg (fun q => k ((h y (by simp)).2 q)), List.map_cons, insF_map x l (fun z hz => h z (by simp [hz]))]
theorem isortF_map {α β : Type} {f : α → β} {c : α → α → Int} {d : β → β → Int} : ∀ (l : List α), (∀ x ∈ l, ∀ y ∈ l, c x y < 0 ↔ d (f x) (f y) < 0) → (isortF c l).map f = isortF d (l.map f)
  | [], _ => rfl
  | x :: l, h => by
    rw [isortF, insF_map (d := d) x _ (fun y hy => h x (by simp) y (List.mem_cons_of_mem _ ((isortF_perm c l).mem_iff.1 hy))), isortF_map (d := d) l (fun y hy z hz => h y (by simp [hy]) z (by simp [hz]))]
    rfl
theorem okF_of_map {α β : Type} {f : α → β} {c : α → α → Int} {d : β → β → Int} (hf : ∀ x y, f x = f y → x = y) {l : List α} (h : ∀ x ∈ l, ∀ y ∈ l, c x y < 0 ↔ d (f x) (f y) < 0) (k : OkF d (l.map f)) : OkF c l := by
  have hm : ∀ x ∈ l, f x ∈ l.map f := fun x hx => List.mem_map.2 ⟨x, hx, rfl⟩
  refine ⟨fun x hx q => k.irr _ (hm x hx) ((h x hx x hx).1 q), fun x hx y hy z hz a b => (h x hx z hz).2 (k.tr _ (hm x hx) _ (hm y hy) _ (hm z hz) ((h x hx y hy).1 a) ((h y hy z hz).1 b)), fun x hx y hy a b => ?_⟩
  exact hf _ _ (k.tie _ (hm x hx) _ (hm y hy) (fun q => a ((h x hx y hy).2 q)) (fun q => b ((h y hy x hx).2 q)))
theorem srt_map {α β : Type} [DecidableEq α] {f : α → β} {c : α → α → Int} {d : β → β → Int} (hf : ∀ x y, f x = f y → x = y) {l : List α} (hl : l.length < 4294967296) (h : ∀ x ∈ l, ∀ y ∈ l, c x y < 0 ↔ d (f x) (f y) < 0) (k : OkF d (l.map f)) :
    srtF c l = some (isortF c l) ∧ (isortF c l).map f = isortF d (l.map f) := ⟨srtF_of (okF_of_map hf h k) hl, isortF_map l h⟩
theorem cmpc_lt (x y : Int) : CmpCompareint x y < 0 ↔ x < y := by
  unfold CmpCompareint CmpisNaNint
  simp
  by_cases h : x < y
  · simp [h]
  · by_cases k : y < x <;> simp [h, k]
theorem evp_cmp (a b : FleetEvent) : Fleetstored_1 a b < 0 ↔ cmp3 (evp a) (evp b) < 0 := by
  unfold Fleetstored_1 cmp3 evp
  rw [cmpc_lt]; simp only; omega
theorem evr_cmp (a b : Fishref2Event) (ha : 0 ≤ a.at_ ∧ a.at_ ≤ 28800) (hb : 0 ≤ b.at_ ∧ b.at_ ≤ 28800) : Fishref2Stands_1 a b < 0 ↔ cmp3 (evr a) (evr b) < 0 := by
  unfold Fishref2Stands_1 cmp3 evr
  rw [w64_id (by omega)]
theorem evp_inj (a b : FleetEvent) (h : evp a = evp b) : a = b := by
  cases a; cases b; simp only [evp, Prod.mk.injEq] at h; obtain ⟨rfl, rfl, rfl⟩ := h; rfl
theorem evr_inj (a b : Fishref2Event) (h : evr a = evr b) : a = b := by
  cases a; cases b; simp only [evr, Prod.mk.injEq] at h; obtain ⟨rfl, rfl, rfl⟩ := h; rfl
theorem prs_get {l : List FleetStay} {k : Nat} (h : k < l.length) : (prs l)[k]'(by unfold prs; simpa using h) = (l[k].In, l[k].Out) := by unfold prs; simp
/-- the program's list of events -/
theorem pevs {l : List FleetStay} (hl : l.length ≤ 8) : ∀ (tr : List Int) (k : Nat) (q : List FleetEvent), k + tr.length ≤ l.length → q.map evp = evsq 0 ((prs l).take k) →
    ∃ E, Fleetstored.loop1 l tr k q = some E ∧ E.map evp = evsq 0 ((prs l).take (k + tr.length))
  | [], k, q, _, hq => ⟨q, rfl, by simpa using hq⟩
  | t :: tr, k, q, hk, hq => by
    simp only [List.length_cons] at hk
    have hkl : k < l.length := by omega
    have hql : q.length ≤ 16 := by
      have := congrArg List.length hq
      rw [List.length_map, evsq_len, List.length_take] at this
      unfold prs at this; rw [List.length_map] at this; omega
    rw [Fleetstored.loop1, gx_at hkl, Option.bind_some, Option.bind_some, apd_lt (by simp; omega), Option.bind_some]
    have hp : (prs l).length = l.length := by unfold prs; simp
    obtain ⟨E, h1, h2⟩ := pevs hl tr (k + 1) (q ++ [FleetEvent.mk l[k].In ((k : Nat) : Int) true, FleetEvent.mk l[k].Out ((k : Nat) : Int) false]) (by omega) (by
      rw [List.map_append, hq, ← List.take_append_getElem (by rw [hp]; exact hkl), evsq_snoc, prs_get hkl, List.length_take, hp, Nat.min_eq_left (by omega)]
      simp [evp])
    exact ⟨E, h1, by rw [h2]; simp only [List.length_cons]; congr 2; omega⟩
theorem revs {L : List FleetStay} (hL : L.length ≤ 8) : ∀ (l : List FleetStay) (k : Nat) (q : List Fishref2Event), L.drop k = l → k ≤ L.length → q.map evr = evsq 0 ((prs L).take k) →
    ∃ E, Fishref2Stands.loop1 l k q = some E ∧ E.map evr = evsq 0 (prs L)
  | [], k, q, hd, hk, hq => ⟨q, rfl, by
      have : L.length ≤ k := List.drop_eq_nil_iff.1 hd
      rw [hq, List.take_of_length_le (by unfold prs; simpa using this)]⟩
  | s :: l, k, q, hd, hk, hq => by
    have hkl : k < L.length := by
      rcases Nat.lt_or_ge k L.length with h | h
      · exact h
      · rw [List.drop_eq_nil_of_le h] at hd; cases hd
    rw [List.drop_eq_getElem_cons hkl] at hd
    obtain ⟨rfl, hd2⟩ := List.cons.inj hd
    have hql : q.length ≤ 16 := by
      have := congrArg List.length hq
      rw [List.length_map, evsq_len, List.length_take] at this
      unfold prs at this; rw [List.length_map] at this; omega
    rw [Fishref2Stands.loop1, apd_lt (by simp; omega), Option.bind_some]
    have hp : (prs L).length = L.length := by unfold prs; simp
    exact revs hL l (k + 1) _ hd2 (by omega) (by
      rw [List.map_append, hq, ← List.take_append_getElem (by rw [hp]; exact hkl), evsq_snoc, prs_get hkl, List.length_take, hp, Nat.min_eq_left (by omega)]
      simp [evr])

/-! events that are told once, in order -/
structure Good (n : Nat) (E : List Ev3) : Prop where
  at_ : ∀ e ∈ E, 0 ≤ e.2.1 ∧ e.2.1 < n
  out : ∀ k b s, E[k]? = some (b, s, false) → (∃ a, (a, s, true) ∈ E.take k) ∧ ∀ b', (b', s, false) ∉ E.take k
theorem sorted_good {l : List (Int × Int)} (h : Dst l) : Good l.length (sorted l) := by
  have hnd : (sorted l).Nodup := by
    refine (isortF_perm cmp3 (evsq 0 l)).nodup_iff.2 ?_
    have h1 : ((evsq 0 l).map (·.1)).Nodup := by rw [evsq_times]; exact h.nd
    exact (List.pairwise_map.1 h1).imp (fun hab e => hab (by rw [e]))
  have hasc : AscF cmp3 (sorted l) := isortF_asc (evsq_ok h 0)
  refine ⟨fun e he => ?_, fun k b s hk => ?_⟩
  · obtain ⟨i, p, h1, h2, _⟩ := evsq_mem (sorted_mem.1 he)
    have := (List.getElem?_eq_some_iff.1 h1).1
    omega
  · obtain ⟨hkl, hke⟩ := List.getElem?_eq_some_iff.1 hk
    obtain ⟨i, p, h1, h2, h3⟩ := evsq_mem (sorted_mem.1 (List.mem_of_getElem? hk))
    simp only [Bool.false_eq_true, false_and, true_and, false_or] at h3
    have hs : s = (i : Int) := by simpa using h2
    have hb : b = p.2 := h3
    have hlt := h.lt p (List.mem_of_getElem? h1)
    have hin := (evsq_has (k := 0) h1).1
    rw [Int.zero_add] at hin
    obtain ⟨j, hj, hje⟩ := List.getElem_of_mem (sorted_mem.2 hin)
    refine ⟨⟨p.1, ?_⟩, fun b' hb' => ?_⟩
    · have hjk : j < k := by
        rcases Nat.lt_trichotomy j k with q | q | q
        · exact q
        · subst q; rw [hje] at hke; cases hke
        · have := List.pairwise_iff_getElem.1 hasc k j hkl hj q
          rw [hke, hje] at this
          unfold cmp3 at this
          simp only at this
          omega
      rw [hs, ← hje]
      exact List.mem_take_iff_getElem.2 ⟨j, by omega, rfl⟩
    · obtain ⟨j', hj', he'⟩ := List.mem_take_iff_getElem.1 hb'
      have hm : (b', s, false) ∈ sorted l := List.mem_of_mem_take hb'
      obtain ⟨i', p', h1', h2', h3'⟩ := evsq_mem (sorted_mem.1 hm)
      simp only [Bool.false_eq_true, false_and, true_and, false_or] at h3'
      have e1 : i' = i := by simp only at h2' h2; omega
      subst e1
      rw [h1'] at h1
      obtain rfl := Option.some.inj h1
      have e2 : b' = b := by rw [hb]; exact h3'
      subst e2
      have := List.pairwise_iff_getElem.1 hnd j' k (by omega) hkl (by omega)
      rw [he', hke] at this
      exact this rfl

/-- what the stacks are behind events -/
structure PInv (room tracks : List Int) (P : List Ev3) (S : List (List Int)) : Prop where
  len : S.length = room.length
  cap : ∀ (j : Nat) st r, S[j]? = some st → room[j]? = some r → (st.length : Int) ≤ r
  here : ∀ s, (∃ a, (a, s, true) ∈ P) → (∀ b, (b, s, false) ∉ P) → ∀ t, tracks[s.toNat]? = some t → ∃ st, S[t.toNat]? = some st ∧ s ∈ st
theorem pinv_start {room tracks : List Int} (h : ∀ r ∈ room, 1 ≤ r ∧ r ≤ 4) : PInv room tracks [] (List.replicate room.length []) := by
  refine ⟨by simp, fun j st r h1 h2 => ?_, fun s ⟨a, ha⟩ _ _ _ => by cases ha⟩
  rw [List.getElem?_replicate] at h1
  split at h1
  · obtain rfl := Option.some.inj h1
    have := h r (List.mem_of_getElem? h2)
    simp; omega
  · cases h1
theorem set_get {α : Type} {l : List α} {i j : Nat} {x y : α} (h : (l.set i x)[j]? = some y) : (j = i ∧ y = x) ∨ (j ≠ i ∧ l[j]? = some y) := by
  by_cases e : j = i
  · subst e
    rw [List.getElem?_set_self'] at h
    cases k : l[j]? with
    | none => rw [k] at h; cases h
    | some z => rw [k] at h; exact .inl ⟨rfl, (Option.some.inj h).symm⟩
  · rw [List.getElem?_set_ne (fun q => e q.symm)] at h
    exact .inr ⟨e, h⟩
/-- one event more -/
theorem pinv_step {room tracks : List Int} {n : Nat} {E : List Ev3} (hE : Good n E) {k : Nat} {a : Int} {s : Int} {b : Bool} (hk : E[k]? = some (a, s, b)) {S S' : List (List Int)} (h : PInv room tracks (E.take k) S) (hs : stp room tracks S (a, s, b) = some S') : PInv room tracks (E.take (k + 1)) S' := by
  obtain ⟨hkl, hke⟩ := List.getElem?_eq_some_iff.1 hk
  have htk : E.take (k + 1) = E.take k ++ [(a, s, b)] := by rw [← hke, List.take_append_getElem]
  unfold stp at hs
  simp only at hs
  cases hT : tracks[s.toNat]? with
  | none => rw [hT] at hs; cases hs
  | some t =>
    rw [hT] at hs
    simp only at hs
    cases hS : S[t.toNat]? with
    | none => rw [hS] at hs; cases hs
    | some st =>
      cases hR : room[t.toNat]? with
      | none => rw [hS, hR] at hs; cases hs
      | some r =>
        rw [hS, hR] at hs
        simp only at hs
        have htl := (List.getElem?_eq_some_iff.1 hS).1
        have s0 := (hE.at_ _ (List.mem_of_getElem? hk)).1
        simp only at s0
        cases b with
        | true =>
          simp only [if_true] at hs
          by_cases c : (st.length : Int) < r
          · rw [if_pos c] at hs
            obtain rfl := Option.some.inj hs
            refine ⟨by rw [List.length_set]; exact h.len, fun j st' r' h1 h2 => ?_, fun s' hin hno t' ht' => ?_⟩
            · rcases set_get h1 with ⟨rfl, rfl⟩ | ⟨_, h1⟩
              · rw [hR] at h2; obtain rfl := Option.some.inj h2; simp; omega
              · exact h.cap j st' r' h1 h2
            · by_cases e : s' = s
              · subst e
                rw [hT] at ht'; obtain rfl := Option.some.inj ht'
                exact ⟨st ++ [s'], by rw [List.getElem?_set_self htl], by simp⟩
              · have hin' : ∃ a, (a, s', true) ∈ E.take k := by
                  obtain ⟨a', ha'⟩ := hin
                  rw [htk] at ha'
                  rcases List.mem_append.1 ha' with q | q
                  · exact ⟨a', q⟩
                  · simp at q; exact absurd q.2 e
                have hno' : ∀ b, (b, s', false) ∉ E.take k := fun b hb => hno b (by rw [htk]; exact List.mem_append_left _ hb)
                obtain ⟨st', q1, q2⟩ := h.here s' hin' hno' t' ht'
                by_cases e2 : t'.toNat = t.toNat
                · rw [e2] at q1 ⊢
                  rw [hS] at q1; obtain rfl := Option.some.inj q1
                  exact ⟨st ++ [s], by rw [List.getElem?_set_self htl], by simp [q2]⟩
                · exact ⟨st', by rw [List.getElem?_set_ne (fun q => e2 q.symm)]; exact q1, q2⟩
          · rw [if_neg c] at hs; cases hs
        | false =>
          simp only [Bool.false_eq_true, if_false] at hs
          by_cases c : st.getLast? = some s
          · rw [if_pos c] at hs
            obtain rfl := Option.some.inj hs
            obtain ⟨ys, rfl⟩ := List.getLast?_eq_some_iff.1 c
            rw [List.dropLast_concat]
            refine ⟨by rw [List.length_set]; exact h.len, fun j st' r' h1 h2 => ?_, fun s' hin hno t' ht' => ?_⟩
            · rcases set_get h1 with ⟨rfl, rfl⟩ | ⟨_, h1⟩
              · have := h.cap _ _ _ hS h2; simp at this; omega
              · exact h.cap j st' r' h1 h2
            · by_cases e : s' = s
              · subst e
                exact absurd (show (a, s', false) ∈ E.take (k + 1) by rw [htk]; simp) (hno a)
              · have hin' : ∃ a, (a, s', true) ∈ E.take k := by
                  obtain ⟨a', ha'⟩ := hin
                  rw [htk] at ha'
                  rcases List.mem_append.1 ha' with q | q
                  · exact ⟨a', q⟩
                  · simp at q
                have hno' : ∀ b, (b, s', false) ∉ E.take k := fun b hb => hno b (by rw [htk]; exact List.mem_append_left _ hb)
                obtain ⟨st', q1, q2⟩ := h.here s' hin' hno' t' ht'
                by_cases e2 : t'.toNat = t.toNat
                · rw [e2] at q1 ⊢
                  rw [hS] at q1; obtain rfl := Option.some.inj q1
                  refine ⟨ys, by rw [List.getElem?_set_self htl], ?_⟩
                  rcases List.mem_append.1 q2 with q | q
                  · exact q
                  · simp at q; exact absurd q e
                · exact ⟨st', by rw [List.getElem?_set_ne (fun q => e2 q.symm)]; exact q1, q2⟩
          · rw [if_neg c] at hs; cases hs
/-! the walks through the events -/
section
variable {room tracks : List Int} (hroom : ∀ r ∈ room, 1 ≤ r ∧ r ≤ 4) (htr : Dig room.length tracks)
include hroom htr
/-- what a step reads -/
theorem reads {n : Nat} {E : List Ev3} (hE : Good n E) (hn : n ≤ tracks.length) {k : Nat} {a s : Int} {b : Bool} (hk : E[k]? = some (a, s, b)) {S : List (List Int)} {P : List Ev3} (h : PInv room tracks P S) :
    ∃ (i j : Nat) (st : List Int) (r : Int), s = (i : Int) ∧ tracks[i]? = some ((j : Nat) : Int) ∧ S[j]? = some st ∧ room[j]? = some r ∧ 1 ≤ r ∧ r ≤ 4 ∧ (st.length : Int) ≤ r ∧ j < room.length ∧ i < tracks.length := by
  have h1 := hE.at_ _ (List.mem_of_getElem? hk)
  simp only at h1
  have hi : s.toNat < tracks.length := by omega
  have ht := htr tracks[s.toNat] (List.getElem_mem hi)
  have hj : tracks[s.toNat].toNat < room.length := by omega
  have hjS : tracks[s.toNat].toNat < S.length := by rw [h.len]; exact hj
  have hr := hroom _ (List.getElem_mem hj)
  refine ⟨s.toNat, tracks[s.toNat].toNat, S[tracks[s.toNat].toNat], room[tracks[s.toNat].toNat], by omega, ?_, List.getElem?_eq_getElem hjS, List.getElem?_eq_getElem hj, hr.1, hr.2, h.cap _ _ _ (List.getElem?_eq_getElem hjS) (List.getElem?_eq_getElem hj), hj, hi⟩
  rw [List.getElem?_eq_getElem hi]; congr 1; omega
theorem ploop {n : Nat} {q : List FleetEvent} (hE : Good n (q.map evp)) (hn : n ≤ tracks.length) : ∀ (m k : Nat) (S : List (List Int)), k + m = q.length → PInv room tracks ((q.map evp).take k) S →
    ∃ o, Fleetstored.loop2 room tracks q m k S = some o ∧ ((∃ S', o = .next S' ∧ run room tracks ((q.map evp).drop k) S = true) ∨ (o = .ret false ∧ run room tracks ((q.map evp).drop k) S = false))
  | 0, k, S, hk, _ => ⟨_, rfl, .inl ⟨S, rfl, by rw [List.drop_eq_nil_of_le (by simp; omega)]; rfl⟩⟩
  | m + 1, k, S, hk, hI => by
    have hkq : k < q.length := by omega
    have hkE : (q.map evp)[k]? = some (q[k].at_, q[k].set_, q[k].in_) := by rw [List.getElem?_map, List.getElem?_eq_getElem hkq]; rfl
    obtain ⟨i, j, st, r, rs, rt, rS, rR, r1, r4, rc, rj, ri⟩ := reads hroom htr hE hn hkE hI
    have hd : (q.map evp).drop k = (q[k].at_, q[k].set_, q[k].in_) :: (q.map evp).drop (k + 1) := by
      rw [List.drop_eq_getElem_cons (by simpa using hkq)]; simp [evp]
    have gt : gx tracks q[k].set_ = some ((j : Nat) : Int) := by rw [rs, gx_nat]; exact rt
    have gS : ∀ (T : List (List Int)), gx T ((j : Nat) : Int) = T[j]? := fun T => gx_nat T j
    have gR : gx room ((j : Nat) : Int) = some r := by rw [gx_nat]; exact rR
    have hjS : j < S.length := by rw [hI.len]; exact rj
    have hst : stp room tracks S (q[k].at_, q[k].set_, q[k].in_) = if q[k].in_ then (if (st.length : Int) < r then some (S.set j (st ++ [q[k].set_])) else none) else if st.getLast? = some q[k].set_ then some (S.set j st.dropLast) else none := by
      unfold stp
      simp only
      rw [rs, Int.toNat_natCast, rt]
      simp only
      rw [Int.toNat_natCast, rS, rR]
    rw [Fleetstored.loop2, gx_at hkq, Option.bind_some, gt, Option.bind_some, ix_in (by omega) (by omega), Option.bind_some, hd, run]
    have nxt : ∀ S', stp room tracks S (q[k].at_, q[k].set_, q[k].in_) = some S' → ∃ o, Fleetstored.loop2 room tracks q m (k + 1) S' = some o ∧ ((∃ S'', o = .next S'' ∧ run room tracks ((q.map evp).drop (k + 1)) S' = true) ∨ (o = .ret false ∧ run room tracks ((q.map evp).drop (k + 1)) S' = false)) :=
      fun S' h => ploop hE hn m (k + 1) S' (by omega) (pinv_step hE hkE hI h)
    by_cases b : q[k].in_ = true
    · rw [if_pos b, gS, rS, Option.bind_some, Option.bind_some, gR, Option.bind_some]
      by_cases c : (st.length : Int) = r
      · have cb : ((st.length : Int) == r) = true := by simpa using c
        rw [if_pos cb]
        refine ⟨_, rfl, .inr ⟨rfl, ?_⟩⟩
        rw [hst, if_pos b, if_neg (by omega)]
      · have cb : ¬ (((st.length : Int) == r) = true) := by simpa using c
        have hs : stp room tracks S (q[k].at_, q[k].set_, q[k].in_) = some (S.set j (st ++ [q[k].set_])) := by rw [hst, if_pos b, if_pos (by omega)]
        rw [if_neg cb, Option.bind_some, apd_lt (by simp; omega), Option.bind_some, sx_in (by omega) (by omega), Option.bind_some, Int.toNat_natCast, hs]
        exact nxt _ hs
    · rw [if_neg b, gS, rS, Option.bind_some, Option.bind_some]
      have hb : q[k].in_ = false := by simpa using b
      have hne : st ≠ [] := by
        rw [hb] at hkE
        obtain ⟨h1, h2⟩ := hE.out k _ _ hkE
        obtain ⟨st', q1, q2⟩ := hI.here q[k].set_ h1 h2 ((j : Nat) : Int) (by rw [rs, Int.toNat_natCast]; exact rt)
        rw [Int.toNat_natCast, rS] at q1
        obtain rfl := Option.some.inj q1
        intro e; rw [e] at q2; cases q2
      have hlp := List.length_pos_iff.2 hne
      have hw : w64 ((st.length : Int) - 1) = ((st.length - 1 : Nat) : Int) := by rw [w64_id (by omega)]; omega
      rw [hw, gx_at (by omega), Option.bind_some]
      have hlast : st.getLast? = some (st[st.length - 1]) := by rw [List.getLast?_eq_getElem?, List.getElem?_eq_getElem (by omega)]
      by_cases c : st[st.length - 1] = q[k].set_
      · have cb : ¬ ((st[st.length - 1] != q[k].set_) = true) := by simpa using c
        have hs : stp room tracks S (q[k].at_, q[k].set_, q[k].in_) = some (S.set j st.dropLast) := by rw [hst, if_neg b, if_pos (by rw [hlast, c])]
        rw [if_neg cb, Option.bind_some, Option.bind_some, hw, cutl_in (by omega) (by omega) (by omega), Option.bind_some, sx_in (by omega) (by omega), Option.bind_some, Int.toNat_natCast, Int.toNat_natCast, hs]
        simp only
        have e : List.drop (Int.toNat 0) (List.take (st.length - 1) st) = st.dropLast := by rw [List.dropLast_eq_take]; rfl
        rw [e]
        exact nxt _ hs
      · have cb : (st[st.length - 1] != q[k].set_) = true := by simpa using c
        rw [if_pos cb]
        refine ⟨_, rfl, .inr ⟨rfl, ?_⟩⟩
        rw [hst, if_neg b, if_neg (by rw [hlast]; intro h; exact c (Option.some.inj h))]
theorem rloop {n : Nat} {q : List Fishref2Event} (hE : Good n (q.map evr)) (hn : n ≤ tracks.length) : ∀ (m k : Nat) (S : List (List Int)), k + m = q.length → PInv room tracks ((q.map evr).take k) S →
    ∃ o, Fishref2Stands.loop2 room tracks q m k S = some o ∧ ((∃ S', o = .next S' ∧ run room tracks ((q.map evr).drop k) S = true) ∨ (o = .ret false ∧ run room tracks ((q.map evr).drop k) S = false))
  | 0, k, S, hk, _ => ⟨_, rfl, .inl ⟨S, rfl, by rw [List.drop_eq_nil_of_le (by simp; omega)]; rfl⟩⟩
  | m + 1, k, S, hk, hI => by
    have hkq : k < q.length := by omega
    have hkE : (q.map evr)[k]? = some (q[k].at_, q[k].set_, q[k].in_) := by rw [List.getElem?_map, List.getElem?_eq_getElem hkq]; rfl
    obtain ⟨i, j, st, r, rs, rt, rS, rR, r1, r4, rc, rj, ri⟩ := reads hroom htr hE hn hkE hI
    have hd : (q.map evr).drop k = (q[k].at_, q[k].set_, q[k].in_) :: (q.map evr).drop (k + 1) := by
      rw [List.drop_eq_getElem_cons (by simpa using hkq)]; simp [evr]
    have gt : gx tracks q[k].set_ = some ((j : Nat) : Int) := by rw [rs, gx_nat]; exact rt
    have gS : ∀ (T : List (List Int)), gx T ((j : Nat) : Int) = T[j]? := fun T => gx_nat T j
    have gR : gx room ((j : Nat) : Int) = some r := by rw [gx_nat]; exact rR
    have hjS : j < S.length := by rw [hI.len]; exact rj
    have hst : stp room tracks S (q[k].at_, q[k].set_, q[k].in_) = if q[k].in_ then (if (st.length : Int) < r then some (S.set j (st ++ [q[k].set_])) else none) else if st.getLast? = some q[k].set_ then some (S.set j st.dropLast) else none := by
      unfold stp
      simp only
      rw [rs, Int.toNat_natCast, rt]
      simp only
      rw [Int.toNat_natCast, rS, rR]
    have hin : ((if decide (((j : Nat) : Int) < 0) then true else decide (((j : Nat) : Int) ≥ ((room).length : Int))) : Bool) = false := by
      have h1 : ¬ ((j : Nat) : Int) < 0 := by omega
      have h2 : ¬ ((j : Nat) : Int) ≥ (room.length : Int) := by omega
      simp [h1, h2]
    rw [Fishref2Stands.loop2, gx_at hkq, Option.bind_some, gt, Option.bind_some, bnd_eq, hin, if_neg (by simp), hd, run]
    have nxt : ∀ S', stp room tracks S (q[k].at_, q[k].set_, q[k].in_) = some S' → ∃ o, Fishref2Stands.loop2 room tracks q m (k + 1) S' = some o ∧ ((∃ S'', o = .next S'' ∧ run room tracks ((q.map evr).drop (k + 1)) S' = true) ∨ (o = .ret false ∧ run room tracks ((q.map evr).drop (k + 1)) S' = false)) :=
      fun S' h => rloop hE hn m (k + 1) S' (by omega) (pinv_step hE hkE hI h)
    by_cases b : q[k].in_ = true
    · rw [if_pos b, gS, rS, Option.bind_some, apd_lt (by simp; omega), Option.bind_some, ix_in (by omega) (by omega), Option.bind_some, sx_in (by omega) (by omega), Option.bind_some, Int.toNat_natCast, gS, List.getElem?_set_self hjS, Option.bind_some, gR, Option.bind_some]
      by_cases c : (st.length : Int) = r
      · have cb : decide (((st ++ [q[k].set_]).length : Int) > r) = true := decide_eq_true (by rw [List.length_append, List.length_singleton]; omega)
        rw [if_pos cb]
        refine ⟨_, rfl, .inr ⟨rfl, ?_⟩⟩
        rw [hst, if_pos b, if_neg (by omega)]
      · have hs : stp room tracks S (q[k].at_, q[k].set_, q[k].in_) = some (S.set j (st ++ [q[k].set_])) := by rw [hst, if_pos b, if_pos (by omega)]
        have cb : ¬ (decide (((st ++ [q[k].set_]).length : Int) > r) = true) := by rw [decide_eq_true_eq, List.length_append, List.length_singleton]; omega
        rw [if_neg cb, hs]
        exact nxt _ hs
    · rw [if_neg b, gS, rS, Option.bind_some]
      have hb : q[k].in_ = false := by simpa using b
      have hne : st ≠ [] := by
        rw [hb] at hkE
        obtain ⟨h1, h2⟩ := hE.out k _ _ hkE
        obtain ⟨st', q1, q2⟩ := hI.here q[k].set_ h1 h2 ((j : Nat) : Int) (by rw [rs, Int.toNat_natCast]; exact rt)
        rw [Int.toNat_natCast, rS] at q1
        obtain rfl := Option.some.inj q1
        intro e; rw [e] at q2; cases q2
      have hlp := List.length_pos_iff.2 hne
      have hw : w64 ((st.length : Int) - 1) = ((st.length - 1 : Nat) : Int) := by rw [w64_id (by omega)]; omega
      rw [hw, if_neg (by simp), Option.bind_some, gx_at (by omega), Option.bind_some, Option.bind_some]
      have hlast : st.getLast? = some (st[st.length - 1]) := by rw [List.getLast?_eq_getElem?, List.getElem?_eq_getElem (by omega)]
      by_cases c : st[st.length - 1] = q[k].set_
      · have cb : ¬ ((st[st.length - 1] != q[k].set_) = true) := by simpa using c
        have hs : stp room tracks S (q[k].at_, q[k].set_, q[k].in_) = some (S.set j st.dropLast) := by rw [hst, if_neg b, if_pos (by rw [hlast, c])]
        rw [if_neg cb, Option.bind_some, cutl_in (by omega) (by omega) (by omega), Option.bind_some, ix_in (by omega) (by omega), Option.bind_some, sx_in (by omega) (by omega), Option.bind_some, Int.toNat_natCast, Int.toNat_natCast, hs]
        simp only
        have e : List.drop (Int.toNat 0) (List.take (st.length - 1) st) = st.dropLast := by rw [List.dropLast_eq_take]; rfl
        rw [e]
        exact nxt _ hs
      · have cb : (st[st.length - 1] != q[k].set_) = true := by simpa using c
        rw [if_pos cb]
        refine ⟨_, rfl, .inr ⟨rfl, ?_⟩⟩
        rw [hst, if_neg b, if_neg (by rw [hlast]; intro h; exact c (Option.some.inj h))]
end
/-- stays that can be stored at all -/
structure SOk (room : List Int) (l : List FleetStay) : Prop where
  rm : ∀ r ∈ room, 1 ≤ r ∧ r ≤ 4
  rl : 1 ≤ room.length ∧ room.length ≤ 4
  ll : l.length ≤ 8
  tm : ∀ s ∈ l, 0 ≤ s.In ∧ s.In ≤ 28800 ∧ 0 ≤ s.Out ∧ s.Out ≤ 28800
  dst : Dst (prs l)
theorem prs_len (l : List FleetStay) : (prs l).length = l.length := by unfold prs; simp
theorem stored_eq {room : List Int} {l : List FleetStay} (h : SOk room l) {tracks : List Int} (ht : Dig room.length tracks) (hl : tracks.length ≤ l.length) : Fleetstored room l tracks = some (valid room (prs l) tracks) := by
  obtain ⟨E, e1, e2⟩ := pevs h.ll tracks 0 [] (by omega) (by simp [evsq])
  rw [Nat.zero_add] at e2
  have hEl : E.length ≤ 16 := by
    have := congrArg List.length e2
    rw [List.length_map, evsq_len, List.length_take, prs_len] at this
    have := h.ll; omega
  obtain ⟨s1, s2⟩ := srt_map (d := cmp3) evp_inj (l := E) (by omega) (fun x _ y _ => evp_cmp x y) (by rw [e2]; exact evsq_ok (h.dst.take _) 0)
  rw [e2] at s2
  have hG := sorted_good (h.dst.take tracks.length)
  rw [List.length_take, prs_len, Nat.min_eq_left hl] at hG
  have s2' : (isortF Fleetstored_1 E).map evp = sorted ((prs l).take tracks.length) := s2
  rw [← s2'] at hG
  have hI : PInv room tracks (((isortF Fleetstored_1 E).map evp).take 0) (List.replicate room.length []) := pinv_start h.rm
  obtain ⟨o, o1, o2⟩ := ploop h.rm ht hG (Nat.le_refl _) E.length 0 _ (by rw [isortF_length]; omega) hI
  have hrl := h.rl
  unfold Fleetstored
  rw [e1, Option.bind_some, s1, Option.bind_some, mks_in (by omega), Option.bind_some, o1, Option.bind_some]
  rw [List.drop_zero, s2'] at o2
  rcases o2 with ⟨S', rfl, o3⟩ | ⟨rfl, o3⟩
  · simp only; unfold valid; rw [o3]
  · simp only; unfold valid; rw [o3]
theorem stands_eq {room : List Int} {l : List FleetStay} (h : SOk room l) {tracks : List Int} (ht : Dig room.length tracks) (hl : tracks.length = l.length) : Fishref2Stands room l tracks = some (valid room (prs l) tracks) := by
  obtain ⟨E, e1, e2⟩ := revs h.ll l 0 [] rfl (by omega) (by simp [evsq])
  have hEl : E.length ≤ 16 := by
    have := congrArg List.length e2
    rw [List.length_map, evsq_len, prs_len] at this
    have := h.ll; omega
  have hat : ∀ x ∈ E, 0 ≤ x.at_ ∧ x.at_ ≤ 28800 := by
    intro x hx
    have : evr x ∈ evsq 0 (prs l) := by rw [← e2]; exact List.mem_map.2 ⟨x, hx, rfl⟩
    obtain ⟨i, p, h1, _, h3⟩ := evsq_mem this
    unfold prs at h1
    rw [List.getElem?_map] at h1
    cases k : l[i]? with
    | none => rw [k] at h1; cases h1
    | some s =>
      rw [k] at h1
      obtain rfl := Option.some.inj h1
      have := h.tm s (List.mem_of_getElem? k)
      unfold evr at h3
      simp only at h3
      rcases h3 with ⟨_, h3⟩ | ⟨_, h3⟩ <;> omega
  obtain ⟨s1, s2⟩ := srt_map (d := cmp3) evr_inj (l := E) (by omega) (fun x hx y hy => evr_cmp x y (hat x hx) (hat y hy)) (by rw [e2]; exact evsq_ok h.dst 0)
  rw [e2] at s2
  have hG := sorted_good h.dst
  rw [prs_len] at hG
  have s2' : (isortF Fishref2Stands_1 E).map evr = sorted (prs l) := s2
  rw [← s2'] at hG
  have hI : PInv room tracks (((isortF Fishref2Stands_1 E).map evr).take 0) (List.replicate room.length []) := pinv_start h.rm
  obtain ⟨o, o1, o2⟩ := rloop h.rm ht hG (by omega) E.length 0 _ (by rw [isortF_length]; omega) hI
  have hrl := h.rl
  have hv : valid room (prs l) tracks = run room tracks (sorted (prs l)) (List.replicate room.length []) := by
    unfold valid; rw [List.take_of_length_le (by rw [prs_len]; omega)]
  unfold Fishref2Stands
  rw [e1, Option.bind_some, s1, Option.bind_some, mks_in (by omega), Option.bind_some, o1, Option.bind_some]
  rw [List.drop_zero, s2'] at o2
  rcases o2 with ⟨S', rfl, o3⟩ | ⟨rfl, o3⟩
  · simp only; rw [hv, o3]
  · simp only; rw [hv, o3]
/-! the search -/
section
variable {room : List Int} {l : List FleetStay} (h : SOk room l)
include h
theorem place_loop (self : Int → List FleetStay → List Int → List Int → Option (Bool × List Int)) {m i : Nat} (hi : i + (m + 1) = l.length) {p : List Int} (hp : p.length = i) (hpd : Dig room.length p)
    (ih : ∀ out : List Int, out.length = l.length → Dig room.length (out.take (i + 1)) → valid room (prs l) (out.take (i + 1)) = true →
      ∃ r out', self ((i + 1 : Nat) : Int) l room out = some (r, out') ∧ out'.length = l.length ∧ out'.take (i + 1) = out.take (i + 1) ∧ (match Fst (valid room (prs l)) room.length m (out.take (i + 1)) with | some v => r = true ∧ out' = v | none => r = false)) :
    ∀ (ro : List Int) (k : Nat) (out : List Int), k + ro.length = room.length → out.length = l.length → out.take i = p →
      ∃ o, FleetStore_1_v1.loop1 ((i : Nat) : Int) l room self ro k out = some o ∧
        (match Fd room.length (Fst (valid room (prs l)) room.length m) ro.length p with
          | some v => o = .ret (true, v)
          | none => ∃ out', o = .next out' ∧ out'.length = l.length ∧ out'.take i = p)
  | [], k, out, _, h1, h2 => ⟨_, rfl, out, rfl, h1, h2⟩
  | r0 :: ro, k, out, hk, h1, h2 => by
    simp only [List.length_cons] at hk
    have h8 := h.ll
    have hil : i < out.length := by omega
    have hw : w64 (((i : Nat) : Int) + 1) = ((i + 1 : Nat) : Int) := by rw [w64_id (by omega)]; omega
    have ht : (out.set i ((k : Nat) : Int)).take (i + 1) = p ++ [((k : Nat) : Int)] := by
      rw [List.take_set, List.take_add_one, h2, List.getElem?_eq_getElem hil, Option.toList_some, List.set_append_right _ _ (by omega), hp]
      simp
    have hD : Dig room.length (p ++ [((k : Nat) : Int)]) := dig_snoc room.length hpd (by omega) (by omega)
    have hcut : cutl (out.set i ((k : Nat) : Int)) 0 ((i + 1 : Nat) : Int) = some (p ++ [((k : Nat) : Int)]) := by
      rw [cutl_in (by omega) (by omega) (by rw [List.length_set]; omega), Int.toNat_natCast, ht]; rfl
    have hdk : room.length - (ro.length + 1) = k := by omega
    rw [FleetStore_1_v1.loop1, ix_in (by omega) (by omega), Option.bind_some, sx_in (by omega) (by omega), Option.bind_some, Int.toNat_natCast, hw, hcut, Option.bind_some,
      stored_eq h hD (by simp; omega), Option.bind_some, List.length_cons, Fd, hdk]
    cases hv : valid room (prs l) (p ++ [((k : Nat) : Int)]) with
    | false =>
      rw [Fst_prune (fun v j hj hv => valid_take h.dst hv j hj) hv]
      simp only [Bool.false_eq_true, if_false, Option.bind_some]
      exact place_loop self hi hp hpd ih ro (k + 1) _ (by omega) (by rw [List.length_set]; exact h1) (by rw [List.take_set, List.set_eq_of_length_le (by rw [List.length_take]; exact Nat.min_le_left _ _)]; exact h2)
    | true =>
      obtain ⟨r, out', s1, s2, s3, s4⟩ := ih (out.set i ((k : Nat) : Int)) (by rw [List.length_set]; exact h1) (by rw [ht]; exact hD) (by rw [ht]; exact hv)
      rw [ht] at s3 s4
      simp only [if_true]
      rw [s1, Option.bind_some, Option.bind_some]
      cases hF : Fst (valid room (prs l)) room.length m (p ++ [((k : Nat) : Int)]) with
      | some v =>
        rw [hF] at s4
        obtain ⟨rfl, rfl⟩ := s4
        exact ⟨_, rfl, rfl⟩
      | none =>
        rw [hF] at s4
        simp only at s4
        subst s4
        simp only [Bool.false_eq_true, if_false]
        refine place_loop self hi hp hpd ih ro (k + 1) out' (by omega) s2 ?_
        have := congrArg (List.take i) s3
        rw [List.take_take, Nat.min_eq_left (by omega), ← hp, List.take_left] at this
        rw [hp] at this; exact this
theorem place_ok : ∀ (m i fu : Nat) (out : List Int), i + m = l.length → m + 1 ≤ fu → out.length = l.length → Dig room.length (out.take i) → valid room (prs l) (out.take i) = true →
    ∃ r out', FleetStore_1_v1 fu ((i : Nat) : Int) l room out = some (r, out') ∧ out'.length = l.length ∧ out'.take i = out.take i ∧ (match Fst (valid room (prs l)) room.length m (out.take i) with | some v => r = true ∧ out' = v | none => r = false)
  | 0, i, fu, out, hi, hf, h1, h2, h3 => by
    obtain ⟨f, rfl⟩ : ∃ f, fu = f + 1 := ⟨fu - 1, by omega⟩
    have e : out.take i = out := List.take_of_length_le (by omega)
    rw [e] at h3 ⊢
    rw [FleetStore_1_v1, if_pos (by simp; omega), Fst, if_pos h3]
    exact ⟨true, out, rfl, h1, e, rfl, rfl⟩
  | m + 1, i, fu, out, hi, hf, h1, h2, h3 => by
    obtain ⟨f, rfl⟩ : ∃ f, fu = f + 1 := ⟨fu - 1, by omega⟩
    have hp : (out.take i).length = i := by rw [List.length_take]; omega
    obtain ⟨o, o1, o2⟩ := place_loop h (FleetStore_1_v1 f) hi hp h2 (fun out' q1 q2 q3 => place_ok m (i + 1) f out' (by omega) (by omega) q1 q2 q3) room 0 out (by omega) h1 rfl
    rw [FleetStore_1_v1, if_neg (by simp; omega), o1, Option.bind_some, Fst]
    cases hF : Fd room.length (Fst (valid room (prs l)) room.length m) room.length (out.take i) with
    | some v =>
      rw [hF] at o2
      simp only at o2
      subst o2
      have hF' : Fst (valid room (prs l)) room.length (m + 1) (out.take i) = some v := hF
      obtain ⟨_, v1, v2⟩ := Fst_some hF'
      refine ⟨true, v, rfl, by rw [v2, hp]; omega, ?_, rfl, rfl⟩
      rw [hp] at v1; exact v1
    | none =>
      rw [hF] at o2
      obtain ⟨out', rfl, q1, q2⟩ := o2
      exact ⟨false, out', rfl, q1, q2, rfl⟩
theorem take_v2 {v st : List Int} (hv : v.length = l.length) (hd : Dig room.length v) : Fishref2StoreOf_1_v2 v room l st = some (takeV (valid room (prs l)) v st) := by
  have h8 := h.ll
  have hcl : SlicesCloneLint v = some v := by unfold SlicesCloneLint; rw [apd_lt (by simp; omega)]; rfl
  unfold Fishref2StoreOf_1_v2 takeV
  rw [stands_eq h hd hv, Option.bind_some]
  cases hw : valid room (prs l) v with
  | true => simp [hcl]
  | false => simp
theorem scounts_eq (fu : Nat) (hf : 70000 < fu) : Fishref2counts_v1 fu l.length room.length room l [] = some (match Fst (valid room (prs l)) room.length l.length [] with | some v => (true, v) | none => (false, [])) := by
  have hn := h.ll
  have hr := h.rl
  unfold Fishref2counts_v1
  rw [mks_in (by omega)]
  simp only [Option.bind_some]
  have hb := block room.length (takeV (valid room (prs l))) hr.1 l.length (fun N v st => Fishref2counts_v1.loop1 l.length room.length room l fu N v st) (by
    intro N v st hv hd
    have hd2 : Dig (room.length : Int) v := hd
    show Fishref2counts_v1.loop1 l.length room.length room l fu (N + 1) v st = _
    rw [Fishref2counts_v1.loop1, take_v2 h hv hd]
    simp only [Option.bind_some]
    cases hT : (takeV (valid room (prs l)) v st).1 with
    | true => simp
    | false =>
      simp only [Bool.false_eq_true, if_false]
      have ho := odo (room.length : Int) (by omega) (Fishref2counts_v1.loop2 room.length) (fun N k v => by rw [Fishref2counts_v1.loop2]) v.length v [] fu rfl (by omega) (by omega) hd
      rw [w64_id (x := (l.length : Int) - 1) (by omega)]
      rw [List.append_nil, hv] at ho
      cases hi : inc (room.length : Int) v with
      | none =>
        obtain ⟨v', e⟩ := ho.1 hi
        rw [e]
        simp only [Option.bind_some]
        rw [if_pos (by simp)]
      | some v' =>
        obtain ⟨k, u, y, e1, e2, e3, e4, e5⟩ := ho.2 v' hi
        rw [e1]
        simp only [Option.bind_some]
        rw [if_neg (by simp; omega), e3]
        simp only [Option.bind_some]
        rw [e4, e5]
        simp only [Option.bind_some, List.append_nil]) l.length [] (fu - room.length ^ l.length) [] (by simp) (fun d hd => by cases hd)
  have hpow : room.length ^ l.length ≤ 65536 := Nat.le_trans (Nat.pow_le_pow_left hr.2 _) (Nat.le_trans (Nat.pow_le_pow_right (by omega) hn) (by decide))
  have e : room.length ^ l.length + (fu - room.length ^ l.length) = fu := by omega
  rw [e] at hb
  simp only [List.nil_append] at hb
  rw [hb, Cn_Fst]
  cases Fst (valid room (prs l)) room.length l.length [] with
  | some v => rfl
  | none => rfl
end
/-! what is wrong -/
theorem within_eq (x a b : Int) : Fishref2within x a b = Fleetwithin x a b := rfl
theorem within_iff (x a b : Int) : Fleetwithin x a b = true ↔ a ≤ x ∧ x ≤ b := by
  unfold Fleetwithin
  rw [bnd_eq]
  by_cases h : x ≥ a
  · simp [h]
  · simp [h]
theorem idx_contains (l : List Int) (x : Int) : SlicesContainsLint l x = l.contains x := by
  have key : ∀ (l : List Int) (k : Nat), (∃ j : Nat, SlicesIndexLint.loop1 x l k = .ret ((j : Nat) : Int) ∧ l.contains x = true) ∨ (SlicesIndexLint.loop1 x l k = .next () ∧ l.contains x = false) := by
    intro l
    induction l with
    | nil => intro k; exact .inr ⟨rfl, rfl⟩
    | cons y l ih =>
      intro k
      rw [SlicesIndexLint.loop1]
      by_cases h : x = y
      · have hb : (x == y) = true := by simpa using h
        rw [if_pos hb]
        exact .inl ⟨k, rfl, by simp [h]⟩
      · have hb : ¬ ((x == y) = true) := by simpa using h
        rw [if_neg hb, List.contains_cons, beq_eq_false_iff_ne.2 h, Bool.false_or]
        exact ih (k + 1)
  unfold SlicesContainsLint SlicesIndexLint
  rw [bnd_eq]
  rcases key l 0 with ⟨j, h1, h2⟩ | ⟨h1, h2⟩
  · rw [h1, h2]; simp
  · rw [h1, h2]; simp
theorem room_loops : ∀ (room : List Int), (FleetStore.loop1 room = .next () ∧ Fishref2StoreFault.loop1 room = .next () ∧ ∀ r ∈ room, 1 ≤ r ∧ r ≤ 4) ∨ (FleetStore.loop1 room = .ret ([], 2) ∧ Fishref2StoreFault.loop1 room = .ret 2)
  | [] => .inl ⟨rfl, rfl, fun _ h => by cases h⟩
  | r :: room => by
    rw [FleetStore.loop1, Fishref2StoreFault.loop1, within_eq]
    by_cases c : Fleetwithin r 1 4 = true
    · rw [if_neg (by simp [c]), if_neg (by simp [c])]
      rcases room_loops room with ⟨h1, h2, h3⟩ | h
      · refine .inl ⟨h1, h2, fun x hx => ?_⟩
        rcases List.mem_cons.1 hx with rfl | hx
        · exact (within_iff _ _ _).1 c
        · exact h3 x hx
      · exact .inr h
    · rw [if_pos (by simpa using c), if_pos (by simpa using c)]
      exact .inr ⟨rfl, rfl⟩
theorem twice_loop (s : FleetStay) : ∀ (l : List FleetStay), FleetStore.loop3 s l = if ((prs l).flatMap fun p => [p.1, p.2]).contains s.In || ((prs l).flatMap fun p => [p.1, p.2]).contains s.Out then .ret ([], 6) else .next ()
  | [] => rfl
  | x :: l => by
    rw [FleetStore.loop3, bnd_eq, twice_loop s l]
    have e : ((prs (x :: l)).flatMap fun p => [p.1, p.2]) = x.In :: x.Out :: ((prs l).flatMap fun p => [p.1, p.2]) := rfl
    rw [e]
    simp only [List.contains_cons]
    generalize ((prs l).flatMap fun p => [p.1, p.2]).contains s.In = A
    generalize ((prs l).flatMap fun p => [p.1, p.2]).contains s.Out = B
    cases A <;> cases B <;> cases h1 : s.In == x.In <;> cases h2 : s.In == x.Out <;> cases h3 : s.Out == x.In <;> cases h4 : s.Out == x.Out <;> simp
theorem stay_loops {L : List FleetStay} (hL : L.length ≤ 8) : ∀ (l : List FleetStay) (k : Nat) (seen : List Int), L.drop k = l → k ≤ L.length → seen = ((prs (L.take k)).flatMap fun p => [p.1, p.2]) → Dst (prs (L.take k)) → (∀ s ∈ L.take k, 0 ≤ s.In ∧ s.In ≤ 28800 ∧ 0 ≤ s.Out ∧ s.Out ≤ 28800) →
    (∃ z, FleetStore.loop2 L l k = some (.next ()) ∧ Fishref2StoreFault.loop2 l seen = some (.next z) ∧ Dst (prs L) ∧ ∀ s ∈ L, 0 ≤ s.In ∧ s.In ≤ 28800 ∧ 0 ≤ s.Out ∧ s.Out ≤ 28800) ∨
    ∃ e, e ≠ 0 ∧ FleetStore.loop2 L l k = some (.ret ([], e)) ∧ Fishref2StoreFault.loop2 l seen = some (.ret e)
  | [], k, seen, hd, hk, hs, h1, h2 => by
    have e : L.take k = L := List.take_of_length_le (List.drop_eq_nil_iff.1 hd)
    rw [e] at h1 h2
    exact .inl ⟨seen, rfl, rfl, h1, h2⟩
  | s :: l, k, seen, hd, hk, hs, h1, h2 => by
    have hkl : k < L.length := by
      rcases Nat.lt_or_ge k L.length with h | h
      · exact h
      · rw [List.drop_eq_nil_of_le h] at hd; cases hd
    rw [List.drop_eq_getElem_cons hkl] at hd
    obtain ⟨hse, hd2⟩ := List.cons.inj hd
    have hsl : seen.length ≤ 16 := by
      rw [hs]
      have : ∀ l : List (Int × Int), (l.flatMap fun p => [p.1, p.2]).length = 2 * l.length := by
        intro l; rw [← evsq_times l 0, List.length_map, evsq_len]
      rw [this, prs_len, List.length_take]; omega
    rw [FleetStore.loop2, Fishref2StoreFault.loop2, bnd_eq, bnd_eq, within_eq, within_eq]
    by_cases c1 : Fleetwithin s.In 0 28800 = true
    · by_cases c2 : Fleetwithin s.Out 0 28800 = true
      · have b1 : ((if !Fleetwithin s.In 0 28800 then true else !Fleetwithin s.Out 0 28800) : Bool) = false := by rw [c1, c2]; rfl
        rw [b1]
        simp only [Bool.false_eq_true, if_false]
        by_cases c3 : s.Out ≤ s.In
        · rw [if_pos (by simpa using c3), if_pos (by simpa using c3)]
          exact .inr ⟨13, by decide, rfl, rfl⟩
        · rw [if_neg (by simpa using c3), if_neg (by simpa using c3), cutl_in (by omega) (by omega) (by omega), Option.bind_some, bnd_eq, bnd_eq, Int.toNat_natCast]
          have e0 : List.drop (Int.toNat 0) (L.take k) = L.take k := rfl
          rw [e0, twice_loop, idx_contains, idx_contains, ← hs]
          cases c4 : seen.contains s.In with
          | true => simp only [Bool.true_or, if_true]; exact .inr ⟨6, by decide, rfl, rfl⟩
          | false =>
            cases c5 : seen.contains s.Out with
            | true => simp only [Bool.false_or, Bool.false_eq_true, if_false, if_true]; exact .inr ⟨6, by decide, rfl, rfl⟩
            | false =>
              simp only [Bool.false_or, Bool.false_eq_true, if_false]
              rw [apd_lt (by simp; omega), Option.bind_some]
              have w1 := (within_iff _ _ _).1 c1
              have w2 := (within_iff _ _ _).1 c2
              have ht : L.take (k + 1) = L.take k ++ [s] := by rw [← hse, List.take_append_getElem]
              have hp : prs (L.take (k + 1)) = prs (L.take k) ++ [(s.In, s.Out)] := by rw [ht]; unfold prs; simp
              have n1 : s.In ∉ seen := by simpa using c4
              have n2 : s.Out ∉ seen := by simpa using c5
              refine stay_loops hL l (k + 1) _ hd2 (by omega) ?_ ⟨?_, ?_⟩ ?_
              · rw [hp, List.flatMap_append, ← hs]; rfl
              · rw [hp, List.flatMap_append, ← hs]
                refine List.nodup_append.2 ⟨by rw [hs]; exact h1.nd, by simp; omega, ?_⟩
                intro a ha b hb e
                subst e
                simp at hb
                rcases hb with rfl | rfl
                · exact n1 ha
                · exact n2 ha
              · intro p hp'
                rw [hp] at hp'
                rcases List.mem_append.1 hp' with q | q
                · exact h1.lt p q
                · simp at q; subst q; simp; omega
              · intro x hx
                rw [ht] at hx
                rcases List.mem_append.1 hx with q | q
                · exact h2 x q
                · simp at q; subst q; omega
      · have b1 : ((if !Fleetwithin s.In 0 28800 then true else !Fleetwithin s.Out 0 28800) : Bool) = true := by rw [c1]; simp [c2]
        rw [b1, if_pos rfl, if_pos rfl]
        exact .inr ⟨2, by decide, rfl, rfl⟩
    · have b1 : ((if !Fleetwithin s.In 0 28800 then true else !Fleetwithin s.Out 0 28800) : Bool) = true := by simp [c1]
      rw [b1, if_pos rfl, if_pos rfl]
      exact .inr ⟨2, by decide, rfl, rfl⟩
theorem yards_true : Fishlaw2yards = some true := by kernel_rfl
theorem equal_self (l : List Int) : SlicesEqualLint l l = some true := by
  have key : ∀ (r : List Int) (k : Nat), l.drop k = r → SlicesEqualLint.loop1 l r k = some (.next ()) := by
    intro r
    induction r with
    | nil => intro k _; rfl
    | cons x r ih =>
      intro k hd
      have hkl : k < l.length := by
        rcases Nat.lt_or_ge k l.length with h | h
        · exact h
        · rw [List.drop_eq_nil_of_le h] at hd; cases hd
      rw [List.drop_eq_getElem_cons hkl] at hd
      obtain ⟨h1, h2⟩ := List.cons.inj hd
      rw [SlicesEqualLint.loop1, gx_at hkl, Option.bind_some, h1]
      rw [if_neg (by simp)]
      exact ih (k + 1) h2
  unfold SlicesEqualLint
  rw [if_neg (by simp), key l 0 rfl]; rfl
theorem store_eq (x0 : List Int) (x1 : List FleetStay) (h0 : x0.length ≤ 9223372036854775807) (h1 : x1.length ≤ 9223372036854775807) :
    ∃ r, FleetStore 80000 x0 x1 = some r ∧ Fishref2StoreOf 80000 x0 x1 = some r := by
  unfold FleetStore Fishref2StoreOf Fishref2StoreFault
  rw [show Fishref2within = Fleetwithin from rfl]
  simp only [bnd_eq]
  by_cases c1 : Fleetwithin (x0.length : Int) 1 4 = true
  · by_cases c2 : (x1.length : Int) > 8
    · have b1 : ((if !Fleetwithin (x0.length : Int) 1 4 then true else decide ((x1.length : Int) > 8)) : Bool) = true := by rw [c1]; simp; omega
      rw [b1]
      exact ⟨_, rfl, rfl⟩
    · have b1 : ((if !Fleetwithin (x0.length : Int) 1 4 then true else decide ((x1.length : Int) > 8)) : Bool) = false := by rw [c1]; simp; omega
      have w := (within_iff _ _ _).1 c1
      rw [b1]
      simp only [Bool.false_eq_true, if_false]
      rcases room_loops x0 with ⟨r1, r2, r3⟩ | ⟨r1, r2⟩
      · rw [r1, r2]
        simp only
        rcases stay_loops (L := x1) (by omega) x1 0 [] rfl (by omega) (by simp [prs]) ⟨by simp [prs], by simp [prs]⟩ (by simp) with ⟨z, s1, s2, s3, s4⟩ | ⟨e, e0, s1, s2⟩
        · have h : SOk x0 x1 := ⟨r3, by omega, by omega, s4, s3⟩
          rw [s1, s2, Option.bind_some, Option.bind_some]
          simp only
          rw [Option.bind_some, if_neg (by simp), mks_in (by omega), Option.bind_some, scounts_eq h 80000 (by omega), Option.bind_some]
          obtain ⟨r, out', q1, q2, q3, q4⟩ := place_ok h x1.length 0 80000 (List.replicate x1.length 0) (by omega) (by omega) (by simp) (by simp [Dig]) (by rw [List.take_zero]; exact valid_nil _ _)
          rw [List.take_zero] at q4
          have q1' : FleetStore_1_v1 80000 0 x1 x0 (List.replicate x1.length 0) = some (r, out') := q1
          rw [q1', Option.bind_some]
          cases hF : Fst (valid x0 (prs x1)) x0.length x1.length [] with
          | some v =>
            rw [hF] at q4
            obtain ⟨rfl, rfl⟩ := q4
            exact ⟨_, rfl, rfl⟩
          | none =>
            rw [hF] at q4
            simp only at q4
            subst q4
            exact ⟨_, rfl, rfl⟩
        · rw [s1, s2, Option.bind_some, Option.bind_some]
          simp only
          have eb : (e != 0) = true := by simpa using e0
          rw [Option.bind_some, if_pos eb]
          exact ⟨_, rfl, rfl⟩
      · rw [r1, r2]
        simp only
        exact ⟨_, rfl, rfl⟩
  · have b1 : ((if !Fleetwithin (x0.length : Int) 1 4 then true else decide ((x1.length : Int) > 8)) : Bool) = true := by simp [c1]
    rw [b1]
    exact ⟨_, rfl, rfl⟩
theorem FleetStores_law (x0 : List Int) (x1 : List FleetStay) (h0 : x0.length ≤ 9223372036854775807) (h1 : x1.length ≤ 9223372036854775807) : ∃ fu, Fishlaw2FleetStores fu x0 x1 = some true := by
  obtain ⟨r, r1, r2⟩ := store_eq x0 x1 h0 h1
  refine ⟨80000, ?_⟩
  unfold Fishlaw2FleetStores
  rw [r1, r2, Option.bind_some, Option.bind_some, yards_true, Option.bind_some]
  simp only [if_true, beq_self_eq_true]
  rw [equal_self]
  rfl

end Go.Fp
