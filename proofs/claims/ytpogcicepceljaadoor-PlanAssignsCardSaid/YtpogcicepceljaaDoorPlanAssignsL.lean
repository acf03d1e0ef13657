/- PlanAssigns: the mirror of the law is true of all stays. -/
import Derived.Test.YtpogcicepceljaaDoorPlanAssignsM
import Derived.Test.YtpogcicepceljaaDoorFpPlain
import Derived.Test.YtpogcicepceljaaDoorFpSort
import Derived.KernelRfl
namespace Go.Fp
theorem equal_refl (l : List Int) : SlicesEqualLint l l = some true := by
  have key : ∀ (r : List Int) (k : Nat), l.drop k = r → SlicesEqualLint.loop1 l r k = some (.next ()) := by
    intro r
    induction r with
    | nil => intro k _; rfl
    | cons v r ih =>
      intro k hd
      obtain ⟨d1, d2, d3⟩ := drop_cons hd
      simp only [SlicesEqualLint.loop1, gx_nat, d2, Option.bind_some, bne_self_eq_false, Bool.false_eq_true, if_false]
      exact ih (k + 1) d3
  unfold SlicesEqualLint
  simp [key l 0 rfl]
theorem plans_true : Fishlaw2plans = some true := by kernel_rfl
theorem within_ref (x a b : Int) : Fishref2within x a b = Planwithin x a b := rfl

theorem sorted_eq {w : List Int} (h : w.length < 4294967296) : SlicesSortedint_v1 w = some (isort w) := by
  unfold SlicesSortedint_v1 SlicesCollectint_v1
  rw [apd_lt (by simpa using h)]
  simp [srt, h]

/-- leaving out equal neighbours leaves the first answer -/
theorem first_compact {β : Type} (g : Int → Option β) (S : List Int) : ∀ m, m ≤ S.length → (Lib.compactUpTo S.toArray m).findSome? g = (S.take m).findSome? g := by
  intro m
  induction m with
  | zero => intro _; simp [Lib.compactUpTo]
  | succ m ih =>
    intro hm
    have ih := ih (by omega)
    have hget : S.toArray[m]! = S[m]'(by omega) := by rw [getElem!_pos S.toArray m (by simp; omega)]; simp
    rw [Lib.compactUpTo_succ, List.take_add_one, List.getElem?_eq_getElem (by omega), List.findSome?_append, List.findSome?_append, ih, hget]
    by_cases hk : Lib.keeps S.toArray m = true
    · rw [if_pos hk]; rfl
    · rw [if_neg hk]
      obtain ⟨j, rfl⟩ : ∃ j, m = j + 1 := by
        cases m with
        | zero => exact absurd (by simp [Lib.keeps]) hk
        | succ j => exact ⟨j, rfl⟩
      have hj : S.toArray[j]! = S[j]'(by omega) := by rw [getElem!_pos S.toArray j (by simp; omega)]; simp
      have hsame : S[j + 1]'(by omega) = S[j]'(by omega) := by
        unfold Lib.keeps at hk
        simp only [Nat.add_sub_cancel, hget, hj] at hk
        simpa using hk
      cases hf : (S.take (j + 1)).findSome? g with
      | some v => rfl
      | none =>
        have h1 := List.findSome?_eq_none_iff.1 hf (S[j]'(by omega)) (List.mem_iff_getElem?.2 ⟨j, by rw [List.getElem?_take, if_pos (by omega), List.getElem?_eq_getElem]⟩)
        simp [hsame, h1]

section
variable (l : List PlanStay)
def cl (P : List Int) (i : Nat) (t : Int) (k : Nat) : Bool := match P[k]?, l[k]?, l[i]? with
  | some u, some a, some b => (u == t) && (decide (a.From < b.To) && decide (b.From < a.To))
  | _, _, _ => false
def bad (P : List Int) (t : Int) (k m : Nat) : Bool := (List.range' k m).any (cl l P P.length t)

theorem bad_cons (P : List Int) (t : Int) (k m : Nat) : bad l P t k (m + 1) = (cl l P P.length t k || bad l P t (k + 1) m) := by
  unfold bad
  rw [List.range'_succ, List.any_cons]

theorem clash_prog {P : List Int} {t : Int} (hP : P.length < l.length) : ∀ (m k : Nat), k + m = P.length → PlanAssign_1_v1.loop2 ((P.length : Nat) : Int) l t P m k = some (if bad l P t k m then .ret () else .next ())
  | 0, k, _ => rfl
  | m + 1, k, h => by
    have hk : k < P.length := by omega
    rw [PlanAssign_1_v1.loop2, gx_at hk, gx_at (by omega : k < l.length), gx_at hP, bad_cons]
    simp only [Option.bind_some]
    have hc : cl l P P.length t k = ((P[k] == t) && (decide ((l[k]'(by omega)).From < l[P.length].To) && decide (l[P.length].From < (l[k]'(by omega)).To))) := by
      unfold cl
      rw [List.getElem?_eq_getElem hk, List.getElem?_eq_getElem (by omega : k < l.length), List.getElem?_eq_getElem hP]
    have e : (if (t == P[k]) = true then (if decide ((l[k]'(by omega)).From < l[P.length].To) = true then some (decide (l[P.length].From < (l[k]'(by omega)).To)) else some false) else some false) = some (cl l P P.length t k) := by
      rw [hc]
      by_cases h1 : P[k] = t
      · have h1' : (t == P[k]) = true := by simp [h1]
        rw [if_pos h1']
        by_cases h2 : (l[k]'(by omega)).From < l[P.length].To
        · rw [if_pos (by simpa using h2)]; simp [h1, h2]
        · rw [if_neg (by simpa using h2)]; simp [h2]
      · have h1' : ¬ (t == P[k]) = true := by simp; exact fun e => h1 e.symm
        rw [if_neg h1']; simp [h1]
    rw [e]
    simp only [Option.bind_some]
    cases hb : cl l P P.length t k with
    | true => simp
    | false =>
      simp only [Bool.false_eq_true, if_false, Bool.false_or]
      exact clash_prog hP m (k + 1) (by omega)

theorem clash_ref {P : List Int} {t : Int} (hP : P.length < l.length) : ∀ (m k : Nat) (q : Bool), k + m = P.length → Fishref2AssignStays_1_v1.loop2 P l P t m k q = some (q && !bad l P t k m)
  | 0, k, q, _ => by simp [Fishref2AssignStays_1_v1.loop2, bad]
  | m + 1, k, q, h => by
    have hk : k < P.length := by omega
    rw [Fishref2AssignStays_1_v1.loop2, gx_at hk, gx_at (by omega : k < l.length), gx_at hP, bad_cons]
    simp only [Option.bind_some]
    have hc : cl l P P.length t k = ((P[k] == t) && (decide ((l[k]'(by omega)).From < l[P.length].To) && decide (l[P.length].From < (l[k]'(by omega)).To))) := by
      unfold cl
      rw [List.getElem?_eq_getElem hk, List.getElem?_eq_getElem (by omega : k < l.length), List.getElem?_eq_getElem hP]
    have e : (if q = true then (if (P[k] != t) = true then some true else (if decide ((l[k]'(by omega)).From ≥ l[P.length].To) = true then some true else some (decide (l[P.length].From ≥ (l[k]'(by omega)).To)))) else some false) = some (q && !cl l P P.length t k) := by
      rw [hc]
      cases q with
      | false => rfl
      | true =>
        simp only [if_true, Bool.true_and]
        by_cases h1 : P[k] = t
        · rw [if_neg (by simp [h1])]
          by_cases h2 : (l[k]'(by omega)).From < l[P.length].To
          · have h3 : ¬ (l[k]'(by omega)).From ≥ l[P.length].To := by omega
            rw [if_neg (by simpa using h2)]
            congr 1
            by_cases h4 : l[P.length].From < (l[k]'(by omega)).To
            · have : ¬ l[P.length].From ≥ (l[k]'(by omega)).To := by omega
              simp [h1, h2, h4]
            · simp [h1, h2, h4]; omega
          · rw [if_pos (by simp; omega)]; simp [h2]
        · rw [if_pos (by simpa using h1)]; simp [h1]
    rw [e]
    simp only [Option.bind_some]
    rw [clash_ref hP m (k + 1) _ (by omega)]
    cases q <;> cases cl l P P.length t k <;> simp

/-- what comes of a platform -/
def try_ (fu : Nat) (P : List Int) (t : Int) : Option (List Int) := if bad l P t 0 P.length then none else match Fishref2AssignStays_1_v1 fu (P ++ [t]) l with
  | some (true, r) => some r
  | _ => none

def outR {β : Type} (o : Option (List Int)) (v : β) : Out (Bool × List Int) β := match o with
  | some r => .ret (true, r)
  | none => .next v

/-- what is known of the stay behind -/
def Ih (fu : Nat) (Q : List Int) : Prop := ∀ a : List Int, a.length = l.length → a.take Q.length = Q → ∃ b r r', PlanAssign_1_v1 fu ((Q.length : Nat) : Int) l a = some (b, r) ∧ Fishref2AssignStays_1_v1 fu Q l = some (b, r') ∧
  (b = true → r = r') ∧ r.length = l.length ∧ (b = false → r.take Q.length = Q ∧ r' = Q)

theorem loop_prog {fu : Nat} {P : List Int} (h10 : l.length ≤ 10) (hP : P.length < l.length) (ih : ∀ t, Ih l fu (P ++ [t])) (C : List Int) : ∀ (rest : List Int) (k : Nat) (a : List Int), C.drop k = rest → a.length = l.length → a.take P.length = P →
    ∃ a', PlanAssign_1_v1.loop1 ((P.length : Nat) : Int) l (PlanAssign_1_v1 fu) C rest.length k a = some (outR (rest.findSome? (try_ l fu P)) a') ∧ a'.length = l.length ∧ a'.take P.length = P
  | [], k, a, _, h1, h2 => ⟨a, rfl, h1, h2⟩
  | t :: rest, k, a, hd, h1, h2 => by
    obtain ⟨d1, d2, d3⟩ := drop_cons hd
    rw [List.length_cons, PlanAssign_1_v1.loop1, gx_nat, d2, Option.bind_some, cutl_in (Int.le_refl 0) (by omega) (by omega), Option.bind_some]
    simp only [Int.toNat_natCast, Int.toNat_zero, List.drop_zero, h2]
    rw [clash_prog l hP P.length 0 (by omega), Option.bind_some]
    cases hb : bad l P t 0 P.length with
    | true =>
      simp only [if_true]
      obtain ⟨a', e1, e2, e3⟩ := loop_prog h10 hP ih C rest (k + 1) a d3 h1 h2
      refine ⟨a', ?_, e2, e3⟩
      rw [e1, List.findSome?_cons]
      have : try_ l fu P t = none := by unfold try_; rw [hb]; rfl
      rw [this]
    | false =>
      simp only [Bool.false_eq_true, if_false]
      rw [ix_in (by omega) (by omega), Option.bind_some, sx_in (by omega) (by omega), Option.bind_some]
      simp only [Int.toNat_natCast]
      have hw : w64 (((P.length : Nat) : Int) + 1) = (((P ++ [t]).length : Nat) : Int) := by rw [w64_id (by omega)]; simp
      rw [hw]
      have ht : (a.set P.length t).take (P ++ [t]).length = P ++ [t] := by
        have : (P ++ [t]).length = P.length + 1 := by simp
        rw [this, List.take_add_one, List.getElem?_set_self (by omega), List.take_set_of_le (Nat.le_refl _), h2]; rfl
      obtain ⟨b, r, r', f1, f2, f3, f4, f5⟩ := ih t (a.set P.length t) (by simpa using h1) ht
      rw [f1, Option.bind_some]
      cases b with
      | true =>
        have : try_ l fu P t = some r := by unfold try_; rw [hb, f2, f3 rfl]; rfl
        refine ⟨a, ?_, h1, h2⟩
        rw [List.findSome?_cons, this]; rfl
      | false =>
        obtain ⟨g1, _⟩ := f5 rfl
        have htake : r.take P.length = P := by
          have := congrArg (List.take P.length) g1
          rw [List.take_take] at this
          simpa using this
        obtain ⟨a', e1, e2, e3⟩ := loop_prog h10 hP ih C rest (k + 1) r d3 f4 htake
        have : try_ l fu P t = none := by unfold try_; rw [hb, f2]; rfl
        refine ⟨a', ?_, e2, e3⟩
        simp only [Bool.false_eq_true, if_false]
        rw [e1, List.findSome?_cons, this]

theorem loop_ref {fu : Nat} {P : List Int} (h10 : l.length ≤ 10) (hP : P.length < l.length) (ih : ∀ t, Ih l fu (P ++ [t])) (S : List Int) : ∀ (rest : List Int) (k : Nat), S.drop k = rest →
    Fishref2AssignStays_1_v1.loop1 P l (Fishref2AssignStays_1_v1 fu) S rest.length k P = some (outR (rest.findSome? (try_ l fu P)) P)
  | [], k, _ => rfl
  | t :: rest, k, hd => by
    obtain ⟨d1, d2, d3⟩ := drop_cons hd
    rw [List.length_cons, Fishref2AssignStays_1_v1.loop1, gx_nat, d2, Option.bind_some, clash_ref l hP P.length 0 true (by omega), Option.bind_some]
    have hrest := loop_ref h10 hP ih S rest (k + 1) d3
    cases hb : bad l P t 0 P.length with
    | true =>
      simp only [Bool.not_true, Bool.and_false, Bool.false_eq_true, if_false, Option.bind_some]
      rw [hrest, List.findSome?_cons]
      have : try_ l fu P t = none := by unfold try_; rw [hb]; rfl
      rw [this]
    | false =>
      simp only [Bool.not_false, Bool.and_true, if_true]
      rw [apd_lt (by simp; omega), Option.bind_some]
      have hex : ∃ a : List Int, a.length = l.length ∧ a.take (P ++ [t]).length = P ++ [t] := ⟨P ++ [t] ++ List.replicate (l.length - (P.length + 1)) 0, by simp; omega, by rw [List.take_left]⟩
      obtain ⟨a, ha, ha2⟩ := hex
      obtain ⟨b, r, r', f1, f2, f3, f4, f5⟩ := ih t a ha ha2
      rw [f2, Option.bind_some]
      cases b with
      | true =>
        have : try_ l fu P t = some r' := by unfold try_; rw [hb, f2]; rfl
        rw [List.findSome?_cons, this]; rfl
      | false =>
        obtain ⟨_, g2⟩ := f5 rfl
        subst g2
        simp only [Bool.false_eq_true, if_false]
        rw [cutl_in (Int.le_refl 0) (by omega) (by simp; omega), Option.bind_some]
        simp only [Option.bind_some, Int.toNat_natCast, Int.toNat_zero, List.drop_zero, List.take_left]
        have : try_ l fu P t = none := by unfold try_; rw [hb, f2]; rfl
        rw [hrest, List.findSome?_cons, this]

theorem dfs (h10 : l.length ≤ 10) (hm : ∀ s ∈ l, s.May.length ≤ 10) : ∀ (d fu : Nat) (P : List Int), P.length + d = l.length → d + 1 ≤ fu → Ih l fu P := by
  intro d
  induction d with
  | zero =>
    intro fu P hP hfu a ha ht
    obtain ⟨f, rfl⟩ : ∃ f, fu = f + 1 := ⟨fu - 1, by omega⟩
    have e : a = P := by rw [← ht, List.take_of_length_le (by omega)]
    refine ⟨true, a, P, ?_, ?_, fun _ => e, ha, by intro h; cases h⟩
    · rw [PlanAssign_1_v1, if_pos (by simp; omega)]
    · rw [Fishref2AssignStays_1_v1, if_pos (by simp; omega)]
  | succ d ih =>
    intro fu P hP hfu a ha ht
    obtain ⟨f, rfl⟩ : ∃ f, fu = f + 1 := ⟨fu - 1, by omega⟩
    have hlt : P.length < l.length := by omega
    have ih' : ∀ t, Ih l f (P ++ [t]) := fun t => ih f (P ++ [t]) (by simp; omega) (by omega)
    have hmay : (l[P.length]).May.length < 4294967296 := by have := hm _ (List.getElem_mem hlt); omega
    have hfs : (Lib.compact (isort (l[P.length]).May)).findSome? (try_ l f P) = (isort (l[P.length]).May).findSome? (try_ l f P) := by
      unfold Lib.compact
      rw [first_compact _ _ _ (Nat.le_refl _), List.take_length]
    obtain ⟨a', p1, p2, p3⟩ := loop_prog l h10 hlt ih' (Lib.compact (isort (l[P.length]).May)) _ 0 a (List.drop_zero ..) ha ht
    have r1 := loop_ref l h10 hlt ih' (isort (l[P.length]).May) _ 0 (List.drop_zero ..)
    rw [hfs] at p1
    have q1 : PlanAssign_1_v1 (f + 1) ((P.length : Nat) : Int) l a = (match outR ((isort (l[P.length]).May).findSome? (try_ l f P)) a' with | .ret r => some r | .next q => some (false, q)) := by
      rw [PlanAssign_1_v1, if_neg (by simp; omega), gx_at hlt, Option.bind_some, sorted_eq hmay, Option.bind_some]
      simp only [bnd]
      rw [p1, Option.bind_some]
      cases outR ((isort (l[P.length]).May).findSome? (try_ l f P)) a' <;> rfl
    have q2 : Fishref2AssignStays_1_v1 (f + 1) P l = (match outR ((isort (l[P.length]).May).findSome? (try_ l f P)) P with | .ret r => some r | .next q => some (false, q)) := by
      rw [Fishref2AssignStays_1_v1, if_neg (by simp; omega), gx_at hlt, Option.bind_some, sorted_eq hmay, Option.bind_some, r1, Option.bind_some]
      cases outR ((isort (l[P.length]).May).findSome? (try_ l f P)) P <;> rfl
    cases hv : (isort (l[P.length]).May).findSome? (try_ l f P) with
    | none =>
      rw [hv] at q1 q2
      exact ⟨false, a', P, q1, q2, (by intro h; cases h), p2, fun _ => ⟨p3, rfl⟩⟩
    | some r =>
      rw [hv] at q1 q2
      refine ⟨true, r, r, q1, q2, fun _ => rfl, ?_, (by intro h; cases h)⟩
      obtain ⟨t, _, ht2⟩ := List.exists_of_findSome?_eq_some hv
      unfold try_ at ht2
      split at ht2
      · cases ht2
      · obtain ⟨b, u, u', f1, f2, f3, f4, f5⟩ := ih' t (P ++ [t] ++ List.replicate (l.length - (P.length + 1)) 0) (by simp; omega) (by rw [List.take_left])
        rw [f2] at ht2
        cases b with
        | true => simp at ht2; rw [← ht2, ← f3 rfl]; exact f4
        | false => simp at ht2
end

theorem stays_ok : ∀ l : List PlanStay, PlanAssign.loop1 l = Fishref2AssignStays.loop1 l ∧ (PlanAssign.loop1 l = .next () → ∀ s ∈ l, s.May.length ≤ 10)
  | [] => ⟨rfl, by intro _ s hs; cases hs⟩
  | s :: l => by
    obtain ⟨h1, h2⟩ := stays_ok l
    rw [PlanAssign.loop1, Fishref2AssignStays.loop1, ← h1]
    simp only [within_ref, bnd]
    refine ⟨rfl, ?_⟩
    intro h
    generalize (if (!Planwithin s.From 0 28800) = true then true else !Planwithin s.To 0 28800) = p at h
    generalize decide (s.To ≤ s.From) = q at h
    have hq : decide ((s.May.length : Int) > 10) = false := by
      cases hc : decide ((s.May.length : Int) > 10) with
      | false => rfl
      | true => rw [hc] at h; cases p <;> cases q <;> simp at h
    rw [hq] at h
    have hl : PlanAssign.loop1 l = .next () := by cases p <;> cases q <;> simp at h ⊢; exact h
    intro u hu
    rcases List.mem_cons.1 hu with rfl | hu
    · simp at hq; omega
    · exact h2 hl u hu

theorem PlanAssigns_law (x0 : List PlanStay) (_h0 : x0.length ≤ 9223372036854775807) : ∃ fu, Fishlaw2PlanAssigns fu x0 = some true := by
  refine ⟨20, ?_⟩
  unfold Fishlaw2PlanAssigns
  have key : ∃ r, PlanAssign 20 x0 = some r ∧ Fishref2AssignStays 20 x0 = some r := by
    unfold PlanAssign Fishref2AssignStays
    by_cases c : decide ((x0.length : Int) > 10) = true
    · rw [if_pos c, if_pos c]; exact ⟨_, rfl, rfl⟩
    rw [if_neg c, if_neg c]
    have h10 : x0.length ≤ 10 := by simp at c; omega
    obtain ⟨h1, h2⟩ := stays_ok x0
    rw [← h1]
    simp only [bnd]
    cases hv : PlanAssign.loop1 x0 with
    | ret r => exact ⟨r, by simp only [], by simp only []⟩
    | next u =>
      have hm := h2 hv
      have hd := dfs x0 h10 hm x0.length 20 [] (by simp) (by omega) (List.replicate x0.length 0) (by simp) (by simp)
      obtain ⟨b, r, r', f1, f2, f3, _, _⟩ := hd
      simp only []
      rw [mks_in (by omega), Option.bind_some]
      have f1' : PlanAssign_1_v1 20 0 x0 (List.replicate x0.length 0) = some (b, r) := by simpa using f1
      rw [f1', f2, Option.bind_some, Option.bind_some]
      cases b with
      | true => have := f3 rfl; subst this; exact ⟨(r, 0), by simp, by simp⟩
      | false => exact ⟨([], 9), by simp, by simp⟩
  obtain ⟨r, r1, r2⟩ := key
  rw [r1, r2, plans_true]
  simp [equal_refl]
end Go.Fp
