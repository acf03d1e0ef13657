/- Regions whose order is open and that also write: readings are taken first, the rest in every order that may come. No condition. -/
import Derived.Test.YtngamgkmhgmmjaaGreatDoorFpVec
import Derived.OrdersHeld
namespace Go.Fp
open Go

section
variable {P : Program} {ops : Array Oper} {Q : Exit → Act → World → Prop} {md : Region.Mode} {S : Bool → World → Prop} {pre : Bool → Nat → Bool}

/-- whatever order comes from here on; each operation of pre b leaves S b standing; st b: S b stands -/
def Rg (P : Program) (md : Region.Mode) (ops : Array Oper) (Q : Exit → Act → World → Prop) (S : Bool → World → Prop) (pre : Bool → Nat → Bool) : (Bool → Bool) → Nat → Array Bool → Act → World → Prop
  | _, 0, l, a, w => Region.ready md ops l = [] ∧ Q .normal a w
  | st, k + 1, l, a, w => (Region.ready md ops l = [] → Q .normal a w) ∧ ∀ i ∈ Region.ready md ops l, wpOp P ops Q i (fun a w => (∀ b, (st b && pre b i) = true → S b w) ∧ Rg P md ops Q S pre (fun b => st b && pre b i) k (l.setIfInBounds i true) a w) a w

theorem Rg.any : ∀ (st : Bool → Bool) (k : Nat) (l : Array Bool) (a : Act) (w : World), Rg P md ops Q S pre st k l a w → wpAny P md ops Q k l a w
  | _, 0, _, _, _, h => h
  | _, k + 1, _, _, _, h => ⟨h.1, fun i hi => wpOp_mono (fun a w h => Rg.any _ k _ a w h.2) (h.2 i hi)⟩

/-- operation j waits for operation i -/
def waits (md : Region.Mode) (ops : Array Oper) (j i : Nat) : Bool := match ops[j]? with
  | some o => o.after.any fun e => Region.binds md e && e.on == i
  | none => true

theorem Rg.first {i : Nat} {oi : Oper} {v : Value} (hi : ops[i]? = some oi) (b : Bool) (hp : ∀ c, pre c i = true) (hsink : ∀ j, pre b j = false → waits md ops j i = true)
    (hsel : ∀ (j : Nat) (o : Oper) cs b, ops[j]? = some o → o.op ≠ .select cs b) (hQ : ∀ c a w, Q (.panic c) (a.put oi.dst v) w → Q (.panic c) a w) :
    ∀ (k : Nat) (st : Bool → Bool) (l : Array Bool) (a : Act) (w : World), st b = true →
      (∀ j oj, ops[j]? = some oj → j ≠ i → l.getD j true = false → (∀ e ∈ oj.after, Region.binds md e = true → e.on ≠ i) → oi.apart ops oj = true) →
      i ∈ Region.ready md ops l → YieldsIf P ops (S b) oi v a → (∀ c, st c = true → S c w) → Rg P md ops Q S pre st k (l.setIfInBounds i true) (a.put oi.dst v) w → Rg P md ops Q S pre st (k + 1) l a w := by
  intro k
  induction k with
  | zero =>
    intro st l a w hsb _ hr hy hS H
    refine ⟨fun h => by rw [h] at hr; exact absurd hr (List.not_mem_nil), fun j hj => ?_⟩
    rcases Nat.decEq j i with hji | rfl
    · have h1 := ready_mono hj hji
      rw [H.1] at h1
      exact absurd h1 (List.not_mem_nil)
    · refine hy.wpOp hi (hS b hsb) ?_
      simp only [hp, Bool.and_true]; exact ⟨hS, H⟩
  | succ k ih =>
    intro st l a w hsb hfree hr hy hS H
    refine ⟨fun h => by rw [h] at hr; exact absurd hr (List.not_mem_nil), fun j hj => ?_⟩
    rcases Nat.decEq j i with hji | rfl
    · obtain ⟨hun, oj, hoj, hall⟩ := mem_ready.1 hj
      have hli : l.getD i true = false := (mem_ready.1 hr).1
      have hno : ∀ e ∈ oj.after, Region.binds md e = true → e.on ≠ i := by
        intro e he hb heq
        have h1 := hall e he hb
        rw [heq] at h1
        rcases Nat.lt_or_ge i l.size with h | h
        · simp [h] at hli h1; rw [hli] at h1; cases h1
        · simp [Array.getElem?_eq_none h] at h1
      have hjn : pre b j = true := by
        cases hp : pre b j with
        | true => rfl
        | false =>
          have h2 := hsink j hp
          unfold waits at h2
          rw [hoj] at h2
          obtain ⟨e, he, hb⟩ := Array.any_eq_true'.1 h2
          simp only [Bool.and_eq_true, beq_iff_eq] at hb
          exact absurd hb.2 (hno e he hb.1)
      have h2 := wpOp_putIf hoj (hfree j oj hoj hji hun hno) (fun cs b => hsel i oi cs b hi) (fun cs b => hsel j oj cs b hoj) hQ hy (H.2 j (ready_mono hj hji))
      refine wpOp_mono ?_ h2
      rintro a' w' ⟨hy', hS', hH⟩
      refine ⟨hS', ih _ _ a' w' (by simp [hsb, hjn]) ?_ (ready_mono hr (Ne.symm hji)) hy' hS' ?_⟩
      · intro m om hm hmi hmu hmno
        refine hfree m om hm hmi ?_ hmno
        rcases Nat.decEq j m with h | rfl
        · rw [getD_set_ne true h] at hmu; exact hmu
        · exact hun
      · rw [Array.setIfInBounds_comm _ _ hji]; exact hH
    · refine hy.wpOp hi (hS b hsb) ?_
      simp only [hp, Bool.and_true]; exact ⟨hS, H⟩

/-- an operation that yields the same in every world -/
theorem Rg.firstP {i : Nat} {oi : Oper} {v : Value} (hi : ops[i]? = some oi) (hp : ∀ c, pre c i = true)
    (hsel : ∀ (j : Nat) (o : Oper) cs b, ops[j]? = some o → o.op ≠ .select cs b) (hQ : ∀ c a w, Q (.panic c) (a.put oi.dst v) w → Q (.panic c) a w) :
    ∀ (k : Nat) (st : Bool → Bool) (l : Array Bool) (a : Act) (w : World),
      (∀ j oj, ops[j]? = some oj → j ≠ i → l.getD j true = false → (∀ e ∈ oj.after, Region.binds md e = true → e.on ≠ i) → oi.apart ops oj = true) →
      i ∈ Region.ready md ops l → YieldsIf P ops (fun _ => True) oi v a → (∀ c, st c = true → S c w) → Rg P md ops Q S pre st k (l.setIfInBounds i true) (a.put oi.dst v) w → Rg P md ops Q S pre st (k + 1) l a w := by
  intro k
  induction k with
  | zero =>
    intro st l a w _ hr hy hst H
    refine ⟨fun h => by rw [h] at hr; exact absurd hr (List.not_mem_nil), fun j hj => ?_⟩
    rcases Nat.decEq j i with hji | rfl
    · have h1 := ready_mono hj hji
      rw [H.1] at h1
      exact absurd h1 (List.not_mem_nil)
    · refine hy.wpOp hi trivial ?_
      simp only [hp, Bool.and_true]; exact ⟨hst, H⟩
  | succ k ih =>
    intro st l a w hfree hr hy hst H
    refine ⟨fun h => by rw [h] at hr; exact absurd hr (List.not_mem_nil), fun j hj => ?_⟩
    rcases Nat.decEq j i with hji | rfl
    · obtain ⟨hun, oj, hoj, hall⟩ := mem_ready.1 hj
      have hli : l.getD i true = false := (mem_ready.1 hr).1
      have hno : ∀ e ∈ oj.after, Region.binds md e = true → e.on ≠ i := by
        intro e he hb heq
        have h1 := hall e he hb
        rw [heq] at h1
        rcases Nat.lt_or_ge i l.size with h | h
        · simp [h] at hli h1; rw [hli] at h1; cases h1
        · simp [Array.getElem?_eq_none h] at h1
      have h2 := wpOp_putIf hoj (hfree j oj hoj hji hun hno) (fun cs b => hsel i oi cs b hi) (fun cs b => hsel j oj cs b hoj) hQ hy (H.2 j (ready_mono hj hji))
      refine wpOp_mono ?_ h2
      rintro a' w' ⟨hy', hS', hH⟩
      refine ⟨hS', ih _ _ a' w' ?_ (ready_mono hr (Ne.symm hji)) hy' hS' ?_⟩
      · intro m om hm hmi hmu hmno
        refine hfree m om hm hmi ?_ hmno
        rcases Nat.decEq j m with h | rfl
        · rw [getD_set_ne true h] at hmu; exact hmu
        · exact hun
      · rw [Array.setIfInBounds_comm _ _ hji]; exact hH
    · refine hy.wpOp hi trivial ?_
      simp only [hp, Bool.and_true]; exact ⟨hst, H⟩

end

/-- only the way straight on -/
def KB (k : Act → World → Prop) : Kt := ⟨k, fun _ _ => False, [], fun _ _ _ => False, none⟩

section
variable {P : Program} {ops : Array Oper} {S : Bool → World → Prop} {pre : Bool → Nat → Bool} {N : Nat} {K : Kt} {k0 : Act → World → Prop} {a : Act} {w : World} {E : Env}

theorem wpOp_of_list {i : Nat} {o : Oper} {k1 k2 : Act → World → Prop} (ho : ops[i]? = some o) (h : WL P ops (KB k1) [o] a w) : wpOp P ops (KB k2).q i k1 a w := by
  unfold WL at h
  rw [wpList] at h
  unfold wpOp
  simp only [ho]
  split
  · rename_i hw
    rw [if_pos hw] at h
    rcases h with h | ⟨_, a', w', h⟩
    · refine .inl ?_
      unfold Oper.wp at *
      generalize (execOp a.eval o).run P w = r at *
      cases r with
      | ok m w' =>
        cases m <;> simp only [Oper.upon] at h ⊢
        case value u => exact h
        case skip => exact h
        case defer d => exact h
        case enter f args =>
          refine Calls.mono h fun e w'' he => ?_
          cases e with
          | returned u => exact he
          | panicked c => exact he
          | outgrown => obtain ⟨a', w', h⟩ := he; exact h.elim
        case row row args => exact h
      | halt x w' =>
        cases x <;> simp only [Oper.upon] at h ⊢
        case panic u => exact h
    · exact h.elim
  · rename_i hw
    rw [if_neg hw] at h
    exact h

/-- operations that are not of pre wait for operation i -/
def sinks (ops : Array Oper) (pre : Nat → Bool) (i : Nat) : Bool := (List.range ops.size).all fun j => pre j || waits .any ops j i

/-- what may come next is one operation, or it may be taken first -/
def tkP (ops : Array Oper) (l : Array Bool) (pre : Bool → Nat → Bool) (i : Nat) : Bool := Region.noSelect ops && (pre true i && pre false i) && Region.free .any ops l i && (Region.ready .any ops l).contains i
def tkB (ops : Array Oper) (l : Array Bool) (pre : Bool → Nat → Bool) (b : Bool) (i : Nat) : Bool := tkP ops l pre i && sinks ops (pre b) i

theorem sinks_spec {pre : Nat → Bool} {i : Nat} (h3 : sinks ops pre i = true) : ∀ j, pre j = false → waits .any ops j i = true := by
  intro j hj
  rcases Nat.lt_or_ge j ops.size with hs | hs
  · unfold sinks at h3
    have := (List.all_eq_true.1 h3) j (List.mem_range.2 hs)
    rw [hj] at this
    simpa using this
  · unfold waits
    rw [Array.getElem?_eq_none hs]

theorem both {pre : Bool → Nat → Bool} {i : Nat} (h : (pre true i && pre false i) = true) : ∀ c, pre c i = true := by
  intro c; cases c <;> simp_all

/-- a reading is taken first -/
theorem Rg.take {i : Nat} {o : Oper} {v : Value} {k : Nat} {l : Array Bool} {st : Bool → Bool} (b : Bool) (hb : st b = true) (hE : Rep a N E) (hi : ops[i]? = some o) (hB : tkB ops l pre b i = true) (hg : Region.wanted o (yielded ops a.tmps) = true) (hv : Gives P (S b) a o v) (hd : dstOk o.dst N = true) (hS : ∀ c, st c = true → S c w)
    (q : ∀ a, Rep a N (E.put o.dst v) → Rg P .any ops (KB k0).q S pre st k (l.setIfInBounds i true) a w) : Rg P .any ops (KB k0).q S pre st (k + 1) l a w := by
  simp only [tkB, tkP, Bool.and_eq_true] at hB
  obtain ⟨⟨⟨⟨h1, h2⟩, h4⟩, h5⟩, h3⟩ := hB
  exact Rg.first hi b (both (by simpa using h2)) (sinks_spec h3) (Region.noSelect_spec h1) (fun _ _ _ h => h) k st l a w hb (Region.free_spec hi h4) (by simpa using h5) (.inl ⟨hg, hv⟩) hS (q _ (hE.puts hd v))

/-- an operation that asks nothing of memory is taken first -/
theorem Rg.takeP {i : Nat} {o : Oper} {v : Value} {k : Nat} {l : Array Bool} {st : Bool → Bool} (hE : Rep a N E) (hi : ops[i]? = some o) (hB : tkP ops l pre i = true) (hg : Region.wanted o (yielded ops a.tmps) = true) (hv : Gives P (fun _ => True) a o v) (hd : dstOk o.dst N = true) (hS : ∀ c, st c = true → S c w)
    (q : ∀ a, Rep a N (E.put o.dst v) → Rg P .any ops (KB k0).q S pre st k (l.setIfInBounds i true) a w) : Rg P .any ops (KB k0).q S pre st (k + 1) l a w := by
  simp only [tkP, Bool.and_eq_true] at hB
  obtain ⟨⟨⟨h1, h2⟩, h4⟩, h5⟩ := hB
  exact Rg.firstP hi (both (by simpa using h2)) (Region.noSelect_spec h1) (fun _ _ _ h => h) k st l a w (Region.free_spec hi h4) (by simpa using h5) (.inl ⟨hg, hv⟩) hS (q _ (hE.puts hd v))

/-- an operation that is not wanted -/
theorem Rg.no {i : Nat} {o : Oper} {k : Nat} {l : Array Bool} {st : Bool → Bool} (hE : Rep a N E) (hi : ops[i]? = some o) (hB : tkP ops l pre i = true) (hg : Region.wanted o (yielded ops a.tmps) = false) (hd : dstOk o.dst N = true) (hS : ∀ c, st c = true → S c w)
    (q : ∀ a, Rep a N (E.put o.dst undef) → Rg P .any ops (KB k0).q S pre st k (l.setIfInBounds i true) a w) : Rg P .any ops (KB k0).q S pre st (k + 1) l a w := by
  simp only [tkP, Bool.and_eq_true] at hB
  obtain ⟨⟨⟨h1, h2⟩, h4⟩, h5⟩ := hB
  exact Rg.firstP hi (both (by simpa using h2)) (Region.noSelect_spec h1) (fun _ _ _ h => h) k st l a w (Region.free_spec hi h4) (by simpa using h5) (.inr ⟨hg, rfl⟩) hS (q _ (hE.puts hd undef))

/-- what stands, told by two words -/
def tw (x y : Bool) : Bool → Bool := fun b => match b with | true => x | false => y
theorem tw_and {x y x' y' : Bool} {pre : Bool → Nat → Bool} {i : Nat} (h1 : (x && pre true i) = x') (h2 : (y && pre false i) = y') : (fun b => tw x y b && pre b i) = tw x' y' := by
  funext b; cases b <;> simp [tw, h1, h2]
theorem tw_all {S : Bool → World → Prop} {w : World} {x y : Bool} (h1 : x = true → S true w) (h2 : y = true → S false w) : ∀ c, tw x y c = true → S c w := by
  intro c; cases c <;> simpa [tw]

def sel (A B : World → Prop) : Bool → World → Prop
  | true => A
  | false => B
theorem tw_sel {A B : World → Prop} {w : World} {x y : Bool} (h1 : x = true → A w) (h2 : y = true → B w) : ∀ c, tw x y c = true → sel A B c w := by
  intro c; cases c
  · exact h2
  · exact h1

/-- only one operation may come next -/
theorem Rg.one {i : Nat} {o : Oper} {k : Nat} {l : Array Bool} {x y : Bool} (x' y' : Bool) (hi : ops[i]? = some o) (hr : Region.ready .any ops l = [i]) (h1 : (x && pre true i) = x') (h2 : (y && pre false i) = y')
    (h : WL P ops (KB fun a w => ((x' = true → S true w) ∧ (y' = true → S false w)) ∧ Rg P .any ops (KB k0).q S pre (tw x' y') k (l.setIfInBounds i true) a w) [o] a w) : Rg P .any ops (KB k0).q S pre (tw x y) (k + 1) l a w := by
  refine ⟨fun h0 => (by rw [h0] at hr; cases hr), fun j hj => ?_⟩
  rw [hr] at hj
  have : j = i := by simpa using hj
  subst this
  have e := tw_and (x := x) (y := y) h1 h2
  refine wpOp_mono ?_ (wpOp_of_list (k2 := k0) hi h)
  rintro a w ⟨⟨q1, q2⟩, q3⟩
  rw [e]
  exact ⟨fun b hb => by have h5 := congrFun e b; rw [h5] at hb; exact tw_all q1 q2 b hb, q3⟩

/-- one of two operations may come next -/
theorem Rg.two {i j : Nat} {o u : Oper} {k : Nat} {l : Array Bool} {x y : Bool} (x1 y1 x2 y2 : Bool) (hi : ops[i]? = some o) (hj : ops[j]? = some u) (hr : Region.ready .any ops l = [i, j])
    (g1 : (x && pre true i) = x1) (g2 : (y && pre false i) = y1) (g3 : (x && pre true j) = x2) (g4 : (y && pre false j) = y2)
    (h1 : WL P ops (KB fun a w => ((x1 = true → S true w) ∧ (y1 = true → S false w)) ∧ Rg P .any ops (KB k0).q S pre (tw x1 y1) k (l.setIfInBounds i true) a w) [o] a w)
    (h2 : WL P ops (KB fun a w => ((x2 = true → S true w) ∧ (y2 = true → S false w)) ∧ Rg P .any ops (KB k0).q S pre (tw x2 y2) k (l.setIfInBounds j true) a w) [u] a w) : Rg P .any ops (KB k0).q S pre (tw x y) (k + 1) l a w := by
  refine ⟨fun h0 => (by rw [h0] at hr; cases hr), fun m hm => ?_⟩
  rw [hr] at hm
  have : m = i ∨ m = j := by simpa using hm
  rcases this with rfl | rfl
  · have e := tw_and (x := x) (y := y) g1 g2
    refine wpOp_mono ?_ (wpOp_of_list (k2 := k0) hi h1)
    rintro a w ⟨⟨q1, q2⟩, q3⟩
    rw [e]
    exact ⟨fun b hb => by have h5 := congrFun e b; rw [h5] at hb; exact tw_all q1 q2 b hb, q3⟩
  · have e := tw_and (x := x) (y := y) g3 g4
    refine wpOp_mono ?_ (wpOp_of_list (k2 := k0) hj h2)
    rintro a w ⟨⟨q1, q2⟩, q3⟩
    rw [e]
    exact ⟨fun b hb => by have h5 := congrFun e b; rw [h5] at hb; exact tw_all q1 q2 b hb, q3⟩

/-- what is asked of an operation that comes next -/
def Br (P : Program) (ops : Array Oper) (S : Bool → World → Prop) (pre : Bool → Nat → Bool) (k0 : Act → World → Prop) (x y : Bool) (k : Nat) (l : Array Bool) (a : Act) (w : World) (i : Nat) : Prop :=
  ∃ (o : Oper) (x' y' : Bool), ops[i]? = some o ∧ (x && pre true i) = x' ∧ (y && pre false i) = y' ∧
    WL P ops (KB fun a w => ((x' = true → S true w) ∧ (y' = true → S false w)) ∧ Rg P .any ops (KB k0).q S pre (tw x' y') k (l.setIfInBounds i true) a w) [o] a w
def BrAll (P : Program) (ops : Array Oper) (S : Bool → World → Prop) (pre : Bool → Nat → Bool) (k0 : Act → World → Prop) (x y : Bool) (k : Nat) (l : Array Bool) (a : Act) (w : World) : List Nat → Prop
  | [] => True
  | i :: r => Br P ops S pre k0 x y k l a w i ∧ BrAll P ops S pre k0 x y k l a w r
theorem BrAll.mem {x y : Bool} {k : Nat} {l : Array Bool} : ∀ {is : List Nat} {i : Nat}, BrAll P ops S pre k0 x y k l a w is → i ∈ is → Br P ops S pre k0 x y k l a w i
  | _ :: _, _, ⟨h, _⟩, .head _ => h
  | _ :: _, _, ⟨_, h⟩, .tail _ m => h.mem m
theorem Br.mk {i : Nat} {o : Oper} {k : Nat} {l : Array Bool} {x y : Bool} (x' y' : Bool) (hi : ops[i]? = some o) (h1 : (x && pre true i) = x') (h2 : (y && pre false i) = y')
    (h : WL P ops (KB fun a w => ((x' = true → S true w) ∧ (y' = true → S false w)) ∧ Rg P .any ops (KB k0).q S pre (tw x' y') k (l.setIfInBounds i true) a w) [o] a w) : Br P ops S pre k0 x y k l a w i := ⟨o, x', y', hi, h1, h2, h⟩

/-- one of several operations may come next -/
theorem Rg.many {k : Nat} {l : Array Bool} {x y : Bool} (i0 : Nat) (is : List Nat) (hr : Region.ready .any ops l = i0 :: is) (h : BrAll P ops S pre k0 x y k l a w (i0 :: is)) : Rg P .any ops (KB k0).q S pre (tw x y) (k + 1) l a w := by
  refine ⟨fun h0 => (by rw [h0] at hr; cases hr), fun m hm => ?_⟩
  rw [hr] at hm
  obtain ⟨o, x', y', hi, h1, h2, h3⟩ := h.mem hm
  have e := tw_and (x := x) (y := y) h1 h2
  refine wpOp_mono ?_ (wpOp_of_list (k2 := k0) hi h3)
  rintro a w ⟨⟨q1, q2⟩, q3⟩
  rw [e]
  exact ⟨fun b hb => by have h5 := congrFun e b; rw [h5] at hb; exact tw_all q1 q2 b hb, q3⟩

theorem Rg.done {k : Nat} {l : Array Bool} {st : Bool → Bool} (hr : Region.ready .any ops l = []) (h : k0 a w) : Rg P .any ops (KB k0).q S pre st k l a w := by
  cases k with
  | zero => exact ⟨hr, h⟩
  | succ k => exact ⟨fun _ => h, by rw [hr]; simp⟩

theorem W.regionE (S : Bool → World → Prop) (pre : Bool → Nat → Bool) {id : Nat} {l : List Oper} (hm : P.follows .mixedOrders = true) (h : Rg P .any l.toArray (KB K.nor).q S pre (tw true true) l.length (Array.replicate l.length false) a w.drew) (hd : nodefer l = true := by rfl) : W P (.region id l.toArray true) K a w := by
  have h' : Rg P .any l.toArray (KB K.nor).q S pre (tw true true) l.toArray.size (Array.replicate l.toArray.size false) a { w with drawn := w.drawn + 1 } := by simpa using h
  have hK : W P (.region id l.toArray true) { KB K.nor with rd := K.rd } a w := W.anyR hm (by simpa using hd) (Rg.any _ _ _ _ _ h')
  refine wpIn_mono hK ?_
  intro e a w q
  cases e with
  | normal => exact q
  | exit id => obtain ⟨k, hk, _⟩ := q; cases hk
  | ret => exact q.elim
  | panic c => exact q.elim
  | _ => exact q.elim

end
end Go.Fp
