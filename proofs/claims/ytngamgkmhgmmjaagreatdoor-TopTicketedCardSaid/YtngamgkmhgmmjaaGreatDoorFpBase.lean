/- The base of the walks: memory told as a part that stays and a list of parts of the call's own; the frame told by the slots that matter; one law for each operation. -/
import Derived.Calls
import Derived.RangeFuncLeaves
import Derived.RangeFuncRecord
import Derived.TacticsIn
import Derived.Tactics
import Derived.Below
import Derived.Laws.Sem
import Derived.Laws.Rows
import Derived.Laws.World
import Derived.Laws.Cells
import Derived.KernelRfl
import Derived.Deep.Quiet
namespace Go.Fp

/-! ## Memory -/

abbrev Hp := Nat → Option Obj
abbrev HP := Hp → Prop

/-- what stays: blocks that are never written again, and the world outside -/
structure Sg where
  h : Hp
  os : Os
  out : Array (Nat × ByteArray)

structure Sg.Le (s t : Sg) : Prop where
  h : ∀ b o, s.h b = some o → t.h b = some o
  os : t.os = s.os
  out : t.out = s.out

theorem Sg.Le.refl (s : Sg) : s.Le s := ⟨fun _ _ h => h, rfl, rfl⟩
theorem Sg.Le.trans {a b c : Sg} (h : a.Le b) (k : b.Le c) : a.Le c := ⟨fun x o q => k.h x o (h.h x o q), k.os.trans h.os, k.out.trans h.out⟩

/-- parts of memory, one apart from the other; more may lie beside them -/
def Sat : List HP → Hp → Prop
  | [], _ => True
  | r :: rs, h => ∃ h1 h2, r h1 ∧ Sat rs h2 ∧ (∀ b o, h1 b = some o → h b = some o ∧ h2 b = none) ∧ (∀ b o, h2 b = some o → h b = some o)

structure St (w : World) (s : Sg) (rs : List HP) : Prop where
  sub : ∀ b o, s.h b = some o → w.heap[b]? = some o
  own : ∃ h, Sat rs h ∧ ∀ b o, h b = some o → w.heap[b]? = some o ∧ s.h b = none
  os : w.os = s.os
  out : w.output = s.out

theorem Sat.mono {rs : List HP} {h h' : Hp} (k : ∀ b o, h b = some o → h' b = some o) (q : Sat rs h) : Sat rs h' := by
  cases rs with
  | nil => trivial
  | cons r rs => obtain ⟨h1, h2, a, b, c, d⟩ := q; exact ⟨h1, h2, a, b, fun x o e => ⟨k x o (c x o e).1, (c x o e).2⟩, fun x o e => k x o (d x o e)⟩

theorem Sat.tail {r : HP} {rs : List HP} {h : Hp} (q : Sat (r :: rs) h) : Sat rs h := by
  obtain ⟨h1, h2, _, b, _, d⟩ := q; exact b.mono d

theorem Sat.swap {r r' : HP} {rs : List HP} {h : Hp} (q : Sat (r :: r' :: rs) h) : Sat (r' :: r :: rs) h := by
  obtain ⟨h1, h2, a, ⟨h3, h4, b, c, d1, d2⟩, e1, e2⟩ := q
  refine ⟨h3, (fun x => match h1 x with | some o => some o | none => h4 x), b, ⟨h1, h4, a, c, ?_, ?_⟩, ?_, ?_⟩
  · intro x o hx
    refine ⟨by simp [hx], ?_⟩
    have := (e1 x o hx).2
    cases h : h4 x with
    | none => rfl
    | some o' => rw [d2 x o' h] at this; cases this
  · intro x o hx
    cases h : h1 x with
    | none => simpa [h] using hx
    | some o' => have := (e1 x o' h).2; rw [d2 x o hx] at this; cases this
  · intro x o hx
    refine ⟨e2 x o (d1 x o hx).1, ?_⟩
    cases h : h1 x with
    | none => simpa [h] using (d1 x o hx).2
    | some o' => have := (e1 x o' h).2; rw [(d1 x o hx).1] at this; cases this
  · intro x o hx
    cases h : h1 x with
    | none => simp [h] at hx; exact e2 x o (d2 x o hx)
    | some o' => simp [h] at hx; subst hx; exact (e1 x o' h).1

theorem Sat.under {r : HP} {rs rs' : List HP} (k : ∀ h, Sat rs h → Sat rs' h) {h : Hp} (q : Sat (r :: rs) h) : Sat (r :: rs') h := by
  obtain ⟨h1, h2, a, b, c, d⟩ := q; exact ⟨h1, h2, a, k _ b, c, d⟩

theorem Sat.head {r r' : HP} {rs : List HP} (k : ∀ h, r h → r' h) {h : Hp} (q : Sat (r :: rs) h) : Sat (r' :: rs) h := by
  obtain ⟨h1, h2, a, b, c, d⟩ := q; exact ⟨h1, h2, k _ a, b, c, d⟩

theorem Sat.perm {rs rs' : List HP} (p : rs.Perm rs') : ∀ {h : Hp}, Sat rs h → Sat rs' h := by
  induction p with
  | nil => exact fun h => h
  | cons x _ ih => exact fun q => Sat.under (fun _ => ih) q
  | swap x y l => exact fun q => q.swap
  | trans _ _ ih1 ih2 => exact fun q => ih2 (ih1 q)

theorem Sat.sub {rs rs' : List HP} (p : rs'.Sublist rs) : ∀ {h : Hp}, Sat rs h → Sat rs' h := by
  induction p with
  | slnil => exact fun h => h
  | cons x _ ih => exact fun q => ih q.tail
  | cons_cons x _ ih => exact fun q => Sat.under (fun _ => ih) q

section
variable {w : World} {s : Sg} {r r' r'' : HP} {rs rs' : List HP}

theorem St.map (q : St w s rs) (k : ∀ h, Sat rs h → Sat rs' h) : St w s rs' :=
  ⟨q.sub, let ⟨h, a, b⟩ := q.own; ⟨h, k h a, b⟩, q.os, q.out⟩
theorem St.tail (q : St w s (r :: rs)) : St w s rs := q.map fun _ => Sat.tail
theorem St.swap (q : St w s (r :: r' :: rs)) : St w s (r' :: r :: rs) := q.map fun _ => Sat.swap
theorem St.perm (q : St w s rs) (p : rs.Perm rs') : St w s rs' := q.map fun _ => Sat.perm p
theorem St.keep (q : St w s rs) (p : rs'.Sublist rs) : St w s rs' := q.map fun _ => Sat.sub p
theorem St.head (q : St w s (r :: rs)) (k : ∀ h, r h → r' h) : St w s (r' :: rs) := q.map fun _ => Sat.head k
/-- bring part i to the front -/
theorem St.front (q : St w s rs) (i : Nat) (hr : rs[i]? = some r) : St w s (r :: rs.eraseIdx i) := by
  refine q.perm ?_
  clear q
  induction rs generalizing i with
  | nil => simp at hr
  | cons x l ih =>
    cases i with
    | zero => simp at hr; subst hr; exact List.Perm.refl _
    | succ i => simp at hr; simp only [List.eraseIdx_cons_succ]; exact ((ih i hr).cons x).trans (List.Perm.swap _ _ _)
end

/-- the block b is o -/
def pt (b : Nat) (o : Obj) : HP := fun h => h b = some o

theorem St.at {w : World} {s : Sg} {rs : List HP} {b : Nat} {o : Obj} (q : St w s (pt b o :: rs)) : w.heap[b]? = some o := by
  obtain ⟨h, ⟨h1, h2, a, _, c, _⟩, e⟩ := q.own
  exact (e b o (c b o a).1).1

theorem St.alloc {w : World} {s : Sg} {rs : List HP} (q : St w s rs) (o : Obj) : St (w.alloc o) s (pt w.heap.size o :: rs) := by
  obtain ⟨h, a, e⟩ := q.own
  have hn : h w.heap.size = Option.none := by
    cases k : h w.heap.size with
    | none => rfl
    | some o' => have := (e _ _ k).1; simp at this
  have hs : s.h w.heap.size = Option.none := by
    cases k : s.h w.heap.size with
    | none => rfl
    | some o' => have := q.sub _ _ k; simp at this
  have old : ∀ (b : Nat) (o' : Obj), w.heap[b]? = some o' → (w.alloc o).heap[b]? = some o' := by
    intro b o' hb
    have : b < w.heap.size := (Array.getElem?_eq_some_iff.1 hb).1
    rw [heap_alloc_old _ _ _ this]; exact hb
  refine ⟨fun b o' k => old _ _ (q.sub b o' k), ⟨fun x => if x = w.heap.size then some o else h x, ?_, ?_⟩, q.os, q.out⟩
  · refine ⟨fun x => if x = w.heap.size then some o else Option.none, h, by simp [pt], a, ?_, ?_⟩
    · intro b o' k
      by_cases hb : b = w.heap.size
      · subst hb; simp only [if_true] at k; exact ⟨by simpa using k, hn⟩
      · simp only [if_neg hb] at k; cases k
    · intro b o' k
      by_cases hb : b = w.heap.size
      · subst hb; rw [hn] at k; cases k
      · simp [hb, k]
  · intro b o' k
    by_cases hb : b = w.heap.size
    · subst hb
      simp only [if_true] at k
      refine ⟨?_, hs⟩
      rw [heap_alloc_new]; exact k
    · simp only [if_neg hb] at k
      exact ⟨old _ _ (e _ _ k).1, (e _ _ k).2⟩

/-- another block in its place, with the same number -/
theorem St.put {w w' : World} {s : Sg} {rs : List HP} {b : Nat} {o o' : Obj} (q : St w s (pt b o :: rs)) (hb : w'.heap[b]? = some o') (hx : ∀ k, k ≠ b → w'.heap[k]? = w.heap[k]?)
    (hos : w'.os = w.os) (hout : w'.output = w.output) : St w' s (pt b o' :: rs) := by
  obtain ⟨h, ⟨h1, h2, a, a2, c, d⟩, e⟩ := q.own
  have hsb : s.h b = Option.none := (e b o (c b o a).1).2
  have h2b : h2 b = Option.none := (c b o a).2
  refine ⟨?_, ⟨fun x => if x = b then some o' else h2 x, ⟨fun x => if x = b then some o' else Option.none, h2, by simp [pt], a2, ?_, ?_⟩, ?_⟩, hos.trans q.os, hout.trans q.out⟩
  · intro k ok hk
    have : k ≠ b := by intro h; subst h; rw [hsb] at hk; cases hk
    rw [hx k this]; exact q.sub k ok hk
  · intro x ox hxx
    by_cases hb' : x = b
    · subst hb'; simp only [if_true] at hxx; exact ⟨by simpa using hxx, h2b⟩
    · simp only [if_neg hb'] at hxx; cases hxx
  · intro x ox hxx
    by_cases hb' : x = b
    · subst hb'; rw [h2b] at hxx; cases hxx
    · simp [hb', hxx]
  · intro x ox hxx
    by_cases hb' : x = b
    · subst hb'
      simp only [if_true] at hxx
      exact ⟨by rw [hb]; exact hxx, hsb⟩
    · simp only [if_neg hb'] at hxx
      rw [hx x hb']
      exact e x ox (d x ox hxx)

/-- what has been written for the last time stays -/
def Sg.add (s : Sg) (b : Nat) (o : Obj) : Sg := { s with h := fun x => if x = b then some o else s.h x }

theorem St.fix {w : World} {s : Sg} {rs : List HP} {b : Nat} {o : Obj} (q : St w s (pt b o :: rs)) : St w (s.add b o) rs ∧ s.Le (s.add b o) := by
  obtain ⟨h, ⟨h1, h2, a, a2, c, d⟩, e⟩ := q.own
  have hsb : s.h b = Option.none := (e b o (c b o a).1).2
  have h2b : h2 b = Option.none := (c b o a).2
  refine ⟨⟨?_, ⟨h2, a2, ?_⟩, q.os, q.out⟩, ⟨?_, rfl, rfl⟩⟩
  · intro x ox hx
    by_cases hb : x = b
    · subst hb; simp only [Sg.add, if_true] at hx; have := (e x o (c x o a).1).1; rw [this]; exact hx
    · simp only [Sg.add, if_neg hb] at hx; exact q.sub x ox hx
  · intro x ox hx
    refine ⟨(e x ox (d x ox hx)).1, ?_⟩
    by_cases hb : x = b
    · subst hb; rw [h2b] at hx; cases hx
    · simp only [Sg.add, if_neg hb]; exact (e x ox (d x ox hx)).2
  · intro x ox hx
    by_cases hb : x = b
    · subst hb; rw [hsb] at hx; cases hx
    · simp only [Sg.add, if_neg hb]; exact hx

theorem St.drew {w : World} {s : Sg} {rs : List HP} (q : St w s rs) : St w.drew s rs := ⟨q.sub, q.own, q.os, q.out⟩

/-! ## The frame -/

abbrev Env := List (Nat × Value)

/-- the place of a word on deferred calls: no slot -/
def SP : Nat := 4294967295

def Env.get : Env → Nat → Option Value
  | [], _ => none
  | (d, v) :: r, t => if Nat.beq d t && !(Nat.beq d SP) then some v else Env.get r t

/-- the blocks in which the rounds of loops over functions leave their deferred calls -/
def markI : Value → List Deferred
  | .int _ z => [{ target := .collected z.toNat, args := #[] }]
  | _ => []
def markOf : Value → List Deferred
  | .int _ z => [{ target := .collected z.toNat, args := #[] }]
  | .tuple vs => vs.toList.flatMap markI
  | .func f first cap => [{ target := .fn f cap, args := first }]
  | _ => []
def Env.marks : Env → List Deferred
  | [] => []
  | (d, v) :: r => (if Nat.beq d SP then markOf v else []) ++ Env.marks r

def Env.ev (E : Env) : Operand → Option Value
  | .tmp t => E.get t
  | .const v => some v
  | .global g => some (.pointer (some ⟨g, 0, none⟩))
  | .func f => some (.func (.func f) #[] #[])

/-- the slots of E hold what E says; n slots in all; no deferred call -/
structure Rep (a : Act) (n : Nat) (E : Env) : Prop where
  get : ∀ t v, E.get t = some v → a.tmps[t]? = some v
  size : a.tmps.size = n
  defers : a.defers = E.marks
  lim : Nat.ble n SP = true

theorem Rep.ev {a : Act} {n : Nat} {E : Env} (h : Rep a n E) {x : Operand} {v : Value} (hx : E.ev x = some v) : a.eval x = v := by
  cases x with
  | tmp t => simp only [Env.ev] at hx; simp [Act.eval, h.get t v hx]
  | const v' => simp [Env.ev] at hx; simp [Act.eval, hx]
  | global g => simp [Env.ev] at hx; simp [Act.eval, hx]
  | func f => simp [Env.ev] at hx; simp [Act.eval, hx]

theorem Rep.put {a : Act} {n : Nat} {E : Env} (h : Rep a n E) {d : Nat} (hd : Nat.blt d n = true) (v : Value) : Rep (a.put (some d) v) n ((d, v) :: E) := by
  have hd' : d < a.tmps.size := by rw [h.size]; simpa using hd
  have hsp : Nat.beq d SP = false := by
    cases k : Nat.beq d SP with
    | false => rfl
    | true =>
      have h1 := Nat.eq_of_beq_eq_true k
      have h2 := Nat.le_of_ble_eq_true h.lim
      have h3 : d < n := by simpa using hd
      omega
  refine ⟨?_, by simp [Act.put, h.size], ?_, h.lim⟩
  rotate_left
  · show a.defers = _
    rw [h.defers]; show _ = (if Nat.beq d SP then markOf v else []) ++ _; rw [hsp]; rfl
  intro t u hu
  simp only [Env.get, hsp, Bool.not_false, Bool.and_true] at hu
  by_cases e : d = t
  · subst e
    simp at hu
    simp [Act.put, hu, hd']
  · have : Nat.beq d t = false := by
      cases k : Nat.beq d t with
      | false => rfl
      | true => exact (e (Nat.eq_of_beq_eq_true k)).elim
    rw [this] at hu
    simp only [Act.put]
    rw [Array.getElem?_setIfInBounds_ne (by omega)]
    exact h.get t u (by simpa using hu)

/-- fewer slots are told -/
theorem Rep.less {a : Act} {n : Nat} {E E' : Env} (h : Rep a n E) (hv : ∀ p ∈ E', Nat.beq p.1 SP = false → E.get p.1 = some p.2) (hm : E'.marks = E.marks := by rfl) : Rep a n E' := by
  refine ⟨?_, h.size, h.defers.trans hm.symm, h.lim⟩
  intro t v ht
  refine h.get t v ?_
  clear h hm
  induction E' with
  | nil => simp [Env.get] at ht
  | cons p r ih =>
    simp only [Env.get] at ht
    split at ht
    · rename_i k
      simp only [Bool.and_eq_true, Bool.not_eq_true'] at k
      have := Nat.eq_of_beq_eq_true k.1
      subst this
      have := hv p (by simp) k.2
      simp at ht
      rw [this, ht]
    · exact ih (fun q hq => hv q (by simp [hq])) ht

def Env.put (E : Env) : Option Tmp → Value → Env
  | some d, v => (d, v) :: E
  | none, _ => E

def dstOk (d : Option Tmp) (n : Nat) : Bool := match d with | some d => Nat.blt d n | none => true

theorem Rep.puts {a : Act} {n : Nat} {E : Env} (h : Rep a n E) {d : Option Tmp} (hd : dstOk d n = true) (v : Value) : Rep (a.put d v) n (E.put d v) := by
  cases d with
  | none => exact h
  | some d => exact h.put hd v

/-! ## The ways on -/

structure Kt where
  nor : Act → World → Prop
  ret : Act → World → Prop
  ex : List (Nat × (Act → World → Prop))
  pan : List PanicEntry → Act → World → Prop
  /-- within a round of this loop over a function -/
  rd : Option Nat := none

def Kt.F (K : Kt) : Fence := { Fence.wide with round := K.rd }

def Kt.look : List (Nat × (Act → World → Prop)) → Nat → Option (Act → World → Prop)
  | [], _ => none
  | (i, k) :: r, id => if Nat.beq i id then some k else Kt.look r id

def Kt.q (K : Kt) : Exit → Act → World → Prop
  | .normal, a, w => K.nor a w
  | .ret, a, w => K.ret a w
  | .exit id, a, w => ∃ k, Kt.look K.ex id = some k ∧ k a w
  | .panic c, a, w => K.pan c a w
  | _, _, _ => False

def W (P : Program) (c : Code) (K : Kt) (a : Act) (w : World) : Prop := c.wpIn K.F 0 P K.q a w
def WL (P : Program) (ops : Array Oper) (K : Kt) (l : List Oper) (a : Act) (w : World) : Prop := wpList P ops K.q l a w

/-- no operation defers a call -/
def nodefer (ops : List Oper) : Bool := ops.all fun o => match o.op with | .defer _ => false | _ => true

theorem callsIn_any {rd : Option Nat} {n : Nat} {P : Program} {f : FuncId} {args : Array Value} {w : World} {R : Ending → World → Prop} : CallsIn { Fence.wide with round := rd } n P f args w R ↔ Calls P f args w R :=
  callsIn_wide (n := n)

/-- a region's operations, walked without a fence, are walked in a round too -/
theorem opsIn_of_ops {rd : Option Nat} {P : Program} {ops : Array Oper} {Q : Exit → Act → World → Prop} (hQ : ∀ a w, ¬ Q .outgrown a w) (hd : nodefer ops.toList = true) :
    ∀ (l : List Nat) (a : Act) (w : World), wpOps P ops Q l a w → wpOpsIn { Fence.wide with round := rd } 0 P ops Q l a w
  | [], a, w, h => h
  | i :: rest, a, w, h => by
    rw [wpOps] at h
    rw [wpOpsIn]
    cases ho : ops[i]? with
    | none => rw [ho] at h; exact opsIn_of_ops hQ hd rest a w h
    | some o =>
      rw [ho] at h
      simp only at h ⊢
      by_cases hw : Region.wanted o (yielded ops a.tmps) = true
      · rw [if_pos hw] at h ⊢
        rcases h with h | ⟨_, a', w', h⟩
        · refine ⟨fun _ _ => trivial, ?_⟩
          have hnd : ∀ c, o.op ≠ .defer c := by
            intro c hc
            have := (List.all_eq_true.1 hd) o (by
              have := (Array.getElem?_eq_some_iff.1 ho)
              obtain ⟨hi, rfl⟩ := this
              simp)
            simp [hc] at this
          have hsem : o.semAt rd a.eval = execOp a.eval o := by
            cases rd with
            | none => rfl
            | some l => exact Oper.semAt_some l a.eval o hnd
          show o.uponIn _ 0 P a _ Q ((o.semAt rd a.eval).run P w)
          rw [hsem]
          unfold Oper.wp at h
          generalize (execOp a.eval o).run P w = r at *
          cases r with
          | ok m w' =>
            cases m <;> simp only [Oper.upon] at h <;> simp only [Oper.uponIn]
            case value u => exact opsIn_of_ops hQ hd rest _ _ h
            case skip => exact opsIn_of_ops hQ hd rest _ _ h
            case defer d => exact opsIn_of_ops hQ hd rest _ _ h
            case enter f args =>
              refine ⟨fun h => (by simp [Fence.wide] at h), callsIn_any.2 (Calls.mono h fun e w'' he => ?_)⟩
              cases e with
              | returned u => exact opsIn_of_ops hQ hd rest _ _ he
              | panicked c => exact he
              | outgrown => exact he
            case row row args =>
              refine ⟨fun h => (by simp [Fence.wide] at h), ?_⟩
              intro c cs _
              obtain ⟨v, w'', h1, h2⟩ := h c cs
              exact ⟨v, w'', opsIn_of_ops hQ hd rest _ _ h1, stepsIn_wide.2 h2⟩
          | halt x w' =>
            cases x <;> simp only [Oper.upon] at h <;> simp only [Oper.uponIn]
            case panic u => exact h
        · exact (hQ _ _ h).elim
      · rw [if_neg hw] at h ⊢
        exact ⟨fun _ _ => trivial, opsIn_of_ops hQ hd rest _ _ h⟩

section
variable {P : Program} {K : Kt} {a : Act} {w : World}

theorem W.seq {x y : Code} (h : W P x { K with nor := fun a w => W P y K a w } a w) : W P (.seq x y) K a w := by
  refine wpIn_seq (wpIn_mono h ?_)
  intro e a w q
  cases e <;> exact q

theorem W.skip (h : K.nor a w) : W P .skip K a w := wpIn_skip h
theorem W.label {l : Nat} (h : K.nor a w) : W P (.label l) K a w := wpIn_label h
theorem W.gen {c : Code} (h : ∀ K', K = K' → W P c K' a w) : W P c K a w := h K rfl
theorem W.ret (h : K.ret a w) : W P .ret K a w := wpIn_ret h
theorem W.exit {id : Nat} {k : Act → World → Prop} (hk : Kt.look K.ex id = some k) (h : k a w) : W P (.exit id) K a w := wpIn_exit ⟨k, hk, h⟩

theorem W.block {id : Nat} {c : Code} (h : W P c { K with ex := (id, K.nor) :: K.ex } a w) : W P (.block id c) K a w := by
  refine wpIn_block (wpIn_mono h ?_)
  intro e a w q
  cases e with
  | exit id' =>
    obtain ⟨k, hk, q⟩ := q
    simp only [Kt.look] at hk
    by_cases e : id' = id
    · subst e
      simp at hk
      subst hk
      simp only [Exit.inBlock, if_true]
      exact q
    · have : Nat.beq id id' = false := by
        cases k : Nat.beq id id' with
        | false => rfl
        | true => exact (e (Nat.eq_of_beq_eq_true k).symm).elim
      rw [this] at hk
      simp only [Exit.inBlock, if_neg e]
      exact ⟨k, by simpa using hk, q⟩
  | normal => exact q
  | goto l => exact q
  | ret => exact q
  | panic c => exact q
  | outgrown => exact q

theorem W.cond {n : Nat} {E : Env} (hE : Rep a n E) {c : Operand} {x y : Code} {b : Bool} (hc : E.ev c = some (.bool b)) (ht : b = true → W P x K a w) (hf : b = false → W P y K a w) : W P (.cond c x y) K a w :=
  wpIn_cond_split (hE.ev hc) ht hf
theorem W.condT {n : Nat} {E : Env} (hE : Rep a n E) {c : Operand} {x y : Code} {b : Bool} (hc : E.ev c = some (.bool b)) (hb : b = true) (ht : W P x K a w) : W P (.cond c x y) K a w :=
  W.cond hE hc (fun _ => ht) (fun h => by rw [hb] at h; cases h)
theorem W.condF {n : Nat} {E : Env} (hE : Rep a n E) {c : Operand} {x y : Code} {b : Bool} (hc : E.ev c = some (.bool b)) (hb : b = false) (hf : W P y K a w) : W P (.cond c x y) K a w :=
  W.cond hE hc (fun h => by rw [hb] at h; cases h) (fun _ => hf)

theorem W.mono {c : Code} {K' : Kt} (h : W P c K a w) (hn : ∀ a w, K.nor a w → K'.nor a w) (hr : ∀ a w, K.ret a w → K'.ret a w) (hx : ∀ id k, Kt.look K.ex id = some k → ∃ k', Kt.look K'.ex id = some k' ∧ ∀ a w, k a w → k' a w)
    (hp : ∀ c a w, K.pan c a w → K'.pan c a w) (hd : K.rd = K'.rd := by rfl) : W P c K' a w := by
  have hF : K'.F = K.F := by unfold Kt.F; rw [hd]
  show c.wpIn K'.F 0 P K'.q a w
  rw [hF]
  refine wpIn_mono h ?_
  intro e a w q
  cases e with
  | exit id => obtain ⟨k, hk, q⟩ := q; obtain ⟨k', h1, h2⟩ := hx id k hk; exact ⟨k', h1, h2 _ _ q⟩
  | normal => exact hn _ _ q
  | ret => exact hr _ _ q
  | panic c => exact hp _ _ _ q
  | goto l => exact q
  | outgrown => exact q

/-- the ways meet again in M -/
theorem W.cut {c : Code} (M : Act → World → Prop) (h : W P c { K with nor := M } a w) (k : ∀ a w, M a w → K.nor a w) : W P c K a w :=
  h.mono k (fun _ _ h => h) (fun _ k h => ⟨k, h, fun _ _ h => h⟩) (fun _ _ _ h => h)

/-- a loop: F m: what holds at a round's head while m bounds the rounds that are left -/
theorem W.loop {c : Code} (F : Nat → Act → World → Prop) {m : Nat} (h0 : F m a w) (round : ∀ m a w, F m a w → W P c { K with nor := fun a w => ∃ m', m' < m ∧ F m' a w } a w) : W P (.loop c) K a w := by
  intro b k cs hro hb hr
  have key : ∀ m a w, F m a w → ∃ e a' w', K.q e a' w' ∧ ArrivesIn (Machine.fenced P K.F) P (lone (b.atR a (.code c :: .inLoop c :: k)) cs w) b k cs e a' w' := by
    intro m
    induction m using Nat.strongRecOn with
    | _ m ih =>
      intro a w hF
      obtain ⟨e, a₁, w₁, hq, harr⟩ := round m a w hF b (.inLoop c :: k) cs hro hb hr
      cases e with
      | normal =>
        obtain ⟨m', hlt, hF'⟩ := hq
        obtain ⟨e₂, a₂, w₂, hq₂, harr₂⟩ := ih m' hlt a₁ w₁ hF'
        exact ⟨e₂, a₂, w₂, hq₂, .of_steps (StepsIn.trans harr (.one (fenced_calm hb hr rfl) stepR_inLoop)) harr₂⟩
      | exit id => exact ⟨.exit id, a₁, w₁, (show K.q (.exit id) a₁ w₁ from hq), .pass (x := .inLoop c) rfl (fun _ _ => .inl (by simp)) harr⟩
      | goto l => exact hq.elim
      | ret => exact ⟨.ret, a₁, w₁, (show K.q .ret a₁ w₁ from hq), .pass (x := .inLoop c) rfl (fun _ _ => .inl (by simp)) harr⟩
      | panic ch => exact ⟨.panic ch, a₁, w₁, (show K.q (.panic ch) a₁ w₁ from hq), .pass (x := .inLoop c) rfl (fun _ _ => .inl (by simp)) harr⟩
      | outgrown => exact hq.elim
  obtain ⟨e, a', w', hq, harr⟩ := key _ a w h0
  exact ⟨e, a', w', hq, .of_steps (.one (fenced_calm hb hr rfl) stepR_loop) harr⟩

theorem W.region {id : Nat} {ops : List Oper} (h : WL P ops.toArray K ops a w) (hd : nodefer ops = true := by rfl) : W P (.region id ops.toArray false) K a w := by
  refine wpIn_region (opsIn_of_ops (fun _ _ h => h) (by simpa using hd) _ a w ?_)
  have e : ops.toArray.toList = ops := by simp
  have := wpOps_eq_wpList (P := P) (ops := ops.toArray) (Q := K.q) ops 0 (by simp)
  rw [List.range_eq_range']
  have hs : ops.toArray.size = ops.length := by simp
  rw [hs, this]
  exact h

/-- a region that asks the tape -/
theorem W.anyR {id : Nat} {ops : Array Oper} (hm : P.follows .mixedOrders = true) (hd : nodefer ops.toList = true)
    (h : wpAny P .any ops K.q ops.size (Array.replicate ops.size false) a { w with drawn := w.drawn + 1 }) : W P (.region id ops true) K a w := by
  refine wpIn_region_draw fun t => opsIn_of_ops (fun _ _ h => h) hd _ a _ ?_
  simp only [Region.schedule, hm, Bool.true_or, if_true]
  exact wpAny_sound ops.size t _ a _ h

theorem WL.nil {ops : Array Oper} (h : K.nor a w) : WL P ops K [] a w := h

theorem WL.step {ops : Array Oper} {o : Oper} {rest : List Oper} {v : Value} {w' : World} (hw : Region.wanted o (yielded ops a.tmps) = true) (hr : (execOp a.eval o).run P w = .ok (.value v) w')
    (k : WL P ops K rest (a.put o.dst v) w') : WL P ops K (o :: rest) a w := by
  show wpList P ops K.q (o :: rest) a w
  rw [wpList, if_pos hw]
  refine .inl ?_
  rw [Oper.wp, hr]
  exact k

theorem WL.skipS {ops : Array Oper} {o : Oper} {rest : List Oper} {w' : World} (hw : Region.wanted o (yielded ops a.tmps) = true) (hr : (execOp a.eval o).run P w = .ok .skip w')
    (k : WL P ops K rest (a.put o.dst undef) w') : WL P ops K (o :: rest) a w := by
  show wpList P ops K.q (o :: rest) a w
  rw [wpList, if_pos hw]
  refine .inl ?_
  rw [Oper.wp, hr]
  exact k

/-- an operation whose guard says no -/
theorem WL.pass {ops : Array Oper} {o : Oper} {rest : List Oper} (hw : Region.wanted o (yielded ops a.tmps) = false) (k : WL P ops K rest (a.put o.dst undef) w) : WL P ops K (o :: rest) a w := by
  show wpList P ops K.q (o :: rest) a w
  rw [wpList, hw]
  exact k

theorem WL.call {ops : Array Oper} {o : Oper} {rest : List Oper} {w' : World} {f : FuncId} {args : Array Value} (hw : Region.wanted o (yielded ops a.tmps) = true)
    (hr : (execOp a.eval o).run P w = .ok (.enter f args) w') {R : Ending → World → Prop} (hc : Calls P f args w' R)
    (k : ∀ e w'', R e w'' → ∃ v, e = .returned v ∧ WL P ops K rest (a.put o.dst v) w'') : WL P ops K (o :: rest) a w := by
  show wpList P ops K.q (o :: rest) a w
  rw [wpList, if_pos hw]
  refine .inl ?_
  rw [Oper.wp, hr, Oper.upon_enter]
  refine hc.mono ?_
  intro e w'' hR
  obtain ⟨v, rfl, h⟩ := k e w'' hR
  exact h

end

/-! ## Operations that touch no memory -/

def popBin (op : BinOp) (k : IntKind) (x y : Int) : Option Value :=
  match op with
  | .add => some (.int k (k.wrap (x + y)))
  | .sub => some (.int k (k.wrap (x - y)))
  | .mul => some (.int k (k.wrap (x * y)))
  | .eql => some (.bool (x == y))
  | .neq => some (.bool (x != y))
  | .lss => some (.bool (x < y))
  | .leq => some (.bool (x ≤ y))
  | .gtr => some (.bool (x > y))
  | .geq => some (.bool (x ≥ y))
  | .quo => bif decide (y = 0) then none else some (.int k (k.wrap (x.tdiv y)))
  | .rem => bif decide (y = 0) then none else some (.int k (x.tmod y))
  | .and => some (.int k (k.wrap (BitVec.ofInt k.bits x &&& BitVec.ofInt k.bits y).toNat))
  | .or => some (.int k (k.wrap (BitVec.ofInt k.bits x ||| BitVec.ofInt k.bits y).toNat))
  | .xor => some (.int k (k.wrap (BitVec.ofInt k.bits x ^^^ BitVec.ofInt k.bits y).toNat))
  | .andNot => some (.int k (k.wrap (BitVec.ofInt k.bits x &&& ~~~BitVec.ofInt k.bits y).toNat))
  | _ => none

def IntKind.same : IntKind → IntKind → Bool
  | .i8, .i8 | .i16, .i16 | .i32, .i32 | .i64, .i64 | .u8, .u8 | .u16, .u16 | .u32, .u32 | .u64, .u64 => true
  | _, _ => false

theorem IntKind.same_eq : ∀ {j k : IntKind}, IntKind.same j k = true → j = k := by
  intro j k h; cases j <;> cases k <;> first | rfl | (cases h)

def pop (ev : Operand → Option Value) : Op → Option Value
  | .move x | .assign x => ev x
  | .pick c x y => match ev c, ev x, ev y with
    | some (.bool b), some u, some v => some (bif b then u else v)
    | _, _, _ => none
  | .binOp op _ x y _ => match ev x, ev y with
    | some (.int j a), some (.int k b) => if IntKind.same j k then popBin op j a b else none
    | _, _ => none
  | .unOp .not _ x => match ev x with
    | some (.bool b) => some (.bool !b)
    | _ => none
  | .unOp .neg _ x => match ev x with
    | some (.int k n) => some (.int k (k.wrap (0 - n)))
    | _ => none
  | .extract x i => match ev x with
    | some (.tuple vs) => vs.toList[i]?
    | _ => none
  | _ => none

theorem popBin_run {P : Program} {w : World} {op : BinOp} {k : IntKind} {x y : Int} {v : Value} {t : TypeId} {ox oy : Operand} (h : popBin op k x y = some v) :
    (do eqGuard op t ox oy (.int k x) (.int k y); binOp op t (.int k x) (.int k y) : Sem Value).run P w = .ok v w := by
  cases op <;> simp only [popBin] at h
  case quo => by_cases h0 : y = 0 <;> simp [h0] at h; subst h; simp [eqGuard, binOp, Op.intDiv, h0]
  case rem => by_cases h0 : y = 0 <;> simp [h0] at h; subst h; simp [eqGuard, binOp, Op.intDiv, h0]
  all_goals (simp at h)
  all_goals (subst h; simp [eqGuard, binOp, Op.intArith, Op.intCmp, Op.intBits])

theorem pop_run {P : Program} {w : World} {ev : Operand → Option Value} {ρ : Operand → Value} (hρ : ∀ x v, ev x = some v → ρ x = v) {o : Oper} {v : Value} (h : pop ev o.op = some v) :
    (execOp ρ o).run P w = .ok (.value v) w := by
  obtain ⟨dst, op, ty, pos, after, guard⟩ := o
  simp only at h
  cases op with
  | move x => simp only [pop] at h; simp [execOp, hρ x v h]
  | assign x => simp only [pop] at h; simp [execOp, hρ x v h]
  | pick c x y =>
    simp only [pop] at h
    split at h
    · rename_i b u v' hc hx hy
      simp at h
      subst h
      simp [execOp, hρ c _ hc, hρ x _ hx, hρ y _ hy, asBool]
    · cases h
  | binOp op t x y t' =>
    simp only [pop] at h
    split at h
    · rename_i j m k n hx hy
      split at h
      · rename_i hjk
        have := IntKind.same_eq hjk
        subst this
        have := popBin_run (P := P) (w := w) (t := t) (ox := x) (oy := y) h
        simp only [execOp, hρ x _ hx, hρ y _ hy]
        rw [Sem.run_bind, this]
        exact rfl
      · cases h
    · cases h
  | unOp op t x =>
    cases op with
    | not =>
      simp only [pop] at h
      split at h
      · rename_i b hx
        simp at h; subst h
        simp [execOp, hρ x _ hx, Op.unary]
      · cases h
    | neg =>
      simp only [pop] at h
      split at h
      · rename_i b n hx
        simp at h; subst h
        simp [execOp, hρ x _ hx, Op.unary, Op.intArith]
      · cases h
    | xor => simp [pop] at h
    | plus => simp [pop] at h
  | extract x i =>
    simp only [pop] at h
    split at h
    · rename_i vs hx
      have : vs[i]? = some v := by simpa using h
      simp [execOp, hρ x _ hx, Instr.extract, this]
    · cases h
  | _ => simp [pop] at h

section
variable {P : Program} {K : Kt} {a : Act} {w : World} {n : Nat} {E : Env} {ops : Array Oper} {o : Oper} {rest : List Oper}

theorem runs_plain (h : o.guard = none) : Region.wanted o (yielded ops a.tmps) = true := by simp [Region.wanted, h]
theorem runs_if (hE : Rep a n E) {j d : Nat} {b c : Bool} (h : o.guard = some (j, b)) (hj : (ops[j]?).bind (·.dst) = some d) (hd : E.get d = some (.bool c)) (hbc : c = b) : Region.wanted o (yielded ops a.tmps) = true := by
  subst hbc; simp [Region.wanted, h, yielded, hj, hE.get _ _ hd]
theorem runs_not (hE : Rep a n E) {j d : Nat} {b c : Bool} (h : o.guard = some (j, b)) (hj : (ops[j]?).bind (·.dst) = some d) (hd : E.get d = some (.bool c)) (hbc : c ≠ b) : Region.wanted o (yielded ops a.tmps) = false := by
  simp [Region.wanted, h, yielded, hj, hE.get _ _ hd, hbc]
theorem runs_undef (hE : Rep a n E) {j d : Nat} {b : Bool} (h : o.guard = some (j, b)) (hj : (ops[j]?).bind (·.dst) = some d) (hd : E.get d = some undef) : Region.wanted o (yielded ops a.tmps) = false := by
  simp [Region.wanted, h, yielded, hj, hE.get _ _ hd, undef]

/-- an operation that yields v, in every world of the class C, and leaves the world alone -/
def Gives (P : Program) (C : World → Prop) (a : Act) (o : Oper) (v : Value) : Prop := ∀ w, C w → (execOp a.eval o).run P w = .ok (.value v) w

/-- a region whose order is open, walked in the text's order -/
def QL (P : Program) (ops : Array Oper) (C : World → Prop) (Q : Act → Prop) (l : List Oper) (a : Act) : Prop := wpQuiet P ops C Q l a

theorem WL.v {C : World → Prop} (hC : C w) (hE : Rep a n E) {v : Value} (hg : Region.wanted o (yielded ops a.tmps) = true) (h : Gives P C a o v) (hd : dstOk o.dst n = true)
    (k : ∀ a, Rep a n (E.put o.dst v) → WL P ops K rest a w) : WL P ops K (o :: rest) a w := WL.step hg (h w hC) (k _ (hE.puts hd v))

theorem QL.v {C : World → Prop} {Q : Act → Prop} (hE : Rep a n E) {v : Value} (hg : Region.wanted o (yielded ops a.tmps) = true) (h : Gives P C a o v) (hd : dstOk o.dst n = true)
    (k : ∀ a, Rep a n (E.put o.dst v) → QL P ops C Q rest a) : QL P ops C Q (o :: rest) a := by
  show wpQuiet P ops C Q (o :: rest) a
  rw [wpQuiet, if_pos hg]
  exact ⟨v, fun w hw => by unfold Oper.quietAt; rw [h w hw]; exact ⟨rfl, rfl⟩, k _ (hE.puts hd v)⟩

theorem WL.no (hE : Rep a n E) (hg : Region.wanted o (yielded ops a.tmps) = false) (hd : dstOk o.dst n = true)
    (k : ∀ a, Rep a n (E.put o.dst undef) → WL P ops K rest a w) : WL P ops K (o :: rest) a w :=
  WL.pass hg (k _ (hE.puts hd undef))

theorem QL.no {C : World → Prop} {Q : Act → Prop} (hE : Rep a n E) (hg : Region.wanted o (yielded ops a.tmps) = false) (hd : dstOk o.dst n = true)
    (k : ∀ a, Rep a n (E.put o.dst undef) → QL P ops C Q rest a) : QL P ops C Q (o :: rest) a := by
  show wpQuiet P ops C Q (o :: rest) a
  rw [wpQuiet, hg]
  exact k _ (hE.puts hd undef)

theorem QL.nil {C : World → Prop} {Q : Act → Prop} (h : Q a) : QL P ops C Q [] a := h

theorem W.regionQ {C : World → Prop} {id : Nat} {l : List Oper} (hm : P.follows .mixedOrders = true) (hB : Region.lexB .any l.toArray = true) (hC : C w.drew)
    (h : QL P l.toArray C (fun a => ∀ w, C w → K.nor a w) l a) (hd : nodefer l = true := by rfl) : W P (.region id l.toArray true) K a w := by
  simp only [Region.lexB, Bool.and_eq_true] at hB
  refine W.anyR hm (by simpa using hd) (wpAny_of_quiet (Q := fun a' => ∀ w', C w' → K.q .normal a' w') (fun _ w' hw' h => h w' hw') _ _ _ _ hC ?_)
  have e : l.toArray.toList = l := by simp
  have := wpAnyQ_lex (C := C) (md := .any) hB.1 l.toArray.toList 0 (Array.replicate l.toArray.size false) a (by simp) (by simpa using hB.2) (by rw [e]; exact h)
  simpa [Kt.q] using this

theorem Gives.p {C : World → Prop} (hE : Rep a n E) {v : Value} (hv : pop E.ev o.op = some v) : Gives P C a o v := fun _ _ => pop_run (fun _ _ h => hE.ev h) hv

end

/-! ## Memory that stays, read -/

/-- from place b, off on the memory that stays holds cs -/
def Sg.At (s : Sg) (b off : Nat) (cs : List Value) : Prop := ∃ c T fr, s.h b = some (.cells c T fr) ∧ ∀ j v, cs[j]? = some v → c[off + j]? = some v

/-- the world holds cs from there on -/
def Sees (w : World) (b off : Nat) (cs : List Value) : Prop := ∀ j v, cs[j]? = some v → w.cell? ⟨b, off + j, none⟩ = some v

theorem Sg.At.mono {s t : Sg} (h : s.Le t) {b off : Nat} {cs : List Value} (q : s.At b off cs) : t.At b off cs := by
  obtain ⟨c, T, fr, a, d⟩ := q; exact ⟨c, T, fr, h.h _ _ a, d⟩

theorem St.sees {w : World} {s : Sg} {rs : List HP} (q : St w s rs) {b off : Nat} {cs : List Value} (h : s.At b off cs) : Sees w b off cs := by
  obtain ⟨c, T, fr, a, d⟩ := h
  intro j v hj
  have := q.sub _ _ a
  simp [World.cell?, this, d j v hj]

theorem St.seesB {w : World} {s : Sg} {rs : List HP} {b off : Nat} {c : List Value} {T : TypeId} {fr : Nat × Nat} (q : St w s (pt b (.cells c.toArray T fr) :: rs)) {cs : List Value} (h : ∀ j v, cs[j]? = some v → c[off + j]? = some v) : Sees w b off cs := by
  intro j v hj
  have := q.at
  simp [World.cell?, this, h j v hj]

theorem Addr.add_here (b off n : Nat) : (⟨b, off, none⟩ : Addr).add n = ⟨b, off + n, none⟩ := by
  unfold Addr.add; split <;> simp_all

/-- type t: does a value of it lie in several cells (a struct, an array), and in how many -/
def tyOk (P : Program) (t : TypeId) (agg : Bool) (n : Nat) : Bool :=
  match P.underlying t, P.info? t with
  | some d, some i => (match d with | .struct _ | .array _ _ => agg | _ => !agg) && Nat.beq i.size n
  | _, _ => false

theorem tyOk.agg {P : Program} {t : TypeId} {b : Bool} {n : Nat} (h : tyOk P t b n = true) (w : World) : (isAgg t).run P w = .ok b w := by
  unfold tyOk at h
  split at h
  · rename_i d i hd hi
    unfold isAgg
    rw [Sem.run_bind, run_underlying hd w]
    cases d <;> cases b <;> simp_all
  · cases h
theorem tyOk.size {P : Program} {t : TypeId} {b : Bool} {n : Nat} (h : tyOk P t b n = true) (w : World) : (sizeOf t).run P w = .ok n w := by
  unfold tyOk at h
  split at h
  · rename_i d i hd hi
    simp only [Bool.and_eq_true] at h
    have := Nat.eq_of_beq_eq_true h.2
    simp [sizeOf, typeInfo, hi, this]
  · cases h

section
variable {P : Program} {K : Kt} {a : Act} {w : World} {n : Nat} {E : Env} {ops : Array Oper} {rest : List Oper} {d : Option Tmp} {ty : TypeId} {pos : String} {aft : Array Edge} {g : Option (Nat × Bool)}

theorem run_loadVar1 {t : TypeId} {p : Addr} {v : Value} (ht : tyOk P t false 1 = true) (h : w.cell? p = some v) : (loadVar t p).run P w = .ok v w := by
  simp [loadVar, tyOk.agg ht, h]

theorem run_loadVarA {t : TypeId} {b off : Nat} {cs : List Value} (ht : tyOk P t true cs.length = true) (h : Sees w b off cs) : (loadVar t ⟨b, off, none⟩).run P w = .ok (.agg cs.toArray) w := by
  have := run_loadCells_list (P := P) w ⟨b, off, none⟩ cs (fun j v hj => by rw [Addr.add_here]; exact h j v hj)
  simp [loadVar, tyOk.agg ht, tyOk.size ht, this]

theorem Gives.load1 {C : World → Prop} (hE : Rep a n E) {t : TypeId} {x : Operand} {b off : Nat} {v : Value} (hx : E.ev x = some (.pointer (some ⟨b, off, none⟩)))
    (hs : ∀ w, C w → Sees w b off [v]) (ht : tyOk P t false 1 = true) : Gives P C a ⟨d, .load t x, ty, pos, aft, g⟩ v := by
  intro w hw
  have : w.cell? ⟨b, off, none⟩ = some v := by simpa using hs w hw 0 v (by simp)
  simp [execOp, hE.ev hx, Instr.loadAt, Instr.sureAddr, run_loadVar1 ht this]

theorem Gives.loadA {C : World → Prop} (hE : Rep a n E) {t : TypeId} {x : Operand} {b off : Nat} {cs : List Value} (hx : E.ev x = some (.pointer (some ⟨b, off, none⟩)))
    (hs : ∀ w, C w → Sees w b off cs) (ht : tyOk P t true cs.length = true) : Gives P C a ⟨d, .load t x, ty, pos, aft, g⟩ (.agg cs.toArray) := by
  intro w hw
  simp [execOp, hE.ev hx, Instr.loadAt, Instr.sureAddr, run_loadVarA ht (hs w hw)]

/-- type t is a slice, of elements of type e with es cells each -/
def slOk (P : Program) (t e es : Nat) : Bool :=
  match P.underlying t, P.info? e with
  | some (.slice e'), some i => Nat.beq e' e && Nat.beq i.size es
  | _, _ => false

theorem slOk.und {t e es : Nat} (h : slOk P t e es = true) : P.underlying t = some (.slice e) := by
  unfold slOk at h
  split at h
  · rename_i e' i hu hi; simp only [Bool.and_eq_true] at h; rw [hu, Nat.eq_of_beq_eq_true h.1]
  · cases h
theorem slOk.size {t e es : Nat} (h : slOk P t e es = true) (w : World) : (sizeOf e).run P w = .ok es w := by
  unfold slOk at h
  split at h
  · rename_i e' i hu hi; simp only [Bool.and_eq_true] at h; simp [sizeOf, typeInfo, hi, Nat.eq_of_beq_eq_true h.2]
  · cases h

theorem Gives.len {C : World → Prop} (hE : Rep a n E) {t e es : TypeId} {x : Operand} {sa : Option Addr} {m c : Nat}
    (hx : E.ev x = some (.slice sa m c)) (ht : slOk P t e es = true) : Gives P C a ⟨d, .call ⟨.builtin .len, #[x], #[t]⟩, ty, pos, aft, g⟩ (.int .i64 m) := by
  intro w _
  simp [execOp, resolve, invoke, builtin, hE.ev hx, Builtin.len_, run_underlying (slOk.und ht), goInt]

def ab (a : Option Addr) : Nat := (a.getD ⟨0, 0, none⟩).block
def ao (a : Option Addr) : Nat := (a.getD ⟨0, 0, none⟩).off
/-- a slice's place: nothing, or a block and an offset -/
def aok (a : Option Addr) : Prop := ∃ b o, a = some ⟨b, o, none⟩

theorem Gives.idx {C : World → Prop} (hE : Rep a n E) {t e es : TypeId} {x ix : Operand} {sa : Option Addr} {m c : Nat} {kd : IntKind} {i : Int} (k : Nat)
    (hx : E.ev x = some (.slice sa m c)) (hi : E.ev ix = some (.int kd i)) (ht : slOk P t e es = true) (hik : i = (k : Int)) (hkm : k < m) (ha : aok sa) :
    Gives P C a ⟨d, .indexAddr t x ix, ty, pos, aft, g⟩ (.pointer (some ⟨ab sa, ao sa + k * es, none⟩)) := by
  intro w _
  obtain ⟨b, o, rfl⟩ := ha
  subst hik
  simp [execOp, hE.ev hx, hE.ev hi, Instr.indexAt, asIntOf, run_underlying (slOk.und ht), slOk.size ht, hkm, Addr.add_here, ab, ao]

/-- struct type t: field f lies at off -/
def fldOk (P : Program) (t f off : Nat) : Bool :=
  match P.underlying t with
  | some (.struct fs) => match fs.toList[f]? with
    | some x => Nat.beq x.offset off && (match P.info? x.type with | some i => !Nat.beq i.size 0 | none => false)
    | none => false
  | _ => false

theorem run_fieldAt {t f off b o : Nat} (h : fldOk P t f off = true) : (Instr.fieldAt t (.pointer (some ⟨b, o, none⟩)) f).run P w = .ok (.pointer (some ⟨b, o + off, none⟩)) w := by
  unfold fldOk at h
  split at h
  · rename_i fs hu
    split at h
    · rename_i x hx
      split at h
      · rename_i i hi
        simp only [Bool.and_eq_true] at h
        have h1 := Nat.eq_of_beq_eq_true h.1
        have h2 : i.size ≠ 0 := by intro k; rw [k] at h; simp at h
        have hx' : fs[f]? = some x := by simpa using hx
        simp [Instr.fieldAt, run_underlying hu, hx', Instr.sureAddr, fieldPlace, sizeOf, typeInfo, hi, h2, h1, Addr.add_here]
      · simp at h
    · cases h
  · cases h

theorem Gives.fld {C : World → Prop} (hE : Rep a n E) {t f off b o : Nat} {x : Operand} (hx : E.ev x = some (.pointer (some ⟨b, o, none⟩)))
    (ht : fldOk P t f off = true) : Gives P C a ⟨d, .fieldAddr t x f, ty, pos, aft, g⟩ (.pointer (some ⟨b, o + off, none⟩)) := by
  intro w _
  simp [execOp, hE.ev hx, run_fieldAt ht]

/-- a struct's value in a variable of its own -/
theorem WL.box (hE : Rep a n E) {s : Sg} {rs : List HP} (hS : St w s rs) {t : TypeId} {x : Operand} {v : Value} {cs : List Value} (hg : Region.wanted ⟨d, .box t x, ty, pos, aft, g⟩ (yielded ops a.tmps) = true) (hx : E.ev x = some v)
    (hc : v.cells = cs.toArray) (hd : dstOk d n = true) (q : ∀ b a w, Rep a n (E.put d (.pointer (some ⟨b, 0, none⟩))) → St w s (pt b (.cells cs.toArray t (0, 0)) :: rs) → WL P ops K rest a w) : WL P ops K (⟨d, .box t x, ty, pos, aft, g⟩ :: rest) a w := by
  refine WL.step (w' := w.alloc (.cells cs.toArray t)) hg ?_ (q w.heap.size _ _ (hE.puts hd _) (hS.alloc _))
  simp [execOp, hE.ev hx, Instr.box, newVar, newRow, hc]

theorem WL.alloc (hE : Rep a n E) {s : Sg} {rs : List HP} (hS : St w s rs) {t : TypeId} {cs : List Value} (hg : Region.wanted ⟨d, .alloc t, ty, pos, aft, g⟩ (yielded ops a.tmps) = true)
    (hz : (P.info? t).bind (fun i => i.zero.map fun z => z.cells.toList) = some cs) (hd : dstOk d n = true) (q : ∀ b a w, Rep a n (E.put d (.pointer (some ⟨b, 0, none⟩))) → St w s (pt b (.cells cs.toArray t (0, 0)) :: rs) → WL P ops K rest a w) :
    WL P ops K (⟨d, .alloc t, ty, pos, aft, g⟩ :: rest) a w := by
  refine WL.step (w' := w.alloc (.cells cs.toArray t)) hg ?_ (q w.heap.size _ _ (hE.puts hd _) (hS.alloc _))
  cases hi : P.info? t with
  | none => simp [hi] at hz
  | some i =>
    cases hz' : i.zero with
    | none => simp [hi, hz'] at hz
    | some z =>
      simp [hi, hz'] at hz
      have : z.cells = cs.toArray := by rw [← hz]
      simp [execOp, Instr.alloc, zeroValue, typeInfo, hi, hz', newVar, newRow, this]

/-- a store into a variable of the call's own -/
theorem WL.store (hE : Rep a n E) {s : Sg} {rs : List HP} {t T : TypeId} {b off : Nat} {c : List Value} (hS : St w s (pt b (.cells c.toArray T (0, 0)) :: rs)) {x y : Operand} {v : Value} {vs : List Value} (c' : List Value) {agg : Bool}
    (hg : Region.wanted ⟨d, .store t x y, ty, pos, aft, g⟩ (yielded ops a.tmps) = true) (hx : E.ev x = some (.pointer (some ⟨b, off, none⟩))) (hy : E.ev y = some v) (hv : v.cells = vs.toArray) (ht : tyOk P t agg vs.length = true)
    (h1 : vs.all (·.oneCell') = true) (hfit : Nat.ble (off + vs.length) c.length = true) (hc : c.take off ++ vs ++ c.drop (off + vs.length) = c') (hd : dstOk d n = true)
    (q : ∀ a w, Rep a n (E.put d undef) → St w s (pt b (.cells c'.toArray T (0, 0)) :: rs) → WL P ops K rest a w) : WL P ops K (⟨d, .store t x y, ty, pos, aft, g⟩ :: rest) a w := by
  have hb := hS.at
  have hfit' : off + 0 + vs.length ≤ c.toArray.size := by simpa using hfit
  have hst := run_storeCells_at P b off T vs 0 c.toArray w hb hfit' (fun v hv => List.all_eq_true.1 h1 v hv)
  simp only [Nat.add_zero, hc] at hst
  refine WL.skipS (w' := w.setRow b c'.toArray) hg ?_ (q _ _ (hE.puts hd _) (hS.put ?_ ?_ rfl rfl))
  · simp [execOp, hE.ev hx, hE.ev hy, Instr.storeAt, Instr.sureAddr, storeVar, hv, tyOk.size ht, hst]
  · exact setRow_heap w b c.toArray c'.toArray T (0, 0) hb
  · intro k hk
    simp [World.setRow, Array.getElem?_modify, Ne.symm hk]

end

/-! ## A function: in and out; a call -/

/-- the blocks of loops over functions are shut, one after the other -/
def Taken (P : Program) : List Nat → World → World → Prop
  | [], w, w' => w' = w
  | D :: r, w, w' => w.heap[D]? = some (.deferred (some [])) ∧ Taken P r (w.putObj D (.deferred none)) w'

structure finK (P : Program) (fn : Func) (R : Ending → World → Prop) (a : Act) (w : World) : Prop where
  v : ∃ (Ds : List Nat) (v : Value) (w' : World), a.defers = Ds.map (fun D => { target := .collected D, args := #[] }) ∧ Taken P Ds w w' ∧ (results fn a.tmps).run P w' = .ok v w' ∧ R (.returned v) w'

abbrev topK (P : Program) (fn : Func) (R : Ending → World → Prop) : Kt :=
  { nor := finK P fn R, ret := finK P fn R, ex := [], pan := fun c a w => a.defers = [] ∧ R (.panicked c) w }

theorem leavesM_of_taken {P : Program} {fn : Func} {tmps : Array Value} {R : Ending → World → Prop} : ∀ (Ds : List Nat) (w w' : World) {v : Value}, Taken P Ds w w' → (results fn tmps).run P w' = .ok v w' → R (.returned v) w' →
    LeavesInM Fence.wide 0 P fn tmps R (Ds.map (fun D => { target := .collected D, args := #[] })) .returning w
  | [], w, w', v, h, hv, hR => by
    subst h
    exact (⟨v, hv, hR⟩ : ∃ v, (results fn tmps).run P w' = .ok v w' ∧ R (.returned v) w')
  | D :: r, w, w', v, ⟨h1, h2⟩, hv, hR => ⟨by simp, .inl ⟨D, _, rfl, run_takeDeferred h1, leavesM_of_taken r _ w' h2 hv hR⟩⟩

def argEnv : Nat → List Value → Env
  | _, [] => []
  | i, v :: r => (i, v) :: argEnv (i + 1) r

theorem argEnv_get : ∀ (l : List Value) (i t : Nat) (v : Value), (argEnv i l).get t = some v → i ≤ t ∧ l[t - i]? = some v
  | [], _, _, _, h => by simp [argEnv, Env.get] at h
  | u :: r, i, t, v, h => by
    simp only [argEnv, Env.get] at h
    split at h
    · rename_i e
      have := Nat.eq_of_beq_eq_true (by simp only [Bool.and_eq_true] at e; exact e.1)
      subst this
      simpa using h
    · have := argEnv_get r (i + 1) t v h
      refine ⟨by omega, ?_⟩
      have e : t - i = (t - (i + 1)) + 1 := by omega
      rw [e]
      simpa using this.2

theorem argEnv_marks : ∀ (l : List Value) (i : Nat), i + l.length ≤ SP → (argEnv i l).marks = []
  | [], _, _ => rfl
  | v :: r, i, h => by
    have h1 : Nat.beq i SP = false := by
      cases k : Nat.beq i SP with
      | false => rfl
      | true => have := Nat.eq_of_beq_eq_true k; simp at h; omega
    show (if Nat.beq i SP then markOf v else []) ++ (argEnv (i + 1) r).marks = []
    rw [h1, argEnv_marks r (i + 1) (by simp at h; omega)]; rfl

theorem enter {P : Program} {f : FuncId} {fn : Func} {c : Code} {args : List Value} {w : World} {R : Ending → World → Prop} {n : Nat} (hf : P.funcs[f]? = some fn) (hb : fn.body = some c) (hn : fn.ntmps = n) (hl : Nat.ble args.length n = true)
    (h : ∀ a, Rep a n (argEnv 0 args) → W P c (topK P fn R) a w) (hlim : Nat.ble n SP = true := by rfl) : Calls P f args.toArray w R := by
  refine (callsIn_wide (n := 0)).1 (callsIn_of_wp_marks hf hb trivial (wpIn_mono (h { tmps := args.toArray ++ Array.replicate (fn.ntmps - args.toArray.size) undef, defers := [] } ⟨?_, ?_, ?_, hlim⟩) ?_))
  · intro t v ht
    have := (argEnv_get args 0 t v ht).2
    have ht' : t < args.length := by have := (List.getElem?_eq_some_iff.1 this).1; omega
    rw [Array.getElem?_append_left (by simpa using ht')]
    simpa using this
  · have : args.length ≤ n := by simpa using hl
    simp [hn]; omega
  · have h1 : args.length ≤ n := by simpa using hl
    have h2 := Nat.le_of_ble_eq_true hlim
    exact (argEnv_marks args 0 (by omega)).symm
  · intro e a w q
    cases e with
    | normal => obtain ⟨⟨Ds, v, w', h1, h2, h3, h4⟩⟩ := q; show LeavesInM _ _ _ _ _ _ a.defers _ _; rw [h1]; exact leavesM_of_taken Ds _ w' h2 h3 h4
    | ret => obtain ⟨⟨Ds, v, w', h1, h2, h3, h4⟩⟩ := q; show LeavesInM _ _ _ _ _ _ a.defers _ _; rw [h1]; exact leavesM_of_taken Ds _ w' h2 h3 h4
    | panic c => obtain ⟨h1, h2⟩ := q; show LeavesInM _ _ _ _ _ _ a.defers _ _; rw [h1]; exact h2
    | exit id => obtain ⟨k, hk, _⟩ := q; simp [Kt.look] at hk
    | goto l => exact q
    | outgrown => exact q.elim

def evs (ev : Operand → Option Value) : List Operand → Option (List Value)
  | [] => some []
  | x :: r => match ev x, evs ev r with
    | some v, some vs => some (v :: vs)
    | _, _ => none

theorem evs_map {ev : Operand → Option Value} {ρ : Operand → Value} (h : ∀ x v, ev x = some v → ρ x = v) : ∀ {l : List Operand} {vs : List Value}, evs ev l = some vs → l.map ρ = vs
  | [], vs, k => by simp [evs] at k; simp [k]
  | x :: r, vs, k => by
    simp only [evs] at k
    split at k
    · rename_i v us hv hus
      simp at k
      subst k
      simp [h x v hv, evs_map h hus]
    · cases k

/-- f has a body, and is no function that the machine treats apart -/
def bodied (P : Program) (f : FuncId) : Bool := match P.funcs[f]? with
  | some fn => fn.body.isSome && !(fn.name == "runtime.NumGoroutine")
  | none => false

theorem run_callFunc {P : Program} {f : FuncId} {args : Array Value} {w : World} (h : bodied P f = true) : (callFunc f args).run P w = .ok (.enter f args) w := by
  unfold bodied at h
  split at h
  · rename_i fn hf
    simp only [Bool.and_eq_true, Bool.not_eq_true'] at h
    have h2 : ¬ fn.name = "runtime.NumGoroutine" := by simpa using h.2
    have h1 : ¬ fn.body = none := by intro k; rw [k] at h; simp at h
    simp [callFunc, hf, h2, h1]
  · cases h

section
variable {P : Program} {K : Kt} {a : Act} {w : World} {n : Nat} {E : Env} {ops : Array Oper} {rest : List Oper} {d : Option Tmp} {ty : TypeId} {pos : String} {aft : Array Edge} {g : Option (Nat × Bool)}

/-- a call of a named function -/
theorem WL.fn (hE : Rep a n E) {f : FuncId} {xs : List Operand} {vs : List Value} {ts : Array TypeId} {R : Ending → World → Prop} (hc : Calls P f vs.toArray w R)
    (hg : Region.wanted ⟨d, .call ⟨.value (.func f), xs.toArray, ts⟩, ty, pos, aft, g⟩ (yielded ops a.tmps) = true) (hb : bodied P f = true) (hx : evs E.ev xs = some vs) (hd : dstOk d n = true)
    (q : ∀ e w, R e w → ∃ v, e = .returned v ∧ ∀ a, Rep a n (E.put d v) → WL P ops K rest a w) :
    WL P ops K (⟨d, .call ⟨.value (.func f), xs.toArray, ts⟩, ty, pos, aft, g⟩ :: rest) a w := by
  refine WL.call (f := f) (args := vs.toArray) (w' := w) hg ?_ hc ?_
  · have := evs_map (ρ := a.eval) (fun x v h => hE.ev h) hx
    simp only [execOp, resolve, Sem.run_bind, Act.eval, Deferred.ofValue, Sem.run_pure, Result.andThen_ok, invoke]
    simp [this, run_callFunc hb]
  · intro e w hR
    obtain ⟨v, rfl, q⟩ := q e w hR
    exact ⟨v, rfl, q _ (hE.puts hd v)⟩

end

section
variable {P : Program} {C : World → Prop} {Q : Act → Prop} {a : Act} {n : Nat} {E : Env} {ops : Array Oper} {rest : List Oper} {d : Option Tmp} {ty : TypeId} {pos : String} {aft : Array Edge} {g : Option (Nat × Bool)}

/-- a call of a named function that hands back v and leaves a world of the class -/
theorem QL.fn (hE : Rep a n E) {f : FuncId} {xs : List Operand} {vs : List Value} {ts : Array TypeId} {v : Value} (hc : ∀ w, C w → Calls P f vs.toArray w fun e w' => e = .returned v ∧ C w')
    (hg : Region.wanted ⟨d, .call ⟨.value (.func f), xs.toArray, ts⟩, ty, pos, aft, g⟩ (yielded ops a.tmps) = true) (hb : bodied P f = true) (hx : evs E.ev xs = some vs) (hd : dstOk d n = true)
    (q : ∀ a, Rep a n (E.put d v) → QL P ops C Q rest a) : QL P ops C Q (⟨d, .call ⟨.value (.func f), xs.toArray, ts⟩, ty, pos, aft, g⟩ :: rest) a := by
  show wpQuiet P ops C Q (_ :: rest) a
  rw [wpQuiet, if_pos hg]
  refine ⟨v, fun w hw => ?_, q _ (hE.puts hd v)⟩
  have h1 := evs_map (ρ := a.eval) (fun x v h => hE.ev h) hx
  unfold Oper.quietAt
  have : (execOp a.eval ⟨d, .call ⟨.value (.func f), xs.toArray, ts⟩, ty, pos, aft, g⟩).run P w = .ok (.enter f vs.toArray) w := by
    simp only [execOp, resolve, Sem.run_bind, Act.eval, Deferred.ofValue, Sem.run_pure, Result.andThen_ok, invoke]
    simp [h1, run_callFunc hb]
  rw [this]
  exact ⟨rfl, hc w hw⟩

end

section
variable {P : Program} {K : Kt} {a : Act} {w : World} {n : Nat} {E : Env} {ops : Array Oper} {rest : List Oper} {d : Option Tmp} {ty : TypeId} {pos : String} {aft : Array Edge} {g : Option (Nat × Bool)}

/-- x / y and x % y where y is not 0 -/
def dv (x y : Int) : Option Int := if y = 0 then none else some (IntKind.i64.wrap (x.tdiv y))
def rm (x y : Int) : Option Int := if y = 0 then none else some (x.tmod y)
theorem dv_some {x y r : Int} (h : dv x y = some r) : y ≠ 0 ∧ r = IntKind.i64.wrap (x.tdiv y) := by
  unfold dv at h; split at h <;> simp at h; exact ⟨by assumption, h.symm⟩
theorem rm_some {x y r : Int} (h : rm x y = some r) : y ≠ 0 ∧ r = x.tmod y := by
  unfold rm at h; split at h <;> simp at h; exact ⟨by assumption, h.symm⟩

theorem Gives.dv {C : World → Prop} (hE : Rep a n E) {t t' : Nat} {x y : Operand} {p q r : Int} (hx : E.ev x = some (.int .i64 p)) (hy : E.ev y = some (.int .i64 q)) (h : dv p q = some r) :
    Gives P C a ⟨d, .binOp .quo t x y t', ty, pos, aft, g⟩ (.int .i64 r) := by
  intro w _
  obtain ⟨h0, rfl⟩ := dv_some h
  simp [execOp, hE.ev hx, hE.ev hy, eqGuard, binOp, Op.intDiv, h0]
theorem Gives.rm {C : World → Prop} (hE : Rep a n E) {t t' : Nat} {x y : Operand} {p q r : Int} (hx : E.ev x = some (.int .i64 p)) (hy : E.ev y = some (.int .i64 q)) (h : rm p q = some r) :
    Gives P C a ⟨d, .binOp .rem t x y t', ty, pos, aft, g⟩ (.int .i64 r) := by
  intro w _
  obtain ⟨h0, rfl⟩ := rm_some h
  simp [execOp, hE.ev hx, hE.ev hy, eqGuard, binOp, Op.intDiv, h0]

theorem Gives.shr {C : World → Prop} (hE : Rep a n E) {t t' : Nat} {x y : Operand} {k k' : IntKind} {p q : Int} (hx : E.ev x = some (.int k p)) (hy : E.ev y = some (.int k' q)) (h : 0 ≤ q) :
    Gives P C a ⟨d, .binOp .shr t x y t', ty, pos, aft, g⟩ (.int k (p.fdiv (2 ^ (min q.toNat k.bits)))) := by
  intro w _
  simp [execOp, hE.ev hx, hE.ev hy, eqGuard, binOp, Op.shift, Int.not_lt.mpr h]

def mx (x y : Int) : Int := if y > x then y else x
def mn (x y : Int) : Int := if y < x then y else x
theorem Gives.max2 {C : World → Prop} (hE : Rep a n E) {ts : Array TypeId} {x y : Operand} {k : IntKind} {p q : Int} (hx : E.ev x = some (.int k p)) (hy : E.ev y = some (.int k q)) :
    Gives P C a ⟨d, .call ⟨.builtin .max, #[x, y], ts⟩, ty, pos, aft, g⟩ (.int k (mx p q)) := by
  intro w _
  simp [execOp, resolve, invoke, builtin, hE.ev hx, hE.ev hy, Builtin.max_, Builtin.max2, mx]
theorem Gives.min2 {C : World → Prop} (hE : Rep a n E) {ts : Array TypeId} {x y : Operand} {k : IntKind} {p q : Int} (hx : E.ev x = some (.int k p)) (hy : E.ev y = some (.int k q)) :
    Gives P C a ⟨d, .call ⟨.builtin .min, #[x, y], ts⟩, ty, pos, aft, g⟩ (.int k (mn p q)) := by
  intro w _
  simp [execOp, resolve, invoke, builtin, hE.ev hx, hE.ev hy, Builtin.min_, Builtin.min2, mn]
def isBl (P : Program) (t : TypeId) : Bool := match P.underlying t with | some .bool => true | _ => false

theorem equal_bool {P : Program} {t : TypeId} {x y : Bool} {w : World} (h : isBl P t = true) : (Op.equal t (.bool x) (.bool y)).run P w = .ok (x == y) w := by
  unfold isBl at h
  split at h
  · rename_i hu
    have e : Op.maxDepth = 9999 + 1 := rfl
    generalize 9999 = k at e
    simp [Op.equal, e, Op.equalIn, run_underlying hu]
  · cases h
theorem Gives.neB {C : World → Prop} (hE : Rep a n E) {t t' : Nat} {x y : Operand} {p q : Bool} (hx : E.ev x = some (.bool p)) (hy : E.ev y = some (.bool q)) (h : isBl P t = true) :
    Gives P C a ⟨d, .binOp .neq t x y t', ty, pos, aft, g⟩ (.bool (!(p == q))) := by
  intro w _
  simp [execOp, hE.ev hx, hE.ev hy, eqGuard, binOp, equal_bool h]

/-- a function's value with what it has captured -/
theorem Gives.mkfn {C : World → Prop} (hE : Rep a n E) {f : FuncId} {xs : List Operand} {vs : List Value} (hx : evs E.ev xs = some vs) :
    Gives P C a ⟨d, .makeFunc (.func f) #[] xs.toArray, ty, pos, aft, g⟩ (.func (.func f) #[] vs.toArray) := by
  intro w _
  have := evs_map (ρ := a.eval) (fun x v h => hE.ev h) hx
  simp [execOp, Instr.makeFunc, this]

/-- a call of a function's value -/
theorem WL.fnv (hE : Rep a n E) {x : Operand} {f : FuncId} {xs : List Operand} {vs cs : List Value} {ts : Array TypeId} {R : Ending → World → Prop} (hf : E.ev x = some (.func (.func f) #[] cs.toArray)) (hc : Calls P f (vs ++ cs).toArray w R)
    (hg : Region.wanted ⟨d, .call ⟨.value x, xs.toArray, ts⟩, ty, pos, aft, g⟩ (yielded ops a.tmps) = true) (hb : bodied P f = true) (hx : evs E.ev xs = some vs) (hd : dstOk d n = true)
    (q : ∀ e w, R e w → ∃ v, e = .returned v ∧ ∀ a, Rep a n (E.put d v) → WL P ops K rest a w) :
    WL P ops K (⟨d, .call ⟨.value x, xs.toArray, ts⟩, ty, pos, aft, g⟩ :: rest) a w := by
  refine WL.call (f := f) (args := (vs ++ cs).toArray) (w' := w) hg ?_ hc ?_
  · have := evs_map (ρ := a.eval) (fun x v h => hE.ev h) hx
    simp only [execOp, resolve, Sem.run_bind, hE.ev hf, Deferred.ofValue, Sem.run_pure, Result.andThen_ok, invoke]
    simp [this, run_callFunc hb]
  · intro e w hR
    obtain ⟨v, rfl, q⟩ := q e w hR
    exact ⟨v, rfl, q _ (hE.puts hd v)⟩

theorem WL.fnw (hE : Rep a n E) {x : Operand} {f : FuncId} {xs : List Operand} {vs cs : List Value} {args : Array Value} {ts : Array TypeId} {R : Ending → World → Prop} (hc : Calls P f args w R) (hf : E.ev x = some (.func (.func f) #[] cs.toArray))
    (hg : Region.wanted ⟨d, .call ⟨.value x, xs.toArray, ts⟩, ty, pos, aft, g⟩ (yielded ops a.tmps) = true) (hb : bodied P f = true) (hx : evs E.ev xs = some vs) (ha : (vs ++ cs).toArray = args) (hd : dstOk d n = true)
    (q : ∀ e w, R e w → ∃ v, e = .returned v ∧ ∀ a, Rep a n (E.put d v) → WL P ops K rest a w) :
    WL P ops K (⟨d, .call ⟨.value x, xs.toArray, ts⟩, ty, pos, aft, g⟩ :: rest) a w := by
  subst ha; exact WL.fnv hE hf hc hg hb hx hd q

theorem WL.fnq (hE : Rep a n E) {f : FuncId} {xs : List Operand} {vs : List Value} {args : Array Value} {ts : Array TypeId} {R : Ending → World → Prop} (hc : Calls P f args w R)
    (hg : Region.wanted ⟨d, .call ⟨.value (.func f), xs.toArray, ts⟩, ty, pos, aft, g⟩ (yielded ops a.tmps) = true) (hb : bodied P f = true) (hx : evs E.ev xs = some vs) (ha : vs.toArray = args) (hd : dstOk d n = true)
    (q : ∀ e w, R e w → ∃ v, e = .returned v ∧ ∀ a, Rep a n (E.put d v) → WL P ops K rest a w) :
    WL P ops K (⟨d, .call ⟨.value (.func f), xs.toArray, ts⟩, ty, pos, aft, g⟩ :: rest) a w := by
  subst ha; exact WL.fn hE hc hg hb hx hd q

theorem QL.fnv {C : World → Prop} {Q : Act → Prop} (hE : Rep a n E) {x : Operand} {f : FuncId} {xs : List Operand} {vs cs : List Value} {ts : Array TypeId} {v : Value} (hf : E.ev x = some (.func (.func f) #[] cs.toArray)) (hc : ∀ w, C w → Calls P f (vs ++ cs).toArray w fun e w' => e = .returned v ∧ C w')
    (hg : Region.wanted ⟨d, .call ⟨.value x, xs.toArray, ts⟩, ty, pos, aft, g⟩ (yielded ops a.tmps) = true) (hb : bodied P f = true) (hx : evs E.ev xs = some vs) (hd : dstOk d n = true)
    (q : ∀ a, Rep a n (E.put d v) → QL P ops C Q rest a) : QL P ops C Q (⟨d, .call ⟨.value x, xs.toArray, ts⟩, ty, pos, aft, g⟩ :: rest) a := by
  show wpQuiet P ops C Q (_ :: rest) a
  rw [wpQuiet, if_pos hg]
  refine ⟨v, fun w hw => ?_, q _ (hE.puts hd v)⟩
  have h1 := evs_map (ρ := a.eval) (fun x v h => hE.ev h) hx
  unfold Oper.quietAt
  have : (execOp a.eval ⟨d, .call ⟨.value x, xs.toArray, ts⟩, ty, pos, aft, g⟩).run P w = .ok (.enter f (vs ++ cs).toArray) w := by
    simp only [execOp, resolve, Sem.run_bind, hE.ev hf, Deferred.ofValue, Sem.run_pure, Result.andThen_ok, invoke]
    simp [h1, run_callFunc hb]
  rw [this]
  exact ⟨rfl, hc w hw⟩

theorem QL.fnw {C : World → Prop} {Q : Act → Prop} (hE : Rep a n E) {x : Operand} {f : FuncId} {xs : List Operand} {vs cs : List Value} {args : Array Value} {ts : Array TypeId} {v : Value} (hc : ∀ w, C w → Calls P f args w fun e w' => e = .returned v ∧ C w') (hf : E.ev x = some (.func (.func f) #[] cs.toArray))
    (hg : Region.wanted ⟨d, .call ⟨.value x, xs.toArray, ts⟩, ty, pos, aft, g⟩ (yielded ops a.tmps) = true) (hb : bodied P f = true) (hx : evs E.ev xs = some vs) (ha : (vs ++ cs).toArray = args) (hd : dstOk d n = true)
    (q : ∀ a, Rep a n (E.put d v) → QL P ops C Q rest a) : QL P ops C Q (⟨d, .call ⟨.value x, xs.toArray, ts⟩, ty, pos, aft, g⟩ :: rest) a := by
  subst ha; exact QL.fnv hE hf hc hg hb hx hd q

theorem QL.fnq {C : World → Prop} {Q : Act → Prop} (hE : Rep a n E) {f : FuncId} {xs : List Operand} {vs : List Value} {args : Array Value} {ts : Array TypeId} {v : Value} (hc : ∀ w, C w → Calls P f args w fun e w' => e = .returned v ∧ C w')
    (hg : Region.wanted ⟨d, .call ⟨.value (.func f), xs.toArray, ts⟩, ty, pos, aft, g⟩ (yielded ops a.tmps) = true) (hb : bodied P f = true) (hx : evs E.ev xs = some vs) (ha : vs.toArray = args) (hd : dstOk d n = true)
    (q : ∀ a, Rep a n (E.put d v) → QL P ops C Q rest a) : QL P ops C Q (⟨d, .call ⟨.value (.func f), xs.toArray, ts⟩, ty, pos, aft, g⟩ :: rest) a := by
  subst ha; exact QL.fn hE hc hg hb hx hd q

end

/-! ## Cells told as data -/

abbrev Rd (α : Type) := Sg → List Value → α → Prop

def RI (kd : IntKind) : Rd Int := fun _ cs x => cs = [.int kd x]
def RB : Rd Bool := fun _ cs x => cs = [.bool x]
def RS : Rd ByteArray := fun _ cs x => cs = [.string x]

/-- the slice at a reads as l: elements of es cells, each as R says -/
structure Sl {α : Type} (es : Nat) (R : Rd α) (s : Sg) (a : Option Addr) (c : Nat) (l : List α) : Prop where
  len : l.length ≤ c
  cap : c ≤ maxLen
  ok : aok a ∨ c = 0
  el : ∀ k x, l[k]? = some x → ∃ cs, cs.length = es ∧ s.At (ab a) (ao a + k * es) cs ∧ R s cs x

def RL {α : Type} (es : Nat) (R : Rd α) : Rd (List α) := fun s cs l => ∃ a c, cs = [.slice a l.length c] ∧ Sl es R s a c l

def Rmono {α : Type} (R : Rd α) : Prop := ∀ s t, s.Le t → ∀ cs x, R s cs x → R t cs x

theorem RI.mono {kd : IntKind} : Rmono (RI kd) := fun _ _ _ _ _ h => h
theorem RB.mono : Rmono RB := fun _ _ _ _ _ h => h
theorem RS.mono : Rmono RS := fun _ _ _ _ _ h => h
theorem Sl.mono {α : Type} {es : Nat} {R : Rd α} (hR : Rmono R) {s t : Sg} (h : s.Le t) {a : Option Addr} {c : Nat} {l : List α} (q : Sl es R s a c l) : Sl es R t a c l :=
  ⟨q.len, q.cap, q.ok, fun k x hk => let ⟨cs, h1, h2, h3⟩ := q.el k x hk; ⟨cs, h1, h2.mono h, hR _ _ h _ _ h3⟩⟩
theorem RL.mono {α : Type} {es : Nat} {R : Rd α} (hR : Rmono R) : Rmono (RL es R) := fun _ _ h _ _ ⟨a, c, h1, h2⟩ => ⟨a, c, h1, h2.mono hR h⟩

theorem Sl.aok {α : Type} {es : Nat} {R : Rd α} {s : Sg} {a : Option Addr} {c : Nat} {l : List α} (q : Sl es R s a c l) {k : Nat} (hk : k < l.length) : aok a := by
  rcases q.ok with h | h
  · exact h
  · have := q.len; omega

theorem Sl.small {α : Type} {es : Nat} {R : Rd α} {s : Sg} {a : Option Addr} {c : Nat} {l : List α} (q : Sl es R s a c l) : l.length ≤ 9223372036854775807 := by
  have h1 := q.len; have h2 := q.cap; unfold maxLen at h2; omega

/-- element k, as its cells -/
theorem Sl.at {α : Type} {es : Nat} {R : Rd α} {s : Sg} {a : Option Addr} {c : Nat} {l : List α} (q : Sl es R s a c l) {k : Nat} {x : α} (hk : l[k]? = some x) :
    ∃ cs, cs.length = es ∧ R s cs x ∧ ∀ w rs, St w s rs → Sees w (ab a) (ao a + k * es) cs := by
  obtain ⟨cs, h1, h2, h3⟩ := q.el k x hk
  exact ⟨cs, h1, h3, fun w rs hS => hS.sees h2⟩

theorem drop_cons {α : Type} {l : List α} {k : Nat} {x : α} {r : List α} (h : l.drop k = x :: r) : k < l.length ∧ l[k]? = some x ∧ l.drop (k + 1) = r := by
  have h1 : k < l.length := by
    rcases Nat.lt_or_ge k l.length with h2 | h2
    · exact h2
    · rw [List.drop_eq_nil_of_le h2] at h; cases h
  rw [List.drop_eq_getElem_cons h1] at h
  injection h with h2 h3
  exact ⟨h1, by rw [List.getElem?_eq_getElem h1, h2], h3⟩

theorem drop_nil {α : Type} {l : List α} {k : Nat} (h : l.drop k = []) : l.length ≤ k := by simpa using h

/-- what a loop comes to: the function's result, or the loop's variables behind it -/
inductive Out (ρ σ : Type) where
  | ret (r : ρ)
  | next (s : σ)

def agree (E : Env) : Env → Prop
  | [] => True
  | (t, v) :: r => (bif Nat.beq t SP then v = v else E.get t = some v) ∧ agree E r

theorem Rep.pick {a : Act} {n : Nat} {E : Env} (h : Rep a n E) (E' : Env) (k : agree E E') (hm : E'.marks = E.marks := by rfl) : Rep a n E' := by
  refine h.less ?_ hm
  clear hm
  induction E' with
  | nil => intro p hp; cases hp
  | cons p r ih =>
    intro q hq hs
    rcases List.mem_cons.1 hq with rfl | hq
    · have h1 := k.1
      rw [hs] at h1
      exact h1
    · exact ih k.2 q hq hs

abbrev w64 (x : Int) : Int := IntKind.wrap .i64 x

/-- element i, if there is one -/
def gx {α : Type} (l : List α) (i : Int) : Option α := if 0 ≤ i then l[i.toNat]? else none

theorem gx_some {α : Type} {l : List α} {i : Int} {x : α} (h : gx l i = some x) : i = (i.toNat : Int) ∧ i.toNat < l.length ∧ l[i.toNat]? = some x := by
  unfold gx at h
  split at h
  · rename_i hi
    exact ⟨by omega, (List.getElem?_eq_some_iff.1 h).1, h⟩
  · cases h

theorem bindS {α β : Type} {o : Option α} {f : α → Option β} {r : β} (h : o.bind f = some r) : ∃ x, o = some x ∧ f x = some r := by
  cases o with
  | none => cases h
  | some x => exact ⟨x, rfl, h⟩

theorem nt {b : Bool} (h : b = false) : ¬ b = true := by simp [h]

theorem Sees.one {w : World} {b off j : Nat} {cs : List Value} {v : Value} (h : Sees w b off cs) (hv : cs[j]? = some v) : Sees w b (off + j) [v] := by
  intro i u hu
  cases i with
  | zero => simp at hu; subst hu; exact h j _ hv
  | succ i => simp at hu

section
variable {P : Program} {K : Kt} {a : Act} {w : World} {s : Sg} {R : List HP} {n : Nat} {E : Env} {ops : Array Oper} {o : Oper} {rest : List Oper} {d : Option Tmp} {ty : TypeId} {pos : String} {aft : Array Edge} {g : Option (Nat × Bool)}

theorem WL.vS (hS : St w s R) (hE : Rep a n E) {v : Value} (hg : Region.wanted o (yielded ops a.tmps) = true) (h : Gives P (fun w => St w s R) a o v) (hd : dstOk o.dst n = true)
    (k : ∀ a, Rep a n (E.put o.dst v) → WL P ops K rest a w) : WL P ops K (o :: rest) a w := WL.v (C := fun w => St w s R) hS hE hg h hd k

/-- a read in a variable of the call's own: part i of the memory told -/
theorem Gives.loadB (hE : Rep a n E) {t : TypeId} {x : Operand} {b off : Nat} {v : Value} {c : List Value} {T : TypeId} {fr : Nat × Nat} (i : Nat) (hx : E.ev x = some (.pointer (some ⟨b, off, none⟩)))
    (hr : R[i]? = some (pt b (.cells c.toArray T fr))) (hv : c[off]? = some v) (ht : tyOk P t false 1 = true) : Gives P (fun w => St w s R) a ⟨d, .load t x, ty, pos, aft, g⟩ v := by
  refine Gives.load1 hE hx (fun w hS => ?_) ht
  refine (hS.front i hr).seesB ?_
  intro j u hj
  cases j with
  | zero => simp at hj; subst hj; exact hv
  | succ j => simp at hj

theorem Gives.loadBA (hE : Rep a n E) {t : TypeId} {x : Operand} {b : Nat} {c : List Value} {T : TypeId} {fr : Nat × Nat} (i : Nat) (hx : E.ev x = some (.pointer (some ⟨b, 0, none⟩)))
    (hr : R[i]? = some (pt b (.cells c.toArray T fr))) (ht : tyOk P t true c.length = true) : Gives P (fun w => St w s R) a ⟨d, .load t x, ty, pos, aft, g⟩ (.agg c.toArray) := by
  refine Gives.loadA hE hx (fun w hS => ?_) ht
  refine (hS.front i hr).seesB ?_
  intro j u hj
  simpa using hj

theorem Gives.pickT {C : World → Prop} (hE : Rep a n E) {c x y : Operand} {b : Bool} {u : Value} (hc : E.ev c = some (.bool b)) (hb : b = true) (hx : E.ev x = some u) : Gives P C a ⟨d, .pick c x y, ty, pos, aft, g⟩ u := by
  intro w _
  subst hb
  simp [execOp, hE.ev hc, hE.ev hx, asBool]
theorem Gives.pickF {C : World → Prop} (hE : Rep a n E) {c x y : Operand} {b : Bool} {u : Value} (hc : E.ev c = some (.bool b)) (hb : b = false) (hy : E.ev y = some u) : Gives P C a ⟨d, .pick c x y, ty, pos, aft, g⟩ u := by
  intro w _
  subst hb
  simp [execOp, hE.ev hc, hE.ev hy, asBool]

/-- the round's counter -/
theorem Gives.inc {C : World → Prop} (hE : Rep a n E) {t t' : TypeId} {x : Operand} {k : Nat} (hx : E.ev x = some (.int .i64 (k : Int))) (hk : k < 9223372036854775807) :
    Gives P C a ⟨d, .binOp .add t x (.const (.int .i64 1)) t', ty, pos, aft, g⟩ (.int .i64 ((k + 1 : Nat) : Int)) := by
  have h1 := Gives.p (P := P) (C := C) hE (o := ⟨d, .binOp .add t x (.const (.int .i64 1)) t', ty, pos, aft, g⟩) (v := .int .i64 (IntKind.wrap .i64 ((k : Int) + 1))) (by simp only [pop]; rw [hx]; rfl)
  have h2 : IntKind.wrap .i64 ((k : Int) + 1) = ((k + 1 : Nat) : Int) := by
    rw [IntKind.wrap_i64]; omega
  rw [h2] at h1
  exact h1

end


def bnd {α β : Type} (x : α) (f : α → β) : β := f x
theorem bndS {α β : Type} {x : α} {f : α → β} {r : β} (h : bnd x f = r) : ∃ q, x = q ∧ f q = r := ⟨x, rfl, h⟩
theorem iteT {α : Type} {b : Bool} {x y r : α} (hb : b = true) (h : (if b = true then x else y) = r) : x = r := by rw [if_pos hb] at h; exact h
theorem iteF {α : Type} {b : Bool} {x y r : α} (hb : b = false) (h : (if b = true then x else y) = r) : y = r := by rw [if_neg (nt hb)] at h; exact h

theorem St.dropAt {w : World} {s : Sg} {R : List HP} (q : St w s R) (i : Nat) : St w s (R.eraseIdx i) := q.keep (List.eraseIdx_sublist R i)

theorem Sl.nil {α : Type} {es : Nat} {R : Rd α} {s : Sg} : Sl es R s none 0 [] := ⟨Nat.le_refl _, Nat.zero_le _, .inr rfl, fun k x h => by simp at h⟩

theorem fin0 {P : Program} {fn : Func} {R : Ending → World → Prop} {a : Act} {w : World} {n : Nat} {E : Env} (hE : Rep a n E) (hr : fn.results = #[]) (h : R (.returned (.tuple #[])) w) (hm : E.marks = [] := by rfl) : finK P fn R a w := by
  refine ⟨[], .tuple #[], w, hE.defers.trans hm, rfl, ?_, h⟩
  rw [results_none hr]

section
variable {P : Program} {K : Kt} {a : Act} {w : World} {s : Sg} {R : List HP} {n : Nat} {E : Env} {ops : Array Oper} {rest : List Oper} {d : Option Tmp} {ty : TypeId} {pos : String} {aft : Array Edge} {g : Option (Nat × Bool)}

theorem St.setAt {w w' : World} {s : Sg} {R : List HP} (i : Nat) {b : Nat} {o o' : Obj} (q : St w s R) (hr : R[i]? = some (pt b o)) (hb : w'.heap[b]? = some o') (hx : ∀ k, k ≠ b → w'.heap[k]? = w.heap[k]?)
    (hos : w'.os = w.os) (hout : w'.output = w.output) : St w' s (R.set i (pt b o')) := by
  have h1 := (q.front i hr).put hb hx hos hout
  refine h1.perm ?_
  clear h1 q hx hos hout hb
  induction R generalizing i with
  | nil => simp at hr
  | cons x l ih =>
    cases i with
    | zero => exact List.Perm.refl _
    | succ i => simp at hr; exact (List.Perm.swap _ _ _).trans ((ih i hr).cons x)

/-- a store into part i of the call's own memory -/
theorem WL.storeI (hE : Rep a n E) (hS : St w s R) (i : Nat) {t T : TypeId} {b off : Nat} {c : List Value} (hr : R[i]? = some (pt b (.cells c.toArray T (0, 0)))) {x y : Operand} {v : Value} {vs : List Value} (c' : List Value) {agg : Bool}
    (hg : Region.wanted ⟨d, .store t x y, ty, pos, aft, g⟩ (yielded ops a.tmps) = true) (hx : E.ev x = some (.pointer (some ⟨b, off, none⟩))) (hy : E.ev y = some v) (hv : v.cells = vs.toArray) (ht : tyOk P t agg vs.length = true)
    (h1 : vs.all (·.oneCell') = true) (hfit : Nat.ble (off + vs.length) c.length = true) (hc : c.take off ++ vs ++ c.drop (off + vs.length) = c') (hd : dstOk d n = true)
    (q : ∀ a w, Rep a n (E.put d undef) → St w s (R.set i (pt b (.cells c'.toArray T (0, 0)))) → WL P ops K rest a w) : WL P ops K (⟨d, .store t x y, ty, pos, aft, g⟩ :: rest) a w := by
  have hb := (hS.front i hr).at
  have hfit' : off + 0 + vs.length ≤ c.toArray.size := by simpa using hfit
  have hst := run_storeCells_at P b off T vs 0 c.toArray w hb hfit' (fun v hv => List.all_eq_true.1 h1 v hv)
  simp only [Nat.add_zero, hc] at hst
  refine WL.skipS (w' := w.setRow b c'.toArray) hg ?_ (q _ _ (hE.puts hd _) (hS.setAt i hr ?_ ?_ rfl rfl))
  · simp [execOp, hE.ev hx, hE.ev hy, Instr.storeAt, Instr.sureAddr, storeVar, hv, tyOk.size ht, hst]
  · exact setRow_heap w b c.toArray c'.toArray T (0, 0) hb
  · intro k hk
    simp [World.setRow, Array.getElem?_modify, Ne.symm hk]

end


/-! ## Measures of data -/
def szL {α : Type} (f : α → Nat) (l : List α) : Nat := (l.map f).sum + 1

section
variable {P : Program} {K : Kt} {a : Act} {w : World} {n : Nat} {E : Env} {ops : Array Oper} {o : Oper} {rest : List Oper} {s : Sg} {R : List HP}
/-- WL.vS and QL.v of an operation without a guard -/
theorem vP (hS : St w s R) (hE : Rep a n E) {v : Value} (h : Gives P (fun w => St w s R) a o v) (hd : dstOk o.dst n = true) (k : ∀ a, Rep a n (E.put o.dst v) → WL P ops K rest a w) (hg : o.guard = none := by rfl) : WL P ops K (o :: rest) a w := WL.vS hS hE (runs_plain hg) h hd k
theorem qP {C : World → Prop} {Q : Act → Prop} (hE : Rep a n E) {v : Value} (h : Gives P C a o v) (hd : dstOk o.dst n = true) (k : ∀ a, Rep a n (E.put o.dst v) → QL P ops C Q rest a) (hg : o.guard = none := by rfl) : QL P ops C Q (o :: rest) a := QL.v hE (runs_plain hg) h hd k
end
end Go.Fp
