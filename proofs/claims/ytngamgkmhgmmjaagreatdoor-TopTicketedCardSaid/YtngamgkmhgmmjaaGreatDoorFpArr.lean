/- Arrays that lie in a variable of the call's own, with elements of one cell; structs compared. No condition. -/
import Derived.Test.YtngamgkmhgmmjaaGreatDoorFpMap
import Derived.Laws.StructEq
namespace Go.Fp
open Go

theorem arOk.get {P : Program} {t m : Nat} (h : arOk P t m = true) : ∃ e i, P.underlying t = some (.array m e) ∧ P.info? e = some i ∧ i.size = 1 := by
  unfold arOk at h
  split at h
  · rename_i k' e hu
    simp only [Bool.and_eq_true] at h
    have h1 := Nat.eq_of_beq_eq_true h.1
    have h2 := h.2
    subst h1
    split at h2
    · rename_i dd i hd hi'
      simp only [Bool.and_eq_true] at h2
      exact ⟨e, i, hu, hi', Nat.eq_of_beq_eq_true h2.1⟩
    · cases h2
  · cases h

section
variable {P : Program} {K : Kt} {a : Act} {w : World} {n : Nat} {E : Env} {ops : Array Oper} {rest : List Oper} {d : Option Tmp} {ty : TypeId} {pos : String} {aft : Array Edge} {g : Option (Nat × Bool)} {s : Sg} {R : List HP}
variable {α : Type} {Rr : Rd α}

theorem Ev.ints {kd : IntKind} : ∀ {s : Sg} {cs : List Value} {l : List Int}, Ev 1 (RI kd) s cs l → cs = l.map (Value.int kd)
  | s, cs, [], h => by have := h.len; simp at this; simp [this]
  | s, [], x :: l, h => by have := h.len; simp at this
  | s, c :: cs, x :: l, h => by
    have h0 := h.el 0 x rfl
    simp [RI] at h0
    have h2 : Ev 1 (RI kd) s cs l := ⟨by have := h.len; simp at this ⊢; exact this, fun k y hk => by
      have h3 := h.el (k + 1) y (by simpa using hk)
      simpa using h3⟩
    rw [List.map_cons, ← h2.ints, h0]
theorem Ev.bools : ∀ {s : Sg} {cs : List Value} {l : List Bool}, Ev 1 RB s cs l → cs = l.map Value.bool
  | s, cs, [], h => by have := h.len; simp at this; simp [this]
  | s, [], x :: l, h => by have := h.len; simp at this
  | s, c :: cs, x :: l, h => by
    have h0 := h.el 0 x rfl
    simp [RB] at h0
    have h2 : Ev 1 RB s cs l := ⟨by have := h.len; simp at this ⊢; exact this, fun k y hk => by
      have h3 := h.el (k + 1) y (by simpa using hk)
      simpa using h3⟩
    rw [List.map_cons, ← h2.bools, h0]

end

/-! ## Structs compared -/

/-- the cells of a struct whose fields are integers and bools, one cell each -/
inductive Leaf where
  | i (k : IntKind) (x : Int)
  | b (x : Bool)
def Leaf.val : Leaf → Value
  | .i k x => .int k x
  | .b x => .bool x
def Leaf.same : Leaf → Leaf → Bool
  | .i _ x, .i _ y => x == y
  | .b x, .b y => x == y
  | _, _ => false
inductive LeafK where
  | i (k : IntKind)
  | b
  deriving DecidableEq
def Leaf.kind : Leaf → LeafK
  | .i k _ => .i k
  | .b _ => .b

def kindOk (P : Program) (t : TypeId) (k : LeafK) : Bool :=
  match P.underlying t, P.info? t, k with
  | some (.int k'), some i, .i k => decide (k' = k) && Nat.beq i.size 1
  | some .bool, some i, .b => Nat.beq i.size 1
  | _, _, _ => false
def fsOk (P : Program) : List Field → List LeafK → Nat → Bool
  | [], [], _ => true
  | f :: fs, k :: ks, j => f.name != "_" && Nat.beq f.offset j && kindOk P f.type k && fsOk P fs ks (j + 1)
  | _, _, _ => false
/-- struct type t has just these fields, in order, none of them blank -/
def stEqB (P : Program) (t : TypeId) (ks : List LeafK) : Bool :=
  match P.underlying t with
  | some (.struct fs) => !P.stoodInHeld t && !P.eqGuardType P.depth t && fsOk P fs.toList ks 0
  | _ => false
def eqs : List Leaf → List Leaf → Bool
  | [a], [b] => a.same b
  | a :: r, b :: s => a.same b && eqs r s
  | _, _ => true

theorem eqs_cons (a b : Leaf) (r s : List Leaf) (h : r.length = s.length) : eqs (a :: r) (b :: s) = (a.same b && eqs r s) := by
  cases r with
  | nil => cases s with
    | nil => simp [eqs]
    | cons => simp at h
  | cons => cases s with
    | nil => simp at h
    | cons => rfl

theorem run_part1 {P : Program} {t : TypeId} {k : LeafK} (h : kindOk P t k = true) (xs : Array Value) (j : Nat) (v : Value) (hv : xs[j]? = some v) (w : World) : (part t xs j).run P w = .ok v w := by
  have hagg : (isAgg t).run P w = .ok false w := by
    unfold kindOk at h
    split at h
    · rename_i hu _ ; unfold isAgg; rw [Sem.run_bind, run_underlying hu w]; rfl
    · rename_i hu _ ; unfold isAgg; rw [Sem.run_bind, run_underlying hu w]; rfl
    · cases h
  unfold part
  simp [Sem.run_bind, hagg, hv]

theorem run_same {P : Program} {t : TypeId} {k : LeafK} (h : kindOk P t k = true) (d : Nat) (a b : Leaf) (ha : a.kind = k) (hb : b.kind = k) (w : World) : (Op.equalIn (d + 1) t a.val b.val).run P w = .ok (a.same b) w := by
  unfold kindOk at h
  split at h
  · rename_i k' i k hu hi
    simp only [Bool.and_eq_true, decide_eq_true_eq] at h
    obtain ⟨rfl, _⟩ := h
    cases a with
    | i ka x => cases b with
      | i kb y =>
        simp [Leaf.kind] at ha hb
        subst ha; subst hb
        exact run_equalIn_int w d t _ _ x y hu
      | b y => simp [Leaf.kind] at hb
    | b x => simp [Leaf.kind] at ha
  · rename_i i hu hi
    cases a with
    | i ka x => simp [Leaf.kind] at ha
    | b x => cases b with
      | i kb y => simp [Leaf.kind] at hb
      | b y => exact run_equalIn_bool w d t x y hu
  · cases h

theorem run_fields {P : Program} (d : Nat) (xs ys : Array Value) (w : World) : ∀ (fs : List Field) (ks : List LeafK) (j : Nat) (ls ms : List Leaf), fsOk P fs ks j = true → ls.map Leaf.kind = ks → ms.map Leaf.kind = ks →
    (∀ i l, ls[i]? = some l → xs[j + i]? = some l.val) → (∀ i l, ms[i]? = some l → ys[j + i]? = some l.val) → (Op.eqFields (d + 1) xs ys fs).run P w = .ok (eqs ls ms) w
  | [], [], j, ls, ms, _, h1, h2, _, _ => by
    simp at h1 h2; subst h1; subst h2; simp [Op.eqFields, eqs]
  | [], _ :: _, _, _, _, h, _, _, _, _ => by simp [fsOk] at h
  | _ :: _, [], _, _, _, h, _, _, _, _ => by simp [fsOk] at h
  | f :: fs, k :: ks, j, ls, ms, h, h1, h2, h3, h4 => by
    simp only [fsOk, Bool.and_eq_true] at h
    obtain ⟨⟨⟨g1, g2⟩, g3⟩, g4⟩ := h
    have ho := Nat.eq_of_beq_eq_true g2
    match ls, ms, h1, h2 with
    | a :: ls, b :: ms, h1, h2 =>
      simp only [List.map_cons, List.cons.injEq] at h1 h2
      have ha := h3 0 a rfl
      have hb := h4 0 b rfl
      rw [Nat.add_zero] at ha hb
      have hn : f.name ≠ "_" := by simpa using g1
      have hlen : ls.length = ms.length := by
        have e1 := congrArg List.length h1.2
        have e2 := congrArg List.length h2.2
        simp at e1 e2; omega
      have ih := run_fields d xs ys w fs ks (j + 1) ls ms g4 h1.2 h2.2 (fun i l hl => by have := h3 (i + 1) l (by simpa using hl); rwa [show j + (i + 1) = j + 1 + i by omega] at this)
        (fun i l hl => by have := h4 (i + 1) l (by simpa using hl); rwa [show j + (i + 1) = j + 1 + i by omega] at this)
      simp only [Op.eqFields, hn, ne_eq, not_false_eq_true, if_true, Sem.run_bind, ho, run_part1 g3 xs j _ ha, run_part1 g3 ys j _ hb, Result.andThen_ok, run_same g3 d a b h1.1 h2.1, eqs_cons a b ls ms hlen]
      cases hs : a.same b with
      | true => simpa using ih
      | false => simp

section
variable {P : Program} {C : World → Prop} {a : Act} {n : Nat} {E : Env} {d : Option Tmp} {ty : TypeId} {pos : String} {aft : Array Edge} {g : Option (Nat × Bool)}

theorem run_stEq {t : TypeId} {ks : List LeafK} (h : stEqB P t ks = true) (ls ms : List Leaf) (h1 : ls.map Leaf.kind = ks) (h2 : ms.map Leaf.kind = ks) (w : World) :
    (Op.equalIn 10000 t (.agg (ls.map Leaf.val).toArray) (.agg (ms.map Leaf.val).toArray)).run P w = .ok (eqs ls ms) w ∧ P.eqGuardType P.depth t = false := by
  unfold stEqB at h
  split at h
  · rename_i fs hu
    simp only [Bool.and_eq_true, Bool.not_eq_true'] at h
    obtain ⟨⟨g1, g2⟩, g3⟩ := h
    have hf : P.fieldsOf t = fs := by simp [Program.fieldsOf, hu]
    refine ⟨?_, g2⟩
    rw [run_equalIn_agg w 9999 t _ _ (by rw [hf]; exact hu) g1, hf]
    exact run_fields 9998 _ _ w fs.toList ks 0 ls ms g3 h1 h2 (fun i l hl => by simp [hl]) (fun i l hl => by simp [hl])
  · cases h

theorem Gives.eqS (hE : Rep a n E) {t t' : Nat} {x y : Operand} {cx cy : List Value} (ks : List LeafK) (ls ms : List Leaf) (hx : E.ev x = some (.agg cx.toArray)) (hy : E.ev y = some (.agg cy.toArray)) (h : stEqB P t ks = true)
    (hcx : cx = ls.map Leaf.val) (hcy : cy = ms.map Leaf.val) (h1 : ls.map Leaf.kind = ks) (h2 : ms.map Leaf.kind = ks) : Gives P C a ⟨d, .binOp .eql t x y t', ty, pos, aft, g⟩ (.bool (eqs ls ms)) := by
  intro w _
  subst hcx; subst hcy
  obtain ⟨e1, e2⟩ := run_stEq (P := P) h ls ms h1 h2 w
  simp only [execOp, hE.ev hx, hE.ev hy, Sem.run_bind, run_eqGuard_agg w .eql t x y _ _ e2, Result.andThen_ok, run_eql_struct, e1]
  exact rfl
end

end Go.Fp
