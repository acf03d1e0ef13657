/- Arrays that lie in a variable of the call's own, with elements of one cell; structs compared. No condition. -/
import Derived.Test.YthllfhmpjclplaaGreatDoorFpMap
import Derived.Laws.StructEq
open Bool renaming and_eq_true → b2w
open Nat renaming eq_of_beq_eq_true → b2r
namespace Go.Fp
open Go
theorem a6Z.get {P : Program} {t m : Nat} (h : a6Z P t m = true) : ∃ e i, P.underlying t = some (.array m e) ∧ P.info? e = some i ∧ i.size = 1 := by
  unfold a6Z at h
  split at h
  · rename_i k' e hu
    simp only [b2w] at h
    have h1 := b2r h.1
    have h2 := h.2
    subst h1
    split at h2
    · rename_i dd i hd hi'
      simp only [b2w] at h2
      exact ⟨e, i, hu, hi', b2r h2.1⟩
    · cases h2
  · cases h
section
variable {P : Program} {K : Kt} {a : Act} {w : World} {n : Nat} {E : Env} {ops : Array Oper} {rest : List Oper} {d : Option Tmp} {ty : TypeId} {pos : String} {aft : Array Edge} {g : Option (Nat × Bool)} {s : Sg} {R : List HP}
variable {α : Type} {Rr : Rd α}
theorem A6.idxA {C : World → Prop} (hE : Rep a n E) {t m : TypeId} {x ix : Operand} {sa : Option Addr} {kd : IntKind} {i : Int} (k : Nat)
    (hx : E.ev x = some (.pointer sa)) (hi : E.ev ix = some (.int kd i)) (ht : a6Z P t m = true) (hik : i = (k : Int)) (hkm : k < m) (ha : aok sa) :
    A6 P C a ⟨d, .indexAddr t x ix, ty, pos, aft, g⟩ (.pointer (some ⟨ab sa, ao sa + k * 1, none⟩)) := by
  intro w _
  obtain ⟨b, o, rfl⟩ := ha
  obtain ⟨e, inf, hu, hi', hs⟩ := a6Z.get ht
  subst hik
  simp [execOp, hE.ev hx, hE.ev hi, Instr.indexAt, asIntOf, run_underlying hu, sizeOf, typeInfo, hi', hs, hkm, Addr.add_here, ab, ao, Instr.sureAddr]
theorem A6.indexMi {C : World → Prop} {β : Type} (hE : Rep a n E) {t m : Nat} {x ix : Operand} {cs : List Value} {l : List β} {f : β → Value} {i : Int} {y : β} {kd : IntKind} (ht : a6Z P t m = true) (hx : E.ev x = some (.agg cs.toArray)) (hi : E.ev ix = some (.int kd i))
    (hcs : cs = l.map f) (hl : l.length = m) (hik : i = (i.toNat : Int)) (hk : l[i.toNat]? = some y) : A6 P C a ⟨d, .index t x ix, ty, pos, aft, g⟩ (f y) :=
  A6.indexM hE (k := i.toNat) ht hx (by rw [hi]; exact congrArg (fun z => some (Value.int kd z)) hik) hcs hl hk
theorem Ev.ints {kd : IntKind} : ∀ {s : Sg} {cs : List Value} {l : List Int}, Ev 1 (RI kd) s cs l → cs = l.map (Value.int kd)
  | s, cs, [], h => by have := h.len; simp at this; simp [this]
  | s, [], x :: l, h => by have := h.len; simp at this
  | s, c :: cs, x :: l, h => by
    have h0 := h.el 0 x rfl
    simp [RI] at h0
    have h2 : Ev 1 (RI kd) s cs l := ⟨by have := h.len; simp at this ⊢; exact this, fun k y hk => by
      have h3 := h.el (k + 1) y (by simpa using hk)
      simpa using h3⟩
    rw [List.map_cons, ← h2.ints, h0]
theorem Ev.bools : ∀ {s : Sg} {cs : List Value} {l : List Bool}, Ev 1 RB s cs l → cs = l.map Value.bool
  | s, cs, [], h => by have := h.len; simp at this; simp [this]
  | s, [], x :: l, h => by have := h.len; simp at this
  | s, c :: cs, x :: l, h => by
    have h0 := h.el 0 x rfl
    simp [RB] at h0
    have h2 : Ev 1 RB s cs l := ⟨by have := h.len; simp at this ⊢; exact this, fun k y hk => by
      have h3 := h.el (k + 1) y (by simpa using hk)
      simpa using h3⟩
    rw [List.map_cons, ← h2.bools, h0]
end
inductive S1 where
  | i (k : IntKind) (x : Int)
  | b (x : Bool)
def S1.val : S1 → Value
  | .i k x => .int k x
  | .b x => .bool x
def S1.same : S1 → S1 → Bool
  | .i _ x, .i _ y => x == y
  | .b x, .b y => x == y
  | _, _ => false
inductive X3 where
  | i (k : IntKind)
  | b
  deriving DecidableEq
def S1.kind : S1 → X3
  | .i k _ => .i k
  | .b _ => .b
def a1d (P : Program) (t : TypeId) (k : X3) : Bool :=
  match P.underlying t, P.info? t, k with
  | some (.int k'), some i, .i k => decide (k' = k) && Nat.beq i.size 1
  | some .bool, some i, .b => Nat.beq i.size 1
  | _, _, _ => false
def a7b (P : Program) : List Field → List X3 → Nat → Bool
  | [], [], _ => true
  | f :: fs, k :: ks, j => f.name != "_" && Nat.beq f.offset j && a1d P f.type k && a7b P fs ks (j + 1)
  | _, _, _ => false
def a1b (P : Program) (t : TypeId) (ks : List X3) : Bool :=
  match P.underlying t with
  | some (.struct fs) => !P.stoodInHeld t && !P.eqGuardType P.depth t && a7b P fs.toList ks 0
  | _ => false
def eqs : List S1 → List S1 → Bool
  | [a], [b] => a.same b
  | a :: r, b :: s => a.same b && eqs r s
  | _, _ => true
theorem a2R (a b : S1) (r s : List S1) (h : r.length = s.length) : eqs (a :: r) (b :: s) = (a.same b && eqs r s) := by
  cases r with
  | nil => cases s with
    | nil => simp [eqs]
    | cons => simp at h
  | cons => cases s with
    | nil => simp at h
    | cons => rfl
theorem U8 {P : Program} {t : TypeId} {k : X3} (h : a1d P t k = true) (xs : Array Value) (j : Nat) (v : Value) (hv : xs[j]? = some v) (w : World) : (part t xs j).run P w = .ok v w := by
  have hagg : (isAgg t).run P w = .ok false w := by
    unfold a1d at h
    split at h
    · rename_i hu _ ; unfold isAgg; rw [Sem.run_bind, run_underlying hu w]; rfl
    · rename_i hu _ ; unfold isAgg; rw [Sem.run_bind, run_underlying hu w]; rfl
    · cases h
  unfold part
  simp [Sem.run_bind, hagg, hv]
theorem a4d {P : Program} {t : TypeId} {k : X3} (h : a1d P t k = true) (d : Nat) (a b : S1) (ha : a.kind = k) (hb : b.kind = k) (w : World) : (Op.equalIn (d + 1) t a.val b.val).run P w = .ok (a.same b) w := by
  unfold a1d at h
  split at h
  · rename_i k' i k hu hi
    simp only [b2w, decide_eq_true_eq] at h
    obtain ⟨rfl, _⟩ := h
    cases a with
    | i ka x => cases b with
      | i kb y =>
        simp [S1.kind] at ha hb
        subst ha; subst hb
        exact run_equalIn_int w d t _ _ x y hu
      | b y => simp [S1.kind] at hb
    | b x => simp [S1.kind] at ha
  · rename_i i hu hi
    cases a with
    | i ka x => simp [S1.kind] at ha
    | b x => cases b with
      | i kb y => simp [S1.kind] at hb
      | b y => exact run_equalIn_bool w d t x y hu
  · cases h
theorem a2u {P : Program} (d : Nat) (xs ys : Array Value) (w : World) : ∀ (fs : List Field) (ks : List X3) (j : Nat) (ls ms : List S1), a7b P fs ks j = true → ls.map S1.kind = ks → ms.map S1.kind = ks →
    (∀ i l, ls[i]? = some l → xs[j + i]? = some l.val) → (∀ i l, ms[i]? = some l → ys[j + i]? = some l.val) → (Op.eqFields (d + 1) xs ys fs).run P w = .ok (eqs ls ms) w
  | [], [], j, ls, ms, _, h1, h2, _, _ => by
    simp at h1 h2; subst h1; subst h2; simp [Op.eqFields, eqs]
  | [], _ :: _, _, _, _, h, _, _, _, _ => by simp [a7b] at h
  | _ :: _, [], _, _, _, h, _, _, _, _ => by simp [a7b] at h
  | f :: fs, k :: ks, j, ls, ms, h, h1, h2, h3, h4 => by
    simp only [a7b, b2w] at h
    obtain ⟨⟨⟨g1, g2⟩, g3⟩, g4⟩ := h
    have ho := b2r g2
    match ls, ms, h1, h2 with
    | a :: ls, b :: ms, h1, h2 =>
      simp only [List.map_cons, List.cons.injEq] at h1 h2
      have ha := h3 0 a rfl
      have hb := h4 0 b rfl
      rw [Nat.add_zero] at ha hb
      have hn : f.name ≠ "_" := by simpa using g1
      have hlen : ls.length = ms.length := by
        have e1 := congrArg List.length h1.2
        have e2 := congrArg List.length h2.2
        simp at e1 e2; omega
      have ih := a2u d xs ys w fs ks (j + 1) ls ms g4 h1.2 h2.2 (fun i l hl => by have := h3 (i + 1) l (by simpa using hl); rwa [show j + (i + 1) = j + 1 + i by omega] at this)
        (fun i l hl => by have := h4 (i + 1) l (by simpa using hl); rwa [show j + (i + 1) = j + 1 + i by omega] at this)
      simp only [Op.eqFields, hn, ne_eq, not_false_eq_true, if_true, Sem.run_bind, ho, U8 g3 xs j _ ha, U8 g3 ys j _ hb, Result.andThen_ok, a4d g3 d a b h1.1 h2.1, a2R a b ls ms hlen]
      cases hs : a.same b with
      | true => simpa using ih
      | false => simp
section
variable {P : Program} {C : World → Prop} {a : Act} {n : Nat} {E : Env} {d : Option Tmp} {ty : TypeId} {pos : String} {aft : Array Edge} {g : Option (Nat × Bool)}
theorem a4z {t : TypeId} {ks : List X3} (h : a1b P t ks = true) (ls ms : List S1) (h1 : ls.map S1.kind = ks) (h2 : ms.map S1.kind = ks) (w : World) :
    (Op.equalIn 10000 t (.agg (ls.map S1.val).toArray) (.agg (ms.map S1.val).toArray)).run P w = .ok (eqs ls ms) w ∧ P.eqGuardType P.depth t = false := by
  unfold a1b at h
  split at h
  · rename_i fs hu
    simp only [b2w, Bool.not_eq_true'] at h
    obtain ⟨⟨g1, g2⟩, g3⟩ := h
    have hf : P.fieldsOf t = fs := by simp [Program.fieldsOf, hu]
    refine ⟨?_, g2⟩
    rw [run_equalIn_agg w 9999 t _ _ (by rw [hf]; exact hu) g1, hf]
    exact a2u 9998 _ _ w fs.toList ks 0 ls ms g3 h1 h2 (fun i l hl => by simp [hl]) (fun i l hl => by simp [hl])
  · cases h
theorem A6.neS (hE : Rep a n E) {t t' : Nat} {x y : Operand} {cx cy : List Value} (ks : List X3) (ls ms : List S1) (hx : E.ev x = some (.agg cx.toArray)) (hy : E.ev y = some (.agg cy.toArray)) (h : a1b P t ks = true)
    (hcx : cx = ls.map S1.val) (hcy : cy = ms.map S1.val) (h1 : ls.map S1.kind = ks) (h2 : ms.map S1.kind = ks) : A6 P C a ⟨d, .binOp .neq t x y t', ty, pos, aft, g⟩ (.bool (!(eqs ls ms))) := by
  intro w _
  subst hcx; subst hcy
  obtain ⟨e1, e2⟩ := a4z (P := P) h ls ms h1 h2 w
  simp only [execOp, hE.ev hx, hE.ev hy, Sem.run_bind, run_eqGuard_agg w .neq t x y _ _ e2, Result.andThen_ok, run_neq_struct, e1]
  exact rfl
end
end Go.Fp
