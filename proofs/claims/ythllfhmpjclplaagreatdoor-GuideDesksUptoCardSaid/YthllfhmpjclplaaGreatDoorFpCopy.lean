/- copy: into a slice of the call's own, out of what stays or out of the same slice. No condition. -/
import Derived.Test.YthllfhmpjclplaaGreatDoorFpGrid
open List renaming length_drop → b2K, length_append → b2u, length_take → b2S
namespace Go.Fp
open Go
theorem Ev.drop {α : Type} {es : Nat} {R : Rd α} {s : Sg} {cs : List Value} {l : List α} (q : Ev es R s cs l) (m : Nat) : Ev es R s (cs.drop (m * es)) (l.drop m) := by
  refine ⟨by rw [b2K, b2K, q.len, Nat.sub_mul], fun k x hk => ?_⟩
  rw [List.getElem?_drop] at hk
  have := q.el _ _ hk
  rw [List.drop_drop]
  rwa [show m * es + k * es = (m + k) * es by rw [Nat.add_mul]]
theorem Ev.allOne {α : Type} {es : Nat} {R : Rd α} (hR : a1F R) : ∀ {s : Sg} {cs : List Value} {l : List α}, Ev es R s cs l → cs.all (·.oneCell') = true
  | s, cs, [], q => by
    have := q.len
    simp at this; subst this; rfl
  | s, cs, x :: l, q => by
    have h0 := q.el 0 x rfl
    rw [Nat.zero_mul, List.drop_zero] at h0
    have h1 := hR _ _ _ h0
    have h2 := (Ev.drop q 1).allOne hR
    rw [Nat.one_mul] at h2
    rw [← List.take_append_drop es cs, List.all_append, h1, h2]; rfl
section
variable {P : Program} {K : Kt} {a : Act} {w : World} {s : Sg} {R : List HP} {n : Nat} {E : Env} {ops : Array Oper} {rest : List Oper} {d : Option Tmp} {ty : TypeId} {pos : String} {aft : Array Edge} {g : Option (Nat × Bool)}
variable {α : Type} {Rr : Rd α}
theorem St.putCells (hS : St w s R) (i : Nat) {T es c m p : Nat} {sa : Option Addr} {cs : List Value} (hr : R[i]? = some (B2 T es sa c m cs)) {vs : List Value}
    (h1 : vs.all (·.oneCell') = true) (hfit : p + vs.length ≤ m * es) (hpos : 0 < m * es) :
    ∃ w2, (storeCells ⟨ab sa, ao sa + p, none⟩ vs).run P w = .ok () w2 ∧ St w2 s (R.set i (B2 T es sa c m (cs.take p ++ vs ++ cs.drop (p + vs.length)))) := by
  rcases hS.vec i hr with ⟨hl, ⟨h0, hn, hc⟩ | ⟨b, o, cur, e1, e2, e3, e4, e5, e6, h⟩⟩
  · subst hn; omega
  · subst e1
    have hcur : o + m * es ≤ cur.size := by have := Nat.mul_le_mul_right es e3; omega
    have hst := run_storeCells_at P b (o + p) T vs 0 cur w e2 (by omega) (fun v hv => List.all_eq_true.1 h1 v hv)
    simp only [Nat.add_zero] at hst
    have hput := h.put (w' := w.setRow b (cur.toList.take (o + p) ++ vs ++ cur.toList.drop (o + p + vs.length)).toArray) (setRow_heap w b cur _ T _ e2) (fun k hk => by simp [World.setRow, Array.getElem?_modify, Ne.symm hk]) rfl rfl
    have hcl : cs.length = m * es := hl
    have hS2 : St (w.setRow b (cur.toList.take (o + p) ++ vs ++ cur.toList.drop (o + p + vs.length)).toArray) s (B2 T es (some ⟨b, o, none⟩) c m (cs.take p ++ vs ++ cs.drop (p + vs.length)) :: R.eraseIdx i) := by
      refine hput.head fun hh q => ⟨by simp only [b2u, b2S, b2K]; omega, .inr ⟨b, o, _, rfl, q, e3, e4, ?_, ?_⟩⟩
      · simp only [List.size_toArray, b2u, b2S, b2K, Array.length_toList]; omega
      · rw [List.toList_toArray]
        exact a3N cur.toList o p (m * es) vs cs e6 hfit (by simpa using hcur)
    refine ⟨_, ?_, hS2.perm ?_⟩
    · simpa [ab, ao] using hst
    · clear hS hput hS2 h
      induction R generalizing i with
      | nil => simp at hr
      | cons x l ih =>
        cases i with
        | zero => exact List.Perm.refl _
        | succ i => simp at hr; exact (List.Perm.swap _ _ _).trans ((ih i hr).cons x)
def b0v (P : Program) (t e es : Nat) : Bool := match P.underlying t with | some (.slice e') => Nat.beq e' e && (match P.info? e with | some i => Nat.beq i.size es && Nat.blt 0 es | none => false) | _ => false
theorem b0v.get {P : Program} {t e es : Nat} (h : b0v P t e es = true) : P.underlying t = some (.slice e) ∧ 0 < es ∧ ∃ i, P.info? e = some i ∧ i.size = es := by
  unfold b0v at h
  split at h
  · rename_i e' hu
    simp only [Bool.and_eq_true] at h
    have h1 := Nat.eq_of_beq_eq_true h.1
    subst h1
    have h2 := h.2
    split at h2
    · rename_i i hi
      simp only [Bool.and_eq_true] at h2
      have h3 : 0 < es := by have := h2.2; simp [Nat.blt] at this; omega
      exact ⟨hu, h3, i, hi, Nat.eq_of_beq_eq_true h2.1⟩
    · cases h2
  · cases h
end
theorem Ev.flat {α : Type} {es : Nat} {R : Rd α} {s1 s2 : Sg} (hR : ∀ s t cs x, R s cs x → R t cs x) {cs : List Value} {l : List α} (q : Ev es R s1 cs l) : Ev es R s2 cs l := ⟨q.len, fun k x hk => hR _ _ _ _ (q.el k x hk)⟩
section
variable {P : Program} {K : Kt} {a : Act} {w : World} {s : Sg} {R : List HP} {n : Nat} {E : Env} {ops : Array Oper} {rest : List Oper} {d : Option Tmp} {ty : TypeId} {pos : String} {aft : Array Edge} {g : Option (Nat × Bool)}
variable {α : Type} {Rr : Rd α}
theorem WL.appO (hE : Rep a n E) (hS : St w s R) (i j : Nat) {t e es : Nat} {x y : Operand} {sa sy : Option Addr} {c k c' m : Nat} {cs cy : List Value} {l xs r : List α}
    (hg : Region.wanted ⟨d, .call ⟨.builtin .append, #[x, y], #[t, t]⟩, ty, pos, aft, g⟩ (yielded ops a.tmps) = true)
    (hx : E.ev x = some (.slice sa k c)) (hy : E.ev y = some (.slice sy m c')) (hr : R[i]? = some (B2 e es sa c k cs)) (hry : R[j]? = some (B2 e es sy c' m cy)) (ht : a0p P t e es = true) (hR : a1F Rr)
    (hv : Ev es Rr s cs l) (hn : l.length = k) (hvy : Ev es Rr s cy xs) (hny : xs.length = m) (ha : apd l xs = some r) (hd : J5 d n = true)
    (q : ∀ a2 c2 cs2 a w, Ev es Rr s cs2 r → Rep a n (E.put d (.slice a2 r.length c2)) → St w s (R.set i (B2 e es a2 c2 r.length cs2)) → WL P ops K rest a w) : WL P ops K (⟨d, .call ⟨.builtin .append, #[x, y], #[t, t]⟩, ty, pos, aft, g⟩ :: rest) a w := by
  obtain ⟨hb, rfl⟩ := X9 ha
  subst hn; subst hny
  rcases Nat.eq_zero_or_pos xs.length with h0 | h0
  · have hx0 : xs = [] := List.eq_nil_of_length_eq_zero h0
    subst hx0
    have h1 := hS.vecCap i hr
    refine WL.step hg ?_ (q sa c cs _ w (by simpa using hv) (by simpa using hE.puts hd _) ?_)
    · have := a4y (P := P) (w := w) (a := sa) (b := sy) (c' := c') ty ht h1.1
      simp [execOp, resolve, invoke, builtin, hE.ev hx, hE.ev hy, this]
    · have e : R.set i (B2 e es sa c (l ++ []).length cs) = R := by
        rw [List.append_nil]
        apply List.ext_getElem?
        intro j
        by_cases hj : i = j
        · subst hj
          rw [List.getElem?_set]
          have hlt : i < R.length := by
            rcases Nat.lt_or_ge i R.length with h | h
            · exact h
            · rw [List.getElem?_eq_none h] at hr; cases hr
          simp [hlt]
          rw [List.getElem?_eq_getElem hlt] at hr
          exact (Option.some.inj hr).symm
        · rw [List.getElem?_set_ne hj]
      rw [e]; exact hS
  · obtain ⟨b', o', rfl⟩ := hS.vecAok j hry h0
    have hsees := hS.vecSees j hry 0 cy (fun j v hj => by simpa using hj)
    obtain ⟨a2, c2, w2, hrun, hS2⟩ := a3J hS i (c' := c') ty hr ht hvy.len hsees (hvy.allOne hR) h0 hb
    refine WL.step hg ?_ (q a2 c2 _ _ w2 (hv.append hvy) (by rw [b2u]; exact hE.puts hd _) (by rw [b2u]; exact hS2))
    simp only [ab, ao, Option.getD_some, Nat.add_zero] at hrun
    simp [execOp, resolve, invoke, builtin, hE.ev hx, hE.ev hy, hrun]
end
def nz {α : Type} (l : List α) : Option Unit := if l.isEmpty then none else some ()
theorem b0x {α : Type} {l : List α} {u : Unit} (h : nz l = some u) : l ≠ [] := by
  rintro rfl; cases h
theorem a5s {α : Type} {l : List α} {u : Unit} (h : nz l = some u) {a : Option Addr} : l = [] → a = none := fun e => absurd e (b0x h)
theorem a1l {α : Type} {es : Nat} {R : Rd α} {s : Sg} {a : Option Addr} {c : Nat} {l : List α} (q : Sl es R s a c l) (hz : l = [] → a = none) : a.isNone = l.isEmpty := by
  cases l with
  | nil => rw [hz rfl]; rfl
  | cons x r =>
    cases a with
    | none => have := q.none_nil; cases this
    | some a => rfl
theorem aok.isNone {a : Option Addr} (h : aok a) : a.isNone = false := by obtain ⟨b, o, rfl⟩ := h; rfl
section
variable {P : Program} {a : Act} {n : Nat} {E : Env} {d : Option Tmp} {ty : TypeId} {pos : String} {aft : Array Edge} {g : Option (Nat × Bool)}
theorem A6.isNilZ {C : World → Prop} (hE : Rep a n E) {t t' : Nat} {x y : Operand} {sa : Option Addr} {m c m' c' : Nat} {b : Bool} (e : sa.isNone = b) (hx : E.ev x = some (.slice sa m c)) (hy : E.ev y = some (.slice none m' c')) (h : a5l P t = true) :
    A6 P C a ⟨d, .binOp .eql t x y t', ty, pos, aft, g⟩ (.bool b) := by subst e; exact A6.isNil hE hx hy h
theorem A6.notNilZ {C : World → Prop} (hE : Rep a n E) {t t' : Nat} {x y : Operand} {sa : Option Addr} {m c m' c' : Nat} {b : Bool} (e : sa.isNone = b) (hx : E.ev x = some (.slice sa m c)) (hy : E.ev y = some (.slice none m' c')) (h : a5l P t = true) :
    A6 P C a ⟨d, .binOp .neq t x y t', ty, pos, aft, g⟩ (.bool !b) := by subst e; exact A6.notNil hE hx hy h
end
end Go.Fp
