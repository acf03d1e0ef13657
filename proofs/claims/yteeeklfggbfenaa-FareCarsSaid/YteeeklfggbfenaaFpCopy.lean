/- copy: into a slice of the call's own, out of what stays or out of the same slice. No condition. -/
import Derived.Test.YteeeklfggbfenaaFpGrid
namespace Go.Fp
open Go

/-- what copy leaves in l: from place lo on, at most hi - lo of xs -/
def cpl {α : Type} (l : List α) (lo hi : Nat) (xs : List α) : List α := l.take lo ++ xs.take (min xs.length (hi - lo)) ++ l.drop (lo + min xs.length (hi - lo))
theorem cpl_length {α : Type} {l xs : List α} {lo hi : Nat} (h1 : lo ≤ hi) (h2 : hi ≤ l.length) : (cpl l lo hi xs).length = l.length := by
  unfold cpl; simp only [List.length_append, List.length_take, List.length_drop]; omega

theorem Ev.drop {α : Type} {es : Nat} {R : Rd α} {s : Sg} {cs : List Value} {l : List α} (q : Ev es R s cs l) (m : Nat) : Ev es R s (cs.drop (m * es)) (l.drop m) := by
  refine ⟨by rw [List.length_drop, List.length_drop, q.len, Nat.sub_mul], fun k x hk => ?_⟩
  rw [List.getElem?_drop] at hk
  have := q.el _ _ hk
  rw [List.drop_drop]
  rwa [show m * es + k * es = (m + k) * es by rw [Nat.add_mul]]

theorem Ev.allOne {α : Type} {es : Nat} {R : Rd α} (hR : Rone R) : ∀ {s : Sg} {cs : List Value} {l : List α}, Ev es R s cs l → cs.all (·.oneCell') = true
  | s, cs, [], q => by
    have := q.len
    simp at this; subst this; rfl
  | s, cs, x :: l, q => by
    have h0 := q.el 0 x rfl
    rw [Nat.zero_mul, List.drop_zero] at h0
    have h1 := hR _ _ _ h0
    have h2 := (Ev.drop q 1).allOne hR
    rw [Nat.one_mul] at h2
    rw [← List.take_append_drop es cs, List.all_append, h1, h2]; rfl

/-- the mirror says that zeros may be laid -/
def zq (k : Int) : Option Unit := if 0 < k ∧ k < 4294967296 then some () else none
theorem zq_some {k : Int} {u : Unit} (h : zq k = some u) : 0 < k ∧ k < 4294967296 := by
  unfold zq at h
  split at h
  · assumption
  · cases h
section
variable {P : Program} {K : Kt} {a : Act} {w : World} {s : Sg} {R : List HP} {n : Nat} {E : Env} {ops : Array Oper} {rest : List Oper} {d : Option Tmp} {ty : TypeId} {pos : String} {aft : Array Edge} {g : Option (Nat × Bool)}
variable {α : Type} {Rr : Rd α}

/-- cells written into part i -/
theorem St.putCells (hS : St w s R) (i : Nat) {T es c m p : Nat} {sa : Option Addr} {cs : List Value} (hr : R[i]? = some (vecC T es sa c m cs)) {vs : List Value}
    (h1 : vs.all (·.oneCell') = true) (hfit : p + vs.length ≤ m * es) (hpos : 0 < m * es) :
    ∃ w2, (storeCells ⟨ab sa, ao sa + p, none⟩ vs).run P w = .ok () w2 ∧ St w2 s (R.set i (vecC T es sa c m (cs.take p ++ vs ++ cs.drop (p + vs.length)))) := by
  rcases hS.vec i hr with ⟨hl, ⟨h0, hn, hc⟩ | ⟨b, o, cur, e1, e2, e3, e4, e5, e6, h⟩⟩
  · subst hn; omega
  · subst e1
    have hcur : o + m * es ≤ cur.size := by have := Nat.mul_le_mul_right es e3; omega
    have hst := run_storeCells_at P b (o + p) T vs 0 cur w e2 (by omega) (fun v hv => List.all_eq_true.1 h1 v hv)
    simp only [Nat.add_zero] at hst
    have hput := h.put (w' := w.setRow b (cur.toList.take (o + p) ++ vs ++ cur.toList.drop (o + p + vs.length)).toArray) (setRow_heap w b cur _ T _ e2) (fun k hk => by simp [World.setRow, Array.getElem?_modify, Ne.symm hk]) rfl rfl
    have hcl : cs.length = m * es := hl
    have hS2 : St (w.setRow b (cur.toList.take (o + p) ++ vs ++ cur.toList.drop (o + p + vs.length)).toArray) s (vecC T es (some ⟨b, o, none⟩) c m (cs.take p ++ vs ++ cs.drop (p + vs.length)) :: R.eraseIdx i) := by
      refine hput.head fun hh q => ⟨by simp only [List.length_append, List.length_take, List.length_drop]; omega, .inr ⟨b, o, _, rfl, q, e3, e4, ?_, ?_⟩⟩
      · simp only [List.size_toArray, List.length_append, List.length_take, List.length_drop, Array.length_toList]; omega
      · rw [List.toList_toArray]
        exact put_mid cur.toList o p (m * es) vs cs e6 hfit (by simpa using hcur)
    refine ⟨_, ?_, hS2.perm ?_⟩
    · simpa [ab, ao] using hst
    · clear hS hput hS2 h
      induction R generalizing i with
      | nil => simp at hr
      | cons x l ih =>
        cases i with
        | zero => exact List.Perm.refl _
        | succ i => simp at hr; exact (List.Perm.swap _ _ _).trans ((ih i hr).cons x)

def cpOk (P : Program) (t e es : Nat) : Bool := match P.underlying t with | some (.slice e') => Nat.beq e' e && (match P.info? e with | some i => Nat.beq i.size es && Nat.blt 0 es | none => false) | _ => false
theorem cpOk.get {P : Program} {t e es : Nat} (h : cpOk P t e es = true) : P.underlying t = some (.slice e) ∧ 0 < es ∧ ∃ i, P.info? e = some i ∧ i.size = es := by
  unfold cpOk at h
  split at h
  · rename_i e' hu
    simp only [Bool.and_eq_true] at h
    have h1 := Nat.eq_of_beq_eq_true h.1
    subst h1
    have h2 := h.2
    split at h2
    · rename_i i hi
      simp only [Bool.and_eq_true] at h2
      have h3 : 0 < es := by have := h2.2; simp [Nat.blt] at this; omega
      exact ⟨hu, h3, i, hi, Nat.eq_of_beq_eq_true h2.1⟩
    · cases h2
  · cases h

/-- k elements, told by their cells, are copied to place lo -/
theorem run_copy (hS : St w s R) (i : Nat) {t e es c m lo hi k sl sc : Nat} {sa sb : Option Addr} {cs src : List Value} (ht : cpOk P t e es = true) (hr : R[i]? = some (vecC e es sa c m cs)) (h1 : lo ≤ hi) (h2 : hi ≤ m)
    (hk : k = min sl (hi - lo)) (hsl : src.length = k * es) (ha : src.all (·.oneCell') = true) (hsrc : 0 < k → ∃ b o, sb = some ⟨b, o, none⟩ ∧ Sees w b o src) :
    ∃ w2, (Builtin.copy_ #[t, t] ty #[sliced sa lo hi c es, .slice sb sl sc]).run P w = .ok (goInt k) w2 ∧ St w2 s (R.set i (vecC e es sa c m (cs.take (lo * es) ++ src ++ cs.drop (lo * es + src.length)))) := by
  obtain ⟨hu, hes, inf, hi', hsz⟩ := cpOk.get ht
  have hcap := hS.vecCap i hr
  unfold sliced
  have hmin : Nat.min sl (hi - lo) = k := hk.symm
  rcases Nat.eq_zero_or_pos k with hk0 | hk0
  · have hs0 : src = [] := List.eq_nil_of_length_eq_zero (by rw [hsl, hk0, Nat.zero_mul])
    subst hs0
    refine ⟨w, ?_, ?_⟩
    · have hz : Nat.min sl (hi - lo) = 0 := by rw [hmin, hk0]
      rw [hk0]
      cases sb with
      | none => cases hd : (if c = lo then sa else sa.map (·.add (lo * es))) <;> simp [Builtin.copy_, run_underlying hu, Builtin.lenOf, sizeOf, typeInfo, hi', Builtin.firstCells, hz, storeCells, goInt]
      | some q => cases hd : (if c = lo then sa else sa.map (·.add (lo * es))) <;> simp [Builtin.copy_, run_underlying hu, Builtin.lenOf, sizeOf, typeInfo, hi', Builtin.firstCells, hz, storeCells, loadCells, loadCellsFrom, goInt]
    · have e1 : cs.take (lo * es) ++ [] ++ cs.drop (lo * es + ([] : List Value).length) = cs := by simp
      rw [e1]
      have e : R.set i (vecC e es sa c m cs) = R := by
        apply List.ext_getElem?
        intro j
        by_cases hj : i = j
        · subst hj
          have hlt : i < R.length := (List.getElem?_eq_some_iff.1 hr).1
          rw [List.getElem?_set_self hlt]; exact hr.symm
        · rw [List.getElem?_set_ne hj]
      rw [e]; exact hS
  · obtain ⟨b, o, rfl, hsees⟩ := hsrc hk0
    have hne : ¬ c = lo := by omega
    obtain ⟨b0, o0, rfl⟩ : aok sa := hS.vecAok i hr (k := lo) (by omega)
    have hfit : lo * es + src.length ≤ m * es := by
      rw [hsl, ← Nat.add_mul]; exact Nat.mul_le_mul_right _ (by omega)
    obtain ⟨w2, hw, hS2⟩ := hS.putCells (P := P) i hr ha hfit (Nat.mul_pos (by omega) hes)
    refine ⟨w2, ?_, hS2⟩
    have hload : (loadCells ⟨b, o, none⟩ (k * es)).run P w = .ok src.toArray w := by
      rw [← hsl]
      exact run_loadCells_list w ⟨b, o, none⟩ src (fun j v hj => by rw [Addr.add_here]; exact hsees j v hj)
    simp only [ab, ao, Option.getD_some] at hw
    simp [Builtin.copy_, run_underlying hu, Builtin.lenOf, sizeOf, typeInfo, hi', hsz, Builtin.firstCells, hmin, hload, hne, Addr.add_here, hw]

theorem WL.cpS (hE : Rep a n E) (hS : St w s R) (i : Nat) {t e es c m lo hi sl sc : Nat} {sa sb : Option Addr} {cs : List Value} {l xs : List α} {x y : Operand}
    (hg : Region.wanted ⟨d, .call ⟨.builtin .copy, #[x, y], #[t, t]⟩, ty, pos, aft, g⟩ (yielded ops a.tmps) = true) (ht : cpOk P t e es = true)
    (hx : E.ev x = some (sliced sa lo hi c es)) (hy : E.ev y = some (.slice sb sl sc)) (hr : R[i]? = some (vecC e es sa c m cs)) (h1 : lo ≤ hi) (h2 : hi ≤ m) (hv : Ev es Rr s cs l) (_hn : l.length = m)
    (hR : Rone Rr) (hsrc : Sl es Rr s sb sc xs) (hxl : xs.length = sl) (hd : dstOk d n = true)
    (q : ∀ cs2 a w, Ev es Rr s cs2 (cpl l lo hi xs) → Rep a n (E.put d (.int .i64 ((min xs.length (hi - lo) : Nat) : Int))) → St w s (R.set i (vecC e es sa c m cs2)) → WL P ops K rest a w) :
    WL P ops K (⟨d, .call ⟨.builtin .copy, #[x, y], #[t, t]⟩, ty, pos, aft, g⟩ :: rest) a w := by
  subst hxl
  obtain ⟨hu, hes, _⟩ := cpOk.get ht
  obtain ⟨src, e1, e2, e3⟩ := hsrc.cells hR
  have e1t := e1.take (min xs.length (hi - lo))
  have hlen : (src.take (min xs.length (hi - lo) * es)).length = min xs.length (hi - lo) * es := by
    rw [e1t.len, List.length_take, Nat.min_eq_left (Nat.min_le_left _ _)]
  obtain ⟨w2, hw, hS2⟩ := run_copy (ty := ty) (sc := sc) hS i ht hr h1 h2 rfl hlen (by
      rw [List.all_eq_true] at e2 ⊢
      exact fun v hv => e2 v (List.mem_of_mem_take hv)) (fun hk => by
      have hx0 : 0 < xs.length := by omega
      obtain ⟨b, o, hb⟩ : aok sb := by
        rcases hsrc.ok with h | h
        · exact h
        · have := hsrc.len; omega
      refine ⟨b, o, hb, fun j v hj => ?_⟩
      subst hb
      rw [List.getElem?_take] at hj
      split at hj
      · exact e3 w R hS j v hj
      · cases hj)
  refine WL.step hg ?_ (q _ _ w2 ?_ (hE.puts hd _) (by rw [hlen] at hS2; exact hS2))
  · simp [execOp, resolve, invoke, builtin, hE.ev hx, hE.ev hy, hw, goInt]
  · unfold cpl
    have := ((hv.take lo).append e1t).append (hv.drop (lo + min xs.length (hi - lo)))
    rw [Nat.add_mul] at this; exact this

theorem WL.cpO (hE : Rep a n E) (hS : St w s R) (i : Nat) {t e es c m lo hi lo2 hi2 : Nat} {sa : Option Addr} {cs : List Value} {l : List α} {x y : Operand}
    (hg : Region.wanted ⟨d, .call ⟨.builtin .copy, #[x, y], #[t, t]⟩, ty, pos, aft, g⟩ (yielded ops a.tmps) = true) (ht : cpOk P t e es = true)
    (hx : E.ev x = some (sliced sa lo hi c es)) (hy : E.ev y = some (sliced sa lo2 hi2 c es)) (hr : R[i]? = some (vecC e es sa c m cs)) (h1 : lo ≤ hi) (h2 : hi ≤ m) (h3 : lo2 ≤ hi2) (h4 : hi2 ≤ m) (hv : Ev es Rr s cs l) (hn : l.length = m)
    (hone : cs.all (·.oneCell') = true) (hd : dstOk d n = true)
    (q : ∀ cs2 a w, Ev es Rr s cs2 (cpl l lo hi ((l.take hi2).drop lo2)) → Rep a n (E.put d (.int .i64 ((min ((l.take hi2).drop lo2).length (hi - lo) : Nat) : Int))) → St w s (R.set i (vecC e es sa c m cs2)) → WL P ops K rest a w) :
    WL P ops K (⟨d, .call ⟨.builtin .copy, #[x, y], #[t, t]⟩, ty, pos, aft, g⟩ :: rest) a w := by
  subst hn
  obtain ⟨hu, hes, _⟩ := cpOk.get ht
  have hxs : ((l.take hi2).drop lo2).length = hi2 - lo2 := by simp; omega
  have hcap := hS.vecCap i hr
  have e1 := (hv.take hi2).drop lo2
  have e1t := e1.take (min ((l.take hi2).drop lo2).length (hi - lo))
  have hlen : (List.take (min ((l.take hi2).drop lo2).length (hi - lo) * es) (List.drop (lo2 * es) (List.take (hi2 * es) cs))).length = min ((l.take hi2).drop lo2).length (hi - lo) * es := by
    rw [e1t.len, List.length_take, Nat.min_eq_left (Nat.min_le_left _ _)]
  obtain ⟨w2, hw, hS2⟩ := run_copy (ty := ty) (sl := hi2 - lo2) (sc := c - lo2) (sb := if c = lo2 then sa else sa.map (·.add (lo2 * es))) (k := min ((l.take hi2).drop lo2).length (hi - lo)) hS i ht hr h1 h2 (by rw [hxs]) hlen (by
      rw [List.all_eq_true] at hone ⊢
      exact fun v hv => hone v (List.mem_of_mem_take (List.mem_of_mem_drop (List.mem_of_mem_take hv)))) (fun hk => by
      have hne : ¬ c = lo2 := by omega
      obtain ⟨b0, o0, rfl⟩ : aok sa := hS.vecAok i hr (k := lo2) (by omega)
      refine ⟨b0, o0 + lo2 * es, by simp [hne, Addr.add_here], fun j v hj => ?_⟩
      have := hS.vecSees i hr (lo2 * es) (List.take (min ((l.take hi2).drop lo2).length (hi - lo) * es) (List.drop (lo2 * es) (List.take (hi2 * es) cs))) (fun j v hj => by
        rw [List.getElem?_take] at hj
        split at hj
        · rw [List.getElem?_drop, List.getElem?_take] at hj
          split at hj
          · exact hj
          · cases hj
        · cases hj) j v hj
      simpa [ab, ao] using this)
  have hw' : (Builtin.copy_ #[t, t] ty #[sliced sa lo hi c es, sliced sa lo2 hi2 c es]).run P w = .ok (goInt ((min ((l.take hi2).drop lo2).length (hi - lo) : Nat) : Int)) w2 := hw
  refine WL.step hg ?_ (q _ _ w2 ?_ (hE.puts hd _) (by rw [hlen] at hS2; exact hS2))
  · simp [execOp, resolve, invoke, builtin, hE.ev hx, hE.ev hy, hw', goInt]
  · unfold cpl
    have := ((hv.take lo).append e1t).append (hv.drop (lo + min ((l.take hi2).drop lo2).length (hi - lo)))
    rw [Nat.add_mul] at this; exact this
end


theorem Ev.flat {α : Type} {es : Nat} {R : Rd α} {s1 s2 : Sg} (hR : ∀ s t cs x, R s cs x → R t cs x) {cs : List Value} {l : List α} (q : Ev es R s1 cs l) : Ev es R s2 cs l := ⟨q.len, fun k x hk => hR _ _ _ _ (q.el k x hk)⟩

section
variable {P : Program} {K : Kt} {a : Act} {w : World} {s : Sg} {R : List HP} {n : Nat} {E : Env} {ops : Array Oper} {rest : List Oper} {d : Option Tmp} {ty : TypeId} {pos : String} {aft : Array Edge} {g : Option (Nat × Bool)}
variable {α : Type} {Rr : Rd α}

/-- append of a slice of the call's own, which stays the call's own -/
theorem WL.appO (hE : Rep a n E) (hS : St w s R) (i j : Nat) {t e es : Nat} {x y : Operand} {sa sy : Option Addr} {c k c' m : Nat} {cs cy : List Value} {l xs r : List α}
    (hg : Region.wanted ⟨d, .call ⟨.builtin .append, #[x, y], #[t, t]⟩, ty, pos, aft, g⟩ (yielded ops a.tmps) = true)
    (hx : E.ev x = some (.slice sa k c)) (hy : E.ev y = some (.slice sy m c')) (hr : R[i]? = some (vecC e es sa c k cs)) (hry : R[j]? = some (vecC e es sy c' m cy)) (ht : apOk P t e es = true) (hR : Rone Rr)
    (hv : Ev es Rr s cs l) (hn : l.length = k) (hvy : Ev es Rr s cy xs) (hny : xs.length = m) (ha : apd l xs = some r) (hd : dstOk d n = true)
    (q : ∀ a2 c2 cs2 a w, Ev es Rr s cs2 r → Rep a n (E.put d (.slice a2 r.length c2)) → St w s (R.set i (vecC e es a2 c2 r.length cs2)) → WL P ops K rest a w) : WL P ops K (⟨d, .call ⟨.builtin .append, #[x, y], #[t, t]⟩, ty, pos, aft, g⟩ :: rest) a w := by
  obtain ⟨hb, rfl⟩ := apd_some ha
  subst hn; subst hny
  rcases Nat.eq_zero_or_pos xs.length with h0 | h0
  · have hx0 : xs = [] := List.eq_nil_of_length_eq_zero h0
    subst hx0
    have h1 := hS.vecCap i hr
    refine WL.step hg ?_ (q sa c cs _ w (by simpa using hv) (by simpa using hE.puts hd _) ?_)
    · have := run_app0 (P := P) (w := w) (a := sa) (b := sy) (c' := c') ty ht h1.1
      simp [execOp, resolve, invoke, builtin, hE.ev hx, hE.ev hy, this]
    · have e : R.set i (vecC e es sa c (l ++ []).length cs) = R := by
        rw [List.append_nil]
        apply List.ext_getElem?
        intro j
        by_cases hj : i = j
        · subst hj
          rw [List.getElem?_set]
          have hlt : i < R.length := by
            rcases Nat.lt_or_ge i R.length with h | h
            · exact h
            · rw [List.getElem?_eq_none h] at hr; cases hr
          simp [hlt]
          rw [List.getElem?_eq_getElem hlt] at hr
          exact (Option.some.inj hr).symm
        · rw [List.getElem?_set_ne hj]
      rw [e]; exact hS
  · obtain ⟨b', o', rfl⟩ := hS.vecAok j hry h0
    have hsees := hS.vecSees j hry 0 cy (fun j v hj => by simpa using hj)
    obtain ⟨a2, c2, w2, hrun, hS2⟩ := run_app hS i (c' := c') ty hr ht hvy.len hsees (hvy.allOne hR) h0 hb
    refine WL.step hg ?_ (q a2 c2 _ _ w2 (hv.append hvy) (by rw [List.length_append]; exact hE.puts hd _) (by rw [List.length_append]; exact hS2))
    simp only [ab, ao, Option.getD_some, Nat.add_zero] at hrun
    simp [execOp, resolve, invoke, builtin, hE.ev hx, hE.ev hy, hrun]
end

/-! ## Slices that are asked whether they are nil -/

/-- the mirror says that a list is not empty -/
def nz {α : Type} (l : List α) : Option Unit := if l.isEmpty then none else some ()
theorem nz_ne {α : Type} {l : List α} {u : Unit} (h : nz l = some u) : l ≠ [] := by
  rintro rfl; cases h
theorem nz_some {α : Type} {l : List α} {u : Unit} (h : nz l = some u) {a : Option Addr} : l = [] → a = none := fun e => absurd e (nz_ne h)
theorem isNone_eq {α : Type} {es : Nat} {R : Rd α} {s : Sg} {a : Option Addr} {c : Nat} {l : List α} (q : Sl es R s a c l) (hz : l = [] → a = none) : a.isNone = l.isEmpty := by
  cases l with
  | nil => rw [hz rfl]; rfl
  | cons x r =>
    cases a with
    | none => have := q.none_nil; cases this
    | some a => rfl
theorem isNone_ne {α : Type} {es : Nat} {R : Rd α} {s : Sg} {a : Option Addr} {c : Nat} {l : List α} (q : Sl es R s a c l) {u : Unit} (h : nz l = some u) : a.isNone = false := by
  cases a with
  | none => exact absurd q.none_nil (nz_ne h)
  | some a => rfl
theorem aok.isNone {a : Option Addr} (h : aok a) : a.isNone = false := by obtain ⟨b, o, rfl⟩ := h; rfl
theorem nz_pos {α : Type} {l : List α} {u : Unit} (h : nz l = some u) : 0 < l.length := List.length_pos_iff.2 (nz_ne h)
section
variable {P : Program} {a : Act} {n : Nat} {E : Env} {d : Option Tmp} {ty : TypeId} {pos : String} {aft : Array Edge} {g : Option (Nat × Bool)}
theorem Gives.isNilZ {C : World → Prop} (hE : Rep a n E) {t t' : Nat} {x y : Operand} {sa : Option Addr} {m c m' c' : Nat} {b : Bool} (e : sa.isNone = b) (hx : E.ev x = some (.slice sa m c)) (hy : E.ev y = some (.slice none m' c')) (h : isSl P t = true) :
    Gives P C a ⟨d, .binOp .eql t x y t', ty, pos, aft, g⟩ (.bool b) := by subst e; exact Gives.isNil hE hx hy h
theorem Gives.notNilZ {C : World → Prop} (hE : Rep a n E) {t t' : Nat} {x y : Operand} {sa : Option Addr} {m c m' c' : Nat} {b : Bool} (e : sa.isNone = b) (hx : E.ev x = some (.slice sa m c)) (hy : E.ev y = some (.slice none m' c')) (h : isSl P t = true) :
    Gives P C a ⟨d, .binOp .neq t x y t', ty, pos, aft, g⟩ (.bool !b) := by subst e; exact Gives.notNil hE hx hy h
theorem Gives.nilOkA {P : Program} {C : World → Prop} {a : Act} {n : Nat} {E : Env} {d : Option Tmp} {ty : TypeId} {pos : String} {aft : Array Edge} {g : Option (Nat × Bool)} (hE : Rep a n E) {x : Operand} {sa : Option Addr} (h : aok sa) (hx : E.ev x = some (.pointer sa)) : Gives P C a ⟨d, .nilCheck x, ty, pos, aft, g⟩ (.pointer sa) := by
  obtain ⟨b, o, rfl⟩ := h; exact Gives.nilOk hE hx
end
end Go.Fp
