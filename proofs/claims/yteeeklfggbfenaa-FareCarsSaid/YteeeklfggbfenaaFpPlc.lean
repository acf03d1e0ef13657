/- A place of one cell inside of memory of the call's own: read, written, lent to a call by its address. No condition. -/
import Derived.Test.YteeeklfggbfenaaFpMore
import Derived.Scope
namespace Go.Fp
open Go

/-- at b, o lies one cell; while it holds v, the memory it lies in is Z v -/
structure Place (b o : Nat) (Z : Value → HP) : Prop where
  get : ∀ w s R v, St w s (Z v :: R) → w.cell? ⟨b, o, none⟩ = some v
  put : ∀ w s R v v', St w s (Z v :: R) → ∃ (cur : Array Value) (T : TypeId), w.heap[b]? = some (.cells cur T (0, 0)) ∧ o + 1 ≤ cur.size ∧
    St (w.setRow b (cur.toList.take o ++ [v'] ++ cur.toList.drop (o + 1)).toArray) s (Z v' :: R)

/-- a slice of the call's own, of whose cells the one at j is told apart -/
abbrev plcC (T es : Nat) (a : Option Addr) (c n : Nat) (cs : List Value) (j : Nat) : Value → HP := fun v => vecC T es a c n (cs.take j ++ [v] ++ cs.drop (j + 1))

theorem cell_back {cs : List Value} {j : Nat} {v : Value} (h : cs[j]? = some v) : cs.take j ++ [v] ++ cs.drop (j + 1) = cs := by
  obtain ⟨hj, rfl⟩ := List.getElem?_eq_some_iff.1 h
  rw [List.append_assoc, List.singleton_append, List.getElem_cons_drop hj, List.take_append_drop]

theorem plc_is {T es : Nat} {a : Option Addr} {c n : Nat} {cs : List Value} {p off : Nat} {b0 o0 : Nat} (ha : a = some ⟨b0, o0, none⟩) (hj : p + off < n * es) (hl : cs.length = n * es) : Place (ab a) (ao a + p + off) (plcC T es a c n cs (p + off)) := by
  subst ha
  have hjl : p + off < cs.length := by omega
  constructor
  · intro w s R v hS
    have hat : (cs.take (p + off) ++ [v] ++ cs.drop (p + off + 1))[p + off]? = some v := by
      rw [List.append_assoc, List.getElem?_append_right (by simp; omega)]
      simp [Nat.min_eq_left (Nat.le_of_lt hjl)]
    have := hS.vecSees 0 rfl (p + off) [v] (fun j u hu => by
      cases j with
      | zero => simp at hu; subst hu; exact hat
      | succ j => simp at hu) 0 v rfl
    simpa [Nat.add_assoc] using this
  · intro w s R v v' hS
    rcases hS.vec 0 rfl with ⟨hl1, ⟨h0, _⟩ | ⟨b, o, cur, e1, e2, e3, e4, e5, e6, h⟩⟩
    · cases h0
    · cases e1
      have hcur : o0 + n * es ≤ cur.size := by have := Nat.mul_le_mul_right es e3; omega
      have hput := h.put (w' := w.setRow b0 (cur.toList.take (o0 + (p + off)) ++ [v'] ++ cur.toList.drop (o0 + (p + off) + 1)).toArray) (setRow_heap w b0 cur _ T _ e2) (fun k hk => by simp [World.setRow, Array.getElem?_modify, Ne.symm hk]) rfl rfl
      refine ⟨cur, T, e2, by simp only [ao, Option.getD_some]; omega, ?_⟩
      have e : ao (some (⟨b0, o0, none⟩ : Addr)) + p + off = o0 + (p + off) := by simp only [ao, Option.getD_some]; omega
      rw [e]
      refine hput.head fun hh q => ⟨by simp only [List.length_append, List.length_take, List.length_drop, List.length_cons, List.length_nil]; omega, .inr ⟨b0, o0, _, rfl, q, e3, e4, ?_, ?_⟩⟩
      · simp only [List.size_toArray, List.length_append, List.length_take, List.length_drop, Array.length_toList, List.length_cons, List.length_nil]; omega
      · rw [List.toList_toArray]
        have := put_mid cur.toList o0 (p + off) (n * es) [v'] _ e6 (by simp; omega) (by simpa using hcur)
        simp only [List.length_cons, List.length_nil, Nat.zero_add] at this
        rw [this]
        have t1 : (cs.take (p + off)).length = p + off := by simp; omega
        congr 1
        · congr 1
          rw [List.append_assoc, List.take_append_of_le_length (by omega), List.take_of_length_le (by omega)]
        · rw [List.drop_append_of_le_length (by simp; omega)]
          have t2 : (cs.take (p + off) ++ [v]).length = p + off + 1 := by simp; omega
          rw [List.drop_of_length_le (by omega), List.nil_append]

section
variable {w : World} {s : Sg} {R : List HP} {T es : Nat} {a : Option Addr} {c n : Nat} {cs : List Value}

theorem St.plcOpen {p off : Nat} {v : Value} (hS : St w s (vecC T es a c n cs :: R)) (hv : cs[p + off]? = some v) : St w s (plcC T es a c n cs (p + off) v :: R) ∧ Place (ab a) (ao a + p + off) (plcC T es a c n cs (p + off)) := by
  have hj : p + off < cs.length := (List.getElem?_eq_some_iff.1 hv).1
  have hl := (hS.vec 0 rfl).1
  obtain ⟨b0, o0, ha⟩ := hS.vecAok 0 rfl (k := 0) (by
    rcases Nat.eq_zero_or_pos n with h | h
    · rw [h, Nat.zero_mul] at hl; omega
    · exact h)
  refine ⟨?_, plc_is ha (by omega) hl⟩
  show St w s (vecC T es a c n (cs.take (p + off) ++ [v] ++ cs.drop (p + off + 1)) :: R)
  rw [cell_back hv]
  exact hS

theorem St.plcClose {α : Type} {Rr : Rd α} {l : List α} {k off : Nat} {v : Value} {vs : List Value} {x : α} (hS : St w s (plcC T es a c n cs (k * es + off) v :: R)) (q : Ev es Rr s cs l) (hn : l.length = n)
    (hget : ∀ j u, vs[j]? = some u → cs[k * es + j]? = some u) (hl : vs.length = es) (ho : Nat.blt off es = true) (hx : Rr s (vs.take off ++ [v] ++ vs.drop (off + 1)) x) :
    ∃ cs2, St w s (vecC T es a c n cs2 :: R) ∧ Ev es Rr s cs2 (l.set k x) ∧ (l.set k x).length = n := by
  have ho' : off < es := by simpa using ho
  have hlen := q.len
  have hk : k < l.length := by
    have h1 := hget off _ (List.getElem?_eq_getElem (by omega : off < vs.length))
    have h2 := (List.getElem?_eq_some_iff.1 h1).1
    rcases Nat.lt_or_ge k l.length with h | h
    · exact h
    · have := Nat.mul_le_mul_right es h; omega
  have hle : k * es + es ≤ cs.length := by
    rw [hlen]; have := Nat.mul_le_mul_right es (Nat.succ_le_of_lt hk); rw [Nat.succ_mul] at this; exact this
  have hvs : (cs.drop (k * es)).take es = vs := by
    apply List.ext_getElem?
    intro j
    rcases Nat.lt_or_ge j es with h | h
    · rw [List.getElem?_take, if_pos h, List.getElem?_drop]
      have h1 : vs[j]? = some vs[j] := List.getElem?_eq_getElem (by omega)
      rw [h1]; exact hget j _ h1
    · rw [List.getElem?_eq_none (by simp; omega), List.getElem?_eq_none (by omega)]
  refine ⟨_, hS, ?_, by simp [hn]⟩
  have e : cs.take (k * es + off) ++ [v] ++ cs.drop (k * es + off + 1) = cs.take (k * es) ++ (vs.take off ++ [v] ++ vs.drop (off + 1)) ++ cs.drop (k * es + es) := by
    rw [List.take_add]
    have e1 : (cs.drop (k * es)).take off = vs.take off := by rw [← hvs, List.take_take, Nat.min_eq_left (by omega)]
    have e2 : cs.drop (k * es + off + 1) = vs.drop (off + 1) ++ cs.drop (k * es + es) := by
      have : cs.drop (k * es) = vs ++ cs.drop (k * es + es) := by
        rw [← hvs, ← List.drop_drop, List.take_append_drop]
      have e3 : cs.drop (k * es + off + 1) = (cs.drop (k * es)).drop (off + 1) := by rw [List.drop_drop, Nat.add_assoc]
      rw [e3, this, List.drop_append_of_le_length (by omega)]
    rw [e1, e2]
    simp only [List.append_assoc]
  rw [e]
  exact q.set hk (by simp; omega) hx
end

section
variable {P : Program} {K : Kt} {a : Act} {w : World} {s : Sg} {R : List HP} {n : Nat} {E : Env} {ops : Array Oper} {rest : List Oper} {d : Option Tmp} {ty : TypeId} {pos : String} {aft : Array Edge} {g : Option (Nat × Bool)}

theorem Gives.loadZ {b o : Nat} {Z : Value → HP} (hZ : Place b o Z) (hE : Rep a n E) {t : TypeId} {x : Operand} {v : Value} (i : Nat) (hx : E.ev x = some (.pointer (some ⟨b, o, none⟩)))
    (hr : R[i]? = some (Z v)) (ht : tyOk P t false 1 = true) : Gives P (fun w => St w s R) a ⟨d, .load t x, ty, pos, aft, g⟩ v := by
  refine Gives.load1 hE hx (fun w hS => ?_) ht
  intro j u hj
  cases j with
  | zero => simp at hj; subst hj; exact hZ.get w s _ _ (hS.front i hr)
  | succ j => simp at hj

theorem WL.storeZ {b o : Nat} {Z : Value → HP} (hZ : Place b o Z) (hE : Rep a n E) (hS : St w s R) (i : Nat) {t : TypeId} {v0 : Value} (hr : R[i]? = some (Z v0)) {x y : Operand} {v : Value}
    (hg : Region.wanted ⟨d, .store t x y, ty, pos, aft, g⟩ (yielded ops a.tmps) = true) (hx : E.ev x = some (.pointer (some ⟨b, o, none⟩))) (hy : E.ev y = some v) (hv : v.cells = [v].toArray) (ht : tyOk P t false 1 = true) (h1 : v.oneCell' = true) (hd : dstOk d n = true)
    (q : ∀ a w, Rep a n (E.put d undef) → St w s (R.set i (Z v)) → WL P ops K rest a w) : WL P ops K (⟨d, .store t x y, ty, pos, aft, g⟩ :: rest) a w := by
  obtain ⟨cur, T, e1, e2, e3⟩ := hZ.put w s _ _ v (hS.front i hr)
  have hst := run_storeCells_at P b o T [v] 0 cur w e1 (by simp; omega) (fun u hu => by simp at hu; subst hu; exact h1)
  simp only [Nat.add_zero, List.length_cons, List.length_nil, Nat.zero_add] at hst
  obtain ⟨f1, f2⟩ := set_at (r' := Z v) hr
  rw [← f2] at e3
  refine WL.skipS hg ?_ (q _ _ (hE.puts hd _) (St.unfront i f1 e3))
  simp [execOp, hE.ev hx, hE.ev hy, Instr.storeAt, Instr.sureAddr, storeVar, hv, tyOk.size ht, hst]

end

/-- a part of the text in which no jump to a label stands -/
theorem stepR_scope {P : Program} {b : Frame} {a : Act} {k : List Item} {cs : List Frame} {w : World} {c : Code} : step P (lone (b.atR a (.code (.scope c) :: k)) cs w) = .next (lone (b.atR a (.code c :: .inScope c :: k)) cs w) :=
  step_lone_go (by simp [stepG, stepG.exec, Frame.atR])
theorem stepR_inScope {P : Program} {b : Frame} {a : Act} {k : List Item} {cs : List Frame} {w : World} {c : Code} : step P (lone (b.atR a (.inScope c :: k)) cs w) = .next (lone (b.atR a k) cs w) :=
  step_lone_go (by simp [stepG, stepG.exec, Frame.atR])

theorem W.scope {P : Program} {K : Kt} {c : Code} {a : Act} {w : World} (h : W P c K a w) : W P (.scope c) K a w := by
  intro b k cs hro hb hr
  have h0 : (lone (b.atR a (.code (.scope c) :: k)) cs w).fenced P K.F := fenced_calm hb hr rfl
  obtain ⟨e, a₁, w₁, hq, harr⟩ := h b (.inScope c :: k) cs hro hb hr
  cases e with
  | normal => exact ⟨.normal, a₁, w₁, hq, .head h0 stepR_scope (StepsIn.trans harr (.one (fenced_calm hb hr rfl) stepR_inScope))⟩
  | exit id =>
    have hx : exitTo id (.inScope c :: k) = exitTo id k := by simp [exitTo]
    exact ⟨_, a₁, w₁, hq, fun k' hk => .head h0 stepR_scope (harr.1 k' (by rw [hx]; exact hk)),
      fun hr' hk => let ⟨k₁, h1, h2⟩ := harr.2 hr' (by rw [hx]; exact hk); ⟨k₁, h1, .head h0 stepR_scope h2⟩⟩
  | goto l => exact hq.elim
  | ret => exact ⟨_, a₁, w₁, hq, .of_steps (.one h0 stepR_scope) harr⟩
  | panic ch => exact ⟨_, a₁, w₁, hq, .of_steps (.one h0 stepR_scope) harr⟩
  | outgrown => exact hq.elim
end Go.Fp
