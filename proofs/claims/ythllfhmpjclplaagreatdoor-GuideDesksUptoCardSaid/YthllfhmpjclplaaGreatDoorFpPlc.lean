/- A place of one cell inside of memory of the call's own: read, written, lent to a call by its address. No condition. -/
import Derived.Test.YthllfhmpjclplaaGreatDoorFpLend
import Derived.Test.YthllfhmpjclplaaGreatDoorFpDel
import Derived.Scope
open List renaming append_assoc → b2y, length_append → b2u, length_take → b2S, length_drop → b2K, length_cons → b2v, length_nil → b3j
namespace Go.Fp
open Go
structure a6W (b o : Nat) (Z : Value → HP) : Prop where
  get : ∀ w s R v, St w s (Z v :: R) → w.cell? ⟨b, o, none⟩ = some v
  put : ∀ w s R v v', St w s (Z v :: R) → ∃ (cur : Array Value) (T : TypeId), w.heap[b]? = some (.cells cur T (0, 0)) ∧ o + 1 ≤ cur.size ∧
    St (w.setRow b (cur.toList.take o ++ [v'] ++ cur.toList.drop (o + 1)).toArray) s (Z v' :: R)
abbrev b0T (T es : Nat) (a : Option Addr) (c n : Nat) (cs : List Value) (j : Nat) : Value → HP := fun v => B2 T es a c n (cs.take j ++ [v] ++ cs.drop (j + 1))
theorem a9t {T es : Nat} {a : Option Addr} {c n : Nat} {cs : List Value} {p off : Nat} {b0 o0 : Nat} (ha : a = some ⟨b0, o0, none⟩) (hj : p + off < n * es) (hl : cs.length = n * es) : a6W (ab a) (ao a + p + off) (b0T T es a c n cs (p + off)) := by
  subst ha
  have hjl : p + off < cs.length := by omega
  constructor
  · intro w s R v hS
    have hat : (cs.take (p + off) ++ [v] ++ cs.drop (p + off + 1))[p + off]? = some v := by
      rw [b2y, List.getElem?_append_right (by simp; omega)]
      simp [Nat.min_eq_left (Nat.le_of_lt hjl)]
    have := hS.vecSees 0 rfl (p + off) [v] (fun j u hu => by
      cases j with
      | zero => simp at hu; subst hu; exact hat
      | succ j => simp at hu) 0 v rfl
    simpa [Nat.add_assoc] using this
  · intro w s R v v' hS
    rcases hS.vec 0 rfl with ⟨hl1, ⟨h0, _⟩ | ⟨b, o, cur, e1, e2, e3, e4, e5, e6, h⟩⟩
    · cases h0
    · cases e1
      have hcur : o0 + n * es ≤ cur.size := by have := Nat.mul_le_mul_right es e3; omega
      have hput := h.put (w' := w.setRow b0 (cur.toList.take (o0 + (p + off)) ++ [v'] ++ cur.toList.drop (o0 + (p + off) + 1)).toArray) (setRow_heap w b0 cur _ T _ e2) (fun k hk => by simp [World.setRow, Array.getElem?_modify, Ne.symm hk]) rfl rfl
      refine ⟨cur, T, e2, by simp only [ao, Option.getD_some]; omega, ?_⟩
      have e : ao (some (⟨b0, o0, none⟩ : Addr)) + p + off = o0 + (p + off) := by simp only [ao, Option.getD_some]; omega
      rw [e]
      refine hput.head fun hh q => ⟨by simp only [b2u, b2S, b2K, b2v, b3j]; omega, .inr ⟨b0, o0, _, rfl, q, e3, e4, ?_, ?_⟩⟩
      · simp only [List.size_toArray, b2u, b2S, b2K, Array.length_toList, b2v, b3j]; omega
      · rw [List.toList_toArray]
        have := a3N cur.toList o0 (p + off) (n * es) [v'] _ e6 (by simp; omega) (by simpa using hcur)
        simp only [b2v, b3j, Nat.zero_add] at this
        rw [this]
        have t1 : (cs.take (p + off)).length = p + off := by simp; omega
        congr 1
        · congr 1
          rw [b2y, List.take_append_of_le_length (by omega), List.take_of_length_le (by omega)]
        · rw [List.drop_append_of_le_length (by simp; omega)]
          have t2 : (cs.take (p + off) ++ [v]).length = p + off + 1 := by simp; omega
          rw [List.drop_of_length_le (by omega), List.nil_append]
section
variable {w : World} {s : Sg} {R : List HP} {T es : Nat} {a : Option Addr} {c n : Nat} {cs : List Value}
end
section
variable {P : Program} {K : Kt} {a : Act} {w : World} {s : Sg} {R : List HP} {n : Nat} {E : Env} {ops : Array Oper} {rest : List Oper} {d : Option Tmp} {ty : TypeId} {pos : String} {aft : Array Edge} {g : Option (Nat × Bool)}
theorem A6.loadZ {b o : Nat} {Z : Value → HP} (hZ : a6W b o Z) (hE : Rep a n E) {t : TypeId} {x : Operand} {v : Value} (i : Nat) (hx : E.ev x = some (.pointer (some ⟨b, o, none⟩)))
    (hr : R[i]? = some (Z v)) (ht : Q8 P t false 1 = true) : A6 P (fun w => St w s R) a ⟨d, .load t x, ty, pos, aft, g⟩ v := by
  refine A6.load1 hE hx (fun w hS => ?_) ht
  intro j u hj
  cases j with
  | zero => simp at hj; subst hj; exact hZ.get w s _ _ (hS.front i hr)
  | succ j => simp at hj
theorem WL.storeZ {b o : Nat} {Z : Value → HP} (hZ : a6W b o Z) (hE : Rep a n E) (hS : St w s R) (i : Nat) {t : TypeId} {v0 : Value} (hr : R[i]? = some (Z v0)) {x y : Operand} {v : Value}
    (hg : Region.wanted ⟨d, .store t x y, ty, pos, aft, g⟩ (yielded ops a.tmps) = true) (hx : E.ev x = some (.pointer (some ⟨b, o, none⟩))) (hy : E.ev y = some v) (hv : v.cells = [v].toArray) (ht : Q8 P t false 1 = true) (h1 : v.oneCell' = true) (hd : J5 d n = true)
    (q : ∀ a w, Rep a n (E.put d undef) → St w s (R.set i (Z v)) → WL P ops K rest a w) : WL P ops K (⟨d, .store t x y, ty, pos, aft, g⟩ :: rest) a w := by
  obtain ⟨cur, T, e1, e2, e3⟩ := hZ.put w s _ _ v (hS.front i hr)
  have hst := run_storeCells_at P b o T [v] 0 cur w e1 (by simp; omega) (fun u hu => by simp at hu; subst hu; exact h1)
  simp only [Nat.add_zero, b2v, b3j, Nat.zero_add] at hst
  obtain ⟨f1, f2⟩ := a0j (r' := Z v) hr
  rw [← f2] at e3
  refine WL.skipS hg ?_ (q _ _ (hE.puts hd _) (St.unfront i f1 e3))
  simp [execOp, hE.ev hx, hE.ev hy, Instr.storeAt, Instr.sureAddr, storeVar, hv, Q8.size ht, hst]
end
theorem V3 {P : Program} {b : Frame} {a : Act} {k : List Item} {cs : List Frame} {w : World} {c : Code} : step P (lone (b.atR a (.code (.scope c) :: k)) cs w) = .next (lone (b.atR a (.code c :: .inScope c :: k)) cs w) :=
  step_lone_go (by simp [stepG, stepG.exec, Frame.atR])
theorem a2I {P : Program} {b : Frame} {a : Act} {k : List Item} {cs : List Frame} {w : World} {c : Code} : step P (lone (b.atR a (.inScope c :: k)) cs w) = .next (lone (b.atR a k) cs w) :=
  step_lone_go (by simp [stepG, stepG.exec, Frame.atR])
theorem W.scope {P : Program} {K : Kt} {c : Code} {a : Act} {w : World} (h : W P c K a w) : W P (.scope c) K a w := by
  intro b k cs hro hb hr
  have h0 : (lone (b.atR a (.code (.scope c) :: k)) cs w).fenced P K.F := fenced_calm hb hr rfl
  obtain ⟨e, a₁, w₁, hq, harr⟩ := h b (.inScope c :: k) cs hro hb hr
  cases e with
  | normal => exact ⟨.normal, a₁, w₁, hq, .head h0 V3 (StepsIn.trans harr (.one (fenced_calm hb hr rfl) a2I))⟩
  | exit id =>
    have hx : exitTo id (.inScope c :: k) = exitTo id k := by simp [exitTo]
    exact ⟨_, a₁, w₁, hq, fun k' hk => .head h0 V3 (harr.1 k' (by rw [hx]; exact hk)),
      fun hr' hk => let ⟨k₁, h1, h2⟩ := harr.2 hr' (by rw [hx]; exact hk); ⟨k₁, h1, .head h0 V3 h2⟩⟩
  | goto l => exact hq.elim
  | ret => exact ⟨_, a₁, w₁, hq, .of_steps (.one h0 V3) harr⟩
  | panic ch => exact ⟨_, a₁, w₁, hq, .of_steps (.one h0 V3) harr⟩
  | outgrown => exact hq.elim
end Go.Fp
