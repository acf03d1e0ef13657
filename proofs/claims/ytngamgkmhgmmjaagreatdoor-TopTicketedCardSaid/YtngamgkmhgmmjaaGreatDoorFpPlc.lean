/- A place of one cell inside of memory of the call's own: read, written, lent to a call by its address. No condition. -/
import Derived.Test.YtngamgkmhgmmjaaGreatDoorFpMore
import Derived.Scope
namespace Go.Fp
open Go

/-- at b, o lies one cell; while it holds v, the memory it lies in is Z v -/
structure Place (b o : Nat) (Z : Value → HP) : Prop where
  get : ∀ w s R v, St w s (Z v :: R) → w.cell? ⟨b, o, none⟩ = some v
  put : ∀ w s R v v', St w s (Z v :: R) → ∃ (cur : Array Value) (T : TypeId), w.heap[b]? = some (.cells cur T (0, 0)) ∧ o + 1 ≤ cur.size ∧
    St (w.setRow b (cur.toList.take o ++ [v'] ++ cur.toList.drop (o + 1)).toArray) s (Z v' :: R)

section
variable {w : World} {s : Sg} {R : List HP} {T es : Nat} {a : Option Addr} {c n : Nat} {cs : List Value}

end

section
variable {P : Program} {K : Kt} {a : Act} {w : World} {s : Sg} {R : List HP} {n : Nat} {E : Env} {ops : Array Oper} {rest : List Oper} {d : Option Tmp} {ty : TypeId} {pos : String} {aft : Array Edge} {g : Option (Nat × Bool)}

end

/-- a part of the text in which no jump to a label stands -/
theorem stepR_scope {P : Program} {b : Frame} {a : Act} {k : List Item} {cs : List Frame} {w : World} {c : Code} : step P (lone (b.atR a (.code (.scope c) :: k)) cs w) = .next (lone (b.atR a (.code c :: .inScope c :: k)) cs w) :=
  step_lone_go (by simp [stepG, stepG.exec, Frame.atR])
theorem stepR_inScope {P : Program} {b : Frame} {a : Act} {k : List Item} {cs : List Frame} {w : World} {c : Code} : step P (lone (b.atR a (.inScope c :: k)) cs w) = .next (lone (b.atR a k) cs w) :=
  step_lone_go (by simp [stepG, stepG.exec, Frame.atR])

theorem W.scope {P : Program} {K : Kt} {c : Code} {a : Act} {w : World} (h : W P c K a w) : W P (.scope c) K a w := by
  intro b k cs hro hb hr
  have h0 : (lone (b.atR a (.code (.scope c) :: k)) cs w).fenced P K.F := fenced_calm hb hr rfl
  obtain ⟨e, a₁, w₁, hq, harr⟩ := h b (.inScope c :: k) cs hro hb hr
  cases e with
  | normal => exact ⟨.normal, a₁, w₁, hq, .head h0 stepR_scope (StepsIn.trans harr (.one (fenced_calm hb hr rfl) stepR_inScope))⟩
  | exit id =>
    have hx : exitTo id (.inScope c :: k) = exitTo id k := by simp [exitTo]
    exact ⟨_, a₁, w₁, hq, fun k' hk => .head h0 stepR_scope (harr.1 k' (by rw [hx]; exact hk)),
      fun hr' hk => let ⟨k₁, h1, h2⟩ := harr.2 hr' (by rw [hx]; exact hk); ⟨k₁, h1, .head h0 stepR_scope h2⟩⟩
  | goto l => exact hq.elim
  | ret => exact ⟨_, a₁, w₁, hq, .of_steps (.one h0 stepR_scope) harr⟩
  | panic ch => exact ⟨_, a₁, w₁, hq, .of_steps (.one h0 stepR_scope) harr⟩
  | outgrown => exact hq.elim
end Go.Fp
