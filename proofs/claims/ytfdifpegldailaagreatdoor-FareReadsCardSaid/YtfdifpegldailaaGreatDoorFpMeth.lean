/- Method values: functions whose first arguments are bound. No condition. -/
import Derived.Test.YtfdifpegldailaaGreatDoorFpDefer
namespace Go.Fp
open Go
section
variable {P : Program} {K : Kt} {a : Act} {w : World} {n : Nat} {E : Env} {ops : Array Oper} {rest : List Oper} {d : Option Tmp} {ty : TypeId} {pos : String} {aft : Array Edge} {g : Option (Nat × Bool)}
theorem Gives.mkmeth {C : World → Prop} (hE : Rep a n E) {f : FuncId} {xs : List Operand} {vs : List Value} (hx : evs E.ev xs = some vs) :
    Gives P C a ⟨d, .makeFunc (.func f) xs.toArray #[], ty, pos, aft, g⟩ (.func (.func f) vs.toArray #[]) := by
  intro w _
  have := evs_map (ρ := a.eval) (fun x v h => hE.ev h) hx
  simp [execOp, Instr.makeFunc, this]
theorem WL.fnz (hE : Rep a n E) {x : Operand} {f : FuncId} {xs : List Operand} {vs fs : List Value} {args : Array Value} {ts : Array TypeId} {R : Ending → World → Prop} (hc : Calls P f args w R) (hf : E.ev x = some (.func (.func f) fs.toArray #[]))
    (hg : Region.wanted ⟨d, .call ⟨.value x, xs.toArray, ts⟩, ty, pos, aft, g⟩ (yielded ops a.tmps) = true) (hb : bodied P f = true) (hx : evs E.ev xs = some vs) (ha : (fs ++ vs).toArray = args) (hd : dstOk d n = true)
    (q : ∀ e w, R e w → ∃ v, e = .returned v ∧ ∀ a, Rep a n (E.put d v) → WL P ops K rest a w) :
    WL P ops K (⟨d, .call ⟨.value x, xs.toArray, ts⟩, ty, pos, aft, g⟩ :: rest) a w := by
  subst ha
  refine WL.call (f := f) (args := (fs ++ vs).toArray) (w' := w) hg ?_ hc ?_
  · have := evs_map (ρ := a.eval) (fun x v h => hE.ev h) hx
    simp only [execOp, resolve, Sem.run_bind, hE.ev hf, Deferred.ofValue, Sem.run_pure, Result.andThen_ok, invoke]
    simp [this, run_callFunc hb]
  · intro e w hR
    obtain ⟨v, rfl, q⟩ := q e w hR
    exact ⟨v, rfl, q _ (hE.puts hd v)⟩
theorem WL.fnzP (hE : Rep a n E) {x : Operand} {f : FuncId} {xs : List Operand} {vs fs : List Value} {args : Array Value} {ts : Array TypeId} {R : Ending → World → Prop} (hc : Calls P f args w R) (hf : E.ev x = some (.func (.func f) fs.toArray #[]))
    (hg : Region.wanted ⟨d, .call ⟨.value x, xs.toArray, ts⟩, ty, pos, aft, g⟩ (yielded ops a.tmps) = true) (hb : bodied P f = true) (hx : evs E.ev xs = some vs) (ha : (fs ++ vs).toArray = args) (hd : dstOk d n = true)
    (q : ∀ e w, R e w → (∃ v, e = .returned v ∧ ∀ a, Rep a n (E.put d v) → WL P ops K rest a w) ∨ ∃ ch, e = .panicked ch ∧ ∀ a, Rep a n E → K.pan ch a w) :
    WL P ops K (⟨d, .call ⟨.value x, xs.toArray, ts⟩, ty, pos, aft, g⟩ :: rest) a w := by
  subst ha
  show wpList P ops K.q (_ :: rest) a w
  rw [wpList, if_pos hg]
  refine .inl ?_
  have hr : (execOp a.eval ⟨d, .call ⟨.value x, xs.toArray, ts⟩, ty, pos, aft, g⟩).run P w = .ok (.enter f (fs ++ vs).toArray) w := by
    have := evs_map (ρ := a.eval) (fun x v h => hE.ev h) hx
    simp only [execOp, resolve, Sem.run_bind, hE.ev hf, Deferred.ofValue, Sem.run_pure, Result.andThen_ok, invoke]
    simp [this, run_callFunc hb]
  rw [Oper.wp, hr, Oper.upon_enter]
  refine hc.mono ?_
  intro e w'' hR
  rcases q e w'' hR with ⟨v, rfl, h⟩ | ⟨ch, rfl, h⟩
  · exact h _ (hE.puts hd v)
  · exact h _ hE
end
end Go.Fp
