/- Functions that defer one closure, which may recover. No condition. -/
import Derived.Test.YtngamgkmhgmmjaaGreatDoorFpVec
import Derived.RecoverIn
namespace Go.Fp
open Go

/-- a region's operations outside of any round: deferred calls too -/
theorem opsIn_of_opsD {P : Program} {ops : Array Oper} {Q : Exit → Act → World → Prop} (hQ : ∀ a w, ¬ Q .outgrown a w) :
    ∀ (l : List Nat) (a : Act) (w : World), wpOps P ops Q l a w → wpOpsIn { Fence.wide with round := none } 0 P ops Q l a w
  | [], a, w, h => h
  | i :: rest, a, w, h => by
    rw [wpOps] at h
    rw [wpOpsIn]
    cases ho : ops[i]? with
    | none => rw [ho] at h; exact opsIn_of_opsD hQ rest a w h
    | some o =>
      rw [ho] at h
      simp only at h ⊢
      by_cases hw : Region.wanted o (yielded ops a.tmps) = true
      · rw [if_pos hw] at h ⊢
        rcases h with h | ⟨_, a', w', h⟩
        · refine ⟨fun _ _ => trivial, ?_⟩
          have hsem : o.semAt none a.eval = execOp a.eval o := rfl
          show o.uponIn _ 0 P a _ Q ((o.semAt none a.eval).run P w)
          rw [hsem]
          unfold Oper.wp at h
          generalize (execOp a.eval o).run P w = r at *
          cases r with
          | ok m w' =>
            cases m <;> simp only [Oper.upon] at h <;> simp only [Oper.uponIn]
            case value u => exact opsIn_of_opsD hQ rest _ _ h
            case skip => exact opsIn_of_opsD hQ rest _ _ h
            case defer d => exact opsIn_of_opsD hQ rest _ _ h
            case enter f args =>
              refine ⟨fun h => (by simp [Fence.wide] at h), callsIn_any.2 (Calls.mono h fun e w'' he => ?_)⟩
              cases e with
              | returned u => exact opsIn_of_opsD hQ rest _ _ he
              | panicked c => exact he
              | outgrown => exact he
            case row row args =>
              refine ⟨fun h => (by simp [Fence.wide] at h), ?_⟩
              intro c cs _
              obtain ⟨v, w'', h1, h2⟩ := h c cs
              exact ⟨v, w'', opsIn_of_opsD hQ rest _ _ h1, stepsIn_wide.2 h2⟩
          | halt x w' =>
            cases x <;> simp only [Oper.upon] at h <;> simp only [Oper.uponIn]
            case panic u => exact h
        · exact (hQ _ _ h).elim
      · rw [if_neg hw] at h ⊢
        exact ⟨fun _ _ => trivial, opsIn_of_opsD hQ rest _ _ h⟩
section
variable {P : Program} {K : Kt} {a : Act} {w : World} {n : Nat} {E : Env} {ops : Array Oper} {rest : List Oper} {d : Option Tmp} {ty : TypeId} {pos : String} {aft : Array Edge} {g : Option (Nat × Bool)}
theorem W.regionD {id : Nat} {ops : List Oper} (hrd : K.rd = none) (h : WL P ops.toArray K ops a w) : W P (.region id ops.toArray false) K a w := by
  obtain ⟨nor, ret, ex, pan, rd⟩ := K
  simp only at hrd
  subst hrd
  refine wpIn_region (opsIn_of_opsD (fun _ _ h => h) _ a w ?_)
  have e : ops.toArray.toList = ops := by simp
  have := wpOps_eq_wpList (P := P) (ops := ops.toArray) (Q := Kt.q ⟨nor, ret, ex, pan, none⟩) ops 0 (by simp)
  rw [List.range_eq_range']
  have hs : ops.toArray.size = ops.length := by simp
  rw [hs, this]
  exact h
/-- a closure without arguments is deferred -/
theorem WL.defer (hE : Rep a n E) {x : Operand} {f : Fn} {cap : Array Value} {ts : Array TypeId} (hx : E.ev x = some (.func f #[] cap))
    (hg : Region.wanted ⟨d, .defer ⟨.value x, #[], ts⟩, ty, pos, aft, g⟩ (yielded ops a.tmps) = true) (hd : dstOk d n = true)
    (q : ∀ a, Rep a n ((SP, .func f #[] cap) :: E.put d undef) → WL P ops K rest a w) :
    WL P ops K (⟨d, .defer ⟨.value x, #[], ts⟩, ty, pos, aft, g⟩ :: rest) a w := by
  unfold WL wpList
  rw [if_pos hg]
  refine .inl ?_
  unfold Oper.wp
  have he : (execOp a.eval ⟨d, .defer ⟨.value x, #[], ts⟩, ty, pos, aft, g⟩).run P w = .ok (.defer { target := .fn f cap, args := #[] }) w := by
    simp [execOp, resolve, hE.ev hx, Deferred.ofValue]
  rw [he, Oper.upon_defer]
  refine q _ ?_
  have h1 := hE.puts hd undef
  have e1 : ({ a with defers := { target := .fn f cap, args := #[] } :: a.defers } : Act).put d undef = { (a.put d undef) with defers := { target := .fn f cap, args := #[] } :: (a.put d undef).defers } := by
    cases d <;> rfl
  rw [e1]
  refine ⟨fun t v ht => ?_, h1.size, ?_, h1.lim⟩
  · refine h1.get t v ?_
    simp only [Env.get] at ht
    rwa [show Nat.beq SP SP = true from rfl, Bool.not_true, Bool.and_false, if_neg (by decide)] at ht
  · show { target := .fn f cap, args := #[] } :: (a.put d undef).defers = markOf (.func f #[] cap) ++ (E.put d undef).marks
    rw [h1.defers]
    rfl
end
/-- the ways out of a function that defers -/
abbrev topD (P : Program) (fn : Func) (R : Ending → World → Prop) : Kt :=
  { nor := fun a w => LeavesInM Fence.wide 0 P fn a.tmps R a.defers .returning w, ret := fun a w => LeavesInM Fence.wide 0 P fn a.tmps R a.defers .returning w, ex := [],
    pan := fun c a w => LeavesInM Fence.wide 0 P fn a.tmps R a.defers (.panicking c) w }
theorem enterD {P : Program} {f : FuncId} {fn : Func} {c : Code} {args : List Value} {w : World} {R : Ending → World → Prop} {n : Nat} (hf : P.funcs[f]? = some fn) (hb : fn.body = some c) (hn : fn.ntmps = n) (hl : Nat.ble args.length n = true)
    (h : ∀ a, Rep a n (argEnv 0 args) → W P c (topD P fn R) a w) (hlim : Nat.ble n SP = true := by rfl) : Calls P f args.toArray w R := by
  refine (callsIn_wide (n := 0)).1 (callsIn_of_wp_marks hf hb trivial (wpIn_mono (h { tmps := args.toArray ++ Array.replicate (fn.ntmps - args.toArray.size) undef, defers := [] } ⟨?_, ?_, ?_, hlim⟩) ?_))
  · intro t v ht
    have := (argEnv_get args 0 t v ht).2
    have ht' : t < args.length := by have := (List.getElem?_eq_some_iff.1 this).1; omega
    rw [Array.getElem?_append_left (by simpa using ht')]
    simpa using this
  · have : args.length ≤ n := by simpa using hl
    simp [hn]; omega
  · have h1 : args.length ≤ n := by simpa using hl
    have h2 := Nat.le_of_ble_eq_true hlim
    exact (argEnv_marks args 0 (by omega)).symm
  · intro e a w q
    cases e with
    | normal => exact q
    | ret => exact q
    | panic c => exact q
    | exit id => obtain ⟨k, hk, _⟩ := q; simp [Kt.look] at hk
    | goto l => exact q
    | outgrown => exact q.elim
/-- one deferred closure of a named function: what it does in this mode, and the results behind it -/
theorem leavesD {P : Program} {fn : Func} {tmps : Array Value} {R : Ending → World → Prop} {g : FuncId} {cap : Array Value} {u : FrameMode} {w : World} (hu : u ≠ .run) (hb : bodied P g = true)
    (h : CallsDIn Fence.wide 0 P g cap u w fun e u' w' => e = .returned (.tuple #[]) ∧ ∃ v, settle u' = .returning ∧ (results fn tmps).run P w' = .ok v w' ∧ R (.returned v) w') :
    LeavesInM Fence.wide 0 P fn tmps R [{ target := .fn (.func g) cap, args := #[] }] u w := by
  refine ⟨hu, .inr ⟨fun h => by simp [Fence.wide] at h, .func g, cap, g, cap, rfl, ?_, fun _ _ => trivial, ?_⟩⟩
  · simp [invoke, run_callFunc hb]
  · obtain ⟨h1, h2⟩ := h
    refine ⟨h1, fun c cs hc hr => ?_⟩
    obtain ⟨e, u', w', fr, ⟨rfl, v, k1, k2, k3⟩, k4⟩ := h2 c cs hc hr
    refine ⟨_, u', w', fr, ?_, k4⟩
    show LeavesInM Fence.wide 0 P fn tmps R [] (settle u') w'
    rw [k1]
    exact ⟨v, k2, k3⟩
theorem run_resG {P : Program} {fn : Func} {a : Act} {w : World} {n : Nat} {E : Env} (hE : Rep a n E) {rs : List ResultVar} {vs : List Value} (hr : fn.results = rs.toArray) (h : rget P w E rs vs) : (results fn a.tmps).run P w = .ok (rval vs) w := by
  have h1 := run_results hE h
  unfold results
  rw [hr, List.mapM_toArray]
  simp only [Sem.run_bind, Sem.run_map]
  have h2 := congrArg (fun r : Result (List Value) => (r.andThen fun a w' => Result.ok a.toArray w').andThen fun a w' => Sem.run P (pure (if h : a.size = 1 then a[0] else Value.tuple a)) w') h1
  refine Eq.trans h2 ?_
  simp only [Result.andThen_ok, Sem.run_pure]
  congr 1
  match vs with
  | [] => rfl
  | [x] => rfl
  | x :: y :: l => simp [rval]
/-- the end of a function that has deferred one closure -/
theorem leavesG {P : Program} {fn : Func} {R : Ending → World → Prop} {a : Act} {n : Nat} {E : Env} (hE : Rep a n E) {g : FuncId} {cap : Array Value} {u : FrameMode} {w : World} {rs : List ResultVar} {vs : List Value} (hm : E.marks = [{ target := .fn (.func g) cap, args := #[] }])
    (hu : u ≠ .run) (hb : bodied P g = true) (hr : fn.results = rs.toArray)
    (h : CallsDIn Fence.wide 0 P g cap u w fun e u' w' => e = .returned (.tuple #[]) ∧ settle u' = .returning ∧ rget P w' E rs vs ∧ R (.returned (rval vs)) w') :
    LeavesInM Fence.wide 0 P fn a.tmps R a.defers u w := by
  rw [hE.defers, hm]
  refine leavesD hu hb ?_
  obtain ⟨h1, h2⟩ := h
  refine ⟨h1, fun c cs hc hr2 => ?_⟩
  obtain ⟨e, u', w', fr, ⟨rfl, k1, k2, k3⟩, k4⟩ := h2 c cs hc hr2
  exact ⟨_, u', w', fr, ⟨rfl, _, k1, run_resG hE hr k2, k3⟩, k4⟩
theorem callsD_mono {P : Program} {g : FuncId} {cap : Array Value} {u : FrameMode} {w : World} {R R' : Ending → FrameMode → World → Prop} (h : CallsDIn Fence.wide 0 P g cap u w R) (q : ∀ e u' w', R e u' w' → R' e u' w') : CallsDIn Fence.wide 0 P g cap u w R' := by
  obtain ⟨h1, h2⟩ := h
  refine ⟨h1, fun c cs hc hr2 => ?_⟩
  obtain ⟨e, u', w', fr, k, k4⟩ := h2 c cs hc hr2
  exact ⟨e, u', w', fr, q _ _ _ k, k4⟩
section
variable {P : Program} {K : Kt} {a : Act} {w : World} {n : Nat} {E : Env} {ops : Array Oper} {rest : List Oper} {d : Option Tmp} {ty : TypeId} {pos : String} {aft : Array Edge} {g : Option (Nat × Bool)}
/-- a call that may end in a panic -/
theorem WL.fnP (hE : Rep a n E) {f : FuncId} {xs : List Operand} {vs : List Value} {args : Array Value} {ts : Array TypeId} {R : Ending → World → Prop} (hc : Calls P f args w R)
    (hg : Region.wanted ⟨d, .call ⟨.value (.func f), xs.toArray, ts⟩, ty, pos, aft, g⟩ (yielded ops a.tmps) = true) (hb : bodied P f = true) (hx : evs E.ev xs = some vs) (ha : vs.toArray = args) (hd : dstOk d n = true)
    (q : ∀ e w, R e w → (∃ v, e = .returned v ∧ ∀ a, Rep a n (E.put d v) → WL P ops K rest a w) ∨ ∃ ch, e = .panicked ch ∧ ∀ a, Rep a n E → K.pan ch a w) :
    WL P ops K (⟨d, .call ⟨.value (.func f), xs.toArray, ts⟩, ty, pos, aft, g⟩ :: rest) a w := by
  subst ha
  show wpList P ops K.q (_ :: rest) a w
  rw [wpList, if_pos hg]
  refine .inl ?_
  have hr : (execOp a.eval ⟨d, .call ⟨.value (.func f), xs.toArray, ts⟩, ty, pos, aft, g⟩).run P w = .ok (.enter f vs.toArray) w := by
    have := evs_map (ρ := a.eval) (fun x v h => hE.ev h) hx
    simp only [execOp, resolve, Sem.run_bind, Act.eval, Deferred.ofValue, Sem.run_pure, Result.andThen_ok, invoke]
    simp [this, run_callFunc hb]
  rw [Oper.wp, hr, Oper.upon_enter]
  refine hc.mono ?_
  intro e w'' hR
  rcases q e w'' hR with ⟨v, rfl, h⟩ | ⟨ch, rfl, h⟩
  · exact h _ (hE.puts hd v)
  · exact h _ hE
/-- a panic with a value of an interface -/
theorem WL.panic (hE : Rep a n E) {x : Operand} {t : TypeId} {v : Value} (hx : E.ev x = some (.iface t v)) (hg : Region.wanted ⟨d, .panic x, ty, pos, aft, g⟩ (yielded ops a.tmps) = true)
    (q : ∀ a, Rep a n E → K.pan [{ v := .iface t v, recovered := false }] a w) : WL P ops K (⟨d, .panic x, ty, pos, aft, g⟩ :: rest) a w := by
  show wpList P ops K.q (_ :: rest) a w
  rw [wpList, if_pos hg]
  refine .inl ?_
  have hr : (execOp a.eval ⟨d, .panic x, ty, pos, aft, g⟩).run P w = .halt (.panic (.iface t v)) w := by
    simp [execOp, hE.ev hx, Instr.panic]
  rw [Oper.wp, hr, Oper.upon_panic]
  exact q _ hE
end
end Go.Fp
