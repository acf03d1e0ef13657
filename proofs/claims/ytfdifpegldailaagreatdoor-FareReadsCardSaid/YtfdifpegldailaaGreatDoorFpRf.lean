/- Loops over a function ('for x := range seq'): the iterator's contract; the statement. No condition. -/
import Derived.Test.YtfdifpegldailaaGreatDoorFpMore
import Derived.RangeFuncSeq
namespace Go.Fp
open Go
section
variable {w : World} {s : Sg} {R : List HP}
theorem St.putO {b : Nat} {o : Obj} (o' : Obj) (q : St w s (pt b o :: R)) : St (w.putObj b o') s (pt b o' :: R) := by
  have h1 := q.at
  have h2 := (Array.getElem?_eq_some_iff.1 h1).1
  exact q.put (World.putObj_heap_same h2) (fun k h => World.putObj_heap_other h) rfl rfl
end
def Iter {α : Type} (P : Program) (gf : FuncId) (lb : List Value) (enc : α → List Value) (s : Sg) (l : List α) : Prop :=
  ∀ (y : Nat) (I : List α → Sg → List HP → Prop) (X : Sg → List HP → Prop),
    (∀ pre t Q, I pre t Q → s.Le t) →
    (∀ pre x t Q F w, pre ++ [x] <+: l → I pre t Q → St w t (F ++ Q) → YieldAt Fence.wide 0 P y (enc x).toArray w fun e w' =>
      (e = .returned (.bool true) ∧ ∃ t' Q', I (pre ++ [x]) t' Q' ∧ St w' t' (F ++ Q')) ∨ (e = .returned (.bool false) ∧ ∃ t' Q', X t' Q' ∧ St w' t' (F ++ Q'))) →
    ∀ w t Q, I [] t Q → St w t Q → Calls P gf (.func (.yield y) #[] #[] :: lb).toArray w fun e w' => (∃ v, e = .returned v) ∧ ((∃ t' Q', I l t' Q' ∧ St w' t' Q') ∨ ∃ t' Q', X t' Q' ∧ St w' t' Q')
theorem Iter.mono {α : Type} {P : Program} {gf : FuncId} {lb : List Value} {enc : α → List Value} {s t : Sg} {l : List α} (h : s.Le t) (q : Iter P gf lb enc s l) : Iter P gf lb enc t l :=
  fun y I X h1 h2 => q y I X (fun pre u Q k => h.trans (h1 pre u Q k)) h2
abbrev rfK (L : Nat) (nor : Act → World → Prop) (X : Code → World → Prop) (exs : List Nat) : Kt :=
  { nor := nor, ret := fun _ w => X .ret w, ex := exs.map fun id => (id, fun _ w => X (.exit id) w), pan := fun _ _ _ => False, rd := some L }
theorem rfK_look {L : Nat} {nor : Act → World → Prop} {X : Code → World → Prop} : ∀ {exs : List Nat} {id : Nat} {k : Act → World → Prop}, Kt.look (rfK L nor X exs).ex id = some k → id ∈ exs ∧ k = fun _ w => X (.exit id) w
  | [], id, k, h => by simp [Kt.look] at h
  | e :: exs, id, k, h => by
    simp only [List.map_cons, Kt.look] at h
    split at h
    · rename_i he
      have := Nat.eq_of_beq_eq_true he
      subst this
      simp at h
      exact ⟨by simp, h.symm⟩
    · have := rfK_look (L := L) (nor := nor) (X := X) (exs := exs) (id := id) (k := k) h
      exact ⟨by simp [this.1], this.2⟩
theorem foldl_zip_put {n : Nat} : ∀ (ps : List Tmp) (vs : List Value) {a : Act} {E : Env}, Rep a n E → ps.length = vs.length → ps.all (fun p => Nat.blt p n) = true →
    Rep { a with tmps := (ps.zip vs).foldl (fun t pv => t.setIfInBounds pv.1 pv.2) a.tmps } n ((ps.zip vs).foldl (fun E pv => (pv.1, pv.2) :: E) E)
  | [], vs, a, E, h, _, _ => by simpa using h
  | p :: ps, [], a, E, h, hl, _ => by simp at hl
  | p :: ps, v :: vs, a, E, h, hl, hb => by
    simp only [List.all_cons, Bool.and_eq_true] at hb
    have h1 := h.put (d := p) hb.1 v
    have := foldl_zip_put ps vs h1 (by simpa using hl) hb.2
    simpa [Act.put] using this
section
variable {α : Type} {P : Program} {K : Kt} {a : Act} {w : World} {s : Sg} {R : List HP} {n : Nat} {E : Env}
theorem W.rangeFunc {β : Type} {g : Operand} {ps : List Tmp} {assign body : Code} {gf : FuncId} {lb : List Value} {enc : α → List Value} {l : List α} (exs : List Nat)
    (hrd : K.rd = none) (hE : Rep a n E) (hm : E.marks = []) (hS : St w s R) (hg : E.ev g = some (.func (.func gf) #[] lb.toArray)) (hit : Iter P gf lb enc s l) (hb : bodied P gf = true)
    (hps : ∀ x, ps.length = (enc x).length) (hpn : ps.all (fun p => Nat.blt p n) = true)
    (I : List α → Sg → List HP → Prop) (X : Code → Sg → List HP → Prop) (hI : ∀ pre t Q, I pre t Q → s.Le t) (h0 : I [] s R) (Ex : α → β → Env) (Ax : α → β → List HP)
    (hassign : ∀ x a w t Q L, Rep a n ((ps.zip (enc x)).foldl (fun E pv => (pv.1, pv.2) :: E) E) → St w t Q → W P assign (rfK L (fun a w => ∃ v, Rep a n (Ex x v) ∧ St w t (Ax x v ++ Q)) (fun _ _ => False) []) a w)
    (hbody : ∀ pre x v t Q T L a w, pre ++ [x] <+: l → I pre t Q → Rep a n (Ex x v) → St w t (Ax x v ++ (Q ++ T)) →
      W P body (rfK L (fun _ w => ∃ t' Q', I (pre ++ [x]) t' Q' ∧ St w t' (Q' ++ T)) (fun c w => ∃ t' Q', X c t' Q' ∧ St w t' (Q' ++ T)) exs) a w)
    (hdone : ∀ t Q D a w, I l t Q → Rep a n ((SP, .int .i64 (D : Nat)) :: E) → St w t (pt D (.deferred (some [])) :: Q) → K.nor a w)
    (hstop : ∀ c t Q D a w, (c = .ret ∨ ∃ id ∈ exs, c = .exit id) → X c t Q → Rep a n ((SP, .int .i64 (D : Nat)) :: E) → St w t (pt D (.deferred (some [])) :: Q) → W P c K a w) :
    W P (.rangeFunc g ps.toArray assign body) K a w := by
  have hF : K.F = Fence.wide := by unfold Kt.F; rw [hrd]; rfl
  show (Code.rangeFunc g ps.toArray assign body).wpIn K.F 0 P K.q a w
  rw [hF]
  refine wpIn_rangeFunc ?_
  intro fn _
  obtain ⟨rec, hrec⟩ : ∃ rec : LoopState → Option Code → Loop, rec = fun st pe => { state := st, pending := pe, fn, tmps := a.tmps, params := ps.toArray, assign, body, defers := w.heap.size } := ⟨_, rfl⟩
  obtain ⟨W1, hW1⟩ : ∃ W1, (w.alloc (.deferred (some []))).alloc (.loop (rec .ready none)) = W1 := ⟨_, rfl⟩
  obtain ⟨L, hL⟩ : ∃ L, L = w.heap.size + 1 := ⟨_, rfl⟩
  obtain ⟨D, hD⟩ : ∃ D, D = w.heap.size := ⟨_, rfl⟩
  have hS1 : St W1 s (pt L (.loop (rec .ready none)) :: pt D (.deferred (some [])) :: R) := by
    have h1 := (hS.alloc (.deferred (some []))).alloc (.loop (rec .ready none))
    rw [World.size_alloc, hW1] at h1
    rw [hL, hD]; exact h1
  have hact : ({ a with defers := [{ target := .collected D, args := #[] }] ++ a.defers } : Act) = { a with defers := [{ target := .collected D, args := #[] }] } := by
    rw [hE.defers, hm]; rfl
  have hEm : Rep { a with defers := [{ target := .collected D, args := #[] }] } n ((SP, .int .i64 (D : Nat)) :: E) := by
    refine ⟨fun t v h => hE.get t v ?_, hE.size, ?_, hE.lim⟩
    · simp only [Env.get] at h
      have : (!(Nat.beq SP SP)) = false := by decide
      rw [this, Bool.and_false] at h
      simpa using h
    · show _ = (if Nat.beq SP SP then markOf _ else []) ++ E.marks
      rw [hm]
      have : Nat.beq SP SP = true := by decide
      rw [this]
      simp [markOf]
  refine ⟨L, [{ target := .collected D, args := #[] }], W1, { target := .fn (.func gf) lb.toArray, args := #[.func (.yield L) #[] #[]] }, W1, gf, #[.func (.yield L) #[] #[]] ++ lb.toArray, W1, ?_, ?_, ?_, ?_, fun h => (by simp [Fence.wide] at h), ?_⟩
  · rw [hL, hD, ← hW1, hrec]; exact run_enterLoop_outer _ _ _ _ _
  · simp only [resolve, hE.ev hg]
    simp [go_sem]
  · intro f' _; trivial
  · simp only [invoke]
    exact run_callFunc hb
  · rw [hact]
    have hargs : (#[.func (.yield L) #[] #[]] ++ lb.toArray : Array Value) = (Value.func (.yield L) #[] #[] :: lb).toArray := by simp
    rw [hargs]
    refine (callsIn_wide (n := 0 - 1)).2 ?_
    have toF : ∀ {W : World} {u : Sg} {A B : HP} {F Q : List HP}, St W u (F ++ A :: B :: Q) → St W u (A :: B :: (Q ++ F)) := fun {W u A B F Q} h => h.perm (List.perm_append_comm (l₁ := F) (l₂ := A :: B :: Q))
    have ofF : ∀ {W : World} {u : Sg} {A B : HP} {F Q : List HP}, St W u (A :: B :: (Q ++ F)) → St W u (F ++ A :: B :: Q) := fun {W u A B F Q} h => h.perm (List.perm_append_comm (l₁ := A :: B :: Q) (l₂ := F))
    have ofT : ∀ {W : World} {u : Sg} {A B : HP} {F Q : List HP}, St W u (Q ++ A :: B :: F) → St W u (A :: B :: (Q ++ F)) := fun {W u A B F Q} h => h.perm (by
      have h2 : (Q ++ [A, B] ++ F).Perm ([A, B] ++ Q ++ F) := (List.perm_append_comm (l₁ := Q) (l₂ := [A, B])).append_right F
      simpa using h2)
    refine (hit L (fun pre t Q0 => ∃ Q, I pre t Q ∧ Q0 = pt L (.loop (rec .ready none)) :: pt D (.deferred (some [])) :: Q)
      (fun t Q0 => ∃ c Q, (c = Code.ret ∨ ∃ id ∈ exs, c = Code.exit id) ∧ X c t Q ∧ Q0 = pt L (.loop (rec .done (some c))) :: pt D (.deferred (some [])) :: Q) ?_ ?_ W1 s _ ⟨R, h0, rfl⟩ hS1).mono ?_
    · rintro pre t Q0 ⟨Q, h1, _⟩; exact hI _ _ _ h1
    · rintro pre x t Q0 F W hpre ⟨Q, h1, rfl⟩ h2
      have h2 := toF h2
      have hl := h2.at
      have hpar : (rec .ready none).params = ps.toArray := by rw [hrec]
      have htm : (rec .ready none).tmps = a.tmps := by rw [hrec]
      have has : (rec .ready none).assign = assign := by rw [hrec]
      have hbo : (rec .ready none).body = body := by rw [hrec]
      have hy := run_yield (P := P) (args := (enc x).toArray) hl (by rw [hpar]; simp [hps x])
      rw [hpar, htm, has, hbo] at hy
      refine ⟨_, _, _, _, hy, ?_⟩
      refine roundIn_of_wpIn trivial ?_
      have hz : ((ps.toArray.zip (enc x).toArray).foldl (fun (tmps : Array Value) (pv : Tmp × Value) => tmps.setIfInBounds pv.1 pv.2) a.tmps) = (ps.zip (enc x)).foldl (fun t pv => t.setIfInBounds pv.1 pv.2) a.tmps := by simp
      have hR0 : Rep { a with tmps := (ps.zip (enc x)).foldl (fun t pv => t.setIfInBounds pv.1 pv.2) a.tmps } n ((ps.zip (enc x)).foldl (fun E pv => (pv.1, pv.2) :: E) E) := foldl_zip_put ps (enc x) hE (hps x) hpn
      have ha0 : ({ tmps := (ps.toArray.zip (enc x).toArray).foldl (fun (tmps : Array Value) (pv : Tmp × Value) => tmps.setIfInBounds pv.1 pv.2) a.tmps, defers := [] } : Act) = { a with tmps := (ps.zip (enc x)).foldl (fun t pv => t.setIfInBounds pv.1 pv.2) a.tmps } := by
        rw [hz]
        have := hE.defers
        rw [hm] at this
        cases a
        simp at this
        subst this
        rfl
      rw [ha0]
      have hA := hassign x _ W t _ L hR0 h2
      refine wpIn_mono hA ?_
      intro e a1 w1 q
      cases e with
      | normal =>
        obtain ⟨v, q1, q2⟩ := q
        have q2 := q2.perm (List.perm_append_comm (l₁ := Ax x v) (l₂ := pt L (.loop (rec .ready none)) :: pt D (.deferred (some [])) :: (Q ++ F)))
        have hl1 := St.at q2
        refine ⟨_, run_beginRound hl1 (by rw [hrec]), ?_⟩
        obtain ⟨rb, hrb⟩ : ∃ rb, rb = ({ rec .ready none with state := .busy } : Loop) := ⟨_, rfl⟩
        rw [← hrb]
        have q2' := (St.putO (.loop rb) q2).perm (List.perm_append_comm (l₁ := pt L (.loop rb) :: pt D (.deferred (some [])) :: (Q ++ F)) (l₂ := Ax x v))
        have q3 : St (w1.putObj L (.loop rb)) t (Ax x v ++ (Q ++ pt L (.loop rb) :: pt D (.deferred (some [])) :: F)) := q2'.perm (List.Perm.append_left _ (by
          have h1 : (pt L (.loop rb) :: pt D (.deferred (some [])) :: (Q ++ F)).Perm ([pt L (.loop rb), pt D (.deferred (some []))] ++ Q ++ F) := by simp
          have h2 := (List.perm_append_comm (l₁ := [pt L (.loop rb), pt D (.deferred (some []))]) (l₂ := Q)).append_right F
          simpa using h1.trans h2))
        refine wpIn_mono (hbody pre x v t Q _ L a1 _ hpre h1 q1 q3) ?_
        have hjump : ∀ (c : Code) (t' : Sg) (Q' : List HP) (W : World), (c = .ret ∨ ∃ id ∈ exs, c = .exit id) → X c t' Q' → St W t' (Q' ++ pt L (.loop rb) :: pt D (.deferred (some [])) :: F) →
            ∃ v w', (Instr.endRound L (some c)).run P W = .ok v w' ∧ ((Ending.returned v = .returned (.bool true) ∧ ∃ t' Q', (∃ Q, I (pre ++ [x]) t' Q ∧ Q' = pt L (.loop (rec .ready none)) :: pt D (.deferred (some [])) :: Q) ∧ St w' t' (F ++ Q')) ∨
              (Ending.returned v = .returned (.bool false) ∧ ∃ t' Q', (∃ c Q, (c = Code.ret ∨ ∃ id ∈ exs, c = Code.exit id) ∧ X c t' Q ∧ Q' = pt L (.loop (rec .done (some c))) :: pt D (.deferred (some [])) :: Q) ∧ St w' t' (F ++ Q'))) := by
          intro c t' Q' W hc hX hW
          have h5 := ofT hW
          refine ⟨_, _, run_endRound (some c) h5.at, .inr ⟨rfl, t', _, ⟨c, Q', hc, hX, rfl⟩, ?_⟩⟩
          have h6 := h5.putO (.loop { rb with state := .done, pending := some c })
          have e : ({ rb with state := .done, pending := some c } : Loop) = rec .done (some c) := by rw [hrb, hrec]
          rw [e] at h6
          have e2 : ({ rb with state := (if (some c).isNone = true then LoopState.ready else LoopState.done), pending := some c } : Loop) = rec .done (some c) := e
          rw [e2]; exact ofF h6
        intro e a2 w2 q
        cases e with
        | normal =>
          obtain ⟨t', Q', hI', hW⟩ := q
          have h5 := ofT hW
          refine ⟨_, _, run_endRound none h5.at, .inl ⟨rfl, t', _, ⟨Q', hI', rfl⟩, ?_⟩⟩
          have h6 := h5.putO (.loop { rb with state := .ready, pending := none })
          have e : ({ rb with state := .ready, pending := none } : Loop) = rec .ready none := by rw [hrb, hrec]
          rw [e] at h6
          have e2 : ({ rb with state := (if (none : Option Code).isNone = true then LoopState.ready else LoopState.done), pending := none } : Loop) = rec .ready none := e
          rw [e2]; exact ofF h6
        | ret =>
          obtain ⟨t', Q', hX, hW⟩ := q
          exact hjump .ret t' Q' w2 (.inl rfl) hX hW
        | exit id =>
          obtain ⟨k, hk, q⟩ := q
          obtain ⟨h7, rfl⟩ := rfK_look hk
          obtain ⟨t', Q', hX, hW⟩ := q
          exact hjump (.exit id) t' Q' w2 (.inr ⟨id, h7, rfl⟩) hX hW
        | goto l => exact q.elim
        | panic c => exact q.elim
        | outgrown => exact q.elim
      | ret => exact q.elim
      | exit id => obtain ⟨k, hk, _⟩ := q; simp [Kt.look] at hk
      | goto l => exact q.elim
      | panic c => exact q.elim
      | outgrown => exact q.elim
    · rintro e W ⟨⟨v, rfl⟩, ⟨t, _, ⟨Q, h1, rfl⟩, h2⟩ | ⟨t, _, ⟨c, Q, hc, hX, rfl⟩, h2⟩⟩
      · have h3 := (h2.putO (.loop { rec .ready none with state := .exhausted })).tail
        have hh := run_endLoop (P := P) h2.at (by rw [hrec]; simp)
        have e : (rec .ready none).pending = none := by rw [hrec]
        obtain ⟨W', hW'⟩ : ∃ W', W' = W.putObj L (.loop { rec .ready none with state := .exhausted }) := ⟨_, rfl⟩
        rw [← hW'] at hh h3
        rw [e] at hh
        exact ⟨none, W', hh, hdone t Q D _ _ h1 hEm h3⟩
      · have h3 := (h2.putO (.loop { rec .done (some c) with state := .exhausted })).tail
        have hh := run_endLoop (P := P) h2.at (by rw [hrec]; simp)
        have e : (rec .done (some c)).pending = some c := by rw [hrec]
        obtain ⟨W', hW'⟩ : ∃ W', W' = W.putObj L (.loop { rec .done (some c) with state := .exhausted }) := ⟨_, rfl⟩
        rw [← hW'] at hh h3
        rw [e] at hh
        have h4 : c.wpIn K.F 0 P K.q _ _ := hstop c t Q D _ _ hc hX hEm h3
        rw [hF] at h4
        exact ⟨some c, W', hh, h4⟩
def WLY (P : Program) (ops : Array Oper) (K : Kt) (l : List Oper) (a : Act) (w : World) : Prop := wpListIn K.F 0 P ops K.q l a w
theorem W.regionY {id : Nat} {l : List Oper} (h : WLY P l.toArray K l a w) : W P (.region id l.toArray false) K a w := wpIn_region_lit h
theorem WLY.nil {ops : Array Oper} (h : K.nor a w) : WLY P ops K [] a w := h
theorem WLY.v {C : World → Prop} {ops : Array Oper} {o : Oper} {rest : List Oper} (hrd : K.rd = none) (hC : C w) (hE : Rep a n E) {v : Value} (hg : Region.wanted o (yielded ops a.tmps) = true) (h : Gives P C a o v) (hd : dstOk o.dst n = true)
    (k : ∀ a, Rep a n (E.put o.dst v) → WLY P ops K rest a w) : WLY P ops K (o :: rest) a w := by
  have hF : K.F = Fence.wide := by unfold Kt.F; rw [hrd]; rfl
  show wpListIn K.F 0 P ops K.q (o :: rest) a w
  rw [wpListIn, if_pos hg]
  refine ⟨fun _ _ => (by rw [hF]; trivial), ?_⟩
  have e : o.semAt K.F.round a.eval = execOp a.eval o := by rw [hF]; rfl
  rw [e, h w hC]
  exact k _ (hE.puts hd v)
theorem WLY.vS {ops : Array Oper} {o : Oper} {rest : List Oper} (hrd : K.rd = none) (hS : St w s R) (hE : Rep a n E) {v : Value} (hg : Region.wanted o (yielded ops a.tmps) = true) (h : Gives P (fun w => St w s R) a o v) (hd : dstOk o.dst n = true)
    (k : ∀ a, Rep a n (E.put o.dst v) → WLY P ops K rest a w) : WLY P ops K (o :: rest) a w := WLY.v (C := fun w => St w s R) hrd hS hE hg h hd k
theorem WLY.yield {ops : Array Oper} {rest : List Oper} {d : Option Tmp} {ty : TypeId} {pos : String} {aft : Array Edge} {g : Option (Nat × Bool)} {x : Operand} {y : Nat} {xs : List Operand} {vs : List Value} {ts : Array TypeId} {Rr : Ending → World → Prop}
    (hrd : K.rd = none) (hE : Rep a n E) (hx : E.ev x = some (.func (.yield y) #[] #[])) (hxs : evs E.ev xs = some vs) (hg : Region.wanted ⟨d, .call ⟨.value x, xs.toArray, ts⟩, ty, pos, aft, g⟩ (yielded ops a.tmps) = true) (hd : dstOk d n = true)
    (hY : YieldAt Fence.wide 0 P y vs.toArray w Rr) (q : ∀ e w, Rr e w → ∃ v, e = .returned v ∧ ∀ a, Rep a n (E.put d v) → WLY P ops K rest a w) :
    WLY P ops K (⟨d, .call ⟨.value x, xs.toArray, ts⟩, ty, pos, aft, g⟩ :: rest) a w := by
  have hF : K.F = Fence.wide := by unfold Kt.F; rw [hrd]; rfl
  obtain ⟨fn, tmps, assign, body, hy, hR⟩ := hY
  show wpListIn K.F 0 P ops K.q (_ :: rest) a w
  rw [wpListIn, if_pos hg]
  refine ⟨fun _ _ => (by rw [hF]; trivial), ?_⟩
  have e : Oper.semAt K.F.round a.eval ⟨d, .call ⟨.value x, xs.toArray, ts⟩, ty, pos, aft, g⟩ = execOp a.eval ⟨d, .call ⟨.value x, xs.toArray, ts⟩, ty, pos, aft, g⟩ := by rw [hF]; rfl
  rw [e]
  have h1 := evs_map (ρ := a.eval) (fun x v h => hE.ev h) hxs
  have : (execOp a.eval ⟨d, .call ⟨.value x, xs.toArray, ts⟩, ty, pos, aft, g⟩).run P w = .ok (.round y fn tmps assign body) w := by
    simp only [execOp, resolve, Sem.run_bind, hE.ev hx, Deferred.ofValue, Sem.run_pure, Result.andThen_ok, invoke]
    simp [h1, hy]
  rw [this]
  refine ⟨fun h => (by rw [hF] at h; simp [Fence.wide] at h), ?_⟩
  rw [hF]
  refine RoundIn.mono hR ?_
  intro e w' he
  obtain ⟨v, rfl, h⟩ := q e w' he
  have := h _ (hE.puts hd v)
  unfold WLY at this
  rw [hF] at this
  exact this
theorem pre_next {l pre rest : List α} {x : α} (h : l = pre ++ rest) (k : pre ++ [x] <+: l) : ∃ r, rest = x :: r := by
  obtain ⟨z, hz⟩ := k
  rw [h, List.append_assoc] at hz
  have := List.append_cancel_left hz
  exact ⟨z, by simpa using this.symm⟩
theorem pre_end {l rest : List α} (h : l = l ++ rest) : rest = [] := by
  have := congrArg List.length h
  rw [List.length_append] at this
  exact List.eq_nil_of_length_eq_zero (by omega)
theorem finGM {fn : Func} {Rr : Ending → World → Prop} (hE : Rep a n E) {D : Nat} (hS : St w s R) (i : Nat) (hi : R[i]? = some (pt D (.deferred (some [])))) {rs : List ResultVar} {vs : List Value} (hr : fn.results = rs.toArray)
    (h : ∀ w, St w s (R.eraseIdx i) → rget P w E rs vs ∧ Rr (.returned (rval vs)) w) (hm : E.marks = [{ target := .collected D, args := #[] }] := by rfl) : finK P fn Rr a w := by
  have h1 := hS.front i hi
  have h2 := (h1.putO (.deferred none)).tail
  obtain ⟨h3, h4⟩ := h _ h2
  refine ⟨[D], rval vs, w.putObj D (.deferred none), hE.defers.trans hm, ⟨h1.at, rfl⟩, ?_, h4⟩
  have e1 := run_results hE h3
  unfold results
  rw [hr, List.mapM_toArray]
  simp only [Sem.run_bind, Sem.run_map]
  have e2 := congrArg (fun r : Result (List Value) => (r.andThen fun a w' => Result.ok a.toArray w').andThen fun a w' => Sem.run P (pure (if h : a.size = 1 then a[0] else Value.tuple a)) w') e1
  refine Eq.trans e2 ?_
  simp only [Result.andThen_ok, Sem.run_pure]
  congr 1
  match vs with
  | [] => rfl
  | [x] => rfl
  | x :: y :: l => simp [rval]
end
end Go.Fp
