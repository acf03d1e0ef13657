/- Loops over a function that has memory of the call's own. No condition. -/
import Derived.Test.YtfdifpegldailaaGreatDoorFpRf
import Derived.Test.YtfdifpegldailaaGreatDoorFpErr
import Derived.Lib.SplitLaws
import Derived.Lib.IndexMore
namespace Go.Fp
open Go
def IterO {α : Type} (P : Program) (gf : FuncId) (lb : List Value) (enc : α → List Value) (s : Sg) (l : List α) (B : List HP) : Prop :=
  ∀ (y : Nat) (I : List α → Sg → List HP → Prop) (X : Sg → List HP → Prop),
    (∀ pre t Q, I pre t Q → s.Le t) →
    (∀ pre x t Q F w, pre ++ [x] <+: l → I pre t Q → St w t (F ++ Q) → YieldAt Fence.wide 0 P y (enc x).toArray w fun e w' =>
      (e = .returned (.bool true) ∧ ∃ t' Q', I (pre ++ [x]) t' Q' ∧ St w' t' (F ++ Q')) ∨ (e = .returned (.bool false) ∧ ∃ t' Q', X t' Q' ∧ St w' t' (F ++ Q'))) →
    ∀ w t Q, I [] t Q → St w t (B ++ Q) → Calls P gf (.func (.yield y) #[] #[] :: lb).toArray w fun e w' => (∃ v, e = .returned v) ∧ ((∃ t' Q', I l t' Q' ∧ St w' t' Q') ∨ ∃ t' Q', X t' Q' ∧ St w' t' Q')
def spl (sep z : ByteArray) : List ByteArray := Lib.splitB sep 0 (Lib.countB z sep) z
theorem spl_miss {sep z : ByteArray} (h : Lib.index z.data.toList sep.data.toList < 0) : spl sep z = [z] := by
  have h2 : Lib.indexB z sep = -1 := by
    rcases Lib.index_spec z.data.toList sep.data.toList with ⟨k, _⟩ | ⟨i, k, _⟩
    · exact k
    · rw [k] at h; omega
  exact Lib.splitB_miss sep 0 _ z h2
theorem spl_hit {sep z : ByteArray} (h1 : 1 ≤ sep.size) {i : Nat} (h : Lib.index z.data.toList sep.data.toList = i) : spl sep z = z.extract 0 i :: spl sep (z.extract (i + sep.size) z.size) ∧ i + sep.size ≤ z.size := by
  have h2 : Lib.indexB z sep = i := h
  have h3 := Lib.index_room z.data.toList sep.data.toList (by rw [h]; omega)
  have e1 : z.data.toList.length = z.size := by rw [Array.length_toList]; rfl
  have e2 : sep.data.toList.length = sep.size := by rw [Array.length_toList]; rfl
  rw [h, e1, e2] at h3
  refine ⟨?_, by omega⟩
  unfold spl
  rw [Lib.countB_hit z sep i h1 h2]
  rw [Nat.add_comm]
  exact Lib.splitB_hit sep 0 _ z i h2
section
variable {α : Type} {P : Program} {K : Kt} {a : Act} {w : World} {s : Sg} {R : List HP} {n : Nat} {E : Env}
theorem W.rangeFuncO {β : Type} {g : Operand} {ps : List Tmp} {assign body : Code} {gf : FuncId} {lb : List Value} {enc : α → List Value} {l : List α} (exs : List Nat) (B : List HP)
    (hrd : K.rd = none) (hE : Rep a n E) (hm : E.marks = []) (hS : St w s (B ++ R)) (hg : E.ev g = some (.func (.func gf) #[] lb.toArray)) (hit : IterO P gf lb enc s l B) (hb : bodied P gf = true)
    (hps : ∀ x, ps.length = (enc x).length) (hpn : ps.all (fun p => Nat.blt p n) = true)
    (I : List α → Sg → List HP → Prop) (X : Code → Sg → List HP → Prop) (hI : ∀ pre t Q, I pre t Q → s.Le t) (h0 : I [] s R) (Ex : α → β → Env) (Ax : α → β → List HP)
    (hassign : ∀ x a w t Q L, Rep a n ((ps.zip (enc x)).foldl (fun E pv => (pv.1, pv.2) :: E) E) → St w t Q → W P assign (rfK L (fun a w => ∃ v, Rep a n (Ex x v) ∧ St w t (Ax x v ++ Q)) (fun _ _ => False) []) a w)
    (hbody : ∀ pre x v t Q T L a w, pre ++ [x] <+: l → I pre t Q → Rep a n (Ex x v) → St w t (Ax x v ++ (Q ++ T)) →
      W P body (rfK L (fun _ w => ∃ t' Q', I (pre ++ [x]) t' Q' ∧ St w t' (Q' ++ T)) (fun c w => ∃ t' Q', X c t' Q' ∧ St w t' (Q' ++ T)) exs) a w)
    (hdone : ∀ t Q D a w, I l t Q → Rep a n ((SP, .int .i64 (D : Nat)) :: E) → St w t (pt D (.deferred (some [])) :: Q) → K.nor a w)
    (hstop : ∀ c t Q D a w, (c = .ret ∨ ∃ id ∈ exs, c = .exit id) → X c t Q → Rep a n ((SP, .int .i64 (D : Nat)) :: E) → St w t (pt D (.deferred (some [])) :: Q) → W P c K a w) :
    W P (.rangeFunc g ps.toArray assign body) K a w := by
  have hF : K.F = Fence.wide := by unfold Kt.F; rw [hrd]; rfl
  show (Code.rangeFunc g ps.toArray assign body).wpIn K.F 0 P K.q a w
  rw [hF]
  refine wpIn_rangeFunc ?_
  intro fn _
  obtain ⟨rec, hrec⟩ : ∃ rec : LoopState → Option Code → Loop, rec = fun st pe => { state := st, pending := pe, fn, tmps := a.tmps, params := ps.toArray, assign, body, defers := w.heap.size } := ⟨_, rfl⟩
  obtain ⟨W1, hW1⟩ : ∃ W1, (w.alloc (.deferred (some []))).alloc (.loop (rec .ready none)) = W1 := ⟨_, rfl⟩
  obtain ⟨L, hL⟩ : ∃ L, L = w.heap.size + 1 := ⟨_, rfl⟩
  obtain ⟨D, hD⟩ : ∃ D, D = w.heap.size := ⟨_, rfl⟩
  have hS1 : St W1 s (pt L (.loop (rec .ready none)) :: pt D (.deferred (some [])) :: (B ++ R)) := by
    have h1 := (hS.alloc (.deferred (some []))).alloc (.loop (rec .ready none))
    rw [World.size_alloc, hW1] at h1
    rw [hL, hD]; exact h1
  have hact : ({ a with defers := [{ target := .collected D, args := #[] }] ++ a.defers } : Act) = { a with defers := [{ target := .collected D, args := #[] }] } := by
    rw [hE.defers, hm]; rfl
  have hEm : Rep { a with defers := [{ target := .collected D, args := #[] }] } n ((SP, .int .i64 (D : Nat)) :: E) := by
    refine ⟨fun t v h => hE.get t v ?_, hE.size, ?_, hE.lim⟩
    · simp only [Env.get] at h
      have : (!(Nat.beq SP SP)) = false := by decide
      rw [this, Bool.and_false] at h
      simpa using h
    · show _ = (if Nat.beq SP SP then markOf _ else []) ++ E.marks
      rw [hm]
      have : Nat.beq SP SP = true := by decide
      rw [this]
      simp [markOf]
  refine ⟨L, [{ target := .collected D, args := #[] }], W1, { target := .fn (.func gf) lb.toArray, args := #[.func (.yield L) #[] #[]] }, W1, gf, #[.func (.yield L) #[] #[]] ++ lb.toArray, W1, ?_, ?_, ?_, ?_, fun h => (by simp [Fence.wide] at h), ?_⟩
  · rw [hL, hD, ← hW1, hrec]; exact run_enterLoop_outer _ _ _ _ _
  · simp only [resolve, hE.ev hg]
    simp [go_sem]
  · intro f' _; trivial
  · simp only [invoke]
    exact run_callFunc hb
  · rw [hact]
    have hargs : (#[.func (.yield L) #[] #[]] ++ lb.toArray : Array Value) = (Value.func (.yield L) #[] #[] :: lb).toArray := by simp
    rw [hargs]
    refine (callsIn_wide (n := 0 - 1)).2 ?_
    have toF : ∀ {W : World} {u : Sg} {A B : HP} {F Q : List HP}, St W u (F ++ A :: B :: Q) → St W u (A :: B :: (Q ++ F)) := fun {W u A B F Q} h => h.perm (List.perm_append_comm (l₁ := F) (l₂ := A :: B :: Q))
    have ofF : ∀ {W : World} {u : Sg} {A B : HP} {F Q : List HP}, St W u (A :: B :: (Q ++ F)) → St W u (F ++ A :: B :: Q) := fun {W u A B F Q} h => h.perm (List.perm_append_comm (l₁ := A :: B :: Q) (l₂ := F))
    have ofT : ∀ {W : World} {u : Sg} {A B : HP} {F Q : List HP}, St W u (Q ++ A :: B :: F) → St W u (A :: B :: (Q ++ F)) := fun {W u A B F Q} h => h.perm (by
      have h2 : (Q ++ [A, B] ++ F).Perm ([A, B] ++ Q ++ F) := (List.perm_append_comm (l₁ := Q) (l₂ := [A, B])).append_right F
      simpa using h2)
    refine (hit L (fun pre t Q0 => ∃ Q, I pre t Q ∧ Q0 = pt L (.loop (rec .ready none)) :: pt D (.deferred (some [])) :: Q)
      (fun t Q0 => ∃ c Q, (c = Code.ret ∨ ∃ id ∈ exs, c = Code.exit id) ∧ X c t Q ∧ Q0 = pt L (.loop (rec .done (some c))) :: pt D (.deferred (some [])) :: Q) ?_ ?_ W1 s _ ⟨R, h0, rfl⟩ (hS1.perm (by
      have h2 : ([pt L (.loop (rec .ready none)), pt D (.deferred (some []))] ++ B ++ R).Perm (B ++ [pt L (.loop (rec .ready none)), pt D (.deferred (some []))] ++ R) := (List.perm_append_comm (l₁ := [pt L (.loop (rec .ready none)), pt D (.deferred (some []))]) (l₂ := B)).append_right R
      simpa using h2))).mono ?_
    · rintro pre t Q0 ⟨Q, h1, _⟩; exact hI _ _ _ h1
    · rintro pre x t Q0 F W hpre ⟨Q, h1, rfl⟩ h2
      have h2 := toF h2
      have hl := h2.at
      have hpar : (rec .ready none).params = ps.toArray := by rw [hrec]
      have htm : (rec .ready none).tmps = a.tmps := by rw [hrec]
      have has : (rec .ready none).assign = assign := by rw [hrec]
      have hbo : (rec .ready none).body = body := by rw [hrec]
      have hy := run_yield (P := P) (args := (enc x).toArray) hl (by rw [hpar]; simp [hps x])
      rw [hpar, htm, has, hbo] at hy
      refine ⟨_, _, _, _, hy, ?_⟩
      refine roundIn_of_wpIn trivial ?_
      have hz : ((ps.toArray.zip (enc x).toArray).foldl (fun (tmps : Array Value) (pv : Tmp × Value) => tmps.setIfInBounds pv.1 pv.2) a.tmps) = (ps.zip (enc x)).foldl (fun t pv => t.setIfInBounds pv.1 pv.2) a.tmps := by simp
      have hR0 : Rep { a with tmps := (ps.zip (enc x)).foldl (fun t pv => t.setIfInBounds pv.1 pv.2) a.tmps } n ((ps.zip (enc x)).foldl (fun E pv => (pv.1, pv.2) :: E) E) := foldl_zip_put ps (enc x) hE (hps x) hpn
      have ha0 : ({ tmps := (ps.toArray.zip (enc x).toArray).foldl (fun (tmps : Array Value) (pv : Tmp × Value) => tmps.setIfInBounds pv.1 pv.2) a.tmps, defers := [] } : Act) = { a with tmps := (ps.zip (enc x)).foldl (fun t pv => t.setIfInBounds pv.1 pv.2) a.tmps } := by
        rw [hz]
        have := hE.defers
        rw [hm] at this
        cases a
        simp at this
        subst this
        rfl
      rw [ha0]
      have hA := hassign x _ W t _ L hR0 h2
      refine wpIn_mono hA ?_
      intro e a1 w1 q
      cases e with
      | normal =>
        obtain ⟨v, q1, q2⟩ := q
        have q2 := q2.perm (List.perm_append_comm (l₁ := Ax x v) (l₂ := pt L (.loop (rec .ready none)) :: pt D (.deferred (some [])) :: (Q ++ F)))
        have hl1 := St.at q2
        refine ⟨_, run_beginRound hl1 (by rw [hrec]), ?_⟩
        obtain ⟨rb, hrb⟩ : ∃ rb, rb = ({ rec .ready none with state := .busy } : Loop) := ⟨_, rfl⟩
        rw [← hrb]
        have q2' := (St.putO (.loop rb) q2).perm (List.perm_append_comm (l₁ := pt L (.loop rb) :: pt D (.deferred (some [])) :: (Q ++ F)) (l₂ := Ax x v))
        have q3 : St (w1.putObj L (.loop rb)) t (Ax x v ++ (Q ++ pt L (.loop rb) :: pt D (.deferred (some [])) :: F)) := q2'.perm (List.Perm.append_left _ (by
          have h1 : (pt L (.loop rb) :: pt D (.deferred (some [])) :: (Q ++ F)).Perm ([pt L (.loop rb), pt D (.deferred (some []))] ++ Q ++ F) := by simp
          have h2 := (List.perm_append_comm (l₁ := [pt L (.loop rb), pt D (.deferred (some []))]) (l₂ := Q)).append_right F
          simpa using h1.trans h2))
        refine wpIn_mono (hbody pre x v t Q _ L a1 _ hpre h1 q1 q3) ?_
        have hjump : ∀ (c : Code) (t' : Sg) (Q' : List HP) (W : World), (c = .ret ∨ ∃ id ∈ exs, c = .exit id) → X c t' Q' → St W t' (Q' ++ pt L (.loop rb) :: pt D (.deferred (some [])) :: F) →
            ∃ v w', (Instr.endRound L (some c)).run P W = .ok v w' ∧ ((Ending.returned v = .returned (.bool true) ∧ ∃ t' Q', (∃ Q, I (pre ++ [x]) t' Q ∧ Q' = pt L (.loop (rec .ready none)) :: pt D (.deferred (some [])) :: Q) ∧ St w' t' (F ++ Q')) ∨
              (Ending.returned v = .returned (.bool false) ∧ ∃ t' Q', (∃ c Q, (c = Code.ret ∨ ∃ id ∈ exs, c = Code.exit id) ∧ X c t' Q ∧ Q' = pt L (.loop (rec .done (some c))) :: pt D (.deferred (some [])) :: Q) ∧ St w' t' (F ++ Q'))) := by
          intro c t' Q' W hc hX hW
          have h5 := ofT hW
          refine ⟨_, _, run_endRound (some c) h5.at, .inr ⟨rfl, t', _, ⟨c, Q', hc, hX, rfl⟩, ?_⟩⟩
          have h6 := h5.putO (.loop { rb with state := .done, pending := some c })
          have e : ({ rb with state := .done, pending := some c } : Loop) = rec .done (some c) := by rw [hrb, hrec]
          rw [e] at h6
          have e2 : ({ rb with state := (if (some c).isNone = true then LoopState.ready else LoopState.done), pending := some c } : Loop) = rec .done (some c) := e
          rw [e2]; exact ofF h6
        intro e a2 w2 q
        cases e with
        | normal =>
          obtain ⟨t', Q', hI', hW⟩ := q
          have h5 := ofT hW
          refine ⟨_, _, run_endRound none h5.at, .inl ⟨rfl, t', _, ⟨Q', hI', rfl⟩, ?_⟩⟩
          have h6 := h5.putO (.loop { rb with state := .ready, pending := none })
          have e : ({ rb with state := .ready, pending := none } : Loop) = rec .ready none := by rw [hrb, hrec]
          rw [e] at h6
          have e2 : ({ rb with state := (if (none : Option Code).isNone = true then LoopState.ready else LoopState.done), pending := none } : Loop) = rec .ready none := e
          rw [e2]; exact ofF h6
        | ret =>
          obtain ⟨t', Q', hX, hW⟩ := q
          exact hjump .ret t' Q' w2 (.inl rfl) hX hW
        | exit id =>
          obtain ⟨k, hk, q⟩ := q
          obtain ⟨h7, rfl⟩ := rfK_look hk
          obtain ⟨t', Q', hX, hW⟩ := q
          exact hjump (.exit id) t' Q' w2 (.inr ⟨id, h7, rfl⟩) hX hW
        | goto l => exact q.elim
        | panic c => exact q.elim
        | outgrown => exact q.elim
      | ret => exact q.elim
      | exit id => obtain ⟨k, hk, _⟩ := q; simp [Kt.look] at hk
      | goto l => exact q.elim
      | panic c => exact q.elim
      | outgrown => exact q.elim
    · rintro e W ⟨⟨v, rfl⟩, ⟨t, _, ⟨Q, h1, rfl⟩, h2⟩ | ⟨t, _, ⟨c, Q, hc, hX, rfl⟩, h2⟩⟩
      · have h3 := (h2.putO (.loop { rec .ready none with state := .exhausted })).tail
        have hh := run_endLoop (P := P) h2.at (by rw [hrec]; simp)
        have e : (rec .ready none).pending = none := by rw [hrec]
        obtain ⟨W', hW'⟩ : ∃ W', W' = W.putObj L (.loop { rec .ready none with state := .exhausted }) := ⟨_, rfl⟩
        rw [← hW'] at hh h3
        rw [e] at hh
        exact ⟨none, W', hh, hdone t Q D _ _ h1 hEm h3⟩
      · have h3 := (h2.putO (.loop { rec .done (some c) with state := .exhausted })).tail
        have hh := run_endLoop (P := P) h2.at (by rw [hrec]; simp)
        have e : (rec .done (some c)).pending = some c := by rw [hrec]
        obtain ⟨W', hW'⟩ : ∃ W', W' = W.putObj L (.loop { rec .done (some c) with state := .exhausted }) := ⟨_, rfl⟩
        rw [← hW'] at hh h3
        rw [e] at hh
        have h4 : c.wpIn K.F 0 P K.q _ _ := hstop c t Q D _ _ hc hX hEm h3
        rw [hF] at h4
        exact ⟨some c, W', hh, h4⟩
end
end Go.Fp
