/- TopTicketed: whatever the input, the law returns true, and the input reads as it did. No condition. -/
import Derived.Test.YtngamgkmhgmmjaaGreatDoorRows
import Derived.Test.YtngamgkmhgmmjaaGreatDoorTie
import Derived.Test.YtngamgkmhgmmjaaGreatDoorCards
import Derived.Test.YtngamgkmhgmmjaaGreatDoorFpDoor
import Derived.Test.YtngamgkmhgmmjaaGreatDoorTopTicketedW
import Derived.Test.YtngamgkmhgmmjaaGreatDoorTopTicketedO
import Derived.Test.YtngamgkmhgmmjaaGreatDoorTopTicketedL
import Derived.Test.YtngamgkmhgmmjaaGreatDoorFpBulk
import Derived.ProofKit
import Derived.LaidMore
import Derived.OpenShut
import Derived.Stop.Joined
import Derived.SevenTiedAt
import Derived.Stop.LaidErr
import Derived.Shelf.Vars
import Derived.Lay
import Derived.JoinedCond
namespace Go.Proofs.YtngamgkmhgmmjaaGreatDoor
open Go.ChangeShapes Go.WideShapes Go.ChangeAt Go.RowKit Go.Fp

theorem trodAll_eight {H : Type} {enc : TypeId × Value → H} {P : Program} {w : World} {base : Nat} {spare : Nat → Bool} {held : Bool} {t0 t1 t2 t3 t4 t5 t6 t7 : TypeId} {args : Array Value} {ds : List (DataW H)} {ps : List MemPlace} (h : DataW.TrodAll enc P w base spare held [t0, t1, t2, t3, t4, t5, t6, t7] args.toList ds ps) :
    ∃ v0 v1 v2 v3 v4 v5 v6 v7 d0 d1 d2 d3 d4 d5 d6 d7 p0 p1 p2 p3 p4 p5 p6 p7, args = #[v0, v1, v2, v3, v4, v5, v6, v7] ∧ ds = [d0, d1, d2, d3, d4, d5, d6, d7] ∧ ps = p0 ++ p1 ++ p2 ++ p3 ++ p4 ++ p5 ++ p6 ++ p7 ∧ DataW.Trod enc P w base spare held t0 v0 d0 p0 ∧ DataW.Trod enc P w base spare held t1 v1 d1 p1 ∧ DataW.Trod enc P w base spare held t2 v2 d2 p2 ∧ DataW.Trod enc P w base spare held t3 v3 d3 p3 ∧ DataW.Trod enc P w base spare held t4 v4 d4 p4 ∧ DataW.Trod enc P w base spare held t5 v5 d5 p5 ∧ DataW.Trod enc P w base spare held t6 v6 d6 p6 ∧ DataW.Trod enc P w base spare held t7 v7 d7 p7 := by
  obtain ⟨v0, vs0, d0, ds0, p0, q0, hargs, rfl, rfl, h0, k0⟩ := trodAll_cons h
  obtain ⟨v1, vs1, d1, ds1, p1, q1, rfl, rfl, rfl, h1, k1⟩ := trodAll_cons k0
  obtain ⟨v2, vs2, d2, ds2, p2, q2, rfl, rfl, rfl, h2, k2⟩ := trodAll_cons k1
  obtain ⟨v3, vs3, d3, ds3, p3, q3, rfl, rfl, rfl, h3, k3⟩ := trodAll_cons k2
  obtain ⟨v4, vs4, d4, ds4, p4, q4, rfl, rfl, rfl, h4, k4⟩ := trodAll_cons k3
  obtain ⟨v5, vs5, d5, ds5, p5, q5, rfl, rfl, rfl, h5, k5⟩ := trodAll_cons k4
  obtain ⟨v6, vs6, d6, ds6, p6, q6, rfl, rfl, rfl, h6, k6⟩ := trodAll_cons k5
  obtain ⟨v7, vs7, d7, ds7, p7, q7, rfl, rfl, rfl, h7, k7⟩ := trodAll_cons k6
  obtain ⟨rfl, rfl, rfl⟩ := trodAll_nil k7
  exact ⟨v0, v1, v2, v3, v4, v5, v6, v7, d0, d1, d2, d3, d4, d5, d6, d7, p0, p1, p2, p3, p4, p5, p6, p7, by cases args; simp_all, rfl, by simp, h0, h1, h2, h3, h4, h5, h6, h7⟩

theorem own_ : ownKnob Tryz.prog.godebug = none := by kernel_rfl
theorem laidOut_ : laidOutB Tryz.prog = true := by kernel_rfl

abbrev UB : (H : Type) → DataW H → Nat := fun H d => Rows.uptoBulk (H := H) d
theorem bulk_ : Bulk UB := by
  have all : ∀ (H : Type) (l : List (DataW H)), (l.map (fun d => Rows.uptoBulk d)).sum = Rows.uptoBulkAll l := by
    intro H l
    induction l with
    | nil => simp [Rows.uptoBulkAll]
    | cons x l ih => simp [Rows.uptoBulkAll, ih]
  refine ⟨?_, ?_, ?_, ?_⟩
  · intro H d
    cases d with
    | lit l => cases l <;> simp [Rows.uptoBulk]
    | nil => simp [Rows.uptoBulk]
    | ptr d => simp [Rows.uptoBulk]
    | slice elems spare => simp [Rows.uptoBulk]
    | agg parts => simp [Rows.uptoBulk]
    | iface t d => simp [Rows.uptoBulk]
    | map entries => simp [Rows.uptoBulk]
    | held h => simp [Rows.uptoBulk]
  · intro H elems spare
    simp only [Rows.uptoBulk]
    rw [all]
    omega
  · intro H parts
    simp only [Rows.uptoBulk]
    rw [all]
    omega
  · intro H l
    simp only [Rows.uptoBulk]
    omega

theorem stb25 : structB Tryz.prog 25 2 = true := by kernel_rfl
theorem stb28 : structB Tryz.prog 28 1 = true := by kernel_rfl
theorem stb32 : structB Tryz.prog 32 4 = true := by kernel_rfl
theorem stb42 : structB Tryz.prog 42 4 = true := by kernel_rfl
theorem stb97 : structB Tryz.prog 97 4 = true := by kernel_rfl
theorem stb99 : structB Tryz.prog 99 4 = true := by kernel_rfl
theorem OBApiTrain {W : World} : OpensB Tryz.prog W 42 RApiTrain szApiTrain UB := by
  intro H enc fuel cs x h
  obtain ⟨xs, m, hm, hx, hl, hxl, hf⟩ := struct_parts stb42 h
  rw [cel42] at hl
  match xs, hxl, hx, hf with
  | [y0, y1, y2, y3], _, hx, hf =>
    obtain ⟨v0, h0, z0⟩ := (OpensB.of bulk_ (Opens.int und3)) _ enc m _ _ (hf 0 3 0 1 fb42_0)
    obtain ⟨v1, h1, z1⟩ := (OpensB.of bulk_ (Opens.int und3)) _ enc m _ _ (hf 1 3 1 1 fb42_1)
    obtain ⟨v2, h2, z2⟩ := (OpensB.slice bulk_ und40 cel44 (by decide) (OpensB.of bulk_ OApiStop)) _ enc m _ _ (hf 2 40 2 1 fb42_2)
    obtain ⟨v3, h3, z3⟩ := (OpensB.slice bulk_ und23 cel37 (by decide) (OpensB.slice bulk_ und37 cel3 (by decide) (OpensB.of bulk_ (Opens.int und3)))) _ enc m _ _ (hf 3 23 3 1 fb42_3)
    match cs, hl with
    | [c0, c1, c2, c3], _ =>
      replace h0 : [c0] = [.int .i64 v0] := h0
      have e0 := h0
      simp only [List.cons.injEq, and_true] at e0
      subst e0
      replace h1 : [c1] = [.int .i64 v1] := h1
      have e1 := h1
      simp only [List.cons.injEq, and_true] at e1
      subst e1
      obtain ⟨a2_0, k2_0, e2, q2_0⟩ := h2
      replace e2 : [c2] = [.slice a2_0 v2.length k2_0] := e2
      simp only [List.cons.injEq, and_true] at e2
      subst e2
      obtain ⟨a3_0, k3_0, e3, q3_0⟩ := h3
      replace e3 : [c3] = [.slice a3_0 v3.length k3_0] := e3
      simp only [List.cons.injEq, and_true] at e3
      subst e3
      have hz := bulk_.agg H [y0.1, y1.1, y2.1, y3.1]
      simp only [List.map_cons, List.map_nil, List.sum_cons, List.sum_nil] at hz hx
      rw [← hx] at hz
      exact ⟨(ApiTrain.mk v0 v1 v2 v3), ⟨a2_0, k2_0, a3_0, k3_0, rfl, q2_0, q3_0⟩, by simp only [szApiTrain]; omega⟩
theorem OBApiDay {W : World} : OpensB Tryz.prog W 25 RApiDay szApiDay UB := by
  intro H enc fuel cs x h
  obtain ⟨xs, m, hm, hx, hl, hxl, hf⟩ := struct_parts stb25 h
  rw [cel25] at hl
  match xs, hxl, hx, hf with
  | [y0, y1], _, hx, hf =>
    obtain ⟨v0, h0, z0⟩ := (OpensB.slice bulk_ und22 cel42 (by decide) OBApiTrain) _ enc m _ _ (hf 0 22 0 1 fb25_0)
    obtain ⟨v1, h1, z1⟩ := (OpensB.slice bulk_ und23 cel37 (by decide) (OpensB.slice bulk_ und37 cel3 (by decide) (OpensB.of bulk_ (Opens.int und3)))) _ enc m _ _ (hf 1 23 1 1 fb25_1)
    match cs, hl with
    | [c0, c1], _ =>
      obtain ⟨a0_0, k0_0, e0, q0_0⟩ := h0
      replace e0 : [c0] = [.slice a0_0 v0.length k0_0] := e0
      simp only [List.cons.injEq, and_true] at e0
      subst e0
      obtain ⟨a1_0, k1_0, e1, q1_0⟩ := h1
      replace e1 : [c1] = [.slice a1_0 v1.length k1_0] := e1
      simp only [List.cons.injEq, and_true] at e1
      subst e1
      have hz := bulk_.agg H [y0.1, y1.1]
      simp only [List.map_cons, List.map_nil, List.sum_cons, List.sum_nil] at hz hx
      rw [← hx] at hz
      exact ⟨(ApiDay.mk v0 v1), ⟨a0_0, k0_0, a1_0, k1_0, rfl, q0_0, q1_0⟩, by simp only [szApiDay]; omega⟩
theorem OBGuideJourney {W : World} : OpensB Tryz.prog W 28 RGuideJourney szGuideJourney UB := by
  intro H enc fuel cs x h
  obtain ⟨xs, m, hm, hx, hl, hxl, hf⟩ := struct_parts stb28 h
  rw [cel28] at hl
  match xs, hxl, hx, hf with
  | [y0], _, hx, hf =>
    obtain ⟨v0, h0, z0⟩ := (OpensB.slice bulk_ und26 cel39 (by decide) (OpensB.of bulk_ OGuideRide)) _ enc m _ _ (hf 0 26 0 1 fb28_0)
    match cs, hl with
    | [c0], _ =>
      obtain ⟨a0_0, k0_0, e0, q0_0⟩ := h0
      replace e0 : [c0] = [.slice a0_0 v0.length k0_0] := e0
      simp only [List.cons.injEq, and_true] at e0
      subst e0
      have hz := bulk_.agg H [y0.1]
      simp only [List.map_cons, List.map_nil, List.sum_cons, List.sum_nil] at hz hx
      rw [← hx] at hz
      exact ⟨(GuideJourney.mk v0), ⟨a0_0, k0_0, rfl, q0_0⟩, by simp only [szGuideJourney]; omega⟩
theorem OBFareCond {W : World} : OpensB Tryz.prog W 97 RFareCond szFareCond UB := OpensBN.all fun N => by
  induction N with
  | zero => exact OpensBN.zero
  | succ N ih =>
    intro H enc fuel cs x hF h
    obtain ⟨xs, m, hm, hx, hl, hxl, hf⟩ := struct_parts stb97 h
    rw [cel97] at hl
    match xs, hxl, hx, hf with
    | [y0, y1, y2, y3], _, hx, hf =>
      obtain ⟨v0, h0, z0⟩ := (OpensB.of bulk_ (Opens.int und3)) _ enc m _ _ (hf 0 3 0 1 fb97_0)
      obtain ⟨v1, h1, z1⟩ := (OpensB.of bulk_ (Opens.int und3)) _ enc m _ _ (hf 1 3 1 1 fb97_1)
      obtain ⟨v2, h2, z2⟩ := (OpensB.of bulk_ (Opens.int und3)) _ enc m _ _ (hf 2 3 2 1 fb97_2)
      obtain ⟨v3, h3, z3⟩ := (OpensBN.slice bulk_ und95 cel97 (by decide) ih) _ enc m _ _ (by omega) (hf 3 95 3 1 fb97_3)
      match cs, hl with
      | [c0, c1, c2, c3], _ =>
        replace h0 : [c0] = [.int .i64 v0] := h0
        have e0 := h0
        simp only [List.cons.injEq, and_true] at e0
        subst e0
        replace h1 : [c1] = [.int .i64 v1] := h1
        have e1 := h1
        simp only [List.cons.injEq, and_true] at e1
        subst e1
        replace h2 : [c2] = [.int .i64 v2] := h2
        have e2 := h2
        simp only [List.cons.injEq, and_true] at e2
        subst e2
        obtain ⟨a3_0, k3_0, e3, q3_0⟩ := h3
        replace e3 : [c3] = [.slice a3_0 v3.length k3_0] := e3
        simp only [List.cons.injEq, and_true] at e3
        subst e3
        have hz := bulk_.agg H [y0.1, y1.1, y2.1, y3.1]
        simp only [List.map_cons, List.map_nil, List.sum_cons, List.sum_nil] at hz hx
        rw [← hx] at hz
        exact ⟨(FareCond.mk v0 v1 v2 v3), RFareCond.fold ⟨a3_0, k3_0, rfl, q3_0⟩, by have hs_ := szsFareCond_eq v3; simp only [szFareCond]; omega⟩
theorem OBFareRule {W : World} : OpensB Tryz.prog W 99 RFareRule szFareRule UB := by
  intro H enc fuel cs x h
  obtain ⟨xs, m, hm, hx, hl, hxl, hf⟩ := struct_parts stb99 h
  rw [cel99] at hl
  match xs, hxl, hx, hf with
  | [y0, y1, y2, y3], _, hx, hf =>
    obtain ⟨v0, h0, z0⟩ := OBFareCond _ enc m _ _ (hf 0 97 0 4 fb99_0)
    obtain ⟨v1, h1, z1⟩ := (OpensB.of bulk_ (Opens.int und3)) _ enc m _ _ (hf 1 3 4 1 fb99_1)
    obtain ⟨v2, h2, z2⟩ := (OpensB.of bulk_ (Opens.int und3)) _ enc m _ _ (hf 2 3 5 1 fb99_2)
    obtain ⟨v3, h3, z3⟩ := (OpensB.of bulk_ (Opens.bool und4)) _ enc m _ _ (hf 3 4 6 1 fb99_3)
    match cs, hl with
    | [c0, c1, c2, c3, c4, c5, c6], _ =>
      obtain ⟨a0_0, k0_0, e0, q0_0⟩ := h0.unf
      replace e0 : [c0, c1, c2, c3] = [.int .i64 v0.Kind, .int .i64 v0.A, .int .i64 v0.B, .slice a0_0 v0.Kids.length k0_0] := e0
      simp only [List.cons.injEq, and_true] at e0
      obtain ⟨rfl, rfl, rfl, rfl⟩ := e0
      replace h1 : [c4] = [.int .i64 v1] := h1
      have e1 := h1
      simp only [List.cons.injEq, and_true] at e1
      subst e1
      replace h2 : [c5] = [.int .i64 v2] := h2
      have e2 := h2
      simp only [List.cons.injEq, and_true] at e2
      subst e2
      replace h3 : [c6] = [.bool v3] := h3
      have e3 := h3
      simp only [List.cons.injEq, and_true] at e3
      subst e3
      have hz := bulk_.agg H [y0.1, y1.1, y2.1, y3.1]
      simp only [List.map_cons, List.map_nil, List.sum_cons, List.sum_nil] at hz hx
      rw [← hx] at hz
      exact ⟨(FareRule.mk v0 v1 v2 v3), ⟨a0_0, k0_0, rfl, q0_0⟩, by simp only [szFareRule]; omega⟩
theorem OBFareTariff {W : World} : OpensB Tryz.prog W 32 RFareTariff szFareTariff UB := by
  intro H enc fuel cs x h
  obtain ⟨xs, m, hm, hx, hl, hxl, hf⟩ := struct_parts stb32 h
  rw [cel32] at hl
  match xs, hxl, hx, hf with
  | [y0, y1, y2, y3], _, hx, hf =>
    obtain ⟨v0, h0, z0⟩ := (OpensB.of bulk_ (Opens.bool und4)) _ enc m _ _ (hf 0 4 0 1 fb32_0)
    obtain ⟨v1, h1, z1⟩ := (OpensB.slice bulk_ und29 cel94 (by decide) (OpensB.of bulk_ OFareBand)) _ enc m _ _ (hf 1 29 1 1 fb32_1)
    obtain ⟨v2, h2, z2⟩ := (OpensB.of bulk_ (Opens.int und3)) _ enc m _ _ (hf 2 3 2 1 fb32_2)
    obtain ⟨v3, h3, z3⟩ := (OpensB.slice bulk_ und30 cel99 (by decide) OBFareRule) _ enc m _ _ (hf 3 30 3 1 fb32_3)
    match cs, hl with
    | [c0, c1, c2, c3], _ =>
      replace h0 : [c0] = [.bool v0] := h0
      have e0 := h0
      simp only [List.cons.injEq, and_true] at e0
      subst e0
      obtain ⟨a1_0, k1_0, e1, q1_0⟩ := h1
      replace e1 : [c1] = [.slice a1_0 v1.length k1_0] := e1
      simp only [List.cons.injEq, and_true] at e1
      subst e1
      replace h2 : [c2] = [.int .i64 v2] := h2
      have e2 := h2
      simp only [List.cons.injEq, and_true] at e2
      subst e2
      obtain ⟨a3_0, k3_0, e3, q3_0⟩ := h3
      replace e3 : [c3] = [.slice a3_0 v3.length k3_0] := e3
      simp only [List.cons.injEq, and_true] at e3
      subst e3
      have hz := bulk_.agg H [y0.1, y1.1, y2.1, y3.1]
      simp only [List.map_cons, List.map_nil, List.sum_cons, List.sum_nil] at hz hx
      rw [← hx] at hz
      exact ⟨(FareTariff.mk v0 v1 v2 v3), ⟨a1_0, k1_0, a3_0, k3_0, rfl, q1_0, q3_0⟩, by simp only [szFareTariff]; omega⟩
theorem tab_ {W : World} (h : laidMetH Tryz.prog Rows.topTicketedUptoRow.laid W) : Lib.TabIs Tryz.prog W "internal/strconv.uint64pow10" .u64 Lib.pow10Tab := by
  rw [MakeChecks.laidMetH_plain _ _ _ (by kernel_rfl)] at h
  obtain ⟨g, hg⟩ : ∃ g, Tryz.prog.globalNamed "internal/strconv.uint64pow10" = some g := Option.isSome_iff_exists.1 (by kernel_rfl)
  obtain ⟨t, ht⟩ : ∃ t, (Tryz.prog.globals[g]?).map (·.type) = some t := Option.isSome_iff_exists.1 (by
    have e : ((Tryz.prog.globalNamed "internal/strconv.uint64pow10").bind fun g => (Tryz.prog.globals[g]?).map (·.type)).isSome = true := by kernel_rfl
    rw [hg] at e; exact e)
  have e1 : ((Tryz.prog.globalNamed "internal/strconv.uint64pow10").bind fun g => (Tryz.prog.globals[g]?).map (·.type)) = some 165 := by kernel_rfl
  rw [hg, Option.bind_some, ht] at e1
  obtain rfl := Option.some.inj e1
  exact Lib.tabIs_of_head (n := 20) (e := 124) hg ht (by kernel_rfl) (by kernel_rfl) (by kernel_rfl) (by kernel_rfl) (laidMet.tail (laidMet.tail h))

set_option maxRecDepth 100000 in
theorem max_ {W : World} (h : W.ShapedOpen Tryz.prog) : ∃ m, W.cell? ⟨0, 0, none⟩ = some (.int .i64 m) := by
  refine cell_of_shapedOpen_int (t := 3) h (by decide +kernel) rfl rfl (by kernel_rfl) (by kernel_rfl) Tryz.underlying3
theorem star_ : "*" ++ "errors.errorString" = "*errors.errorString" := by decide
set_option maxRecDepth 100000 in
theorem rowE_ (u : TypeId) (h : Tryz.prog.typeName? 3 u = some "*errors.errorString") : u = 198 :=
  typeName_ptr_named (nm := "errors.errorString") (by rw [star_]; kernel_rfl) (by kernel_rfl) (by decide) u (by rw [star_]; exact h)
set_option maxRecDepth 100000 in
theorem cond_both {H : Type} {enc : TypeId × Value → H} {a : Assume} {C : Checked} {os : Os} {f : FuncId} {fn : Func} {s : OpenSpec} {k : (H : Type) → List (DataW H) → Bool} (hk : s.cond = some k) {F : Stop.Interp} {conds : List PathCond} {apart fresh handsOn again : Bool} {X : World → Array Value → Prop}
    (hX : ∀ (w w' : World) (args : Array Value), w.heap = w'.heap → X w args → X w' args)
    (own : ownKnob C.prog.godebug = none) (started : os.Started) (noInit : C.prog.inits.idxOf? f = none) (hfn : C.prog.funcs[f]? = some fn)
    (witness : ∃ (w : World) (tape : Tape) (i : Input), w.os = os ∧ (w.forCall tape i).Shaped C.prog ∧ i.vars = [] ∧ Input.okWide C.prog (w.forCall tape i) .any w.heap.size f i ∧
      ((s.pre enc C.prog fn conds apart (w.forCall tape i).memory i.args ∧ X (w.forCall tape i).memory i.args) ∧ sizedMet enc C.prog fn s apart (w.forCall tape i).memory i.args) ∧ a.holds C.prog (lone (Frame.enter C.prog f i.args .normal) [] (w.forCall tape i)))
    (contract : ∀ (W : World) (base : Nat) (args : Array Value) (ds gs : List (DataW H)) (before : List MemPlace), W.ShapedOpen C.prog →
      (∀ (j : Nat) t v, fn.params[j]? = some t → args[j]? = some v → Value.okWide C.prog W .any base t v) →
      DataW.Whole enc C.prog fn.params.toList s.vars apart W args.toList ds gs before → k H (ds ++ gs) = true → X W args →
      Calls C.prog f args W fun e W' => ∃ v, e = .returned v ∧ (s.at F).post enc C.prog fn apart fresh handsOn again W args v W') :
    ReturnsInHanded a C os f .any (fun w args => (s.pre enc C.prog fn conds apart w args ∧ X w args) ∧ sizedMet enc C.prog fn s apart w args) ((s.at F).post enc C.prog fn apart fresh handsOn again) := by
  refine returnsInHanded_of_calls own started noInit witness ?_
  intro w tape i _ hsh _ hok hpre _
  obtain ⟨_, _, _, fn', hfn', _, _, _, _, hval⟩ := hok
  have e : fn' = fn := Option.some.inj (hfn'.symm.trans hfn)
  subst e
  obtain ⟨⟨hp, hx⟩, _⟩ := hpre
  obtain ⟨ds, gs, before, hw, _, hkk⟩ := (OpenSpec.pre_some hk conds apart _ _).1 hp
  have hw' := DataW.Whole.of_heap (w' := w.forCall tape i) (by rfl) hw
  refine (contract (w.forCall tape i) w.heap.size i.args ds gs before hsh hval hw' hkk (hX _ _ _ (by rfl) hx)).mono fun e W' ⟨v, he, hp⟩ => ?_
  subst he
  exact ChangeSpec.post_blind hp
set_option maxRecDepth 100000 in
theorem esyn_ {W : World} (h : laidMetH Tryz.prog Rows.topTicketedUptoRow.laid W) : ∃ v, W.cell? ⟨4, 0, none⟩ = some v ∧ (v = .nilIface ∨ ∃ t p, v = .iface t p) := by
  rw [MakeChecks.laidMetH_plain _ _ _ (by kernel_rfl)] at h
  have hg : Tryz.prog.globalNamed "strconv.ErrSyntax" = some 4 := by kernel_rfl
  obtain ⟨a, s, hv, _, _, _⟩ := laid_sentinel (laidMet.tail (laidMet.tail (laidMet.tail (laidMet.tail (laidMet.tail h))))) hg (ti := 153) (by kernel_rfl) Tryz.underlying153 rowE_ Tryz.underlying198 Tryz.underlying200 rfl rfl Tryz.underlying9 (by kernel_rfl) (by kernel_rfl)
  exact ⟨_, by have h0 := World.var?_cell hg hv 0; simpa using h0, .inr ⟨_, _, rfl⟩⟩
set_option maxRecDepth 100000 in
theorem eran_ {W : World} (h : laidMetH Tryz.prog Rows.topTicketedUptoRow.laid W) : ∃ v, W.cell? ⟨5, 0, none⟩ = some v ∧ (v = .nilIface ∨ ∃ t p, v = .iface t p) := by
  rw [MakeChecks.laidMetH_plain _ _ _ (by kernel_rfl)] at h
  have hg : Tryz.prog.globalNamed "strconv.ErrRange" = some 5 := by kernel_rfl
  obtain ⟨a, s, hv, _, _, _⟩ := laid_sentinel (laidMet.tail (laidMet.tail (laidMet.tail (laidMet.tail h)))) hg (ti := 153) (by kernel_rfl) Tryz.underlying153 rowE_ Tryz.underlying198 Tryz.underlying200 rfl rfl Tryz.underlying9 (by kernel_rfl) (by kernel_rfl)
  exact ⟨_, by have h0 := World.var?_cell hg hv 0; simpa using h0, .inr ⟨_, _, rfl⟩⟩
theorem door_met (os : Os) (args : Array Value) : laidMetH Tryz.prog Rows.topTicketedUptoRow.laid ((World.laidAll Tryz.prog os Rows.topTicketedUptoRow.laid).forCall (fun _ _ => 0) ⟨#[], args, []⟩).memory := by
  rw [MakeChecks.laidMetH_plain _ _ _ (by kernel_rfl)]
  exact laidMet_laidAll _ (by kernel_rfl) (by kernel_rfl)

set_option maxRecDepth 100000 in
theorem topTicketed_lifted (os : Os) (started : os.Started) (H : Type) (enc : TypeId × Value → H) (F : Stop.Interp) :
    ReturnsInHanded {} Tryz.checked os 3 .any (fun w args => ((Rows.OpenSpec.upto Rows.topTicketedSpec).pre enc Tryz.prog Tryz.f3 [] false w args ∧ laidMetH Tryz.prog Rows.topTicketedUptoRow.laid w) ∧ sizedMet enc Tryz.prog Tryz.f3 (Rows.OpenSpec.upto Rows.topTicketedSpec) false w args) (((Rows.OpenSpec.upto Rows.topTicketedSpec).at F).post enc Tryz.prog Tryz.f3 false true false false) := by
  refine cond_both (C := Tryz.checked) (s := (Rows.OpenSpec.upto Rows.topTicketedSpec)) (k := Rows.uptoSmall) (X := fun w _ => laidMetH Tryz.prog Rows.topTicketedUptoRow.laid w) rfl (fun _ _ _ hh h => h.of_heap hh) own_ started (by kernel_rfl) Tryz.func3
    (cond_witness (enc := enc) (C := Tryz.checked) (os := os) (s := (Rows.OpenSpec.upto Rows.topTicketedSpec)) (k := Rows.uptoSmall) (X := fun w _ => laidMetH Tryz.prog Rows.topTicketedUptoRow.laid w) rfl false (World.laidAll Tryz.prog os Rows.topTicketedUptoRow.laid) #[.agg #[.slice none 0 0, .slice none 0 0], .agg #[.slice none 0 0], .agg #[.bool false, .slice none 0 0, .int .i64 0, .slice none 0 0], .int .i64 0, .int .i64 0, .int .i64 0, .int .i64 0, .int .i64 0] 8 (World.laidAll_os _ _ _) (World.shaped_of_ZipB (by kernel_rfl) (by kernel_rfl)) (by kernel_rfl)
      (x := ([.agg [.nil, .nil], .agg [.nil], .agg [.lit (.bool false), .nil, .lit (.int .i64 0), .nil], .lit (.int .i64 0), .lit (.int .i64 0), .lit (.int .i64 0), .lit (.int .i64 0), .lit (.int .i64 0)], [], [])) (by kernel_rfl) rfl (by kernel_rfl) (by kernel_rfl) (door_met os _)) ?_
  intro W base args ds gs before hsh hval0 hW hk hL
  obtain ⟨m_, hm_⟩ := max_ hsh
  obtain ⟨e2_, a2_, b2_⟩ := esyn_ hL
  obtain ⟨e3_, a3_, b3_⟩ := eran_ hL
  have hTab0 : TabX (s0 W) := ⟨TabS.start (tab_ hL), ⟨m_, CellS.start hm_⟩, ⟨e2_, CellS.start a2_, b2_⟩, ⟨e3_, CellS.start a3_, b3_⟩⟩
  have hW' := hW
  obtain ⟨p, q, hA0, hV, rfl, hfz, hnd⟩ := hW
  have hA : DataW.TrodAll enc Tryz.prog W 0 (fun _ => true) true Tryz.f3.params.toList args.toList ds p := hA0
  rw [Tryz.params3] at hA
  obtain ⟨v0, v1, v2, v3, v4, v5, v6, v7, d0, d1, d2, d3, d4, d5, d6, d7, p0, p1, p2, p3, p4, p5, p6, p7, rfl, rfl, rfl, g0, g1, g2, g3, g4, g5, g6, g7⟩ := trodAll_eight hA
  obtain ⟨rfl, rfl⟩ := trodVars_none hV
  have hk2 := of_decide_eq_true hk
  simp only [List.append_nil, Rows.uptoBulkAll] at hk2
  obtain ⟨cs0, x0, rfl, h0, z0⟩ := arg_structB Tryz.underlying25 OBApiDay (hval0 0 25 v0 rfl rfl) g0
  have i0 := arg_inS OIApiDay g0 h0
  obtain ⟨_, _, _, _, rfl, h0_0, h0_1⟩ := h0
  obtain ⟨cs1, x1, rfl, h1, z1⟩ := arg_structB Tryz.underlying28 OBGuideJourney (hval0 1 28 v1 rfl rfl) g1
  have i1 := arg_inS OIGuideJourney g1 h1
  obtain ⟨_, _, rfl, h1_0⟩ := h1
  obtain ⟨cs2, x2, rfl, h2, z2⟩ := arg_structB Tryz.underlying32 OBFareTariff (hval0 2 32 v2 rfl rfl) g2
  have i2 := arg_inS OIFareTariff g2 h2
  obtain ⟨_, _, _, _, rfl, h2_0, h2_1⟩ := h2
  obtain ⟨x3, rfl, hx3⟩ := arg_int Tryz.underlying3 (hval0 3 3 v3 rfl rfl)
  obtain ⟨x4, rfl, hx4⟩ := arg_int Tryz.underlying3 (hval0 4 3 v4 rfl rfl)
  obtain ⟨x5, rfl, hx5⟩ := arg_int Tryz.underlying3 (hval0 5 3 v5 rfl rfl)
  obtain ⟨x6, rfl, hx6⟩ := arg_int Tryz.underlying3 (hval0 6 3 v6 rfl rfl)
  obtain ⟨x7, rfl, hx7⟩ := arg_int Tryz.underlying3 (hval0 7 3 v7 rfl rfl)
  obtain ⟨fu, hfu⟩ := TopTicketed_law x0 x1 x2 x3 x4 x5 x6 x7 h0_0.small h0_1.small h1_0.small h2_0.small h2_1.small hx3 hx4 hx5 hx6 hx7 i0 i1 i2 (Nat.le_trans z0 (by show Rows.uptoBulk d0 ≤ _; omega)) (Nat.le_trans z1 (by show Rows.uptoBulk d1 ≤ _; omega)) (Nat.le_trans z2 (by show Rows.uptoBulk d2 ≤ _; omega))
  refine (FishtopTopTicketed_ok (St.start W) hTab0 h0_0 h0_1 h1_0 h2_0 h2_1 hfu).mono fun e W' ⟨he, hS⟩ => ?_
  exact ⟨_, he, post_law laidOut_ hS hW' rfl ⟨rfl, rfl, rfl⟩ (by kernel_rfl) rfl und4⟩

theorem topTicketed_row : Rows.TopTicketedUptoSaid :=
  OpenClaim.holds_of_cond 3 Tryz.f3 rfl rfl rfl rfl rfl rfl rfl ⟨rfl, rfl, rfl, rfl, rfl⟩ rfl rfl rfl rfl rfl (by kernel_rfl) Tryz.func3 (by kernel_rfl)
    (of_decide_eq_true (by kernel_rfl)) (by unfold Func.isWrapper; first | (rw [if_pos (by decide +kernel)]; kernel_rfl) | (rw [if_neg (by decide +kernel)]; exact ⟨rfl, rfl⟩))
    (fun os started H enc _ F => topTicketed_lifted os started H enc F)

theorem topTicketed_holds : Rows.TopTicketedUptoCardSaid :=
  Claim7.holds_tied_plain_at .later [] [.data, .data, .data, .data, .sentinel, .sentinel, .pinned] true (true, "0705bb09e079d2ada55b31aae6bd8c6a6389f35ee754d7a4bd8ec216532a8760") true
    topTicketed_row (fun _ h => by cases h) (by kernel_rfl) (fun _ h => by cases h) topTicketedUpto_row_tie rfl ⟨rfl, rfl⟩ (by kernel_rfl) rfl
    (fun f fn hf hfn => by
      obtain rfl : f = 3 := Option.some.inj ((show Tryz.prog.funcNamed "fishplate/fishtop.TopTicketed" = some 3 by kernel_rfl).symm.trans hf) |>.symm
      obtain rfl : fn = Tryz.f3 := (Option.some.inj (Tryz.func3.symm.trans hfn)).symm
      exact ⟨by kernel_rfl, fun j t ht => by
        rw [Tryz.params3] at ht
        have hm : t ∈ [25, 28, 32, 3, 3, 3, 3, 3] := by simpa using Array.mem_of_getElem? ht
        have hall : ([25, 28, 32, 3, 3, 3, 3, 3].all fun u => !Tryz.prog.wantsStandIn u) = true := by kernel_rfl
        exact (show Tryz.prog.wantsStandIn t = false by simpa using List.all_eq_true.1 hall t hm)⟩)
    (by kernel_rfl)

end Go.Proofs.YtngamgkmhgmmjaaGreatDoor
