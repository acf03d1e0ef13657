/- FareTexts: whatever the input, the law returns true, and the input reads as it did. No condition. -/
import Derived.Test.YtfdifpegldailaaGreatDoorRows
import Derived.Test.YtfdifpegldailaaGreatDoorTie
import Derived.Test.YtfdifpegldailaaGreatDoorCards
import Derived.Test.YtfdifpegldailaaGreatDoorFpDoor
import Derived.Test.YtfdifpegldailaaGreatDoorFareTextsW
import Derived.Test.YtfdifpegldailaaGreatDoorFareTextsO
import Derived.Test.YtfdifpegldailaaGreatDoorFareTextsL
import Derived.Test.YtfdifpegldailaaGreatDoorFpBulk
import Derived.ProofKit
import Derived.LaidMore
import Derived.OpenShut
import Derived.Stop.Joined
import Derived.SevenTiedAt
import Derived.Stop.LaidErr
import Derived.Shelf.Vars
import Derived.Lay
import Derived.JoinedCond
namespace Go.Proofs.YtfdifpegldailaaGreatDoor
open Go.ChangeShapes Go.WideShapes Go.ChangeAt Go.RowKit Go.Fp

theorem own_ : ownKnob Tryz.prog.godebug = none := by kernel_rfl
theorem laidOut_ : laidOutB Tryz.prog = true := by kernel_rfl

abbrev UB : (H : Type) → DataW H → Nat := fun H d => Rows.uptoBulk (H := H) d
theorem bulk_ : Bulk UB := by
  have all : ∀ (H : Type) (l : List (DataW H)), (l.map (fun d => Rows.uptoBulk d)).sum = Rows.uptoBulkAll l := by
    intro H l
    induction l with
    | nil => simp [Rows.uptoBulkAll]
    | cons x l ih => simp [Rows.uptoBulkAll, ih]
  refine ⟨?_, ?_, ?_, ?_⟩
  · intro H d
    cases d with
    | lit l => cases l <;> simp [Rows.uptoBulk]
    | nil => simp [Rows.uptoBulk]
    | ptr d => simp [Rows.uptoBulk]
    | slice elems spare => simp [Rows.uptoBulk]
    | agg parts => simp [Rows.uptoBulk]
    | iface t d => simp [Rows.uptoBulk]
    | map entries => simp [Rows.uptoBulk]
    | held h => simp [Rows.uptoBulk]
  · intro H elems spare
    simp only [Rows.uptoBulk]
    rw [all]
    omega
  · intro H parts
    simp only [Rows.uptoBulk]
    rw [all]
    omega
  · intro H l
    simp only [Rows.uptoBulk]
    omega

theorem stb25 : structB Tryz.prog 25 4 = true := by kernel_rfl
theorem stb43 : structB Tryz.prog 43 4 = true := by kernel_rfl
theorem stb45 : structB Tryz.prog 45 4 = true := by kernel_rfl
theorem OBFareCond {W : World} : OpensB Tryz.prog W 43 RFareCond szFareCond UB := OpensBN.all fun N => by
  induction N with
  | zero => exact OpensBN.zero
  | succ N ih =>
    intro H enc fuel cs x hF h
    obtain ⟨xs, m, hm, hx, hl, hxl, hf⟩ := struct_parts stb43 h
    rw [cel43] at hl
    match xs, hxl, hx, hf with
    | [y0, y1, y2, y3], _, hx, hf =>
      obtain ⟨v0, h0, z0⟩ := (OpensB.of bulk_ (Opens.int und3)) _ enc m _ _ (hf 0 3 0 1 fb43_0)
      obtain ⟨v1, h1, z1⟩ := (OpensB.of bulk_ (Opens.int und3)) _ enc m _ _ (hf 1 3 1 1 fb43_1)
      obtain ⟨v2, h2, z2⟩ := (OpensB.of bulk_ (Opens.int und3)) _ enc m _ _ (hf 2 3 2 1 fb43_2)
      obtain ⟨v3, h3, z3⟩ := (OpensBN.slice bulk_ und41 cel43 (by decide) ih) _ enc m _ _ (by omega) (hf 3 41 3 1 fb43_3)
      match cs, hl with
      | [c0, c1, c2, c3], _ =>
        replace h0 : [c0] = [.int .i64 v0] := h0
        have e0 := h0
        simp only [List.cons.injEq, and_true] at e0
        subst e0
        replace h1 : [c1] = [.int .i64 v1] := h1
        have e1 := h1
        simp only [List.cons.injEq, and_true] at e1
        subst e1
        replace h2 : [c2] = [.int .i64 v2] := h2
        have e2 := h2
        simp only [List.cons.injEq, and_true] at e2
        subst e2
        obtain ⟨a3_0, k3_0, e3, q3_0⟩ := h3
        replace e3 : [c3] = [.slice a3_0 v3.length k3_0] := e3
        simp only [List.cons.injEq, and_true] at e3
        subst e3
        have hz := bulk_.agg H [y0.1, y1.1, y2.1, y3.1]
        simp only [List.map_cons, List.map_nil, List.sum_cons, List.sum_nil] at hz hx
        rw [← hx] at hz
        exact ⟨(FareCond.mk v0 v1 v2 v3), RFareCond.fold ⟨a3_0, k3_0, rfl, q3_0⟩, by have hs_ := szsFareCond_eq v3; simp only [szFareCond]; omega⟩
theorem OBFareRule {W : World} : OpensB Tryz.prog W 45 RFareRule szFareRule UB := by
  intro H enc fuel cs x h
  obtain ⟨xs, m, hm, hx, hl, hxl, hf⟩ := struct_parts stb45 h
  rw [cel45] at hl
  match xs, hxl, hx, hf with
  | [y0, y1, y2, y3], _, hx, hf =>
    obtain ⟨v0, h0, z0⟩ := OBFareCond _ enc m _ _ (hf 0 43 0 4 fb45_0)
    obtain ⟨v1, h1, z1⟩ := (OpensB.of bulk_ (Opens.int und3)) _ enc m _ _ (hf 1 3 4 1 fb45_1)
    obtain ⟨v2, h2, z2⟩ := (OpensB.of bulk_ (Opens.int und3)) _ enc m _ _ (hf 2 3 5 1 fb45_2)
    obtain ⟨v3, h3, z3⟩ := (OpensB.of bulk_ (Opens.bool und4)) _ enc m _ _ (hf 3 4 6 1 fb45_3)
    match cs, hl with
    | [c0, c1, c2, c3, c4, c5, c6], _ =>
      obtain ⟨a0_0, k0_0, e0, q0_0⟩ := h0.unf
      replace e0 : [c0, c1, c2, c3] = [.int .i64 v0.Kind, .int .i64 v0.A, .int .i64 v0.B, .slice a0_0 v0.Kids.length k0_0] := e0
      simp only [List.cons.injEq, and_true] at e0
      obtain ⟨rfl, rfl, rfl, rfl⟩ := e0
      replace h1 : [c4] = [.int .i64 v1] := h1
      have e1 := h1
      simp only [List.cons.injEq, and_true] at e1
      subst e1
      replace h2 : [c5] = [.int .i64 v2] := h2
      have e2 := h2
      simp only [List.cons.injEq, and_true] at e2
      subst e2
      replace h3 : [c6] = [.bool v3] := h3
      have e3 := h3
      simp only [List.cons.injEq, and_true] at e3
      subst e3
      have hz := bulk_.agg H [y0.1, y1.1, y2.1, y3.1]
      simp only [List.map_cons, List.map_nil, List.sum_cons, List.sum_nil] at hz hx
      rw [← hx] at hz
      exact ⟨(FareRule.mk v0 v1 v2 v3), ⟨a0_0, k0_0, rfl, q0_0⟩, by simp only [szFareRule]; omega⟩
theorem OBFareTariff {W : World} : OpensB Tryz.prog W 25 RFareTariff szFareTariff UB := by
  intro H enc fuel cs x h
  obtain ⟨xs, m, hm, hx, hl, hxl, hf⟩ := struct_parts stb25 h
  rw [cel25] at hl
  match xs, hxl, hx, hf with
  | [y0, y1, y2, y3], _, hx, hf =>
    obtain ⟨v0, h0, z0⟩ := (OpensB.of bulk_ (Opens.bool und4)) _ enc m _ _ (hf 0 4 0 1 fb25_0)
    obtain ⟨v1, h1, z1⟩ := (OpensB.slice bulk_ und22 cel40 (by decide) (OpensB.of bulk_ OFareBand)) _ enc m _ _ (hf 1 22 1 1 fb25_1)
    obtain ⟨v2, h2, z2⟩ := (OpensB.of bulk_ (Opens.int und3)) _ enc m _ _ (hf 2 3 2 1 fb25_2)
    obtain ⟨v3, h3, z3⟩ := (OpensB.slice bulk_ und23 cel45 (by decide) OBFareRule) _ enc m _ _ (hf 3 23 3 1 fb25_3)
    match cs, hl with
    | [c0, c1, c2, c3], _ =>
      replace h0 : [c0] = [.bool v0] := h0
      have e0 := h0
      simp only [List.cons.injEq, and_true] at e0
      subst e0
      obtain ⟨a1_0, k1_0, e1, q1_0⟩ := h1
      replace e1 : [c1] = [.slice a1_0 v1.length k1_0] := e1
      simp only [List.cons.injEq, and_true] at e1
      subst e1
      replace h2 : [c2] = [.int .i64 v2] := h2
      have e2 := h2
      simp only [List.cons.injEq, and_true] at e2
      subst e2
      obtain ⟨a3_0, k3_0, e3, q3_0⟩ := h3
      replace e3 : [c3] = [.slice a3_0 v3.length k3_0] := e3
      simp only [List.cons.injEq, and_true] at e3
      subst e3
      have hz := bulk_.agg H [y0.1, y1.1, y2.1, y3.1]
      simp only [List.map_cons, List.map_nil, List.sum_cons, List.sum_nil] at hz hx
      rw [← hx] at hz
      exact ⟨(FareTariff.mk v0 v1 v2 v3), ⟨a1_0, k1_0, a3_0, k3_0, rfl, q1_0, q3_0⟩, by simp only [szFareTariff]; omega⟩
theorem tab_ {W : World} (h : laidMetH Tryz.prog Rows.fareTextsUptoRow.laid W) : Lib.TabIs Tryz.prog W "internal/strconv.uint64pow10" .u64 Lib.pow10Tab := by
  rw [MakeChecks.laidMetH_plain _ _ _ (by kernel_rfl)] at h
  obtain ⟨g, hg⟩ : ∃ g, Tryz.prog.globalNamed "internal/strconv.uint64pow10" = some g := Option.isSome_iff_exists.1 (by kernel_rfl)
  obtain ⟨t, ht⟩ : ∃ t, (Tryz.prog.globals[g]?).map (·.type) = some t := Option.isSome_iff_exists.1 (by
    have e : ((Tryz.prog.globalNamed "internal/strconv.uint64pow10").bind fun g => (Tryz.prog.globals[g]?).map (·.type)).isSome = true := by kernel_rfl
    rw [hg] at e; exact e)
  have e1 : ((Tryz.prog.globalNamed "internal/strconv.uint64pow10").bind fun g => (Tryz.prog.globals[g]?).map (·.type)) = some 148 := by kernel_rfl
  rw [hg, Option.bind_some, ht] at e1
  obtain rfl := Option.some.inj e1
  exact Lib.tabIs_of_head (n := 20) (e := 133) hg ht (by kernel_rfl) (by kernel_rfl) (by kernel_rfl) (by kernel_rfl) (laidMet.tail (laidMet.tail h))

set_option maxRecDepth 100000 in
theorem max_ {W : World} (h : W.ShapedOpen Tryz.prog) : ∃ m, W.cell? ⟨1, 0, none⟩ = some (.int .i64 m) := by
  refine cell_of_shapedOpen_int (t := 3) h (by decide +kernel) rfl rfl (by kernel_rfl) (by kernel_rfl) Tryz.underlying3
theorem star_ : "*" ++ "errors.errorString" = "*errors.errorString" := by decide
set_option maxRecDepth 100000 in
theorem rowE_ (u : TypeId) (h : Tryz.prog.typeName? 3 u = some "*errors.errorString") : u = 181 :=
  typeName_ptr_named (nm := "errors.errorString") (by rw [star_]; kernel_rfl) (by kernel_rfl) (by decide) u (by rw [star_]; exact h)
set_option maxRecDepth 100000 in
theorem cond_both {H : Type} {enc : TypeId × Value → H} {a : Assume} {C : Checked} {os : Os} {f : FuncId} {fn : Func} {s : OpenSpec} {k : (H : Type) → List (DataW H) → Bool} (hk : s.cond = some k) {F : Stop.Interp} {conds : List PathCond} {apart fresh handsOn again : Bool} {X : World → Array Value → Prop}
    (hX : ∀ (w w' : World) (args : Array Value), w.heap = w'.heap → X w args → X w' args)
    (own : ownKnob C.prog.godebug = none) (started : os.Started) (noInit : C.prog.inits.idxOf? f = none) (hfn : C.prog.funcs[f]? = some fn)
    (witness : ∃ (w : World) (tape : Tape) (i : Input), w.os = os ∧ (w.forCall tape i).Shaped C.prog ∧ i.vars = [] ∧ Input.okWide C.prog (w.forCall tape i) .any w.heap.size f i ∧
      ((s.pre enc C.prog fn conds apart (w.forCall tape i).memory i.args ∧ X (w.forCall tape i).memory i.args) ∧ sizedMet enc C.prog fn s apart (w.forCall tape i).memory i.args) ∧ a.holds C.prog (lone (Frame.enter C.prog f i.args .normal) [] (w.forCall tape i)))
    (contract : ∀ (W : World) (base : Nat) (args : Array Value) (ds gs : List (DataW H)) (before : List MemPlace), W.ShapedOpen C.prog →
      (∀ (j : Nat) t v, fn.params[j]? = some t → args[j]? = some v → Value.okWide C.prog W .any base t v) →
      DataW.Whole enc C.prog fn.params.toList s.vars apart W args.toList ds gs before → k H (ds ++ gs) = true → X W args →
      Calls C.prog f args W fun e W' => ∃ v, e = .returned v ∧ (s.at F).post enc C.prog fn apart fresh handsOn again W args v W') :
    ReturnsInHanded a C os f .any (fun w args => (s.pre enc C.prog fn conds apart w args ∧ X w args) ∧ sizedMet enc C.prog fn s apart w args) ((s.at F).post enc C.prog fn apart fresh handsOn again) := by
  refine returnsInHanded_of_calls own started noInit witness ?_
  intro w tape i _ hsh _ hok hpre _
  obtain ⟨_, _, _, fn', hfn', _, _, _, _, hval⟩ := hok
  have e : fn' = fn := Option.some.inj (hfn'.symm.trans hfn)
  subst e
  obtain ⟨⟨hp, hx⟩, _⟩ := hpre
  obtain ⟨ds, gs, before, hw, _, hkk⟩ := (OpenSpec.pre_some hk conds apart _ _).1 hp
  have hw' := DataW.Whole.of_heap (w' := w.forCall tape i) (by rfl) hw
  refine (contract (w.forCall tape i) w.heap.size i.args ds gs before hsh hval hw' hkk (hX _ _ _ (by rfl) hx)).mono fun e W' ⟨v, he, hp⟩ => ?_
  subst he
  exact ChangeSpec.post_blind hp
set_option maxRecDepth 100000 in
theorem esyn_ {W : World} (h : laidMetH Tryz.prog Rows.fareTextsUptoRow.laid W) : ∃ v, W.cell? ⟨2, 0, none⟩ = some v ∧ (v = .nilIface ∨ ∃ t p, v = .iface t p) := by
  rw [MakeChecks.laidMetH_plain _ _ _ (by kernel_rfl)] at h
  have hg : Tryz.prog.globalNamed "strconv.ErrSyntax" = some 2 := by kernel_rfl
  obtain ⟨a, s, hv, _, _, _⟩ := laid_sentinel (laidMet.tail (laidMet.tail (laidMet.tail (laidMet.tail (laidMet.tail h))))) hg (ti := 72) (by kernel_rfl) Tryz.underlying72 rowE_ Tryz.underlying181 Tryz.underlying183 rfl rfl Tryz.underlying9 (by kernel_rfl) (by kernel_rfl)
  exact ⟨_, by have h0 := World.var?_cell hg hv 0; simpa using h0, .inr ⟨_, _, rfl⟩⟩
set_option maxRecDepth 100000 in
theorem eran_ {W : World} (h : laidMetH Tryz.prog Rows.fareTextsUptoRow.laid W) : ∃ v, W.cell? ⟨3, 0, none⟩ = some v ∧ (v = .nilIface ∨ ∃ t p, v = .iface t p) := by
  rw [MakeChecks.laidMetH_plain _ _ _ (by kernel_rfl)] at h
  have hg : Tryz.prog.globalNamed "strconv.ErrRange" = some 3 := by kernel_rfl
  obtain ⟨a, s, hv, _, _, _⟩ := laid_sentinel (laidMet.tail (laidMet.tail (laidMet.tail (laidMet.tail h)))) hg (ti := 72) (by kernel_rfl) Tryz.underlying72 rowE_ Tryz.underlying181 Tryz.underlying183 rfl rfl Tryz.underlying9 (by kernel_rfl) (by kernel_rfl)
  exact ⟨_, by have h0 := World.var?_cell hg hv 0; simpa using h0, .inr ⟨_, _, rfl⟩⟩
theorem door_met (os : Os) (args : Array Value) : laidMetH Tryz.prog Rows.fareTextsUptoRow.laid ((World.laidAll Tryz.prog os Rows.fareTextsUptoRow.laid).forCall (fun _ _ => 0) ⟨#[], args, []⟩).memory := by
  rw [MakeChecks.laidMetH_plain _ _ _ (by kernel_rfl)]
  exact laidMet_laidAll _ (by kernel_rfl) (by kernel_rfl)

set_option maxRecDepth 100000 in
theorem fareTexts_lifted (os : Os) (started : os.Started) (H : Type) (enc : TypeId × Value → H) (F : Stop.Interp) :
    ReturnsInHanded {} Tryz.checked os 3 .any (fun w args => ((Rows.OpenSpec.upto Rows.fareTextsSpec).pre enc Tryz.prog Tryz.f3 [] false w args ∧ laidMetH Tryz.prog Rows.fareTextsUptoRow.laid w) ∧ sizedMet enc Tryz.prog Tryz.f3 (Rows.OpenSpec.upto Rows.fareTextsSpec) false w args) (((Rows.OpenSpec.upto Rows.fareTextsSpec).at F).post enc Tryz.prog Tryz.f3 false true false false) := by
  refine cond_both (C := Tryz.checked) (s := (Rows.OpenSpec.upto Rows.fareTextsSpec)) (k := Rows.uptoSmall) (X := fun w _ => laidMetH Tryz.prog Rows.fareTextsUptoRow.laid w) rfl (fun _ _ _ hh h => h.of_heap hh) own_ started (by kernel_rfl) Tryz.func3
    (cond_witness (enc := enc) (C := Tryz.checked) (os := os) (s := (Rows.OpenSpec.upto Rows.fareTextsSpec)) (k := Rows.uptoSmall) (X := fun w _ => laidMetH Tryz.prog Rows.fareTextsUptoRow.laid w) rfl false (World.laidAll Tryz.prog os Rows.fareTextsUptoRow.laid) #[.agg #[.bool false, .slice none 0 0, .int .i64 0, .slice none 0 0]] 8 (World.laidAll_os _ _ _) (World.shaped_of_ZipB (by kernel_rfl) (by kernel_rfl)) (by kernel_rfl)
      (x := ([.agg [.lit (.bool false), .nil, .lit (.int .i64 0), .nil]], [], [])) (by kernel_rfl) rfl (by kernel_rfl) (by kernel_rfl) (door_met os _)) ?_
  intro W base args ds gs before hsh hval0 hW hk hL
  obtain ⟨m_, hm_⟩ := max_ hsh
  obtain ⟨e2_, a2_, b2_⟩ := esyn_ hL
  obtain ⟨e3_, a3_, b3_⟩ := eran_ hL
  have hTab0 : TabX (s0 W) := ⟨TabS.start (tab_ hL), ⟨m_, CellS.start hm_⟩, ⟨e2_, CellS.start a2_, b2_⟩, ⟨e3_, CellS.start a3_, b3_⟩⟩
  have hW' := hW
  obtain ⟨p, q, hA0, hV, rfl, hfz, hnd⟩ := hW
  have hA : DataW.TrodAll enc Tryz.prog W 0 (fun _ => true) true Tryz.f3.params.toList args.toList ds p := hA0
  rw [Tryz.params3] at hA
  obtain ⟨v0, d0, rfl, rfl, g0⟩ := trodAll_one hA
  obtain ⟨rfl, rfl⟩ := trodVars_none hV
  have hk2 := of_decide_eq_true hk
  simp only [List.append_nil, Rows.uptoBulkAll] at hk2
  obtain ⟨cs0, x0, rfl, h0, z0⟩ := arg_structB Tryz.underlying25 OBFareTariff (hval0 0 25 v0 rfl rfl) g0
  obtain ⟨_, _, _, _, rfl, h0_0, h0_1⟩ := h0
  obtain ⟨fu, hfu⟩ := FareTexts_law x0 h0_0.small h0_1.small (Nat.le_trans z0 (by show Rows.uptoBulk d0 ≤ _; omega))
  refine (Fishlaw2FareTexts_ok (St.start W) hTab0 h0_0 h0_1 hfu).mono fun e W' ⟨he, hS⟩ => ?_
  exact ⟨_, he, post_law laidOut_ hS hW' rfl ⟨rfl, rfl, rfl⟩ (by kernel_rfl) rfl und4⟩

theorem fareTexts_row : Rows.FareTextsUptoSaid :=
  OpenClaim.holds_of_cond 3 Tryz.f3 rfl rfl rfl rfl rfl rfl rfl ⟨rfl, rfl, rfl, rfl, rfl⟩ rfl rfl rfl rfl rfl (by kernel_rfl) Tryz.func3 (by kernel_rfl)
    (of_decide_eq_true (by kernel_rfl)) (by unfold Func.isWrapper; first | (rw [if_pos (by decide +kernel)]; kernel_rfl) | (rw [if_neg (by decide +kernel)]; exact ⟨rfl, rfl⟩))
    (fun os started H enc _ F => fareTexts_lifted os started H enc F)

theorem fareTexts_holds : Rows.FareTextsUptoCardSaid :=
  Claim7.holds_tied_plain_at .later [] [.data, .data, .data, .data, .sentinel, .sentinel, .pinned] true (true, "541b8ae8c95fc3fe1f2bd57278d68495d60e797000279d69d307c1397e7b63ca") true
    fareTexts_row (fun _ h => by cases h) (by kernel_rfl) (fun _ h => by cases h) fareTextsUpto_row_tie rfl ⟨rfl, rfl⟩ (by kernel_rfl) rfl
    (fun f fn hf hfn => by
      obtain rfl : f = 3 := Option.some.inj ((show Tryz.prog.funcNamed "fishplate/fishlaw2.FareTexts" = some 3 by kernel_rfl).symm.trans hf) |>.symm
      obtain rfl : fn = Tryz.f3 := (Option.some.inj (Tryz.func3.symm.trans hfn)).symm
      exact ⟨by kernel_rfl, fun j t ht => by
        rw [Tryz.params3] at ht
        have hm : t ∈ [25] := by simpa using Array.mem_of_getElem? ht
        have hall : ([25].all fun u => !Tryz.prog.wantsStandIn u) = true := by kernel_rfl
        exact (show Tryz.prog.wantsStandIn t = false by simpa using List.all_eq_true.1 hall t hm)⟩)
    (by kernel_rfl)

end Go.Proofs.YtfdifpegldailaaGreatDoor
