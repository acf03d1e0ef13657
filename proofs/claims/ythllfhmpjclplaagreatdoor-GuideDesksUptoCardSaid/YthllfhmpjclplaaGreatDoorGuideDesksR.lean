/- GuideDesks: whatever the input, the law returns true, and the input reads as it did. No condition. -/
import Derived.Test.YthllfhmpjclplaaGreatDoorRows
import Derived.Test.YthllfhmpjclplaaGreatDoorTie
import Derived.Test.YthllfhmpjclplaaGreatDoorCards
import Derived.Test.YthllfhmpjclplaaGreatDoorFpDoor
import Derived.Test.YthllfhmpjclplaaGreatDoorGuideDesksW
import Derived.Test.YthllfhmpjclplaaGreatDoorGuideDesksO
import Derived.Test.YthllfhmpjclplaaGreatDoorGuideDesksL
import Derived.Test.YthllfhmpjclplaaGreatDoorFpBulk
import Derived.LaidMore
import Derived.OpenShut
import Derived.Stop.Joined
import Derived.SevenTiedAt
import Derived.Stop.LaidErr
open List renaming map_cons → b2L, map_nil → b4y, sum_cons → b3Q
open Nat renaming le_trans → b4W
namespace Go.Proofs.YthllfhmpjclplaaGreatDoor
open Go.ChangeShapes Go.WideShapes Go.ChangeAt Go.RowKit Go.Fp

theorem trodAll_five {H : Type} {enc : TypeId × Value → H} {P : Program} {w : World} {base : Nat} {spare : Nat → Bool} {held : Bool} {t0 t1 t2 t3 t4 : TypeId} {args : Array Value} {ds : List (DataW H)} {ps : List MemPlace} (h : DataW.TrodAll enc P w base spare held [t0, t1, t2, t3, t4] args.toList ds ps) :
    ∃ v0 v1 v2 v3 v4 d0 d1 d2 d3 d4 p0 p1 p2 p3 p4, args = #[v0, v1, v2, v3, v4] ∧ ds = [d0, d1, d2, d3, d4] ∧ ps = p0 ++ p1 ++ p2 ++ p3 ++ p4 ∧ DataW.Trod enc P w base spare held t0 v0 d0 p0 ∧ DataW.Trod enc P w base spare held t1 v1 d1 p1 ∧ DataW.Trod enc P w base spare held t2 v2 d2 p2 ∧ DataW.Trod enc P w base spare held t3 v3 d3 p3 ∧ DataW.Trod enc P w base spare held t4 v4 d4 p4 := by
  obtain ⟨v0, vs0, d0, ds0, p0, q0, hargs, rfl, rfl, h0, k0⟩ := trodAll_cons h
  obtain ⟨v1, vs1, d1, ds1, p1, q1, rfl, rfl, rfl, h1, k1⟩ := trodAll_cons k0
  obtain ⟨v2, vs2, d2, ds2, p2, q2, rfl, rfl, rfl, h2, k2⟩ := trodAll_cons k1
  obtain ⟨v3, vs3, d3, ds3, p3, q3, rfl, rfl, rfl, h3, k3⟩ := trodAll_cons k2
  obtain ⟨v4, vs4, d4, ds4, p4, q4, rfl, rfl, rfl, h4, k4⟩ := trodAll_cons k3
  obtain ⟨rfl, rfl, rfl⟩ := trodAll_nil k4
  exact ⟨v0, v1, v2, v3, v4, d0, d1, d2, d3, d4, p0, p1, p2, p3, p4, by cases args; simp_all, rfl, by simp, h0, h1, h2, h3, h4⟩

theorem own_ : ownKnob Tryz.prog.godebug = none := by kernel_rfl
theorem laidOut_ : laidOutB Tryz.prog = true := by kernel_rfl

abbrev UB : (H : Type) → DataW H → Nat := fun H d => Rows.uptoBulk (H := H) d
theorem bulk_ : a9g UB := by
  have all : ∀ (H : Type) (l : List (DataW H)), (l.map (fun d => Rows.uptoBulk d)).sum = Rows.uptoBulkAll l := by
    intro H l
    induction l with
    | nil => simp [Rows.uptoBulkAll]
    | cons x l ih => simp [Rows.uptoBulkAll, ih]
  refine ⟨?_, ?_, ?_, ?_⟩
  · intro H d
    cases d with
    | lit l => cases l <;> simp [Rows.uptoBulk]
    | nil => simp [Rows.uptoBulk]
    | ptr d => simp [Rows.uptoBulk]
    | slice elems spare => simp [Rows.uptoBulk]
    | agg parts => simp [Rows.uptoBulk]
    | iface t d => simp [Rows.uptoBulk]
    | map entries => simp [Rows.uptoBulk]
    | held h => simp [Rows.uptoBulk]
  · intro H elems spare
    simp only [Rows.uptoBulk]
    rw [all]
    omega
  · intro H parts
    simp only [Rows.uptoBulk]
    rw [all]
    omega
  · intro H l
    simp only [Rows.uptoBulk]
    omega

theorem stb25 : a2j Tryz.prog 25 2 = true := by kernel_rfl
theorem stb42 : a2j Tryz.prog 42 1 = true := by kernel_rfl
theorem stb72 : a2j Tryz.prog 72 4 = true := by kernel_rfl
theorem OBApiTrain {W : World} : L9 Tryz.prog W 72 A7 a1q UB := by
  intro H enc fuel cs x h
  obtain ⟨xs, m, hm, hx, hl, hxl, hf⟩ := a0c stb72 h
  rw [a5V] at hl
  match xs, hxl, hx, hf with
  | [y0, y1, y2, y3], _, hx, hf =>
    obtain ⟨v0, h0, z0⟩ := (L9.of bulk_ (K9.int a1o)) _ enc m _ _ (hf 0 3 0 1 a5W)
    obtain ⟨v1, h1, z1⟩ := (L9.of bulk_ (K9.int a1o)) _ enc m _ _ (hf 1 3 1 1 a5Q)
    obtain ⟨v2, h2, z2⟩ := (L9.slice bulk_ a8p a6z (by decide) (L9.of bulk_ a4t)) _ enc m _ _ (hf 2 70 2 1 a5K)
    obtain ⟨v3, h3, z3⟩ := (L9.slice bulk_ a5f a4W (by decide) (L9.slice bulk_ a2C a7o (by decide) (L9.of bulk_ (K9.int a1o)))) _ enc m _ _ (hf 3 23 3 1 a5S)
    match cs, hl with
    | [c0, c1, c2, c3], _ =>
      replace h0 : [c0] = [.int .i64 v0] := h0
      have e0 := h0
      simp only [List.cons.injEq, and_true] at e0
      subst e0
      replace h1 : [c1] = [.int .i64 v1] := h1
      have e1 := h1
      simp only [List.cons.injEq, and_true] at e1
      subst e1
      obtain ⟨a2_0, k2_0, e2, q2_0⟩ := h2
      replace e2 : [c2] = [.slice a2_0 v2.length k2_0] := e2
      simp only [List.cons.injEq, and_true] at e2
      subst e2
      obtain ⟨a3_0, k3_0, e3, q3_0⟩ := h3
      replace e3 : [c3] = [.slice a3_0 v3.length k3_0] := e3
      simp only [List.cons.injEq, and_true] at e3
      subst e3
      have hz := bulk_.agg H [y0.1, y1.1, y2.1, y3.1]
      simp only [b2L, b4y, b3Q, List.sum_nil] at hz hx
      rw [← hx] at hz
      exact ⟨(B1.mk v0 v1 v2 v3), ⟨a2_0, k2_0, a3_0, k3_0, rfl, q2_0, q3_0⟩, by simp only [a1q]; omega⟩
theorem OBApiDay {W : World} : L9 Tryz.prog W 25 S6 a1J UB := by
  intro H enc fuel cs x h
  obtain ⟨xs, m, hm, hx, hl, hxl, hf⟩ := a0c stb25 h
  rw [a6B] at hl
  match xs, hxl, hx, hf with
  | [y0, y1], _, hx, hf =>
    obtain ⟨v0, h0, z0⟩ := (L9.slice bulk_ a7Q a5V (by decide) OBApiTrain) _ enc m _ _ (hf 0 22 0 1 a5M)
    obtain ⟨v1, h1, z1⟩ := (L9.slice bulk_ a5f a4W (by decide) (L9.slice bulk_ a2C a7o (by decide) (L9.of bulk_ (K9.int a1o)))) _ enc m _ _ (hf 1 23 1 1 a5U)
    match cs, hl with
    | [c0, c1], _ =>
      obtain ⟨a0_0, k0_0, e0, q0_0⟩ := h0
      replace e0 : [c0] = [.slice a0_0 v0.length k0_0] := e0
      simp only [List.cons.injEq, and_true] at e0
      subst e0
      obtain ⟨a1_0, k1_0, e1, q1_0⟩ := h1
      replace e1 : [c1] = [.slice a1_0 v1.length k1_0] := e1
      simp only [List.cons.injEq, and_true] at e1
      subst e1
      have hz := bulk_.agg H [y0.1, y1.1]
      simp only [b2L, b4y, b3Q, List.sum_nil] at hz hx
      rw [← hx] at hz
      exact ⟨(B0.mk v0 v1), ⟨a0_0, k0_0, a1_0, k1_0, rfl, q0_0, q1_0⟩, by simp only [a1J]; omega⟩
theorem OBGuideJourney {W : World} : L9 Tryz.prog W 42 D9 X0 UB := by
  intro H enc fuel cs x h
  obtain ⟨xs, m, hm, hx, hl, hxl, hf⟩ := a0c stb42 h
  rw [a7c] at hl
  match xs, hxl, hx, hf with
  | [y0], _, hx, hf =>
    obtain ⟨v0, h0, z0⟩ := (L9.slice bulk_ a8k a6A (by decide) (L9.of bulk_ a2q)) _ enc m _ _ (hf 0 40 0 1 a5T)
    match cs, hl with
    | [c0], _ =>
      obtain ⟨a0_0, k0_0, e0, q0_0⟩ := h0
      replace e0 : [c0] = [.slice a0_0 v0.length k0_0] := e0
      simp only [List.cons.injEq, and_true] at e0
      subst e0
      have hz := bulk_.agg H [y0.1]
      simp only [b2L, b4y, b3Q, List.sum_nil] at hz hx
      rw [← hx] at hz
      exact ⟨(A3.mk v0), ⟨a0_0, k0_0, rfl, q0_0⟩, by simp only [X0]; omega⟩
theorem tab_ {W : World} (h : laidMetH Tryz.prog Rows.guideDesksUptoRow.laid W) : Lib.TabIs Tryz.prog W "internal/strconv.uint64pow10" .u64 Lib.pow10Tab := by
  rw [MakeChecks.laidMetH_plain _ _ _ (by kernel_rfl)] at h
  obtain ⟨g, hg⟩ : ∃ g, Tryz.prog.globalNamed "internal/strconv.uint64pow10" = some g := Option.isSome_iff_exists.1 (by kernel_rfl)
  obtain ⟨t, ht⟩ : ∃ t, (Tryz.prog.globals[g]?).map (·.type) = some t := Option.isSome_iff_exists.1 (by
    have e : ((Tryz.prog.globalNamed "internal/strconv.uint64pow10").bind fun g => (Tryz.prog.globals[g]?).map (·.type)).isSome = true := by kernel_rfl
    rw [hg] at e; exact e)
  have e1 : ((Tryz.prog.globalNamed "internal/strconv.uint64pow10").bind fun g => (Tryz.prog.globals[g]?).map (·.type)) = some 209 := by kernel_rfl
  rw [hg, Option.bind_some, ht] at e1
  obtain rfl := Option.some.inj e1
  exact Lib.tabIs_of_head (n := 20) (e := 190) hg ht (by kernel_rfl) (by kernel_rfl) (by kernel_rfl) (by kernel_rfl) (laidMet.tail (laidMet.tail h))

theorem door_met (os : Os) (args : Array Value) : laidMetH Tryz.prog Rows.guideDesksUptoRow.laid ((World.doorLaid Tryz.prog 4000 os).forCall (fun _ _ => 0) ⟨#[], args, []⟩).memory :=
  laidMetH_of_parts3 (fuel := 8) (laidMet_of_run' 8 (by kernel_rfl) (by kernel_rfl)) (by kernel_rfl) (by kernel_rfl)

set_option maxRecDepth 100000 in
theorem guideDesks_lifted (os : Os) (started : os.Started) (H : Type) (enc : TypeId × Value → H) (F : Stop.Interp) :
    ReturnsInHanded {} Tryz.checked os 3 .any (fun w args => ((Rows.OpenSpec.upto Rows.guideDesksSpec).pre enc Tryz.prog Tryz.f3 [] false w args ∧ laidMetH Tryz.prog Rows.guideDesksUptoRow.laid w) ∧ sizedMet enc Tryz.prog Tryz.f3 (Rows.OpenSpec.upto Rows.guideDesksSpec) false w args) (((Rows.OpenSpec.upto Rows.guideDesksSpec).at F).post enc Tryz.prog Tryz.f3 false true false false) := by
  refine a6Y (C := Tryz.checked) (s := (Rows.OpenSpec.upto Rows.guideDesksSpec)) (k := Rows.uptoSmall) (X := fun w _ => laidMetH Tryz.prog Rows.guideDesksUptoRow.laid w) rfl (fun _ _ _ hh h => h.of_heap hh) own_ started (by kernel_rfl) Tryz.func3
    (a3i (enc := enc) (C := Tryz.checked) (os := os) (s := (Rows.OpenSpec.upto Rows.guideDesksSpec)) (k := Rows.uptoSmall) (X := fun w _ => laidMetH Tryz.prog Rows.guideDesksUptoRow.laid w) rfl false (World.doorLaid Tryz.prog 4000 os) #[.agg #[.slice none 0 0, .slice none 0 0], .int .i64 0, .slice none 0 0, .slice none 0 0, .slice none 0 0] 8 rfl (World.shaped_of_RefB (by kernel_rfl) (by kernel_rfl)) (by kernel_rfl)
      (x := ([.agg [.nil, .nil], .lit (.int .i64 0), .nil, .nil, .nil], [], [])) (by kernel_rfl) rfl (by kernel_rfl) (by kernel_rfl) (door_met os _)) ?_
  intro W base args ds gs before hval0 hW _ hk hL _
  have hTab0 := a0S.start (tab_ hL)
  have hW' := hW
  obtain ⟨p, q, hA0, hV, rfl, hfz, hnd⟩ := hW
  have hA : DataW.TrodAll enc Tryz.prog W 0 (fun _ => true) true Tryz.f3.params.toList args.toList ds p := hA0
  rw [Tryz.params3] at hA
  obtain ⟨v0, v1, v2, v3, v4, d0, d1, d2, d3, d4, p0, p1, p2, p3, p4, rfl, rfl, rfl, g0, g1, g2, g3, g4⟩ := trodAll_five hA
  obtain ⟨rfl, rfl⟩ := trodVars_none hV
  have hk2 := of_decide_eq_true hk
  simp only [List.append_nil, Rows.uptoBulkAll] at hk2
  obtain ⟨cs0, x0, rfl, h0, z0⟩ := a3R Tryz.underlying25 OBApiDay (hval0 0 25 v0 rfl rfl) g0
  have i0 := a8M a4v g0 h0
  obtain ⟨_, _, _, _, rfl, h0_0, h0_1⟩ := h0
  obtain ⟨x1, rfl, hx1⟩ := a7Z Tryz.underlying3 (hval0 1 3 v1 rfl rfl)
  obtain ⟨a2, c2, x2, rfl, h2, z2⟩ := a1t a7T (L9.slice bulk_ a7T a6B (by decide) OBApiDay) (hval0 2 26 v2 rfl rfl) g2
  have i2 := a3T (I8.slice a7T a6B (by decide) a4v) g2 h2
  obtain ⟨a3, c3, x3, rfl, h3, z3⟩ := a1t a8E (L9.slice bulk_ a8E a7c (by decide) OBGuideJourney) (hval0 3 27 v3 rfl rfl) g3
  have i3 := a3T (I8.slice a8E a7c (by decide) a2m) g3 h3
  obtain ⟨a4, c4, x4, rfl, h4, z4⟩ := a1t a2C (L9.slice bulk_ a2C a7o (by decide) (L9.of bulk_ (K9.int a1o))) (hval0 4 28 v4 rfl rfl) g4
  have i4 := a3T (I8.slice a2C a7o (by decide) (I8.int a1o)) g4 h4
  obtain ⟨fu, hfu⟩ := GuideDesks_law x0 x1 x2 x3 x4 h0_0.small h0_1.small hx1 h2.small h3.small h4.small i0 i2 i3 i4 (b4W z0 (by show Rows.uptoBulk d0 ≤ _; omega)) (b4W z2 (by show Rows.uptoBulk d2 ≤ _; omega)) (b4W z3 (by show Rows.uptoBulk d3 ≤ _; omega)) (b4W z4 (by show Rows.uptoBulk d4 ≤ _; omega))
  refine (a0l (St.start W) hTab0 h0_0 h0_1 h2 h3 h4 hfu).mono fun e W' ⟨he, hS⟩ => ?_
  exact ⟨_, he, a6X laidOut_ hS hW' rfl ⟨rfl, rfl, rfl⟩ (by kernel_rfl) rfl b1y⟩

theorem guideDesks_row : Rows.GuideDesksUptoSaid :=
  OpenClaim.holds_of_cond 3 Tryz.f3 rfl rfl rfl rfl rfl rfl rfl ⟨rfl, rfl, rfl, rfl, rfl⟩ rfl rfl rfl rfl rfl (by kernel_rfl) Tryz.func3 (by kernel_rfl)
    (of_decide_eq_true (by kernel_rfl)) (by unfold Func.isWrapper; first | (rw [if_pos (by decide +kernel)]; kernel_rfl) | (rw [if_neg (by decide +kernel)]; exact ⟨rfl, rfl⟩))
    (fun os started H enc _ F => guideDesks_lifted os started H enc F)

theorem guideDesks_holds : Rows.GuideDesksUptoCardSaid :=
  Claim7.holds_tied_plain_at .later [] [.data, .data, .data] true (true, "99bbc10641f90e235a990791630f09570c380b20bc69f5f5f222b6070d822c27") false
    guideDesks_row (fun _ h => by cases h) (by kernel_rfl) (fun _ h => by cases h) guideDesksUpto_row_tie rfl ⟨rfl, rfl⟩ (by kernel_rfl) rfl
    (fun f fn hf hfn => by
      obtain rfl : f = 3 := Option.some.inj ((show Tryz.prog.funcNamed "fishplate/fishlaw2.GuideDesks" = some 3 by kernel_rfl).symm.trans hf) |>.symm
      obtain rfl : fn = Tryz.f3 := (Option.some.inj (Tryz.func3.symm.trans hfn)).symm
      exact ⟨by kernel_rfl, fun j t ht => by
        rw [Tryz.params3] at ht
        have hm : t ∈ [25, 3, 26, 27, 28] := by simpa using Array.mem_of_getElem? ht
        have hall : ([25, 3, 26, 27, 28].all fun u => !Tryz.prog.wantsStandIn u) = true := by kernel_rfl
        exact (show Tryz.prog.wantsStandIn t = false by simpa using List.all_eq_true.1 hall t hm)⟩)
    (by kernel_rfl)

end Go.Proofs.YthllfhmpjclplaaGreatDoor
