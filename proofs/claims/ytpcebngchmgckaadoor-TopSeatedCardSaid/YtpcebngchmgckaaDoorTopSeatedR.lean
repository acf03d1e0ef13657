/- TopSeated: whatever the input, the law returns true, and the input reads as it did. No condition. -/
import Derived.Test.YtpcebngchmgckaaDoorRows
import Derived.Test.YtpcebngchmgckaaDoorTie
import Derived.Test.YtpcebngchmgckaaDoorCards
import Derived.Test.YtpcebngchmgckaaDoorTopSeatedW
import Derived.Test.YtpcebngchmgckaaDoorTopSeatedO
import Derived.Test.YtpcebngchmgckaaDoorTopSeatedL
import Derived.ProofKit
import Derived.LaidMore
import Derived.OpenShut
import Derived.Stop.Joined
import Derived.SevenTiedAt
import Derived.Stop.LaidErr
namespace Go.Proofs.YtpcebngchmgckaaDoor
open Go.ChangeShapes Go.WideShapes Go.ChangeAt Go.RowKit Go.Fp

theorem trodAll_five {H : Type} {enc : TypeId × Value → H} {P : Program} {w : World} {base : Nat} {spare : Nat → Bool} {held : Bool} {t0 t1 t2 t3 t4 : TypeId} {args : Array Value} {ds : List (DataW H)} {ps : List MemPlace} (h : DataW.TrodAll enc P w base spare held [t0, t1, t2, t3, t4] args.toList ds ps) :
    ∃ v0 v1 v2 v3 v4 d0 d1 d2 d3 d4 p0 p1 p2 p3 p4, args = #[v0, v1, v2, v3, v4] ∧ ds = [d0, d1, d2, d3, d4] ∧ ps = p0 ++ p1 ++ p2 ++ p3 ++ p4 ∧ DataW.Trod enc P w base spare held t0 v0 d0 p0 ∧ DataW.Trod enc P w base spare held t1 v1 d1 p1 ∧ DataW.Trod enc P w base spare held t2 v2 d2 p2 ∧ DataW.Trod enc P w base spare held t3 v3 d3 p3 ∧ DataW.Trod enc P w base spare held t4 v4 d4 p4 := by
  obtain ⟨v0, vs0, d0, ds0, p0, q0, hargs, rfl, rfl, h0, k0⟩ := trodAll_cons h
  obtain ⟨v1, vs1, d1, ds1, p1, q1, rfl, rfl, rfl, h1, k1⟩ := trodAll_cons k0
  obtain ⟨v2, vs2, d2, ds2, p2, q2, rfl, rfl, rfl, h2, k2⟩ := trodAll_cons k1
  obtain ⟨v3, vs3, d3, ds3, p3, q3, rfl, rfl, rfl, h3, k3⟩ := trodAll_cons k2
  obtain ⟨v4, vs4, d4, ds4, p4, q4, rfl, rfl, rfl, h4, k4⟩ := trodAll_cons k3
  obtain ⟨rfl, rfl, rfl⟩ := trodAll_nil k4
  exact ⟨v0, v1, v2, v3, v4, d0, d1, d2, d3, d4, p0, p1, p2, p3, p4, by cases args; simp_all, rfl, by simp, h0, h1, h2, h3, h4⟩

theorem own_ : ownKnob Tryd.prog.godebug = none := by kernel_rfl
theorem laidOut_ : laidOutB Tryd.prog = true := by kernel_rfl

theorem tab_ {W : World} (h : laidMetH Tryd.prog Rows.topSeatedRow.laid W) : Lib.TabIs Tryd.prog W "internal/strconv.uint64pow10" .u64 Lib.pow10Tab := by
  rw [MakeChecks.laidMetH_plain _ _ _ (by kernel_rfl)] at h
  obtain ⟨g, hg⟩ : ∃ g, Tryd.prog.globalNamed "internal/strconv.uint64pow10" = some g := Option.isSome_iff_exists.1 (by kernel_rfl)
  obtain ⟨t, ht⟩ : ∃ t, (Tryd.prog.globals[g]?).map (·.type) = some t := Option.isSome_iff_exists.1 (by
    have e : ((Tryd.prog.globalNamed "internal/strconv.uint64pow10").bind fun g => (Tryd.prog.globals[g]?).map (·.type)).isSome = true := by kernel_rfl
    rw [hg] at e; exact e)
  have e1 : ((Tryd.prog.globalNamed "internal/strconv.uint64pow10").bind fun g => (Tryd.prog.globals[g]?).map (·.type)) = some 234 := by kernel_rfl
  rw [hg, Option.bind_some, ht] at e1
  obtain rfl := Option.some.inj e1
  exact Lib.tabIs_of_head (n := 20) (e := 197) hg ht (by kernel_rfl) (by kernel_rfl) (by kernel_rfl) (by kernel_rfl) (laidMet.tail (laidMet.tail h))

theorem door_met (os : Os) (args : Array Value) : laidMetH Tryd.prog Rows.topSeatedRow.laid ((World.doorLaid Tryd.prog 4000 os).forCall (fun _ _ => 0) ⟨#[], args, []⟩).memory :=
  laidMetH_of_parts3 (fuel := 8) (laidMet_of_run' 8 (by kernel_rfl) (by kernel_rfl)) (by kernel_rfl) (by kernel_rfl)

set_option maxRecDepth 100000 in
theorem topSeated_lifted (os : Os) (started : os.Started) (H : Type) (enc : TypeId × Value → H) :
    ReturnsInHanded {} Tryd.checked os 9 .any (fun w args => (Rows.topSeatedSpec.pre enc Tryd.prog Tryd.f9 [] false w args ∧ laidMetH Tryd.prog Rows.topSeatedRow.laid w) ∧ sizedMet enc Tryd.prog Tryd.f9 (OpenSpec.ofChange Rows.topSeatedSpec) false w args) (Rows.topSeatedSpec.post enc Tryd.prog Tryd.f9 false true false false) := by
  refine returnsInHanded_of_change_and (C := Tryd.checked) (X := fun w _ => laidMetH Tryd.prog Rows.topSeatedRow.laid w) (fun _ _ _ hh h => h.of_heap hh) own_ started (by kernel_rfl) Tryd.func9
    (ChangeSpec.witness_shaped (enc := enc) (C := Tryd.checked) (os := os) (X := fun w _ => laidMetH Tryd.prog Rows.topSeatedRow.laid w) false (World.doorLaid Tryd.prog 4000 os) #[.agg #[.slice none 0 0, .slice none 0 0], .slice none 0 0, .int .i64 0, .int .i64 0, .slice none 0 0] 8 rfl (World.shaped_of_RefB (by kernel_rfl) (by kernel_rfl)) (by kernel_rfl) (by kernel_rfl) (by kernel_rfl) (door_met os _)) ?_
  intro W base args ds gs before hval0 hW _ _ hL _
  have hTab0 := TabS.start (tab_ hL)
  have hW' := hW
  obtain ⟨p, q, hA0, hV, rfl, hfz, hnd⟩ := hW
  have hA : DataW.TrodAll enc Tryd.prog W 0 (fun _ => true) true Tryd.f9.params.toList args.toList ds p := hA0
  rw [Tryd.params9] at hA
  obtain ⟨v0, v1, v2, v3, v4, d0, d1, d2, d3, d4, p0, p1, p2, p3, p4, rfl, rfl, rfl, g0, g1, g2, g3, g4⟩ := trodAll_five hA
  obtain ⟨rfl, rfl⟩ := trodVars_none hV
  obtain ⟨cs0, x0, rfl, h0⟩ := arg_struct Tryd.underlying25 OApiDay (hval0 0 25 v0 rfl rfl) g0
  have i0 := arg_inS OIApiDay g0 h0
  obtain ⟨_, _, _, _, rfl, h0_0, h0_1⟩ := h0
  obtain ⟨a1, c1, x1, rfl, h1⟩ := arg_slice und39 (Opens.slice und39 cel28 (by decide) OGuideJourney) (hval0 1 39 v1 rfl rfl) g1
  have i1 := arg_inL (OpensI.slice und39 cel28 (by decide) OIGuideJourney) g1 h1
  obtain ⟨x2, rfl, hx2⟩ := arg_int Tryd.underlying3 (hval0 2 3 v2 rfl rfl)
  obtain ⟨x3, rfl, hx3⟩ := arg_int Tryd.underlying3 (hval0 3 3 v3 rfl rfl)
  obtain ⟨a4, c4, x4, rfl, h4⟩ := arg_slice und45 (Opens.slice und45 cel3 (by decide) (Opens.int und3)) (hval0 4 45 v4 rfl rfl) g4
  have i4 := arg_inL (OpensI.slice und45 cel3 (by decide) (OpensI.int und3)) g4 h4
  obtain ⟨fu, hfu⟩ := TopSeated_law x0 x1 x2 x3 x4 h0_0.small h0_1.small h1.small hx2 hx3 h4.small i0 i1 i4
  refine (FishtopTopSeated_ok (St.start W) hTab0 h0_0 h0_1 h1 h4 hfu).mono fun e W' ⟨he, hS⟩ => ?_
  exact ⟨_, he, post_law laidOut_ hS hW' rfl ⟨rfl, rfl, rfl⟩ (by kernel_rfl) rfl und4⟩

theorem topSeated_row : Rows.TopSeatedSaid :=
  OpenClaim.holds_of_wide 9 Tryd.f9 rfl rfl rfl rfl rfl rfl rfl ⟨rfl, rfl, rfl, rfl, rfl⟩ rfl rfl rfl rfl rfl (by kernel_rfl) Tryd.func9 (by kernel_rfl)
    (of_decide_eq_true (by kernel_rfl)) (by unfold Func.isWrapper; first | (rw [if_pos (by decide +kernel)]; kernel_rfl) | (rw [if_neg (by decide +kernel)]; exact ⟨rfl, rfl⟩))
    (fun os started H enc _ => topSeated_lifted os started H enc)

theorem topSeated_holds : Rows.TopSeatedCardSaid :=
  Claim7.holds_tied_plain_at .later [] [.data, .data, .data] true (true, "34f372ad5ae35625c18494ceaa561cd2e4db1feba48bf7d4c179f0694dc7861a") false
    topSeated_row (fun _ h => by cases h) (by kernel_rfl) (fun _ h => by cases h) topSeated_row_tie rfl ⟨rfl, rfl⟩ (by kernel_rfl) rfl
    (fun f fn hf hfn => by
      obtain rfl : f = 9 := Option.some.inj ((show Tryd.prog.funcNamed "fishplate/fishtop.TopSeated" = some 9 by kernel_rfl).symm.trans hf) |>.symm
      obtain rfl : fn = Tryd.f9 := (Option.some.inj (Tryd.func9.symm.trans hfn)).symm
      exact ⟨by kernel_rfl, fun j t ht => by
        rw [Tryd.params9] at ht
        have hm : t ∈ [25, 39, 3, 3, 45] := by simpa using Array.mem_of_getElem? ht
        have hall : ([25, 39, 3, 3, 45].all fun u => !Tryd.prog.wantsStandIn u) = true := by kernel_rfl
        exact (show Tryd.prog.wantsStandIn t = false by simpa using List.all_eq_true.1 hall t hm)⟩)
    (by kernel_rfl)

end Go.Proofs.YtpcebngchmgckaaDoor
