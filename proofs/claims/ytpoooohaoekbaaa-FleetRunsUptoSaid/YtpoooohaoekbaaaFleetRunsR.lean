/- FleetRuns: whatever the input, the law returns true, and the input reads as it did. No condition. -/
import Derived.Test.YtpoooohaoekbaaaRows
import Derived.Test.YtpoooohaoekbaaaFleetRunsW
import Derived.Test.YtpoooohaoekbaaaFleetRunsO
import Derived.Test.YtpoooohaoekbaaaFleetRunsL
import Derived.Test.YtpoooohaoekbaaaFpBulk
import Derived.ProofKit
import Derived.JoinedCond
namespace Go.Proofs.Ytpoooohaoekbaaa
open Go.ChangeShapes Go.WideShapes Go.ChangeAt Go.RowKit Go.Fp

theorem own_ : ownKnob Try.prog.godebug = none := by kernel_rfl
theorem laidOut_ : laidOutB Try.prog = true := by kernel_rfl

theorem bulk_ : Bulk (fun H d => Rows.uptoBulk (H := H) d) := by
  have all : ∀ (H : Type) (l : List (DataW H)), (l.map (fun d => Rows.uptoBulk d)).sum = Rows.uptoBulkAll l := by
    intro H l
    induction l with
    | nil => simp [Rows.uptoBulkAll]
    | cons x l ih => simp [Rows.uptoBulkAll, ih]
  refine ⟨?_, ?_⟩
  · intro H d
    cases d with
    | lit l => cases l <;> simp [Rows.uptoBulk]
    | nil => simp [Rows.uptoBulk]
    | ptr d => simp [Rows.uptoBulk]
    | slice elems spare => simp [Rows.uptoBulk]
    | agg parts => simp [Rows.uptoBulk]
    | iface t d => simp [Rows.uptoBulk]
    | map entries => simp [Rows.uptoBulk]
    | held h => simp [Rows.uptoBulk]
  · intro H elems spare
    simp only [Rows.uptoBulk]
    rw [all]
    omega

set_option maxRecDepth 100000 in
theorem fleetRuns_lifted (os : Os) (started : os.Started) (H : Type) (enc : TypeId × Value → H) (F : Stop.Interp) :
    ReturnsInHanded {} Try.checked os 8 .any ((Rows.OpenSpec.upto Rows.fleetRunsSpec).pre6 enc Try.prog Try.f8 Rows.fleetRunsUptoRow.domain false) (((Rows.OpenSpec.upto Rows.fleetRunsSpec).at F).post enc Try.prog Try.f8 false true false false) := by
  refine returnsInHanded_of_cond (C := Try.checked) (s := Rows.OpenSpec.upto Rows.fleetRunsSpec) (k := Rows.uptoSmall) rfl own_ started (by kernel_rfl) Try.func8
    (OpenSpec.witness (enc := enc) (C := Try.checked) (s := Rows.OpenSpec.upto Rows.fleetRunsSpec) (k := Rows.uptoSmall) rfl false ⟨#[], #[.slice none 0 0, .slice none 0 0], []⟩ 8 (by kernel_rfl) (by kernel_rfl) (by kernel_rfl)
      (x := ([.nil, .nil], [], [])) (by kernel_rfl) rfl (by kernel_rfl)) ?_
  intro W base args ds gs before hval0 hW _ hk _
  have hW' := hW
  obtain ⟨p, q, hA0, hV, rfl, hfz, hnd⟩ := hW
  have hA : DataW.TrodAll enc Try.prog W 0 (fun _ => true) true Try.f8.params.toList args.toList ds p := hA0
  rw [Try.params8] at hA
  obtain ⟨v0, v1, d0, d1, p0, p1, rfl, rfl, rfl, g0, g1⟩ := trodAll_two hA
  obtain ⟨rfl, rfl⟩ := trodVars_none hV
  have hk2 := of_decide_eq_true hk
  simp only [List.append_nil, Rows.uptoBulkAll] at hk2
  obtain ⟨a0, c0, x0, rfl, h0, z0⟩ := arg_sliceB und33 (OpensB.slice bulk_ und33 cel84 (by decide) (OpensB.of bulk_ OFleetTask)) (hval0 0 33 v0 rfl rfl) g0
  obtain ⟨a1, c1, x1, rfl, h1, z1⟩ := arg_sliceB und23 (OpensB.slice bulk_ und23 cel22 (by decide) (OpensB.slice bulk_ und22 cel3 (by decide) (OpensB.of bulk_ (Opens.int und3)))) (hval0 1 23 v1 rfl rfl) g1
  obtain ⟨fu, hfu⟩ := FleetRuns_law x0 x1 h0.small h1.small h1.small2 (Nat.le_trans z0 (by omega)) (Nat.le_trans z1 (by omega))
  refine (Fishlaw2FleetRuns_ok (St.start W) h0 h1 hfu).mono fun e W' ⟨he, hS⟩ => ?_
  exact ⟨_, he, post_law laidOut_ hS hW' rfl ⟨rfl, rfl, rfl⟩ (by kernel_rfl) rfl und4⟩

theorem fleetRuns_holds : Rows.FleetRunsUptoSaid :=
  OpenClaim.holds_of_cond 8 Try.f8 rfl rfl rfl rfl rfl rfl rfl ⟨rfl, rfl, rfl, rfl, rfl⟩ rfl rfl rfl rfl rfl (by kernel_rfl) Try.func8 (by kernel_rfl)
    (of_decide_eq_true (by kernel_rfl)) (by unfold Func.isWrapper; first | (rw [if_pos (by decide +kernel)]; kernel_rfl) | (rw [if_neg (by decide +kernel)]; exact ⟨rfl, rfl⟩))
    (fun os started H enc _ F => fleetRuns_lifted os started H enc F)

end Go.Proofs.Ytpoooohaoekbaaa
