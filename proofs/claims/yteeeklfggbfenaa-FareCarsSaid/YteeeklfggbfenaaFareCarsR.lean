/- FareCars: whatever the input, the law returns true, and the input reads as it did. No condition. -/
import Derived.Test.YteeeklfggbfenaaRows
import Derived.Test.YteeeklfggbfenaaFareCarsW
import Derived.Test.YteeeklfggbfenaaFareCarsO
import Derived.Test.YteeeklfggbfenaaFareCarsL
import Derived.Test.YteeeklfggbfenaaFpReach
import Derived.ProofKit
import Derived.HandedShaped
namespace Go.Proofs.Yteeeklfggbfenaa
open Go.ChangeShapes Go.WideShapes Go.ChangeAt Go.RowKit Go.Fp

theorem own_ : ownKnob Try.prog.godebug = none := by kernel_rfl
theorem laidOut_ : laidOutB Try.prog = true := by kernel_rfl

set_option maxRecDepth 100000 in
theorem fareCars_lifted (os : Os) (started : os.Started) (H : Type) (enc : TypeId × Value → H) :
    ReturnsInHanded {} Try.checked os 3 .any (Rows.fareCarsSpec.pre6 enc Try.prog Try.f3 Rows.fareCarsRow.domain false) (Rows.fareCarsSpec.post enc Try.prog Try.f3 false true false false) := by
  refine returnsInHanded_of_change_shaped (C := Try.checked) own_ started (by kernel_rfl) Try.func3
    (ChangeSpec.witness6 (enc := enc) (C := Try.checked) false ⟨#[], #[.int .i64 0, .int .i64 0, .int .i64 0, .slice none 0 0], []⟩ 8 (by kernel_rfl) (by kernel_rfl) (by kernel_rfl) (by kernel_rfl)) ?_
  intro W base args ds gs before hval0 hW hcnd hwt _ _
  have hW' := hW
  obtain ⟨p, q, hA0, hV, rfl, hfz, hnd⟩ := hW
  have hA : DataW.TrodAll enc Try.prog W 0 (fun _ => true) true Try.f3.params.toList args.toList ds p := hA0
  rw [Try.params3] at hA
  obtain ⟨v0, v1, v2, v3, d0, d1, d2, d3, p0, p1, p2, p3, rfl, rfl, rfl, g0, g1, g2, g3⟩ := trodAll_four hA
  obtain ⟨rfl, rfl⟩ := trodVars_none hV
  have hw3 : ∀ k ∈ DataW.weights Try.prog 22 d3, k ≤ reachBytes := fun k hk => by simpa using List.all_eq_true.1 hwt k (weightsEach_mem 3 rfl rfl hk)
  obtain ⟨x0, rfl, hx0⟩ := arg_int Try.underlying3 (hval0 0 3 v0 rfl rfl)
  obtain ⟨x1, rfl, hx1⟩ := arg_int Try.underlying3 (hval0 1 3 v1 rfl rfl)
  obtain ⟨x2, rfl, hx2⟩ := arg_int Try.underlying3 (hval0 2 3 v2 rfl rfl)
  obtain ⟨a3, c3, x3, rfl, h3, h3r⟩ := arg_sliceW und22 (OpensW.slice und22 cel3 (by decide) (kk := 8) (by kernel_rfl) (OpensW.of (Opens.int und3))) (hval0 3 22 v3 rfl rfl) g3 hw3
  obtain ⟨fu, hfu⟩ := FareCars_law x0 x1 x2 x3 hx0 hx1 hx2 h3r
  refine (Fishlaw2FareCars_ok (St.start W) h3 hfu).mono fun e W' ⟨he, hS⟩ => ?_
  exact ⟨_, he, post_law laidOut_ hS hW' rfl ⟨rfl, rfl, rfl⟩ (by kernel_rfl) rfl und4⟩

theorem fareCars_holds : Rows.FareCarsSaid :=
  OpenClaim.holds_of_wide 3 Try.f3 rfl rfl rfl rfl rfl rfl rfl ⟨rfl, rfl, rfl, rfl, rfl⟩ rfl rfl rfl rfl rfl (by kernel_rfl) Try.func3 (by kernel_rfl)
    (of_decide_eq_true (by kernel_rfl)) (by unfold Func.isWrapper; first | (rw [if_pos (by decide +kernel)]; kernel_rfl) | (rw [if_neg (by decide +kernel)]; exact ⟨rfl, rfl⟩))
    (fun os started H enc _ => fareCars_lifted os started H enc)

end Go.Proofs.Yteeeklfggbfenaa
