/- What the arguments of the law read as. No condition. -/
import Derived.Test.YtdioaeeaifahnaaProg
import Derived.Test.YtdioaeeaifahnaaFareCheapestM
import Derived.Test.YtdioaeeaifahnaaFpOpen
namespace Go.Proofs.Ytdioaeeaifahnaa
open Go Go.Fp
theorem cel108 : Try.prog.cellsOf 108 = 2 := by kernel_rfl
theorem cel111 : Try.prog.cellsOf 111 = 4 := by kernel_rfl
theorem cel113 : Try.prog.cellsOf 113 = 7 := by kernel_rfl
theorem cel25 : Try.prog.cellsOf 25 = 4 := by kernel_rfl
theorem cel3 : Try.prog.cellsOf 3 = 1 := by kernel_rfl
theorem cel93 : Try.prog.cellsOf 93 = 6 := by kernel_rfl
theorem cel97 : Try.prog.cellsOf 97 = 3 := by kernel_rfl
theorem fb108_0 : fieldB Try.prog 108 0 3 0 1 = true := by kernel_rfl
theorem fb108_1 : fieldB Try.prog 108 1 3 1 1 = true := by kernel_rfl
theorem fb111_0 : fieldB Try.prog 111 0 3 0 1 = true := by kernel_rfl
theorem fb111_1 : fieldB Try.prog 111 1 3 1 1 = true := by kernel_rfl
theorem fb111_2 : fieldB Try.prog 111 2 3 2 1 = true := by kernel_rfl
theorem fb111_3 : fieldB Try.prog 111 3 109 3 1 = true := by kernel_rfl
theorem fb113_0 : fieldB Try.prog 113 0 111 0 4 = true := by kernel_rfl
theorem fb113_1 : fieldB Try.prog 113 1 3 4 1 = true := by kernel_rfl
theorem fb113_2 : fieldB Try.prog 113 2 3 5 1 = true := by kernel_rfl
theorem fb113_3 : fieldB Try.prog 113 3 4 6 1 = true := by kernel_rfl
theorem fb25_0 : fieldB Try.prog 25 0 4 0 1 = true := by kernel_rfl
theorem fb25_1 : fieldB Try.prog 25 1 22 1 1 = true := by kernel_rfl
theorem fb25_2 : fieldB Try.prog 25 2 3 2 1 = true := by kernel_rfl
theorem fb25_3 : fieldB Try.prog 25 3 23 3 1 = true := by kernel_rfl
theorem fb93_0 : fieldB Try.prog 93 0 3 0 1 = true := by kernel_rfl
theorem fb93_1 : fieldB Try.prog 93 1 3 1 1 = true := by kernel_rfl
theorem fb93_2 : fieldB Try.prog 93 2 3 2 1 = true := by kernel_rfl
theorem fb93_3 : fieldB Try.prog 93 3 3 3 1 = true := by kernel_rfl
theorem fb93_4 : fieldB Try.prog 93 4 4 4 1 = true := by kernel_rfl
theorem fb93_5 : fieldB Try.prog 93 5 41 5 1 = true := by kernel_rfl
theorem fb97_0 : fieldB Try.prog 97 0 3 0 1 = true := by kernel_rfl
theorem fb97_1 : fieldB Try.prog 97 1 3 1 1 = true := by kernel_rfl
theorem fb97_2 : fieldB Try.prog 97 2 41 2 1 = true := by kernel_rfl
theorem und109 : Try.prog.underlying 109 = some (.slice 111) := by kernel_rfl
theorem und22 : Try.prog.underlying 22 = some (.slice 108) := by kernel_rfl
theorem und23 : Try.prog.underlying 23 = some (.slice 113) := by kernel_rfl
theorem und26 : Try.prog.underlying 26 = some (.slice 93) := by kernel_rfl
theorem und27 : Try.prog.underlying 27 = some (.slice 97) := by kernel_rfl
theorem und3 : Try.prog.underlying 3 = some (.int .i64) := by kernel_rfl
theorem und4 : Try.prog.underlying 4 = some .bool := by kernel_rfl
theorem und41 : Try.prog.underlying 41 = some (.slice 3) := by kernel_rfl
theorem OFareBand {W : World} : Opens Try.prog W 108 RFareBand := by
  intro H enc fuel cs x h
  obtain ⟨hl, v0, h0⟩ := Opens.field fb108_0 (Opens.int und3) h
  obtain ⟨_, v1, h1⟩ := Opens.field fb108_1 (Opens.int und3) h
  rw [cel108] at hl
  match cs, hl with
  | [c0, c1], _ =>
    replace h0 : [c0] = [.int .i64 v0] := h0
    have e0 := h0
    simp only [List.cons.injEq, and_true] at e0
    subst e0
    replace h1 : [c1] = [.int .i64 v1] := h1
    have e1 := h1
    simp only [List.cons.injEq, and_true] at e1
    subst e1
    exact ⟨(FareBand.mk v0 v1), rfl⟩
theorem OFareCond {W : World} : Opens Try.prog W 111 RFareCond := OpensN.all fun N => by
  induction N with
  | zero => exact OpensN.zero
  | succ N ih =>
    intro H enc fuel cs x hF h
    obtain ⟨hl, v0, h0⟩ := OpensN.field fb111_0 (Opens.int und3).n hF h
    obtain ⟨_, v1, h1⟩ := OpensN.field fb111_1 (Opens.int und3).n hF h
    obtain ⟨_, v2, h2⟩ := OpensN.field fb111_2 (Opens.int und3).n hF h
    obtain ⟨_, v3, h3⟩ := OpensN.field fb111_3 (OpensN.slice und109 cel111 (by decide) ih) hF h
    rw [cel111] at hl
    match cs, hl with
    | [c0, c1, c2, c3], _ =>
      replace h0 : [c0] = [.int .i64 v0] := h0
      have e0 := h0
      simp only [List.cons.injEq, and_true] at e0
      subst e0
      replace h1 : [c1] = [.int .i64 v1] := h1
      have e1 := h1
      simp only [List.cons.injEq, and_true] at e1
      subst e1
      replace h2 : [c2] = [.int .i64 v2] := h2
      have e2 := h2
      simp only [List.cons.injEq, and_true] at e2
      subst e2
      obtain ⟨a3_0, k3_0, e3, q3_0⟩ := h3
      replace e3 : [c3] = [.slice a3_0 v3.length k3_0] := e3
      simp only [List.cons.injEq, and_true] at e3
      subst e3
      exact ⟨(FareCond.mk v0 v1 v2 v3), RFareCond.fold ⟨a3_0, k3_0, rfl, q3_0⟩⟩
theorem OFareRule {W : World} : Opens Try.prog W 113 RFareRule := by
  intro H enc fuel cs x h
  obtain ⟨hl, v0, h0⟩ := Opens.field fb113_0 OFareCond h
  obtain ⟨_, v1, h1⟩ := Opens.field fb113_1 (Opens.int und3) h
  obtain ⟨_, v2, h2⟩ := Opens.field fb113_2 (Opens.int und3) h
  obtain ⟨_, v3, h3⟩ := Opens.field fb113_3 (Opens.bool und4) h
  rw [cel113] at hl
  match cs, hl with
  | [c0, c1, c2, c3, c4, c5, c6], _ =>
    obtain ⟨a0_0, k0_0, e0, q0_0⟩ := h0.unf
    replace e0 : [c0, c1, c2, c3] = [.int .i64 v0.Kind, .int .i64 v0.A, .int .i64 v0.B, .slice a0_0 v0.Kids.length k0_0] := e0
    simp only [List.cons.injEq, and_true] at e0
    obtain ⟨rfl, rfl, rfl, rfl⟩ := e0
    replace h1 : [c4] = [.int .i64 v1] := h1
    have e1 := h1
    simp only [List.cons.injEq, and_true] at e1
    subst e1
    replace h2 : [c5] = [.int .i64 v2] := h2
    have e2 := h2
    simp only [List.cons.injEq, and_true] at e2
    subst e2
    replace h3 : [c6] = [.bool v3] := h3
    have e3 := h3
    simp only [List.cons.injEq, and_true] at e3
    subst e3
    exact ⟨(FareRule.mk v0 v1 v2 v3), a0_0, k0_0, rfl, q0_0⟩
theorem OFareTariff {W : World} : Opens Try.prog W 25 RFareTariff := by
  intro H enc fuel cs x h
  obtain ⟨hl, v0, h0⟩ := Opens.field fb25_0 (Opens.bool und4) h
  obtain ⟨_, v1, h1⟩ := Opens.field fb25_1 (Opens.slice und22 cel108 (by decide) OFareBand) h
  obtain ⟨_, v2, h2⟩ := Opens.field fb25_2 (Opens.int und3) h
  obtain ⟨_, v3, h3⟩ := Opens.field fb25_3 (Opens.slice und23 cel113 (by decide) OFareRule) h
  rw [cel25] at hl
  match cs, hl with
  | [c0, c1, c2, c3], _ =>
    replace h0 : [c0] = [.bool v0] := h0
    have e0 := h0
    simp only [List.cons.injEq, and_true] at e0
    subst e0
    obtain ⟨a1_0, k1_0, e1, q1_0⟩ := h1
    replace e1 : [c1] = [.slice a1_0 v1.length k1_0] := e1
    simp only [List.cons.injEq, and_true] at e1
    subst e1
    replace h2 : [c2] = [.int .i64 v2] := h2
    have e2 := h2
    simp only [List.cons.injEq, and_true] at e2
    subst e2
    obtain ⟨a3_0, k3_0, e3, q3_0⟩ := h3
    replace e3 : [c3] = [.slice a3_0 v3.length k3_0] := e3
    simp only [List.cons.injEq, and_true] at e3
    subst e3
    exact ⟨(FareTariff.mk v0 v1 v2 v3), a1_0, k1_0, a3_0, k3_0, rfl, q1_0, q3_0⟩
theorem OFareTrip {W : World} : Opens Try.prog W 93 RFareTrip := by
  intro H enc fuel cs x h
  obtain ⟨hl, v0, h0⟩ := Opens.field fb93_0 (Opens.int und3) h
  obtain ⟨_, v1, h1⟩ := Opens.field fb93_1 (Opens.int und3) h
  obtain ⟨_, v2, h2⟩ := Opens.field fb93_2 (Opens.int und3) h
  obtain ⟨_, v3, h3⟩ := Opens.field fb93_3 (Opens.int und3) h
  obtain ⟨_, v4, h4⟩ := Opens.field fb93_4 (Opens.bool und4) h
  obtain ⟨_, v5, h5⟩ := Opens.field fb93_5 (Opens.slice und41 cel3 (by decide) (Opens.int und3)) h
  rw [cel93] at hl
  match cs, hl with
  | [c0, c1, c2, c3, c4, c5], _ =>
    replace h0 : [c0] = [.int .i64 v0] := h0
    have e0 := h0
    simp only [List.cons.injEq, and_true] at e0
    subst e0
    replace h1 : [c1] = [.int .i64 v1] := h1
    have e1 := h1
    simp only [List.cons.injEq, and_true] at e1
    subst e1
    replace h2 : [c2] = [.int .i64 v2] := h2
    have e2 := h2
    simp only [List.cons.injEq, and_true] at e2
    subst e2
    replace h3 : [c3] = [.int .i64 v3] := h3
    have e3 := h3
    simp only [List.cons.injEq, and_true] at e3
    subst e3
    replace h4 : [c4] = [.bool v4] := h4
    have e4 := h4
    simp only [List.cons.injEq, and_true] at e4
    subst e4
    obtain ⟨a5_0, k5_0, e5, q5_0⟩ := h5
    replace e5 : [c5] = [.slice a5_0 v5.length k5_0] := e5
    simp only [List.cons.injEq, and_true] at e5
    subst e5
    exact ⟨(FareTrip.mk v0 v1 v2 v3 v4 v5), a5_0, k5_0, rfl, q5_0⟩
theorem OFarePass {W : World} : Opens Try.prog W 97 RFarePass := by
  intro H enc fuel cs x h
  obtain ⟨hl, v0, h0⟩ := Opens.field fb97_0 (Opens.int und3) h
  obtain ⟨_, v1, h1⟩ := Opens.field fb97_1 (Opens.int und3) h
  obtain ⟨_, v2, h2⟩ := Opens.field fb97_2 (Opens.slice und41 cel3 (by decide) (Opens.int und3)) h
  rw [cel97] at hl
  match cs, hl with
  | [c0, c1, c2], _ =>
    replace h0 : [c0] = [.int .i64 v0] := h0
    have e0 := h0
    simp only [List.cons.injEq, and_true] at e0
    subst e0
    replace h1 : [c1] = [.int .i64 v1] := h1
    have e1 := h1
    simp only [List.cons.injEq, and_true] at e1
    subst e1
    obtain ⟨a2_0, k2_0, e2, q2_0⟩ := h2
    replace e2 : [c2] = [.slice a2_0 v2.length k2_0] := e2
    simp only [List.cons.injEq, and_true] at e2
    subst e2
    exact ⟨(FarePass.mk v0 v1 v2), a2_0, k2_0, rfl, q2_0⟩
end Go.Proofs.Ytdioaeeaifahnaa
