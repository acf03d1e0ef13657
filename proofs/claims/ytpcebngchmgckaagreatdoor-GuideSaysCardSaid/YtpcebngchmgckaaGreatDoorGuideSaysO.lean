/- What the arguments of the law read as. No condition. -/
import Derived.Test.YtpcebngchmgckaaGreatDoorProg
import Derived.Test.YtpcebngchmgckaaGreatDoorGuideSaysM
import Derived.Test.YtpcebngchmgckaaGreatDoorFpOpen
import Derived.Test.YtpcebngchmgckaaGreatDoorFpIn
namespace Go.Proofs.YtpcebngchmgckaaGreatDoor
open Go Go.Fp
theorem cel111 : Tryz.prog.cellsOf 111 = 4 := by kernel_rfl
theorem cel151 : Tryz.prog.cellsOf 151 = 7 := by kernel_rfl
theorem cel198 : Tryz.prog.cellsOf 198 = 4 := by kernel_rfl
theorem cel203 : Tryz.prog.cellsOf 203 = 2 := by kernel_rfl
theorem cel207 : Tryz.prog.cellsOf 207 = 2 := by kernel_rfl
theorem cel25 : Tryz.prog.cellsOf 25 = 2 := by kernel_rfl
theorem cel29 : Tryz.prog.cellsOf 29 = 1 := by kernel_rfl
theorem cel3 : Tryz.prog.cellsOf 3 = 1 := by kernel_rfl
theorem cel44 : Tryz.prog.cellsOf 44 = 6 := by kernel_rfl
theorem cel53 : Tryz.prog.cellsOf 53 = 5 := by kernel_rfl
theorem cel55 : Tryz.prog.cellsOf 55 = 5 := by kernel_rfl
theorem cel57 : Tryz.prog.cellsOf 57 = 6 := by kernel_rfl
theorem cel65 : Tryz.prog.cellsOf 65 = 1 := by kernel_rfl
theorem cel9 : Tryz.prog.cellsOf 9 = 1 := by kernel_rfl
theorem cel95 : Tryz.prog.cellsOf 95 = 3 := by kernel_rfl
theorem cel99 : Tryz.prog.cellsOf 99 = 4 := by kernel_rfl
theorem fb111_0 : fieldB Tryz.prog 111 0 3 0 1 = true := by kernel_rfl
theorem fb111_1 : fieldB Tryz.prog 111 1 3 1 1 = true := by kernel_rfl
theorem fb111_2 : fieldB Tryz.prog 111 2 109 2 1 = true := by kernel_rfl
theorem fb111_3 : fieldB Tryz.prog 111 3 23 3 1 = true := by kernel_rfl
theorem fb151_0 : fieldB Tryz.prog 151 0 3 0 1 = true := by kernel_rfl
theorem fb151_1 : fieldB Tryz.prog 151 1 3 1 1 = true := by kernel_rfl
theorem fb151_2 : fieldB Tryz.prog 151 2 3 2 1 = true := by kernel_rfl
theorem fb151_3 : fieldB Tryz.prog 151 3 3 3 1 = true := by kernel_rfl
theorem fb151_4 : fieldB Tryz.prog 151 4 3 4 1 = true := by kernel_rfl
theorem fb151_5 : fieldB Tryz.prog 151 5 3 5 1 = true := by kernel_rfl
theorem fb151_6 : fieldB Tryz.prog 151 6 4 6 1 = true := by kernel_rfl
theorem fb198_0 : fieldB Tryz.prog 198 0 3 0 1 = true := by kernel_rfl
theorem fb198_1 : fieldB Tryz.prog 198 1 3 1 1 = true := by kernel_rfl
theorem fb198_2 : fieldB Tryz.prog 198 2 3 2 1 = true := by kernel_rfl
theorem fb198_3 : fieldB Tryz.prog 198 3 3 3 1 = true := by kernel_rfl
theorem fb203_0 : fieldB Tryz.prog 203 0 3 0 1 = true := by kernel_rfl
theorem fb203_1 : fieldB Tryz.prog 203 1 3 1 1 = true := by kernel_rfl
theorem fb207_0 : fieldB Tryz.prog 207 0 3 0 1 = true := by kernel_rfl
theorem fb207_1 : fieldB Tryz.prog 207 1 3 1 1 = true := by kernel_rfl
theorem fb25_0 : fieldB Tryz.prog 25 0 22 0 1 = true := by kernel_rfl
theorem fb25_1 : fieldB Tryz.prog 25 1 23 1 1 = true := by kernel_rfl
theorem fb29_0 : fieldB Tryz.prog 29 0 27 0 1 = true := by kernel_rfl
theorem fb44_0 : fieldB Tryz.prog 44 0 3 0 1 = true := by kernel_rfl
theorem fb44_1 : fieldB Tryz.prog 44 1 3 1 1 = true := by kernel_rfl
theorem fb44_2 : fieldB Tryz.prog 44 2 3 2 1 = true := by kernel_rfl
theorem fb44_3 : fieldB Tryz.prog 44 3 3 3 1 = true := by kernel_rfl
theorem fb44_4 : fieldB Tryz.prog 44 4 3 4 1 = true := by kernel_rfl
theorem fb44_5 : fieldB Tryz.prog 44 5 4 5 1 = true := by kernel_rfl
theorem fb53_0 : fieldB Tryz.prog 53 0 47 0 1 = true := by kernel_rfl
theorem fb53_1 : fieldB Tryz.prog 53 1 48 1 1 = true := by kernel_rfl
theorem fb53_2 : fieldB Tryz.prog 53 2 49 2 1 = true := by kernel_rfl
theorem fb53_3 : fieldB Tryz.prog 53 3 50 3 1 = true := by kernel_rfl
theorem fb53_4 : fieldB Tryz.prog 53 4 51 4 1 = true := by kernel_rfl
theorem fb55_0 : fieldB Tryz.prog 55 0 3 0 1 = true := by kernel_rfl
theorem fb55_1 : fieldB Tryz.prog 55 1 3 1 1 = true := by kernel_rfl
theorem fb55_2 : fieldB Tryz.prog 55 2 3 2 1 = true := by kernel_rfl
theorem fb55_3 : fieldB Tryz.prog 55 3 3 3 1 = true := by kernel_rfl
theorem fb55_4 : fieldB Tryz.prog 55 4 3 4 1 = true := by kernel_rfl
theorem fb57_0 : fieldB Tryz.prog 57 0 3 0 1 = true := by kernel_rfl
theorem fb57_1 : fieldB Tryz.prog 57 1 3 1 1 = true := by kernel_rfl
theorem fb57_2 : fieldB Tryz.prog 57 2 3 2 1 = true := by kernel_rfl
theorem fb57_3 : fieldB Tryz.prog 57 3 3 3 1 = true := by kernel_rfl
theorem fb57_4 : fieldB Tryz.prog 57 4 3 4 1 = true := by kernel_rfl
theorem fb57_5 : fieldB Tryz.prog 57 5 29 5 1 = true := by kernel_rfl
theorem fb95_0 : fieldB Tryz.prog 95 0 3 0 1 = true := by kernel_rfl
theorem fb95_1 : fieldB Tryz.prog 95 1 3 1 1 = true := by kernel_rfl
theorem fb95_2 : fieldB Tryz.prog 95 2 3 2 1 = true := by kernel_rfl
theorem fb99_0 : fieldB Tryz.prog 99 0 3 0 1 = true := by kernel_rfl
theorem fb99_1 : fieldB Tryz.prog 99 1 3 1 1 = true := by kernel_rfl
theorem fb99_2 : fieldB Tryz.prog 99 2 3 2 1 = true := by kernel_rfl
theorem fb99_3 : fieldB Tryz.prog 99 3 3 3 1 = true := by kernel_rfl
theorem und109 : Tryz.prog.underlying 109 = some (.slice 99) := by kernel_rfl
theorem und22 : Tryz.prog.underlying 22 = some (.slice 111) := by kernel_rfl
theorem und23 : Tryz.prog.underlying 23 = some (.slice 65) := by kernel_rfl
theorem und27 : Tryz.prog.underlying 27 = some (.slice 95) := by kernel_rfl
theorem und3 : Tryz.prog.underlying 3 = some (.int .i64) := by kernel_rfl
theorem und39 : Tryz.prog.underlying 39 = some (.slice 44) := by kernel_rfl
theorem und4 : Tryz.prog.underlying 4 = some .bool := by kernel_rfl
theorem und47 : Tryz.prog.underlying 47 = some (.slice 9) := by kernel_rfl
theorem und48 : Tryz.prog.underlying 48 = some (.slice 151) := by kernel_rfl
theorem und49 : Tryz.prog.underlying 49 = some (.slice 198) := by kernel_rfl
theorem und50 : Tryz.prog.underlying 50 = some (.slice 203) := by kernel_rfl
theorem und51 : Tryz.prog.underlying 51 = some (.slice 207) := by kernel_rfl
theorem und65 : Tryz.prog.underlying 65 = some (.slice 3) := by kernel_rfl
theorem und9 : Tryz.prog.underlying 9 = some .string := by kernel_rfl
theorem OApiStop {W : World} : Opens Tryz.prog W 99 RApiStop := by
  intro H enc fuel cs x h
  obtain ⟨hl, v0, h0⟩ := Opens.field fb99_0 (Opens.int und3) h
  obtain ⟨_, v1, h1⟩ := Opens.field fb99_1 (Opens.int und3) h
  obtain ⟨_, v2, h2⟩ := Opens.field fb99_2 (Opens.int und3) h
  obtain ⟨_, v3, h3⟩ := Opens.field fb99_3 (Opens.int und3) h
  rw [cel99] at hl
  match cs, hl with
  | [c0, c1, c2, c3], _ =>
    replace h0 : [c0] = [.int .i64 v0] := h0
    have e0 := h0
    simp only [List.cons.injEq, and_true] at e0
    subst e0
    replace h1 : [c1] = [.int .i64 v1] := h1
    have e1 := h1
    simp only [List.cons.injEq, and_true] at e1
    subst e1
    replace h2 : [c2] = [.int .i64 v2] := h2
    have e2 := h2
    simp only [List.cons.injEq, and_true] at e2
    subst e2
    replace h3 : [c3] = [.int .i64 v3] := h3
    have e3 := h3
    simp only [List.cons.injEq, and_true] at e3
    subst e3
    exact ⟨(ApiStop.mk v0 v1 v2 v3), rfl⟩
theorem OApiTrain {W : World} : Opens Tryz.prog W 111 RApiTrain := by
  intro H enc fuel cs x h
  obtain ⟨hl, v0, h0⟩ := Opens.field fb111_0 (Opens.int und3) h
  obtain ⟨_, v1, h1⟩ := Opens.field fb111_1 (Opens.int und3) h
  obtain ⟨_, v2, h2⟩ := Opens.field fb111_2 (Opens.slice und109 cel99 (by decide) OApiStop) h
  obtain ⟨_, v3, h3⟩ := Opens.field fb111_3 (Opens.slice und23 cel65 (by decide) (Opens.slice und65 cel3 (by decide) (Opens.int und3))) h
  rw [cel111] at hl
  match cs, hl with
  | [c0, c1, c2, c3], _ =>
    replace h0 : [c0] = [.int .i64 v0] := h0
    have e0 := h0
    simp only [List.cons.injEq, and_true] at e0
    subst e0
    replace h1 : [c1] = [.int .i64 v1] := h1
    have e1 := h1
    simp only [List.cons.injEq, and_true] at e1
    subst e1
    obtain ⟨a2_0, k2_0, e2, q2_0⟩ := h2
    replace e2 : [c2] = [.slice a2_0 v2.length k2_0] := e2
    simp only [List.cons.injEq, and_true] at e2
    subst e2
    obtain ⟨a3_0, k3_0, e3, q3_0⟩ := h3
    replace e3 : [c3] = [.slice a3_0 v3.length k3_0] := e3
    simp only [List.cons.injEq, and_true] at e3
    subst e3
    exact ⟨(ApiTrain.mk v0 v1 v2 v3), a2_0, k2_0, a3_0, k3_0, rfl, q2_0, q3_0⟩
theorem OApiDay {W : World} : Opens Tryz.prog W 25 RApiDay := by
  intro H enc fuel cs x h
  obtain ⟨hl, v0, h0⟩ := Opens.field fb25_0 (Opens.slice und22 cel111 (by decide) OApiTrain) h
  obtain ⟨_, v1, h1⟩ := Opens.field fb25_1 (Opens.slice und23 cel65 (by decide) (Opens.slice und65 cel3 (by decide) (Opens.int und3))) h
  rw [cel25] at hl
  match cs, hl with
  | [c0, c1], _ =>
    obtain ⟨a0_0, k0_0, e0, q0_0⟩ := h0
    replace e0 : [c0] = [.slice a0_0 v0.length k0_0] := e0
    simp only [List.cons.injEq, and_true] at e0
    subst e0
    obtain ⟨a1_0, k1_0, e1, q1_0⟩ := h1
    replace e1 : [c1] = [.slice a1_0 v1.length k1_0] := e1
    simp only [List.cons.injEq, and_true] at e1
    subst e1
    exact ⟨(ApiDay.mk v0 v1), a0_0, k0_0, a1_0, k1_0, rfl, q0_0, q1_0⟩
theorem OGuideLine {W : World} : Opens Tryz.prog W 44 RGuideLine := by
  intro H enc fuel cs x h
  obtain ⟨hl, v0, h0⟩ := Opens.field fb44_0 (Opens.int und3) h
  obtain ⟨_, v1, h1⟩ := Opens.field fb44_1 (Opens.int und3) h
  obtain ⟨_, v2, h2⟩ := Opens.field fb44_2 (Opens.int und3) h
  obtain ⟨_, v3, h3⟩ := Opens.field fb44_3 (Opens.int und3) h
  obtain ⟨_, v4, h4⟩ := Opens.field fb44_4 (Opens.int und3) h
  obtain ⟨_, v5, h5⟩ := Opens.field fb44_5 (Opens.bool und4) h
  rw [cel44] at hl
  match cs, hl with
  | [c0, c1, c2, c3, c4, c5], _ =>
    replace h0 : [c0] = [.int .i64 v0] := h0
    have e0 := h0
    simp only [List.cons.injEq, and_true] at e0
    subst e0
    replace h1 : [c1] = [.int .i64 v1] := h1
    have e1 := h1
    simp only [List.cons.injEq, and_true] at e1
    subst e1
    replace h2 : [c2] = [.int .i64 v2] := h2
    have e2 := h2
    simp only [List.cons.injEq, and_true] at e2
    subst e2
    replace h3 : [c3] = [.int .i64 v3] := h3
    have e3 := h3
    simp only [List.cons.injEq, and_true] at e3
    subst e3
    replace h4 : [c4] = [.int .i64 v4] := h4
    have e4 := h4
    simp only [List.cons.injEq, and_true] at e4
    subst e4
    replace h5 : [c5] = [.bool v5] := h5
    have e5 := h5
    simp only [List.cons.injEq, and_true] at e5
    subst e5
    exact ⟨(GuideLine.mk v0 v1 v2 v3 v4 v5), rfl⟩
theorem OApiSection {W : World} : Opens Tryz.prog W 151 RApiSection := by
  intro H enc fuel cs x h
  obtain ⟨hl, v0, h0⟩ := Opens.field fb151_0 (Opens.int und3) h
  obtain ⟨_, v1, h1⟩ := Opens.field fb151_1 (Opens.int und3) h
  obtain ⟨_, v2, h2⟩ := Opens.field fb151_2 (Opens.int und3) h
  obtain ⟨_, v3, h3⟩ := Opens.field fb151_3 (Opens.int und3) h
  obtain ⟨_, v4, h4⟩ := Opens.field fb151_4 (Opens.int und3) h
  obtain ⟨_, v5, h5⟩ := Opens.field fb151_5 (Opens.int und3) h
  obtain ⟨_, v6, h6⟩ := Opens.field fb151_6 (Opens.bool und4) h
  rw [cel151] at hl
  match cs, hl with
  | [c0, c1, c2, c3, c4, c5, c6], _ =>
    replace h0 : [c0] = [.int .i64 v0] := h0
    have e0 := h0
    simp only [List.cons.injEq, and_true] at e0
    subst e0
    replace h1 : [c1] = [.int .i64 v1] := h1
    have e1 := h1
    simp only [List.cons.injEq, and_true] at e1
    subst e1
    replace h2 : [c2] = [.int .i64 v2] := h2
    have e2 := h2
    simp only [List.cons.injEq, and_true] at e2
    subst e2
    replace h3 : [c3] = [.int .i64 v3] := h3
    have e3 := h3
    simp only [List.cons.injEq, and_true] at e3
    subst e3
    replace h4 : [c4] = [.int .i64 v4] := h4
    have e4 := h4
    simp only [List.cons.injEq, and_true] at e4
    subst e4
    replace h5 : [c5] = [.int .i64 v5] := h5
    have e5 := h5
    simp only [List.cons.injEq, and_true] at e5
    subst e5
    replace h6 : [c6] = [.bool v6] := h6
    have e6 := h6
    simp only [List.cons.injEq, and_true] at e6
    subst e6
    exact ⟨(ApiSection.mk v0 v1 v2 v3 v4 v5 v6), rfl⟩
theorem OApiLink {W : World} : Opens Tryz.prog W 198 RApiLink := by
  intro H enc fuel cs x h
  obtain ⟨hl, v0, h0⟩ := Opens.field fb198_0 (Opens.int und3) h
  obtain ⟨_, v1, h1⟩ := Opens.field fb198_1 (Opens.int und3) h
  obtain ⟨_, v2, h2⟩ := Opens.field fb198_2 (Opens.int und3) h
  obtain ⟨_, v3, h3⟩ := Opens.field fb198_3 (Opens.int und3) h
  rw [cel198] at hl
  match cs, hl with
  | [c0, c1, c2, c3], _ =>
    replace h0 : [c0] = [.int .i64 v0] := h0
    have e0 := h0
    simp only [List.cons.injEq, and_true] at e0
    subst e0
    replace h1 : [c1] = [.int .i64 v1] := h1
    have e1 := h1
    simp only [List.cons.injEq, and_true] at e1
    subst e1
    replace h2 : [c2] = [.int .i64 v2] := h2
    have e2 := h2
    simp only [List.cons.injEq, and_true] at e2
    subst e2
    replace h3 : [c3] = [.int .i64 v3] := h3
    have e3 := h3
    simp only [List.cons.injEq, and_true] at e3
    subst e3
    exact ⟨(ApiLink.mk v0 v1 v2 v3), rfl⟩
theorem OApiSignal {W : World} : Opens Tryz.prog W 203 RApiSignal := by
  intro H enc fuel cs x h
  obtain ⟨hl, v0, h0⟩ := Opens.field fb203_0 (Opens.int und3) h
  obtain ⟨_, v1, h1⟩ := Opens.field fb203_1 (Opens.int und3) h
  rw [cel203] at hl
  match cs, hl with
  | [c0, c1], _ =>
    replace h0 : [c0] = [.int .i64 v0] := h0
    have e0 := h0
    simp only [List.cons.injEq, and_true] at e0
    subst e0
    replace h1 : [c1] = [.int .i64 v1] := h1
    have e1 := h1
    simp only [List.cons.injEq, and_true] at e1
    subst e1
    exact ⟨(ApiSignal.mk v0 v1), rfl⟩
theorem OApiGate {W : World} : Opens Tryz.prog W 207 RApiGate := by
  intro H enc fuel cs x h
  obtain ⟨hl, v0, h0⟩ := Opens.field fb207_0 (Opens.int und3) h
  obtain ⟨_, v1, h1⟩ := Opens.field fb207_1 (Opens.int und3) h
  rw [cel207] at hl
  match cs, hl with
  | [c0, c1], _ =>
    replace h0 : [c0] = [.int .i64 v0] := h0
    have e0 := h0
    simp only [List.cons.injEq, and_true] at e0
    subst e0
    replace h1 : [c1] = [.int .i64 v1] := h1
    have e1 := h1
    simp only [List.cons.injEq, and_true] at e1
    subst e1
    exact ⟨(ApiGate.mk v0 v1), rfl⟩
theorem OApiNet {W : World} : Opens Tryz.prog W 53 RApiNet := by
  intro H enc fuel cs x h
  obtain ⟨hl, v0, h0⟩ := Opens.field fb53_0 (Opens.slice und47 cel9 (by decide) (Opens.string und9)) h
  obtain ⟨_, v1, h1⟩ := Opens.field fb53_1 (Opens.slice und48 cel151 (by decide) OApiSection) h
  obtain ⟨_, v2, h2⟩ := Opens.field fb53_2 (Opens.slice und49 cel198 (by decide) OApiLink) h
  obtain ⟨_, v3, h3⟩ := Opens.field fb53_3 (Opens.slice und50 cel203 (by decide) OApiSignal) h
  obtain ⟨_, v4, h4⟩ := Opens.field fb53_4 (Opens.slice und51 cel207 (by decide) OApiGate) h
  rw [cel53] at hl
  match cs, hl with
  | [c0, c1, c2, c3, c4], _ =>
    obtain ⟨a0_0, k0_0, e0, q0_0⟩ := h0
    replace e0 : [c0] = [.slice a0_0 v0.length k0_0] := e0
    simp only [List.cons.injEq, and_true] at e0
    subst e0
    obtain ⟨a1_0, k1_0, e1, q1_0⟩ := h1
    replace e1 : [c1] = [.slice a1_0 v1.length k1_0] := e1
    simp only [List.cons.injEq, and_true] at e1
    subst e1
    obtain ⟨a2_0, k2_0, e2, q2_0⟩ := h2
    replace e2 : [c2] = [.slice a2_0 v2.length k2_0] := e2
    simp only [List.cons.injEq, and_true] at e2
    subst e2
    obtain ⟨a3_0, k3_0, e3, q3_0⟩ := h3
    replace e3 : [c3] = [.slice a3_0 v3.length k3_0] := e3
    simp only [List.cons.injEq, and_true] at e3
    subst e3
    obtain ⟨a4_0, k4_0, e4, q4_0⟩ := h4
    replace e4 : [c4] = [.slice a4_0 v4.length k4_0] := e4
    simp only [List.cons.injEq, and_true] at e4
    subst e4
    exact ⟨(ApiNet.mk v0 v1 v2 v3 v4), a0_0, k0_0, a1_0, k1_0, a2_0, k2_0, a3_0, k3_0, a4_0, k4_0, rfl, q0_0, q1_0, q2_0, q3_0, q4_0⟩
theorem OGuideMessage {W : World} : Opens Tryz.prog W 55 RGuideMessage := by
  intro H enc fuel cs x h
  obtain ⟨hl, v0, h0⟩ := Opens.field fb55_0 (Opens.int und3) h
  obtain ⟨_, v1, h1⟩ := Opens.field fb55_1 (Opens.int und3) h
  obtain ⟨_, v2, h2⟩ := Opens.field fb55_2 (Opens.int und3) h
  obtain ⟨_, v3, h3⟩ := Opens.field fb55_3 (Opens.int und3) h
  obtain ⟨_, v4, h4⟩ := Opens.field fb55_4 (Opens.int und3) h
  rw [cel55] at hl
  match cs, hl with
  | [c0, c1, c2, c3, c4], _ =>
    replace h0 : [c0] = [.int .i64 v0] := h0
    have e0 := h0
    simp only [List.cons.injEq, and_true] at e0
    subst e0
    replace h1 : [c1] = [.int .i64 v1] := h1
    have e1 := h1
    simp only [List.cons.injEq, and_true] at e1
    subst e1
    replace h2 : [c2] = [.int .i64 v2] := h2
    have e2 := h2
    simp only [List.cons.injEq, and_true] at e2
    subst e2
    replace h3 : [c3] = [.int .i64 v3] := h3
    have e3 := h3
    simp only [List.cons.injEq, and_true] at e3
    subst e3
    replace h4 : [c4] = [.int .i64 v4] := h4
    have e4 := h4
    simp only [List.cons.injEq, and_true] at e4
    subst e4
    exact ⟨(GuideMessage.mk v0 v1 v2 v3 v4), rfl⟩
theorem OGuideRide {W : World} : Opens Tryz.prog W 95 RGuideRide := by
  intro H enc fuel cs x h
  obtain ⟨hl, v0, h0⟩ := Opens.field fb95_0 (Opens.int und3) h
  obtain ⟨_, v1, h1⟩ := Opens.field fb95_1 (Opens.int und3) h
  obtain ⟨_, v2, h2⟩ := Opens.field fb95_2 (Opens.int und3) h
  rw [cel95] at hl
  match cs, hl with
  | [c0, c1, c2], _ =>
    replace h0 : [c0] = [.int .i64 v0] := h0
    have e0 := h0
    simp only [List.cons.injEq, and_true] at e0
    subst e0
    replace h1 : [c1] = [.int .i64 v1] := h1
    have e1 := h1
    simp only [List.cons.injEq, and_true] at e1
    subst e1
    replace h2 : [c2] = [.int .i64 v2] := h2
    have e2 := h2
    simp only [List.cons.injEq, and_true] at e2
    subst e2
    exact ⟨(GuideRide.mk v0 v1 v2), rfl⟩
theorem OGuideJourney {W : World} : Opens Tryz.prog W 29 RGuideJourney := by
  intro H enc fuel cs x h
  obtain ⟨hl, v0, h0⟩ := Opens.field fb29_0 (Opens.slice und27 cel95 (by decide) OGuideRide) h
  rw [cel29] at hl
  match cs, hl with
  | [c0], _ =>
    obtain ⟨a0_0, k0_0, e0, q0_0⟩ := h0
    replace e0 : [c0] = [.slice a0_0 v0.length k0_0] := e0
    simp only [List.cons.injEq, and_true] at e0
    subst e0
    exact ⟨(GuideJourney.mk v0), a0_0, k0_0, rfl, q0_0⟩
theorem OGuidePromise {W : World} : Opens Tryz.prog W 57 RGuidePromise := by
  intro H enc fuel cs x h
  obtain ⟨hl, v0, h0⟩ := Opens.field fb57_0 (Opens.int und3) h
  obtain ⟨_, v1, h1⟩ := Opens.field fb57_1 (Opens.int und3) h
  obtain ⟨_, v2, h2⟩ := Opens.field fb57_2 (Opens.int und3) h
  obtain ⟨_, v3, h3⟩ := Opens.field fb57_3 (Opens.int und3) h
  obtain ⟨_, v4, h4⟩ := Opens.field fb57_4 (Opens.int und3) h
  obtain ⟨_, v5, h5⟩ := Opens.field fb57_5 OGuideJourney h
  rw [cel57] at hl
  match cs, hl with
  | [c0, c1, c2, c3, c4, c5], _ =>
    replace h0 : [c0] = [.int .i64 v0] := h0
    have e0 := h0
    simp only [List.cons.injEq, and_true] at e0
    subst e0
    replace h1 : [c1] = [.int .i64 v1] := h1
    have e1 := h1
    simp only [List.cons.injEq, and_true] at e1
    subst e1
    replace h2 : [c2] = [.int .i64 v2] := h2
    have e2 := h2
    simp only [List.cons.injEq, and_true] at e2
    subst e2
    replace h3 : [c3] = [.int .i64 v3] := h3
    have e3 := h3
    simp only [List.cons.injEq, and_true] at e3
    subst e3
    replace h4 : [c4] = [.int .i64 v4] := h4
    have e4 := h4
    simp only [List.cons.injEq, and_true] at e4
    subst e4
    obtain ⟨a5_0, k5_0, e5, q5_0⟩ := h5
    replace e5 : [c5] = [.slice a5_0 v5.Rides.length k5_0] := e5
    simp only [List.cons.injEq, and_true] at e5
    subst e5
    exact ⟨(GuidePromise.mk v0 v1 v2 v3 v4 v5), a5_0, k5_0, rfl, q5_0⟩

theorem OIApiStop {W : World} : OpensI Tryz.prog W 99 RApiStop InApiStop := by
  intro H enc fuel cs x h v hv
  subst hv
  exact ⟨OpensI.field fb99_0 (OpensI.int und3) h (v := v.Station) rfl, OpensI.field fb99_1 (OpensI.int und3) h (v := v.Track) rfl, OpensI.field fb99_2 (OpensI.int und3) h (v := v.Arr) rfl, OpensI.field fb99_3 (OpensI.int und3) h (v := v.Dep) rfl⟩
theorem OIApiTrain {W : World} : OpensI Tryz.prog W 111 RApiTrain InApiTrain := by
  intro H enc fuel cs x h v hv
  obtain ⟨_, _, _, _, rfl, h0, h1⟩ := hv
  exact ⟨OpensI.field fb111_0 (OpensI.int und3) h (v := v.No) rfl, OpensI.field fb111_1 (OpensI.int und3) h (v := v.Stock) rfl, OpensI.field fb111_2 (OpensI.slice und109 cel99 (by decide) OIApiStop) h (v := v.Stops) ⟨_, _, rfl, h0⟩, OpensI.field fb111_3 (OpensI.slice und23 cel65 (by decide) (OpensI.slice und65 cel3 (by decide) (OpensI.int und3))) h (v := v.Legs) ⟨_, _, rfl, h1⟩⟩
theorem OIApiDay {W : World} : OpensI Tryz.prog W 25 RApiDay InApiDay := by
  intro H enc fuel cs x h v hv
  obtain ⟨_, _, _, _, rfl, h0, h1⟩ := hv
  exact ⟨OpensI.field fb25_0 (OpensI.slice und22 cel111 (by decide) OIApiTrain) h (v := v.Trains) ⟨_, _, rfl, h0⟩, OpensI.field fb25_1 (OpensI.slice und23 cel65 (by decide) (OpensI.slice und65 cel3 (by decide) (OpensI.int und3))) h (v := v.Turns) ⟨_, _, rfl, h1⟩⟩
theorem OIGuideLine {W : World} : OpensI Tryz.prog W 44 RGuideLine InGuideLine := by
  intro H enc fuel cs x h v hv
  subst hv
  exact ⟨OpensI.field fb44_0 (OpensI.int und3) h (v := v.Time) rfl, OpensI.field fb44_1 (OpensI.int und3) h (v := v.Late) rfl, OpensI.field fb44_2 (OpensI.int und3) h (v := v.No) rfl, OpensI.field fb44_3 (OpensI.int und3) h (v := v.To) rfl, OpensI.field fb44_4 (OpensI.int und3) h (v := v.Track) rfl, trivial⟩
theorem OIApiSection {W : World} : OpensI Tryz.prog W 151 RApiSection InApiSection := by
  intro H enc fuel cs x h v hv
  subst hv
  exact ⟨OpensI.field fb151_0 (OpensI.int und3) h (v := v.Kind) rfl, OpensI.field fb151_1 (OpensI.int und3) h (v := v.Length) rfl, OpensI.field fb151_2 (OpensI.int und3) h (v := v.Grade) rfl, OpensI.field fb151_3 (OpensI.int und3) h (v := v.Speed) rfl, OpensI.field fb151_4 (OpensI.int und3) h (v := v.Slow) rfl, OpensI.field fb151_5 (OpensI.int und3) h (v := v.Station) rfl, trivial⟩
theorem OIApiLink {W : World} : OpensI Tryz.prog W 198 RApiLink InApiLink := by
  intro H enc fuel cs x h v hv
  subst hv
  exact ⟨OpensI.field fb198_0 (OpensI.int und3) h (v := v.A) rfl, OpensI.field fb198_1 (OpensI.int und3) h (v := v.EndA) rfl, OpensI.field fb198_2 (OpensI.int und3) h (v := v.B) rfl, OpensI.field fb198_3 (OpensI.int und3) h (v := v.EndB) rfl⟩
theorem OIApiSignal {W : World} : OpensI Tryz.prog W 203 RApiSignal InApiSignal := by
  intro H enc fuel cs x h v hv
  subst hv
  exact ⟨OpensI.field fb203_0 (OpensI.int und3) h (v := v.Section) rfl, OpensI.field fb203_1 (OpensI.int und3) h (v := v.End) rfl⟩
theorem OIApiGate {W : World} : OpensI Tryz.prog W 207 RApiGate InApiGate := by
  intro H enc fuel cs x h v hv
  subst hv
  exact ⟨OpensI.field fb207_0 (OpensI.int und3) h (v := v.Section) rfl, OpensI.field fb207_1 (OpensI.int und3) h (v := v.Close) rfl⟩
theorem OIApiNet {W : World} : OpensI Tryz.prog W 53 RApiNet InApiNet := by
  intro H enc fuel cs x h v hv
  obtain ⟨_, _, _, _, _, _, _, _, _, _, rfl, h0, h1, h2, h3, h4⟩ := hv
  exact ⟨OpensI.field fb53_0 (OpensI.slice und47 cel9 (by decide) (OpensI.str und9)) h (v := v.Stations) ⟨_, _, rfl, h0⟩, OpensI.field fb53_1 (OpensI.slice und48 cel151 (by decide) OIApiSection) h (v := v.Sections) ⟨_, _, rfl, h1⟩, OpensI.field fb53_2 (OpensI.slice und49 cel198 (by decide) OIApiLink) h (v := v.Links) ⟨_, _, rfl, h2⟩, OpensI.field fb53_3 (OpensI.slice und50 cel203 (by decide) OIApiSignal) h (v := v.Signals) ⟨_, _, rfl, h3⟩, OpensI.field fb53_4 (OpensI.slice und51 cel207 (by decide) OIApiGate) h (v := v.Gates) ⟨_, _, rfl, h4⟩⟩
theorem OIGuideMessage {W : World} : OpensI Tryz.prog W 55 RGuideMessage InGuideMessage := by
  intro H enc fuel cs x h v hv
  subst hv
  exact ⟨OpensI.field fb55_0 (OpensI.int und3) h (v := v.At) rfl, OpensI.field fb55_1 (OpensI.int und3) h (v := v.Promise) rfl, OpensI.field fb55_2 (OpensI.int und3) h (v := v.Ride) rfl, OpensI.field fb55_3 (OpensI.int und3) h (v := v.Kind) rfl, OpensI.field fb55_4 (OpensI.int und3) h (v := v.Value) rfl⟩
theorem OIGuideRide {W : World} : OpensI Tryz.prog W 95 RGuideRide InGuideRide := by
  intro H enc fuel cs x h v hv
  subst hv
  exact ⟨OpensI.field fb95_0 (OpensI.int und3) h (v := v.Train) rfl, OpensI.field fb95_1 (OpensI.int und3) h (v := v.On) rfl, OpensI.field fb95_2 (OpensI.int und3) h (v := v.Off) rfl⟩
theorem OIGuideJourney {W : World} : OpensI Tryz.prog W 29 RGuideJourney InGuideJourney := by
  intro H enc fuel cs x h v hv
  obtain ⟨_, _, rfl, h0⟩ := hv
  exact OpensI.field fb29_0 (OpensI.slice und27 cel95 (by decide) OIGuideRide) h (v := v.Rides) ⟨_, _, rfl, h0⟩
theorem OIGuidePromise {W : World} : OpensI Tryz.prog W 57 RGuidePromise InGuidePromise := by
  intro H enc fuel cs x h v hv
  obtain ⟨_, _, rfl, h0⟩ := hv
  exact ⟨OpensI.field fb57_0 (OpensI.int und3) h (v := v.From) rfl, OpensI.field fb57_1 (OpensI.int und3) h (v := v.To) rfl, OpensI.field fb57_2 (OpensI.int und3) h (v := v.Dep) rfl, OpensI.field fb57_3 (OpensI.int und3) h (v := v.Arr) rfl, OpensI.field fb57_4 (OpensI.int und3) h (v := v.State) rfl, OpensI.field fb57_5 OIGuideJourney h (v := v.Journey) ⟨_, _, rfl, h0⟩⟩
end Go.Proofs.YtpcebngchmgckaaGreatDoor
