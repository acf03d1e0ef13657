/- What the arguments of the law read as. No condition. -/
import Derived.Test.YtngamgkmhgmmjaaGreatDoorProg
import Derived.Test.YtngamgkmhgmmjaaGreatDoorTopTicketedM
import Derived.Test.YtngamgkmhgmmjaaGreatDoorFpOpen
import Derived.Test.YtngamgkmhgmmjaaGreatDoorFpIn
namespace Go.Proofs.YtngamgkmhgmmjaaGreatDoor
open Go Go.Fp
theorem cel25 : Tryz.prog.cellsOf 25 = 2 := by kernel_rfl
theorem cel28 : Tryz.prog.cellsOf 28 = 1 := by kernel_rfl
theorem cel3 : Tryz.prog.cellsOf 3 = 1 := by kernel_rfl
theorem cel32 : Tryz.prog.cellsOf 32 = 4 := by kernel_rfl
theorem cel37 : Tryz.prog.cellsOf 37 = 1 := by kernel_rfl
theorem cel39 : Tryz.prog.cellsOf 39 = 3 := by kernel_rfl
theorem cel42 : Tryz.prog.cellsOf 42 = 4 := by kernel_rfl
theorem cel44 : Tryz.prog.cellsOf 44 = 4 := by kernel_rfl
theorem cel94 : Tryz.prog.cellsOf 94 = 2 := by kernel_rfl
theorem cel97 : Tryz.prog.cellsOf 97 = 4 := by kernel_rfl
theorem cel99 : Tryz.prog.cellsOf 99 = 7 := by kernel_rfl
theorem fb25_0 : fieldB Tryz.prog 25 0 22 0 1 = true := by kernel_rfl
theorem fb25_1 : fieldB Tryz.prog 25 1 23 1 1 = true := by kernel_rfl
theorem fb28_0 : fieldB Tryz.prog 28 0 26 0 1 = true := by kernel_rfl
theorem fb32_0 : fieldB Tryz.prog 32 0 4 0 1 = true := by kernel_rfl
theorem fb32_1 : fieldB Tryz.prog 32 1 29 1 1 = true := by kernel_rfl
theorem fb32_2 : fieldB Tryz.prog 32 2 3 2 1 = true := by kernel_rfl
theorem fb32_3 : fieldB Tryz.prog 32 3 30 3 1 = true := by kernel_rfl
theorem fb39_0 : fieldB Tryz.prog 39 0 3 0 1 = true := by kernel_rfl
theorem fb39_1 : fieldB Tryz.prog 39 1 3 1 1 = true := by kernel_rfl
theorem fb39_2 : fieldB Tryz.prog 39 2 3 2 1 = true := by kernel_rfl
theorem fb42_0 : fieldB Tryz.prog 42 0 3 0 1 = true := by kernel_rfl
theorem fb42_1 : fieldB Tryz.prog 42 1 3 1 1 = true := by kernel_rfl
theorem fb42_2 : fieldB Tryz.prog 42 2 40 2 1 = true := by kernel_rfl
theorem fb42_3 : fieldB Tryz.prog 42 3 23 3 1 = true := by kernel_rfl
theorem fb44_0 : fieldB Tryz.prog 44 0 3 0 1 = true := by kernel_rfl
theorem fb44_1 : fieldB Tryz.prog 44 1 3 1 1 = true := by kernel_rfl
theorem fb44_2 : fieldB Tryz.prog 44 2 3 2 1 = true := by kernel_rfl
theorem fb44_3 : fieldB Tryz.prog 44 3 3 3 1 = true := by kernel_rfl
theorem fb94_0 : fieldB Tryz.prog 94 0 3 0 1 = true := by kernel_rfl
theorem fb94_1 : fieldB Tryz.prog 94 1 3 1 1 = true := by kernel_rfl
theorem fb97_0 : fieldB Tryz.prog 97 0 3 0 1 = true := by kernel_rfl
theorem fb97_1 : fieldB Tryz.prog 97 1 3 1 1 = true := by kernel_rfl
theorem fb97_2 : fieldB Tryz.prog 97 2 3 2 1 = true := by kernel_rfl
theorem fb97_3 : fieldB Tryz.prog 97 3 95 3 1 = true := by kernel_rfl
theorem fb99_0 : fieldB Tryz.prog 99 0 97 0 4 = true := by kernel_rfl
theorem fb99_1 : fieldB Tryz.prog 99 1 3 4 1 = true := by kernel_rfl
theorem fb99_2 : fieldB Tryz.prog 99 2 3 5 1 = true := by kernel_rfl
theorem fb99_3 : fieldB Tryz.prog 99 3 4 6 1 = true := by kernel_rfl
theorem und22 : Tryz.prog.underlying 22 = some (.slice 42) := by kernel_rfl
theorem und23 : Tryz.prog.underlying 23 = some (.slice 37) := by kernel_rfl
theorem und26 : Tryz.prog.underlying 26 = some (.slice 39) := by kernel_rfl
theorem und29 : Tryz.prog.underlying 29 = some (.slice 94) := by kernel_rfl
theorem und3 : Tryz.prog.underlying 3 = some (.int .i64) := by kernel_rfl
theorem und30 : Tryz.prog.underlying 30 = some (.slice 99) := by kernel_rfl
theorem und37 : Tryz.prog.underlying 37 = some (.slice 3) := by kernel_rfl
theorem und4 : Tryz.prog.underlying 4 = some .bool := by kernel_rfl
theorem und40 : Tryz.prog.underlying 40 = some (.slice 44) := by kernel_rfl
theorem und95 : Tryz.prog.underlying 95 = some (.slice 97) := by kernel_rfl
theorem OApiStop {W : World} : Opens Tryz.prog W 44 RApiStop := by
  intro H enc fuel cs x h
  obtain ⟨hl, v0, h0⟩ := Opens.field fb44_0 (Opens.int und3) h
  obtain ⟨_, v1, h1⟩ := Opens.field fb44_1 (Opens.int und3) h
  obtain ⟨_, v2, h2⟩ := Opens.field fb44_2 (Opens.int und3) h
  obtain ⟨_, v3, h3⟩ := Opens.field fb44_3 (Opens.int und3) h
  rw [cel44] at hl
  match cs, hl with
  | [c0, c1, c2, c3], _ =>
    replace h0 : [c0] = [.int .i64 v0] := h0
    have e0 := h0
    simp only [List.cons.injEq, and_true] at e0
    subst e0
    replace h1 : [c1] = [.int .i64 v1] := h1
    have e1 := h1
    simp only [List.cons.injEq, and_true] at e1
    subst e1
    replace h2 : [c2] = [.int .i64 v2] := h2
    have e2 := h2
    simp only [List.cons.injEq, and_true] at e2
    subst e2
    replace h3 : [c3] = [.int .i64 v3] := h3
    have e3 := h3
    simp only [List.cons.injEq, and_true] at e3
    subst e3
    exact ⟨(ApiStop.mk v0 v1 v2 v3), rfl⟩
theorem OApiTrain {W : World} : Opens Tryz.prog W 42 RApiTrain := by
  intro H enc fuel cs x h
  obtain ⟨hl, v0, h0⟩ := Opens.field fb42_0 (Opens.int und3) h
  obtain ⟨_, v1, h1⟩ := Opens.field fb42_1 (Opens.int und3) h
  obtain ⟨_, v2, h2⟩ := Opens.field fb42_2 (Opens.slice und40 cel44 (by decide) OApiStop) h
  obtain ⟨_, v3, h3⟩ := Opens.field fb42_3 (Opens.slice und23 cel37 (by decide) (Opens.slice und37 cel3 (by decide) (Opens.int und3))) h
  rw [cel42] at hl
  match cs, hl with
  | [c0, c1, c2, c3], _ =>
    replace h0 : [c0] = [.int .i64 v0] := h0
    have e0 := h0
    simp only [List.cons.injEq, and_true] at e0
    subst e0
    replace h1 : [c1] = [.int .i64 v1] := h1
    have e1 := h1
    simp only [List.cons.injEq, and_true] at e1
    subst e1
    obtain ⟨a2_0, k2_0, e2, q2_0⟩ := h2
    replace e2 : [c2] = [.slice a2_0 v2.length k2_0] := e2
    simp only [List.cons.injEq, and_true] at e2
    subst e2
    obtain ⟨a3_0, k3_0, e3, q3_0⟩ := h3
    replace e3 : [c3] = [.slice a3_0 v3.length k3_0] := e3
    simp only [List.cons.injEq, and_true] at e3
    subst e3
    exact ⟨(ApiTrain.mk v0 v1 v2 v3), a2_0, k2_0, a3_0, k3_0, rfl, q2_0, q3_0⟩
theorem OApiDay {W : World} : Opens Tryz.prog W 25 RApiDay := by
  intro H enc fuel cs x h
  obtain ⟨hl, v0, h0⟩ := Opens.field fb25_0 (Opens.slice und22 cel42 (by decide) OApiTrain) h
  obtain ⟨_, v1, h1⟩ := Opens.field fb25_1 (Opens.slice und23 cel37 (by decide) (Opens.slice und37 cel3 (by decide) (Opens.int und3))) h
  rw [cel25] at hl
  match cs, hl with
  | [c0, c1], _ =>
    obtain ⟨a0_0, k0_0, e0, q0_0⟩ := h0
    replace e0 : [c0] = [.slice a0_0 v0.length k0_0] := e0
    simp only [List.cons.injEq, and_true] at e0
    subst e0
    obtain ⟨a1_0, k1_0, e1, q1_0⟩ := h1
    replace e1 : [c1] = [.slice a1_0 v1.length k1_0] := e1
    simp only [List.cons.injEq, and_true] at e1
    subst e1
    exact ⟨(ApiDay.mk v0 v1), a0_0, k0_0, a1_0, k1_0, rfl, q0_0, q1_0⟩
theorem OGuideRide {W : World} : Opens Tryz.prog W 39 RGuideRide := by
  intro H enc fuel cs x h
  obtain ⟨hl, v0, h0⟩ := Opens.field fb39_0 (Opens.int und3) h
  obtain ⟨_, v1, h1⟩ := Opens.field fb39_1 (Opens.int und3) h
  obtain ⟨_, v2, h2⟩ := Opens.field fb39_2 (Opens.int und3) h
  rw [cel39] at hl
  match cs, hl with
  | [c0, c1, c2], _ =>
    replace h0 : [c0] = [.int .i64 v0] := h0
    have e0 := h0
    simp only [List.cons.injEq, and_true] at e0
    subst e0
    replace h1 : [c1] = [.int .i64 v1] := h1
    have e1 := h1
    simp only [List.cons.injEq, and_true] at e1
    subst e1
    replace h2 : [c2] = [.int .i64 v2] := h2
    have e2 := h2
    simp only [List.cons.injEq, and_true] at e2
    subst e2
    exact ⟨(GuideRide.mk v0 v1 v2), rfl⟩
theorem OGuideJourney {W : World} : Opens Tryz.prog W 28 RGuideJourney := by
  intro H enc fuel cs x h
  obtain ⟨hl, v0, h0⟩ := Opens.field fb28_0 (Opens.slice und26 cel39 (by decide) OGuideRide) h
  rw [cel28] at hl
  match cs, hl with
  | [c0], _ =>
    obtain ⟨a0_0, k0_0, e0, q0_0⟩ := h0
    replace e0 : [c0] = [.slice a0_0 v0.length k0_0] := e0
    simp only [List.cons.injEq, and_true] at e0
    subst e0
    exact ⟨(GuideJourney.mk v0), a0_0, k0_0, rfl, q0_0⟩
theorem OFareBand {W : World} : Opens Tryz.prog W 94 RFareBand := by
  intro H enc fuel cs x h
  obtain ⟨hl, v0, h0⟩ := Opens.field fb94_0 (Opens.int und3) h
  obtain ⟨_, v1, h1⟩ := Opens.field fb94_1 (Opens.int und3) h
  rw [cel94] at hl
  match cs, hl with
  | [c0, c1], _ =>
    replace h0 : [c0] = [.int .i64 v0] := h0
    have e0 := h0
    simp only [List.cons.injEq, and_true] at e0
    subst e0
    replace h1 : [c1] = [.int .i64 v1] := h1
    have e1 := h1
    simp only [List.cons.injEq, and_true] at e1
    subst e1
    exact ⟨(FareBand.mk v0 v1), rfl⟩
theorem OFareCond {W : World} : Opens Tryz.prog W 97 RFareCond := OpensN.all fun N => by
  induction N with
  | zero => exact OpensN.zero
  | succ N ih =>
    intro H enc fuel cs x hF h
    obtain ⟨hl, v0, h0⟩ := OpensN.field fb97_0 (Opens.int und3).n hF h
    obtain ⟨_, v1, h1⟩ := OpensN.field fb97_1 (Opens.int und3).n hF h
    obtain ⟨_, v2, h2⟩ := OpensN.field fb97_2 (Opens.int und3).n hF h
    obtain ⟨_, v3, h3⟩ := OpensN.field fb97_3 (OpensN.slice und95 cel97 (by decide) ih) hF h
    rw [cel97] at hl
    match cs, hl with
    | [c0, c1, c2, c3], _ =>
      replace h0 : [c0] = [.int .i64 v0] := h0
      have e0 := h0
      simp only [List.cons.injEq, and_true] at e0
      subst e0
      replace h1 : [c1] = [.int .i64 v1] := h1
      have e1 := h1
      simp only [List.cons.injEq, and_true] at e1
      subst e1
      replace h2 : [c2] = [.int .i64 v2] := h2
      have e2 := h2
      simp only [List.cons.injEq, and_true] at e2
      subst e2
      obtain ⟨a3_0, k3_0, e3, q3_0⟩ := h3
      replace e3 : [c3] = [.slice a3_0 v3.length k3_0] := e3
      simp only [List.cons.injEq, and_true] at e3
      subst e3
      exact ⟨(FareCond.mk v0 v1 v2 v3), RFareCond.fold ⟨a3_0, k3_0, rfl, q3_0⟩⟩
theorem OFareRule {W : World} : Opens Tryz.prog W 99 RFareRule := by
  intro H enc fuel cs x h
  obtain ⟨hl, v0, h0⟩ := Opens.field fb99_0 OFareCond h
  obtain ⟨_, v1, h1⟩ := Opens.field fb99_1 (Opens.int und3) h
  obtain ⟨_, v2, h2⟩ := Opens.field fb99_2 (Opens.int und3) h
  obtain ⟨_, v3, h3⟩ := Opens.field fb99_3 (Opens.bool und4) h
  rw [cel99] at hl
  match cs, hl with
  | [c0, c1, c2, c3, c4, c5, c6], _ =>
    obtain ⟨a0_0, k0_0, e0, q0_0⟩ := h0.unf
    replace e0 : [c0, c1, c2, c3] = [.int .i64 v0.Kind, .int .i64 v0.A, .int .i64 v0.B, .slice a0_0 v0.Kids.length k0_0] := e0
    simp only [List.cons.injEq, and_true] at e0
    obtain ⟨rfl, rfl, rfl, rfl⟩ := e0
    replace h1 : [c4] = [.int .i64 v1] := h1
    have e1 := h1
    simp only [List.cons.injEq, and_true] at e1
    subst e1
    replace h2 : [c5] = [.int .i64 v2] := h2
    have e2 := h2
    simp only [List.cons.injEq, and_true] at e2
    subst e2
    replace h3 : [c6] = [.bool v3] := h3
    have e3 := h3
    simp only [List.cons.injEq, and_true] at e3
    subst e3
    exact ⟨(FareRule.mk v0 v1 v2 v3), a0_0, k0_0, rfl, q0_0⟩
theorem OFareTariff {W : World} : Opens Tryz.prog W 32 RFareTariff := by
  intro H enc fuel cs x h
  obtain ⟨hl, v0, h0⟩ := Opens.field fb32_0 (Opens.bool und4) h
  obtain ⟨_, v1, h1⟩ := Opens.field fb32_1 (Opens.slice und29 cel94 (by decide) OFareBand) h
  obtain ⟨_, v2, h2⟩ := Opens.field fb32_2 (Opens.int und3) h
  obtain ⟨_, v3, h3⟩ := Opens.field fb32_3 (Opens.slice und30 cel99 (by decide) OFareRule) h
  rw [cel32] at hl
  match cs, hl with
  | [c0, c1, c2, c3], _ =>
    replace h0 : [c0] = [.bool v0] := h0
    have e0 := h0
    simp only [List.cons.injEq, and_true] at e0
    subst e0
    obtain ⟨a1_0, k1_0, e1, q1_0⟩ := h1
    replace e1 : [c1] = [.slice a1_0 v1.length k1_0] := e1
    simp only [List.cons.injEq, and_true] at e1
    subst e1
    replace h2 : [c2] = [.int .i64 v2] := h2
    have e2 := h2
    simp only [List.cons.injEq, and_true] at e2
    subst e2
    obtain ⟨a3_0, k3_0, e3, q3_0⟩ := h3
    replace e3 : [c3] = [.slice a3_0 v3.length k3_0] := e3
    simp only [List.cons.injEq, and_true] at e3
    subst e3
    exact ⟨(FareTariff.mk v0 v1 v2 v3), a1_0, k1_0, a3_0, k3_0, rfl, q1_0, q3_0⟩

theorem OIApiStop {W : World} : OpensI Tryz.prog W 44 RApiStop InApiStop := by
  intro H enc fuel cs x h v hv
  subst hv
  exact ⟨OpensI.field fb44_0 (OpensI.int und3) h (v := v.Station) rfl, OpensI.field fb44_1 (OpensI.int und3) h (v := v.Track) rfl, OpensI.field fb44_2 (OpensI.int und3) h (v := v.Arr) rfl, OpensI.field fb44_3 (OpensI.int und3) h (v := v.Dep) rfl⟩
theorem OIApiTrain {W : World} : OpensI Tryz.prog W 42 RApiTrain InApiTrain := by
  intro H enc fuel cs x h v hv
  obtain ⟨_, _, _, _, rfl, h0, h1⟩ := hv
  exact ⟨OpensI.field fb42_0 (OpensI.int und3) h (v := v.No) rfl, OpensI.field fb42_1 (OpensI.int und3) h (v := v.Stock) rfl, OpensI.field fb42_2 (OpensI.slice und40 cel44 (by decide) OIApiStop) h (v := v.Stops) ⟨_, _, rfl, h0⟩, OpensI.field fb42_3 (OpensI.slice und23 cel37 (by decide) (OpensI.slice und37 cel3 (by decide) (OpensI.int und3))) h (v := v.Legs) ⟨_, _, rfl, h1⟩⟩
theorem OIApiDay {W : World} : OpensI Tryz.prog W 25 RApiDay InApiDay := by
  intro H enc fuel cs x h v hv
  obtain ⟨_, _, _, _, rfl, h0, h1⟩ := hv
  exact ⟨OpensI.field fb25_0 (OpensI.slice und22 cel42 (by decide) OIApiTrain) h (v := v.Trains) ⟨_, _, rfl, h0⟩, OpensI.field fb25_1 (OpensI.slice und23 cel37 (by decide) (OpensI.slice und37 cel3 (by decide) (OpensI.int und3))) h (v := v.Turns) ⟨_, _, rfl, h1⟩⟩
theorem OIGuideRide {W : World} : OpensI Tryz.prog W 39 RGuideRide InGuideRide := by
  intro H enc fuel cs x h v hv
  subst hv
  exact ⟨OpensI.field fb39_0 (OpensI.int und3) h (v := v.Train) rfl, OpensI.field fb39_1 (OpensI.int und3) h (v := v.On) rfl, OpensI.field fb39_2 (OpensI.int und3) h (v := v.Off) rfl⟩
theorem OIGuideJourney {W : World} : OpensI Tryz.prog W 28 RGuideJourney InGuideJourney := by
  intro H enc fuel cs x h v hv
  obtain ⟨_, _, rfl, h0⟩ := hv
  exact OpensI.field fb28_0 (OpensI.slice und26 cel39 (by decide) OIGuideRide) h (v := v.Rides) ⟨_, _, rfl, h0⟩
theorem OIFareBand {W : World} : OpensI Tryz.prog W 94 RFareBand InFareBand := by
  intro H enc fuel cs x h v hv
  subst hv
  exact ⟨OpensI.field fb94_0 (OpensI.int und3) h (v := v.Upto) rfl, OpensI.field fb94_1 (OpensI.int und3) h (v := v.Price) rfl⟩
theorem OIFareRule {W : World} : OpensI Tryz.prog W 99 RFareRule InFareRule := by
  intro H enc fuel cs x h v hv
  obtain ⟨_, _, rfl, h0⟩ := hv
  exact ⟨trivial, OpensI.field fb99_1 (OpensI.int und3) h (v := v.Do) rfl, OpensI.field fb99_2 (OpensI.int und3) h (v := v.N) rfl, trivial⟩
theorem OIFareTariff {W : World} : OpensI Tryz.prog W 32 RFareTariff InFareTariff := by
  intro H enc fuel cs x h v hv
  obtain ⟨_, _, _, _, rfl, h0, h1⟩ := hv
  exact ⟨trivial, OpensI.field fb32_1 (OpensI.slice und29 cel94 (by decide) OIFareBand) h (v := v.Bands) ⟨_, _, rfl, h0⟩, OpensI.field fb32_2 (OpensI.int und3) h (v := v.Round) rfl, OpensI.field fb32_3 (OpensI.slice und30 cel99 (by decide) OIFareRule) h (v := v.Rules) ⟨_, _, rfl, h1⟩⟩
end Go.Proofs.YtngamgkmhgmmjaaGreatDoor
