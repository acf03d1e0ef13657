/- What the arguments of the law read as. No condition. -/
import Derived.Test.YthllfhmpjclplaaGreatDoorProg
import Derived.Test.YthllfhmpjclplaaGreatDoorGuideDesksM
import Derived.Test.YthllfhmpjclplaaGreatDoorFpIn
namespace Go.Proofs.YthllfhmpjclplaaGreatDoor
open Tryz renaming prog → b2n
open Go Go.Fp
theorem a6B : b2n.cellsOf 25 = 2 := by kernel_rfl
theorem a4W : b2n.cellsOf 28 = 1 := by kernel_rfl
theorem a7o : b2n.cellsOf 3 = 1 := by kernel_rfl
theorem a7c : b2n.cellsOf 42 = 1 := by kernel_rfl
theorem a5V : b2n.cellsOf 72 = 4 := by kernel_rfl
theorem a6z : b2n.cellsOf 75 = 4 := by kernel_rfl
theorem a6A : b2n.cellsOf 88 = 3 := by kernel_rfl
theorem a5M : R0 b2n 25 0 22 0 1 = true := by kernel_rfl
theorem a5U : R0 b2n 25 1 23 1 1 = true := by kernel_rfl
theorem a5T : R0 b2n 42 0 40 0 1 = true := by kernel_rfl
theorem a5W : R0 b2n 72 0 3 0 1 = true := by kernel_rfl
theorem a5Q : R0 b2n 72 1 3 1 1 = true := by kernel_rfl
theorem a5K : R0 b2n 72 2 70 2 1 = true := by kernel_rfl
theorem a5S : R0 b2n 72 3 23 3 1 = true := by kernel_rfl
theorem a7h : R0 b2n 75 0 3 0 1 = true := by kernel_rfl
theorem a7B : R0 b2n 75 1 3 1 1 = true := by kernel_rfl
theorem a7A : R0 b2n 75 2 3 2 1 = true := by kernel_rfl
theorem a7k : R0 b2n 75 3 3 3 1 = true := by kernel_rfl
theorem a7q : R0 b2n 88 0 3 0 1 = true := by kernel_rfl
theorem a7z : R0 b2n 88 1 3 1 1 = true := by kernel_rfl
theorem a7j : R0 b2n 88 2 3 2 1 = true := by kernel_rfl
theorem a7Q : b2n.underlying 22 = some (.slice 72) := by kernel_rfl
theorem a5f : b2n.underlying 23 = some (.slice 28) := by kernel_rfl
theorem a7T : b2n.underlying 26 = some (.slice 25) := by kernel_rfl
theorem a8E : b2n.underlying 27 = some (.slice 42) := by kernel_rfl
theorem a2C : b2n.underlying 28 = some (.slice 3) := by kernel_rfl
theorem a1o : b2n.underlying 3 = some (.int .i64) := by kernel_rfl
theorem a8k : b2n.underlying 40 = some (.slice 88) := by kernel_rfl
theorem a8p : b2n.underlying 70 = some (.slice 75) := by kernel_rfl
theorem a4t {W : World} : K9 b2n W 75 I9 := by
  intro H enc fuel cs x h
  obtain ⟨hl, v0, h0⟩ := K9.field a7h (K9.int a1o) h
  obtain ⟨_, v1, h1⟩ := K9.field a7B (K9.int a1o) h
  obtain ⟨_, v2, h2⟩ := K9.field a7A (K9.int a1o) h
  obtain ⟨_, v3, h3⟩ := K9.field a7k (K9.int a1o) h
  rw [a6z] at hl
  match cs, hl with
  | [c0, c1, c2, c3], _ =>
    replace h0 : [c0] = [.int .i64 v0] := h0
    have e0 := h0
    simp only [List.cons.injEq, and_true] at e0
    subst e0
    replace h1 : [c1] = [.int .i64 v1] := h1
    have e1 := h1
    simp only [List.cons.injEq, and_true] at e1
    subst e1
    replace h2 : [c2] = [.int .i64 v2] := h2
    have e2 := h2
    simp only [List.cons.injEq, and_true] at e2
    subst e2
    replace h3 : [c3] = [.int .i64 v3] := h3
    have e3 := h3
    simp only [List.cons.injEq, and_true] at e3
    subst e3
    exact ⟨(B9.mk v0 v1 v2 v3), rfl⟩
theorem a5R {W : World} : K9 b2n W 72 A7 := by
  intro H enc fuel cs x h
  obtain ⟨hl, v0, h0⟩ := K9.field a5W (K9.int a1o) h
  obtain ⟨_, v1, h1⟩ := K9.field a5Q (K9.int a1o) h
  obtain ⟨_, v2, h2⟩ := K9.field a5K (K9.slice a8p a6z (by decide) a4t) h
  obtain ⟨_, v3, h3⟩ := K9.field a5S (K9.slice a5f a4W (by decide) (K9.slice a2C a7o (by decide) (K9.int a1o))) h
  rw [a5V] at hl
  match cs, hl with
  | [c0, c1, c2, c3], _ =>
    replace h0 : [c0] = [.int .i64 v0] := h0
    have e0 := h0
    simp only [List.cons.injEq, and_true] at e0
    subst e0
    replace h1 : [c1] = [.int .i64 v1] := h1
    have e1 := h1
    simp only [List.cons.injEq, and_true] at e1
    subst e1
    obtain ⟨a2_0, k2_0, e2, q2_0⟩ := h2
    replace e2 : [c2] = [.slice a2_0 v2.length k2_0] := e2
    simp only [List.cons.injEq, and_true] at e2
    subst e2
    obtain ⟨a3_0, k3_0, e3, q3_0⟩ := h3
    replace e3 : [c3] = [.slice a3_0 v3.length k3_0] := e3
    simp only [List.cons.injEq, and_true] at e3
    subst e3
    exact ⟨(B1.mk v0 v1 v2 v3), a2_0, k2_0, a3_0, k3_0, rfl, q2_0, q3_0⟩
theorem b0J {W : World} : K9 b2n W 25 S6 := by
  intro H enc fuel cs x h
  obtain ⟨hl, v0, h0⟩ := K9.field a5M (K9.slice a7Q a5V (by decide) a5R) h
  obtain ⟨_, v1, h1⟩ := K9.field a5U (K9.slice a5f a4W (by decide) (K9.slice a2C a7o (by decide) (K9.int a1o))) h
  rw [a6B] at hl
  match cs, hl with
  | [c0, c1], _ =>
    obtain ⟨a0_0, k0_0, e0, q0_0⟩ := h0
    replace e0 : [c0] = [.slice a0_0 v0.length k0_0] := e0
    simp only [List.cons.injEq, and_true] at e0
    subst e0
    obtain ⟨a1_0, k1_0, e1, q1_0⟩ := h1
    replace e1 : [c1] = [.slice a1_0 v1.length k1_0] := e1
    simp only [List.cons.injEq, and_true] at e1
    subst e1
    exact ⟨(B0.mk v0 v1), a0_0, k0_0, a1_0, k1_0, rfl, q0_0, q1_0⟩
theorem a2q {W : World} : K9 b2n W 88 A8 := by
  intro H enc fuel cs x h
  obtain ⟨hl, v0, h0⟩ := K9.field a7q (K9.int a1o) h
  obtain ⟨_, v1, h1⟩ := K9.field a7z (K9.int a1o) h
  obtain ⟨_, v2, h2⟩ := K9.field a7j (K9.int a1o) h
  rw [a6A] at hl
  match cs, hl with
  | [c0, c1, c2], _ =>
    replace h0 : [c0] = [.int .i64 v0] := h0
    have e0 := h0
    simp only [List.cons.injEq, and_true] at e0
    subst e0
    replace h1 : [c1] = [.int .i64 v1] := h1
    have e1 := h1
    simp only [List.cons.injEq, and_true] at e1
    subst e1
    replace h2 : [c2] = [.int .i64 v2] := h2
    have e2 := h2
    simp only [List.cons.injEq, and_true] at e2
    subst e2
    exact ⟨(A1.mk v0 v1 v2), rfl⟩
theorem a6E {W : World} : K9 b2n W 42 D9 := by
  intro H enc fuel cs x h
  obtain ⟨hl, v0, h0⟩ := K9.field a5T (K9.slice a8k a6A (by decide) a2q) h
  rw [a7c] at hl
  match cs, hl with
  | [c0], _ =>
    obtain ⟨a0_0, k0_0, e0, q0_0⟩ := h0
    replace e0 : [c0] = [.slice a0_0 v0.length k0_0] := e0
    simp only [List.cons.injEq, and_true] at e0
    subst e0
    exact ⟨(A3.mk v0), a0_0, k0_0, rfl, q0_0⟩

theorem a5C {W : World} : I8 b2n W 75 I9 a1h := by
  intro H enc fuel cs x h v hv
  subst hv
  exact ⟨I8.field a7h (I8.int a1o) h (v := v.Station) rfl, I8.field a7B (I8.int a1o) h (v := v.Track) rfl, I8.field a7A (I8.int a1o) h (v := v.Arr) rfl, I8.field a7k (I8.int a1o) h (v := v.Dep) rfl⟩
theorem a4Y {W : World} : I8 b2n W 72 A7 a0r := by
  intro H enc fuel cs x h v hv
  obtain ⟨_, _, _, _, rfl, h0, h1⟩ := hv
  exact ⟨I8.field a5W (I8.int a1o) h (v := v.No) rfl, I8.field a5Q (I8.int a1o) h (v := v.Stock) rfl, I8.field a5K (I8.slice a8p a6z (by decide) a5C) h (v := v.Stops) ⟨_, _, rfl, h0⟩, I8.field a5S (I8.slice a5f a4W (by decide) (I8.slice a2C a7o (by decide) (I8.int a1o))) h (v := v.Legs) ⟨_, _, rfl, h1⟩⟩
theorem a4v {W : World} : I8 b2n W 25 S6 S5 := by
  intro H enc fuel cs x h v hv
  obtain ⟨_, _, _, _, rfl, h0, h1⟩ := hv
  exact ⟨I8.field a5M (I8.slice a7Q a5V (by decide) a4Y) h (v := v.Trains) ⟨_, _, rfl, h0⟩, I8.field a5U (I8.slice a5f a4W (by decide) (I8.slice a2C a7o (by decide) (I8.int a1o))) h (v := v.Turns) ⟨_, _, rfl, h1⟩⟩
theorem a3L {W : World} : I8 b2n W 88 A8 a2h := by
  intro H enc fuel cs x h v hv
  subst hv
  exact ⟨I8.field a7q (I8.int a1o) h (v := v.Train) rfl, I8.field a7z (I8.int a1o) h (v := v.On) rfl, I8.field a7j (I8.int a1o) h (v := v.Off) rfl⟩
theorem a2m {W : World} : I8 b2n W 42 D9 a0E := by
  intro H enc fuel cs x h v hv
  obtain ⟨_, _, rfl, h0⟩ := hv
  exact I8.field a5T (I8.slice a8k a6A (by decide) a3L) h (v := v.Rides) ⟨_, _, rfl, h0⟩
theorem b1y : b2n.underlying 4 = some .bool := by kernel_rfl
end Go.Proofs.YthllfhmpjclplaaGreatDoor
