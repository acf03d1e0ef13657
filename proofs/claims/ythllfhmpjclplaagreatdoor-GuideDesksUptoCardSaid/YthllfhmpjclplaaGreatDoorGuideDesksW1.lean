/- The walks of the functions that GuideDesks reaches: each call comes to what its mirror says. The conditions are those of each contract. -/
import Derived.Test.YthllfhmpjclplaaGreatDoorFpTight
import Derived.Test.YthllfhmpjclplaaGreatDoorFpGolf
import Derived.Test.YthllfhmpjclplaaGreatDoorGuideDesksM
import Derived.Test.YthllfhmpjclplaaGreatDoorGuideDesksS
import Derived.Test.YthllfhmpjclplaaGreatDoorFpOrd
import Derived.Test.YthllfhmpjclplaaGreatDoorFpRf
import Derived.Test.YthllfhmpjclplaaGreatDoorFpRgn
import Derived.Test.YthllfhmpjclplaaGreatDoorFpRng
set_option maxRecDepth 10000
open Bool renaming eq_iff_iff → b4l, eq_false_or_eq_true → b2o
open Nat renaming lt_succ_self → b2p
namespace Go.Proofs.YthllfhmpjclplaaGreatDoor
open Tryz renaming prog → b2n
open Go Go.Fp
instance : MR I9 := ⟨I9.mono⟩
instance : MR A7 := ⟨A7.mono⟩
instance : MR S6 := ⟨S6.mono⟩
instance : MR a1w := ⟨a1w.mono⟩
instance : MR A8 := ⟨A8.mono⟩
instance : MR D9 := ⟨D9.mono⟩
instance : MR H0 := ⟨H0.mono⟩
instance : MR Q1 := ⟨Q1.mono⟩
instance : MR A5 := ⟨A5.mono⟩
instance : MR Q4 := ⟨Q4.mono⟩
instance : MR N8 := ⟨N8.mono⟩
instance : MR M0 := ⟨M0.mono⟩
instance : MR U5 := ⟨U5.mono⟩
instance : MR T1 := ⟨T1.mono⟩
instance : MR G8 := ⟨G8.mono⟩
variable {s : Sg} {R : List HP}
def D0 : Ob C5 := fun s cs H x => ∃ (a5 : Option Addr) (c5 : Nat) (a6 : Option Addr) (c6 n6 : Nat) (cs6 : List Value) (a7 : Option Addr) (c7 n7 : Nat) (cs7 : List Value) (a8 : Option Addr) (c8 n8 : Nat) (cs8 : List Value), cs = [vi x.Promise.From, vi x.Promise.To, vi x.Promise.Dep, vi x.Promise.Arr, vi x.Promise.State, .slice a5 x.Promise.Journey.Rides.length c5, .slice a6 n6 c6, .slice a7 n7 c7, .slice a8 n8 c8, vi x.station, vi x.when] ∧ H = L5 [B2 4 1 a6 c6 n6 cs6, B2 3 1 a7 c7 n7 cs7, B2 3 1 a8 c8 n8 cs8] ∧ Sl 3 A8 s a5 c5 x.Promise.Journey.Rides ∧ Ev 1 RB s cs6 x.over ∧ x.over.length = n6 ∧ Ev 1 (RI .i64) s cs7 x.arrived ∧ x.arrived.length = n7 ∧ Ev 1 (RI .i64) s cs8 x.ends ∧ x.ends.length = n8
theorem D0.mono : a4P D0 := by
 rintro s t h cs H x ⟨a5, c5, a6, c6, n6, cs6, a7, c7, n7, cs7, a8, c8, n8, cs8, e1, e2, h5, h6, k6, h7, k7, h8, k8⟩
 exact ⟨a5, c5, a6, c6, n6, cs6, a7, c7, n7, cs7, a8, c8, n8, cs8, e1, e2, h5.mono A8.mono h, h6.mono RB.mono h, k6, h7.mono RI.mono h, k7, h8.mono RI.mono h, k8⟩
instance : MO D0 := ⟨D0.mono⟩
def C9 : Ob C4 := fun s cs H x => ∃ (b : Nat) (a5 : Option Addr) (c5 : Nat) (a6 : Option Addr) (c6 n6 : Nat) (cs6 : List Value) (a7 : Option Addr) (c7 n7 : Nat) (cs7 : List Value) (a8 : Option Addr) (c8 n8 : Nat) (cs8 : List Value), cs = [pp b] ∧ H = L5 [pc b #[vi x.Promise.From, vi x.Promise.To, vi x.Promise.Dep, vi x.Promise.Arr, vi x.Promise.State, .slice a5 x.Promise.Journey.Rides.length c5, .slice a6 n6 c6, .slice a7 n7 c7, .slice a8 n8 c8, vi x.place, vi x.when] 82, B2 4 1 a6 c6 n6 cs6, B2 3 1 a7 c7 n7 cs7, B2 3 1 a8 c8 n8 cs8] ∧ Sl 3 A8 s a5 c5 x.Promise.Journey.Rides ∧ Ev 1 RB s cs6 x.over ∧ x.over.length = n6 ∧ Ev 1 (RI .i64) s cs7 x.came ∧ x.came.length = n7 ∧ Ev 1 (RI .i64) s cs8 x.offs ∧ x.offs.length = n8
theorem C9.mono : a4P C9 := by
 rintro s t h cs H x ⟨b, a5, c5, a6, c6, n6, cs6, a7, c7, n7, cs7, a8, c8, n8, cs8, e1, e2, h5, h6, k6, h7, k7, h8, k8⟩
 exact ⟨b, a5, c5, a6, c6, n6, cs6, a7, c7, n7, cs7, a8, c8, n8, cs8, e1, e2, h5.mono A8.mono h, h6.mono RB.mono h, k6, h7.mono RI.mono h, k7, h8.mono RI.mono h, k8⟩

instance : MO C9 := ⟨C9.mono⟩
def J9 : a1B A2 where
 ls := fun a => [.i .i64 a.Dep, .i .i64 a.Arr, .i .i64 a.Rides]
 ks := [.i .i64, .i .i64, .i .i64]
 kinds := by intro a; rfl
 same := by intro a b; cases a; cases b; rw [b4l]; simp [eqs, S1.same]
 law := by intro a b h; simpa using h
 refl := by simp

def G9 : a1B F8 where
 ls := fun a => [.i .i64 a.train, .i .i64 a.off]
 ks := [.i .i64, .i .i64]
 kinds := by intro a; rfl
 same := by intro a b; cases a; cases b; rw [b4l]; simp [eqs, S1.same]
 law := by intro a b h; simpa using h
 refl := by simp

def L8 : a1B M6 where
 ls := fun a => [.i .i64 a.f0, .i .i64 a.f1, .i .i64 a.f2]
 ks := [.i .i64, .i .i64, .i .i64]
 kinds := by intro a; rfl
 same := by intro a b; cases a; cases b; rw [b4l]; simp [eqs, S1.same]
 law := by intro a b h; simpa using h
 refl := by simp
theorem b0q : a0p b2n 110 113 3 = true := by kernel_rfl
theorem b1x : a0p b2n 22 72 4 = true := by kernel_rfl
theorem a9F : a0p b2n 23 28 1 = true := by kernel_rfl
theorem b1g : a0p b2n 27 42 1 = true := by kernel_rfl
theorem W6 : a0p b2n 28 3 1 = true := by kernel_rfl
theorem b2d : a0p b2n 36 83 1 = true := by kernel_rfl
theorem a6K : a0p b2n 37 50 5 = true := by kernel_rfl
theorem a7F : a0p b2n 40 88 3 = true := by kernel_rfl
theorem b1v : a0p b2n 54 56 6 = true := by kernel_rfl
theorem b2e : a0p b2n 67 78 11 = true := by kernel_rfl
theorem b1I : a0p b2n 70 75 4 = true := by kernel_rfl
theorem a2d : a0p b2n 76 4 1 = true := by kernel_rfl
theorem a6t : a6Z b2n 143 4 = true := by kernel_rfl
theorem a6p : a2i b2n 150 3 (.i .i64) = true := by kernel_rfl
theorem b0A : J7 b2n 100 = true := by kernel_rfl
theorem b1k : J7 b2n 12 = true := by kernel_rfl
theorem b1S : J7 b2n 18 = true := by kernel_rfl
theorem b1F : J7 b2n 19 = true := by kernel_rfl
theorem b1w : J7 b2n 20 = true := by kernel_rfl
theorem b1C : J7 b2n 21 = true := by kernel_rfl
theorem b0a : J7 b2n 25 = true := by kernel_rfl
theorem b1T : J7 b2n 26 = true := by kernel_rfl
theorem b0E : J7 b2n 27 = true := by kernel_rfl
theorem b2l : J7 b2n 30 = true := by kernel_rfl
theorem b1G : J7 b2n 34 = true := by kernel_rfl
theorem b1n : J7 b2n 35 = true := by kernel_rfl
theorem b1t : J7 b2n 36 = true := by kernel_rfl
theorem b1s : J7 b2n 38 = true := by kernel_rfl
theorem b2i : J7 b2n 39 = true := by kernel_rfl
theorem b2c : J7 b2n 44 = true := by kernel_rfl
theorem b1h : J7 b2n 45 = true := by kernel_rfl
theorem b1O : J7 b2n 46 = true := by kernel_rfl
theorem a8Z : J7 b2n 52 = true := by kernel_rfl
theorem b0V : J7 b2n 55 = true := by kernel_rfl
theorem b1D : J7 b2n 57 = true := by kernel_rfl
theorem b2b : J7 b2n 64 = true := by kernel_rfl
theorem b1Y : J7 b2n 70 = true := by kernel_rfl
theorem b0t : J7 b2n 77 = true := by kernel_rfl
theorem b1a : J7 b2n 79 = true := by kernel_rfl
theorem b2k : J7 b2n 80 = true := by kernel_rfl
theorem b0j : J7 b2n 82 = true := by kernel_rfl
theorem b1P : J7 b2n 83 = true := by kernel_rfl
theorem b1p : J7 b2n 89 = true := by kernel_rfl
theorem bd9 : J7 b2n 9 = true := by kernel_rfl
theorem a9X : J7 b2n 90 = true := by kernel_rfl
theorem b1B : J7 b2n 97 = true := by kernel_rfl
theorem b2f : J7 b2n 98 = true := by kernel_rfl
theorem bl4 : b0o b2n 4 = true := by kernel_rfl
theorem b0F : a8R b2n 110 113 3 = true := by kernel_rfl
theorem a7J : a7L b2n 75 0 0 3 = true := by kernel_rfl
theorem a9C : a7L b2n 75 2 2 3 = true := by kernel_rfl
theorem a9l : a7L b2n 75 3 3 3 = true := by kernel_rfl
theorem a9y : a0x b2n 25 1 1 = true := by kernel_rfl
theorem a9x : a0x b2n 39 4 5 = true := by kernel_rfl
theorem a9Q : a0x b2n 56 3 3 = true := by kernel_rfl
theorem a9p : a0x b2n 56 4 4 = true := by kernel_rfl
theorem a9N : a0x b2n 66 1 2 = true := by kernel_rfl
theorem a9E : a0x b2n 69 2 4 = true := by kernel_rfl
theorem a9f : a0x b2n 72 3 3 = true := by kernel_rfl
theorem a9H : a0x b2n 78 5 10 = true := by kernel_rfl
theorem a7C : a0x b2n 82 0 0 = true := by kernel_rfl
theorem a9P : a0x b2n 82 5 10 = true := by kernel_rfl
theorem b0M : a5l b2n 22 = true := by kernel_rfl
theorem b0Q : a5l b2n 23 = true := by kernel_rfl
theorem a8C : a5l b2n 28 = true := by kernel_rfl
theorem b0P : a5l b2n 37 = true := by kernel_rfl
theorem a8y : a5l b2n 40 = true := by kernel_rfl
theorem b0y : a5l b2n 70 = true := by kernel_rfl
theorem mixed : b2n.follows .mixedOrders = true := by kernel_rfl
theorem a9s : a4A b2n P2.ok 127 3 4 = true := by kernel_rfl
theorem a5c : a4A b2n P2.ok 137 3 40 = true := by kernel_rfl
theorem a9U : a2b b2n J9.ks 141 113 4 = true := by kernel_rfl
theorem a9T : a2b b2n G9.ks 142 146 4 = true := by kernel_rfl
theorem b0D : a4A b2n P2.ok 89 3 3 = true := by kernel_rfl
theorem b0h : a6M b2n 29 69 = true := by kernel_rfl
theorem b1Q : a1b b2n 50 [.i .i64, .i .i64, .i .i64, .i .i64, .i .i64] = true := by kernel_rfl
theorem b2a : a1b b2n 75 [.i .i64, .i .i64, .i .i64, .i .i64] = true := by kernel_rfl
theorem b2h : a1b b2n 88 [.i .i64, .i .i64, .i .i64] = true := by kernel_rfl
theorem a8U : a0q b2n 110 113 3 = true := by kernel_rfl
theorem b1r : a0q b2n 22 72 4 = true := by kernel_rfl
theorem b0b : a0q b2n 23 28 1 = true := by kernel_rfl
theorem a8S : a0q b2n 28 3 1 = true := by kernel_rfl
theorem a9I : a0q b2n 36 83 1 = true := by kernel_rfl
theorem a6s : a0q b2n 40 88 3 = true := by kernel_rfl
theorem b0n : a0q b2n 67 78 11 = true := by kernel_rfl
theorem a9K : a0q b2n 70 75 4 = true := by kernel_rfl
theorem a9L : a0q b2n 76 4 1 = true := by kernel_rfl
theorem a9d : Q8 b2n 113 true 3 = true := by kernel_rfl
theorem a8K : Q8 b2n 142 false 1 = true := by kernel_rfl
theorem a8b : Q8 b2n 143 true 4 = true := by kernel_rfl
theorem b1N : Q8 b2n 22 false 1 = true := by kernel_rfl
theorem b1Z : Q8 b2n 23 false 1 = true := by kernel_rfl
theorem b0w : Q8 b2n 25 true 2 = true := by kernel_rfl
theorem b1b : Q8 b2n 28 false 1 = true := by kernel_rfl
theorem ty3 : Q8 b2n 3 false 1 = true := by kernel_rfl
theorem b1W : Q8 b2n 37 false 1 = true := by kernel_rfl
theorem ty4 : Q8 b2n 4 false 1 = true := by kernel_rfl
theorem a8N : Q8 b2n 40 false 1 = true := by kernel_rfl
theorem a2W : Q8 b2n 42 true 1 = true := by kernel_rfl
theorem b2g : Q8 b2n 56 true 6 = true := by kernel_rfl
theorem a9Z : Q8 b2n 66 true 3 = true := by kernel_rfl
theorem a3P : Q8 b2n 70 false 1 = true := by kernel_rfl
theorem b1z : Q8 b2n 72 true 4 = true := by kernel_rfl
theorem b0k : Q8 b2n 75 true 4 = true := by kernel_rfl
theorem b0Y : Q8 b2n 78 true 11 = true := by kernel_rfl
theorem a9q : Q8 b2n 83 false 1 = true := by kernel_rfl
theorem a4Z : Q8 b2n 88 true 3 = true := by kernel_rfl
theorem b0N : b2n.underlying 137 = some (.map 3 40) := by kernel_rfl
theorem b0C : b2n.underlying 142 = some (.map 146 4) := by kernel_rfl
theorem a9a : b2n.underlying 149 = some (.map 150 4) := by kernel_rfl
theorem zm3 : (b2n.info? 3).bind (fun i => i.zero) = some ((Value.int .i64) 0) := by kernel_rfl
theorem zm4 : (b2n.info? 4).bind (fun i => i.zero) = some (Value.bool false) := by kernel_rfl
theorem a5H : (b2n.info? 113).bind (fun i => i.zero.map fun z => z.cells.toList) = some [vi 0, vi 0, vi 0] := by kernel_rfl
theorem b0R : (b2n.info? 137).bind (fun i => i.zero.map fun z => z.cells.toList) = some [.map none] := by kernel_rfl
theorem a9k : (b2n.info? 143).bind (fun i => i.zero.map fun z => z.cells.toList) = some [.map none, .map none, .map none, .map none] := by kernel_rfl
theorem a8V : (b2n.info? 146).bind (fun i => i.zero.map fun z => z.cells.toList) = some [vi 0, vi 0] := by kernel_rfl
theorem b0z : (b2n.info? 149).bind (fun i => i.zero.map fun z => z.cells.toList) = some [.map none] := by kernel_rfl
theorem b0u : (b2n.info? 150).bind (fun i => i.zero.map fun z => z.cells.toList) = some [vi 0, vi 0, vi 0] := by kernel_rfl
theorem b0K : (b2n.info? 152).bind (fun i => i.zero.map fun z => z.cells.toList) = some [.nilFunc] := by kernel_rfl
theorem b0s : (b2n.info? 157).bind (fun i => i.zero.map fun z => z.cells.toList) = some [.pointer none, .slice none 0 0] := by kernel_rfl
theorem b0O : (b2n.info? 25).bind (fun i => i.zero.map fun z => z.cells.toList) = some [.slice none 0 0, .slice none 0 0] := by kernel_rfl
theorem b1L : (b2n.info? 27).bind (fun i => i.zero.map fun z => z.cells.toList) = some [.slice none 0 0] := by kernel_rfl
theorem zr3 : (b2n.info? 3).bind (fun i => i.zero.map fun z => z.cells.toList) = some [vi 0] := by kernel_rfl
theorem zr4 : (b2n.info? 4).bind (fun i => i.zero.map fun z => z.cells.toList) = some [.bool false] := by kernel_rfl
theorem b1E : (b2n.info? 40).bind (fun i => i.zero.map fun z => z.cells.toList) = some [.slice none 0 0] := by kernel_rfl
theorem a3B : (b2n.info? 42).bind (fun i => i.zero.map fun z => z.cells.toList) = some [.slice none 0 0] := by kernel_rfl
theorem b0c : (b2n.info? 56).bind (fun i => i.zero.map fun z => z.cells.toList) = some [vi 0, vi 0, vi 0, vi 0, vi 0, .slice none 0 0] := by kernel_rfl
theorem b1j : (b2n.info? 66).bind (fun i => i.zero.map fun z => z.cells.toList) = some [.slice none 0 0, .slice none 0 0, vi 0] := by kernel_rfl
theorem a5o : (b2n.info? 72).bind (fun i => i.zero.map fun z => z.cells.toList) = some [vi 0, vi 0, .slice none 0 0, .slice none 0 0] := by kernel_rfl
theorem a3O : (b2n.info? 75).bind (fun i => i.zero.map fun z => z.cells.toList) = some [vi 0, vi 0, vi 0, vi 0] := by kernel_rfl
theorem a2U : (b2n.info? 78).bind (fun i => i.zero.map fun z => z.cells.toList) = some [vi 0, vi 0, vi 0, vi 0, vi 0, .slice none 0 0, .slice none 0 0, .slice none 0 0, .slice none 0 0, vi 0, vi 0] := by kernel_rfl
theorem a0Z : (b2n.info? 88).bind (fun i => i.zero.map fun z => z.cells.toList) = some [vi 0, vi 0, vi 0] := by kernel_rfl
theorem b1U : (b2n.info? 94).bind (fun i => i.zero.map fun z => z.cells.toList) = some [.nilFunc] := by kernel_rfl
theorem b0L : (b2n.info? 40).bind (fun i => i.zero) = some (.slice none 0 0) := by kernel_rfl
theorem a7O : b2n.follows .mixedOrders = true := by kernel_rfl
theorem a6f : Q8 b2n 154 false 1 = true := by kernel_rfl
theorem a2o : Q8 b2n 155 false 1 = true := by kernel_rfl
theorem a7V : a0x b2n 157 0 0 = true := by kernel_rfl
theorem a6x : a0x b2n 157 1 1 = true := by kernel_rfl
theorem b1H : a0p b2n 155 5 1 = true := by kernel_rfl
theorem b1o : a0q b2n 155 5 1 = true := by kernel_rfl
theorem b1V : a6M b2n 154 157 = true := by kernel_rfl
theorem a8A : b2n.underlying 154 = some (.pointer 157) := by kernel_rfl
theorem a8W : b2n.underlying 191 = some .unsafePointer := by kernel_rfl
theorem a9S : b2n.underlying 175 = some (.pointer 5) := by kernel_rfl
theorem b1K : b2n.underlying 9 = some .string := by kernel_rfl
theorem b1M : a8Q b2n 9 = true := by kernel_rfl
theorem sbc : b2n.cellsOf 157 = 2 := by kernel_rfl
theorem b0Z : b2n.cellsOf 5 = 1 := by kernel_rfl
theorem b1A : (b2n.info? 157).map (·.size) = some 2 := by kernel_rfl
theorem sbi : ∃ j, b2n.info? 157 = some j ∧ j.size ≠ 0 := by
 have h := b1A
 rw [Option.map_eq_some_iff] at h
 obtain ⟨j, h1, h2⟩ := h
 exact ⟨j, h1, by omega⟩
theorem a9V : a7D b2n 111 := ⟨_, rfl, by kernel_rfl, by kernel_rfl, by kernel_rfl, by kernel_rfl⟩
theorem b1X : J7 b2n 94 = true := by kernel_rfl
section
variable {w : World} {s : Sg} {R : List HP} {b : Nat} {y : ByteArray}
theorem a4S {f a : Option Addr} {c : Nat} (hf : f = none ∨ f = some ⟨b, 0, none⟩) (g : St w s (pc b [.pointer f, .slice a y.size c].toArray 157 :: R)) :
  Calls b2n 94 [pp b].toArray w (fun e w => e = .returned (.tuple #[]) ∧ St w s (pc b [pp b, .slice a y.size c].toArray 157 :: R)) := by
 obtain ⟨j, i, k⟩ := sbi
 refine enter Tryz.func94 rfl rfl rfl fun a d => ?_
 refine sg [.s,.p,.n] g d fun a d => ?_
 refine vP g d (A6.fld d rfl a7V) rfl fun a d => ?_
 refine vP g d (A6.loadB d 0 rfl rfl rfl a6f) rfl fun a d => ?_
 refine vP g d (A6.isNilP d rfl rfl b1V) rfl fun a d => WL.nil ?_
 refine W.cond d rfl (fun hc => ?_) (fun hc => ?_)
 ·refine sg [.r,.p,.p] g d fun a d => ?_
  refine vP g d (A6.toUnsafe d 0 rfl rfl rfl a8A a8W i k) rfl fun a d => ?_
  refine WL.same d a9V (A0 rfl) rfl rfl fun a d => ?_
  refine vP g d (A6.fromUnsafe d 0 rfl rfl a8W a8A i sbc rfl) rfl fun a d => ?_
  refine sl [.n] g d fun a d => ?_
  refine vP g d (A6.fld d rfl a7V) rfl fun a d => ?_
  refine WL.storeI d g 0 rfl _ (A0 rfl) rfl rfl rfl a6f rfl rfl rfl rfl ?_; clear d g a; intro a w d g
  refine WL.nil ?_
  refine b0f d rfl ?_
  exact ⟨rfl, g⟩
 have hf' : f = some ⟨b, 0, none⟩ := by
  rcases hf with rfl | h
  ·cases hc
  exact h
 subst hf'
 refine sg [.s,.p,.n] g d fun a d => ?_
 refine vP g d (A6.fld d rfl a7V) rfl fun a d => ?_
 refine vP g d (A6.loadB d 0 rfl rfl rfl a6f) rfl fun a d => ?_
 refine sl [.p] g d fun a d => ?_
 refine vP g d (A6.neqSame d rfl rfl a8A i) rfl fun a d => WL.nil ?_
 refine W.condF d rfl rfl ?_
 refine W.skip ?_
 refine b0f d rfl ?_
 exact ⟨rfl, g⟩

theorem a4M {x r : ByteArray} (g : St w s (sbC 157 5 b y :: R)) (i : sbw y x = some r) :
  Calls b2n 84 [pp b, .string x].toArray w (fun e w => e = .returned (.tuple #[vi x.size, .nilIface]) ∧ St w s (sbC 157 5 b r :: R)) := by
 obtain ⟨j, k, rfl⟩ := a7a i
 obtain ⟨f, sa, c, hf, ha, g⟩ := g.sbOpen
 refine enter Tryz.func84 rfl rfl rfl fun a d => ?_
 refine sg [.s,.p,.p,.e,.s,.p] g d fun a d => ?_
 refine WL.fnq d (a4S hf g) (A0 rfl) b1X rfl rfl rfl ?_
 clear d g; rintro e w ⟨rfl, g⟩; refine ⟨_, rfl, ?_⟩; clear a; intro a d
 refine sl [.e,.s,.p,.p,.n] g d fun a d => ?_
 refine vP g d (A6.fld d rfl a6x) rfl fun a d => ?_
 refine vP g d (A6.loadB d 0 rfl rfl rfl a2o) rfl fun a d => ?_
 refine sl [.p] g d fun a d => ?_
 refine WL.appStr d g 1 (A0 rfl) rfl rfl rfl b1H b1K j k ha.1 rfl ?_; clear d g a ha; intro h l a w ha d g
 refine sl [.n] g d fun a d => ?_
 refine vP g d (A6.fld d rfl a6x) rfl fun a d => ?_
 refine WL.storeI d g 0 rfl _ (A0 rfl) rfl rfl rfl a2o rfl rfl rfl rfl ?_; clear d g a; intro a w d g
 refine sl [.e,.s,.p] g d fun a d => ?_
 refine vP g d (A6.lenS d rfl b1M) rfl fun a d => ?_
 refine sl [.p,.p,.e] g d fun a d => ?_
 refine W.ret ?_
 refine fg [_, _] d ?_
 refine ⟨rfl, St.sbClose (f := some ⟨b, 0, none⟩) (a := h) (c := l) (.inr rfl) ha ?_⟩
 rw [ByteArray.size_append, a2z]
 exact g

theorem a3M (g : St w s (sbC 157 5 b y :: R)) :
  Calls b2n 86 [pp b].toArray w (fun e w => e = .returned (.string y) ∧ St w s R) := by
 obtain ⟨f, sa, c, hf, ha, g⟩ := g.sbOpen
 refine enter Tryz.func86 rfl rfl rfl fun a d => ?_
 refine sg [.s,.p,.e,.q] g d fun a d => ?_
 refine W.regionE (sel (fun w => St w s (pc b [.pointer f, .slice sa y.size c].toArray 157 :: B2 5 1 sa c y.size (byteCells y) :: R)) (fun w => St w s R)) (fun b i => cond b (!(i == 10)) true) a7O ?_
 replace g := g.drew
 refine sr [.P 0 .p,.P 5 .p,.P 1 .n,.P 6 .n] d g (g.tail.tail) fun a d => ?_
 refine Rg.takeP (i := 2) d rfl (by kernel_rfl) (A0 rfl) (A6.fld d rfl a6x) rfl (G2 (fun _ => g) (fun _ => g.tail.tail)) fun a d => ?_
 refine Rg.takeP (i := 7) d rfl (by kernel_rfl) (A0 rfl) (A6.fld d rfl a6x) rfl (G2 (fun _ => g) (fun _ => g.tail.tail)) fun a d => ?_
 refine Rg.two (i := 3) (j := 8) true true true true rfl rfl (by kernel_rfl) (by kernel_rfl) (by kernel_rfl) (by kernel_rfl) (by kernel_rfl) ?_ ?_
 ·refine vP g d (A6.loadB d 0 rfl rfl rfl a2o) rfl fun a d => WL.nil ?_
  refine ⟨⟨fun _ => g, fun _ => g.tail.tail⟩, ?_⟩
  refine Rg.takeP (i := 4) d rfl (by kernel_rfl) (A0 rfl) (A6.sliceData d rfl ha.2) rfl (G2 (fun _ => g) (fun _ => g.tail.tail)) fun a d => ?_
  refine ro 8 true true ?_
  refine vP g d (A6.loadB d 0 rfl rfl rfl a2o) rfl fun a d => WL.nil ?_
  refine ⟨⟨fun _ => g, fun _ => g.tail.tail⟩, ?_⟩
  refine Rg.takeP (i := 9) d rfl (by kernel_rfl) (A0 rfl) (A6.len d rfl b1o) rfl (G2 (fun _ => g) (fun _ => g.tail.tail)) fun a d => ?_
  refine ro 10 false true ?_
  refine WL.sbString d g 1 (A0 rfl) rfl rfl rfl ha.1 a9S b0Z rfl ?_; clear d g a; intro a w d g
  refine WL.nil ?_
  refine ⟨⟨fun h => absurd h (by decide), fun _ => g.tail⟩, ?_⟩
  refine Rg.takeP (i := 11) d rfl (by kernel_rfl) (A0 rfl) (A6.p d rfl) rfl (G2 (fun h => absurd h (by decide)) (fun _ => g.tail)) fun a d => ?_
  refine Rg.done (by kernel_rfl) ?_
  refine W.ret ?_
  refine fg [_] d ?_
  exact ⟨rfl, g.tail⟩
 refine vP g d (A6.loadB d 0 rfl rfl rfl a2o) rfl fun a d => WL.nil ?_
 refine ⟨⟨fun _ => g, fun _ => g.tail.tail⟩, ?_⟩
 refine Rg.takeP (i := 9) d rfl (by kernel_rfl) (A0 rfl) (A6.len d rfl b1o) rfl (G2 (fun _ => g) (fun _ => g.tail.tail)) fun a d => ?_
 refine ro 3 true true ?_
 refine vP g d (A6.loadB d 0 rfl rfl rfl a2o) rfl fun a d => WL.nil ?_
 refine ⟨⟨fun _ => g, fun _ => g.tail.tail⟩, ?_⟩
 refine Rg.takeP (i := 4) d rfl (by kernel_rfl) (A0 rfl) (A6.sliceData d rfl ha.2) rfl (G2 (fun _ => g) (fun _ => g.tail.tail)) fun a d => ?_
 refine ro 10 false true ?_
 refine WL.sbString d g 1 (A0 rfl) rfl rfl rfl ha.1 a9S b0Z rfl ?_; clear d g a; intro a w d g
 refine WL.nil ?_
 refine ⟨⟨fun h => absurd h (by decide), fun _ => g.tail⟩, ?_⟩
 refine Rg.takeP (i := 11) d rfl (by kernel_rfl) (A0 rfl) (A6.p d rfl) rfl (G2 (fun h => absurd h (by decide)) (fun _ => g.tail)) fun a d => ?_
 refine Rg.done (by kernel_rfl) ?_
 refine W.ret ?_
 refine fg [_] d ?_
 exact ⟨rfl, g.tail⟩
end
section
open Go.Sort
theorem a8F (x y : Int) : B3 x y = Lib.compareInt x y := by
 unfold B3 N2 Lib.compareInt
 simp
theorem a3W (x y : Int) (W : World) : Calls b2n 59 #[vi x, vi y] W fun e w' => e = .returned (vi (B3 x y)) ∧ w' = W := by
 rw [a8F]; exact Tryz.cmp_Compare_int x y W
end
section
open Go.Sort
set_option maxHeartbeats 8000000 in
theorem a5k  {w : World} {s : Sg} {R : List HP} {x0 : List Int} {p : Option Addr} {q : Nat} (f : St w s (R)) {l : World} (hw : w = l) (v : Sl 1 (RI .i64) s p q x0) {r : Int} (h : M4 x0 = r) :
  Calls b2n 58 [.slice p x0.length q].toArray w (fun e w => e = .returned (vi r) ∧ w = l) := by
 refine enter Tryz.func58 rfl rfl rfl fun a b => ?_
 rw [M4] at h
 refine sg [.s,.p,.e,.s,.p,.e,.q,.s,.p,.l 3 1,.p,.e] f b fun a b => ?_
 obtain ⟨o, d, h⟩ := R8 h
 refine W.cut (fun a w => (.next ()) = o ∧ Rep a 18 [(3, vi 0)] ∧ St w s (R) ∧ w = l) ?_ ?_
 ·refine W.block ?_
  refine W.loop (fun m a w => ∃ c k, c.length = m ∧ x0.drop k = c ∧ M4.loop1 c = o ∧ Rep a 18 [(3, vi 0), (6, .slice p x0.length q), (7, vi ((x0).length : Int)), (8, vi ((k : Nat) : Int))] ∧ St w s (R) ∧ w = l) (m := x0.length) ⟨x0, 0, rfl, rfl, d, b.pk, f, hw⟩ ?_
  clear b f hw a w d; rintro A a w ⟨c, k, rfl, g, d, b, f, hw⟩
  refine W.gen fun B i => ?_
  rcases c with _ | ⟨C, c⟩
  ·have n := E8 g
   refine sg [.s,.p,.e,.q] f b fun a b => ?_
   refine W.condF b rfl (decide_eq_false (by omega)) ?_
   subst i
   refine W.exit rfl ?_
   exact ⟨d, b.pk, f, hw⟩
  obtain ⟨n, t, g⟩ := C3 g
  rw [M4.loop1] at d
  refine sg [.s,.p,.e,.q] f b fun a b => ?_
  refine W.condT b rfl (decide_eq_true (by omega)) ?_
  obtain ⟨y, z, u, x⟩ := v.at t
  subst u
  refine sg [.k,.q,.o,.s,.x 3,.H,.p,.e,.s,.p,.p,.p,.e] f b fun a b => ?_
  refine W.cond b rfl (fun j => ?_) (fun j => ?_)
  ·replace d := iteT j d
   refine sg [.s,.p,.p,.e] f b fun a b => ?_
   refine W.ret ?_
   subst i
   rw [← d] at h
   dsimp only at h
   refine fg [_] b ?_
   subst h
   exact ⟨rfl, hw⟩
  replace d := iteF j d
  have := v.small
  refine sg [.k,.r,.i,.p,.e] f b fun a b => ?_
  subst i
  exact ⟨c.length, b2p _, c, k + 1, rfl, g, d, b.pk, f, hw⟩
 clear b f hw a w; rintro a w ⟨rfl, b, f, hw⟩
 dsimp only at h
 refine sg [.s,.p,.p,.e] f b fun a b => ?_
 refine W.ret ?_
 refine fg [_] b ?_
 subst h
 exact ⟨rfl, hw⟩
set_option maxHeartbeats 8000000 in
theorem a0A  {w : World} {s : Sg} {R : List HP} {x0 : A2} {x1 : A2} (b : St w s (R)) {i : World} (hX : XW i w)  {r : Int} (j : H5 x0 x1 = r) :
  Calls b2n 75 [.agg (A2.cells x0).toArray, .agg (A2.cells x1).toArray].toArray w (fun e w => e = .returned (vi r) ∧ St w s (R) ∧ XW i w) := by
 refine enter Tryz.func75 rfl rfl rfl fun a c => ?_
 rw [H5] at j
 refine sg [.s] b c fun a c => ?_
 refine WL.boxX c b hX (A0 rfl) rfl rfl rfl ?_; clear c b hX a w; intro n a w c b hX
 refine WL.boxX c b hX (A0 rfl) rfl rfl rfl ?_; clear c b hX a w; intro o a w c b hX
 refine sl [.p,.e,.q] b c fun a c => ?_
 refine W.gen fun p h => ?_
 refine rE b [] [] [0, 1, 2, 3, 4, 5, 6, 7, 8, 9, 10, 11, 12, 13, 14, 15, 16, 17] [0, 1, 2, 3, 4, 5, 6, 7, 8, 9, 10, 11, 12, 13, 14, 15, 16, 17] mixed ?_
 replace b := b.drew; replace hX := hX.drew
 refine sr [.P 0 (.f 0),.T 1 true (.b 1),.P 2 (.f 0),.T 3 true (.b 0),.P 5 (.f 1),.T 6 true (.b 1),.P 7 (.f 1),.T 8 true (.b 0),.P 10 (.f 2),.T 11 true (.b 1),.P 12 (.f 2),.T 13 true (.b 0)] c b b fun a c => ?_
 refine ro 4 true true ?_
 refine fq c (a3W x0.Dep x1.Dep _) ?_
 clear c; rintro e g ⟨rfl, d⟩; rw [d]; clear d g; refine ⟨_, rfl, ?_⟩; clear a; intro a c
 refine WL.nil ?_
 refine r3 b ?_
 refine ro 9 true true ?_
 refine fq c (a3W x0.Arr x1.Arr _) ?_
 clear c; rintro e g ⟨rfl, d⟩; rw [d]; clear d g; refine ⟨_, rfl, ?_⟩; clear a; intro a c
 refine WL.nil ?_
 refine r3 b ?_
 refine ro 14 true true ?_
 refine fq c (a3W x0.Rides x1.Rides _) ?_
 clear c; rintro e g ⟨rfl, d⟩; rw [d]; clear d g; refine ⟨_, rfl, ?_⟩; clear a; intro a c
 refine WL.nil ?_
 refine r3 b ?_
 refine ro 15 true true ?_
 refine WL.litX c b hX (e := 3) (es := 1) (vs := [(0, vi (B3 x0.Dep x1.Dep)), (1, vi (B3 x0.Arr x1.Arr)), (2, vi (B3 x0.Rides x1.Rides))]) (cs := [vi (B3 x0.Dep x1.Dep), vi (B3 x0.Arr x1.Arr), vi (B3 x0.Rides x1.Rides)]) (A0 rfl) rfl (by kernel_rfl) rfl ?_; clear c b hX a w; intro q a w c b hX
 replace b := b.ptVec (es := 1) (m := 3) rfl (by decide)
 have k : Ev 1 (RI .i64) s [vi (B3 x0.Dep x1.Dep), vi (B3 x0.Arr x1.Arr), vi (B3 x0.Rides x1.Rides)] [(B3 x0.Dep x1.Dep), (B3 x0.Arr x1.Arr), (B3 x0.Rides x1.Rides)] := (Ev.cons (c1 := [vi (B3 x0.Dep x1.Dep)]) rfl rfl (Ev.cons (c1 := [vi (B3 x0.Arr x1.Arr)]) rfl rfl (Ev.cons (c1 := [vi (B3 x0.Rides x1.Rides)]) rfl rfl (Ev.nil))))
 have hF := b.fixD RI.mono 0 rfl k (rfl); clear b; obtain ⟨t, f, b, l⟩ := hF
 refine WL.nil ?_
 refine r3 (St.down f b) ?_
 refine ro 16 true true ?_
 refine fq c (a5k b rfl l rfl (r := M4 [(B3 x0.Dep x1.Dep), (B3 x0.Arr x1.Arr), (B3 x0.Rides x1.Rides)])) ?_
 clear c; rintro e g ⟨rfl, d⟩; rw [d]; clear d g; refine ⟨_, rfl, ?_⟩; clear a; intro a c
 refine WL.nil ?_
 refine r3 (St.down f b) ?_
 refine sr [.P 17 .p] c (St.down f b) (St.down f b) fun a c => ?_
 refine Rg.done (by kernel_rfl) ?_
 subst h
 refine W.ret ?_
 refine fg [_] c ?_
 subst j
 replace b := pm [.D 0,.D 0] b
 exact ⟨rfl, (b.down f), hX⟩
theorem a8v (x y : A2) (W : World) : Calls b2n 75 #[.agg (A2.cells x).toArray, .agg (A2.cells y).toArray] W fun e w' => e = .returned (vi (H5 x y)) ∧ ∃ q os', w' = Sort.grow (W.drewN q) os' :=
 (a0A (St.startX W) (XW.refl W) rfl).mono fun _ _ h => ⟨h.1, h.2.2.grow h.2.1⟩
theorem a5g : a8Y b2n 74 75 3 :=
 ⟨fun α _ enc hk h1 cf hO blk off cap d w hclo hH hb hsz => AnyQ.slices_SortFunc Tryz.laysSF74 3 Tryz.isAgg113 Tryz.sizeOf113 enc hk h1 cf hO 75 #[] blk off cap d w (enters_of Tryz.func75 (by kernel_rfl) rfl) (fun m os dk _ x y => hclo x y _) hH hb hsz,
  fun p cap fv w => AnyF.slices_SortFunc_none Tryz.laysSF74 p cap fv w⟩
theorem a2a {w : World} {a : Option Addr} {c n : Nat} {cs : List Value} {l r : List A2} (d : St w s (B2 113 3 a c n cs :: R)) (h : Ev 3 G8 s cs l) (hn : l.length = n) (f : a7G H5 l = some r) :
  Calls b2n 74 [.slice a n c, .func (.func 75) #[] #[]].toArray w (fun e w => ∃ (b : List Value), e = .returned (.tuple #[]) ∧ Ev 3 G8 s b r ∧ r.length = n ∧ St w s (B2 113 3 a c n b :: R)) :=
 a6Q a5g (cells := A2.cells) (fun _ => rfl) (fun x v hv => by simp [A2.cells] at hv; rcases hv with rfl | rfl | rfl <;> rfl) (fun x y W => a8v x y W) (fun _ _ _ h => h) (fun _ _ => rfl) d h hn f
end
theorem a7W {w : World} {x : Int} {r : ByteArray} (hS : St w s R) (hTab : a0S b2n s) (hr : itoa x = some r) : Calls b2n 95 [vi x].toArray w (fun e w => e = .returned (.string r) ∧ St w s R) := by
 obtain ⟨⟨h0, h1⟩, rfl⟩ := a5t hr
 refine (Tryz.strconv_Itoa x h0 h1 w (hTab w R hS)).mono ?_
 rintro e w' ⟨rfl, k, os, rfl⟩
 exact ⟨rfl, (hS.drewN k).growBy os⟩
set_option maxHeartbeats 8000000 in
theorem a3H {w : World} {x0 : B0} {h p : Option Addr} {i q : Nat} (c : St w s (R)) (ae : Sl 4 A7 s h i x0.Trains) (af : Sl 1 (RL 1 (RI .i64)) s p q x0.Turns) {r : Int} (j : F1 x0 = r) :
  Calls b2n 81 [.agg (List.toArray [.slice h x0.Trains.length i, .slice p x0.Turns.length q])].toArray w (fun e w => e = .returned (vi r) ∧ St w s (R)) := by
 refine enter Tryz.func81 rfl rfl rfl fun a b => ?_
 rw [F1] at j
 refine sg [.s] c b fun a b => ?_
 refine bw b c fun o a w b c => ?_
 refine sl [.p,.e,.q,.q] c b fun a b => ?_
 obtain ⟨aE, y, j⟩ := R8 j
 refine W.cut (fun a w => ∃ ag, ag = aE ∧ Rep a 85 [(1, pp o), (20, .bool ag)] ∧ St w s (pc o #[.slice h x0.Trains.length i, .slice p x0.Turns.length q] 25 :: R)) ?_ ?_
 ·refine W.gen fun a8 ah => ?_
  refine sg [.r,.f 0,.b 0,.l 72 4,.p,.p] c b fun a b => ?_
  rcases b2o (decide (((x0.Trains).length : Int) > 12)) with V | V
  ·replace y := iteT V y
   refine sl [.O,.O,.O,.O,.T,.e] c b fun a b => ?_
   subst ah
   exact ⟨true, y, b.pk, c⟩
  replace y := iteF V y
  refine sl [.f 1,.b 0,.l 28 1,.p,.N,.e] c b fun a b => ?_
  subst ah
  exact ⟨decide (((x0.Turns).length : Int) > 8), y, b.pk, c⟩
 clear b c a w; rintro a w ⟨ag, rfl, b, c⟩
 refine W.cond b rfl (fun X => ?_) (fun X => ?_)
 ·replace j := iteT X j
  refine sg [.s,.p,.e] c b fun a b => ?_
  refine W.ret ?_
  refine fg [_] b ?_
  subst j
  replace c := c.tail
  exact ⟨rfl, c⟩
 replace j := iteF X j
 refine sg [.k,.q,.s,.f 0,.b 0,.l 72 4,.p,.e] c b fun a b => ?_
 obtain ⟨az, d, j⟩ := R8 j
 refine W.cut (fun a w => (.next ()) = az ∧ Rep a 85 [(1, pp o)] ∧ St w s (pc o #[.slice h x0.Trains.length i, .slice p x0.Turns.length q] 25 :: R)) ?_ ?_
 ·refine W.block ?_
  refine W.loop (fun m a w => ∃ t x, t.length = m ∧ x0.Trains.drop x = t ∧ F1.loop1 t = az ∧ Rep a 85 [(1, pp o), (22, .slice h x0.Trains.length i), (23, vi ((x0.Trains).length : Int)), (24, vi ((x : Nat) : Int))] ∧ St w s (pc o #[.slice h x0.Trains.length i, .slice p x0.Turns.length q] 25 :: R)) (m := x0.Trains.length) ⟨x0.Trains, 0, rfl, rfl, d, b.pk, c⟩ ?_
  clear b c a w d; rintro a9 a w ⟨t, x, rfl, H, d, b, c⟩
  refine W.gen fun a_ z => ?_
  rcases t with _ | ⟨f, t⟩
  ·have aq := E8 H
   refine sg [.s,.p,.e,.q] c b fun a b => ?_
   refine W.condF b rfl (decide_eq_false (by omega)) ?_
   subst z
   refine W.exit rfl ?_
   exact ⟨d, b.pk, c⟩
  obtain ⟨aq, aB, H⟩ := C3 H
  rw [F1.loop1] at d
  refine sg [.s,.p,.e,.q] c b fun a b => ?_
  refine W.condT b rfl (decide_eq_true (by omega)) ?_
  obtain ⟨aQ, aR, aC, aJ⟩ := ae.at aB
  obtain ⟨T, U, F, G, rfl, ba, aa⟩ := aC
  refine sg [.k,.q,.o,.s,.x 72,.h] c b fun a b => ?_
  refine al b c a5o fun B a w b c => ?_
  refine so [.A 0,.e,.q,.q] c b fun a w b c => ?_
  obtain ⟨aF, A, d⟩ := R8 d
  refine W.cut (fun a w => ∃ ai, ai = aF ∧ Rep a 85 [(1, pp o), (4, pp B), (22, .slice h x0.Trains.length i), (23, vi ((x0.Trains).length : Int)), (24, vi ((x : Nat) : Int)), (41, .bool ai)] ∧ St w s (pc B #[vi f.No, vi f.Stock, .slice T f.Stops.length U, .slice F f.Legs.length G] 72 :: pc o #[.slice h x0.Trains.length i, .slice p x0.Turns.length q] 25 :: R)) ?_ ?_
  ·refine W.gen fun bb aj => ?_
   refine sg [.r,.f 2,.b 0,.l 75 4,.p,.p] c b fun a b => ?_
   rcases b2o (((f.Stops).length : Int) == 0) with Y | Y
   ·replace A := iteT Y A
    refine sl [.O,.O,.O,.O,.O,.O,.O,.O,.T,.e] c b fun a b => ?_
    subst aj
    exact ⟨true, A, b.pk, c⟩
   replace A := iteF Y A
   refine sl [.f 3,.b 0,.l 28 1,.f 2,.b 0,.l 75 4,.p,.p,.N,.e] c b fun a b => ?_
   subst aj
   exact ⟨(((f.Legs).length : Int) != (w64 (((f.Stops).length : Int) - 1))), A, b.pk, c⟩
  clear b c a w; rintro a w ⟨ai, rfl, b, c⟩
  refine W.cond b rfl (fun Z => ?_) (fun Z => ?_)
  ·replace d := iteT Z d
   refine sg [.s,.p,.e] c b fun a b => ?_
   refine W.ret ?_
   subst z
   rw [← d] at j
   dsimp only at j
   refine fg [_] b ?_
   subst j
   replace c := pm [.D 0,.D 0] c
   exact ⟨rfl, c⟩
  replace d := iteF Z d
  refine sg [.k,.q,.s,.f 3,.b 0,.l 28 1,.p,.e] c b fun a b => ?_
  obtain ⟨aA, v, d⟩ := R8 d
  refine W.cut (fun a w => (.next ()) = aA ∧ Rep a 85 [(1, pp o), (4, pp B), (22, .slice h x0.Trains.length i), (23, vi ((x0.Trains).length : Int)), (24, vi ((x : Nat) : Int))] ∧ St w s (pc B #[vi f.No, vi f.Stock, .slice T f.Stops.length U, .slice F f.Legs.length G] 72 :: pc o #[.slice h x0.Trains.length i, .slice p x0.Turns.length q] 25 :: R)) ?_ ?_
  ·refine W.block ?_
   refine W.loop (fun m a w => ∃ u ad, u.length = m ∧ f.Legs.drop ad = u ∧ F1.loop2 u = aA ∧ Rep a 85 [(1, pp o), (4, pp B), (22, .slice h x0.Trains.length i), (23, vi ((x0.Trains).length : Int)), (24, vi ((x : Nat) : Int)), (43, .slice F f.Legs.length G), (44, vi ((f.Legs).length : Int)), (45, vi ((ad : Nat) : Int))] ∧ St w s (pc B #[vi f.No, vi f.Stock, .slice T f.Stops.length U, .slice F f.Legs.length G] 72 :: pc o #[.slice h x0.Trains.length i, .slice p x0.Turns.length q] 25 :: R)) (m := f.Legs.length) ⟨f.Legs, 0, rfl, rfl, v, b.pk, c⟩ ?_
   clear b c a w v; rintro bc a w ⟨u, ad, rfl, I, v, b, c⟩
   refine W.gen fun aS J => ?_
   rcases u with _ | ⟨bd, u⟩
   ·have ar := E8 I
    refine sg [.s,.p,.e,.q] c b fun a b => ?_
    refine W.condF b rfl (decide_eq_false (by omega)) ?_
    subst J
    refine W.exit rfl ?_
    exact ⟨v, b.pk, c⟩
   obtain ⟨ar, aD, I⟩ := C3 I
   rw [F1.loop2] at v
   refine sg [.s,.p,.e,.q] c b fun a b => ?_
   refine W.condT b rfl (decide_eq_true (by omega)) ?_
   obtain ⟨aK, aL, au, aG⟩ := aa.at aD
   obtain ⟨aT, aU, rfl, aV⟩ := au
   refine sg [.k,.q,.o,.s,.x 28,.H,.p,.e,.s,.p,.l 3 1,.p,.e] c b fun a b => ?_
   refine W.cond b rfl (fun K => ?_) (fun K => ?_)
   ·replace v := iteT K v
    refine sg [.s,.p,.e] c b fun a b => ?_
    refine W.ret ?_
    subst J
    subst z
    rw [← v] at d
    dsimp only at d
    rw [← d] at j
    dsimp only at j
    refine fg [_] b ?_
    subst j
    replace c := pm [.D 0,.D 0] c
    exact ⟨rfl, c⟩
   replace v := iteF K v
   have := aa.small
   refine sg [.k,.r,.i,.p,.e] c b fun a b => ?_
   subst J
   exact ⟨u.length, b2p _, u, ad + 1, rfl, I, v, b.pk, c⟩
  clear b c a w; rintro a w ⟨rfl, b, c⟩
  dsimp only at d
  refine sg [.q,.s,.f 2,.b 0,.l 75 4,.p,.e] c b fun a b => ?_
  refine W.cond b rfl (fun L => ?_) (fun L => ?_)
  ·replace d := iteT L d
   refine sg [.s,.p,.e] c b fun a b => ?_
   refine W.ret ?_
   subst z
   rw [← d] at j
   dsimp only at j
   refine fg [_] b ?_
   subst j
   replace c := pm [.D 0,.D 0] c
   exact ⟨rfl, c⟩
  replace d := iteF L d
  refine sg [.k,.s,.f 3,.b 0,.l 28 1,.p,.e] c b fun a b => ?_
  obtain ⟨ak, n, d⟩ := R8 d
  refine W.cut (fun a w => (.next ()) = ak ∧ Rep a 85 [(1, pp o), (22, .slice h x0.Trains.length i), (23, vi ((x0.Trains).length : Int)), (24, vi ((x : Nat) : Int))] ∧ St w s (pc B #[vi f.No, vi f.Stock, .slice T f.Stops.length U, .slice F f.Legs.length G] 72 :: pc o #[.slice h x0.Trains.length i, .slice p x0.Turns.length q] 25 :: R)) ?_ ?_
  ·refine W.block ?_
   refine W.loop (fun m a w => ∃ k M, k.length = m ∧ f.Legs.drop M = k ∧ F1.loop3 k = ak ∧ Rep a 85 [(1, pp o), (22, .slice h x0.Trains.length i), (23, vi ((x0.Trains).length : Int)), (24, vi ((x : Nat) : Int)), (58, .slice F f.Legs.length G), (59, vi ((f.Legs).length : Int)), (60, vi ((M : Nat) : Int))] ∧ St w s (pc B #[vi f.No, vi f.Stock, .slice T f.Stops.length U, .slice F f.Legs.length G] 72 :: pc o #[.slice h x0.Trains.length i, .slice p x0.Turns.length q] 25 :: R)) (m := f.Legs.length) ⟨f.Legs, 0, rfl, rfl, n, b.pk, c⟩ ?_
   clear b c a w n; rintro aW a w ⟨k, M, rfl, C, n, b, c⟩
   refine W.gen fun aX N => ?_
   rcases k with _ | ⟨aY, k⟩
   ·have am := E8 C
    refine sg [.s,.p,.e,.q] c b fun a b => ?_
    refine W.condF b rfl (decide_eq_false (by omega)) ?_
    subst N
    refine W.exit rfl ?_
    exact ⟨n, b.pk, c⟩
   obtain ⟨am, av, C⟩ := C3 C
   rw [F1.loop3] at n
   refine sg [.s,.p,.e,.q] c b fun a b => ?_
   refine W.condT b rfl (decide_eq_true (by omega)) ?_
   obtain ⟨aM, aN, aw, aH⟩ := aa.at av
   obtain ⟨aZ, a0, rfl, a1⟩ := aw
   refine sg [.k,.q,.o,.s,.x 28,.H,.p,.e,.s,.p,.l 3 1,.p,.e] c b fun a b => ?_
   refine W.cond b rfl (fun O => ?_) (fun O => ?_)
   ·replace n := iteT O n
    refine sg [.s,.p,.e] c b fun a b => ?_
    refine W.ret ?_
    subst N
    subst z
    rw [← n] at d
    dsimp only at d
    rw [← d] at j
    dsimp only at j
    refine fg [_] b ?_
    subst j
    replace c := pm [.D 0,.D 0] c
    exact ⟨rfl, c⟩
   replace n := iteF O n
   have := aa.small
   refine sg [.k,.r,.i,.p,.e] c b fun a b => ?_
   subst N
   exact ⟨k.length, b2p _, k, M + 1, rfl, C, n, b.pk, c⟩
  clear b c a w; rintro a w ⟨rfl, b, c⟩
  dsimp only at d
  have := ae.small
  refine sm [.r,.i,.p,.e,.D 0] c b fun a w b c => ?_
  subst z
  exact ⟨t.length, b2p _, t, x + 1, rfl, H, d, b.pk, c⟩
 clear b c a w; rintro a w ⟨rfl, b, c⟩
 dsimp only at j
 refine sg [.q,.s,.f 1,.b 0,.l 28 1,.p,.e] c b fun a b => ?_
 obtain ⟨an, g, j⟩ := R8 j
 refine W.cut (fun a w => (.next ()) = an ∧ Rep a 85 [] ∧ St w s (pc o #[.slice h x0.Trains.length i, .slice p x0.Turns.length q] 25 :: R)) ?_ ?_
 ·refine W.block ?_
  refine W.loop (fun m a w => ∃ l P, l.length = m ∧ x0.Turns.drop P = l ∧ F1.loop4 l = an ∧ Rep a 85 [(70, .slice p x0.Turns.length q), (71, vi ((x0.Turns).length : Int)), (72, vi ((P : Nat) : Int))] ∧ St w s (pc o #[.slice h x0.Trains.length i, .slice p x0.Turns.length q] 25 :: R)) (m := x0.Turns.length) ⟨x0.Turns, 0, rfl, rfl, g, b.pk, c⟩ ?_
  clear b c a w g; rintro a2 a w ⟨l, P, rfl, D, g, b, c⟩
  refine W.gen fun a3 E => ?_
  rcases l with _ | ⟨a4, l⟩
  ·have ap := E8 D
   refine sg [.s,.p,.e,.q] c b fun a b => ?_
   refine W.condF b rfl (decide_eq_false (by omega)) ?_
   subst E
   refine W.exit rfl ?_
   exact ⟨g, b.pk, c⟩
  obtain ⟨ap, ax, D⟩ := C3 D
  rw [F1.loop4] at g
  refine sg [.s,.p,.e,.q] c b fun a b => ?_
  refine W.condT b rfl (decide_eq_true (by omega)) ?_
  obtain ⟨aO, aP, ay, aI⟩ := af.at ax
  obtain ⟨a5, a6, rfl, a7⟩ := ay
  refine sg [.k,.q,.o,.s,.x 28,.H,.p,.e,.o,.s,.p,.l 3 1,.p,.p,.e] c b fun a b => ?_
  refine W.cond b rfl (fun Q => ?_) (fun Q => ?_)
  ·replace g := iteT Q g
   refine sg [.s,.p,.e] c b fun a b => ?_
   refine W.ret ?_
   subst E
   rw [← g] at j
   dsimp only at j
   refine fg [_] b ?_
   subst j
   replace c := c.tail
   exact ⟨rfl, c⟩
  replace g := iteF Q g
  refine sg [.s,.p,.l 3 1,.p,.p,.e] c b fun a b => ?_
  refine W.cond b rfl (fun S => ?_) (fun S => ?_)
  ·replace g := iteT S g
   refine sg [.s,.p,.e] c b fun a b => ?_
   refine W.ret ?_
   subst E
   rw [← g] at j
   dsimp only at j
   refine fg [_] b ?_
   subst j
   replace c := c.tail
   exact ⟨rfl, c⟩
  replace g := iteF S g
  have := af.small
  refine sg [.k,.r,.i,.p,.e] c b fun a b => ?_
  subst E
  exact ⟨l.length, b2p _, l, P + 1, rfl, D, g, b.pk, c⟩
 clear b c a w; rintro a w ⟨rfl, b, c⟩
 dsimp only at j
 refine sg [.s,.p,.e] c b fun a b => ?_
 refine W.ret ?_
 refine fg [_] b ?_
 subst j
 replace c := c.tail
 exact ⟨rfl, c⟩
set_option maxHeartbeats 8000000 in
theorem a2F {w : World} {x0 x1 x2 : Int} (d : St w s (R))  {r : Bool} (i : U3 x0 x1 x2 = r) :
  Calls b2n 83 [vi x0, vi x1, vi x2].toArray w (fun e w => e = .returned (.bool r) ∧ St w s (R)) := by
 refine enter Tryz.func83 rfl rfl rfl fun a b => ?_
 rw [U3] at i
 refine sg [.s,.p,.e,.q] d b fun a b => ?_
 obtain ⟨j, c, i⟩ := R8 i
 refine W.cut (fun a w => ∃ g, g = j ∧ Rep a 15 [(6, .bool g)] ∧ St w s (R)) ?_ ?_
 ·refine W.gen fun k h => ?_
  refine sg [.r,.p,.p,.p,.p] d b fun a b => ?_
  rcases b2o (decide (x0 ≥ x1)) with f | f
  ·replace c := iteT f c
   refine sl [.p,.p,.p,.T,.p,.e] d b fun a b => ?_
   subst h
   exact ⟨decide (x0 ≤ x2), c, b.pk, d⟩
  replace c := iteF f c
  refine sl [.O,.O,.O,.N,.p,.e] d b fun a b => ?_
  subst h
  exact ⟨false, c, b.pk, d⟩
 clear b d a w; rintro a w ⟨g, rfl, b, d⟩
 refine W.ret ?_
 refine fg [_] b ?_
 subst i
 exact ⟨rfl, d⟩
set_option maxHeartbeats 8000000 in
theorem a1W {w : World} {x0 : ByteArray} {x1 : List Int} {o : Option Addr} {p : Nat} (f : St w s (R)) (q : a0S b2n s) (A : Sl 1 (RI .i64) s o p x1) {r : ByteArray} (j : K8 x0 x1 = some r) :
  Calls b2n 85 [.string x0, .slice o x1.length p].toArray w (fun e w => e = .returned (.string r) ∧ St w s (R)) := by
 refine enter Tryz.func85 rfl rfl rfl fun a b => ?_
 rw [K8] at j
 refine sg [.s,.p,.e,.q,.s,.p,.l 3 1,.p,.e] f b fun a b => ?_
 obtain ⟨n, d, j⟩ := B4 j
 refine W.cut (fun a w => ∃ g, g = n ∧ Rep a 21 [(0, .string g)] ∧ St w s (R)) ?_ ?_
 ·refine W.block ?_
  refine W.loop (fun m a w => ∃ c i g, c.length = m ∧ x1.drop i = c ∧ K8.loop1 c g = some n ∧ Rep a 21 [(0, .string g), (7, .slice o x1.length p), (8, vi ((x1).length : Int)), (9, vi ((i : Nat) : Int))] ∧ St w s (R)) (m := x1.length) ⟨x1, 0, x0, rfl, rfl, d, b.pk, f⟩ ?_
  clear b f a w d; rintro F a w ⟨c, i, g, rfl, h, d, b, f⟩
  refine W.gen fun G k => ?_
  rcases c with _ | ⟨H, c⟩
  ·have l := E8 h
   refine sg [.s,.p,.e,.q] f b fun a b => ?_
   refine W.condF b rfl (decide_eq_false (by omega)) ?_
   subst k
   refine W.exit rfl ?_
   exact ⟨g, oi d, b.pk, f⟩
  obtain ⟨l, t, h⟩ := C3 h
  rw [K8.loop1] at d
  refine sg [.s,.p,.e,.q] f b fun a b => ?_
  refine W.condT b rfl (decide_eq_true (by omega)) ?_
  obtain ⟨D, E, u, C⟩ := A.at t
  subst u
  refine sg [.k,.q,.o,.s,.x 3,.H,.p,.e,.r,.p,.p] f b fun a b => ?_
  obtain ⟨I, v, d⟩ := B4 d
  refine fq b (a7W f (a0S.mono lr q) v) ?_; rintro _ w ⟨rfl, f⟩; refine ⟨_, rfl, fun a b => ?_⟩
  obtain ⟨J, x, d⟩ := B4 d
  refine vP f b (A6.catS b rfl rfl x) rfl fun a b => ?_
  obtain ⟨B, y, d⟩ := B4 d
  refine vP f b (A6.catS b rfl rfl y) rfl fun a b => ?_
  have := A.small
  refine sl [.p,.e,.r,.i,.p,.e] f b fun a b => ?_
  subst k
  exact ⟨c.length, b2p _, c, i + 1, B, rfl, h, d, b.pk, f⟩
 clear b f a w; rintro a w ⟨g, rfl, b, f⟩
 refine sg [.s,.p] f b fun a b => ?_
 obtain ⟨K, z, j⟩ := B4 j
 refine vP f b (A6.catS b rfl rfl z) rfl fun a b => ?_
 refine sl [.p,.e] f b fun a b => ?_
 refine W.ret ?_
 refine fg [_] b ?_
 obtain rfl := oi j
 exact ⟨rfl, f⟩
set_option maxHeartbeats 8000000 in
theorem R3 {w : World} {j g q : Nat} {x0 : ByteArray} {x1 : List Int} {t : Option Addr} {y0 : Bool} {k : ByteArray} (c : St w s (pc j #[.bool y0] 4 :: sbC 157 5 g k :: R)) (B : a0S b2n s) (C : Sl 1 (RI .i64) s t q x1) {r : Bool × ByteArray} (o : I3 x0 x1 y0 k = some r) :
  Calls b2n 82 [.string x0, .slice t x1.length q, pp j, pp g].toArray w (fun e w => e = .returned (.tuple #[]) ∧ St w s (pc j #[.bool r.1] 4 :: sbC 157 5 g r.2 :: R)) := by
 refine enter Tryz.func82 rfl rfl rfl fun a b => ?_
 rw [I3] at o
 refine sg [.q,.s,.p,.l 3 1,.p,.e] c b fun a b => ?_
 obtain ⟨z, f, o⟩ := R8 o
 refine W.cut (fun a w => ∃ h, h = z ∧ Rep a 24 [(0, .string x0), (1, .slice t x1.length q), (3, pp g)] ∧ St w s (pc j #[.bool h] 4 :: sbC 157 5 g k :: R)) ?_ ?_
 ·refine W.block ?_
  refine W.loop (fun m a w => ∃ d p h, d.length = m ∧ x1.drop p = d ∧ I3.loop1 d h = z ∧ Rep a 24 [(0, .string x0), (1, .slice t x1.length q), (2, pp j), (3, pp g), (8, .slice t x1.length q), (9, vi ((x1).length : Int)), (10, vi ((p : Nat) : Int))] ∧ St w s (pc j #[.bool h] 4 :: sbC 157 5 g k :: R)) (m := x1.length) ⟨x1, 0, y0, rfl, rfl, f, b.pk, c⟩ ?_
  clear b c a w f; rintro L a w ⟨d, p, h, rfl, l, f, b, c⟩
  refine W.gen fun M v => ?_
  rcases d with _ | ⟨A, d⟩
  ·have y := E8 l
   refine sg [.s,.p,.e,.q] c b fun a b => ?_
   refine W.condF b rfl (decide_eq_false (by omega)) ?_
   subst v
   refine W.exit rfl ?_
   exact ⟨h, f, b.pk, c⟩
  obtain ⟨y, D, l⟩ := C3 l
  rw [I3.loop1] at f
  refine sg [.s,.p,.e,.q] c b fun a b => ?_
  refine W.condT b rfl (decide_eq_true (by omega)) ?_
  obtain ⟨J, K, E, I⟩ := C.at D
  subst E
  refine sg [.k,.q,.o,.s,.x 3,.H,.p,.e] c b fun a b => ?_
  obtain ⟨H, i, f⟩ := R8 f
  refine W.cut (fun a w => ∃ u, u = H ∧ Rep a 24 [(0, .string x0), (1, .slice t x1.length q), (2, pp j), (3, pp g), (8, .slice t x1.length q), (9, vi ((x1).length : Int)), (10, vi ((p : Nat) : Int))] ∧ St w s (pc j #[.bool u] 4 :: sbC 157 5 g k :: R)) ?_ ?_
  ·refine W.gen fun N x => ?_
   refine sg [.r,.b 0,.p] c b fun a b => ?_
   rcases b2o h with n | n
   ·replace i := iteT n i
    refine sl [.p] c b fun a b => ?_
    refine WL.fnq b (a2F c  rfl (r := U3 A 0 999999)) (F9 b rfl rfl rfl n) b1P rfl rfl rfl ?_
    clear b c; rintro e w ⟨rfl, c⟩; refine ⟨_, rfl, ?_⟩; clear a; intro a b
    refine so [.T,.S 0,.e] c b fun a w b c => ?_
    subst x
    exact ⟨(U3 A 0 999999), i, b.pk, c⟩
   replace i := iteF n i
   refine so [.O,.O,.N,.S 0,.e] c b fun a w b c => ?_
   subst x
   exact ⟨false, i, b.pk, c⟩
  clear b c a w; rintro a w ⟨u, rfl, b, c⟩
  have := C.small
  refine sg [.r,.i,.p,.e] c b fun a b => ?_
  subst v
  exact ⟨d.length, b2p _, d, p + 1, u, rfl, l, f, b.pk, c⟩
 clear b c a w; rintro a w ⟨h, rfl, b, c⟩
 refine sg [.r,.p,.p] c b fun a b => ?_
 obtain ⟨O, F, o⟩ := B4 o
 refine fq b (a1W c (a0S.mono lr B) C F) ?_; rintro _ w ⟨rfl, c⟩; refine ⟨_, rfl, fun a b => ?_⟩
 replace c := c.front 1 rfl
 obtain ⟨P, G, o⟩ := B4 o
 refine fq b (a4M c G) ?_; rintro _ w ⟨rfl, c⟩; refine ⟨_, rfl, fun a b => ?_⟩
 refine WL.nil ?_
 refine fg [] b ?_
 obtain rfl := oi o
 replace c := c.front 1 rfl
 exact ⟨rfl, c⟩
set_option maxHeartbeats 8000000 in
theorem a3X {w : World} {x0 : B0} {h x : Option Addr} {i y : Nat} (c : St w s (R)) (Z : a0S b2n s) (j : Sl 4 A7 s h i x0.Trains) (k : Sl 1 (RL 1 (RI .i64)) s x y x0.Turns) {r : ByteArray × Int} (G : I4 x0 = some r) :
  Calls b2n 65 [.agg (List.toArray [.slice h x0.Trains.length i, .slice x x0.Turns.length y])].toArray w (fun e w => e = .returned (.tuple #[.string r.1, vi r.2]) ∧ St w s (R)) := by
 refine enter Tryz.func65 rfl rfl rfl fun a b => ?_
 rw [I4] at G
 refine sg [.s] c b fun a b => ?_
 refine bw b c fun z a w b c => ?_
 refine sl [.p,.p,.e,.q,.s,.B 0] c b fun a b => ?_
 refine fq b (a3H c j k rfl (r := F1 x0)) ?_; rintro _ w ⟨rfl, c⟩; refine ⟨_, rfl, fun a b => ?_⟩
 refine sl [.p,.e,.s,.p,.p,.e] c b fun a b => ?_
 refine W.cond b rfl (fun an => ?_) (fun an => ?_)
 ·replace G := iteT an G
  refine sg [.s,.p,.p,.p,.e] c b fun a b => ?_
  refine W.ret ?_
  refine fg [_, _] b ?_
  obtain rfl := oi G
  replace c := c.tail
  exact ⟨rfl, c⟩
 replace G := iteF an G
 refine sg [.k,.s] c b fun a b => ?_
 refine al b c b0s fun f a w b c => ?_
 replace c := c.sbNew 5
 refine sl [.e,.s] c b fun a b => ?_
 refine al b c zr4 fun g a w b c => ?_
 refine so [.S 0,.e,.s] c b fun a w b c => ?_
 refine vP c b (A6.mkfn b (vs := [pp g, pp f]) rfl) rfl fun a b => ?_
 refine sl [.p,.e,.q,.s,.f 0,.b 2,.l 72 4,.p,.e] c b fun a b => ?_
 obtain ⟨aO, p, G⟩ := B4 G
 refine W.cut (fun a w => ∃ O P H, s.Le H ∧ (O, P) = aO ∧ Rep a 81 [(1, pp z), (5, pp f), (6, pp g), (7, .func (.func 82) #[] #[pp g, pp f])] ∧ St w H (pc g #[.bool P] 4 :: sbC 157 5 f O :: pc z #[.slice h x0.Trains.length i, .slice x x0.Turns.length y] 25 :: R)) ?_ ?_
 ·refine W.block ?_
  refine W.loop (fun m a w => ∃ u T O P H, u.length = m ∧ x0.Trains.drop T = u ∧ s.Le H ∧ I4.loop1 u O P = some aO ∧ Rep a 81 [(1, pp z), (5, pp f), (6, pp g), (7, .func (.func 82) #[] #[pp g, pp f]), (23, .slice h x0.Trains.length i), (24, vi ((x0.Trains).length : Int)), (25, vi ((T : Nat) : Int))] ∧ St w H (pc g #[.bool P] 4 :: sbC 157 5 f O :: pc z #[.slice h x0.Trains.length i, .slice x x0.Turns.length y] 25 :: R)) (m := x0.Trains.length) ⟨x0.Trains, 0, ByteArray.empty, true, s, rfl, rfl, lr, p, b.pk, c⟩ ?_
  clear b c a w p; rintro bq a w ⟨u, T, O, P, H, rfl, aa, q, p, b, c⟩
  refine W.gen fun br av => ?_
  obtain ⟨j, k⟩ := m2 q j k
  rcases u with _ | ⟨d, u⟩
  ·have aE := E8 aa
   refine sg [.s,.p,.e,.q] c b fun a b => ?_
   refine W.condF b rfl (decide_eq_false (by omega)) ?_
   subst av
   refine W.exit rfl ?_
   exact ⟨O, P, H, q, oi p, b.pk, c⟩
  obtain ⟨aE, aR, aa⟩ := C3 aa
  rw [I4.loop1] at p
  refine sg [.s,.p,.e,.q] c b fun a b => ?_
  refine W.condT b rfl (decide_eq_true (by omega)) ?_
  obtain ⟨ba, bb, aS, a4⟩ := j.at aR
  obtain ⟨ah, ai, aj, ak, rfl, M, N⟩ := aS
  refine sg [.k,.q,.o,.s,.x 72,.h] c b fun a b => ?_
  refine al b c a5o fun Y a w b c => ?_
  refine so [.A 0,.e,.s,.p,.f 0,.b 0,.f 1,.b 0] c b fun a w b c => ?_
  refine WL.lit b c (e := 3) (es := 1) (vs := [(0, vi d.No), (1, vi d.Stock)]) (cs := [vi d.No, vi d.Stock]) (A0 rfl) rfl (by kernel_rfl) rfl fun bs a w b c => ?_
  replace c := c.ptVec (es := 1) (m := 2) rfl (by decide)
  have a0 : Ev 1 (RI .i64) H [vi d.No, vi d.Stock] [d.No, d.Stock] := (Ev.cons (c1 := [vi d.No]) rfl rfl (Ev.cons (c1 := [vi d.Stock]) rfl rfl (Ev.nil)))
  have hF := c.fixD RI.mono 0 rfl a0 (rfl); clear c; obtain ⟨aw, Q, c, am⟩ := hF
  obtain ⟨j, M, N, k⟩ := m4 Q j M N k
  obtain ⟨aP, aT, p⟩ := B4 p
  replace c := pm [.F 2,.F 2] c
  have I := R3 c (a0S.mono (Sg.Le.trans q Q) Z) am aT
  refine WL.fnw b (I) rfl (A0 rfl) b0j rfl rfl rfl ?_
  clear b c I; rintro e w ⟨rfl, c⟩; refine ⟨_, rfl, ?_⟩; clear a; intro a b
  refine sl [.e,.q,.s,.f 2,.b 2,.l 75 4,.p,.e] c b fun a b => ?_
  obtain ⟨aQ, J, p⟩ := B4 p
  refine W.cut (fun a w => ∃ S C F, aw.Le F ∧ (S, C) = aQ ∧ Rep a 81 [(1, pp z), (5, pp f), (6, pp g), (7, .func (.func 82) #[] #[pp g, pp f]), (9, pp Y), (23, .slice h x0.Trains.length i), (24, vi ((x0.Trains).length : Int)), (25, vi ((T : Nat) : Int))] ∧ St w F (pc g #[.bool C] 4 :: sbC 157 5 f S :: pc Y #[vi d.No, vi d.Stock, .slice ah d.Stops.length ai, .slice aj d.Legs.length ak] 72 :: pc z #[.slice h x0.Trains.length i, .slice x x0.Turns.length y] 25 :: R)) ?_ ?_
  ·refine W.block ?_
   refine W.loop (fun m a w => ∃ v ap S C F, v.length = m ∧ d.Stops.drop ap = v ∧ aw.Le F ∧ I4.loop2 v S C = some aQ ∧ Rep a 81 [(1, pp z), (5, pp f), (6, pp g), (7, .func (.func 82) #[] #[pp g, pp f]), (9, pp Y), (23, .slice h x0.Trains.length i), (24, vi ((x0.Trains).length : Int)), (25, vi ((T : Nat) : Int)), (37, .slice ah d.Stops.length ai), (38, vi ((d.Stops).length : Int)), (39, vi ((ap : Nat) : Int))] ∧ St w F (pc g #[.bool C] 4 :: sbC 157 5 f S :: pc Y #[vi d.No, vi d.Stock, .slice ah d.Stops.length ai, .slice aj d.Legs.length ak] 72 :: pc z #[.slice h x0.Trains.length i, .slice x x0.Turns.length y] 25 :: R)) (m := d.Stops.length) ⟨d.Stops, 0, aP.2, aP.1, aw, rfl, rfl, lr, J, b.pk, c⟩ ?_
   clear b c a w J; rintro bt a w ⟨v, ap, S, C, F, rfl, ad, t, J, b, c⟩
   refine W.gen fun bc aq => ?_
   obtain ⟨j, M, N, am⟩ := m4 t j M N am
   replace k := m1 t k
   rcases v with _ | ⟨l, v⟩
   ·have aF := E8 ad
    refine sg [.s,.p,.e,.q] c b fun a b => ?_
    refine W.condF b rfl (decide_eq_false (by omega)) ?_
    subst aq
    refine W.exit rfl ?_
    exact ⟨S, C, F, t, oi J, b.pk, c⟩
   obtain ⟨aF, aU, ad⟩ := C3 ad
   rw [I4.loop2] at J
   refine sg [.s,.p,.e,.q] c b fun a b => ?_
   refine W.condT b rfl (decide_eq_true (by omega)) ?_
   obtain ⟨a5, a6, aG, a1⟩ := M.at aU
   subst aG
   refine sg [.k,.q,.o,.s,.x 75,.h] c b fun a b => ?_
   refine al b c a3O fun bd a w b c => ?_
   refine so [.A 0,.e,.r,.p,.f 0,.b 0,.f 1,.b 0,.f 2,.b 0,.f 3,.b 0] c b fun a w b c => ?_
   refine WL.lit b c (e := 3) (es := 1) (vs := [(0, vi l.Station), (1, vi l.Track), (2, vi l.Arr), (3, vi l.Dep)]) (cs := [vi l.Station, vi l.Track, vi l.Arr, vi l.Dep]) (A0 rfl) rfl (by kernel_rfl) rfl fun be a w b c => ?_
   replace c := c.ptVec (es := 1) (m := 4) rfl (by decide)
   have aV : Ev 1 (RI .i64) F [vi l.Station, vi l.Track, vi l.Arr, vi l.Dep] [l.Station, l.Track, l.Arr, l.Dep] := (Ev.cons (c1 := [vi l.Station]) rfl rfl (Ev.cons (c1 := [vi l.Track]) rfl rfl (Ev.cons (c1 := [vi l.Arr]) rfl rfl (Ev.cons (c1 := [vi l.Dep]) rfl rfl (Ev.nil)))))
   have hF := c.fixD RI.mono 0 rfl aV (rfl); clear c; obtain ⟨aW, X, c, aX⟩ := hF
   obtain ⟨j, M, N, k⟩ := m4 X j M N k
   obtain ⟨ax, aH, J⟩ := B4 J
   replace c := pm [.F 2,.F 2] c
   have I := R3 c (a0S.mono (Sg.Le.trans (Sg.Le.trans (Sg.Le.trans q Q) t) X) Z) aX aH
   refine WL.fnw b (I) rfl (A0 rfl) b0j rfl rfl rfl ?_
   clear b c I; rintro e w ⟨rfl, c⟩; refine ⟨_, rfl, ?_⟩; clear a; intro a b
   have := M.small
   refine so [.e,.r,.i,.p,.e,.D 2] c b fun a w b c => ?_
   subst aq
   exact ⟨v.length, b2p _, v, ap + 1, ax.2, ax.1, aW, rfl, ad, (Sg.Le.trans t X), J, b.pk, c⟩
  clear b c a w; rintro a w ⟨S, C, F, t, rfl, b, c⟩
  dsimp only at p
  obtain ⟨j, M, N, am⟩ := m4 t j M N am
  replace k := m1 t k
  refine sg [.s,.f 3,.b 2,.l 28 1,.p,.e] c b fun a b => ?_
  obtain ⟨ay, A, p⟩ := B4 p
  refine W.cut (fun a w => ∃ D E, (D, E) = ay ∧ Rep a 81 [(1, pp z), (5, pp f), (6, pp g), (7, .func (.func 82) #[] #[pp g, pp f]), (23, .slice h x0.Trains.length i), (24, vi ((x0.Trains).length : Int)), (25, vi ((T : Nat) : Int))] ∧ St w F (pc g #[.bool E] 4 :: sbC 157 5 f D :: pc Y #[vi d.No, vi d.Stock, .slice ah d.Stops.length ai, .slice aj d.Legs.length ak] 72 :: pc z #[.slice h x0.Trains.length i, .slice x x0.Turns.length y] 25 :: R)) ?_ ?_
  ·refine W.block ?_
   refine W.loop (fun m a w => ∃ n ae D E, n.length = m ∧ d.Legs.drop ae = n ∧ I4.loop3 n D E = some ay ∧ Rep a 81 [(1, pp z), (5, pp f), (6, pp g), (7, .func (.func 82) #[] #[pp g, pp f]), (23, .slice h x0.Trains.length i), (24, vi ((x0.Trains).length : Int)), (25, vi ((T : Nat) : Int)), (56, .slice aj d.Legs.length ak), (57, vi ((d.Legs).length : Int)), (58, vi ((ae : Nat) : Int))] ∧ St w F (pc g #[.bool E] 4 :: sbC 157 5 f D :: pc Y #[vi d.No, vi d.Stock, .slice ah d.Stops.length ai, .slice aj d.Legs.length ak] 72 :: pc z #[.slice h x0.Trains.length i, .slice x x0.Turns.length y] 25 :: R)) (m := d.Legs.length) ⟨d.Legs, 0, S, C, rfl, rfl, A, b.pk, c⟩ ?_
   clear b c a w A; rintro bf a w ⟨n, ae, D, E, rfl, U, A, b, c⟩
   refine W.gen fun bg ar => ?_
   rcases n with _ | ⟨bh, n⟩
   ·have az := E8 U
    refine sg [.s,.p,.e,.q] c b fun a b => ?_
    refine W.condF b rfl (decide_eq_false (by omega)) ?_
    subst ar
    refine W.exit rfl ?_
    exact ⟨D, E, oi A, b.pk, c⟩
   obtain ⟨az, aI, U⟩ := C3 U
   rw [I4.loop3] at A
   refine sg [.s,.p,.e,.q] c b fun a b => ?_
   refine W.condT b rfl (decide_eq_true (by omega)) ?_
   obtain ⟨a7, a8, aJ, a2⟩ := N.at aI
   obtain ⟨bi, bj, rfl, aY⟩ := aJ
   refine sg [.k,.q,.o,.s,.x 28,.H,.p,.e,.r,.p,.p] c b fun a b => ?_
   obtain ⟨aA, aK, A⟩ := B4 A
   have I := R3 c (a0S.mono (Sg.Le.trans (Sg.Le.trans q Q) t) Z) aY aK
   refine WL.fnw b (I) rfl (A0 rfl) b0j rfl rfl rfl ?_
   clear b c I; rintro e w ⟨rfl, c⟩; refine ⟨_, rfl, ?_⟩; clear a; intro a b
   have := N.small
   refine sl [.e,.r,.i,.p,.e] c b fun a b => ?_
   subst ar
   exact ⟨n.length, b2p _, n, ae + 1, aA.2, aA.1, rfl, U, A, b.pk, c⟩
  clear b c a w; rintro a w ⟨D, E, rfl, b, c⟩
  dsimp only at p
  have := j.small
  refine sm [.r,.i,.p,.e,.D 2] c b fun a w b c => ?_
  subst av
  exact ⟨u.length, b2p _, u, T + 1, D, E, F, rfl, aa, (Sg.Le.trans (Sg.Le.trans q Q) t), p, b.pk, c⟩
 clear b c a w; rintro a w ⟨O, P, H, q, rfl, b, c⟩
 dsimp only at G
 obtain ⟨j, k⟩ := m2 q j k
 refine sg [.q,.s,.f 1,.b 2,.l 28 1,.p,.e] c b fun a b => ?_
 obtain ⟨aB, B, G⟩ := B4 G
 refine W.cut (fun a w => ∃ K L, (K, L) = aB ∧ Rep a 81 [(5, pp f), (6, pp g)] ∧ St w H (pc g #[.bool L] 4 :: sbC 157 5 f K :: pc z #[.slice h x0.Trains.length i, .slice x x0.Turns.length y] 25 :: R)) ?_ ?_
 ·refine W.block ?_
  refine W.loop (fun m a w => ∃ o af K L, o.length = m ∧ x0.Turns.drop af = o ∧ I4.loop4 o K L = some aB ∧ Rep a 81 [(5, pp f), (6, pp g), (7, .func (.func 82) #[] #[pp g, pp f]), (68, .slice x x0.Turns.length y), (69, vi ((x0.Turns).length : Int)), (70, vi ((af : Nat) : Int))] ∧ St w H (pc g #[.bool L] 4 :: sbC 157 5 f K :: pc z #[.slice h x0.Trains.length i, .slice x x0.Turns.length y] 25 :: R)) (m := x0.Turns.length) ⟨x0.Turns, 0, O, P, rfl, rfl, B, b.pk, c⟩ ?_
  clear b c a w B; rintro bl a w ⟨o, af, K, L, rfl, V, B, b, c⟩
  refine W.gen fun bm au => ?_
  rcases o with _ | ⟨bn, o⟩
  ·have aC := E8 V
   refine sg [.s,.p,.e,.q] c b fun a b => ?_
   refine W.condF b rfl (decide_eq_false (by omega)) ?_
   subst au
   refine W.exit rfl ?_
   exact ⟨K, L, oi B, b.pk, c⟩
  obtain ⟨aC, aL, V⟩ := C3 V
  rw [I4.loop4] at B
  refine sg [.s,.p,.e,.q] c b fun a b => ?_
  refine W.condT b rfl (decide_eq_true (by omega)) ?_
  obtain ⟨a9, a_, aM, a3⟩ := k.at aL
  obtain ⟨bo, bp, rfl, aZ⟩ := aM
  refine sg [.k,.q,.o,.s,.x 28,.H,.p,.e,.r,.p,.p] c b fun a b => ?_
  obtain ⟨aD, aN, B⟩ := B4 B
  have I := R3 c (a0S.mono q Z) aZ aN
  refine WL.fnw b (I) rfl (A0 rfl) b0j rfl rfl rfl ?_
  clear b c I; rintro e w ⟨rfl, c⟩; refine ⟨_, rfl, ?_⟩; clear a; intro a b
  have := k.small
  refine sl [.e,.r,.i,.p,.e] c b fun a b => ?_
  subst au
  exact ⟨o.length, b2p _, o, af + 1, aD.2, aD.1, rfl, V, B, b.pk, c⟩
 clear b c a w; rintro a w ⟨K, L, rfl, b, c⟩
 dsimp only at G
 refine sg [.q,.s,.b 0,.p,.e] c b fun a b => ?_
 refine W.cond b rfl (fun ag => ?_) (fun ag => ?_)
 ·replace G := iteT ag G
  refine sg [.s,.p,.p,.e] c b fun a b => ?_
  refine W.ret ?_
  refine fg [_, _] b ?_
  obtain rfl := oi G
  replace c := pm [.D 0,.D 0,.D 0] c
  exact ⟨rfl, (c.down q)⟩
 replace G := iteF ag G
 refine sm [.k,.s,.F 1] c b fun a w b c => ?_
 refine fq b (a3M c) ?_; rintro _ w ⟨rfl, c⟩; refine ⟨_, rfl, fun a b => ?_⟩
 refine sl [.p,.p,.e] c b fun a b => ?_
 refine W.ret ?_
 refine fg [_, _] b ?_
 obtain rfl := oi G
 replace c := pm [.D 0,.D 0] c
 exact ⟨rfl, (c.down q)⟩
set_option maxHeartbeats 8000000 in
theorem K3 {w : World} {x0 x1 x2 : Int} (d : St w s (R))  {r : Bool} (i : D5 x0 x1 x2 = r) :
  Calls b2n 27 [vi x0, vi x1, vi x2].toArray w (fun e w => e = .returned (.bool r) ∧ St w s (R)) := by
 refine enter Tryz.func27 rfl rfl rfl fun a b => ?_
 rw [D5] at i
 refine sg [.s,.p,.e,.q] d b fun a b => ?_
 obtain ⟨j, c, i⟩ := R8 i
 refine W.cut (fun a w => ∃ g, g = j ∧ Rep a 15 [(6, .bool g)] ∧ St w s (R)) ?_ ?_
 ·refine W.gen fun k h => ?_
  refine sg [.r,.p,.p,.p,.p] d b fun a b => ?_
  rcases b2o (decide (x0 ≥ x1)) with f | f
  ·replace c := iteT f c
   refine sl [.p,.p,.p,.T,.p,.e] d b fun a b => ?_
   subst h
   exact ⟨decide (x0 ≤ x2), c, b.pk, d⟩
  replace c := iteF f c
  refine sl [.O,.O,.O,.N,.p,.e] d b fun a b => ?_
  subst h
  exact ⟨false, c, b.pk, d⟩
 clear b d a w; rintro a w ⟨g, rfl, b, d⟩
 refine W.ret ?_
 refine fg [_] b ?_
 subst i
 exact ⟨rfl, d⟩
set_option maxHeartbeats 8000000 in
theorem a1f {w : World} {x0 : B0} {l u : Option Addr} {n x : Nat} (c : St w s (R)) (ar : a0S b2n s) (U : Sl 4 A7 s l n x0.Trains) (au : Sl 1 (RL 1 (RI .i64)) s u x x0.Turns) {r : Int} (o : H9 x0 = some r) :
  Calls b2n 31 [.agg (List.toArray [.slice l x0.Trains.length n, .slice u x0.Turns.length x])].toArray w (fun e w => e = .returned (vi r) ∧ St w s (R)) := by
 refine enter Tryz.func31 rfl rfl rfl fun a b => ?_
 rw [H9] at o
 refine sg [.s] c b fun a b => ?_
 refine bw b c fun K a w b c => ?_
 refine sl [.p,.e,.q,.s,.B 0] c b fun a b => ?_
 obtain ⟨aP, av, o⟩ := B4 o
 refine fq b (a3X c (a0S.mono lr ar) U au av) ?_; rintro _ w ⟨rfl, c⟩; refine ⟨_, rfl, fun a b => ?_⟩
 refine sl [.p,.p,.p,.p,.p,.e,.s,.p,.p,.e] c b fun a b => ?_
 refine W.cond b rfl (fun V => ?_) (fun V => ?_)
 ·replace o := iteT V o
  refine sg [.s,.p,.p,.e] c b fun a b => ?_
  refine W.ret ?_
  refine fg [_] b ?_
  obtain rfl := oi o
  replace c := c.tail
  exact ⟨rfl, c⟩
 replace o := iteF V o
 refine sg [.k,.s] c b fun a b => ?_
 refine WL.mkMap (fk := P2.f) (fv := Value.bool) b c (A0 rfl) rfl fun y a w b c => ?_
 refine sl [.p,.e,.q,.s,.f 0,.b 1,.l 72 4,.p,.e] c b fun a b => ?_
 obtain ⟨ap, d, o⟩ := B4 o
 refine W.cut (fun a w => ∃ t, (.next t) = ap ∧ Rep a 93 [] ∧ St w s (L0 P2.f Value.bool y t :: pc K #[.slice l x0.Trains.length n, .slice u x0.Turns.length x] 25 :: R)) ?_ ?_
 ·refine W.block ?_
  refine W.loop (fun m a w => ∃ p D t, p.length = m ∧ x0.Trains.drop D = p ∧ H9.loop1 p t = some ap ∧ Rep a 93 [(5, .map (some y)), (20, .slice l x0.Trains.length n), (21, vi ((x0.Trains).length : Int)), (22, vi ((D : Nat) : Int))] ∧ St w s (L0 P2.f Value.bool y t :: pc K #[.slice l x0.Trains.length n, .slice u x0.Turns.length x] 25 :: R)) (m := x0.Trains.length) ⟨x0.Trains, 0, [], rfl, rfl, d, b.pk, c⟩ ?_
  clear b c a w d; rintro aQ a w ⟨p, D, t, rfl, L, d, b, c⟩
  refine W.gen fun aR B => ?_
  rcases p with _ | ⟨f, p⟩
  ·have aj := E8 L
   refine sg [.s,.p,.e,.q] c b fun a b => ?_
   refine W.condF b rfl (decide_eq_false (by omega)) ?_
   subst B
   refine W.exit rfl ?_
   exact ⟨t, oi d, b.pk, c⟩
  obtain ⟨aj, aw, L⟩ := C3 L
  rw [H9.loop1] at d
  refine sg [.s,.p,.e,.q] c b fun a b => ?_
  refine W.condT b rfl (decide_eq_true (by omega)) ?_
  obtain ⟨aJ, aK, ax, aE⟩ := U.at aw
  obtain ⟨H, I, ae, af, rfl, ag, aS⟩ := ax
  refine sg [.k,.q,.o,.s,.x 72,.h] c b fun a b => ?_
  refine al b c a5o fun J a w b c => ?_
  refine so [.A 0,.e,.q,.o,.s,.f 0,.b 0] c b fun a w b c => ?_
  refine fq b (K3 c  rfl (r := D5 f.No 1 9999)) ?_; rintro _ w ⟨rfl, c⟩; refine ⟨_, rfl, fun a b => ?_⟩
  refine sl [.p,.p,.e] c b fun a b => ?_
  refine W.cond b rfl (fun X => ?_) (fun X => ?_)
  ·replace d := iteT X d
   refine sg [.s,.p,.e] c b fun a b => ?_
   refine W.ret ?_
   subst B
   rw [← oi d] at o
   dsimp only at o
   refine fg [_] b ?_
   obtain rfl := oi o
   replace c := pm [.D 0,.D 0,.D 0] c
   exact ⟨rfl, c⟩
  replace d := iteF X d
  refine sg [.s,.p,.f 0,.b 0] c b fun a b => ?_
  refine vP c b (A6.mapGet P2 b 1 (k := f.No) (z := false) rfl rfl rfl a9s zm4) rfl fun a b => ?_
  refine sl [.p,.e] c b fun a b => ?_
  refine W.cond b rfl (fun Y => ?_) (fun Y => ?_)
  ·replace d := iteT Y d
   refine sg [.s,.p,.e] c b fun a b => ?_
   refine W.ret ?_
   subst B
   rw [← oi d] at o
   dsimp only at o
   refine fg [_] b ?_
   obtain rfl := oi o
   replace c := pm [.D 0,.D 0,.D 0] c
   exact ⟨rfl, c⟩
  replace d := iteF Y d
  refine sg [.s,.f 2,.b 0,.l 75 4,.p,.p,.e] c b fun a b => ?_
  refine W.cond b rfl (fun Z => ?_) (fun Z => ?_)
  ·replace d := iteT Z d
   refine sg [.s,.p,.e] c b fun a b => ?_
   refine W.ret ?_
   subst B
   rw [← oi d] at o
   dsimp only at o
   refine fg [_] b ?_
   obtain rfl := oi o
   replace c := pm [.D 0,.D 0,.D 0] c
   exact ⟨rfl, c⟩
  replace d := iteF Z d
  refine sg [.k,.s,.p,.f 0,.b 0] c b fun a b => ?_
  refine WL.mapSet P2 b c 1 (k := f.No) (v := true) (.inl rfl) (A0 rfl) rfl rfl rfl rfl a9s rfl fun a w b c => ?_
  refine sl [.e,.s,.f 2,.b 0,.l 75 4,.p,.e] c b fun a b => ?_
  obtain ⟨aq, g, d⟩ := B4 d
  refine W.cut (fun a w => (.next ()) = aq ∧ Rep a 93 [(5, .map (some y)), (20, .slice l x0.Trains.length n), (21, vi ((x0.Trains).length : Int)), (22, vi ((D : Nat) : Int))] ∧ St w s (pc J #[vi f.No, vi f.Stock, .slice H f.Stops.length I, .slice ae f.Legs.length af] 72 :: L0 P2.f Value.bool y (O1 t f.No true) :: pc K #[.slice l x0.Trains.length n, .slice u x0.Turns.length x] 25 :: R)) ?_ ?_
  ·refine W.block ?_
   refine W.loop (fun m a w => ∃ q C, q.length = m ∧ f.Stops.drop C = q ∧ H9.loop2 f q C = some aq ∧ Rep a 93 [(5, .map (some y)), (7, pp J), (20, .slice l x0.Trains.length n), (21, vi ((x0.Trains).length : Int)), (22, vi ((D : Nat) : Int)), (45, .slice H f.Stops.length I), (46, vi ((f.Stops).length : Int)), (47, vi ((C : Nat) : Int))] ∧ St w s (pc J #[vi f.No, vi f.Stock, .slice H f.Stops.length I, .slice ae f.Legs.length af] 72 :: L0 P2.f Value.bool y (O1 t f.No true) :: pc K #[.slice l x0.Trains.length n, .slice u x0.Turns.length x] 25 :: R)) (m := f.Stops.length) ⟨f.Stops, 0, rfl, rfl, g, b.pk, c⟩ ?_
   clear b c a w g; rintro aT a w ⟨q, C, rfl, M, g, b, c⟩
   refine W.gen fun aU N => ?_
   rcases q with _ | ⟨A, q⟩
   ·have ak := E8 M
    refine sg [.s,.p,.e,.q] c b fun a b => ?_
    refine W.condF b rfl (decide_eq_false (by omega)) ?_
    subst N
    refine W.exit rfl ?_
    exact ⟨oi g, b.pk, c⟩
   obtain ⟨ak, ay, M⟩ := C3 M
   rw [H9.loop2] at g
   refine sg [.s,.p,.e,.q] c b fun a b => ?_
   refine W.condT b rfl (decide_eq_true (by omega)) ?_
   obtain ⟨aL, aM, az, aF⟩ := ag.at ay
   subst az
   refine sg [.k,.q,.o,.s,.p,.x 75,.h] c b fun a b => ?_
   refine al b c a3O fun ah a w b c => ?_
   refine so [.p,.A 0,.e,.o,.q] c b fun a w b c => ?_
   obtain ⟨aA, j, g⟩ := R8 g
   refine W.cut (fun a w => ∃ aa, aa = aA ∧ Rep a 93 [(5, .map (some y)), (7, pp J), (8, vi ((C : Nat) : Int)), (9, pp ah), (20, .slice l x0.Trains.length n), (21, vi ((x0.Trains).length : Int)), (22, vi ((D : Nat) : Int)), (45, .slice H f.Stops.length I), (46, vi ((f.Stops).length : Int)), (47, vi ((C : Nat) : Int)), (52, .bool aa)] ∧ St w s (pc ah (B9.cells A).toArray 75 :: pc J #[vi f.No, vi f.Stock, .slice H f.Stops.length I, .slice ae f.Legs.length af] 72 :: L0 P2.f Value.bool y (O1 t f.No true) :: pc K #[.slice l x0.Trains.length n, .slice u x0.Turns.length x] 25 :: R)) ?_ ?_
   ·refine W.gen fun aN O => ?_
    refine sg [.r,.f 0,.b 0] c b fun a b => ?_
    refine fq b (K3 c  rfl (r := D5 A.Station 0 11)) ?_; rintro _ w ⟨rfl, c⟩; refine ⟨_, rfl, fun a b => ?_⟩
    refine sl [.p,.p] c b fun a b => ?_
    rcases b2o (!(D5 A.Station 0 11)) with E | E
    ·replace j := iteT E j
     refine sl [.O,.O,.O,.O,.T,.p,.O,.O,.O,.O,.T,.p,.e] c b fun a b => ?_
     subst O
     exact ⟨true, j, b.pk, c⟩
    replace j := iteF E j
    refine sl [.f 2,.b 0] c b fun a b => ?_
    refine WL.fnq b (K3 c  rfl (r := D5 A.Arr 0 28800)) (F9 b rfl rfl rfl E) b0E rfl rfl rfl ?_
    clear b c; rintro e w ⟨rfl, c⟩; refine ⟨_, rfl, ?_⟩; clear a; intro a b
    refine sl [.p,.N,.p] c b fun a b => ?_
    rcases b2o (!(D5 A.Arr 0 28800)) with F | F
    ·replace j := iteT F j
     refine sl [.O,.O,.O,.O,.T,.p,.e] c b fun a b => ?_
     subst O
     exact ⟨true, j, b.pk, c⟩
    replace j := iteF F j
    refine sl [.f 3,.b 0] c b fun a b => ?_
    refine WL.fnq b (K3 c  rfl (r := D5 A.Dep 0 28800)) (F9 b rfl rfl rfl F) b0E rfl rfl rfl ?_
    clear b c; rintro e w ⟨rfl, c⟩; refine ⟨_, rfl, ?_⟩; clear a; intro a b
    refine sl [.p,.N,.p,.e] c b fun a b => ?_
    subst O
    exact ⟨!(D5 A.Dep 0 28800), j, b.pk, c⟩
   clear b c a w; rintro a w ⟨aa, rfl, b, c⟩
   refine W.cond b rfl (fun P => ?_) (fun P => ?_)
   ·replace g := iteT P g
    refine sg [.s,.p,.e] c b fun a b => ?_
    refine W.ret ?_
    subst N
    subst B
    rw [← oi g] at d
    dsimp only at d
    rw [← oi d] at o
    dsimp only at o
    refine fg [_] b ?_
    obtain rfl := oi o
    replace c := pm [.D 0,.D 0,.D 0,.D 0] c
    exact ⟨rfl, c⟩
   replace g := iteF P g
   refine W.seq ?_
   obtain ⟨aB, i, g⟩ := B4 g
   refine W.cut (fun a w => ∃ ad, ad = aB ∧ Rep a 93 [(5, .map (some y)), (7, pp J), (20, .slice l x0.Trains.length n), (21, vi ((x0.Trains).length : Int)), (22, vi ((D : Nat) : Int)), (45, .slice H f.Stops.length I), (46, vi ((f.Stops).length : Int)), (47, vi ((C : Nat) : Int)), (69, .bool ad)] ∧ St w s (pc ah (B9.cells A).toArray 75 :: pc J #[vi f.No, vi f.Stock, .slice H f.Stops.length I, .slice ae f.Legs.length af] 72 :: L0 P2.f Value.bool y (O1 t f.No true) :: pc K #[.slice l x0.Trains.length n, .slice u x0.Turns.length x] 25 :: R)) ?_ ?_
   ·refine W.gen fun aO Q => ?_
    refine rQ c mixed ?_
    refine sq [.f 3,.b 0,.f 2,.b 0,.p,.p] b fun a b => ?_
    rcases b2o (decide (A.Dep < A.Arr)) with S | S
    ·replace i := iteT S i
     refine sq [.O,.O,.O,.U,.U,.U,.U,.U,.U,.U,.U,.U,.U,.O,.T,.p] b fun a b => ?_
     refine QL.nil ?_; clear c w; intro w c
     subst Q
     exact ⟨true, oi i, b.pk, c⟩
    replace i := iteF S i
    refine sq [.p,.p,.p] b fun a b => ?_
    rcases b2o (decide (((C : Nat) : Int) > 0)) with G | G
    ·replace i := iteT G i
     obtain ⟨aC, aG, aD, am, i⟩ := gxS i
     obtain ⟨aH, aI, an, ai⟩ := ag.at am
     subst an
     refine sq [.f 2,.b 0,.f 2,.b 1,.p,.p,.x 75,.f 3] b fun a b => ?_
     refine QL.v b (F9 b rfl rfl rfl G) (A6.load1 b rfl (fun w h => (ai w _ h).one rfl) ty3) rfl fun a b => ?_
     refine sq [.p,.T,.N,.p] b fun a b => ?_
     refine QL.nil ?_; clear c w; intro w c
     subst Q
     exact ⟨decide (A.Arr ≤ aC.Dep), oi i, b.pk, c⟩
    replace i := iteF G i
    refine sq [.O,.O,.O,.O,.O,.O,.O,.O,.O,.O,.N,.N,.p] b fun a b => ?_
    refine QL.nil ?_; clear c w; intro w c
    subst Q
    exact ⟨false, oi i, b.pk, c⟩
   clear b c a w; rintro a w ⟨ad, rfl, b, c⟩
   refine W.cond b rfl (fun T => ?_) (fun T => ?_)
   ·replace g := iteT T g
    refine sg [.s,.p,.e] c b fun a b => ?_
    refine W.ret ?_
    subst N
    subst B
    rw [← oi g] at d
    dsimp only at d
    rw [← oi d] at o
    dsimp only at o
    refine fg [_] b ?_
    obtain rfl := oi o
    replace c := pm [.D 0,.D 0,.D 0,.D 0] c
    exact ⟨rfl, c⟩
   replace g := iteF T g
   have := ag.small
   refine sm [.k,.r,.i,.p,.e,.D 0] c b fun a w b c => ?_
   subst N
   exact ⟨q.length, b2p _, q, C + 1, rfl, M, g, b.pk, c⟩
  clear b c a w; rintro a w ⟨rfl, b, c⟩
  dsimp only at d
  have := U.small
  refine sm [.r,.i,.p,.e,.D 0] c b fun a w b c => ?_
  subst B
  exact ⟨p.length, b2p _, p, D + 1, (O1 t f.No true), rfl, L, d, b.pk, c⟩
 clear b c a w; rintro a w ⟨t, rfl, b, c⟩
 dsimp only at o
 refine sg [.s,.p,.e] c b fun a b => ?_
 refine W.ret ?_
 refine fg [_] b ?_
 obtain rfl := oi o
 replace c := pm [.D 0,.D 0] c
 exact ⟨rfl, c⟩
set_option maxHeartbeats 8000000 in
theorem a1i {w : World} {x0 : B0} {h i : Option Addr} {j k : Nat} {x1 r : Int} (c : St w s (R)) (l : a0S b2n s) (m : Sl 4 A7 s h j x0.Trains) (n : Sl 1 (RL 1 (RI .i64)) s i k x0.Turns) (d : P5 x0 x1 = some r) :
  Calls b2n 22 [.agg (List.toArray [.slice h x0.Trains.length j, .slice i x0.Turns.length k]), vi x1].toArray w (fun e w => e = .returned (vi r) ∧ St w s (R)) := by
 refine enter Tryz.func22 rfl rfl rfl fun a b => ?_
 rw [P5] at d
 refine sg [.s] c b fun a b => ?_
 refine bw b c fun p a w b c => ?_
 refine sl [.p,.e,.q,.s,.B 0] c b fun a b => ?_
 obtain ⟨q, o, d⟩ := B4 d
 refine fq b (a1f c (a0S.mono lr l) m n o) ?_; rintro _ w ⟨rfl, c⟩; refine ⟨_, rfl, fun a b => ?_⟩
 refine sl [.p,.e,.s,.p,.p,.e] c b fun a b => ?_
 refine W.cond b rfl (fun f => ?_) (fun f => ?_)
 ·replace d := iteT f d
  refine sg [.s,.p,.p,.e] c b fun a b => ?_
  refine W.ret ?_
  refine fg [_] b ?_
  obtain rfl := oi d
  replace c := c.tail
  exact ⟨rfl, c⟩
 replace d := iteF f d
 refine sg [.k,.q,.s,.p] c b fun a b => ?_
 refine fq b (K3 c  rfl (r := D5 x1 0 28800)) ?_; rintro _ w ⟨rfl, c⟩; refine ⟨_, rfl, fun a b => ?_⟩
 refine sl [.p,.e] c b fun a b => ?_
 refine W.cond b rfl (fun g => ?_) (fun g => ?_)
 ·replace d := iteT g d
  refine sg [.s,.p,.e] c b fun a b => ?_
  refine W.ret ?_
  refine fg [_] b ?_
  obtain rfl := oi d
  replace c := c.tail
  exact ⟨rfl, c⟩
 replace d := iteF g d
 refine sg [.k,.s,.p,.e] c b fun a b => ?_
 refine W.ret ?_
 refine fg [_] b ?_
 obtain rfl := oi d
 replace c := c.tail
 exact ⟨rfl, c⟩
set_option maxHeartbeats 8000000 in
theorem Y5 {w : World} {x0 : List B1} {f : Option Addr} {g : Nat} (c : St w s (R)) (l : Sl 4 A7 s f g x0) {r : (List B1)} (d : L7 x0 = some r) :
  Calls b2n 47 [.slice f x0.length g].toArray w (fun e w => ∃ (f : Option Addr) (g i : Nat) (h : List Value), e = .returned (.slice f i g) ∧ Ev 4 A7 s h r ∧ r.length = i ∧ St w s (B2 72 4 f g i h :: R)) := by
 refine enter Tryz.func47 rfl rfl rfl fun a b => ?_
 rw [L7] at d
 refine sg [.s,.p,.e,.q,.s,.p] c b fun a b => ?_
 refine vP c b (A6.isNil b rfl rfl b0M) rfl fun a b => WL.nil ?_
 rcases f with _ | u
 ·obtain rfl := l.none_nil
  replace d : some [] = _ := d
  refine W.condT b rfl rfl ?_
  refine sg [.s,.p,.e] c b fun a b => ?_
  refine W.ret ?_
  replace c := c.vecNil 72 4
  refine fg [_] b ?_
  obtain rfl := oi d
  exact ⟨none, 0, 0, [], rfl, (Ev.nil), (rfl), c⟩
 skip
 refine W.condF b rfl rfl ?_
 refine sg [.k,.s] c b fun a b => ?_
 refine WL.lit b c (e := 72) (es := 4) (vs := []) (cs := []) (A0 rfl) rfl (by kernel_rfl) rfl fun v a w b c => ?_
 replace c := c.ptVec (es := 4) (m := 0) rfl (by decide)
 have n : Ev 4 A7 s [] [] := (Ev.nil)
 refine sl [.p] c b fun a b => ?_
 obtain ⟨o, j, d⟩ := B4 d
 refine WL.appS b c 0 (A0 rfl) rfl rfl (xs := x0) rfl rfl b1x A7.one n (rfl) l j rfl fun p q k a w t b c => ?_
 refine sl [.p,.e] c b fun a b => ?_
 refine W.ret ?_
 refine fg [_] b ?_
 obtain rfl := oi d
 exact ⟨p, q, o.length, k, rfl, t, (rfl), c⟩
set_option maxHeartbeats 8000000 in
theorem U7 {w : World} {x0 : List (List Int)} {f : Option Addr} {g : Nat} (c : St w s (R)) (l : Sl 1 (RL 1 (RI .i64)) s f g x0) {r : (List (List Int))} (d : K6 x0 = some r) :
  Calls b2n 48 [.slice f x0.length g].toArray w (fun e w => ∃ (f : Option Addr) (g i : Nat) (h : List Value), e = .returned (.slice f i g) ∧ Ev 1 (RL 1 (RI .i64)) s h r ∧ r.length = i ∧ St w s (B2 28 1 f g i h :: R)) := by
 refine enter Tryz.func48 rfl rfl rfl fun a b => ?_
 rw [K6] at d
 refine sg [.s,.p,.e,.q,.s,.p] c b fun a b => ?_
 refine vP c b (A6.isNil b rfl rfl b0Q) rfl fun a b => WL.nil ?_
 rcases f with _ | u
 ·obtain rfl := l.none_nil
  replace d : some [] = _ := d
  refine W.condT b rfl rfl ?_
  refine sg [.s,.p,.e] c b fun a b => ?_
  refine W.ret ?_
  replace c := c.vecNil 28 1
  refine fg [_] b ?_
  obtain rfl := oi d
  exact ⟨none, 0, 0, [], rfl, (Ev.nil), (rfl), c⟩
 skip
 refine W.condF b rfl rfl ?_
 refine sg [.k,.s] c b fun a b => ?_
 refine WL.lit b c (e := 28) (es := 1) (vs := []) (cs := []) (A0 rfl) rfl (by kernel_rfl) rfl fun v a w b c => ?_
 replace c := c.ptVec (es := 1) (m := 0) rfl (by decide)
 have n : Ev 1 (RL 1 (RI .i64)) s [] [] := (Ev.nil)
 refine sl [.p] c b fun a b => ?_
 obtain ⟨o, j, d⟩ := B4 d
 refine WL.appS b c 0 (A0 rfl) rfl rfl (xs := x0) rfl rfl a9F RL.one n (rfl) l j rfl fun p q k a w t b c => ?_
 refine sl [.p,.e] c b fun a b => ?_
 refine W.ret ?_
 refine fg [_] b ?_
 obtain rfl := oi d
 exact ⟨p, q, o.length, k, rfl, t, (rfl), c⟩
set_option maxHeartbeats 8000000 in
theorem a0a {w : World} {x0 : List B9} {f : Option Addr} {g : Nat} (c : St w s (R)) (l : Sl 4 I9 s f g x0) {r : (List B9)} (d : M3 x0 = some r) :
  Calls b2n 49 [.slice f x0.length g].toArray w (fun e w => ∃ (f : Option Addr) (g i : Nat) (h : List Value), e = .returned (.slice f i g) ∧ Ev 4 I9 s h r ∧ r.length = i ∧ St w s (B2 75 4 f g i h :: R)) := by
 refine enter Tryz.func49 rfl rfl rfl fun a b => ?_
 rw [M3] at d
 refine sg [.s,.p,.e,.q,.s,.p] c b fun a b => ?_
 refine vP c b (A6.isNil b rfl rfl b0y) rfl fun a b => WL.nil ?_
 rcases f with _ | u
 ·obtain rfl := l.none_nil
  replace d : some [] = _ := d
  refine W.condT b rfl rfl ?_
  refine sg [.s,.p,.e] c b fun a b => ?_
  refine W.ret ?_
  replace c := c.vecNil 75 4
  refine fg [_] b ?_
  obtain rfl := oi d
  exact ⟨none, 0, 0, [], rfl, (Ev.nil), (rfl), c⟩
 skip
 refine W.condF b rfl rfl ?_
 refine sg [.k,.s] c b fun a b => ?_
 refine WL.lit b c (e := 75) (es := 4) (vs := []) (cs := []) (A0 rfl) rfl (by kernel_rfl) rfl fun v a w b c => ?_
 replace c := c.ptVec (es := 4) (m := 0) rfl (by decide)
 have n : Ev 4 I9 s [] [] := (Ev.nil)
 refine sl [.p] c b fun a b => ?_
 obtain ⟨o, j, d⟩ := B4 d
 refine WL.appS b c 0 (A0 rfl) rfl rfl (xs := x0) rfl rfl b1I I9.one n (rfl) l j rfl fun p q k a w t b c => ?_
 refine sl [.p,.e] c b fun a b => ?_
 refine W.ret ?_
 refine fg [_] b ?_
 obtain rfl := oi d
 exact ⟨p, q, o.length, k, rfl, t, (rfl), c⟩
set_option maxHeartbeats 8000000 in
theorem V7 {w : World} {x0 : List Int} {f : Option Addr} {g : Nat} (c : St w s (R)) (l : Sl 1 (RI .i64) s f g x0) {r : (List Int)} (d : L3 x0 = some r) :
  Calls b2n 50 [.slice f x0.length g].toArray w (fun e w => ∃ (f : Option Addr) (g i : Nat) (h : List Value), e = .returned (.slice f i g) ∧ Ev 1 (RI .i64) s h r ∧ r.length = i ∧ St w s (B2 3 1 f g i h :: R)) := by
 refine enter Tryz.func50 rfl rfl rfl fun a b => ?_
 rw [L3] at d
 refine sg [.s,.p,.e,.q,.s,.p] c b fun a b => ?_
 refine vP c b (A6.isNil b rfl rfl a8C) rfl fun a b => WL.nil ?_
 rcases f with _ | u
 ·obtain rfl := l.none_nil
  replace d : some [] = _ := d
  refine W.condT b rfl rfl ?_
  refine sg [.s,.p,.e] c b fun a b => ?_
  refine W.ret ?_
  replace c := c.vecNil 3 1
  refine fg [_] b ?_
  obtain rfl := oi d
  exact ⟨none, 0, 0, [], rfl, (Ev.nil), (rfl), c⟩
 skip
 refine W.condF b rfl rfl ?_
 refine sg [.k,.s] c b fun a b => ?_
 refine WL.lit b c (e := 3) (es := 1) (vs := []) (cs := []) (A0 rfl) rfl (by kernel_rfl) rfl fun v a w b c => ?_
 replace c := c.ptVec (es := 1) (m := 0) rfl (by decide)
 have n : Ev 1 (RI .i64) s [] [] := (Ev.nil)
 refine sl [.p] c b fun a b => ?_
 obtain ⟨o, j, d⟩ := B4 d
 refine WL.appS b c 0 (A0 rfl) rfl rfl (xs := x0) rfl rfl W6 RI.one n (rfl) l j rfl fun p q k a w t b c => ?_
 refine sl [.p,.e] c b fun a b => ?_
 refine W.ret ?_
 refine fg [_] b ?_
 obtain rfl := oi d
 exact ⟨p, q, o.length, k, rfl, t, (rfl), c⟩
set_option maxHeartbeats 8000000 in
theorem X6 {w : World} {x0 : B0} {aM aN : Option Addr} {aO aP : Nat} (b : St w s (R)) (ah : Sl 4 A7 s aM aO x0.Trains) (ai : Sl 1 (RL 1 (RI .i64)) s aN aP x0.Turns) {r : B0} (hr : J6 x0 = some r) :
  Calls b2n 23 [.agg (List.toArray [.slice aM x0.Trains.length aO, .slice aN x0.Turns.length aP])].toArray w (fun e w => ∃ (bf : List Value) (t : Sg), e = .returned (.agg bf.toArray) ∧ s.Le t ∧ S6 t bf r ∧ St w t (R)) := by
 refine enter Tryz.func23 rfl rfl rfl fun a c => ?_
 rw [J6] at hr
 refine sg [.s] b c fun a c => ?_
 refine bw c b fun S a w c b => ?_
 refine al c b b0O fun T a w c b => ?_
 refine sl [.e,.q] b c fun a c => ?_
 refine W.gen fun cB bh => ?_
 refine rE b [] [1] [0, 1, 2, 3, 4, 5, 6, 8] [0, 1, 2, 3, 4, 5, 6, 7, 8, 9] mixed ?_
 replace b := b.drew
 refine sr [.P 0 (.f 0),.T 1 true (.b 1),.P 3 (.f 1),.T 4 true (.b 1)] c b (b.dropAt 1) fun a c => ?_
 refine ro 2 true true ?_
 obtain ⟨d, bi, hr⟩ := B4 hr
 refine fq c (Y5 b ah bi) ?_; rintro _ w ⟨D, F, cC, bj, rfl, av, rfl, b⟩; refine ⟨_, rfl, fun a c => ?_⟩
 refine WL.nil ?_
 refine r2 (b.tail) ((b.tail).dropAt 1) ?_
 refine sr [.P 6 (.f 0)] c (b.tail) ((b.tail).dropAt 1) fun a c => ?_
 refine ro 5 true true ?_
 obtain ⟨f, bl, hr⟩ := B4 hr
 refine fq c (U7 b ai bl) ?_; rintro _ w ⟨G, H, cD, ag, rfl, q, rfl, b⟩; refine ⟨_, rfl, fun a c => ?_⟩
 refine WL.nil ?_
 refine r2 ((b.tail).tail) (((b.tail).tail).dropAt 1) ?_
 refine ro 7 false true ?_
 refine so [.S 3,.e] b c fun a w c b => ?_
 refine rf (((b.tail).tail).dropAt 1) ?_
 refine Rg.takeP (i := 8) c rfl (by kernel_rfl) (A0 rfl) (A6.fld c rfl a9y) rfl (G2 (fun h => absurd h (by decide)) (fun _ => (((b.tail).tail).dropAt 1))) fun a c => ?_
 refine ro 9 false true ?_
 refine so [.S 3,.e] b c fun a w c b => ?_
 refine rf (((b.tail).tail).dropAt 1) ?_
 refine Rg.done (by kernel_rfl) ?_
 subst bh
 refine sg [.q,.s,.f 0,.b 3,.l 72 4,.p,.e] b c fun a c => ?_
 have ca : d.length ≤ 9223372036854775807 := by have := b.vecCap 1 rfl; unfold maxLen at this; omega
 obtain ⟨bg, u, hr⟩ := B4 hr
 refine W.cut (fun a w => ∃ Y C E, s.Le E ∧ Y = bg ∧ Ev 4 A7 E C Y ∧ Y.length = d.length ∧ Rep a 83 [(1, pp S), (2, pp T)] ∧ St w E (B2 28 1 G H f.length ag :: B2 72 4 D F d.length C :: pc T #[.slice none 0 0, .slice none 0 0] 25 :: pc S #[.slice D d.length F, .slice G f.length H] 25 :: R)) ?_ ?_
 ·refine W.block ?_
  refine W.loop (fun m a w => ∃ A I Y C E, A = m ∧ I + A = d.length ∧ s.Le E ∧ J6.loop1 A I Y = some bg ∧ Ev 4 A7 E C Y ∧ Y.length = d.length ∧ Rep a 83 [(1, pp S), (2, pp T), (17, vi ((d.length : Nat) : Int)), (18, vi ((I : Nat) : Int))] ∧ St w E (B2 28 1 G H f.length ag :: B2 72 4 D F d.length C :: pc T #[.slice none 0 0, .slice none 0 0] 25 :: pc S #[.slice D d.length F, .slice G f.length H] 25 :: R)) (m := d.length) ⟨d.length, 0, d, bj, s, rfl, by omega, lr, u, av, rfl, c.pk, b⟩ ?_
  clear c b a w u; rintro cE a w ⟨A, I, Y, C, E, rfl, cb, Z, u, k, aa, c, b⟩
  refine W.gen fun cF aQ => ?_
  obtain ⟨ah, ai, q, av⟩ := m4 Z ah ai q av
  rcases A with _ | A
  ·skip
   refine sg [.s,.p,.e,.q] b c fun a c => ?_
   refine W.condF c rfl (decide_eq_false (by omega)) ?_
   subst aQ
   refine W.exit rfl ?_
   exact ⟨Y, C, E, Z, oi u, k, aa, c.pk, b⟩
  have bX : I < d.length := by omega
  rw [J6.loop1] at u
  refine sg [.s,.p,.e,.q] b c fun a c => ?_
  refine W.condT c rfl (decide_eq_true (by omega)) ?_
  obtain ⟨J, cc, bY, bm, u⟩ := gxS u
  obtain ⟨cd, ce, bn, cf, aw⟩ := k.at bm
  obtain ⟨bS, bo, bp, bq, rfl, aj, ak⟩ := bn
  refine sm [.k,.q,.o,.s,.p,.p,.e,.s,.f 0,.b 3,.p,.y 1,.p,.e,.F 1] b c fun a w c b => ?_
  have aU : (((I : Nat) : Int)).toNat < Y.length := k.klt aw rfl rfl
  have hF := b.plnOpen (p := (((I : Nat) : Int)).toNat * 4) (vs := [vi J.No, vi J.Stock, .slice bS J.Stops.length bo, .slice bp J.Legs.length bq]) (a4c (by have := aa; omega)) rfl (a8J aw rfl); clear b; obtain ⟨b, aF⟩ := hF
  refine W.seq ?_
  refine W.gen fun cg aV => ?_
  refine rE b [] [0] [0, 1, 2, 3, 4, 5, 6, 7, 8, 9, 10, 11, 12, 13, 15, 16] [0, 1, 2, 3, 4, 5, 6, 7, 8, 9, 10, 11, 12, 13, 14, 15, 16, 17] mixed ?_
  replace b := b.drew
  refine sr [.P 0 .p,.P 1 .p,.P 2 .p,.T 3 true .n,.P 4 (.f 2),.T 5 true (.z 0 2),.P 7 .p,.T 8 false .n,.P 9 (.f 3),.T 10 true (.z 0 3)] c b (b.tail) fun a c => ?_
  refine ro 6 true true ?_
  obtain ⟨ad, aW, u⟩ := B4 u
  refine fq c (a0a b aj aW) ?_; rintro _ w ⟨am, an, ch, aG, rfl, ae, rfl, b⟩; refine ⟨_, rfl, fun a c => ?_⟩
  refine WL.nil ?_
  refine r2 (b.tail) ((b.tail).tail) ?_
  refine ro 11 true true ?_
  obtain ⟨l, aX, u⟩ := B4 u
  refine fq c (U7 b ak aX) ?_; rintro _ w ⟨ap, aq, ci, aY, rfl, ar, rfl, b⟩; refine ⟨_, rfl, fun a c => ?_⟩
  refine WL.nil ?_
  refine r2 ((b.tail).tail) (((b.tail).tail).tail) ?_
  refine sr [.T 12 false .n,.P 13 (.f 2)] c ((b.tail).tail) (((b.tail).tail).tail) fun a c => ?_
  refine ro 14 false true ?_
  refine WL.storeZN aF c b 2 2 rfl rfl rfl (A0 rfl) rfl rfl rfl a3P rfl rfl fun a w c b => ?_
  refine WL.nil ?_
  refine rf (((b.tail).tail).tail) ?_
  refine Rg.take (i := 15) false rfl c rfl (by kernel_rfl) (A0 rfl) (A6.nilOk c rfl) rfl (G2 (fun h => absurd h (by decide)) (fun _ => (((b.tail).tail).tail))) fun a c => ?_
  refine Rg.takeP (i := 16) c rfl (by kernel_rfl) (A0 rfl) (A6.fld c rfl a9f) rfl (G2 (fun h => absurd h (by decide)) (fun _ => (((b.tail).tail).tail))) fun a c => ?_
  refine ro 17 false true ?_
  refine WL.storeZN aF c b 2 3 rfl rfl rfl (A0 rfl) rfl rfl rfl b1Z rfl rfl fun a w c b => ?_
  refine WL.nil ?_
  refine rf (((b.tail).tail).tail) ?_
  refine Rg.done (by kernel_rfl) ?_
  subst aV
  refine sg [.s,.p,.n,.f 3,.z 2 3,.l 28 1,.p,.e] b c fun a c => ?_
  have bZ : l.length ≤ 9223372036854775807 := by have := b.vecCap 0 rfl; unfold maxLen at this; omega
  obtain ⟨aR, g, u⟩ := B4 u
  refine W.cut (fun a w => ∃ v K M, E.Le M ∧ v = aR ∧ Ev 1 (RL 1 (RI .i64)) M K v ∧ v.length = l.length ∧ Rep a 83 [(1, pp S), (2, pp T), (17, vi ((d.length : Nat) : Int)), (18, vi ((I : Nat) : Int))] ∧ St w M (B2 28 1 ap aq l.length K :: B2 75 4 am an ad.length aG :: a2k 72 4 D F d.length C ((((I : Nat) : Int)).toNat * 4) [vi J.No, vi J.Stock, .slice am ad.length an, .slice ap l.length aq] :: B2 28 1 G H f.length ag :: pc T #[.slice none 0 0, .slice none 0 0] 25 :: pc S #[.slice D d.length F, .slice G f.length H] 25 :: R)) ?_ ?_
  ·refine W.block ?_
   refine W.loop (fun m a w => ∃ n N v K M, n = m ∧ N + n = l.length ∧ E.Le M ∧ J6.loop2 n N v = some aR ∧ Ev 1 (RL 1 (RI .i64)) M K v ∧ v.length = l.length ∧ Rep a 83 [(1, pp S), (2, pp T), (4, .pointer (some ⟨(ab D), (ao D + (((I : Nat) : Int)).toNat * 4), none⟩)), (17, vi ((d.length : Nat) : Int)), (18, vi ((I : Nat) : Int)), (45, vi ((l.length : Nat) : Int)), (46, vi ((N : Nat) : Int))] ∧ St w M (B2 28 1 ap aq l.length K :: B2 75 4 am an ad.length aG :: a2k 72 4 D F d.length C ((((I : Nat) : Int)).toNat * 4) [vi J.No, vi J.Stock, .slice am ad.length an, .slice ap l.length aq] :: B2 28 1 G H f.length ag :: pc T #[.slice none 0 0, .slice none 0 0] 25 :: pc S #[.slice D d.length F, .slice G f.length H] 25 :: R)) (m := l.length) ⟨l.length, 0, l, aY, E, rfl, by omega, lr, g, ar, rfl, c.pk, b⟩ ?_
   clear c b a w g; rintro cj a w ⟨n, N, v, K, M, rfl, b0, B, g, V, y, c, b⟩
   refine W.gen fun ck aH => ?_
   obtain ⟨aj, ak, ar, ae⟩ := m4 B aj ak ar ae
   obtain ⟨k, q⟩ := m2 B k q
   rcases n with _ | n
   ·skip
    refine sg [.s,.p,.e,.q] b c fun a c => ?_
    refine W.condF c rfl (decide_eq_false (by omega)) ?_
    subst aH
    refine W.exit rfl ?_
    exact ⟨v, K, M, B, oi g, V, y, c.pk, b⟩
   have bT : N < l.length := by omega
   rw [J6.loop2] at g
   refine sg [.s,.p,.e,.q] b c fun a c => ?_
   refine W.condT c rfl (decide_eq_true (by omega)) ?_
   refine sg [.k,.q,.o,.s,.p,.p,.e] b c fun a c => ?_
   refine W.gen fun cl aZ => ?_
   refine rE b [] [0] [0, 1, 2, 3, 4, 5, 6, 7, 8, 9, 10, 11, 12, 13] [0, 1, 2, 3, 4, 5, 6, 7, 8, 9, 10, 11, 12, 13, 14] mixed ?_
   replace b := b.drew
   refine sr [.P 0 .p,.T 1 true .n,.P 2 (.f 3),.T 3 true (.z 2 3),.P 4 .p,.P 5 .p,.T 6 true .n,.P 7 (.f 3),.T 8 true (.z 2 3),.P 9 .p] c b (b.tail) fun a c => ?_
   obtain ⟨cm, a0, bU, a1, g⟩ := gxS g
   obtain ⟨b1, b2, a2, b3, bQ⟩ := V.at a1
   obtain ⟨cn, co, rfl, aB⟩ := a2
   refine tP (i := 10) c rfl (by kernel_rfl) (A6.idx c ((((N : Nat) : Int)).toNat) rfl rfl b0b a0 (by have := y; omega) (b.vecAok 0 rfl (by have := y; omega : (((N : Nat) : Int)).toNat < l.length))) rfl b (b.tail) fun a c => ?_
   refine sr [.T 11 true (.g 0)] c b (b.tail) fun a c => ?_
   refine ro 12 true true ?_
   obtain ⟨br, a3, g⟩ := B4 g
   refine fq c (V7 b aB a3) ?_; rintro _ w ⟨bs, bt, cp, b4, rfl, bu, rfl, b⟩; refine ⟨_, rfl, fun a c => ?_⟩
   refine WL.nil ?_
   refine r2 (b.tail) ((b.tail).tail) ?_
   obtain ⟨_, a4, g⟩ := B4 g
   obtain ⟨bv, cq⟩ := S9 a4
   refine tP (i := 13) c rfl (by kernel_rfl) (A6.idx c ((((N : Nat) : Int)).toNat) rfl rfl b0b bv (by have := y; omega) (b.vecAok 1 rfl (by have := y; omega : (((N : Nat) : Int)).toNat < l.length))) rfl (b.tail) ((b.tail).tail) fun a c => ?_
   refine ro 14 false true ?_
   have hF := b.fixD RI.mono 0 rfl bu rfl; clear b; obtain ⟨bz, af, b, bA⟩ := hF
   obtain ⟨aB, V, ae, k⟩ := m4 af aB V ae k
   replace q := m1 af q
   obtain ⟨bB, aI, g⟩ := B4 g
   refine WL.setD c b 0 rfl (A0 rfl) rfl rfl (vs := [.slice bs br.length bt]) rfl b1b rfl rfl rfl V y (S3 aI).1 aI ⟨_, _, rfl, bA⟩ rfl fun a5 a w bC a6 c b => ?_
   refine WL.nil ?_
   refine rf (St.down af (b.tail)) ?_
   refine Rg.done (by kernel_rfl) ?_
   subst aZ
   refine sg [.r,.i,.p,.e] b c fun a c => ?_
   subst aH
   exact ⟨n, b2p _, n, N + 1, bB, a5, bz, rfl, (by omega), (Sg.Le.trans B af), g, bC, a6, c.pk, b⟩
  clear c b a w; rintro a w ⟨v, K, M, B, rfl, V, y, c, b⟩
  obtain ⟨aj, ak, ar, ae⟩ := m4 B aj ak ar ae
  obtain ⟨k, q⟩ := m2 B k q
  refine sg [.r,.i,.p,.e] b c fun a c => ?_
  have hF := b.fixD I9.mono 1 rfl ae rfl; clear b; obtain ⟨cr, ax, b, aC⟩ := hF
  obtain ⟨V, k, q⟩ := m3 ax V k q
  have hF := b.fixD (RL.mono RI.mono) 0 rfl V y; clear b; obtain ⟨aS, ay, b, bD⟩ := hF
  (try rw [← y] at c)
  (try rw [← y] at b)
  obtain ⟨aC, k, q⟩ := m3 ay aC k q
  have hF := b.plnClose (vs := [vi J.No, vi J.Stock, .slice am ad.length an, .slice ap v.length aq]) (x := (B1.mk J.No J.Stock ad v)) k aa aU rfl ⟨_, _, _, _, rfl, aC, bD⟩; clear b; obtain ⟨aJ, b, bE, a7⟩ := hF
  replace b : St _ aS (B2 72 4 D F d.length aJ :: B2 28 1 G H f.length ag :: pc T #[.slice none 0 0, .slice none 0 0] 25 :: pc S #[.slice D d.length F, .slice G f.length H] 25 :: R) := b
  replace b := pm [.F 3,.F 3,.F 2,.F 3] b
  subst aQ
  exact ⟨A, b2p _, A, I + 1, (List.set Y ((((I : Nat) : Int)).toNat) (B1.mk J.No J.Stock ad v)), aJ, aS, rfl, (by omega), (Sg.Le.trans (Sg.Le.trans (Sg.Le.trans Z B) ax) ay), u, bE, a7, c.pk, b⟩
 clear c b a w; rintro a w ⟨Y, C, E, Z, rfl, k, aa, c, b⟩
 obtain ⟨ah, ai, q, av⟩ := m4 Z ah ai q av
 refine sg [.q,.s,.f 1,.b 3,.l 28 1,.p,.e] b c fun a c => ?_
 have b5 : f.length ≤ 9223372036854775807 := by have := b.vecCap 0 rfl; unfold maxLen at this; omega
 obtain ⟨aT, j, hr⟩ := B4 hr
 refine W.cut (fun a w => ∃ O L P, E.Le P ∧ O = aT ∧ Ev 1 (RL 1 (RI .i64)) P L O ∧ O.length = f.length ∧ Rep a 83 [(1, pp S), (2, pp T)] ∧ St w P (B2 28 1 G H f.length L :: B2 72 4 D F d.length C :: pc T #[.slice none 0 0, .slice none 0 0] 25 :: pc S #[.slice D d.length F, .slice G f.length H] 25 :: R)) ?_ ?_
 ·refine W.block ?_
  refine W.loop (fun m a w => ∃ o Q O L P, o = m ∧ Q + o = f.length ∧ E.Le P ∧ J6.loop3 o Q O = some aT ∧ Ev 1 (RL 1 (RI .i64)) P L O ∧ O.length = f.length ∧ Rep a 83 [(1, pp S), (2, pp T), (67, vi ((f.length : Nat) : Int)), (68, vi ((Q : Nat) : Int))] ∧ St w P (B2 28 1 G H f.length L :: B2 72 4 D F d.length C :: pc T #[.slice none 0 0, .slice none 0 0] 25 :: pc S #[.slice D d.length F, .slice G f.length H] 25 :: R)) (m := f.length) ⟨f.length, 0, f, ag, E, rfl, by omega, lr, j, q, rfl, c.pk, b⟩ ?_
  clear c b a w j; rintro cs a w ⟨o, Q, O, L, P, rfl, b6, U, j, X, z, c, b⟩
  refine W.gen fun ct aK => ?_
  obtain ⟨q, k⟩ := m2 U q k
  rcases o with _ | o
  ·skip
   refine sg [.s,.p,.e,.q] b c fun a c => ?_
   refine W.condF c rfl (decide_eq_false (by omega)) ?_
   subst aK
   refine W.exit rfl ?_
   exact ⟨O, L, P, U, oi j, X, z, c.pk, b⟩
  have bV : Q < f.length := by omega
  rw [J6.loop3] at j
  refine sg [.s,.p,.e,.q] b c fun a c => ?_
  refine W.condT c rfl (decide_eq_true (by omega)) ?_
  refine sg [.k,.q,.o,.s,.p,.p,.e] b c fun a c => ?_
  refine W.gen fun cu a8 => ?_
  refine rE b [] [0] [0, 1, 2, 3, 4, 5, 6, 7, 8, 9] [0, 1, 2, 3, 4, 5, 6, 7, 8, 9, 10] mixed ?_
  replace b := b.drew
  refine sr [.P 0 (.f 1),.T 1 true (.b 3),.P 2 .p,.P 3 (.f 1),.T 4 true (.b 3),.P 5 .p] c b (b.tail) fun a c => ?_
  obtain ⟨cv, a9, bW, a_, j⟩ := gxS j
  obtain ⟨b7, b8, ba, b9, bR⟩ := X.at a_
  obtain ⟨cw, cx, rfl, aD⟩ := ba
  refine tP (i := 6) c rfl (by kernel_rfl) (A6.idx c ((((Q : Nat) : Int)).toNat) rfl rfl b0b a9 (by have := z; omega) (b.vecAok 0 rfl (by have := z; omega : (((Q : Nat) : Int)).toNat < f.length))) rfl b (b.tail) fun a c => ?_
  refine sr [.T 7 true (.g 0)] c b (b.tail) fun a c => ?_
  refine ro 8 true true ?_
  obtain ⟨bF, bb, j⟩ := B4 j
  refine fq c (V7 b aD bb) ?_; rintro _ w ⟨bG, bH, cy, b_, rfl, bI, rfl, b⟩; refine ⟨_, rfl, fun a c => ?_⟩
  refine WL.nil ?_
  refine r2 (b.tail) ((b.tail).tail) ?_
  obtain ⟨_, bc, j⟩ := B4 j
  obtain ⟨bJ, cz⟩ := S9 bc
  refine tP (i := 9) c rfl (by kernel_rfl) (A6.idx c ((((Q : Nat) : Int)).toNat) rfl rfl b0b bJ (by have := z; omega) (b.vecAok 1 rfl (by have := z; omega : (((Q : Nat) : Int)).toNat < f.length))) rfl (b.tail) ((b.tail).tail) fun a c => ?_
  refine ro 10 false true ?_
  have hF := b.fixD RI.mono 0 rfl bI rfl; clear b; obtain ⟨bK, au, b, bL⟩ := hF
  obtain ⟨aD, X, k⟩ := m3 au aD X k
  obtain ⟨bM, aL, j⟩ := B4 j
  refine WL.setD c b 0 rfl (A0 rfl) rfl rfl (vs := [.slice bG bF.length bH]) rfl b1b rfl rfl rfl X z (S3 aL).1 aL ⟨_, _, rfl, bL⟩ rfl fun bd a w bN be c b => ?_
  refine WL.nil ?_
  refine rf (St.down au (b.tail)) ?_
  refine Rg.done (by kernel_rfl) ?_
  subst a8
  refine sg [.r,.i,.p,.e] b c fun a c => ?_
  subst aK
  exact ⟨o, b2p _, o, Q + 1, bM, bd, bK, rfl, (by omega), (Sg.Le.trans U au), j, bN, be, c.pk, b⟩
 clear c b a w; rintro a w ⟨O, L, P, U, rfl, X, z, c, b⟩
 obtain ⟨q, k⟩ := m2 U q k
 refine sm [.s,.B 3,.A 2,.e] b c fun a w c b => ?_
 refine W.ret ?_
 have hF := b.fixD A7.mono 1 rfl k aa; clear b; obtain ⟨cA, az, b, aE⟩ := hF
 (try rw [← aa] at c)
 (try rw [← aa] at b)
 replace X := m1 az X
 have hF := b.fixD (RL.mono RI.mono) 0 rfl X z; clear b; obtain ⟨bO, aA, b, bP⟩ := hF
 (try rw [← z] at c)
 (try rw [← z] at b)
 replace aE := m1 aA aE
 refine a0b (fn := Tryz.f23) (rs := [.cell 2 25]) (vs := [_]) c rfl ⟨⟨_, rfl, .inl ⟨_, rfl, b.seesAt 0 rfl, b0w⟩⟩, trivial⟩ ?_
 obtain rfl := oi hr
 replace b := pm [.D 0,.D 0] b
 exact ⟨_, bO, rfl, (Sg.Le.trans (Sg.Le.trans (Sg.Le.trans Z U) az) aA), ⟨_, _, _, _, rfl, aE, bP⟩, b⟩
set_option maxHeartbeats 8000000 in
theorem a0d {w : World} {x0 : B0} {f g : Option Addr} {h i : Nat} {x1 : Int} (c : St w s (R)) (G : a0S b2n s) (l : Sl 4 A7 s f h x0.Trains) (m : Sl 1 (RL 1 (RI .i64)) s g i x0.Turns) {r : (Option ((List B1) × (List (List Int)) × Int × Int × (List C5) × (List A4))) × Int} (j : P7 x0 x1 = some r) :
  Calls b2n 4 [.agg (List.toArray [.slice f x0.Trains.length h, .slice g x0.Turns.length i]), vi x1].toArray w (fun e w => (∃ (t : Sg), r.1 = none ∧ e = .returned (.tuple #[.pointer none, vi r.2]) ∧ s.Le t ∧ St w t (R)) ∨ (∃ (k : (List B1) × (List (List Int)) × Int × Int × (List C5) × (List A4)) (J : Nat) (f : Option Addr) (h : Nat) (g : Option Addr) (i : Nat) (B : Option Addr) (C u : Nat) (y : a0o) (D : Option Addr) (E v : Nat) (z : List Value) (t : Sg), r.1 = some k ∧ e = .returned (.tuple #[pp J, vi r.2]) ∧ s.Le t ∧ Sl 4 A7 t f h k.1 ∧ Sl 1 (RL 1 (RI .i64)) t g i k.2.1 ∧ HEv 11 D0 t y k.2.2.2.2.1 ∧ (k.2.2.2.2.1).length = u ∧ Ev 5 A5 t z k.2.2.2.2.2 ∧ (k.2.2.2.2.2).length = v ∧ St w t (pc J #[.slice f (k.1).length h, .slice g (k.2.1).length i, vi k.2.2.1, vi k.2.2.2.1, .slice B u C, .slice D v E] 69 :: M5 78 11 B C u y :: B2 50 5 D E v z :: R))) := by
 refine enter Tryz.func4 rfl rfl rfl fun a b => ?_
 rw [P7] at j
 refine sg [.s] c b fun a b => ?_
 refine bw b c fun Q a w b c => ?_
 refine sl [.p,.p,.e,.q,.s,.B 0,.p] c b fun a b => ?_
 obtain ⟨S, H, j⟩ := B4 j
 refine fq b (a1i c (a0S.mono lr G) l m H) ?_; rintro _ w ⟨rfl, c⟩; refine ⟨_, rfl, fun a b => ?_⟩
 refine sl [.p,.e,.s,.p,.p,.e] c b fun a b => ?_
 refine W.cond b rfl (fun x => ?_) (fun x => ?_)
 ·replace j := iteT x j
  refine sg [.s,.p,.p,.p,.e] c b fun a b => ?_
  refine W.ret ?_
  refine fg [_, _] b ?_
  obtain rfl := oi j
  replace c := c.tail
  exact .inl ⟨s, rfl, rfl, lr, c⟩
 replace j := iteF x j
 refine sg [.k,.s,.B 0] c b fun a b => ?_
 obtain ⟨d, I, j⟩ := B4 j
 refine fq b (X6 c l m I) ?_; rintro _ w ⟨P, F, rfl, A, K, c⟩; refine ⟨_, rfl, fun a b => ?_⟩
 obtain ⟨l, m⟩ := m2 A l m
 obtain ⟨n, o, p, q, rfl, L, M⟩ := K
 refine sl [.p] c b fun a b => ?_
 refine vP c b (A6.build b (vs := [(0, .agg (List.toArray [.slice n d.Trains.length o, .slice p d.Turns.length q])), (1, vi x1)]) [.slice n d.Trains.length o, .slice p d.Turns.length q, vi x1] rfl (by kernel_rfl)) rfl fun a b => ?_
 refine vP c b (A6.build b (vs := [(0, .agg (List.toArray [.slice n d.Trains.length o, .slice p d.Turns.length q, vi x1]))]) [.slice n d.Trains.length o, .slice p d.Turns.length q, vi x1, vi 0, .slice none 0 0, .slice none 0 0] rfl (by kernel_rfl)) rfl fun a b => ?_
 refine bw b c fun N a w b c => ?_
 refine sl [.p,.p,.e] c b fun a b => ?_
 refine W.ret ?_
 replace c := c.hotNil 78 11
 have O : HEv 11 D0 F ⟨[], []⟩ ([] : List C5) := HEv.nil
 replace c := c.vecNil 50 5
 refine fg [_, _] b ?_
 obtain rfl := oi j
 replace c := pm [.F 1,.F 2,.D 3] c
 exact .inr ⟨_, N, n, o, p, q, none, 0, 0, ⟨[], []⟩, none, 0, 0, [], F, rfl, rfl, A, L, M, O, (rfl), (Ev.nil), (rfl), c⟩
set_option maxHeartbeats 8000000 in
theorem a0y {w : World} {x0 : B0} {q H : Option Addr} {u I : Nat} (c : St w s (R)) (h : Sl 4 A7 s q u x0.Trains) (i : Sl 1 (RL 1 (RI .i64)) s H I x0.Turns) {r : (List (List Int))} (hr : E5 x0 = some r) :
  Calls b2n 51 [.agg (List.toArray [.slice q x0.Trains.length u, .slice H x0.Turns.length I])].toArray w (fun e w => ∃ (a0 : Option Addr) (c0 n0 : Nat) (ay : List Value) (t : Sg), e = .returned (.slice a0 n0 c0) ∧ s.Le t ∧ Ev 1 (RL 1 (RI .i64)) t ay r ∧ r.length = n0 ∧ St w t (B2 28 1 a0 c0 n0 ay :: R)) := by
 refine enter Tryz.func51 rfl rfl rfl fun a b => ?_
 rw [E5] at hr
 refine sg [.s] c b fun a b => ?_
 refine bw b c fun K a w b c => ?_
 refine sl [.p,.e,.s] c b fun a b => ?_
 replace c := c.vecNil 28 1
 refine sl [.p,.e,.q,.s,.f 0,.b 1,.l 72 4,.p,.e] c b fun a b => ?_
 obtain ⟨az, l, hr⟩ := B4 hr
 refine W.cut (fun a w => ∃ y L M F z x, s.Le x ∧ y = az ∧ Ev 1 (RL 1 (RI .i64)) x z y ∧ y.length = F ∧ Rep a 52 [(1, pp K), (3, .slice L F M)] ∧ St w x (B2 28 1 L M F z :: pc K #[.slice q x0.Trains.length u, .slice H x0.Turns.length I] 25 :: R)) ?_ ?_
 ·refine W.block ?_
  refine W.loop (fun m a w => ∃ j P y L M F z x, j.length = m ∧ x0.Trains.drop P = j ∧ s.Le x ∧ E5.loop1 j y = some az ∧ Ev 1 (RL 1 (RI .i64)) x z y ∧ y.length = F ∧ Rep a 52 [(1, pp K), (3, .slice L F M), (9, .slice q x0.Trains.length u), (10, vi ((x0.Trains).length : Int)), (11, vi ((P : Nat) : Int))] ∧ St w x (B2 28 1 L M F z :: pc K #[.slice q x0.Trains.length u, .slice H x0.Turns.length I] 25 :: R)) (m := x0.Trains.length) ⟨x0.Trains, 0, [], none, 0, 0, [], s, rfl, rfl, lr, l, (Ev.nil), (rfl), b.pk, c⟩ ?_
  clear b c a w l; rintro a9 a w ⟨j, P, y, L, M, F, z, x, rfl, S, D, l, Q, rfl, b, c⟩
  refine W.gen fun a_ ad => ?_
  obtain ⟨h, i⟩ := m2 D h i
  rcases j with _ | ⟨d, j⟩
  ·have am := E8 S
   refine sg [.s,.p,.e,.q] c b fun a b => ?_
   refine W.condF b rfl (decide_eq_false (by omega)) ?_
   subst ad
   refine W.exit rfl ?_
   exact ⟨y, L, M, y.length, z, x, D, oi l, Q, rfl, b.pk, c⟩
  obtain ⟨am, aE, S⟩ := C3 S
  rw [E5.loop1] at l
  refine sg [.s,.p,.e,.q] c b fun a b => ?_
  refine W.condT b rfl (decide_eq_true (by omega)) ?_
  obtain ⟨a3, a4, aF, aZ⟩ := h.at aE
  obtain ⟨ae, af, aA, aB, rfl, E, G⟩ := aF
  refine sg [.k,.q,.o,.s,.x 72,.h] c b fun a b => ?_
  refine al b c a5o fun Y a w b c => ?_
  refine so [.A 0,.e,.s,.p,.f 0,.b 0,.f 1,.b 0] c b fun a w b c => ?_
  refine WL.lit b c (e := 3) (es := 1) (vs := [(0, vi d.No), (1, vi d.Stock)]) (cs := [vi d.No, vi d.Stock]) (A0 rfl) rfl (by kernel_rfl) rfl fun ag a w b c => ?_
  replace c := c.ptVec (es := 1) (m := 2) rfl (by decide)
  have aV : Ev 1 (RI .i64) x [vi d.No, vi d.Stock] [d.No, d.Stock] := (Ev.cons (c1 := [vi d.No]) rfl rfl (Ev.cons (c1 := [vi d.Stock]) rfl rfl (Ev.nil)))
  have hF := c.fixD RI.mono 0 rfl aV (rfl); clear c; obtain ⟨ah, T, c, U⟩ := hF
  obtain ⟨h, E, G, Q⟩ := m4 T h E G Q
  replace i := m1 T i
  refine WL.lit b c (e := 28) (es := 1) (vs := [(0, .slice (some ⟨ag, 0, none⟩) 2 2)]) (cs := [.slice (some ⟨ag, 0, none⟩) 2 2]) (A0 rfl) rfl (by kernel_rfl) rfl fun ba a w b c => ?_
  obtain ⟨aC, aG, l⟩ := B4 l
  refine WL.appD b c 1 (m := 1) (A0 rfl) rfl rfl rfl a9F rfl Q rfl (xs := [[d.No, d.Stock]]) (Ev.cons (c1 := [.slice (some ⟨ag, 0, none⟩) 2 2]) ⟨_, _, rfl, U⟩ rfl (Ev.nil)) rfl rfl aG rfl fun aW aX aH a w V b c => ?_
  refine sl [.p,.e,.q,.s,.f 2,.b 0,.l 75 4,.p,.e] c b fun a b => ?_
  obtain ⟨aD, A, l⟩ := B4 l
  refine W.cut (fun a w => ∃ o B C v p n, ah.Le n ∧ o = aD ∧ Ev 1 (RL 1 (RI .i64)) n p o ∧ o.length = v ∧ Rep a 52 [(1, pp K), (3, .slice B v C), (5, pp Y), (9, .slice q x0.Trains.length u), (10, vi ((x0.Trains).length : Int)), (11, vi ((P : Nat) : Int))] ∧ St w n (pc Y #[vi d.No, vi d.Stock, .slice ae d.Stops.length af, .slice aA d.Legs.length aB] 72 :: B2 28 1 B C v p :: pc K #[.slice q x0.Trains.length u, .slice H x0.Turns.length I] 25 :: R)) ?_ ?_
  ·refine W.block ?_
   refine W.loop (fun m a w => ∃ g Z o B C v p n, g.length = m ∧ d.Stops.drop Z = g ∧ ah.Le n ∧ E5.loop2 g o = some aD ∧ Ev 1 (RL 1 (RI .i64)) n p o ∧ o.length = v ∧ Rep a 52 [(1, pp K), (3, .slice B v C), (5, pp Y), (9, .slice q x0.Trains.length u), (10, vi ((x0.Trains).length : Int)), (11, vi ((P : Nat) : Int)), (24, .slice ae d.Stops.length af), (25, vi ((d.Stops).length : Int)), (26, vi ((Z : Nat) : Int))] ∧ St w n (pc Y #[vi d.No, vi d.Stock, .slice ae d.Stops.length af, .slice aA d.Legs.length aB] 72 :: B2 28 1 B C v p :: pc K #[.slice q x0.Trains.length u, .slice H x0.Turns.length I] 25 :: R)) (m := d.Stops.length) ⟨d.Stops, 0, aC, aW, aX, aC.length, aH, ah, rfl, rfl, lr, A, V, (rfl), b.pk, c⟩ ?_
   clear b c a w A; rintro a5 a w ⟨g, Z, o, B, C, v, p, n, rfl, N, k, A, J, rfl, b, c⟩
   refine W.gen fun a6 aa => ?_
   obtain ⟨h, E, G, U⟩ := m4 k h E G U
   obtain ⟨V, i⟩ := m2 k V i
   rcases g with _ | ⟨f, g⟩
   ·have ai := E8 N
    refine sg [.s,.p,.e,.q] c b fun a b => ?_
    refine W.condF b rfl (decide_eq_false (by omega)) ?_
    subst aa
    refine W.exit rfl ?_
    exact ⟨o, B, C, o.length, p, n, k, oi A, J, rfl, b.pk, c⟩
   obtain ⟨ai, an, N⟩ := C3 N
   rw [E5.loop2] at A
   refine sg [.s,.p,.e,.q] c b fun a b => ?_
   refine W.condT b rfl (decide_eq_true (by omega)) ?_
   obtain ⟨a1, a2, ap, aY⟩ := E.at an
   subst ap
   refine sg [.k,.q,.o,.s,.x 75,.h] c b fun a b => ?_
   refine al b c a3O fun a7 a w b c => ?_
   refine so [.A 0,.e,.r,.p,.f 0,.b 0,.f 1,.b 0,.f 2,.b 0,.f 3,.b 0] c b fun a w b c => ?_
   refine WL.lit b c (e := 3) (es := 1) (vs := [(0, vi f.Station), (1, vi f.Track), (2, vi f.Arr), (3, vi f.Dep)]) (cs := [vi f.Station, vi f.Track, vi f.Arr, vi f.Dep]) (A0 rfl) rfl (by kernel_rfl) rfl fun X a w b c => ?_
   replace c := c.ptVec (es := 1) (m := 4) rfl (by decide)
   have aI : Ev 1 (RI .i64) n [vi f.Station, vi f.Track, vi f.Arr, vi f.Dep] [f.Station, f.Track, f.Arr, f.Dep] := (Ev.cons (c1 := [vi f.Station]) rfl rfl (Ev.cons (c1 := [vi f.Track]) rfl rfl (Ev.cons (c1 := [vi f.Arr]) rfl rfl (Ev.cons (c1 := [vi f.Dep]) rfl rfl (Ev.nil)))))
   have hF := c.fixD RI.mono 0 rfl aI (rfl); clear c; obtain ⟨aJ, O, c, aK⟩ := hF
   obtain ⟨h, E, G, J⟩ := m4 O h E G J
   replace i := m1 O i
   refine WL.lit b c (e := 28) (es := 1) (vs := [(0, .slice (some ⟨X, 0, none⟩) 4 4)]) (cs := [.slice (some ⟨X, 0, none⟩) 4 4]) (A0 rfl) rfl (by kernel_rfl) rfl fun a8 a w b c => ?_
   obtain ⟨aj, aq, A⟩ := B4 A
   refine WL.appD b c 2 (m := 1) (A0 rfl) rfl rfl rfl a9F rfl J rfl (xs := [[f.Station, f.Track, f.Arr, f.Dep]]) (Ev.cons (c1 := [.slice (some ⟨X, 0, none⟩) 4 4]) ⟨_, _, rfl, aK⟩ rfl (Ev.nil)) rfl rfl aq rfl fun aL aM ar a w aN b c => ?_
   have := E.small
   refine so [.p,.e,.r,.i,.p,.e,.D 0] c b fun a w b c => ?_
   subst aa
   exact ⟨g.length, b2p _, g, Z + 1, aj, aL, aM, aj.length, ar, aJ, rfl, N, (Sg.Le.trans k O), A, aN, (rfl), b.pk, c⟩
  clear b c a w; rintro a w ⟨o, B, C, v, p, n, k, rfl, J, rfl, b, c⟩
  obtain ⟨h, E, G, U⟩ := m4 k h E G U
  obtain ⟨V, i⟩ := m2 k V i
  refine sg [.r,.p,.f 3,.b 0] c b fun a b => ?_
  obtain ⟨ak, au, l⟩ := B4 l
  refine WL.appS b c 1 (A0 rfl) rfl rfl (xs := d.Legs) rfl rfl a9F RL.one J rfl G au rfl fun aO aP av a w aQ b c => ?_
  have := h.small
  refine so [.p,.e,.r,.i,.p,.e,.D 0] c b fun a w b c => ?_
  subst ad
  exact ⟨j.length, b2p _, j, P + 1, ak, aO, aP, ak.length, av, n, rfl, S, (Sg.Le.trans (Sg.Le.trans D T) k), l, aQ, (rfl), b.pk, c⟩
 clear b c a w; rintro a w ⟨y, L, M, F, z, x, D, rfl, Q, rfl, b, c⟩
 obtain ⟨h, i⟩ := m2 D h i
 refine sg [.s,.p,.f 1,.b 1] c b fun a b => ?_
 obtain ⟨aR, aw, hr⟩ := B4 hr
 refine WL.appS b c 0 (A0 rfl) rfl rfl (xs := x0.Turns) rfl rfl a9F RL.one Q rfl i aw rfl fun aS aT ax a w aU b c => ?_
 refine sl [.p,.e] c b fun a b => ?_
 refine W.ret ?_
 refine fg [_] b ?_
 obtain rfl := oi hr
 replace c := c.dropAt 1
 exact ⟨aS, aT, aR.length, ax, x, rfl, D, aU, (rfl), c⟩
set_option maxHeartbeats 8000000 in
theorem I7 {w : World} {x0 x1 x2 : Int} (d : St w s (R))  {r : Bool} (i : C6 x0 x1 x2 = r) :
  Calls b2n 25 [vi x0, vi x1, vi x2].toArray w (fun e w => e = .returned (.bool r) ∧ St w s (R)) := by
 refine enter Tryz.func25 rfl rfl rfl fun a b => ?_
 rw [C6] at i
 refine sg [.s,.p,.e,.q] d b fun a b => ?_
 obtain ⟨j, c, i⟩ := R8 i
 refine W.cut (fun a w => ∃ g, g = j ∧ Rep a 15 [(6, .bool g)] ∧ St w s (R)) ?_ ?_
 ·refine W.gen fun k h => ?_
  refine sg [.r,.p,.p,.p,.p] d b fun a b => ?_
  rcases b2o (decide (x0 ≥ x1)) with f | f
  ·replace c := iteT f c
   refine sl [.p,.p,.p,.T,.p,.e] d b fun a b => ?_
   subst h
   exact ⟨decide (x0 ≤ x2), c, b.pk, d⟩
  replace c := iteF f c
  refine sl [.O,.O,.O,.N,.p,.e] d b fun a b => ?_
  subst h
  exact ⟨false, c, b.pk, d⟩
 clear b d a w; rintro a w ⟨g, rfl, b, d⟩
 refine W.ret ?_
 refine fg [_] b ?_
 subst i
 exact ⟨rfl, d⟩
end Go.Proofs.YthllfhmpjclplaaGreatDoor
