/- The walks of the functions that TopTicketed reaches: each call comes to what its mirror says. The conditions are those of each contract. -/
import Derived.Test.YtngamgkmhgmmjaaGreatDoorProg
import Derived.Test.YtngamgkmhgmmjaaGreatDoorTopTicketedM
import Derived.Test.YtngamgkmhgmmjaaGreatDoorFpAllT
import Derived.Test.YtngamgkmhgmmjaaGreatDoorTopTicketedS
import Derived.Test.YtngamgkmhgmmjaaGreatDoorFpErr
import Derived.Test.YtngamgkmhgmmjaaGreatDoorFpFld
import Derived.Test.YtngamgkmhgmmjaaGreatDoorFpPan
import Derived.Test.YtngamgkmhgmmjaaGreatDoorFpRgn
set_option maxRecDepth 10000
namespace Go.Proofs.YtngamgkmhgmmjaaGreatDoor
open Go Go.Fp
theorem ap23 : apOk Tryz.prog 23 37 1 = true := by kernel_rfl
theorem ap37 : apOk Tryz.prog 37 3 1 = true := by kernel_rfl
theorem bd10 : bodied Tryz.prog 10 = true := by kernel_rfl
theorem bd100 : bodied Tryz.prog 100 = true := by kernel_rfl
theorem bd101 : bodied Tryz.prog 101 = true := by kernel_rfl
theorem bd107 : bodied Tryz.prog 107 = true := by kernel_rfl
theorem bd11 : bodied Tryz.prog 11 = true := by kernel_rfl
theorem bd12 : bodied Tryz.prog 12 = true := by kernel_rfl
theorem bd13 : bodied Tryz.prog 13 = true := by kernel_rfl
theorem bd14 : bodied Tryz.prog 14 = true := by kernel_rfl
theorem bd15 : bodied Tryz.prog 15 = true := by kernel_rfl
theorem bd16 : bodied Tryz.prog 16 = true := by kernel_rfl
theorem bd17 : bodied Tryz.prog 17 = true := by kernel_rfl
theorem bd18 : bodied Tryz.prog 18 = true := by kernel_rfl
theorem bd19 : bodied Tryz.prog 19 = true := by kernel_rfl
theorem bd20 : bodied Tryz.prog 20 = true := by kernel_rfl
theorem bd21 : bodied Tryz.prog 21 = true := by kernel_rfl
theorem bd23 : bodied Tryz.prog 23 = true := by kernel_rfl
theorem bd24 : bodied Tryz.prog 24 = true := by kernel_rfl
theorem bd25 : bodied Tryz.prog 25 = true := by kernel_rfl
theorem bd26 : bodied Tryz.prog 26 = true := by kernel_rfl
theorem bd27 : bodied Tryz.prog 27 = true := by kernel_rfl
theorem bd28 : bodied Tryz.prog 28 = true := by kernel_rfl
theorem bd29 : bodied Tryz.prog 29 = true := by kernel_rfl
theorem bd30 : bodied Tryz.prog 30 = true := by kernel_rfl
theorem bd31 : bodied Tryz.prog 31 = true := by kernel_rfl
theorem bd32 : bodied Tryz.prog 32 = true := by kernel_rfl
theorem bd33 : bodied Tryz.prog 33 = true := by kernel_rfl
theorem bd34 : bodied Tryz.prog 34 = true := by kernel_rfl
theorem bd35 : bodied Tryz.prog 35 = true := by kernel_rfl
theorem bd36 : bodied Tryz.prog 36 = true := by kernel_rfl
theorem bd37 : bodied Tryz.prog 37 = true := by kernel_rfl
theorem bd38 : bodied Tryz.prog 38 = true := by kernel_rfl
theorem bd4 : bodied Tryz.prog 4 = true := by kernel_rfl
theorem bd41 : bodied Tryz.prog 41 = true := by kernel_rfl
theorem bd42 : bodied Tryz.prog 42 = true := by kernel_rfl
theorem bd43 : bodied Tryz.prog 43 = true := by kernel_rfl
theorem bd44 : bodied Tryz.prog 44 = true := by kernel_rfl
theorem bd45 : bodied Tryz.prog 45 = true := by kernel_rfl
theorem bd46 : bodied Tryz.prog 46 = true := by kernel_rfl
theorem bd48 : bodied Tryz.prog 48 = true := by kernel_rfl
theorem bd49 : bodied Tryz.prog 49 = true := by kernel_rfl
theorem bd5 : bodied Tryz.prog 5 = true := by kernel_rfl
theorem bd50 : bodied Tryz.prog 50 = true := by kernel_rfl
theorem bd51 : bodied Tryz.prog 51 = true := by kernel_rfl
theorem bd52 : bodied Tryz.prog 52 = true := by kernel_rfl
theorem bd53 : bodied Tryz.prog 53 = true := by kernel_rfl
theorem bd54 : bodied Tryz.prog 54 = true := by kernel_rfl
theorem bd55 : bodied Tryz.prog 55 = true := by kernel_rfl
theorem bd56 : bodied Tryz.prog 56 = true := by kernel_rfl
theorem bd6 : bodied Tryz.prog 6 = true := by kernel_rfl
theorem bd68 : bodied Tryz.prog 68 = true := by kernel_rfl
theorem bd69 : bodied Tryz.prog 69 = true := by kernel_rfl
theorem bd7 : bodied Tryz.prog 7 = true := by kernel_rfl
theorem bd70 : bodied Tryz.prog 70 = true := by kernel_rfl
theorem bd71 : bodied Tryz.prog 71 = true := by kernel_rfl
theorem bd72 : bodied Tryz.prog 72 = true := by kernel_rfl
theorem bd73 : bodied Tryz.prog 73 = true := by kernel_rfl
theorem bd75 : bodied Tryz.prog 75 = true := by kernel_rfl
theorem bd76 : bodied Tryz.prog 76 = true := by kernel_rfl
theorem bd77 : bodied Tryz.prog 77 = true := by kernel_rfl
theorem bd78 : bodied Tryz.prog 78 = true := by kernel_rfl
theorem bd79 : bodied Tryz.prog 79 = true := by kernel_rfl
theorem bd8 : bodied Tryz.prog 8 = true := by kernel_rfl
theorem bd80 : bodied Tryz.prog 80 = true := by kernel_rfl
theorem bd87 : bodied Tryz.prog 87 = true := by kernel_rfl
theorem bd88 : bodied Tryz.prog 88 = true := by kernel_rfl
theorem bd9 : bodied Tryz.prog 9 = true := by kernel_rfl
theorem bd93 : bodied Tryz.prog 93 = true := by kernel_rfl
theorem bd95 : bodied Tryz.prog 95 = true := by kernel_rfl
theorem bd96 : bodied Tryz.prog 96 = true := by kernel_rfl
theorem bd97 : bodied Tryz.prog 97 = true := by kernel_rfl
theorem bd98 : bodied Tryz.prog 98 = true := by kernel_rfl
theorem bd99 : bodied Tryz.prog 99 = true := by kernel_rfl
theorem bl4 : isBl Tryz.prog 4 = true := by kernel_rfl
theorem fd44_0 : fdOk Tryz.prog 44 0 0 3 = true := by kernel_rfl
theorem fd44_2 : fdOk Tryz.prog 44 2 2 3 = true := by kernel_rfl
theorem fd44_3 : fdOk Tryz.prog 44 3 3 3 = true := by kernel_rfl
theorem fl25_0 : fldOk Tryz.prog 25 0 0 = true := by kernel_rfl
theorem fl25_1 : fldOk Tryz.prog 25 1 1 = true := by kernel_rfl
theorem fl28_0 : fldOk Tryz.prog 28 0 0 = true := by kernel_rfl
theorem fl32_0 : fldOk Tryz.prog 32 0 0 = true := by kernel_rfl
theorem fl32_1 : fldOk Tryz.prog 32 1 1 = true := by kernel_rfl
theorem fl32_2 : fldOk Tryz.prog 32 2 2 = true := by kernel_rfl
theorem fl32_3 : fldOk Tryz.prog 32 3 3 = true := by kernel_rfl
theorem fl39_0 : fldOk Tryz.prog 39 0 0 = true := by kernel_rfl
theorem fl39_1 : fldOk Tryz.prog 39 1 1 = true := by kernel_rfl
theorem fl39_2 : fldOk Tryz.prog 39 2 2 = true := by kernel_rfl
theorem fl42_0 : fldOk Tryz.prog 42 0 0 = true := by kernel_rfl
theorem fl42_1 : fldOk Tryz.prog 42 1 1 = true := by kernel_rfl
theorem fl42_2 : fldOk Tryz.prog 42 2 2 = true := by kernel_rfl
theorem fl42_3 : fldOk Tryz.prog 42 3 3 = true := by kernel_rfl
theorem fl44_0 : fldOk Tryz.prog 44 0 0 = true := by kernel_rfl
theorem fl44_1 : fldOk Tryz.prog 44 1 1 = true := by kernel_rfl
theorem fl44_2 : fldOk Tryz.prog 44 2 2 = true := by kernel_rfl
theorem fl44_3 : fldOk Tryz.prog 44 3 3 = true := by kernel_rfl
theorem fl54_0 : fldOk Tryz.prog 54 0 0 = true := by kernel_rfl
theorem fl54_1 : fldOk Tryz.prog 54 1 1 = true := by kernel_rfl
theorem fl54_2 : fldOk Tryz.prog 54 2 2 = true := by kernel_rfl
theorem fl54_3 : fldOk Tryz.prog 54 3 3 = true := by kernel_rfl
theorem fl54_4 : fldOk Tryz.prog 54 4 4 = true := by kernel_rfl
theorem fl54_5 : fldOk Tryz.prog 54 5 5 = true := by kernel_rfl
theorem fl56_0 : fldOk Tryz.prog 56 0 0 = true := by kernel_rfl
theorem fl56_1 : fldOk Tryz.prog 56 1 1 = true := by kernel_rfl
theorem fl56_2 : fldOk Tryz.prog 56 2 2 = true := by kernel_rfl
theorem fl62_0 : fldOk Tryz.prog 62 0 0 = true := by kernel_rfl
theorem fl62_1 : fldOk Tryz.prog 62 1 1 = true := by kernel_rfl
theorem fl62_2 : fldOk Tryz.prog 62 2 2 = true := by kernel_rfl
theorem fl62_3 : fldOk Tryz.prog 62 3 3 = true := by kernel_rfl
theorem fl62_4 : fldOk Tryz.prog 62 4 4 = true := by kernel_rfl
theorem fl62_5 : fldOk Tryz.prog 62 5 5 = true := by kernel_rfl
theorem fl86_0 : fldOk Tryz.prog 86 0 0 = true := by kernel_rfl
theorem fl86_1 : fldOk Tryz.prog 86 1 2 = true := by kernel_rfl
theorem fl94_0 : fldOk Tryz.prog 94 0 0 = true := by kernel_rfl
theorem fl94_1 : fldOk Tryz.prog 94 1 1 = true := by kernel_rfl
theorem fl97_0 : fldOk Tryz.prog 97 0 0 = true := by kernel_rfl
theorem fl97_1 : fldOk Tryz.prog 97 1 1 = true := by kernel_rfl
theorem fl97_2 : fldOk Tryz.prog 97 2 2 = true := by kernel_rfl
theorem fl97_3 : fldOk Tryz.prog 97 3 3 = true := by kernel_rfl
theorem fl99_0 : fldOk Tryz.prog 99 0 0 = true := by kernel_rfl
theorem fl99_1 : fldOk Tryz.prog 99 1 4 = true := by kernel_rfl
theorem fl99_2 : fldOk Tryz.prog 99 2 5 = true := by kernel_rfl
theorem fl99_3 : fldOk Tryz.prog 99 3 6 = true := by kernel_rfl
theorem hu5 : (Tryz.prog.underlying 5).isSome = true := by kernel_rfl
theorem if153 : ifOk Tryz.prog 153 = true := by kernel_rfl
theorem ifc131 : ifcOk Tryz.prog 131 = true := by kernel_rfl
theorem mixed : Tryz.prog.follows .mixedOrders = true := by kernel_rfl
theorem mp138 : mpOk Tryz.prog keyI.ok 138 3 4 = true := by kernel_rfl
theorem se56 : stEqB Tryz.prog 56 [.i .i64, .i .i64, .i .i64] = true := by kernel_rfl
theorem sl135 : slOk Tryz.prog 135 9 1 = true := by kernel_rfl
theorem sl22 : slOk Tryz.prog 22 42 4 = true := by kernel_rfl
theorem sl23 : slOk Tryz.prog 23 37 1 = true := by kernel_rfl
theorem sl26 : slOk Tryz.prog 26 39 3 = true := by kernel_rfl
theorem sl29 : slOk Tryz.prog 29 94 2 = true := by kernel_rfl
theorem sl30 : slOk Tryz.prog 30 99 7 = true := by kernel_rfl
theorem sl37 : slOk Tryz.prog 37 3 1 = true := by kernel_rfl
theorem sl40 : slOk Tryz.prog 40 44 4 = true := by kernel_rfl
theorem sl95 : slOk Tryz.prog 95 97 4 = true := by kernel_rfl
theorem st9 : stOk Tryz.prog 9 = true := by kernel_rfl
theorem ty22 : tyOk Tryz.prog 22 false 1 = true := by kernel_rfl
theorem ty23 : tyOk Tryz.prog 23 false 1 = true := by kernel_rfl
theorem ty25 : tyOk Tryz.prog 25 true 2 = true := by kernel_rfl
theorem ty26 : tyOk Tryz.prog 26 false 1 = true := by kernel_rfl
theorem ty28 : tyOk Tryz.prog 28 true 1 = true := by kernel_rfl
theorem ty29 : tyOk Tryz.prog 29 false 1 = true := by kernel_rfl
theorem ty3 : tyOk Tryz.prog 3 false 1 = true := by kernel_rfl
theorem ty30 : tyOk Tryz.prog 30 false 1 = true := by kernel_rfl
theorem ty32 : tyOk Tryz.prog 32 true 4 = true := by kernel_rfl
theorem ty37 : tyOk Tryz.prog 37 false 1 = true := by kernel_rfl
theorem ty39 : tyOk Tryz.prog 39 true 3 = true := by kernel_rfl
theorem ty4 : tyOk Tryz.prog 4 false 1 = true := by kernel_rfl
theorem ty40 : tyOk Tryz.prog 40 false 1 = true := by kernel_rfl
theorem ty42 : tyOk Tryz.prog 42 true 4 = true := by kernel_rfl
theorem ty44 : tyOk Tryz.prog 44 true 4 = true := by kernel_rfl
theorem ty54 : tyOk Tryz.prog 54 true 6 = true := by kernel_rfl
theorem ty56 : tyOk Tryz.prog 56 true 3 = true := by kernel_rfl
theorem ty62 : tyOk Tryz.prog 62 true 6 = true := by kernel_rfl
theorem ty86 : tyOk Tryz.prog 86 true 3 = true := by kernel_rfl
theorem ty9 : tyOk Tryz.prog 9 false 1 = true := by kernel_rfl
theorem ty94 : tyOk Tryz.prog 94 true 2 = true := by kernel_rfl
theorem ty95 : tyOk Tryz.prog 95 false 1 = true := by kernel_rfl
theorem ty97 : tyOk Tryz.prog 97 true 4 = true := by kernel_rfl
theorem ty99 : tyOk Tryz.prog 99 true 7 = true := by kernel_rfl
theorem ui3 : Tryz.prog.underlying 3 = some (.int .i64) := by kernel_rfl
theorem zm4 : (Tryz.prog.info? 4).bind (fun i => i.zero) = some (Value.bool false) := by kernel_rfl
theorem zr158 : (Tryz.prog.info? 158).bind (fun i => i.zero.map fun z => z.cells.toList) = some [.pointer none, .slice none 0 0] := by kernel_rfl
theorem zr3 : (Tryz.prog.info? 3).bind (fun i => i.zero.map fun z => z.cells.toList) = some [.int .i64 0] := by kernel_rfl
theorem zr39 : (Tryz.prog.info? 39).bind (fun i => i.zero.map fun z => z.cells.toList) = some [.int .i64 0, .int .i64 0, .int .i64 0] := by kernel_rfl
theorem zr4 : (Tryz.prog.info? 4).bind (fun i => i.zero.map fun z => z.cells.toList) = some [.bool false] := by kernel_rfl
theorem zr42 : (Tryz.prog.info? 42).bind (fun i => i.zero.map fun z => z.cells.toList) = some [.int .i64 0, .int .i64 0, .slice none 0 0, .slice none 0 0] := by kernel_rfl
theorem zr44 : (Tryz.prog.info? 44).bind (fun i => i.zero.map fun z => z.cells.toList) = some [.int .i64 0, .int .i64 0, .int .i64 0, .int .i64 0] := by kernel_rfl
theorem zr56 : (Tryz.prog.info? 56).bind (fun i => i.zero.map fun z => z.cells.toList) = some [.int .i64 0, .int .i64 0, .int .i64 0] := by kernel_rfl
theorem zr62 : (Tryz.prog.info? 62).bind (fun i => i.zero.map fun z => z.cells.toList) = some [.int .i64 0, .int .i64 0, .int .i64 0, .int .i64 0, .int .i64 0, .slice none 0 0] := by kernel_rfl
theorem zr94 : (Tryz.prog.info? 94).bind (fun i => i.zero.map fun z => z.cells.toList) = some [.int .i64 0, .int .i64 0] := by kernel_rfl
theorem zr97 : (Tryz.prog.info? 97).bind (fun i => i.zero.map fun z => z.cells.toList) = some [.int .i64 0, .int .i64 0, .int .i64 0, .slice none 0 0] := by kernel_rfl
theorem zr99 : (Tryz.prog.info? 99).bind (fun i => i.zero.map fun z => z.cells.toList) = some [.int .i64 0, .int .i64 0, .int .i64 0, .slice none 0 0, .int .i64 0, .int .i64 0, .bool false] := by kernel_rfl
abbrev TabX (s : Sg) : Prop := TabG Tryz.prog 0 4 5 s
theorem split_ok {w : World} {s : Sg} {R : List HP} {x y : ByteArray} {r : List ByteArray} (hS : St w s R) (hTab : TabX s) (hr : splitq x y = some r) : Calls Tryz.prog 77 [.string x, .string y].toArray w (fun e w => ∃ b cs, e = .returned (.slice (some ⟨b, 0, none⟩) r.length r.length) ∧ Ev 1 RS s cs r ∧ St w s (vecC 9 1 (some ⟨b, 0, none⟩) r.length r.length cs :: R)) := by
 obtain ⟨h0, h1, rfl⟩ := splitq_some hr
 obtain ⟨m, hm⟩ := hTab.max
 have hlen := Lib.splitB_all y h1 0 _ x rfl
 have hle := Lib.countB_le y h1 x.size x (Nat.le_refl _)
 refine (Tryz.strings_Split x y m w h0 (hm w R hS) h1).mono ?_
 rintro e w' ⟨rfl, rfl⟩
 refine ⟨w.heap.size, _, by rw [hlen], Ev.strs _, ?_⟩
 exact (hS.alloc _).ptVec (by simp) (by unfold maxLen; omega)
theorem atoi_ok {w : World} {s : Sg} {R : List HP} {x : ByteArray} {r : Int × Bool} (hS : St w s R) (hTab : TabX s) (hr : atoiq x = some r) : Calls Tryz.prog 95 [.string x].toArray w (fun e w => ∃ v, e = .returned (.tuple #[.int .i64 r.1, v]) ∧ ErrV v r.2 ∧ St w s R) := by
 unfold atoiq at hr
 split at hr
 ·rename_i hz
  injection hr with hr
  subst hr
  cases h : Lib.atoiAll x.data.toList with
  | ok v =>
   refine (Tryz.strconv_Atoi_ok x (by omega) v h w).mono ?_
   rintro e w' ⟨rfl, hw⟩
   refine ⟨_, rfl, rfl, ?_⟩
   rcases hw with rfl | ⟨t, rfl⟩
   ·exact hS
   ·exact hS.frozen _ _
  | range =>
   obtain ⟨ev, h1, h2⟩ := hTab.ran
   refine (Tryz.strconv_Atoi_range x (by omega) h ev w (h1 w R hS) h2).mono ?_
   rintro e w' ⟨N, rfl, _, _, hB⟩
   exact ⟨_, rfl, ⟨_, _, rfl⟩, hS.grown hB⟩
  | _ =>
   obtain ⟨ev, h1, h2⟩ := hTab.syn
   refine (Tryz.strconv_Atoi_syntax x (by omega) h ev w (h1 w R hS) h2).mono ?_
   rintro e w' ⟨N, rfl, _, _, hB⟩
   exact ⟨_, rfl, ⟨_, _, rfl⟩, hS.grown hB⟩
 ·cases hr
theorem oc_ret_75 (p : Addr) (w : World) : CallsDIn Fence.wide 0 Tryz.prog 75 #[.pointer (some p)] .returning w fun e u' w' => e = .returned (.tuple #[]) ∧ u' = .returning ∧ w' = w := by
 refine callsDIn_of_wpSIn Tryz.func75 rfl trivial fun c₀ cs hu => ?_
 apply wpSIn_seq
 apply wpSIn_region
 simp [wpOpsSIn, go_sem, recoverD, hu, Tryz.ntmps75, Exit.thenS, Fence.wide]
 apply wpSIn_seq
 apply wpSIn_region
 simp [wpOpsSIn, go_sem, Tryz.ntmps75, Exit.thenS, Fence.wide]
 refine wpSIn_cond (t := false) (by simp [Act.eval, Array.replicate]) ?_
 simp only [Bool.false_eq_true, if_false]
 refine wpSIn_of_wpIn rfl (wpIn_skip ?_)
 cases c₀
 simp_all [bodyPostS, results, Tryz.results75]
theorem oc_pan_75 (b : Nat) (w : World) (x : Bool) (hc : w.cell? ⟨b, 0, none⟩ = some (.bool x)) (hz : w.frozen? ⟨b, 0, none⟩ = false) : CallsDIn Fence.wide 0 Tryz.prog 75 #[.pointer (some ⟨b, 0, none⟩)] (.panicking [{ v := .iface 131 (.agg #[]), recovered := false }]) w fun e u' w' => e = .returned (.tuple #[]) ∧ u' = .panicking [{ v := .iface 131 (.agg #[]), recovered := true }] ∧ ∃ o, w' = (w.alloc o).setCell ⟨b, 0, none⟩ (.bool false) := by
 have hta : ∀ w : World, (Instr.typeAssert (.iface 131 (.agg #[])) 20 131 true).run Tryz.prog w = .ok (.tuple #[.agg #[], .bool true]) w := fun _ => rfl
 have hst : ∀ (a : Addr) (w : World), (storeCells a []).run Tryz.prog w = .ok () w := fun _ _ => rfl
 refine callsDIn_of_wpSIn Tryz.func75 rfl trivial fun c₀ cs hu => ?_
 apply wpSIn_seq
 apply wpSIn_region
 simp [wpOpsSIn, go_sem, recoverD, hu, Tryz.ntmps75, Exit.thenS, Fence.wide]
 apply wpSIn_seq
 apply wpSIn_region
 simp [wpOpsSIn, go_sem, Exit.thenS]
 refine wpSIn_cond (t := true) (by simp [Act.eval, Array.replicate]) ?_
 simp only [if_true]
 apply wpSIn_seq
 apply wpSIn_seq
 apply wpSIn_region
 simp [wpOpsSIn, go_sem, Exit.thenS, hta, hst]
 apply wpSIn_seq
 apply wpSIn_region
 simp [wpOpsSIn, go_sem, Exit.thenS]
 refine wpSIn_cond (t := false) (by simp [Act.eval, Array.replicate]) ?_
 simp only [Bool.false_eq_true, if_false]
 refine wpSIn_of_wpIn rfl (wpIn_skip ?_)
 simp only [Exit.thenS]
 apply wpSIn_region
 have hb : b < w.heap.size := World.block_lt_of_cell? _ _ hc
 have hc2 : ∀ o, (w.alloc o).cell? ⟨b, 0, none⟩ = some (.bool x) := fun o => by rw [World.cell?_alloc_old _ _ _ (Nat.ne_of_lt hb)]; exact hc
 have hz2 : ∀ o, (w.alloc o).frozen? ⟨b, 0, none⟩ = false := fun o => by
  have e : (w.alloc o).heap[b]? = w.heap[b]? := heap_alloc_old _ _ hb
  unfold World.frozen? at hz ⊢
  simp only at hz ⊢
  rw [e]
  exact hz
 simp [wpOpsSIn, go_sem, bodyPostS, results, Tryz.results75, hc2, hz2]
 exact ⟨_, rfl⟩
theorem sbmixed : Tryz.prog.follows .mixedOrders = true := by kernel_rfl
theorem sbty60 : tyOk Tryz.prog 156 false 1 = true := by kernel_rfl
theorem sbty61 : tyOk Tryz.prog 148 false 1 = true := by kernel_rfl
theorem sbfl0 : fldOk Tryz.prog 158 0 0 = true := by kernel_rfl
theorem sbfl1 : fldOk Tryz.prog 158 1 1 = true := by kernel_rfl
theorem sbap : apOk Tryz.prog 148 5 1 = true := by kernel_rfl
theorem sbsl : slOk Tryz.prog 148 5 1 = true := by kernel_rfl
theorem sbpt : ptOk Tryz.prog 156 158 = true := by kernel_rfl
theorem sbu60 : Tryz.prog.underlying 156 = some (.pointer 158) := by kernel_rfl
theorem sbu77 : Tryz.prog.underlying 180 = some .unsafePointer := by kernel_rfl
theorem sbu76 : Tryz.prog.underlying 171 = some (.pointer 5) := by kernel_rfl
theorem sbu9 : Tryz.prog.underlying 9 = some .string := by kernel_rfl
theorem sbst : stOk Tryz.prog 9 = true := by kernel_rfl
theorem sbc : Tryz.prog.cellsOf 158 = 2 := by kernel_rfl
theorem sbc5 : Tryz.prog.cellsOf 5 = 1 := by kernel_rfl
theorem sbi0 : (Tryz.prog.info? 158).map (·.size) = some 2 := by kernel_rfl
theorem sbi : ∃ j, Tryz.prog.info? 158 = some j ∧ j.size ≠ 0 := by
 have h := sbi0
 rw [Option.map_eq_some_iff] at h
 obtain ⟨j, h1, h2⟩ := h
 exact ⟨j, h1, by omega⟩
theorem sbsame : sameOk Tryz.prog 125 := ⟨_, rfl, by kernel_rfl, by kernel_rfl, by kernel_rfl, by kernel_rfl⟩
theorem sbbd : bodied Tryz.prog 113 = true := by kernel_rfl
section
variable {w : World} {s : Sg} {R : List HP} {b : Nat} {y : ByteArray}
theorem sbCheck_ok {f a : Option Addr} {c : Nat} (hf : f = none ∨ f = some ⟨b, 0, none⟩) (hS : St w s (pt b (.cells [.pointer f, .slice a y.size c].toArray 158 (0, 0)) :: R)) :
  Calls Tryz.prog 113 [.pointer (some ⟨b, 0, none⟩)].toArray w (fun e w => e = .returned (.tuple #[]) ∧ St w s (pt b (.cells [.pointer (some ⟨b, 0, none⟩), .slice a y.size c].toArray 158 (0, 0)) :: R)) := by
 obtain ⟨j, hj1, hj2⟩ := sbi
 refine enter Tryz.func113 rfl rfl rfl fun a hE => ?_
 refine W.seq (W.region ?_)
 refine vP hS hE (Gives.p hE rfl) rfl ?_; clear hE a; intro a hE
 refine vP hS hE (Gives.nilOk hE rfl) rfl ?_; clear hE a; intro a hE
 refine vP hS hE (Gives.fld hE rfl sbfl0) rfl ?_; clear hE a; intro a hE
 refine vP hS hE (Gives.loadB hE 0 rfl rfl rfl sbty60) rfl ?_; clear hE a; intro a hE
 refine vP hS hE (Gives.isNilP hE rfl rfl sbpt) rfl ?_; clear hE a; intro a hE
 refine WL.nil ?_
 refine W.cond hE rfl (fun hc => ?_) (fun hc => ?_)
 ·refine W.region ?_
  refine vP hS hE (Gives.p hE rfl) rfl ?_; clear hE a; intro a hE
  refine vP hS hE (Gives.p hE rfl) rfl ?_; clear hE a; intro a hE
  refine vP hS hE (Gives.toUnsafe hE 0 rfl rfl rfl sbu60 sbu77 hj1 hj2) rfl ?_; clear hE a; intro a hE
  refine WL.same hE sbsame (runs_plain rfl) rfl rfl ?_; clear hE a; intro a hE
  refine vP hS hE (Gives.fromUnsafe hE 0 rfl rfl sbu77 sbu60 hj1 sbc rfl) rfl ?_; clear hE a; intro a hE
  refine vP hS hE (Gives.nilOk hE rfl) rfl ?_; clear hE a; intro a hE
  refine vP hS hE (Gives.fld hE rfl sbfl0) rfl ?_; clear hE a; intro a hE
  refine WL.storeI hE hS 0 rfl _ (runs_plain rfl) rfl rfl rfl sbty60 rfl rfl rfl rfl ?_; clear hE hS a; intro a w hE hS
  refine WL.nil ?_
  refine fin0 hE rfl ?_
  exact ⟨rfl, hS⟩
 ·have hf' : f = some ⟨b, 0, none⟩ := by
   rcases hf with rfl | h
   ·cases hc
   ·exact h
  subst hf'
  refine W.seq (W.region ?_)
  refine vP hS hE (Gives.p hE rfl) rfl ?_; clear hE a; intro a hE
  refine vP hS hE (Gives.nilOk hE rfl) rfl ?_; clear hE a; intro a hE
  refine vP hS hE (Gives.fld hE rfl sbfl0) rfl ?_; clear hE a; intro a hE
  refine vP hS hE (Gives.loadB hE 0 rfl rfl rfl sbty60) rfl ?_; clear hE a; intro a hE
  refine vP hS hE (Gives.p hE rfl) rfl ?_; clear hE a; intro a hE
  refine vP hS hE (Gives.neqSame hE rfl rfl sbu60 hj1) rfl ?_; clear hE a; intro a hE
  refine WL.nil ?_
  refine W.condF hE rfl rfl ?_
  refine W.skip ?_
  refine fin0 hE rfl ?_
  exact ⟨rfl, hS⟩

theorem sbWrite_ok {x r : ByteArray} (hS : St w s (sbC 158 5 b y :: R)) (hr : sbw y x = some r) :
  Calls Tryz.prog 99 [.pointer (some ⟨b, 0, none⟩), .string x].toArray w (fun e w => e = .returned (.tuple #[.int .i64 x.size, .nilIface]) ∧ St w s (sbC 158 5 b r :: R)) := by
 obtain ⟨h1, h2, rfl⟩ := sbw_some hr
 obtain ⟨f, sa, c, hf, ha, hS⟩ := hS.sbOpen
 refine enter Tryz.func99 rfl rfl rfl fun a hE => ?_
 refine W.seq (W.region ?_)
 refine vP hS hE (Gives.p hE rfl) rfl ?_; clear hE a; intro a hE
 refine vP hS hE (Gives.p hE rfl) rfl ?_; clear hE a; intro a hE
 refine WL.nil ?_
 refine W.seq (W.region ?_)
 refine vP hS hE (Gives.p hE rfl) rfl ?_; clear hE a; intro a hE
 refine WL.fnq hE (sbCheck_ok hf hS) (runs_plain rfl) sbbd rfl rfl rfl ?_
 clear hE hS; rintro e w ⟨rfl, hS⟩; refine ⟨_, rfl, ?_⟩; clear a; intro a hE
 refine WL.nil ?_
 refine W.seq (W.region ?_)
 refine vP hS hE (Gives.p hE rfl) rfl ?_; clear hE a; intro a hE
 refine vP hS hE (Gives.p hE rfl) rfl ?_; clear hE a; intro a hE
 refine vP hS hE (Gives.nilOk hE rfl) rfl ?_; clear hE a; intro a hE
 refine vP hS hE (Gives.fld hE rfl sbfl1) rfl ?_; clear hE a; intro a hE
 refine vP hS hE (Gives.loadB hE 0 rfl rfl rfl sbty61) rfl ?_; clear hE a; intro a hE
 refine vP hS hE (Gives.p hE rfl) rfl ?_; clear hE a; intro a hE
 refine WL.appStr hE hS 1 (runs_plain rfl) rfl rfl rfl sbap sbu9 h1 h2 ha.1 rfl ?_; clear hE hS a ha; intro sa2 c2 a w ha hE hS
 refine vP hS hE (Gives.nilOk hE rfl) rfl ?_; clear hE a; intro a hE
 refine vP hS hE (Gives.fld hE rfl sbfl1) rfl ?_; clear hE a; intro a hE
 refine WL.storeI hE hS 0 rfl _ (runs_plain rfl) rfl rfl rfl sbty61 rfl rfl rfl rfl ?_; clear hE hS a; intro a w hE hS
 refine WL.nil ?_
 refine W.seq (W.region ?_)
 refine vP hS hE (Gives.p hE rfl) rfl ?_; clear hE a; intro a hE
 refine vP hS hE (Gives.lenS hE rfl sbst) rfl ?_; clear hE a; intro a hE
 refine vP hS hE (Gives.p hE rfl) rfl ?_; clear hE a; intro a hE
 refine vP hS hE (Gives.p hE rfl) rfl ?_; clear hE a; intro a hE
 refine WL.nil ?_
 refine W.ret ?_
 refine finG (fn := Tryz.f99) (rs := [.tmp 4, .tmp 5]) (vs := [_, _]) hE rfl ⟨rfl, rfl, trivial⟩ ?_
 refine ⟨rfl, St.sbClose (f := some ⟨b, 0, none⟩) (a := sa2) (c := c2) (.inr rfl) ha ?_⟩
 rw [ByteArray.size_append, byteCells_app]
 exact hS

theorem sbString_ok (hS : St w s (sbC 158 5 b y :: R)) :
  Calls Tryz.prog 101 [.pointer (some ⟨b, 0, none⟩)].toArray w (fun e w => e = .returned (.string y) ∧ St w s R) := by
 obtain ⟨f, sa, c, hf, ha, hS⟩ := hS.sbOpen
 refine enter Tryz.func101 rfl rfl rfl fun a hE => ?_
 refine W.seq (W.region ?_)
 refine vP hS hE (Gives.p hE rfl) rfl ?_; clear hE a; intro a hE
 refine WL.nil ?_
 refine W.seq ?_
 refine W.regionE (sel (fun w => St w s (pt b (.cells [.pointer f, .slice sa y.size c].toArray 158 (0, 0)) :: vecC 5 1 sa c y.size (byteCells y) :: R)) (fun w => St w s R)) (fun b i => cond b (!(i == 10)) true) sbmixed ?_
 replace hS := hS.drew
 refine Rg.takeP (i := 0) hE rfl (by kernel_rfl) (runs_plain rfl) (Gives.p hE rfl) rfl (tw_sel (fun _ => hS) (fun _ => hS.tail.tail)) ?_; clear hE a; intro a hE
 refine Rg.takeP (i := 5) hE rfl (by kernel_rfl) (runs_plain rfl) (Gives.p hE rfl) rfl (tw_sel (fun _ => hS) (fun _ => hS.tail.tail)) ?_; clear hE a; intro a hE
 refine Rg.takeP (i := 1) hE rfl (by kernel_rfl) (runs_plain rfl) (Gives.nilOk hE rfl) rfl (tw_sel (fun _ => hS) (fun _ => hS.tail.tail)) ?_; clear hE a; intro a hE
 refine Rg.takeP (i := 6) hE rfl (by kernel_rfl) (runs_plain rfl) (Gives.nilOk hE rfl) rfl (tw_sel (fun _ => hS) (fun _ => hS.tail.tail)) ?_; clear hE a; intro a hE
 refine Rg.takeP (i := 2) hE rfl (by kernel_rfl) (runs_plain rfl) (Gives.fld hE rfl sbfl1) rfl (tw_sel (fun _ => hS) (fun _ => hS.tail.tail)) ?_; clear hE a; intro a hE
 refine Rg.takeP (i := 7) hE rfl (by kernel_rfl) (runs_plain rfl) (Gives.fld hE rfl sbfl1) rfl (tw_sel (fun _ => hS) (fun _ => hS.tail.tail)) ?_; clear hE a; intro a hE
 refine Rg.two (i := 3) (j := 8) true true true true rfl rfl (by kernel_rfl) (by kernel_rfl) (by kernel_rfl) (by kernel_rfl) (by kernel_rfl) ?_ ?_
 ·refine vP hS hE (Gives.loadB hE 0 rfl rfl rfl sbty61) rfl ?_; clear hE a; intro a hE
  refine WL.nil ?_
  refine ⟨⟨fun _ => hS, fun _ => hS.tail.tail⟩, ?_⟩
  refine Rg.takeP (i := 4) hE rfl (by kernel_rfl) (runs_plain rfl) (Gives.sliceData hE rfl ha.2) rfl (tw_sel (fun _ => hS) (fun _ => hS.tail.tail)) ?_; clear hE a; intro a hE
  refine Rg.one (i := 8) true true rfl (by kernel_rfl) (by kernel_rfl) (by kernel_rfl) ?_
  refine vP hS hE (Gives.loadB hE 0 rfl rfl rfl sbty61) rfl ?_; clear hE a; intro a hE
  refine WL.nil ?_
  refine ⟨⟨fun _ => hS, fun _ => hS.tail.tail⟩, ?_⟩
  refine Rg.takeP (i := 9) hE rfl (by kernel_rfl) (runs_plain rfl) (Gives.len hE rfl sbsl) rfl (tw_sel (fun _ => hS) (fun _ => hS.tail.tail)) ?_; clear hE a; intro a hE
  refine Rg.one (i := 10) false true rfl (by kernel_rfl) (by kernel_rfl) (by kernel_rfl) ?_
  refine WL.sbString hE hS 1 (runs_plain rfl) rfl rfl rfl ha.1 sbu76 sbc5 rfl ?_; clear hE hS a; intro a w hE hS
  refine WL.nil ?_
  refine ⟨⟨fun h => absurd h (by decide), fun _ => hS.tail⟩, ?_⟩
  refine Rg.takeP (i := 11) hE rfl (by kernel_rfl) (runs_plain rfl) (Gives.p hE rfl) rfl (tw_sel (fun h => absurd h (by decide)) (fun _ => hS.tail)) ?_; clear hE a; intro a hE
  refine Rg.done (by kernel_rfl) ?_
  refine W.ret ?_
  refine finG (fn := Tryz.f101) (rs := [.tmp 2]) (vs := [_]) hE rfl ⟨rfl, trivial⟩ ?_
  exact ⟨rfl, hS.tail⟩
 ·refine vP hS hE (Gives.loadB hE 0 rfl rfl rfl sbty61) rfl ?_; clear hE a; intro a hE
  refine WL.nil ?_
  refine ⟨⟨fun _ => hS, fun _ => hS.tail.tail⟩, ?_⟩
  refine Rg.takeP (i := 9) hE rfl (by kernel_rfl) (runs_plain rfl) (Gives.len hE rfl sbsl) rfl (tw_sel (fun _ => hS) (fun _ => hS.tail.tail)) ?_; clear hE a; intro a hE
  refine Rg.one (i := 3) true true rfl (by kernel_rfl) (by kernel_rfl) (by kernel_rfl) ?_
  refine vP hS hE (Gives.loadB hE 0 rfl rfl rfl sbty61) rfl ?_; clear hE a; intro a hE
  refine WL.nil ?_
  refine ⟨⟨fun _ => hS, fun _ => hS.tail.tail⟩, ?_⟩
  refine Rg.takeP (i := 4) hE rfl (by kernel_rfl) (runs_plain rfl) (Gives.sliceData hE rfl ha.2) rfl (tw_sel (fun _ => hS) (fun _ => hS.tail.tail)) ?_; clear hE a; intro a hE
  refine Rg.one (i := 10) false true rfl (by kernel_rfl) (by kernel_rfl) (by kernel_rfl) ?_
  refine WL.sbString hE hS 1 (runs_plain rfl) rfl rfl rfl ha.1 sbu76 sbc5 rfl ?_; clear hE hS a; intro a w hE hS
  refine WL.nil ?_
  refine ⟨⟨fun h => absurd h (by decide), fun _ => hS.tail⟩, ?_⟩
  refine Rg.takeP (i := 11) hE rfl (by kernel_rfl) (runs_plain rfl) (Gives.p hE rfl) rfl (tw_sel (fun h => absurd h (by decide)) (fun _ => hS.tail)) ?_; clear hE a; intro a hE
  refine Rg.done (by kernel_rfl) ?_
  refine W.ret ?_
  refine finG (fn := Tryz.f101) (rs := [.tmp 2]) (vs := [_]) hE rfl ⟨rfl, trivial⟩ ?_
  exact ⟨rfl, hS.tail⟩
end
section
open Go.RowKit Go.Shelf
attribute [local go_sem] Oper.semAt_some
def itUpto {α : Type} (f : Nat → α) (k : Nat) : List α := (List.range k).map f
theorem itUpto_succ {α : Type} (f : Nat → α) (k : Nat) : itUpto f (k + 1) = itUpto f k ++ [f k] := by simp [itUpto, List.range_succ]
theorem itUpto_length {α : Type} (f : Nat → α) (k : Nat) : (itUpto f k).length = k := by simp [itUpto]
theorem itUpto_all (zs : List Int) : itUpto (fun j => zs[j]?.getD 0) zs.length = zs := by
 apply List.ext_getElem
 ·simp [itUpto]
 ·intro i h1 h2
  simp [itUpto, h2]

set_option maxRecDepth 100000 in
set_option maxHeartbeats 2000000 in
theorem itVals1_in (F : Fence) (n : Nat) (h7 : F.fn 22) (hro : F.round = none) (hn : 1 ≤ n) (l Bs n₀ b off len cap : Nat) (zs : List Int) (hreach : len * 8 ≤ 140737488351232) (hb : b < n₀) (J Jx : List Int → World → Prop)
  (hY : ∀ pre x W, J pre W → pre.length < len → YieldAt F (n - 1) Tryz.prog l #[.int .i64 x] W fun e W' =>
   (e = .returned (.bool true) ∧ J (pre ++ [x]) W' ∧ Below n₀ W W') ∨ (e = .returned (.bool false) ∧ Jx (pre ++ [x]) W'))
  (W : World) (hBs : W.cell? ⟨Bs, 0, none⟩ = some (.slice (some ⟨b, off, none⟩) len cap)) (hc : ∀ j, j < len → W.cell? ⟨b, off + j, none⟩ = some (.int .i64 (zs[j]?.getD 0))) (h0 : J [] W) :
  CallsIn F n Tryz.prog 22 #[.func (.yield l) #[] #[], .pointer (some ⟨Bs, 0, none⟩)] W fun e W' => (∃ v, e = .returned v) ∧
   ((∃ ys, ys = itUpto (fun j => zs[j]?.getD 0) len ∧ J ys W') ∨ (∃ pre, (∃ k, k ≤ len ∧ pre = itUpto (fun j => zs[j]?.getD 0) k) ∧ Jx pre W')) := by
 refine callsIn_of_wp Tryz.func22 rfl h7 ?_ hro
 simp only [Tryz.ntmps22, List.size_toArray, List.length_cons, List.length_nil, Nat.reduceAdd, Nat.reduceSub, Array.replicate_succ, Array.replicate_zero, List.push_toArray, List.append_toArray, List.nil_append, List.cons_append]
 gi_wp2
 gi_loopw [7] (fun i wr => ∃ k : Nat, k ≤ len ∧ i = .int .i64 k ∧ J (itUpto (fun j => zs[j]?.getD 0) k) wr ∧ Below n₀ W wr)
  (fun i _ => len - (intOf i).toNat)
 case atStart => exact ⟨0, Nat.zero_le _, rfl, h0, Below.refl _ _⟩
 case round =>
  obtain ⟨k, hk, rfl, hJs, hnx⟩ := hrel
  have hcx : k < len → wr.cell? ⟨b, off + k, none⟩ = some (.int .i64 (zs[k]?.getD 0)) := fun h => (hnx.cell (p := ⟨b, off + k, none⟩) hb).trans (hc k h)
  by_cases hlt : k < len
  ·obtain ⟨fn, tmps, assign, body, hy, hR⟩ := hY _ (zs[k]?.getD 0) wr hJs (by rw [itUpto_length]; exact hlt)
   have hcx' := hcx hlt
   gi_wp2
   refine hR.mono ?_
   rintro e W3 (⟨rfl, hJ3, hk3⟩ | ⟨rfl, hJx3⟩)
   ·-- THE ROUND GOES ON
    gi_wp2
    go_roundw
    case rel => exact ⟨k + 1, by omega, by simp, by rw [itUpto_succ]; exact hJ3, hnx.trans hk3⟩
    case measure => simp [intOf]; omega
   ·gi_wp2
    refine bodyPost_ret (results_none rfl _ _ _) rfl ?_
    exact ⟨⟨_, rfl⟩, .inr ⟨_, ⟨k + 1, by omega, (itUpto_succ _ _).symm⟩, hJx3⟩⟩
  ·obtain rfl : k = len := by omega
   gi_wp2
   go_end0
   exact ⟨⟨_, rfl⟩, .inl ⟨_, rfl, hJs⟩⟩

theorem itUpto_take (zs : List Int) {k : Nat} (hk : k ≤ zs.length) : itUpto (fun j => zs[j]?.getD 0) k = zs.take k := by
 apply List.ext_getElem
 ·simp [itUpto, hk]
 ·intro i h1 h2
  have : i < zs.length := by simp [itUpto] at h1; omega
  simp [itUpto, this]

def ItInts (n₀ : Nat) (W : World) (sv : Value) (zs : List Int) : Prop :=
 (∃ sa cap, sv = .slice sa 0 cap ∧ zs = []) ∨ ∃ b off cap, sv = .slice (some ⟨b, off, none⟩) zs.length cap ∧ b < n₀ ∧ ∀ j, j < zs.length → W.cell? ⟨b, off + j, none⟩ = some (.int .i64 (zs[j]?.getD 0))
theorem ItInts.below {n₀ : Nat} {A B : World} (h : Below n₀ A B) {sv : Value} {zs : List Int} : ItInts n₀ A sv zs → ItInts n₀ B sv zs
 | .inl e => .inl e
 | .inr ⟨b, off, cap, e, hb, hc⟩ => .inr ⟨b, off, cap, e, hb, fun j hj => (h.cell (p := ⟨b, off + j, none⟩) hb).trans (hc j hj)⟩

set_option maxRecDepth 100000 in
set_option maxHeartbeats 1000000 in
theorem itNil_in (F : Fence) (n : Nat) (h7 : F.fn 22) (hro : F.round = none) (l Bs cap : Nat) (sa : Option Addr) (J : List Int → World → Prop) (W : World) (hBs : W.cell? ⟨Bs, 0, none⟩ = some (.slice sa 0 cap)) (h0 : J [] W) :
  CallsIn F n Tryz.prog 22 #[.func (.yield l) #[] #[], .pointer (some ⟨Bs, 0, none⟩)] W fun e W' => (∃ v, e = .returned v) ∧ J [] W' := by
 refine callsIn_of_wp Tryz.func22 rfl h7 ?_ hro
 simp only [Tryz.ntmps22, List.size_toArray, List.length_cons, List.length_nil, Nat.reduceAdd, Nat.reduceSub, Array.replicate_succ, Array.replicate_zero, List.push_toArray, List.append_toArray, List.nil_append, List.cons_append]
 gi_wp2
 gi_loopw [7] (fun i wr => i = .int .i64 0 ∧ J [] wr) (fun _ _ => 0)
 case atStart => exact ⟨rfl, h0⟩
 case round =>
  obtain ⟨rfl, hJs⟩ := hrel
  gi_wp2
  go_end0
  exact ⟨⟨_, rfl⟩, hJs⟩

set_option maxRecDepth 100000 in
set_option maxHeartbeats 1000000 in
theorem itStops (F : Fence) (n : Nat) (h7 : F.fn 22) (hro : F.round = none) (hn : 1 ≤ n) (Bs n₀ : Nat) (sv : Value) (zs : List Int) (hreach : zs.length * 8 ≤ 140737488351232) (w : World) (hBs : Bs < w.heap.size) (hn₀ : n₀ ≤ w.heap.size)
  (hc : w.cell? ⟨Bs, 0, none⟩ = some sv) (hI : ItInts n₀ w sv zs) :
  SeqStopsK F n Tryz.prog 22 #[.pointer (some ⟨Bs, 0, none⟩)] (fun x : Int => #[Value.int .i64 x]) (Below n₀) (fun ys => ys = zs) (fun pre => pre <+: zs) zs.length w := fun l J Jx W hW _ _ hY h0 => by
 have hc' := (hW.cell (p := ⟨Bs, 0, none⟩) hBs).trans hc
 rcases hI.below (hW.mono hn₀) with ⟨sa, cap, rfl, rfl⟩ | ⟨b, off, cap, rfl, hb, hcs⟩
 ·exact (itNil_in F n h7 hro l Bs cap sa J W hc' h0).mono fun e W' ⟨he, hj⟩ => ⟨he, .inl ⟨_, rfl, hj⟩⟩
 ·refine (itVals1_in F n h7 hro hn l Bs n₀ b off zs.length cap zs hreach hb J Jx hY W hc' hcs h0).mono ?_
  rintro e W' ⟨he, ⟨ys, rfl, hj⟩ | ⟨pre, ⟨k, hk, rfl⟩, hj⟩⟩
  ·exact ⟨he, .inl ⟨_, itUpto_all zs, hj⟩⟩
  ·exact ⟨he, .inr ⟨_, by rw [itUpto_take zs hk]; exact List.take_prefix _ _, hj⟩⟩

theorem itInfo : (Tryz.prog.info? 3).map (fun i => (i.zero, i.size, i.bytes)) = some (some (.int .i64 0), 1, 8) := by kernel_rfl

set_option maxRecDepth 100000 in
set_option maxHeartbeats 2000000 in
theorem itSeq_in (F : Fence) (n : Nat) (h3 : F.fn 38) (h5 : F.fn 22) (hro : F.round = none) (hn : 3 ≤ n) (Bs : Nat) (sv : Value) (xs : List Int) (hlen : xs.length ≤ maxLen) (hbytes : xs.length * 8 ≤ 140737488351232) (w : World) (hBs : Bs < w.heap.size) (hcs : w.cell? ⟨Bs, 0, none⟩ = some sv) (hI : ItInts w.heap.size w sv xs) :
  CallsIn F n Tryz.prog 38 #[.slice none 0 0, .func (.func 22) #[] #[.pointer (some ⟨Bs, 0, none⟩)]] w fun e W' => ∃ v, e = .returned v ∧ W'.ownsRow w.heap.size 3 1 v xs.length (xs.map (Value.int .i64)) ∧ Below w.heap.size w W' := by
 have h1 : 1 ≤ n := by omega
 obtain ⟨i0, hi, hz0, hz1, hz2⟩ := info_parts itInfo
 refine callsIn_of_wp_marks Tryz.func38 rfl h3 ?_ hro
 simp only [Tryz.ntmps38, List.size_toArray, List.length_cons, List.length_nil, Nat.reduceAdd, Nat.reduceSub, Array.replicate_succ, Array.replicate_zero, List.push_toArray, List.append_toArray, List.nil_append, List.cons_append]
 gi_wp2
 have bO := Boxed.new w 37 (.slice none 0 0)
 have hB0 : Below w.heap.size w (w.alloc (.cells #[.slice none 0 0] 37)) := (Below.refl _ w).alloc (Nat.le_refl _) _
 refine wpIn_rangeFunc_ownG hro h1 (gf := 22) (lb := #[.pointer (some ⟨Bs, 0, none⟩)]) rfl h5 (enters_of Tryz.func22 (by kernel_rfl) rfl)
  (itStops F (n - 1) h5 hro (by omega) Bs w.heap.size _ xs hbytes _ (by simp; omega) (by simp) ((hB0.cell (p := ⟨Bs, 0, none⟩) hBs).trans hcs) (hI.below hB0)) belowK_t (belowK_b (by simp)) (Below.refl _ _) (fun _ => rfl)
  (fun pre W => (∃ v, Boxed W w.heap.size 37 v ∧ W.ownsRow w.heap.size 3 1 v pre.length (pre.map (Value.int .i64)) ∧ True) ∧ Below w.heap.size w W)
  (fun _ _ _ => False)
  (OwnFrom.and (Own.from (holdsRow_own w.heap.size w.heap.size 37 3 1 (fun pre : List Int => pre.length) (fun pre => pre.map (Value.int .i64)) (fun _ _ => True)) _) (ownFrom_below (Nat.le_refl _) (by simp)))
  (fun _ _ _ _ _ hs _ _ => hs)
  ⟨⟨_, bO, World.ownsRow_nil _ _ _ _, trivial⟩, hB0⟩
  (fun x => { tmps := #[.slice none 0 0, .func (.func 22) #[] #[.pointer (some ⟨Bs, 0, none⟩)], .pointer (some ⟨w.heap.size, 0, none⟩), undef, .slice none 0 0, .int .i64 x, .func (.func 22) #[] #[.pointer (some ⟨Bs, 0, none⟩)], .int .i64 x, undef, undef, undef, undef, undef], defers := [] }) ?assign ?body ?done ?stop
 case assign =>
  intro l x W K hK
  gi_wp2
  exact hK
 case body =>
  rintro l pre x W ⟨⟨v, hv, hrow, _⟩, hB⟩ hlt
  have hc := hv.cell
  gi_wp2_with (gi_at_builtin; refine wpListIn_append_own _ rfl _ _ 37 rfl w.heap.size 3 i0 (.int .i64 0) 1 8 Tryz.underlying37 hi hz0 hz1 hz2 rfl (by decide) _ _ _ rfl (hrow.alloc _) ⟨W.heap.size, 0, none⟩ 1 1 [.int .i64 x] rfl rfl (cell_one_new _ _ _) (by simp [Value.oneCell']) (by omega) (by omega) (by have := hB.size; simp; omega) ?_; intro v' w1 hown' hgrow _; obtain ⟨g', cap', rfl⟩ := ownsRow_succ hown'; obtain ⟨hv1, hv2, hr2, hk2, hb2⟩ := hv.appended (by decide) hrow hB.size (Nat.le_refl _) hown' hgrow; have hc1 := hv1.cell; have hf1 := hv1.frozen)
  exact ⟨hk2.from _, hb2, ⟨_, hv2, by simpa using hr2, trivial⟩, hB.trans hb2⟩
 case done =>
  rintro D ys W hD rfl ⟨⟨v, hv, hrow, _⟩, hB⟩ hK
  have hc := hv.cell
  gi_wp2
  refine ⟨by simp, .inl ⟨_, _, rfl, run_takeDeferred hK, ?_⟩⟩
  exact ⟨_, results_tmp rfl _ _ _, v, rfl, ownsRow_putObj hrow _ hK rfl, hB.trans (belowK_b (w := w) (Nat.le_refl _) W D _ _ (by simp at hD; omega) hK rfl rfl)⟩
 case stop =>
  rintro D c pre W _ _ h _
  exact h.elim

theorem itSeq_ok {w : World} {s : Sg} {R : List HP} {b : Nat} {a : Option Addr} {c : Nat} {l r : List Int} (hS : St w s (pt b (.cells [.slice a l.length c].toArray 37 (0, 0)) :: R)) (h : Sl 1 (RI .i64) s a c l) (hr : apd [] l = some r) :
  Calls Tryz.prog 38 [.slice none 0 0, .func (.func 22) #[] #[.pointer (some ⟨b, 0, none⟩)]].toArray w (fun e w => ∃ (a0 : Option Addr) (c0 n0 : Nat) (cs0 : List Value), e = .returned (.slice a0 n0 c0) ∧ Ev 1 (RI .i64) s cs0 r ∧ r.length = n0 ∧ St w s (vecC 3 1 a0 c0 n0 cs0 :: pt b (.cells [.slice a l.length c].toArray 37 (0, 0)) :: R)) := by
 obtain ⟨h1, h2⟩ := apd_some hr
 rw [List.nil_append] at h2
 subst r
 simp only [List.length_nil, Nat.zero_add] at h1
 have hb := hS.at
 have hI : ItInts w.heap.size w (.slice a l.length c) l := by
  rcases Nat.eq_zero_or_pos l.length with hz | hz
  ·have : l = [] := List.eq_nil_of_length_eq_zero hz
   subst this
   exact .inl ⟨a, c, rfl, rfl⟩
  ·obtain ⟨b0, o0, rfl⟩ := h.aok hz
   have hcell : ∀ j, j < l.length → w.cell? ⟨b0, o0 + j, none⟩ = some (.int .i64 (l[j]?.getD 0)) := by
    intro j hj
    obtain ⟨cs, e1, e2, e3⟩ := h.el j l[j] (List.getElem?_eq_getElem hj)
    have e3' : cs = [.int .i64 l[j]] := e3
    subst e3'
    have := hS.sees e2 0 _ rfl
    simpa [ab, ao, hj] using this
   refine .inr ⟨b0, o0, c, rfl, ?_, hcell⟩
   have := hcell 0 hz
   rcases Nat.lt_or_ge b0 w.heap.size with hlt | hge
   ·exact hlt
   ·simp [World.cell?, Array.getElem?_eq_none hge] at this
 have hlt : b < w.heap.size := by
  rcases Nat.lt_or_ge b w.heap.size with hlt | hge
  ·exact hlt
  ·rw [Array.getElem?_eq_none hge] at hb; cases hb
 refine ((callsIn_wide (n := 3)).1 (itSeq_in Fence.wide 3 trivial trivial rfl (by decide) b (.slice a l.length c) l (by unfold maxLen; omega) (by omega) w hlt (by simp [World.cell?, hb]) hI)).mono ?_
 rintro e w' ⟨v, rfl, hrow, hB⟩
 obtain ⟨a0, c0, rfl, hS'⟩ := hS.rowC hB hrow
 exact ⟨a0, c0, l.length, _, rfl, Ev.ofMap l, rfl, hS'⟩

theorem itVals_ok {w : World} {s : Sg} {R : List HP} {sa : Option Addr} {m c : Nat} (hS : St w s R) : Calls Tryz.prog 9 [.slice sa m c].toArray w (fun e w => ∃ (b : Nat), e = .returned (.func (.func 22) #[] #[.pointer (some ⟨b, 0, none⟩)]) ∧ St w s (pt b (.cells [.slice sa m c].toArray 37 (0, 0)) :: R)) := by
 refine enter Tryz.func9 rfl rfl rfl fun a hE => ?_
 refine W.seq (W.region ?_)
 refine WL.box hE hS (runs_plain rfl) rfl rfl rfl ?_; clear hE hS a w; intro b a w hE hS
 refine vP hS hE (Gives.p hE rfl) rfl ?_; clear hE a; intro a hE
 refine WL.nil ?_
 refine W.seq (W.region ?_)
 refine vP hS hE (Gives.mkfn hE (vs := [.pointer (some ⟨b, 0, none⟩)]) rfl) rfl ?_; clear hE a; intro a hE
 refine vP hS hE (Gives.p hE rfl) rfl ?_; clear hE a; intro a hE
 refine WL.nil ?_
 refine W.ret ?_
 refine finG (fn := Tryz.f9) (rs := [.tmp 2]) (vs := [_]) hE rfl ⟨rfl, trivial⟩ ?_
 exact ⟨b, rfl, hS⟩
end
theorem itSort_ok {w : World} {s : Sg} {R : List HP} {a : Option Addr} {c n : Nat} {cs : List Value} {l r : List Int} (hS : St w s (vecC 3 1 a c n cs :: R)) (h : Ev 1 (RI .i64) s cs l) (hn : l.length = n) (hr : srt l = some r) :
  Calls Tryz.prog 21 [.slice a n c].toArray w (fun e w => ∃ (cs0 : List Value), e = .returned (.tuple #[]) ∧ Ev 1 (RI .i64) s cs0 r ∧ r.length = n ∧ St w s (vecC 3 1 a c n cs0 :: R)) := by
 obtain ⟨h1, rfl⟩ := srt_some hr
 rcases Nat.eq_zero_or_pos n with hz | hz
 ·subst hz
  have : l = [] := List.eq_nil_of_length_eq_zero hn
  subst this
  refine (Tryz.slices_Sort_int_none a c w).mono ?_
  rintro e w' ⟨rfl, rfl⟩
  exact ⟨cs, rfl, by simpa [isort] using h, by simp [isort], hS⟩
 ·obtain ⟨b, o, rfl⟩ := hS.vecAok 0 rfl hz
  have hb : b < w.heap.size := by
   rcases hS.vec 0 rfl with ⟨_, ⟨h0, _⟩ | ⟨b', o', cur, e1, e2, _⟩⟩
   ·cases h0
   ·cases e1
    rcases Nat.lt_or_ge b w.heap.size with hl | hg
    ·exact hl
    ·rw [Array.getElem?_eq_none hg] at e2; cases e2
  have hc := Tryz.slices_Sort_int b o c l w (hS.holds h) hb (by omega)
  rw [hn] at hc
  refine hc.mono ?_
  rintro e w' ⟨rfl, q, os, rfl⟩
  exact ⟨_, rfl, Ev.ofMap (isort l), by rw [isort_length, hn], hS.putRow (r := isort l) (by rw [isort_length, hn])⟩
theorem itCompact_ok {w : World} {s : Sg} {R : List HP} {a : Option Addr} {c n : Nat} {cs : List Value} {l : List Int} (hS : St w s (vecC 3 1 a c n cs :: R)) (h : Ev 1 (RI .i64) s cs l) (hn : l.length = n) :
  Calls Tryz.prog 7 [.slice a n c].toArray w (fun e w => ∃ (n0 : Nat) (cs0 : List Value), e = .returned (.slice a n0 c) ∧ Ev 1 (RI .i64) s cs0 (Lib.compact l) ∧ (Lib.compact l).length = n0 ∧ St w s (vecC 3 1 a c n0 cs0 :: R)) := by
 rcases Nat.eq_zero_or_pos n with hz | hz
 ·subst hz
  have : l = [] := List.eq_nil_of_length_eq_zero hn
  subst this
  refine (Tryz.slices_Compact_int_empty a c w).mono ?_
  rintro e w' ⟨rfl, rfl⟩
  exact ⟨0, cs, rfl, by simpa [Lib.compact, Lib.compactUpTo] using h, by simp [Lib.compact, Lib.compactUpTo], hS⟩
 ·obtain ⟨b, o, rfl⟩ := hS.vecAok 0 rfl hz
  have hcap := hS.vecCap 0 rfl
  unfold maxLen at hcap
  have hle : (Lib.compact l).length ≤ n := by
   unfold Lib.compact Lib.compactUpTo
   rw [List.length_map, ← hn]
   have := List.length_filter_le (Lib.keeps l.toArray) (List.range l.length)
   simpa using this
  have hc := Tryz.slices_Compact_int b o c l w (hS.holds h) (by omega) (by omega)
  rw [hn] at hc
  refine hc.mono ?_
  rintro e w' ⟨rfl, q, rfl⟩
  have h2 := hS.putRow (os := #[]) (q := q) (r := Lib.compact l ++ List.replicate (n - (Lib.compact l).length) 0) (by simp; omega)
  rw [Sort.grow_empty] at h2
  have h3 := h2.vecTake 0 rfl hle
  refine ⟨_, _, rfl, ?_, rfl, h3⟩
  have h4 := (Ev.ofMap (s := s) (k := .i64) (Lib.compact l ++ List.replicate (n - (Lib.compact l).length) 0)).take (Lib.compact l).length
  rw [List.take_left] at h4
  exact h4
theorem itoa_ok {w : World} {s : Sg} {R : List HP} {x : Int} {r : ByteArray} (hS : St w s R) (hTab : TabS Tryz.prog s) (hr : itoa x = some r) : Calls Tryz.prog 31 [.int .i64 x].toArray w (fun e w => e = .returned (.string r) ∧ St w s R) := by
 obtain ⟨⟨h0, h1⟩, rfl⟩ := itoa_some hr
 refine (Tryz.strconv_Itoa x h0 h1 w (hTab w R hS)).mono ?_
 rintro e w' ⟨rfl, k, os, rfl⟩
 exact ⟨rfl, (hS.drewN k).growBy os⟩
set_option maxHeartbeats 8000000 in
theorem Planform_ok  {w : World} {s : Sg} {R : List HP} {x0 : ApiDay} {a0_0 : Option Addr} {c0_0 : Nat} {a0_1 : Option Addr} {c0_1 : Nat} (hS : St w s (R)) (h0_0 : Sl 4 RApiTrain s a0_0 c0_0 x0.Trains) (h0_1 : Sl 1 (RL 1 (RI .i64)) s a0_1 c0_1 x0.Turns) {r : Int} (hr : Planform x0 = r) :
  Calls Tryz.prog 96 [.agg (List.toArray [.slice a0_0 x0.Trains.length c0_0, .slice a0_1 x0.Turns.length c0_1])].toArray w (fun e w => e = .returned (.int .i64 r) ∧ St w s (R)) := by
 refine enter Tryz.func96 rfl rfl rfl fun a hE => ?_
 rw [Planform] at hr
 refine W.seq (W.region ?_)
 refine WL.box hE hS (runs_plain rfl) rfl rfl rfl ?_; clear hE hS a w; intro b51 a w hE hS
 refine vP hS hE (Gives.p hE rfl) rfl ?_; clear hE a; intro a hE
 refine WL.nil ?_
 refine W.seq ?_
 refine W.seq ?_
 obtain ⟨q53, hq52, hr⟩ := bndS hr
 refine W.cut (fun a w => ∃ (q56 : Bool), q56 = q53 ∧ Rep a 85 [(1, .pointer (some ⟨b51, 0, none⟩)), (20, .bool q56)] ∧ St w s (pt b51 (.cells #[.slice a0_0 x0.Trains.length c0_0, .slice a0_1 x0.Turns.length c0_1] 25 (0, 0)) :: R)) ?_ ?_
 ·refine W.gen fun K57 hK57 => ?_
  refine W.region ?_
  refine vP hS hE (Gives.fld hE rfl fl25_0) rfl ?_; clear hE a; intro a hE
  refine vP hS hE (Gives.loadB hE 0 rfl rfl rfl ty22) rfl ?_; clear hE a; intro a hE
  refine vP hS hE (Gives.len hE rfl sl22) rfl ?_; clear hE a; intro a hE
  refine vP hS hE (Gives.p hE rfl) rfl ?_; clear hE a; intro a hE
  refine vP hS hE (Gives.p hE rfl) rfl ?_; clear hE a; intro a hE
  rcases Bool.eq_false_or_eq_true (decide (((x0.Trains).length : Int) > 12)) with hg58 | hg58
  ·replace hq52 := iteT hg58 hq52
   refine WL.no hE (runs_not hE rfl rfl rfl (by rw [hg58]; decide)) rfl ?_; clear hE a; intro a hE
   refine WL.no hE (runs_not hE rfl rfl rfl (by rw [hg58]; decide)) rfl ?_; clear hE a; intro a hE
   refine WL.no hE (runs_not hE rfl rfl rfl (by rw [hg58]; decide)) rfl ?_; clear hE a; intro a hE
   refine WL.no hE (runs_not hE rfl rfl rfl (by rw [hg58]; decide)) rfl ?_; clear hE a; intro a hE
   refine vP hS hE (Gives.pickT hE rfl hg58 rfl) rfl ?_; clear hE a; intro a hE
   refine WL.nil ?_
   subst hK57
   exact ⟨true, hq52, hE.pick _ ⟨rfl, rfl, trivial⟩, hS⟩
  ·replace hq52 := iteF hg58 hq52
   refine WL.vS hS hE (runs_if hE rfl rfl rfl hg58) (Gives.fld hE rfl fl25_1) rfl ?_; clear hE a; intro a hE
   refine WL.vS hS hE (runs_if hE rfl rfl rfl hg58) (Gives.loadB hE 0 rfl rfl rfl ty23) rfl ?_; clear hE a; intro a hE
   refine WL.vS hS hE (runs_if hE rfl rfl rfl hg58) (Gives.len hE rfl sl23) rfl ?_; clear hE a; intro a hE
   refine WL.vS hS hE (runs_if hE rfl rfl rfl hg58) (Gives.p hE rfl) rfl ?_; clear hE a; intro a hE
   refine vP hS hE (Gives.pickF hE rfl hg58 rfl) rfl ?_; clear hE a; intro a hE
   refine WL.nil ?_
   subst hK57
   exact ⟨decide (((x0.Turns).length : Int) > 8), hq52, hE.pick _ ⟨rfl, rfl, trivial⟩, hS⟩
 ·clear hE hS a w; rintro a w ⟨q56, rfl, hE, hS⟩
  refine W.cond hE rfl (fun hc59 => ?_) (fun hc59 => ?_)
  ·replace hr := iteT hc59 hr
   refine W.seq (W.region ?_)
   refine vP hS hE (Gives.p hE rfl) rfl ?_; clear hE a; intro a hE
   refine WL.nil ?_
   refine W.ret ?_
   refine finG (fn := Tryz.f96) (rs := [.tmp 2]) (vs := [_]) hE rfl ⟨rfl, trivial⟩ ?_
   subst hr
   replace hS := hS.tail
   exact ⟨rfl, hS⟩
  ·replace hr := iteF hc59 hr
   refine W.skip ?_
   refine W.seq ?_
   refine W.seq (W.region ?_)
   refine vP hS hE (Gives.fld hE rfl fl25_0) rfl ?_; clear hE a; intro a hE
   refine vP hS hE (Gives.loadB hE 0 rfl rfl rfl ty22) rfl ?_; clear hE a; intro a hE
   refine vP hS hE (Gives.len hE rfl sl22) rfl ?_; clear hE a; intro a hE
   refine vP hS hE (Gives.p hE rfl) rfl ?_; clear hE a; intro a hE
   refine WL.nil ?_
   obtain ⟨q61, hq60, hr⟩ := bndS hr
   refine W.cut (fun a w => (.next ()) = q61 ∧ Rep a 85 [(1, .pointer (some ⟨b51, 0, none⟩))] ∧ St w s (pt b51 (.cells #[.slice a0_0 x0.Trains.length c0_0, .slice a0_1 x0.Turns.length c0_1] 25 (0, 0)) :: R)) ?_ ?_
   ·refine W.block ?_
    refine W.loop (fun m a w => ∃ (rest64 : List ApiTrain) (k62 : Nat), rest64.length = m ∧ x0.Trains.drop k62 = rest64 ∧ Planform.loop1 rest64 = q61 ∧ Rep a 85 [(1, .pointer (some ⟨b51, 0, none⟩)), (22, .slice a0_0 x0.Trains.length c0_0), (23, .int .i64 ((x0.Trains).length : Int)), (24, .int .i64 ((k62 : Nat) : Int))] ∧ St w s (pt b51 (.cells #[.slice a0_0 x0.Trains.length c0_0, .slice a0_1 x0.Turns.length c0_1] 25 (0, 0)) :: R)) (m := x0.Trains.length) ⟨x0.Trains, 0, rfl, rfl, hq60, hE.pick _ ⟨rfl, rfl, rfl, rfl, trivial⟩, hS⟩ ?_
    clear hE hS a w hq60; rintro m68 a w ⟨rest64, k62, rfl, hd65, hq60, hE, hS⟩
    refine W.gen fun K71 hK71 => ?_
    rcases rest64 with _ | ⟨x63, rest64⟩
    ·have hlt66 := drop_nil hd65
     refine W.seq (W.region ?_)
     refine vP hS hE (Gives.p hE rfl) rfl ?_; clear hE a; intro a hE
     refine WL.nil ?_
     refine W.seq ?_
     refine W.condF hE rfl (decide_eq_false (by omega)) ?_
     subst hK71
     refine W.exit rfl ?_
     exact ⟨hq60, hE.pick _ ⟨rfl, trivial⟩, hS⟩
    ·obtain ⟨hlt66, hx67, hd65⟩ := drop_cons hd65
     rw [Planform.loop1] at hq60
     refine W.seq (W.region ?_)
     refine vP hS hE (Gives.p hE rfl) rfl ?_; clear hE a; intro a hE
     refine WL.nil ?_
     refine W.seq ?_
     refine W.condT hE rfl (decide_eq_true (by omega)) ?_
     refine W.skip ?_
     refine W.seq ?_
     refine W.block ?_
     refine W.seq (W.region ?_)
     obtain ⟨cs72, hl73, hR74, hat75⟩ := h0_0.at hx67
     obtain ⟨a76, c77, a79, c80, rfl, h78, h81⟩ := hR74
     refine vP hS hE (Gives.idx hE k62 rfl rfl sl22 rfl hlt66 (h0_0.aok hlt66)) rfl ?_; clear hE a; intro a hE
     refine vP hS hE (Gives.loadA hE rfl (fun w h => hat75 w _ h) ty42) rfl ?_; clear hE a; intro a hE
     refine WL.alloc hE hS (runs_plain rfl) zr42 rfl ?_; clear hE hS a w; intro b82 a w hE hS
     refine WL.storeI hE hS 0 rfl [.int .i64 x63.No, .int .i64 x63.Stock, .slice a76 x63.Stops.length c77, .slice a79 x63.Legs.length c80] (runs_plain rfl) rfl rfl rfl ty42 rfl rfl rfl rfl ?_; clear hE hS a w; intro a w hE hS
     refine WL.nil ?_
     refine W.seq ?_
     refine W.seq ?_
     obtain ⟨q84, hq83, hq60⟩ := bndS hq60
     refine W.cut (fun a w => ∃ (q87 : Bool), q87 = q84 ∧ Rep a 85 [(1, .pointer (some ⟨b51, 0, none⟩)), (4, .pointer (some ⟨b82, 0, none⟩)), (22, .slice a0_0 x0.Trains.length c0_0), (23, .int .i64 ((x0.Trains).length : Int)), (24, .int .i64 ((k62 : Nat) : Int)), (41, .bool q87)] ∧ St w s (pt b82 (.cells #[.int .i64 x63.No, .int .i64 x63.Stock, .slice a76 x63.Stops.length c77, .slice a79 x63.Legs.length c80] 42 (0, 0)) :: pt b51 (.cells #[.slice a0_0 x0.Trains.length c0_0, .slice a0_1 x0.Turns.length c0_1] 25 (0, 0)) :: R)) ?_ ?_
     ·refine W.gen fun K88 hK88 => ?_
      refine W.region ?_
      refine vP hS hE (Gives.fld hE rfl fl42_2) rfl ?_; clear hE a; intro a hE
      refine vP hS hE (Gives.loadB hE 0 rfl rfl rfl ty40) rfl ?_; clear hE a; intro a hE
      refine vP hS hE (Gives.len hE rfl sl40) rfl ?_; clear hE a; intro a hE
      refine vP hS hE (Gives.p hE rfl) rfl ?_; clear hE a; intro a hE
      refine vP hS hE (Gives.p hE rfl) rfl ?_; clear hE a; intro a hE
      rcases Bool.eq_false_or_eq_true (((x63.Stops).length : Int) == 0) with hg89 | hg89
      ·replace hq83 := iteT hg89 hq83
       refine WL.no hE (runs_not hE rfl rfl rfl (by rw [hg89]; decide)) rfl ?_; clear hE a; intro a hE
       refine WL.no hE (runs_not hE rfl rfl rfl (by rw [hg89]; decide)) rfl ?_; clear hE a; intro a hE
       refine WL.no hE (runs_not hE rfl rfl rfl (by rw [hg89]; decide)) rfl ?_; clear hE a; intro a hE
       refine WL.no hE (runs_not hE rfl rfl rfl (by rw [hg89]; decide)) rfl ?_; clear hE a; intro a hE
       refine WL.no hE (runs_not hE rfl rfl rfl (by rw [hg89]; decide)) rfl ?_; clear hE a; intro a hE
       refine WL.no hE (runs_not hE rfl rfl rfl (by rw [hg89]; decide)) rfl ?_; clear hE a; intro a hE
       refine WL.no hE (runs_not hE rfl rfl rfl (by rw [hg89]; decide)) rfl ?_; clear hE a; intro a hE
       refine WL.no hE (runs_not hE rfl rfl rfl (by rw [hg89]; decide)) rfl ?_; clear hE a; intro a hE
       refine vP hS hE (Gives.pickT hE rfl hg89 rfl) rfl ?_; clear hE a; intro a hE
       refine WL.nil ?_
       subst hK88
       exact ⟨true, hq83, hE.pick _ ⟨rfl, rfl, rfl, rfl, rfl, rfl, trivial⟩, hS⟩
      ·replace hq83 := iteF hg89 hq83
       refine WL.vS hS hE (runs_if hE rfl rfl rfl hg89) (Gives.fld hE rfl fl42_3) rfl ?_; clear hE a; intro a hE
       refine WL.vS hS hE (runs_if hE rfl rfl rfl hg89) (Gives.loadB hE 0 rfl rfl rfl ty23) rfl ?_; clear hE a; intro a hE
       refine WL.vS hS hE (runs_if hE rfl rfl rfl hg89) (Gives.len hE rfl sl23) rfl ?_; clear hE a; intro a hE
       refine WL.vS hS hE (runs_if hE rfl rfl rfl hg89) (Gives.fld hE rfl fl42_2) rfl ?_; clear hE a; intro a hE
       refine WL.vS hS hE (runs_if hE rfl rfl rfl hg89) (Gives.loadB hE 0 rfl rfl rfl ty40) rfl ?_; clear hE a; intro a hE
       refine WL.vS hS hE (runs_if hE rfl rfl rfl hg89) (Gives.len hE rfl sl40) rfl ?_; clear hE a; intro a hE
       refine WL.vS hS hE (runs_if hE rfl rfl rfl hg89) (Gives.p hE rfl) rfl ?_; clear hE a; intro a hE
       refine WL.vS hS hE (runs_if hE rfl rfl rfl hg89) (Gives.p hE rfl) rfl ?_; clear hE a; intro a hE
       refine vP hS hE (Gives.pickF hE rfl hg89 rfl) rfl ?_; clear hE a; intro a hE
       refine WL.nil ?_
       subst hK88
       exact ⟨(((x63.Legs).length : Int) != (w64 (((x63.Stops).length : Int) - 1))), hq83, hE.pick _ ⟨rfl, rfl, rfl, rfl, rfl, rfl, trivial⟩, hS⟩
     ·clear hE hS a w; rintro a w ⟨q87, rfl, hE, hS⟩
      refine W.cond hE rfl (fun hc90 => ?_) (fun hc90 => ?_)
      ·replace hq60 := iteT hc90 hq60
       refine W.seq (W.region ?_)
       refine vP hS hE (Gives.p hE rfl) rfl ?_; clear hE a; intro a hE
       refine WL.nil ?_
       refine W.ret ?_
       subst hK71
       rw [← hq60] at hr
       dsimp only at hr
       refine finG (fn := Tryz.f96) (rs := [.tmp 2]) (vs := [_]) hE rfl ⟨rfl, trivial⟩ ?_
       subst hr
       replace hS := hS.tail
       replace hS := hS.tail
       exact ⟨rfl, hS⟩
      ·replace hq60 := iteF hc90 hq60
       refine W.skip ?_
       refine W.seq ?_
       refine W.seq (W.region ?_)
       refine vP hS hE (Gives.fld hE rfl fl42_3) rfl ?_; clear hE a; intro a hE
       refine vP hS hE (Gives.loadB hE 0 rfl rfl rfl ty23) rfl ?_; clear hE a; intro a hE
       refine vP hS hE (Gives.len hE rfl sl23) rfl ?_; clear hE a; intro a hE
       refine vP hS hE (Gives.p hE rfl) rfl ?_; clear hE a; intro a hE
       refine WL.nil ?_
       obtain ⟨q92, hq91, hq60⟩ := bndS hq60
       refine W.cut (fun a w => (.next ()) = q92 ∧ Rep a 85 [(1, .pointer (some ⟨b51, 0, none⟩)), (4, .pointer (some ⟨b82, 0, none⟩)), (22, .slice a0_0 x0.Trains.length c0_0), (23, .int .i64 ((x0.Trains).length : Int)), (24, .int .i64 ((k62 : Nat) : Int))] ∧ St w s (pt b82 (.cells #[.int .i64 x63.No, .int .i64 x63.Stock, .slice a76 x63.Stops.length c77, .slice a79 x63.Legs.length c80] 42 (0, 0)) :: pt b51 (.cells #[.slice a0_0 x0.Trains.length c0_0, .slice a0_1 x0.Turns.length c0_1] 25 (0, 0)) :: R)) ?_ ?_
       ·refine W.block ?_
        refine W.loop (fun m a w => ∃ (rest95 : List (List Int)) (k93 : Nat), rest95.length = m ∧ x63.Legs.drop k93 = rest95 ∧ Planform.loop2 rest95 = q92 ∧ Rep a 85 [(1, .pointer (some ⟨b51, 0, none⟩)), (4, .pointer (some ⟨b82, 0, none⟩)), (22, .slice a0_0 x0.Trains.length c0_0), (23, .int .i64 ((x0.Trains).length : Int)), (24, .int .i64 ((k62 : Nat) : Int)), (43, .slice a79 x63.Legs.length c80), (44, .int .i64 ((x63.Legs).length : Int)), (45, .int .i64 ((k93 : Nat) : Int))] ∧ St w s (pt b82 (.cells #[.int .i64 x63.No, .int .i64 x63.Stock, .slice a76 x63.Stops.length c77, .slice a79 x63.Legs.length c80] 42 (0, 0)) :: pt b51 (.cells #[.slice a0_0 x0.Trains.length c0_0, .slice a0_1 x0.Turns.length c0_1] 25 (0, 0)) :: R)) (m := x63.Legs.length) ⟨x63.Legs, 0, rfl, rfl, hq91, hE.pick _ ⟨rfl, rfl, rfl, rfl, rfl, rfl, rfl, rfl, trivial⟩, hS⟩ ?_
        clear hE hS a w hq91; rintro m99 a w ⟨rest95, k93, rfl, hd96, hq91, hE, hS⟩
        refine W.gen fun K102 hK102 => ?_
        rcases rest95 with _ | ⟨x94, rest95⟩
        ·have hlt97 := drop_nil hd96
         refine W.seq (W.region ?_)
         refine vP hS hE (Gives.p hE rfl) rfl ?_; clear hE a; intro a hE
         refine WL.nil ?_
         refine W.seq ?_
         refine W.condF hE rfl (decide_eq_false (by omega)) ?_
         subst hK102
         refine W.exit rfl ?_
         exact ⟨hq91, hE.pick _ ⟨rfl, rfl, rfl, rfl, rfl, trivial⟩, hS⟩
        ·obtain ⟨hlt97, hx98, hd96⟩ := drop_cons hd96
         rw [Planform.loop2] at hq91
         refine W.seq (W.region ?_)
         refine vP hS hE (Gives.p hE rfl) rfl ?_; clear hE a; intro a hE
         refine WL.nil ?_
         refine W.seq ?_
         refine W.condT hE rfl (decide_eq_true (by omega)) ?_
         refine W.skip ?_
         refine W.seq ?_
         refine W.block ?_
         refine W.seq (W.region ?_)
         obtain ⟨cs103, hl104, hR105, hat106⟩ := h81.at hx98
         obtain ⟨a107, c108, rfl, h109⟩ := hR105
         refine vP hS hE (Gives.idx hE k93 rfl rfl sl23 rfl hlt97 (h81.aok hlt97)) rfl ?_; clear hE a; intro a hE
         refine vP hS hE (Gives.load1 hE rfl (fun w h => hat106 w _ h) ty37) rfl ?_; clear hE a; intro a hE
         refine vP hS hE (Gives.p hE rfl) rfl ?_; clear hE a; intro a hE
         refine WL.nil ?_
         refine W.seq (W.region ?_)
         refine vP hS hE (Gives.p hE rfl) rfl ?_; clear hE a; intro a hE
         refine vP hS hE (Gives.len hE rfl sl37) rfl ?_; clear hE a; intro a hE
         refine vP hS hE (Gives.p hE rfl) rfl ?_; clear hE a; intro a hE
         refine WL.nil ?_
         refine W.cond hE rfl (fun hc110 => ?_) (fun hc110 => ?_)
         ·replace hq91 := iteT hc110 hq91
          refine W.seq (W.region ?_)
          refine vP hS hE (Gives.p hE rfl) rfl ?_; clear hE a; intro a hE
          refine WL.nil ?_
          refine W.ret ?_
          subst hK102
          subst hK71
          rw [← hq91] at hq60
          dsimp only at hq60
          rw [← hq60] at hr
          dsimp only at hr
          refine finG (fn := Tryz.f96) (rs := [.tmp 2]) (vs := [_]) hE rfl ⟨rfl, trivial⟩ ?_
          subst hr
          replace hS := hS.tail
          replace hS := hS.tail
          exact ⟨rfl, hS⟩
         ·replace hq91 := iteF hc110 hq91
          refine W.skip ?_
          refine W.region ?_
          refine vP hS hE (Gives.inc hE rfl (by have := h81.small; omega)) rfl ?_; clear hE a; intro a hE
          refine vP hS hE (Gives.p hE rfl) rfl ?_; clear hE a; intro a hE
          refine WL.nil ?_
          subst hK102
          exact ⟨rest95.length, Nat.lt_succ_self _, rest95, k93 + 1, rfl, hd96, hq91, hE.pick _ ⟨rfl, rfl, rfl, rfl, rfl, rfl, rfl, rfl, trivial⟩, hS⟩
       ·clear hE hS a w; rintro a w ⟨rfl, hE, hS⟩
        dsimp only at hq60
        refine W.seq ?_
        refine W.seq (W.region ?_)
        refine vP hS hE (Gives.fld hE rfl fl42_2) rfl ?_; clear hE a; intro a hE
        refine vP hS hE (Gives.loadB hE 0 rfl rfl rfl ty40) rfl ?_; clear hE a; intro a hE
        refine vP hS hE (Gives.len hE rfl sl40) rfl ?_; clear hE a; intro a hE
        refine vP hS hE (Gives.p hE rfl) rfl ?_; clear hE a; intro a hE
        refine WL.nil ?_
        refine W.cond hE rfl (fun hc111 => ?_) (fun hc111 => ?_)
        ·replace hq60 := iteT hc111 hq60
         refine W.seq (W.region ?_)
         refine vP hS hE (Gives.p hE rfl) rfl ?_; clear hE a; intro a hE
         refine WL.nil ?_
         refine W.ret ?_
         subst hK71
         rw [← hq60] at hr
         dsimp only at hr
         refine finG (fn := Tryz.f96) (rs := [.tmp 2]) (vs := [_]) hE rfl ⟨rfl, trivial⟩ ?_
         subst hr
         replace hS := hS.tail
         replace hS := hS.tail
         exact ⟨rfl, hS⟩
        ·replace hq60 := iteF hc111 hq60
         refine W.skip ?_
         refine W.seq (W.region ?_)
         refine vP hS hE (Gives.fld hE rfl fl42_3) rfl ?_; clear hE a; intro a hE
         refine vP hS hE (Gives.loadB hE 0 rfl rfl rfl ty23) rfl ?_; clear hE a; intro a hE
         refine vP hS hE (Gives.len hE rfl sl23) rfl ?_; clear hE a; intro a hE
         refine vP hS hE (Gives.p hE rfl) rfl ?_; clear hE a; intro a hE
         refine WL.nil ?_
         obtain ⟨q113, hq112, hq60⟩ := bndS hq60
         refine W.cut (fun a w => (.next ()) = q113 ∧ Rep a 85 [(1, .pointer (some ⟨b51, 0, none⟩)), (22, .slice a0_0 x0.Trains.length c0_0), (23, .int .i64 ((x0.Trains).length : Int)), (24, .int .i64 ((k62 : Nat) : Int))] ∧ St w s (pt b82 (.cells #[.int .i64 x63.No, .int .i64 x63.Stock, .slice a76 x63.Stops.length c77, .slice a79 x63.Legs.length c80] 42 (0, 0)) :: pt b51 (.cells #[.slice a0_0 x0.Trains.length c0_0, .slice a0_1 x0.Turns.length c0_1] 25 (0, 0)) :: R)) ?_ ?_
         ·refine W.block ?_
          refine W.loop (fun m a w => ∃ (rest116 : List (List Int)) (k114 : Nat), rest116.length = m ∧ x63.Legs.drop k114 = rest116 ∧ Planform.loop3 rest116 = q113 ∧ Rep a 85 [(1, .pointer (some ⟨b51, 0, none⟩)), (22, .slice a0_0 x0.Trains.length c0_0), (23, .int .i64 ((x0.Trains).length : Int)), (24, .int .i64 ((k62 : Nat) : Int)), (58, .slice a79 x63.Legs.length c80), (59, .int .i64 ((x63.Legs).length : Int)), (60, .int .i64 ((k114 : Nat) : Int))] ∧ St w s (pt b82 (.cells #[.int .i64 x63.No, .int .i64 x63.Stock, .slice a76 x63.Stops.length c77, .slice a79 x63.Legs.length c80] 42 (0, 0)) :: pt b51 (.cells #[.slice a0_0 x0.Trains.length c0_0, .slice a0_1 x0.Turns.length c0_1] 25 (0, 0)) :: R)) (m := x63.Legs.length) ⟨x63.Legs, 0, rfl, rfl, hq112, hE.pick _ ⟨rfl, rfl, rfl, rfl, rfl, rfl, rfl, trivial⟩, hS⟩ ?_
          clear hE hS a w hq112; rintro m120 a w ⟨rest116, k114, rfl, hd117, hq112, hE, hS⟩
          refine W.gen fun K123 hK123 => ?_
          rcases rest116 with _ | ⟨x115, rest116⟩
          ·have hlt118 := drop_nil hd117
           refine W.seq (W.region ?_)
           refine vP hS hE (Gives.p hE rfl) rfl ?_; clear hE a; intro a hE
           refine WL.nil ?_
           refine W.seq ?_
           refine W.condF hE rfl (decide_eq_false (by omega)) ?_
           subst hK123
           refine W.exit rfl ?_
           exact ⟨hq112, hE.pick _ ⟨rfl, rfl, rfl, rfl, trivial⟩, hS⟩
          ·obtain ⟨hlt118, hx119, hd117⟩ := drop_cons hd117
           rw [Planform.loop3] at hq112
           refine W.seq (W.region ?_)
           refine vP hS hE (Gives.p hE rfl) rfl ?_; clear hE a; intro a hE
           refine WL.nil ?_
           refine W.seq ?_
           refine W.condT hE rfl (decide_eq_true (by omega)) ?_
           refine W.skip ?_
           refine W.seq ?_
           refine W.block ?_
           refine W.seq (W.region ?_)
           obtain ⟨cs124, hl125, hR126, hat127⟩ := h81.at hx119
           obtain ⟨a128, c129, rfl, h130⟩ := hR126
           refine vP hS hE (Gives.idx hE k114 rfl rfl sl23 rfl hlt118 (h81.aok hlt118)) rfl ?_; clear hE a; intro a hE
           refine vP hS hE (Gives.load1 hE rfl (fun w h => hat127 w _ h) ty37) rfl ?_; clear hE a; intro a hE
           refine vP hS hE (Gives.p hE rfl) rfl ?_; clear hE a; intro a hE
           refine WL.nil ?_
           refine W.seq (W.region ?_)
           refine vP hS hE (Gives.p hE rfl) rfl ?_; clear hE a; intro a hE
           refine vP hS hE (Gives.len hE rfl sl37) rfl ?_; clear hE a; intro a hE
           refine vP hS hE (Gives.p hE rfl) rfl ?_; clear hE a; intro a hE
           refine WL.nil ?_
           refine W.cond hE rfl (fun hc131 => ?_) (fun hc131 => ?_)
           ·replace hq112 := iteT hc131 hq112
            refine W.seq (W.region ?_)
            refine vP hS hE (Gives.p hE rfl) rfl ?_; clear hE a; intro a hE
            refine WL.nil ?_
            refine W.ret ?_
            subst hK123
            subst hK71
            rw [← hq112] at hq60
            dsimp only at hq60
            rw [← hq60] at hr
            dsimp only at hr
            refine finG (fn := Tryz.f96) (rs := [.tmp 2]) (vs := [_]) hE rfl ⟨rfl, trivial⟩ ?_
            subst hr
            replace hS := hS.tail
            replace hS := hS.tail
            exact ⟨rfl, hS⟩
           ·replace hq112 := iteF hc131 hq112
            refine W.skip ?_
            refine W.region ?_
            refine vP hS hE (Gives.inc hE rfl (by have := h81.small; omega)) rfl ?_; clear hE a; intro a hE
            refine vP hS hE (Gives.p hE rfl) rfl ?_; clear hE a; intro a hE
            refine WL.nil ?_
            subst hK123
            exact ⟨rest116.length, Nat.lt_succ_self _, rest116, k114 + 1, rfl, hd117, hq112, hE.pick _ ⟨rfl, rfl, rfl, rfl, rfl, rfl, rfl, trivial⟩, hS⟩
         ·clear hE hS a w; rintro a w ⟨rfl, hE, hS⟩
          dsimp only at hq60
          refine W.region ?_
          refine vP hS hE (Gives.inc hE rfl (by have := h0_0.small; omega)) rfl ?_; clear hE a; intro a hE
          refine vP hS hE (Gives.p hE rfl) rfl ?_; clear hE a; intro a hE
          refine WL.nil ?_
          replace hS := hS.tail
          subst hK71
          exact ⟨rest64.length, Nat.lt_succ_self _, rest64, k62 + 1, rfl, hd65, hq60, hE.pick _ ⟨rfl, rfl, rfl, rfl, trivial⟩, hS⟩
   ·clear hE hS a w; rintro a w ⟨rfl, hE, hS⟩
    dsimp only at hr
    refine W.seq ?_
    refine W.seq (W.region ?_)
    refine vP hS hE (Gives.fld hE rfl fl25_1) rfl ?_; clear hE a; intro a hE
    refine vP hS hE (Gives.loadB hE 0 rfl rfl rfl ty23) rfl ?_; clear hE a; intro a hE
    refine vP hS hE (Gives.len hE rfl sl23) rfl ?_; clear hE a; intro a hE
    refine vP hS hE (Gives.p hE rfl) rfl ?_; clear hE a; intro a hE
    refine WL.nil ?_
    obtain ⟨q133, hq132, hr⟩ := bndS hr
    refine W.cut (fun a w => (.next ()) = q133 ∧ Rep a 85 [] ∧ St w s (pt b51 (.cells #[.slice a0_0 x0.Trains.length c0_0, .slice a0_1 x0.Turns.length c0_1] 25 (0, 0)) :: R)) ?_ ?_
    ·refine W.block ?_
     refine W.loop (fun m a w => ∃ (rest136 : List (List Int)) (k134 : Nat), rest136.length = m ∧ x0.Turns.drop k134 = rest136 ∧ Planform.loop4 rest136 = q133 ∧ Rep a 85 [(70, .slice a0_1 x0.Turns.length c0_1), (71, .int .i64 ((x0.Turns).length : Int)), (72, .int .i64 ((k134 : Nat) : Int))] ∧ St w s (pt b51 (.cells #[.slice a0_0 x0.Trains.length c0_0, .slice a0_1 x0.Turns.length c0_1] 25 (0, 0)) :: R)) (m := x0.Turns.length) ⟨x0.Turns, 0, rfl, rfl, hq132, hE.pick _ ⟨rfl, rfl, rfl, trivial⟩, hS⟩ ?_
     clear hE hS a w hq132; rintro m140 a w ⟨rest136, k134, rfl, hd137, hq132, hE, hS⟩
     refine W.gen fun K143 hK143 => ?_
     rcases rest136 with _ | ⟨x135, rest136⟩
     ·have hlt138 := drop_nil hd137
      refine W.seq (W.region ?_)
      refine vP hS hE (Gives.p hE rfl) rfl ?_; clear hE a; intro a hE
      refine WL.nil ?_
      refine W.seq ?_
      refine W.condF hE rfl (decide_eq_false (by omega)) ?_
      subst hK143
      refine W.exit rfl ?_
      exact ⟨hq132, hE.pick _ trivial, hS⟩
     ·obtain ⟨hlt138, hx139, hd137⟩ := drop_cons hd137
      rw [Planform.loop4] at hq132
      refine W.seq (W.region ?_)
      refine vP hS hE (Gives.p hE rfl) rfl ?_; clear hE a; intro a hE
      refine WL.nil ?_
      refine W.seq ?_
      refine W.condT hE rfl (decide_eq_true (by omega)) ?_
      refine W.skip ?_
      refine W.seq ?_
      refine W.block ?_
      refine W.seq (W.region ?_)
      obtain ⟨cs144, hl145, hR146, hat147⟩ := h0_1.at hx139
      obtain ⟨a148, c149, rfl, h150⟩ := hR146
      refine vP hS hE (Gives.idx hE k134 rfl rfl sl23 rfl hlt138 (h0_1.aok hlt138)) rfl ?_; clear hE a; intro a hE
      refine vP hS hE (Gives.load1 hE rfl (fun w h => hat147 w _ h) ty37) rfl ?_; clear hE a; intro a hE
      refine vP hS hE (Gives.p hE rfl) rfl ?_; clear hE a; intro a hE
      refine WL.nil ?_
      refine W.block ?_
      refine W.seq (W.region ?_)
      refine vP hS hE (Gives.p hE rfl) rfl ?_; clear hE a; intro a hE
      refine vP hS hE (Gives.len hE rfl sl37) rfl ?_; clear hE a; intro a hE
      refine vP hS hE (Gives.p hE rfl) rfl ?_; clear hE a; intro a hE
      refine vP hS hE (Gives.p hE rfl) rfl ?_; clear hE a; intro a hE
      refine WL.nil ?_
      refine W.cond hE rfl (fun hc151 => ?_) (fun hc151 => ?_)
      ·replace hq132 := iteT hc151 hq132
       refine W.seq (W.region ?_)
       refine vP hS hE (Gives.p hE rfl) rfl ?_; clear hE a; intro a hE
       refine WL.nil ?_
       refine W.ret ?_
       subst hK143
       rw [← hq132] at hr
       dsimp only at hr
       refine finG (fn := Tryz.f96) (rs := [.tmp 2]) (vs := [_]) hE rfl ⟨rfl, trivial⟩ ?_
       subst hr
       replace hS := hS.tail
       exact ⟨rfl, hS⟩
      ·replace hq132 := iteF hc151 hq132
       refine W.seq (W.region ?_)
       refine vP hS hE (Gives.p hE rfl) rfl ?_; clear hE a; intro a hE
       refine vP hS hE (Gives.len hE rfl sl37) rfl ?_; clear hE a; intro a hE
       refine vP hS hE (Gives.p hE rfl) rfl ?_; clear hE a; intro a hE
       refine vP hS hE (Gives.p hE rfl) rfl ?_; clear hE a; intro a hE
       refine WL.nil ?_
       refine W.cond hE rfl (fun hc152 => ?_) (fun hc152 => ?_)
       ·replace hq132 := iteT hc152 hq132
        refine W.seq (W.region ?_)
        refine vP hS hE (Gives.p hE rfl) rfl ?_; clear hE a; intro a hE
        refine WL.nil ?_
        refine W.ret ?_
        subst hK143
        rw [← hq132] at hr
        dsimp only at hr
        refine finG (fn := Tryz.f96) (rs := [.tmp 2]) (vs := [_]) hE rfl ⟨rfl, trivial⟩ ?_
        subst hr
        replace hS := hS.tail
        exact ⟨rfl, hS⟩
       ·replace hq132 := iteF hc152 hq132
        refine W.skip ?_
        refine W.region ?_
        refine vP hS hE (Gives.inc hE rfl (by have := h0_1.small; omega)) rfl ?_; clear hE a; intro a hE
        refine vP hS hE (Gives.p hE rfl) rfl ?_; clear hE a; intro a hE
        refine WL.nil ?_
        subst hK143
        exact ⟨rest136.length, Nat.lt_succ_self _, rest136, k134 + 1, rfl, hd137, hq132, hE.pick _ ⟨rfl, rfl, rfl, trivial⟩, hS⟩
    ·clear hE hS a w; rintro a w ⟨rfl, hE, hS⟩
     dsimp only at hr
     refine W.seq (W.region ?_)
     refine vP hS hE (Gives.p hE rfl) rfl ?_; clear hE a; intro a hE
     refine WL.nil ?_
     refine W.ret ?_
     refine finG (fn := Tryz.f96) (rs := [.tmp 2]) (vs := [_]) hE rfl ⟨rfl, trivial⟩ ?_
     subst hr
     replace hS := hS.tail
     exact ⟨rfl, hS⟩
set_option maxHeartbeats 8000000 in
theorem Planwithin_ok  {w : World} {s : Sg} {R : List HP} {x0 : Int} {x1 : Int} {x2 : Int} (hS : St w s (R))  {r : Bool} (hr : Planwithin x0 x1 x2 = r) :
  Calls Tryz.prog 98 [.int .i64 x0, .int .i64 x1, .int .i64 x2].toArray w (fun e w => e = .returned (.bool r) ∧ St w s (R)) := by
 refine enter Tryz.func98 rfl rfl rfl fun a hE => ?_
 rw [Planwithin] at hr
 refine W.seq (W.region ?_)
 refine vP hS hE (Gives.p hE rfl) rfl ?_; clear hE a; intro a hE
 refine WL.nil ?_
 refine W.seq ?_
 obtain ⟨q52, hq51, hr⟩ := bndS hr
 refine W.cut (fun a w => ∃ (q55 : Bool), q55 = q52 ∧ Rep a 15 [(6, .bool q55)] ∧ St w s (R)) ?_ ?_
 ·refine W.gen fun K56 hK56 => ?_
  refine W.region ?_
  refine vP hS hE (Gives.p hE rfl) rfl ?_; clear hE a; intro a hE
  refine vP hS hE (Gives.p hE rfl) rfl ?_; clear hE a; intro a hE
  refine vP hS hE (Gives.p hE rfl) rfl ?_; clear hE a; intro a hE
  refine vP hS hE (Gives.p hE rfl) rfl ?_; clear hE a; intro a hE
  rcases Bool.eq_false_or_eq_true (decide (x0 ≥ x1)) with hg57 | hg57
  ·replace hq51 := iteT hg57 hq51
   refine WL.vS hS hE (runs_if hE rfl rfl rfl hg57) (Gives.p hE rfl) rfl ?_; clear hE a; intro a hE
   refine WL.vS hS hE (runs_if hE rfl rfl rfl hg57) (Gives.p hE rfl) rfl ?_; clear hE a; intro a hE
   refine WL.vS hS hE (runs_if hE rfl rfl rfl hg57) (Gives.p hE rfl) rfl ?_; clear hE a; intro a hE
   refine vP hS hE (Gives.pickT hE rfl hg57 rfl) rfl ?_; clear hE a; intro a hE
   refine vP hS hE (Gives.p hE rfl) rfl ?_; clear hE a; intro a hE
   refine WL.nil ?_
   subst hK56
   exact ⟨decide (x0 ≤ x2), hq51, hE.pick _ ⟨rfl, trivial⟩, hS⟩
  ·replace hq51 := iteF hg57 hq51
   refine WL.no hE (runs_not hE rfl rfl rfl (by rw [hg57]; decide)) rfl ?_; clear hE a; intro a hE
   refine WL.no hE (runs_not hE rfl rfl rfl (by rw [hg57]; decide)) rfl ?_; clear hE a; intro a hE
   refine WL.no hE (runs_not hE rfl rfl rfl (by rw [hg57]; decide)) rfl ?_; clear hE a; intro a hE
   refine vP hS hE (Gives.pickF hE rfl hg57 rfl) rfl ?_; clear hE a; intro a hE
   refine vP hS hE (Gives.p hE rfl) rfl ?_; clear hE a; intro a hE
   refine WL.nil ?_
   subst hK56
   exact ⟨false, hq51, hE.pick _ ⟨rfl, trivial⟩, hS⟩
 ·clear hE hS a w; rintro a w ⟨q55, rfl, hE, hS⟩
  refine W.ret ?_
  refine finG (fn := Tryz.f98) (rs := [.tmp 6]) (vs := [_]) hE rfl ⟨rfl, trivial⟩ ?_
  subst hr
  exact ⟨rfl, hS⟩
set_option maxHeartbeats 8000000 in
theorem Plansentence_ok  {w : World} {s : Sg} {R : List HP} {x0 : ByteArray} {x1 : List Int} {a1 : Option Addr} {c1 : Nat} (hS : St w s (R)) (hTab : TabX s) (h1 : Sl 1 (RI .i64) s a1 c1 x1) {r : ByteArray} (hr : Plansentence x0 x1 = some r) :
  Calls Tryz.prog 100 [.string x0, .slice a1 x1.length c1].toArray w (fun e w => e = .returned (.string r) ∧ St w s (R)) := by
 refine enter Tryz.func100 rfl rfl rfl fun a hE => ?_
 rw [Plansentence] at hr
 refine W.seq (W.region ?_)
 refine vP hS hE (Gives.p hE rfl) rfl ?_; clear hE a; intro a hE
 refine WL.nil ?_
 refine W.seq ?_
 refine W.seq (W.region ?_)
 refine vP hS hE (Gives.p hE rfl) rfl ?_; clear hE a; intro a hE
 refine vP hS hE (Gives.len hE rfl sl37) rfl ?_; clear hE a; intro a hE
 refine vP hS hE (Gives.p hE rfl) rfl ?_; clear hE a; intro a hE
 refine WL.nil ?_
 obtain ⟨q52, hq51, hr⟩ := bindS hr
 refine W.cut (fun a w => ∃ (q62 : ByteArray), q62 = q52 ∧ Rep a 21 [(0, .string q62)] ∧ St w s (R)) ?_ ?_
 ·refine W.block ?_
  refine W.loop (fun m a w => ∃ (rest55 : List Int) (k53 : Nat), ∃ (q62 : ByteArray), rest55.length = m ∧ x1.drop k53 = rest55 ∧ Plansentence.loop1 rest55 q62 = some q52 ∧ Rep a 21 [(0, .string q62), (7, .slice a1 x1.length c1), (8, .int .i64 ((x1).length : Int)), (9, .int .i64 ((k53 : Nat) : Int))] ∧ St w s (R)) (m := x1.length) ⟨x1, 0, x0, rfl, rfl, hq51, hE.pick _ ⟨rfl, rfl, rfl, rfl, trivial⟩, hS⟩ ?_
  clear hE hS a w hq51; rintro m59 a w ⟨rest55, k53, q62, rfl, hd56, hq51, hE, hS⟩
  refine W.gen fun K63 hK63 => ?_
  rcases rest55 with _ | ⟨x54, rest55⟩
  ·have hlt57 := drop_nil hd56
   refine W.seq (W.region ?_)
   refine vP hS hE (Gives.p hE rfl) rfl ?_; clear hE a; intro a hE
   refine WL.nil ?_
   refine W.seq ?_
   refine W.condF hE rfl (decide_eq_false (by omega)) ?_
   subst hK63
   refine W.exit rfl ?_
   exact ⟨q62, Option.some.inj hq51, hE.pick _ ⟨rfl, trivial⟩, hS⟩
  ·obtain ⟨hlt57, hx58, hd56⟩ := drop_cons hd56
   rw [Plansentence.loop1] at hq51
   refine W.seq (W.region ?_)
   refine vP hS hE (Gives.p hE rfl) rfl ?_; clear hE a; intro a hE
   refine WL.nil ?_
   refine W.seq ?_
   refine W.condT hE rfl (decide_eq_true (by omega)) ?_
   refine W.skip ?_
   refine W.seq ?_
   refine W.block ?_
   refine W.seq (W.region ?_)
   obtain ⟨cs64, hl65, hR66, hat67⟩ := h1.at hx58
   subst hR66
   refine vP hS hE (Gives.idx hE k53 rfl rfl sl37 rfl hlt57 (h1.aok hlt57)) rfl ?_; clear hE a; intro a hE
   refine vP hS hE (Gives.load1 hE rfl (fun w h => hat67 w _ h) ty3) rfl ?_; clear hE a; intro a hE
   refine vP hS hE (Gives.p hE rfl) rfl ?_; clear hE a; intro a hE
   refine WL.nil ?_
   refine W.region ?_
   refine vP hS hE (Gives.p hE rfl) rfl ?_; clear hE a; intro a hE
   refine vP hS hE (Gives.p hE rfl) rfl ?_; clear hE a; intro a hE
   obtain ⟨q68, hq69, hq51⟩ := bindS hq51
   refine WL.fnq hE (itoa_ok hS (TabG.mono (Sg.Le.refl _) hTab).tab hq69) (runs_plain rfl) bd31 rfl rfl rfl ?_
   clear hE hS; rintro e w ⟨rfl, hS⟩; refine ⟨_, rfl, ?_⟩; clear a; intro a hE
   obtain ⟨x70, hx71, hq51⟩ := bindS hq51
   refine vP hS hE (Gives.catS hE rfl rfl hx71) rfl ?_; clear hE a; intro a hE
   obtain ⟨x72, hx73, hq51⟩ := bindS hq51
   refine vP hS hE (Gives.catS hE rfl rfl hx73) rfl ?_; clear hE a; intro a hE
   refine vP hS hE (Gives.p hE rfl) rfl ?_; clear hE a; intro a hE
   refine WL.nil ?_
   refine W.region ?_
   refine vP hS hE (Gives.inc hE rfl (by have := h1.small; omega)) rfl ?_; clear hE a; intro a hE
   refine vP hS hE (Gives.p hE rfl) rfl ?_; clear hE a; intro a hE
   refine WL.nil ?_
   subst hK63
   exact ⟨rest55.length, Nat.lt_succ_self _, rest55, k53 + 1, x72, rfl, hd56, hq51, hE.pick _ ⟨rfl, rfl, rfl, rfl, trivial⟩, hS⟩
 ·clear hE hS a w; rintro a w ⟨q62, rfl, hE, hS⟩
  refine W.seq (W.region ?_)
  refine vP hS hE (Gives.p hE rfl) rfl ?_; clear hE a; intro a hE
  obtain ⟨x74, hx75, hr⟩ := bindS hr
  refine vP hS hE (Gives.catS hE rfl rfl hx75) rfl ?_; clear hE a; intro a hE
  refine vP hS hE (Gives.p hE rfl) rfl ?_; clear hE a; intro a hE
  refine WL.nil ?_
  refine W.ret ?_
  refine finG (fn := Tryz.f100) (rs := [.tmp 4]) (vs := [_]) hE rfl ⟨rfl, trivial⟩ ?_
  obtain rfl := Option.some.inj hr
  exact ⟨rfl, hS⟩
set_option maxHeartbeats 8000000 in
theorem PlanText_1_v1_ok  {w : World} {s : Sg} {R : List HP} {pb0 : Nat} {pb1 : Nat} {x0 : ByteArray} {x1 : List Int} {a1 : Option Addr} {c1 : Nat} {y0 : Bool} {y1_0 : ByteArray} (hS : St w s (pt pb0 (.cells #[.bool y0] 4 (0, 0)) :: sbC 158 5 pb1 y1_0 :: R)) (hTab : TabX s) (h1 : Sl 1 (RI .i64) s a1 c1 x1) {r : Bool × ByteArray} (hr : PlanText_1_v1 x0 x1 y0 y1_0 = some r) :
  Calls Tryz.prog 97 [.string x0, .slice a1 x1.length c1, .pointer (some ⟨pb0, 0, none⟩), .pointer (some ⟨pb1, 0, none⟩)].toArray w (fun e w => e = .returned (.tuple #[]) ∧ St w s (pt pb0 (.cells #[.bool r.1] 4 (0, 0)) :: sbC 158 5 pb1 r.2 :: R)) := by
 refine enter Tryz.func97 rfl rfl rfl fun a hE => ?_
 rw [PlanText_1_v1] at hr
 refine W.seq ?_
 refine W.seq (W.region ?_)
 refine vP hS hE (Gives.p hE rfl) rfl ?_; clear hE a; intro a hE
 refine vP hS hE (Gives.len hE rfl sl37) rfl ?_; clear hE a; intro a hE
 refine vP hS hE (Gives.p hE rfl) rfl ?_; clear hE a; intro a hE
 refine WL.nil ?_
 obtain ⟨q54, hq53, hr⟩ := bndS hr
 refine W.cut (fun a w => ∃ (q64 : Bool), q64 = q54 ∧ Rep a 24 [(0, .string x0), (1, .slice a1 x1.length c1), (3, .pointer (some ⟨pb1, 0, none⟩))] ∧ St w s (pt pb0 (.cells #[.bool q64] 4 (0, 0)) :: sbC 158 5 pb1 y1_0 :: R)) ?_ ?_
 ·refine W.block ?_
  refine W.loop (fun m a w => ∃ (rest57 : List Int) (k55 : Nat), ∃ (q64 : Bool), rest57.length = m ∧ x1.drop k55 = rest57 ∧ PlanText_1_v1.loop1 rest57 q64 = q54 ∧ Rep a 24 [(0, .string x0), (1, .slice a1 x1.length c1), (2, .pointer (some ⟨pb0, 0, none⟩)), (3, .pointer (some ⟨pb1, 0, none⟩)), (8, .slice a1 x1.length c1), (9, .int .i64 ((x1).length : Int)), (10, .int .i64 ((k55 : Nat) : Int))] ∧ St w s (pt pb0 (.cells #[.bool q64] 4 (0, 0)) :: sbC 158 5 pb1 y1_0 :: R)) (m := x1.length) ⟨x1, 0, y0, rfl, rfl, hq53, hE.pick _ ⟨rfl, rfl, rfl, rfl, rfl, rfl, rfl, trivial⟩, hS⟩ ?_
  clear hE hS a w hq53; rintro m61 a w ⟨rest57, k55, q64, rfl, hd58, hq53, hE, hS⟩
  refine W.gen fun K65 hK65 => ?_
  rcases rest57 with _ | ⟨x56, rest57⟩
  ·have hlt59 := drop_nil hd58
   refine W.seq (W.region ?_)
   refine vP hS hE (Gives.p hE rfl) rfl ?_; clear hE a; intro a hE
   refine WL.nil ?_
   refine W.seq ?_
   refine W.condF hE rfl (decide_eq_false (by omega)) ?_
   subst hK65
   refine W.exit rfl ?_
   exact ⟨q64, hq53, hE.pick _ ⟨rfl, rfl, rfl, trivial⟩, hS⟩
  ·obtain ⟨hlt59, hx60, hd58⟩ := drop_cons hd58
   rw [PlanText_1_v1.loop1] at hq53
   refine W.seq (W.region ?_)
   refine vP hS hE (Gives.p hE rfl) rfl ?_; clear hE a; intro a hE
   refine WL.nil ?_
   refine W.seq ?_
   refine W.condT hE rfl (decide_eq_true (by omega)) ?_
   refine W.skip ?_
   refine W.seq ?_
   refine W.block ?_
   refine W.seq (W.region ?_)
   obtain ⟨cs66, hl67, hR68, hat69⟩ := h1.at hx60
   subst hR68
   refine vP hS hE (Gives.idx hE k55 rfl rfl sl37 rfl hlt59 (h1.aok hlt59)) rfl ?_; clear hE a; intro a hE
   refine vP hS hE (Gives.load1 hE rfl (fun w h => hat69 w _ h) ty3) rfl ?_; clear hE a; intro a hE
   refine vP hS hE (Gives.p hE rfl) rfl ?_; clear hE a; intro a hE
   refine WL.nil ?_
   obtain ⟨q71, hq70, hq53⟩ := bndS hq53
   refine W.cut (fun a w => ∃ (q74 : Bool), q74 = q71 ∧ Rep a 24 [(0, .string x0), (1, .slice a1 x1.length c1), (2, .pointer (some ⟨pb0, 0, none⟩)), (3, .pointer (some ⟨pb1, 0, none⟩)), (8, .slice a1 x1.length c1), (9, .int .i64 ((x1).length : Int)), (10, .int .i64 ((k55 : Nat) : Int))] ∧ St w s (pt pb0 (.cells #[.bool q74] 4 (0, 0)) :: sbC 158 5 pb1 y1_0 :: R)) ?_ ?_
   ·refine W.gen fun K75 hK75 => ?_
    refine W.region ?_
    refine vP hS hE (Gives.loadB hE 0 rfl rfl rfl ty4) rfl ?_; clear hE a; intro a hE
    refine vP hS hE (Gives.p hE rfl) rfl ?_; clear hE a; intro a hE
    rcases Bool.eq_false_or_eq_true q64 with hg76 | hg76
    ·replace hq70 := iteT hg76 hq70
     refine WL.vS hS hE (runs_if hE rfl rfl rfl hg76) (Gives.p hE rfl) rfl ?_; clear hE a; intro a hE
     refine WL.fnq hE (Planwithin_ok hS  rfl (r := Planwithin x56 0 999999)) (runs_if hE rfl rfl rfl hg76) bd98 rfl rfl rfl ?_
     clear hE hS; rintro e w ⟨rfl, hS⟩; refine ⟨_, rfl, ?_⟩; clear a; intro a hE
     refine vP hS hE (Gives.pickT hE rfl hg76 rfl) rfl ?_; clear hE a; intro a hE
     refine WL.storeI hE hS 0 rfl [.bool (Planwithin x56 0 999999)] (runs_plain rfl) rfl rfl rfl ty4 rfl rfl rfl rfl ?_; clear hE hS a w; intro a w hE hS
     refine WL.nil ?_
     subst hK75
     exact ⟨(Planwithin x56 0 999999), hq70, hE.pick _ ⟨rfl, rfl, rfl, rfl, rfl, rfl, rfl, trivial⟩, hS⟩
    ·replace hq70 := iteF hg76 hq70
     refine WL.no hE (runs_not hE rfl rfl rfl (by rw [hg76]; decide)) rfl ?_; clear hE a; intro a hE
     refine WL.no hE (runs_not hE rfl rfl rfl (by rw [hg76]; decide)) rfl ?_; clear hE a; intro a hE
     refine vP hS hE (Gives.pickF hE rfl hg76 rfl) rfl ?_; clear hE a; intro a hE
     refine WL.storeI hE hS 0 rfl [.bool false] (runs_plain rfl) rfl rfl rfl ty4 rfl rfl rfl rfl ?_; clear hE hS a w; intro a w hE hS
     refine WL.nil ?_
     subst hK75
     exact ⟨false, hq70, hE.pick _ ⟨rfl, rfl, rfl, rfl, rfl, rfl, rfl, trivial⟩, hS⟩
   ·clear hE hS a w; rintro a w ⟨q74, rfl, hE, hS⟩
    refine W.region ?_
    refine vP hS hE (Gives.inc hE rfl (by have := h1.small; omega)) rfl ?_; clear hE a; intro a hE
    refine vP hS hE (Gives.p hE rfl) rfl ?_; clear hE a; intro a hE
    refine WL.nil ?_
    subst hK65
    exact ⟨rest57.length, Nat.lt_succ_self _, rest57, k55 + 1, q74, rfl, hd58, hq53, hE.pick _ ⟨rfl, rfl, rfl, rfl, rfl, rfl, rfl, trivial⟩, hS⟩
 ·clear hE hS a w; rintro a w ⟨q64, rfl, hE, hS⟩
  refine W.region ?_
  refine vP hS hE (Gives.p hE rfl) rfl ?_; clear hE a; intro a hE
  refine vP hS hE (Gives.p hE rfl) rfl ?_; clear hE a; intro a hE
  obtain ⟨q77, hq78, hr⟩ := bindS hr
  have hc_ := Plansentence_ok hS (TabG.mono (Sg.Le.refl _) hTab) h1 hq78
  refine WL.fnq hE (hc_) (runs_plain rfl) bd100 rfl rfl rfl ?_
  clear hE hS hc_; rintro e w ⟨rfl, hS⟩; refine ⟨_, rfl, ?_⟩; clear a; intro a hE
  replace hS := hS.front 1 rfl
  obtain ⟨q79, hq80, hr⟩ := bindS hr
  refine WL.fnq hE (sbWrite_ok hS hq80) (runs_plain rfl) bd99 rfl rfl rfl ?_
  clear hE hS; rintro e w ⟨rfl, hS⟩; refine ⟨_, rfl, ?_⟩; clear a; intro a hE
  refine WL.nil ?_
  refine finG (fn := Tryz.f97) (rs := []) (vs := []) hE rfl trivial ?_
  obtain rfl := Option.some.inj hr
  replace hS := hS.front 1 rfl
  exact ⟨rfl, hS⟩
set_option maxHeartbeats 8000000 in
theorem PlanText_ok  {w : World} {s : Sg} {R : List HP} {x0 : ApiDay} {a0_0 : Option Addr} {c0_0 : Nat} {a0_1 : Option Addr} {c0_1 : Nat} (hS : St w s (R)) (hTab : TabX s) (h0_0 : Sl 4 RApiTrain s a0_0 c0_0 x0.Trains) (h0_1 : Sl 1 (RL 1 (RI .i64)) s a0_1 c0_1 x0.Turns) {r : ByteArray × Int} (hr : PlanText x0 = some r) :
  Calls Tryz.prog 80 [.agg (List.toArray [.slice a0_0 x0.Trains.length c0_0, .slice a0_1 x0.Turns.length c0_1])].toArray w (fun e w => e = .returned (.tuple #[.string r.1, .int .i64 r.2]) ∧ St w s (R)) := by
 refine enter Tryz.func80 rfl rfl rfl fun a hE => ?_
 rw [PlanText] at hr
 refine W.seq (W.region ?_)
 refine WL.box hE hS (runs_plain rfl) rfl rfl rfl ?_; clear hE hS a w; intro b51 a w hE hS
 refine vP hS hE (Gives.p hE rfl) rfl ?_; clear hE a; intro a hE
 refine vP hS hE (Gives.p hE rfl) rfl ?_; clear hE a; intro a hE
 refine WL.nil ?_
 refine W.seq ?_
 refine W.seq (W.region ?_)
 refine vP hS hE (Gives.loadBA hE 0 rfl rfl ty25) rfl ?_; clear hE a; intro a hE
 refine WL.fnq hE (Planform_ok hS h0_0 h0_1 rfl (r := Planform x0)) (runs_plain rfl) bd96 rfl rfl rfl ?_
 clear hE hS; rintro e w ⟨rfl, hS⟩; refine ⟨_, rfl, ?_⟩; clear a; intro a hE
 refine vP hS hE (Gives.p hE rfl) rfl ?_; clear hE a; intro a hE
 refine WL.nil ?_
 refine W.seq (W.region ?_)
 refine vP hS hE (Gives.p hE rfl) rfl ?_; clear hE a; intro a hE
 refine vP hS hE (Gives.p hE rfl) rfl ?_; clear hE a; intro a hE
 refine WL.nil ?_
 refine W.cond hE rfl (fun hc52 => ?_) (fun hc52 => ?_)
 ·replace hr := iteT hc52 hr
  refine W.seq (W.region ?_)
  refine vP hS hE (Gives.p hE rfl) rfl ?_; clear hE a; intro a hE
  refine vP hS hE (Gives.p hE rfl) rfl ?_; clear hE a; intro a hE
  refine vP hS hE (Gives.p hE rfl) rfl ?_; clear hE a; intro a hE
  refine WL.nil ?_
  refine W.ret ?_
  refine finG (fn := Tryz.f80) (rs := [.tmp 2, .tmp 3]) (vs := [_, _]) hE rfl ⟨rfl, rfl, trivial⟩ ?_
  obtain rfl := Option.some.inj hr
  replace hS := hS.tail
  exact ⟨rfl, hS⟩
 ·replace hr := iteF hc52 hr
  refine W.skip ?_
  refine W.seq (W.region ?_)
  refine WL.alloc hE hS (runs_plain rfl) zr158 rfl ?_; clear hE hS a w; intro b53 a w hE hS
  replace hS := hS.sbNew 5
  refine WL.nil ?_
  refine W.seq (W.region ?_)
  refine WL.alloc hE hS (runs_plain rfl) zr4 rfl ?_; clear hE hS a w; intro b54 a w hE hS
  refine WL.storeI hE hS 0 rfl [.bool true] (runs_plain rfl) rfl rfl rfl ty4 rfl rfl rfl rfl ?_; clear hE hS a w; intro a w hE hS
  refine WL.nil ?_
  refine W.seq (W.region ?_)
  refine vP hS hE (Gives.mkfn hE (vs := [.pointer (some ⟨b54, 0, none⟩), .pointer (some ⟨b53, 0, none⟩)]) rfl) rfl ?_; clear hE a; intro a hE
  refine vP hS hE (Gives.p hE rfl) rfl ?_; clear hE a; intro a hE
  refine WL.nil ?_
  refine W.seq ?_
  refine W.seq (W.region ?_)
  refine vP hS hE (Gives.fld hE rfl fl25_0) rfl ?_; clear hE a; intro a hE
  refine vP hS hE (Gives.loadB hE 2 rfl rfl rfl ty22) rfl ?_; clear hE a; intro a hE
  refine vP hS hE (Gives.len hE rfl sl22) rfl ?_; clear hE a; intro a hE
  refine vP hS hE (Gives.p hE rfl) rfl ?_; clear hE a; intro a hE
  refine WL.nil ?_
  obtain ⟨q56, hq55, hr⟩ := bindS hr
  refine W.cut (fun a w => ∃ (q66 : ByteArray), ∃ (q67 : Bool), ∃ (s64 : Sg), s.Le s64 ∧ (q66, q67) = q56 ∧ Rep a 81 [(1, .pointer (some ⟨b51, 0, none⟩)), (5, .pointer (some ⟨b53, 0, none⟩)), (6, .pointer (some ⟨b54, 0, none⟩)), (7, .func (.func 97) #[] #[.pointer (some ⟨b54, 0, none⟩), .pointer (some ⟨b53, 0, none⟩)])] ∧ St w s64 (pt b54 (.cells #[.bool q67] 4 (0, 0)) :: sbC 158 5 b53 q66 :: pt b51 (.cells #[.slice a0_0 x0.Trains.length c0_0, .slice a0_1 x0.Turns.length c0_1] 25 (0, 0)) :: R)) ?_ ?_
  ·refine W.block ?_
   refine W.loop (fun m a w => ∃ (rest59 : List ApiTrain) (k57 : Nat), ∃ (q66 : ByteArray), ∃ (q67 : Bool), ∃ (s64 : Sg), rest59.length = m ∧ x0.Trains.drop k57 = rest59 ∧ s.Le s64 ∧ PlanText.loop1 rest59 q66 q67 = some q56 ∧ Rep a 81 [(1, .pointer (some ⟨b51, 0, none⟩)), (5, .pointer (some ⟨b53, 0, none⟩)), (6, .pointer (some ⟨b54, 0, none⟩)), (7, .func (.func 97) #[] #[.pointer (some ⟨b54, 0, none⟩), .pointer (some ⟨b53, 0, none⟩)]), (23, .slice a0_0 x0.Trains.length c0_0), (24, .int .i64 ((x0.Trains).length : Int)), (25, .int .i64 ((k57 : Nat) : Int))] ∧ St w s64 (pt b54 (.cells #[.bool q67] 4 (0, 0)) :: sbC 158 5 b53 q66 :: pt b51 (.cells #[.slice a0_0 x0.Trains.length c0_0, .slice a0_1 x0.Turns.length c0_1] 25 (0, 0)) :: R)) (m := x0.Trains.length) ⟨x0.Trains, 0, ByteArray.empty, true, s, rfl, rfl, (Sg.Le.refl _), hq55, hE.pick _ ⟨rfl, rfl, rfl, rfl, rfl, rfl, rfl, trivial⟩, hS⟩ ?_
   clear hE hS a w hq55; rintro m63 a w ⟨rest59, k57, q66, q67, s64, rfl, hd60, hle65, hq55, hE, hS⟩
   refine W.gen fun K68 hK68 => ?_
   replace h0_0 := Sl.mono RApiTrain.mono hle65 h0_0
   replace h0_1 := Sl.mono (RL.mono RI.mono) hle65 h0_1
   rcases rest59 with _ | ⟨x58, rest59⟩
   ·have hlt61 := drop_nil hd60
    refine W.seq (W.region ?_)
    refine vP hS hE (Gives.p hE rfl) rfl ?_; clear hE a; intro a hE
    refine WL.nil ?_
    refine W.seq ?_
    refine W.condF hE rfl (decide_eq_false (by omega)) ?_
    subst hK68
    refine W.exit rfl ?_
    exact ⟨q66, q67, s64, hle65, Option.some.inj hq55, hE.pick _ ⟨rfl, rfl, rfl, rfl, trivial⟩, hS⟩
   ·obtain ⟨hlt61, hx62, hd60⟩ := drop_cons hd60
    rw [PlanText.loop1] at hq55
    refine W.seq (W.region ?_)
    refine vP hS hE (Gives.p hE rfl) rfl ?_; clear hE a; intro a hE
    refine WL.nil ?_
    refine W.seq ?_
    refine W.condT hE rfl (decide_eq_true (by omega)) ?_
    refine W.skip ?_
    refine W.seq ?_
    refine W.block ?_
    refine W.seq (W.region ?_)
    obtain ⟨cs69, hl70, hR71, hat72⟩ := h0_0.at hx62
    obtain ⟨a73, c74, a76, c77, rfl, h75, h78⟩ := hR71
    refine vP hS hE (Gives.idx hE k57 rfl rfl sl22 rfl hlt61 (h0_0.aok hlt61)) rfl ?_; clear hE a; intro a hE
    refine vP hS hE (Gives.loadA hE rfl (fun w h => hat72 w _ h) ty42) rfl ?_; clear hE a; intro a hE
    refine WL.alloc hE hS (runs_plain rfl) zr42 rfl ?_; clear hE hS a w; intro b79 a w hE hS
    refine WL.storeI hE hS 0 rfl [.int .i64 x58.No, .int .i64 x58.Stock, .slice a73 x58.Stops.length c74, .slice a76 x58.Legs.length c77] (runs_plain rfl) rfl rfl rfl ty42 rfl rfl rfl rfl ?_; clear hE hS a w; intro a w hE hS
    refine WL.nil ?_
    refine W.seq (W.region ?_)
    refine vP hS hE (Gives.p hE rfl) rfl ?_; clear hE a; intro a hE
    refine vP hS hE (Gives.fld hE rfl fl42_0) rfl ?_; clear hE a; intro a hE
    refine vP hS hE (Gives.loadB hE 0 rfl rfl rfl ty3) rfl ?_; clear hE a; intro a hE
    refine vP hS hE (Gives.fld hE rfl fl42_1) rfl ?_; clear hE a; intro a hE
    refine vP hS hE (Gives.loadB hE 0 rfl rfl rfl ty3) rfl ?_; clear hE a; intro a hE
    refine WL.lit hE hS (e := 3) (es := 1) (vs := [(0, .int .i64 x58.No), (1, .int .i64 x58.Stock)]) (cs := [.int .i64 x58.No, .int .i64 x58.Stock]) (runs_plain rfl) rfl (by kernel_rfl) rfl ?_; clear hE hS a w; intro b80 a w hE hS
    replace hS := hS.ptVec (es := 1) (m := 2) rfl (by decide)
    have h82 : Ev 1 (RI .i64) s64 [.int .i64 x58.No, .int .i64 x58.Stock] [x58.No, x58.Stock] := (Ev.cons (c1 := [.int .i64 x58.No]) rfl rfl (Ev.cons (c1 := [.int .i64 x58.Stock]) rfl rfl (Ev.nil)))
    have hF := hS.fixD RI.mono 0 rfl h82 (rfl); clear hS; obtain ⟨s83, hle84, hS, h85⟩ := hF
    replace h0_0 := Sl.mono RApiTrain.mono hle84 h0_0
    replace h75 := Sl.mono RApiStop.mono hle84 h75
    replace h78 := Sl.mono (RL.mono RI.mono) hle84 h78
    replace h0_1 := Sl.mono (RL.mono RI.mono) hle84 h0_1
    obtain ⟨q86, hq87, hq55⟩ := bindS hq55
    replace hS := hS.front 2 rfl
    replace hS := hS.front 2 rfl
    have hc_ := PlanText_1_v1_ok hS (TabG.mono (Sg.Le.trans hle65 hle84) hTab) h85 hq87
    refine WL.fnw hE (hc_) rfl (runs_plain rfl) bd97 rfl rfl rfl ?_
    clear hE hS hc_; rintro e w ⟨rfl, hS⟩; refine ⟨_, rfl, ?_⟩; clear a; intro a hE
    refine WL.nil ?_
    refine W.seq ?_
    refine W.seq (W.region ?_)
    refine vP hS hE (Gives.fld hE rfl fl42_2) rfl ?_; clear hE a; intro a hE
    refine vP hS hE (Gives.loadB hE 2 rfl rfl rfl ty40) rfl ?_; clear hE a; intro a hE
    refine vP hS hE (Gives.len hE rfl sl40) rfl ?_; clear hE a; intro a hE
    refine vP hS hE (Gives.p hE rfl) rfl ?_; clear hE a; intro a hE
    refine WL.nil ?_
    obtain ⟨q89, hq88, hq55⟩ := bindS hq55
    refine W.cut (fun a w => ∃ (q99 : ByteArray), ∃ (q100 : Bool), ∃ (s97 : Sg), s83.Le s97 ∧ (q99, q100) = q89 ∧ Rep a 81 [(1, .pointer (some ⟨b51, 0, none⟩)), (5, .pointer (some ⟨b53, 0, none⟩)), (6, .pointer (some ⟨b54, 0, none⟩)), (7, .func (.func 97) #[] #[.pointer (some ⟨b54, 0, none⟩), .pointer (some ⟨b53, 0, none⟩)]), (9, .pointer (some ⟨b79, 0, none⟩)), (23, .slice a0_0 x0.Trains.length c0_0), (24, .int .i64 ((x0.Trains).length : Int)), (25, .int .i64 ((k57 : Nat) : Int))] ∧ St w s97 (pt b54 (.cells #[.bool q100] 4 (0, 0)) :: sbC 158 5 b53 q99 :: pt b79 (.cells #[.int .i64 x58.No, .int .i64 x58.Stock, .slice a73 x58.Stops.length c74, .slice a76 x58.Legs.length c77] 42 (0, 0)) :: pt b51 (.cells #[.slice a0_0 x0.Trains.length c0_0, .slice a0_1 x0.Turns.length c0_1] 25 (0, 0)) :: R)) ?_ ?_
    ·refine W.block ?_
     refine W.loop (fun m a w => ∃ (rest92 : List ApiStop) (k90 : Nat), ∃ (q99 : ByteArray), ∃ (q100 : Bool), ∃ (s97 : Sg), rest92.length = m ∧ x58.Stops.drop k90 = rest92 ∧ s83.Le s97 ∧ PlanText.loop2 rest92 q99 q100 = some q89 ∧ Rep a 81 [(1, .pointer (some ⟨b51, 0, none⟩)), (5, .pointer (some ⟨b53, 0, none⟩)), (6, .pointer (some ⟨b54, 0, none⟩)), (7, .func (.func 97) #[] #[.pointer (some ⟨b54, 0, none⟩), .pointer (some ⟨b53, 0, none⟩)]), (9, .pointer (some ⟨b79, 0, none⟩)), (23, .slice a0_0 x0.Trains.length c0_0), (24, .int .i64 ((x0.Trains).length : Int)), (25, .int .i64 ((k57 : Nat) : Int)), (37, .slice a73 x58.Stops.length c74), (38, .int .i64 ((x58.Stops).length : Int)), (39, .int .i64 ((k90 : Nat) : Int))] ∧ St w s97 (pt b54 (.cells #[.bool q100] 4 (0, 0)) :: sbC 158 5 b53 q99 :: pt b79 (.cells #[.int .i64 x58.No, .int .i64 x58.Stock, .slice a73 x58.Stops.length c74, .slice a76 x58.Legs.length c77] 42 (0, 0)) :: pt b51 (.cells #[.slice a0_0 x0.Trains.length c0_0, .slice a0_1 x0.Turns.length c0_1] 25 (0, 0)) :: R)) (m := x58.Stops.length) ⟨x58.Stops, 0, q86.2, q86.1, s83, rfl, rfl, (Sg.Le.refl _), hq88, hE.pick _ ⟨rfl, rfl, rfl, rfl, rfl, rfl, rfl, rfl, rfl, rfl, rfl, trivial⟩, hS⟩ ?_
     clear hE hS a w hq88; rintro m96 a w ⟨rest92, k90, q99, q100, s97, rfl, hd93, hle98, hq88, hE, hS⟩
     refine W.gen fun K101 hK101 => ?_
     replace h0_0 := Sl.mono RApiTrain.mono hle98 h0_0
     replace h75 := Sl.mono RApiStop.mono hle98 h75
     replace h78 := Sl.mono (RL.mono RI.mono) hle98 h78
     replace h85 := Sl.mono RI.mono hle98 h85
     replace h0_1 := Sl.mono (RL.mono RI.mono) hle98 h0_1
     rcases rest92 with _ | ⟨x91, rest92⟩
     ·have hlt94 := drop_nil hd93
      refine W.seq (W.region ?_)
      refine vP hS hE (Gives.p hE rfl) rfl ?_; clear hE a; intro a hE
      refine WL.nil ?_
      refine W.seq ?_
      refine W.condF hE rfl (decide_eq_false (by omega)) ?_
      subst hK101
      refine W.exit rfl ?_
      exact ⟨q99, q100, s97, hle98, Option.some.inj hq88, hE.pick _ ⟨rfl, rfl, rfl, rfl, rfl, rfl, rfl, rfl, trivial⟩, hS⟩
     ·obtain ⟨hlt94, hx95, hd93⟩ := drop_cons hd93
      rw [PlanText.loop2] at hq88
      refine W.seq (W.region ?_)
      refine vP hS hE (Gives.p hE rfl) rfl ?_; clear hE a; intro a hE
      refine WL.nil ?_
      refine W.seq ?_
      refine W.condT hE rfl (decide_eq_true (by omega)) ?_
      refine W.skip ?_
      refine W.seq ?_
      refine W.block ?_
      refine W.seq (W.region ?_)
      obtain ⟨cs102, hl103, hR104, hat105⟩ := h75.at hx95
      subst hR104
      refine vP hS hE (Gives.idx hE k90 rfl rfl sl40 rfl hlt94 (h75.aok hlt94)) rfl ?_; clear hE a; intro a hE
      refine vP hS hE (Gives.loadA hE rfl (fun w h => hat105 w _ h) ty44) rfl ?_; clear hE a; intro a hE
      refine WL.alloc hE hS (runs_plain rfl) zr44 rfl ?_; clear hE hS a w; intro b106 a w hE hS
      refine WL.storeI hE hS 0 rfl (ApiStop.cells x91) (runs_plain rfl) rfl rfl rfl ty44 rfl rfl rfl rfl ?_; clear hE hS a w; intro a w hE hS
      refine WL.nil ?_
      refine W.region ?_
      refine vP hS hE (Gives.p hE rfl) rfl ?_; clear hE a; intro a hE
      refine vP hS hE (Gives.fld hE rfl fl44_0) rfl ?_; clear hE a; intro a hE
      refine vP hS hE (Gives.loadB hE 0 rfl rfl rfl ty3) rfl ?_; clear hE a; intro a hE
      refine vP hS hE (Gives.fld hE rfl fl44_1) rfl ?_; clear hE a; intro a hE
      refine vP hS hE (Gives.loadB hE 0 rfl rfl rfl ty3) rfl ?_; clear hE a; intro a hE
      refine vP hS hE (Gives.fld hE rfl fl44_2) rfl ?_; clear hE a; intro a hE
      refine vP hS hE (Gives.loadB hE 0 rfl rfl rfl ty3) rfl ?_; clear hE a; intro a hE
      refine vP hS hE (Gives.fld hE rfl fl44_3) rfl ?_; clear hE a; intro a hE
      refine vP hS hE (Gives.loadB hE 0 rfl rfl rfl ty3) rfl ?_; clear hE a; intro a hE
      refine WL.lit hE hS (e := 3) (es := 1) (vs := [(0, .int .i64 x91.Station), (1, .int .i64 x91.Track), (2, .int .i64 x91.Arr), (3, .int .i64 x91.Dep)]) (cs := [.int .i64 x91.Station, .int .i64 x91.Track, .int .i64 x91.Arr, .int .i64 x91.Dep]) (runs_plain rfl) rfl (by kernel_rfl) rfl ?_; clear hE hS a w; intro b107 a w hE hS
      replace hS := hS.ptVec (es := 1) (m := 4) rfl (by decide)
      have h109 : Ev 1 (RI .i64) s97 [.int .i64 x91.Station, .int .i64 x91.Track, .int .i64 x91.Arr, .int .i64 x91.Dep] [x91.Station, x91.Track, x91.Arr, x91.Dep] := (Ev.cons (c1 := [.int .i64 x91.Station]) rfl rfl (Ev.cons (c1 := [.int .i64 x91.Track]) rfl rfl (Ev.cons (c1 := [.int .i64 x91.Arr]) rfl rfl (Ev.cons (c1 := [.int .i64 x91.Dep]) rfl rfl (Ev.nil)))))
      have hF := hS.fixD RI.mono 0 rfl h109 (rfl); clear hS; obtain ⟨s110, hle111, hS, h112⟩ := hF
      replace h0_0 := Sl.mono RApiTrain.mono hle111 h0_0
      replace h75 := Sl.mono RApiStop.mono hle111 h75
      replace h78 := Sl.mono (RL.mono RI.mono) hle111 h78
      replace h0_1 := Sl.mono (RL.mono RI.mono) hle111 h0_1
      obtain ⟨q113, hq114, hq88⟩ := bindS hq88
      replace hS := hS.front 2 rfl
      replace hS := hS.front 2 rfl
      have hc_ := PlanText_1_v1_ok hS (TabG.mono (Sg.Le.trans (Sg.Le.trans (Sg.Le.trans hle65 hle84) hle98) hle111) hTab) h112 hq114
      refine WL.fnw hE (hc_) rfl (runs_plain rfl) bd97 rfl rfl rfl ?_
      clear hE hS hc_; rintro e w ⟨rfl, hS⟩; refine ⟨_, rfl, ?_⟩; clear a; intro a hE
      refine WL.nil ?_
      refine W.region ?_
      refine vP hS hE (Gives.inc hE rfl (by have := h75.small; omega)) rfl ?_; clear hE a; intro a hE
      refine vP hS hE (Gives.p hE rfl) rfl ?_; clear hE a; intro a hE
      refine WL.nil ?_
      replace hS := hS.dropAt 2
      subst hK101
      exact ⟨rest92.length, Nat.lt_succ_self _, rest92, k90 + 1, q113.2, q113.1, s110, rfl, hd93, (Sg.Le.trans hle98 hle111), hq88, hE.pick _ ⟨rfl, rfl, rfl, rfl, rfl, rfl, rfl, rfl, rfl, rfl, rfl, trivial⟩, hS⟩
    ·clear hE hS a w; rintro a w ⟨q99, q100, s97, hle98, rfl, hE, hS⟩
     dsimp only at hq55
     replace h0_0 := Sl.mono RApiTrain.mono hle98 h0_0
     replace h75 := Sl.mono RApiStop.mono hle98 h75
     replace h78 := Sl.mono (RL.mono RI.mono) hle98 h78
     replace h85 := Sl.mono RI.mono hle98 h85
     replace h0_1 := Sl.mono (RL.mono RI.mono) hle98 h0_1
     refine W.seq (W.region ?_)
     refine vP hS hE (Gives.fld hE rfl fl42_3) rfl ?_; clear hE a; intro a hE
     refine vP hS hE (Gives.loadB hE 2 rfl rfl rfl ty23) rfl ?_; clear hE a; intro a hE
     refine vP hS hE (Gives.len hE rfl sl23) rfl ?_; clear hE a; intro a hE
     refine vP hS hE (Gives.p hE rfl) rfl ?_; clear hE a; intro a hE
     refine WL.nil ?_
     obtain ⟨q116, hq115, hq55⟩ := bindS hq55
     refine W.cut (fun a w => ∃ (q126 : ByteArray), ∃ (q127 : Bool), (q126, q127) = q116 ∧ Rep a 81 [(1, .pointer (some ⟨b51, 0, none⟩)), (5, .pointer (some ⟨b53, 0, none⟩)), (6, .pointer (some ⟨b54, 0, none⟩)), (7, .func (.func 97) #[] #[.pointer (some ⟨b54, 0, none⟩), .pointer (some ⟨b53, 0, none⟩)]), (23, .slice a0_0 x0.Trains.length c0_0), (24, .int .i64 ((x0.Trains).length : Int)), (25, .int .i64 ((k57 : Nat) : Int))] ∧ St w s97 (pt b54 (.cells #[.bool q127] 4 (0, 0)) :: sbC 158 5 b53 q126 :: pt b79 (.cells #[.int .i64 x58.No, .int .i64 x58.Stock, .slice a73 x58.Stops.length c74, .slice a76 x58.Legs.length c77] 42 (0, 0)) :: pt b51 (.cells #[.slice a0_0 x0.Trains.length c0_0, .slice a0_1 x0.Turns.length c0_1] 25 (0, 0)) :: R)) ?_ ?_
     ·refine W.block ?_
      refine W.loop (fun m a w => ∃ (rest119 : List (List Int)) (k117 : Nat), ∃ (q126 : ByteArray), ∃ (q127 : Bool), rest119.length = m ∧ x58.Legs.drop k117 = rest119 ∧ PlanText.loop3 rest119 q126 q127 = some q116 ∧ Rep a 81 [(1, .pointer (some ⟨b51, 0, none⟩)), (5, .pointer (some ⟨b53, 0, none⟩)), (6, .pointer (some ⟨b54, 0, none⟩)), (7, .func (.func 97) #[] #[.pointer (some ⟨b54, 0, none⟩), .pointer (some ⟨b53, 0, none⟩)]), (23, .slice a0_0 x0.Trains.length c0_0), (24, .int .i64 ((x0.Trains).length : Int)), (25, .int .i64 ((k57 : Nat) : Int)), (56, .slice a76 x58.Legs.length c77), (57, .int .i64 ((x58.Legs).length : Int)), (58, .int .i64 ((k117 : Nat) : Int))] ∧ St w s97 (pt b54 (.cells #[.bool q127] 4 (0, 0)) :: sbC 158 5 b53 q126 :: pt b79 (.cells #[.int .i64 x58.No, .int .i64 x58.Stock, .slice a73 x58.Stops.length c74, .slice a76 x58.Legs.length c77] 42 (0, 0)) :: pt b51 (.cells #[.slice a0_0 x0.Trains.length c0_0, .slice a0_1 x0.Turns.length c0_1] 25 (0, 0)) :: R)) (m := x58.Legs.length) ⟨x58.Legs, 0, q99, q100, rfl, rfl, hq115, hE.pick _ ⟨rfl, rfl, rfl, rfl, rfl, rfl, rfl, rfl, rfl, rfl, trivial⟩, hS⟩ ?_
      clear hE hS a w hq115; rintro m123 a w ⟨rest119, k117, q126, q127, rfl, hd120, hq115, hE, hS⟩
      refine W.gen fun K128 hK128 => ?_
      rcases rest119 with _ | ⟨x118, rest119⟩
      ·have hlt121 := drop_nil hd120
       refine W.seq (W.region ?_)
       refine vP hS hE (Gives.p hE rfl) rfl ?_; clear hE a; intro a hE
       refine WL.nil ?_
       refine W.seq ?_
       refine W.condF hE rfl (decide_eq_false (by omega)) ?_
       subst hK128
       refine W.exit rfl ?_
       exact ⟨q126, q127, Option.some.inj hq115, hE.pick _ ⟨rfl, rfl, rfl, rfl, rfl, rfl, rfl, trivial⟩, hS⟩
      ·obtain ⟨hlt121, hx122, hd120⟩ := drop_cons hd120
       rw [PlanText.loop3] at hq115
       refine W.seq (W.region ?_)
       refine vP hS hE (Gives.p hE rfl) rfl ?_; clear hE a; intro a hE
       refine WL.nil ?_
       refine W.seq ?_
       refine W.condT hE rfl (decide_eq_true (by omega)) ?_
       refine W.skip ?_
       refine W.seq ?_
       refine W.block ?_
       refine W.seq (W.region ?_)
       obtain ⟨cs129, hl130, hR131, hat132⟩ := h78.at hx122
       obtain ⟨a133, c134, rfl, h135⟩ := hR131
       refine vP hS hE (Gives.idx hE k117 rfl rfl sl23 rfl hlt121 (h78.aok hlt121)) rfl ?_; clear hE a; intro a hE
       refine vP hS hE (Gives.load1 hE rfl (fun w h => hat132 w _ h) ty37) rfl ?_; clear hE a; intro a hE
       refine vP hS hE (Gives.p hE rfl) rfl ?_; clear hE a; intro a hE
       refine WL.nil ?_
       refine W.region ?_
       refine vP hS hE (Gives.p hE rfl) rfl ?_; clear hE a; intro a hE
       refine vP hS hE (Gives.p hE rfl) rfl ?_; clear hE a; intro a hE
       obtain ⟨q136, hq137, hq115⟩ := bindS hq115
       have hc_ := PlanText_1_v1_ok hS (TabG.mono (Sg.Le.trans (Sg.Le.trans hle65 hle84) hle98) hTab) h135 hq137
       refine WL.fnw hE (hc_) rfl (runs_plain rfl) bd97 rfl rfl rfl ?_
       clear hE hS hc_; rintro e w ⟨rfl, hS⟩; refine ⟨_, rfl, ?_⟩; clear a; intro a hE
       refine WL.nil ?_
       refine W.region ?_
       refine vP hS hE (Gives.inc hE rfl (by have := h78.small; omega)) rfl ?_; clear hE a; intro a hE
       refine vP hS hE (Gives.p hE rfl) rfl ?_; clear hE a; intro a hE
       refine WL.nil ?_
       subst hK128
       exact ⟨rest119.length, Nat.lt_succ_self _, rest119, k117 + 1, q136.2, q136.1, rfl, hd120, hq115, hE.pick _ ⟨rfl, rfl, rfl, rfl, rfl, rfl, rfl, rfl, rfl, rfl, trivial⟩, hS⟩
     ·clear hE hS a w; rintro a w ⟨q126, q127, rfl, hE, hS⟩
      dsimp only at hq55
      refine W.region ?_
      refine vP hS hE (Gives.inc hE rfl (by have := h0_0.small; omega)) rfl ?_; clear hE a; intro a hE
      refine vP hS hE (Gives.p hE rfl) rfl ?_; clear hE a; intro a hE
      refine WL.nil ?_
      replace hS := hS.dropAt 2
      subst hK68
      exact ⟨rest59.length, Nat.lt_succ_self _, rest59, k57 + 1, q126, q127, s97, rfl, hd60, (Sg.Le.trans (Sg.Le.trans hle65 hle84) hle98), hq55, hE.pick _ ⟨rfl, rfl, rfl, rfl, rfl, rfl, rfl, trivial⟩, hS⟩
  ·clear hE hS a w; rintro a w ⟨q66, q67, s64, hle65, rfl, hE, hS⟩
   dsimp only at hr
   replace h0_0 := Sl.mono RApiTrain.mono hle65 h0_0
   replace h0_1 := Sl.mono (RL.mono RI.mono) hle65 h0_1
   refine W.seq ?_
   refine W.seq (W.region ?_)
   refine vP hS hE (Gives.fld hE rfl fl25_1) rfl ?_; clear hE a; intro a hE
   refine vP hS hE (Gives.loadB hE 2 rfl rfl rfl ty23) rfl ?_; clear hE a; intro a hE
   refine vP hS hE (Gives.len hE rfl sl23) rfl ?_; clear hE a; intro a hE
   refine vP hS hE (Gives.p hE rfl) rfl ?_; clear hE a; intro a hE
   refine WL.nil ?_
   obtain ⟨q139, hq138, hr⟩ := bindS hr
   refine W.cut (fun a w => ∃ (q149 : ByteArray), ∃ (q150 : Bool), (q149, q150) = q139 ∧ Rep a 81 [(5, .pointer (some ⟨b53, 0, none⟩)), (6, .pointer (some ⟨b54, 0, none⟩))] ∧ St w s64 (pt b54 (.cells #[.bool q150] 4 (0, 0)) :: sbC 158 5 b53 q149 :: pt b51 (.cells #[.slice a0_0 x0.Trains.length c0_0, .slice a0_1 x0.Turns.length c0_1] 25 (0, 0)) :: R)) ?_ ?_
   ·refine W.block ?_
    refine W.loop (fun m a w => ∃ (rest142 : List (List Int)) (k140 : Nat), ∃ (q149 : ByteArray), ∃ (q150 : Bool), rest142.length = m ∧ x0.Turns.drop k140 = rest142 ∧ PlanText.loop4 rest142 q149 q150 = some q139 ∧ Rep a 81 [(5, .pointer (some ⟨b53, 0, none⟩)), (6, .pointer (some ⟨b54, 0, none⟩)), (7, .func (.func 97) #[] #[.pointer (some ⟨b54, 0, none⟩), .pointer (some ⟨b53, 0, none⟩)]), (68, .slice a0_1 x0.Turns.length c0_1), (69, .int .i64 ((x0.Turns).length : Int)), (70, .int .i64 ((k140 : Nat) : Int))] ∧ St w s64 (pt b54 (.cells #[.bool q150] 4 (0, 0)) :: sbC 158 5 b53 q149 :: pt b51 (.cells #[.slice a0_0 x0.Trains.length c0_0, .slice a0_1 x0.Turns.length c0_1] 25 (0, 0)) :: R)) (m := x0.Turns.length) ⟨x0.Turns, 0, q66, q67, rfl, rfl, hq138, hE.pick _ ⟨rfl, rfl, rfl, rfl, rfl, rfl, trivial⟩, hS⟩ ?_
    clear hE hS a w hq138; rintro m146 a w ⟨rest142, k140, q149, q150, rfl, hd143, hq138, hE, hS⟩
    refine W.gen fun K151 hK151 => ?_
    rcases rest142 with _ | ⟨x141, rest142⟩
    ·have hlt144 := drop_nil hd143
     refine W.seq (W.region ?_)
     refine vP hS hE (Gives.p hE rfl) rfl ?_; clear hE a; intro a hE
     refine WL.nil ?_
     refine W.seq ?_
     refine W.condF hE rfl (decide_eq_false (by omega)) ?_
     subst hK151
     refine W.exit rfl ?_
     exact ⟨q149, q150, Option.some.inj hq138, hE.pick _ ⟨rfl, rfl, trivial⟩, hS⟩
    ·obtain ⟨hlt144, hx145, hd143⟩ := drop_cons hd143
     rw [PlanText.loop4] at hq138
     refine W.seq (W.region ?_)
     refine vP hS hE (Gives.p hE rfl) rfl ?_; clear hE a; intro a hE
     refine WL.nil ?_
     refine W.seq ?_
     refine W.condT hE rfl (decide_eq_true (by omega)) ?_
     refine W.skip ?_
     refine W.seq ?_
     refine W.block ?_
     refine W.seq (W.region ?_)
     obtain ⟨cs152, hl153, hR154, hat155⟩ := h0_1.at hx145
     obtain ⟨a156, c157, rfl, h158⟩ := hR154
     refine vP hS hE (Gives.idx hE k140 rfl rfl sl23 rfl hlt144 (h0_1.aok hlt144)) rfl ?_; clear hE a; intro a hE
     refine vP hS hE (Gives.load1 hE rfl (fun w h => hat155 w _ h) ty37) rfl ?_; clear hE a; intro a hE
     refine vP hS hE (Gives.p hE rfl) rfl ?_; clear hE a; intro a hE
     refine WL.nil ?_
     refine W.region ?_
     refine vP hS hE (Gives.p hE rfl) rfl ?_; clear hE a; intro a hE
     refine vP hS hE (Gives.p hE rfl) rfl ?_; clear hE a; intro a hE
     obtain ⟨q159, hq160, hq138⟩ := bindS hq138
     have hc_ := PlanText_1_v1_ok hS (TabG.mono hle65 hTab) h158 hq160
     refine WL.fnw hE (hc_) rfl (runs_plain rfl) bd97 rfl rfl rfl ?_
     clear hE hS hc_; rintro e w ⟨rfl, hS⟩; refine ⟨_, rfl, ?_⟩; clear a; intro a hE
     refine WL.nil ?_
     refine W.region ?_
     refine vP hS hE (Gives.inc hE rfl (by have := h0_1.small; omega)) rfl ?_; clear hE a; intro a hE
     refine vP hS hE (Gives.p hE rfl) rfl ?_; clear hE a; intro a hE
     refine WL.nil ?_
     subst hK151
     exact ⟨rest142.length, Nat.lt_succ_self _, rest142, k140 + 1, q159.2, q159.1, rfl, hd143, hq138, hE.pick _ ⟨rfl, rfl, rfl, rfl, rfl, rfl, trivial⟩, hS⟩
   ·clear hE hS a w; rintro a w ⟨q149, q150, rfl, hE, hS⟩
    dsimp only at hr
    refine W.seq ?_
    refine W.seq (W.region ?_)
    refine vP hS hE (Gives.loadB hE 0 rfl rfl rfl ty4) rfl ?_; clear hE a; intro a hE
    refine vP hS hE (Gives.p hE rfl) rfl ?_; clear hE a; intro a hE
    refine WL.nil ?_
    refine W.cond hE rfl (fun hc161 => ?_) (fun hc161 => ?_)
    ·replace hr := iteT hc161 hr
     refine W.seq (W.region ?_)
     refine vP hS hE (Gives.p hE rfl) rfl ?_; clear hE a; intro a hE
     refine vP hS hE (Gives.p hE rfl) rfl ?_; clear hE a; intro a hE
     refine WL.nil ?_
     refine W.ret ?_
     refine finG (fn := Tryz.f80) (rs := [.tmp 2, .tmp 3]) (vs := [_, _]) hE rfl ⟨rfl, rfl, trivial⟩ ?_
     obtain rfl := Option.some.inj hr
     replace hS := hS.tail
     replace hS := hS.tail
     replace hS := hS.tail
     exact ⟨rfl, (hS.down hle65)⟩
    ·replace hr := iteF hc161 hr
     refine W.skip ?_
     refine W.seq (W.region ?_)
     replace hS := hS.front 1 rfl
     refine WL.fnq hE (sbString_ok hS) (runs_plain rfl) bd101 rfl rfl rfl ?_
     clear hE hS; rintro e w ⟨rfl, hS⟩; refine ⟨_, rfl, ?_⟩; clear a; intro a hE
     refine vP hS hE (Gives.p hE rfl) rfl ?_; clear hE a; intro a hE
     refine vP hS hE (Gives.p hE rfl) rfl ?_; clear hE a; intro a hE
     refine WL.nil ?_
     refine W.ret ?_
     refine finG (fn := Tryz.f80) (rs := [.tmp 2, .tmp 3]) (vs := [_, _]) hE rfl ⟨rfl, rfl, trivial⟩ ?_
     obtain rfl := Option.some.inj hr
     replace hS := hS.tail
     replace hS := hS.tail
     exact ⟨rfl, (hS.down hle65)⟩
set_option maxHeartbeats 8000000 in
theorem Guidewithin_ok  {w : World} {s : Sg} {R : List HP} {x0 : Int} {x1 : Int} {x2 : Int} (hS : St w s (R))  {r : Bool} (hr : Guidewithin x0 x1 x2 = r) :
  Calls Tryz.prog 54 [.int .i64 x0, .int .i64 x1, .int .i64 x2].toArray w (fun e w => e = .returned (.bool r) ∧ St w s (R)) := by
 refine enter Tryz.func54 rfl rfl rfl fun a hE => ?_
 rw [Guidewithin] at hr
 refine W.seq (W.region ?_)
 refine vP hS hE (Gives.p hE rfl) rfl ?_; clear hE a; intro a hE
 refine WL.nil ?_
 refine W.seq ?_
 obtain ⟨q52, hq51, hr⟩ := bndS hr
 refine W.cut (fun a w => ∃ (q55 : Bool), q55 = q52 ∧ Rep a 15 [(6, .bool q55)] ∧ St w s (R)) ?_ ?_
 ·refine W.gen fun K56 hK56 => ?_
  refine W.region ?_
  refine vP hS hE (Gives.p hE rfl) rfl ?_; clear hE a; intro a hE
  refine vP hS hE (Gives.p hE rfl) rfl ?_; clear hE a; intro a hE
  refine vP hS hE (Gives.p hE rfl) rfl ?_; clear hE a; intro a hE
  refine vP hS hE (Gives.p hE rfl) rfl ?_; clear hE a; intro a hE
  rcases Bool.eq_false_or_eq_true (decide (x0 ≥ x1)) with hg57 | hg57
  ·replace hq51 := iteT hg57 hq51
   refine WL.vS hS hE (runs_if hE rfl rfl rfl hg57) (Gives.p hE rfl) rfl ?_; clear hE a; intro a hE
   refine WL.vS hS hE (runs_if hE rfl rfl rfl hg57) (Gives.p hE rfl) rfl ?_; clear hE a; intro a hE
   refine WL.vS hS hE (runs_if hE rfl rfl rfl hg57) (Gives.p hE rfl) rfl ?_; clear hE a; intro a hE
   refine vP hS hE (Gives.pickT hE rfl hg57 rfl) rfl ?_; clear hE a; intro a hE
   refine vP hS hE (Gives.p hE rfl) rfl ?_; clear hE a; intro a hE
   refine WL.nil ?_
   subst hK56
   exact ⟨decide (x0 ≤ x2), hq51, hE.pick _ ⟨rfl, trivial⟩, hS⟩
  ·replace hq51 := iteF hg57 hq51
   refine WL.no hE (runs_not hE rfl rfl rfl (by rw [hg57]; decide)) rfl ?_; clear hE a; intro a hE
   refine WL.no hE (runs_not hE rfl rfl rfl (by rw [hg57]; decide)) rfl ?_; clear hE a; intro a hE
   refine WL.no hE (runs_not hE rfl rfl rfl (by rw [hg57]; decide)) rfl ?_; clear hE a; intro a hE
   refine vP hS hE (Gives.pickF hE rfl hg57 rfl) rfl ?_; clear hE a; intro a hE
   refine vP hS hE (Gives.p hE rfl) rfl ?_; clear hE a; intro a hE
   refine WL.nil ?_
   subst hK56
   exact ⟨false, hq51, hE.pick _ ⟨rfl, trivial⟩, hS⟩
 ·clear hE hS a w; rintro a w ⟨q55, rfl, hE, hS⟩
  refine W.ret ?_
  refine finG (fn := Tryz.f54) (rs := [.tmp 6]) (vs := [_]) hE rfl ⟨rfl, trivial⟩ ?_
  subst hr
  exact ⟨rfl, hS⟩
set_option maxHeartbeats 8000000 in
theorem GuideCheck_ok  {w : World} {s : Sg} {R : List HP} {x0 : ApiDay} {a0_0 : Option Addr} {c0_0 : Nat} {a0_1 : Option Addr} {c0_1 : Nat} (hS : St w s (R)) (hTab : TabX s) (h0_0 : Sl 4 RApiTrain s a0_0 c0_0 x0.Trains) (h0_1 : Sl 1 (RL 1 (RI .i64)) s a0_1 c0_1 x0.Turns) {r : Int} (hr : GuideCheck x0 = some r) :
  Calls Tryz.prog 53 [.agg (List.toArray [.slice a0_0 x0.Trains.length c0_0, .slice a0_1 x0.Turns.length c0_1])].toArray w (fun e w => e = .returned (.int .i64 r) ∧ St w s (R)) := by
 refine enter Tryz.func53 rfl rfl rfl fun a hE => ?_
 rw [GuideCheck] at hr
 refine W.seq (W.region ?_)
 refine WL.box hE hS (runs_plain rfl) rfl rfl rfl ?_; clear hE hS a w; intro b51 a w hE hS
 refine vP hS hE (Gives.p hE rfl) rfl ?_; clear hE a; intro a hE
 refine WL.nil ?_
 refine W.seq ?_
 refine W.seq (W.region ?_)
 refine vP hS hE (Gives.loadBA hE 0 rfl rfl ty25) rfl ?_; clear hE a; intro a hE
 obtain ⟨q52, hq53, hr⟩ := bindS hr
 have hc_ := PlanText_ok hS (TabG.mono (Sg.Le.refl _) hTab) h0_0 h0_1 hq53
 refine WL.fnq hE (hc_) (runs_plain rfl) bd80 rfl rfl rfl ?_
 clear hE hS hc_; rintro e w ⟨rfl, hS⟩; refine ⟨_, rfl, ?_⟩; clear a; intro a hE
 refine vP hS hE (Gives.p hE rfl) rfl ?_; clear hE a; intro a hE
 refine vP hS hE (Gives.p hE rfl) rfl ?_; clear hE a; intro a hE
 refine vP hS hE (Gives.p hE rfl) rfl ?_; clear hE a; intro a hE
 refine vP hS hE (Gives.p hE rfl) rfl ?_; clear hE a; intro a hE
 refine vP hS hE (Gives.p hE rfl) rfl ?_; clear hE a; intro a hE
 refine WL.nil ?_
 refine W.seq (W.region ?_)
 refine vP hS hE (Gives.p hE rfl) rfl ?_; clear hE a; intro a hE
 refine vP hS hE (Gives.p hE rfl) rfl ?_; clear hE a; intro a hE
 refine WL.nil ?_
 refine W.cond hE rfl (fun hc54 => ?_) (fun hc54 => ?_)
 ·replace hr := iteT hc54 hr
  refine W.seq (W.region ?_)
  refine vP hS hE (Gives.p hE rfl) rfl ?_; clear hE a; intro a hE
  refine vP hS hE (Gives.p hE rfl) rfl ?_; clear hE a; intro a hE
  refine WL.nil ?_
  refine W.ret ?_
  refine finG (fn := Tryz.f53) (rs := [.tmp 2]) (vs := [_]) hE rfl ⟨rfl, trivial⟩ ?_
  obtain rfl := Option.some.inj hr
  replace hS := hS.tail
  exact ⟨rfl, hS⟩
 ·replace hr := iteF hc54 hr
  refine W.skip ?_
  refine W.seq (W.region ?_)
  refine WL.mkMap (fk := keyI.f) (fv := Value.bool) hE hS (runs_plain rfl) rfl ?_; clear hE hS a w; intro b55 a w hE hS
  refine vP hS hE (Gives.p hE rfl) rfl ?_; clear hE a; intro a hE
  refine WL.nil ?_
  refine W.seq ?_
  refine W.seq (W.region ?_)
  refine vP hS hE (Gives.fld hE rfl fl25_0) rfl ?_; clear hE a; intro a hE
  refine vP hS hE (Gives.loadB hE 1 rfl rfl rfl ty22) rfl ?_; clear hE a; intro a hE
  refine vP hS hE (Gives.len hE rfl sl22) rfl ?_; clear hE a; intro a hE
  refine vP hS hE (Gives.p hE rfl) rfl ?_; clear hE a; intro a hE
  refine WL.nil ?_
  obtain ⟨q57, hq56, hr⟩ := bindS hr
  refine W.cut (fun a w => ∃ (q67 : List (Int × Bool)), (.next q67) = q57 ∧ Rep a 93 [] ∧ St w s (mapC keyI.f Value.bool b55 q67 :: pt b51 (.cells #[.slice a0_0 x0.Trains.length c0_0, .slice a0_1 x0.Turns.length c0_1] 25 (0, 0)) :: R)) ?_ ?_
  ·refine W.block ?_
   refine W.loop (fun m a w => ∃ (rest60 : List ApiTrain) (k58 : Nat), ∃ (q67 : List (Int × Bool)), rest60.length = m ∧ x0.Trains.drop k58 = rest60 ∧ GuideCheck.loop1 rest60 q67 = some q57 ∧ Rep a 93 [(5, .map (some b55)), (20, .slice a0_0 x0.Trains.length c0_0), (21, .int .i64 ((x0.Trains).length : Int)), (22, .int .i64 ((k58 : Nat) : Int))] ∧ St w s (mapC keyI.f Value.bool b55 q67 :: pt b51 (.cells #[.slice a0_0 x0.Trains.length c0_0, .slice a0_1 x0.Turns.length c0_1] 25 (0, 0)) :: R)) (m := x0.Trains.length) ⟨x0.Trains, 0, [], rfl, rfl, hq56, hE.pick _ ⟨rfl, rfl, rfl, rfl, trivial⟩, hS⟩ ?_
   clear hE hS a w hq56; rintro m64 a w ⟨rest60, k58, q67, rfl, hd61, hq56, hE, hS⟩
   refine W.gen fun K68 hK68 => ?_
   rcases rest60 with _ | ⟨x59, rest60⟩
   ·have hlt62 := drop_nil hd61
    refine W.seq (W.region ?_)
    refine vP hS hE (Gives.p hE rfl) rfl ?_; clear hE a; intro a hE
    refine WL.nil ?_
    refine W.seq ?_
    refine W.condF hE rfl (decide_eq_false (by omega)) ?_
    subst hK68
    refine W.exit rfl ?_
    exact ⟨q67, Option.some.inj hq56, hE.pick _ trivial, hS⟩
   ·obtain ⟨hlt62, hx63, hd61⟩ := drop_cons hd61
    rw [GuideCheck.loop1] at hq56
    refine W.seq (W.region ?_)
    refine vP hS hE (Gives.p hE rfl) rfl ?_; clear hE a; intro a hE
    refine WL.nil ?_
    refine W.seq ?_
    refine W.condT hE rfl (decide_eq_true (by omega)) ?_
    refine W.skip ?_
    refine W.seq ?_
    refine W.block ?_
    refine W.seq (W.region ?_)
    obtain ⟨cs69, hl70, hR71, hat72⟩ := h0_0.at hx63
    obtain ⟨a73, c74, a76, c77, rfl, h75, h78⟩ := hR71
    refine vP hS hE (Gives.idx hE k58 rfl rfl sl22 rfl hlt62 (h0_0.aok hlt62)) rfl ?_; clear hE a; intro a hE
    refine vP hS hE (Gives.loadA hE rfl (fun w h => hat72 w _ h) ty42) rfl ?_; clear hE a; intro a hE
    refine WL.alloc hE hS (runs_plain rfl) zr42 rfl ?_; clear hE hS a w; intro b79 a w hE hS
    refine WL.storeI hE hS 0 rfl [.int .i64 x59.No, .int .i64 x59.Stock, .slice a73 x59.Stops.length c74, .slice a76 x59.Legs.length c77] (runs_plain rfl) rfl rfl rfl ty42 rfl rfl rfl rfl ?_; clear hE hS a w; intro a w hE hS
    refine WL.nil ?_
    refine W.seq ?_
    refine W.block ?_
    refine W.seq (W.region ?_)
    refine vP hS hE (Gives.fld hE rfl fl42_0) rfl ?_; clear hE a; intro a hE
    refine vP hS hE (Gives.loadB hE 0 rfl rfl rfl ty3) rfl ?_; clear hE a; intro a hE
    refine WL.fnq hE (Guidewithin_ok hS  rfl (r := Guidewithin x59.No 1 9999)) (runs_plain rfl) bd54 rfl rfl rfl ?_
    clear hE hS; rintro e w ⟨rfl, hS⟩; refine ⟨_, rfl, ?_⟩; clear a; intro a hE
    refine vP hS hE (Gives.p hE rfl) rfl ?_; clear hE a; intro a hE
    refine vP hS hE (Gives.p hE rfl) rfl ?_; clear hE a; intro a hE
    refine WL.nil ?_
    refine W.cond hE rfl (fun hc80 => ?_) (fun hc80 => ?_)
    ·replace hq56 := iteT hc80 hq56
     refine W.seq (W.region ?_)
     refine vP hS hE (Gives.p hE rfl) rfl ?_; clear hE a; intro a hE
     refine WL.nil ?_
     refine W.ret ?_
     subst hK68
     rw [← Option.some.inj hq56] at hr
     dsimp only at hr
     refine finG (fn := Tryz.f53) (rs := [.tmp 2]) (vs := [_]) hE rfl ⟨rfl, trivial⟩ ?_
     obtain rfl := Option.some.inj hr
     replace hS := hS.tail
     replace hS := hS.tail
     replace hS := hS.tail
     exact ⟨rfl, hS⟩
    ·replace hq56 := iteF hc80 hq56
     refine W.seq (W.region ?_)
     refine vP hS hE (Gives.p hE rfl) rfl ?_; clear hE a; intro a hE
     refine vP hS hE (Gives.fld hE rfl fl42_0) rfl ?_; clear hE a; intro a hE
     refine vP hS hE (Gives.loadB hE 0 rfl rfl rfl ty3) rfl ?_; clear hE a; intro a hE
     refine vP hS hE (Gives.mapGet keyI hE 1 (k := x59.No) (z := false) rfl rfl rfl mp138 zm4) rfl ?_; clear hE a; intro a hE
     refine vP hS hE (Gives.p hE rfl) rfl ?_; clear hE a; intro a hE
     refine WL.nil ?_
     refine W.cond hE rfl (fun hc81 => ?_) (fun hc81 => ?_)
     ·replace hq56 := iteT hc81 hq56
      refine W.seq (W.region ?_)
      refine vP hS hE (Gives.p hE rfl) rfl ?_; clear hE a; intro a hE
      refine WL.nil ?_
      refine W.ret ?_
      subst hK68
      rw [← Option.some.inj hq56] at hr
      dsimp only at hr
      refine finG (fn := Tryz.f53) (rs := [.tmp 2]) (vs := [_]) hE rfl ⟨rfl, trivial⟩ ?_
      obtain rfl := Option.some.inj hr
      replace hS := hS.tail
      replace hS := hS.tail
      replace hS := hS.tail
      exact ⟨rfl, hS⟩
     ·replace hq56 := iteF hc81 hq56
      refine W.seq (W.region ?_)
      refine vP hS hE (Gives.fld hE rfl fl42_2) rfl ?_; clear hE a; intro a hE
      refine vP hS hE (Gives.loadB hE 0 rfl rfl rfl ty40) rfl ?_; clear hE a; intro a hE
      refine vP hS hE (Gives.len hE rfl sl40) rfl ?_; clear hE a; intro a hE
      refine vP hS hE (Gives.p hE rfl) rfl ?_; clear hE a; intro a hE
      refine vP hS hE (Gives.p hE rfl) rfl ?_; clear hE a; intro a hE
      refine WL.nil ?_
      refine W.cond hE rfl (fun hc82 => ?_) (fun hc82 => ?_)
      ·replace hq56 := iteT hc82 hq56
       refine W.seq (W.region ?_)
       refine vP hS hE (Gives.p hE rfl) rfl ?_; clear hE a; intro a hE
       refine WL.nil ?_
       refine W.ret ?_
       subst hK68
       rw [← Option.some.inj hq56] at hr
       dsimp only at hr
       refine finG (fn := Tryz.f53) (rs := [.tmp 2]) (vs := [_]) hE rfl ⟨rfl, trivial⟩ ?_
       obtain rfl := Option.some.inj hr
       replace hS := hS.tail
       replace hS := hS.tail
       replace hS := hS.tail
       exact ⟨rfl, hS⟩
      ·replace hq56 := iteF hc82 hq56
       refine W.skip ?_
       refine W.seq (W.region ?_)
       refine vP hS hE (Gives.p hE rfl) rfl ?_; clear hE a; intro a hE
       refine vP hS hE (Gives.fld hE rfl fl42_0) rfl ?_; clear hE a; intro a hE
       refine vP hS hE (Gives.loadB hE 0 rfl rfl rfl ty3) rfl ?_; clear hE a; intro a hE
       refine WL.mapSet keyI hE hS 1 (k := x59.No) (v := true) (.inl rfl) (runs_plain rfl) rfl rfl rfl rfl mp138 rfl ?_; clear hE hS a w; intro a w hE hS
       refine WL.nil ?_
       refine W.seq (W.region ?_)
       refine vP hS hE (Gives.fld hE rfl fl42_2) rfl ?_; clear hE a; intro a hE
       refine vP hS hE (Gives.loadB hE 0 rfl rfl rfl ty40) rfl ?_; clear hE a; intro a hE
       refine vP hS hE (Gives.len hE rfl sl40) rfl ?_; clear hE a; intro a hE
       refine vP hS hE (Gives.p hE rfl) rfl ?_; clear hE a; intro a hE
       refine WL.nil ?_
       obtain ⟨q84, hq83, hq56⟩ := bindS hq56
       refine W.cut (fun a w => (.next ()) = q84 ∧ Rep a 93 [(5, .map (some b55)), (20, .slice a0_0 x0.Trains.length c0_0), (21, .int .i64 ((x0.Trains).length : Int)), (22, .int .i64 ((k58 : Nat) : Int))] ∧ St w s (pt b79 (.cells #[.int .i64 x59.No, .int .i64 x59.Stock, .slice a73 x59.Stops.length c74, .slice a76 x59.Legs.length c77] 42 (0, 0)) :: mapC keyI.f Value.bool b55 (mput q67 x59.No true) :: pt b51 (.cells #[.slice a0_0 x0.Trains.length c0_0, .slice a0_1 x0.Turns.length c0_1] 25 (0, 0)) :: R)) ?_ ?_
       ·refine W.block ?_
        refine W.loop (fun m a w => ∃ (rest87 : List ApiStop) (k85 : Nat), rest87.length = m ∧ x59.Stops.drop k85 = rest87 ∧ GuideCheck.loop2 x59 rest87 k85 = some q84 ∧ Rep a 93 [(5, .map (some b55)), (7, .pointer (some ⟨b79, 0, none⟩)), (20, .slice a0_0 x0.Trains.length c0_0), (21, .int .i64 ((x0.Trains).length : Int)), (22, .int .i64 ((k58 : Nat) : Int)), (45, .slice a73 x59.Stops.length c74), (46, .int .i64 ((x59.Stops).length : Int)), (47, .int .i64 ((k85 : Nat) : Int))] ∧ St w s (pt b79 (.cells #[.int .i64 x59.No, .int .i64 x59.Stock, .slice a73 x59.Stops.length c74, .slice a76 x59.Legs.length c77] 42 (0, 0)) :: mapC keyI.f Value.bool b55 (mput q67 x59.No true) :: pt b51 (.cells #[.slice a0_0 x0.Trains.length c0_0, .slice a0_1 x0.Turns.length c0_1] 25 (0, 0)) :: R)) (m := x59.Stops.length) ⟨x59.Stops, 0, rfl, rfl, hq83, hE.pick _ ⟨rfl, rfl, rfl, rfl, rfl, rfl, rfl, rfl, trivial⟩, hS⟩ ?_
        clear hE hS a w hq83; rintro m91 a w ⟨rest87, k85, rfl, hd88, hq83, hE, hS⟩
        refine W.gen fun K94 hK94 => ?_
        rcases rest87 with _ | ⟨x86, rest87⟩
        ·have hlt89 := drop_nil hd88
         refine W.seq (W.region ?_)
         refine vP hS hE (Gives.p hE rfl) rfl ?_; clear hE a; intro a hE
         refine WL.nil ?_
         refine W.seq ?_
         refine W.condF hE rfl (decide_eq_false (by omega)) ?_
         subst hK94
         refine W.exit rfl ?_
         exact ⟨Option.some.inj hq83, hE.pick _ ⟨rfl, rfl, rfl, rfl, trivial⟩, hS⟩
        ·obtain ⟨hlt89, hx90, hd88⟩ := drop_cons hd88
         rw [GuideCheck.loop2] at hq83
         refine W.seq (W.region ?_)
         refine vP hS hE (Gives.p hE rfl) rfl ?_; clear hE a; intro a hE
         refine WL.nil ?_
         refine W.seq ?_
         refine W.condT hE rfl (decide_eq_true (by omega)) ?_
         refine W.skip ?_
         refine W.seq ?_
         refine W.block ?_
         refine W.seq (W.region ?_)
         refine vP hS hE (Gives.p hE rfl) rfl ?_; clear hE a; intro a hE
         obtain ⟨cs95, hl96, hR97, hat98⟩ := h75.at hx90
         subst hR97
         refine vP hS hE (Gives.idx hE k85 rfl rfl sl40 rfl hlt89 (h75.aok hlt89)) rfl ?_; clear hE a; intro a hE
         refine vP hS hE (Gives.loadA hE rfl (fun w h => hat98 w _ h) ty44) rfl ?_; clear hE a; intro a hE
         refine WL.alloc hE hS (runs_plain rfl) zr44 rfl ?_; clear hE hS a w; intro b99 a w hE hS
         refine vP hS hE (Gives.p hE rfl) rfl ?_; clear hE a; intro a hE
         refine WL.storeI hE hS 0 rfl (ApiStop.cells x86) (runs_plain rfl) rfl rfl rfl ty44 rfl rfl rfl rfl ?_; clear hE hS a w; intro a w hE hS
         refine WL.nil ?_
         refine W.block ?_
         refine W.seq ?_
         obtain ⟨q101, hq100, hq83⟩ := bndS hq83
         refine W.cut (fun a w => ∃ (q104 : Bool), q104 = q101 ∧ Rep a 93 [(5, .map (some b55)), (7, .pointer (some ⟨b79, 0, none⟩)), (8, .int .i64 ((k85 : Nat) : Int)), (9, .pointer (some ⟨b99, 0, none⟩)), (20, .slice a0_0 x0.Trains.length c0_0), (21, .int .i64 ((x0.Trains).length : Int)), (22, .int .i64 ((k58 : Nat) : Int)), (45, .slice a73 x59.Stops.length c74), (46, .int .i64 ((x59.Stops).length : Int)), (47, .int .i64 ((k85 : Nat) : Int)), (52, .bool q104)] ∧ St w s (pt b99 (.cells (ApiStop.cells x86).toArray 44 (0, 0)) :: pt b79 (.cells #[.int .i64 x59.No, .int .i64 x59.Stock, .slice a73 x59.Stops.length c74, .slice a76 x59.Legs.length c77] 42 (0, 0)) :: mapC keyI.f Value.bool b55 (mput q67 x59.No true) :: pt b51 (.cells #[.slice a0_0 x0.Trains.length c0_0, .slice a0_1 x0.Turns.length c0_1] 25 (0, 0)) :: R)) ?_ ?_
         ·refine W.gen fun K105 hK105 => ?_
          refine W.region ?_
          refine vP hS hE (Gives.fld hE rfl fl44_0) rfl ?_; clear hE a; intro a hE
          refine vP hS hE (Gives.loadB hE 0 rfl rfl rfl ty3) rfl ?_; clear hE a; intro a hE
          refine WL.fnq hE (Guidewithin_ok hS  rfl (r := Guidewithin x86.Station 0 11)) (runs_plain rfl) bd54 rfl rfl rfl ?_
          clear hE hS; rintro e w ⟨rfl, hS⟩; refine ⟨_, rfl, ?_⟩; clear a; intro a hE
          refine vP hS hE (Gives.p hE rfl) rfl ?_; clear hE a; intro a hE
          refine vP hS hE (Gives.p hE rfl) rfl ?_; clear hE a; intro a hE
          rcases Bool.eq_false_or_eq_true (!(Guidewithin x86.Station 0 11)) with hg106 | hg106
          ·replace hq100 := iteT hg106 hq100
           refine WL.no hE (runs_not hE rfl rfl rfl (by rw [hg106]; decide)) rfl ?_; clear hE a; intro a hE
           refine WL.no hE (runs_not hE rfl rfl rfl (by rw [hg106]; decide)) rfl ?_; clear hE a; intro a hE
           refine WL.no hE (runs_not hE rfl rfl rfl (by rw [hg106]; decide)) rfl ?_; clear hE a; intro a hE
           refine WL.no hE (runs_not hE rfl rfl rfl (by rw [hg106]; decide)) rfl ?_; clear hE a; intro a hE
           refine vP hS hE (Gives.pickT hE rfl hg106 rfl) rfl ?_; clear hE a; intro a hE
           refine vP hS hE (Gives.p hE rfl) rfl ?_; clear hE a; intro a hE
           refine WL.no hE (runs_not hE rfl rfl rfl (by decide)) rfl ?_; clear hE a; intro a hE
           refine WL.no hE (runs_not hE rfl rfl rfl (by decide)) rfl ?_; clear hE a; intro a hE
           refine WL.no hE (runs_not hE rfl rfl rfl (by decide)) rfl ?_; clear hE a; intro a hE
           refine WL.no hE (runs_not hE rfl rfl rfl (by decide)) rfl ?_; clear hE a; intro a hE
           refine vP hS hE (Gives.pickT hE rfl rfl rfl) rfl ?_; clear hE a; intro a hE
           refine vP hS hE (Gives.p hE rfl) rfl ?_; clear hE a; intro a hE
           refine WL.nil ?_
           subst hK105
           exact ⟨true, hq100, hE.pick _ ⟨rfl, rfl, rfl, rfl, rfl, rfl, rfl, rfl, rfl, rfl, rfl, trivial⟩, hS⟩
          ·replace hq100 := iteF hg106 hq100
           refine WL.vS hS hE (runs_if hE rfl rfl rfl hg106) (Gives.fld hE rfl fl44_2) rfl ?_; clear hE a; intro a hE
           refine WL.vS hS hE (runs_if hE rfl rfl rfl hg106) (Gives.loadB hE 0 rfl rfl rfl ty3) rfl ?_; clear hE a; intro a hE
           refine WL.fnq hE (Guidewithin_ok hS  rfl (r := Guidewithin x86.Arr 0 28800)) (runs_if hE rfl rfl rfl hg106) bd54 rfl rfl rfl ?_
           clear hE hS; rintro e w ⟨rfl, hS⟩; refine ⟨_, rfl, ?_⟩; clear a; intro a hE
           refine WL.vS hS hE (runs_if hE rfl rfl rfl hg106) (Gives.p hE rfl) rfl ?_; clear hE a; intro a hE
           refine vP hS hE (Gives.pickF hE rfl hg106 rfl) rfl ?_; clear hE a; intro a hE
           refine vP hS hE (Gives.p hE rfl) rfl ?_; clear hE a; intro a hE
           rcases Bool.eq_false_or_eq_true (!(Guidewithin x86.Arr 0 28800)) with hg107 | hg107
           ·replace hq100 := iteT hg107 hq100
            refine WL.no hE (runs_not hE rfl rfl rfl (by rw [hg107]; decide)) rfl ?_; clear hE a; intro a hE
            refine WL.no hE (runs_not hE rfl rfl rfl (by rw [hg107]; decide)) rfl ?_; clear hE a; intro a hE
            refine WL.no hE (runs_not hE rfl rfl rfl (by rw [hg107]; decide)) rfl ?_; clear hE a; intro a hE
            refine WL.no hE (runs_not hE rfl rfl rfl (by rw [hg107]; decide)) rfl ?_; clear hE a; intro a hE
            refine vP hS hE (Gives.pickT hE rfl hg107 rfl) rfl ?_; clear hE a; intro a hE
            refine vP hS hE (Gives.p hE rfl) rfl ?_; clear hE a; intro a hE
            refine WL.nil ?_
            subst hK105
            exact ⟨true, hq100, hE.pick _ ⟨rfl, rfl, rfl, rfl, rfl, rfl, rfl, rfl, rfl, rfl, rfl, trivial⟩, hS⟩
           ·replace hq100 := iteF hg107 hq100
            refine WL.vS hS hE (runs_if hE rfl rfl rfl hg107) (Gives.fld hE rfl fl44_3) rfl ?_; clear hE a; intro a hE
            refine WL.vS hS hE (runs_if hE rfl rfl rfl hg107) (Gives.loadB hE 0 rfl rfl rfl ty3) rfl ?_; clear hE a; intro a hE
            refine WL.fnq hE (Guidewithin_ok hS  rfl (r := Guidewithin x86.Dep 0 28800)) (runs_if hE rfl rfl rfl hg107) bd54 rfl rfl rfl ?_
            clear hE hS; rintro e w ⟨rfl, hS⟩; refine ⟨_, rfl, ?_⟩; clear a; intro a hE
            refine WL.vS hS hE (runs_if hE rfl rfl rfl hg107) (Gives.p hE rfl) rfl ?_; clear hE a; intro a hE
            refine vP hS hE (Gives.pickF hE rfl hg107 rfl) rfl ?_; clear hE a; intro a hE
            refine vP hS hE (Gives.p hE rfl) rfl ?_; clear hE a; intro a hE
            refine WL.nil ?_
            subst hK105
            exact ⟨!(Guidewithin x86.Dep 0 28800), hq100, hE.pick _ ⟨rfl, rfl, rfl, rfl, rfl, rfl, rfl, rfl, rfl, rfl, rfl, trivial⟩, hS⟩
         ·clear hE hS a w; rintro a w ⟨q104, rfl, hE, hS⟩
          refine W.cond hE rfl (fun hc108 => ?_) (fun hc108 => ?_)
          ·replace hq83 := iteT hc108 hq83
           refine W.seq (W.region ?_)
           refine vP hS hE (Gives.p hE rfl) rfl ?_; clear hE a; intro a hE
           refine WL.nil ?_
           refine W.ret ?_
           subst hK94
           subst hK68
           rw [← Option.some.inj hq83] at hq56
           dsimp only at hq56
           rw [← Option.some.inj hq56] at hr
           dsimp only at hr
           refine finG (fn := Tryz.f53) (rs := [.tmp 2]) (vs := [_]) hE rfl ⟨rfl, trivial⟩ ?_
           obtain rfl := Option.some.inj hr
           replace hS := hS.tail
           replace hS := hS.tail
           replace hS := hS.tail
           replace hS := hS.tail
           exact ⟨rfl, hS⟩
          ·replace hq83 := iteF hc108 hq83
           refine W.seq ?_
           obtain ⟨q110, hq109, hq83⟩ := bindS hq83
           refine W.cut (fun a w => ∃ (q113 : Bool), q113 = q110 ∧ Rep a 93 [(5, .map (some b55)), (7, .pointer (some ⟨b79, 0, none⟩)), (20, .slice a0_0 x0.Trains.length c0_0), (21, .int .i64 ((x0.Trains).length : Int)), (22, .int .i64 ((k58 : Nat) : Int)), (45, .slice a73 x59.Stops.length c74), (46, .int .i64 ((x59.Stops).length : Int)), (47, .int .i64 ((k85 : Nat) : Int)), (69, .bool q113)] ∧ St w s (pt b99 (.cells (ApiStop.cells x86).toArray 44 (0, 0)) :: pt b79 (.cells #[.int .i64 x59.No, .int .i64 x59.Stock, .slice a73 x59.Stops.length c74, .slice a76 x59.Legs.length c77] 42 (0, 0)) :: mapC keyI.f Value.bool b55 (mput q67 x59.No true) :: pt b51 (.cells #[.slice a0_0 x0.Trains.length c0_0, .slice a0_1 x0.Turns.length c0_1] 25 (0, 0)) :: R)) ?_ ?_
           ·refine W.gen fun K114 hK114 => ?_
            refine W.regionQ (C := fun w => St w s (pt b99 (.cells (ApiStop.cells x86).toArray 44 (0, 0)) :: pt b79 (.cells #[.int .i64 x59.No, .int .i64 x59.Stock, .slice a73 x59.Stops.length c74, .slice a76 x59.Legs.length c77] 42 (0, 0)) :: mapC keyI.f Value.bool b55 (mput q67 x59.No true) :: pt b51 (.cells #[.slice a0_0 x0.Trains.length c0_0, .slice a0_1 x0.Turns.length c0_1] 25 (0, 0)) :: R)) mixed (by kernel_rfl) hS.drew ?_
            refine qP hE (Gives.fld hE rfl fl44_3) rfl ?_; clear hE a; intro a hE
            refine qP hE (Gives.loadB hE 0 rfl rfl rfl ty3) rfl ?_; clear hE a; intro a hE
            refine qP hE (Gives.fld hE rfl fl44_2) rfl ?_; clear hE a; intro a hE
            refine qP hE (Gives.loadB hE 0 rfl rfl rfl ty3) rfl ?_; clear hE a; intro a hE
            refine qP hE (Gives.p hE rfl) rfl ?_; clear hE a; intro a hE
            refine qP hE (Gives.p hE rfl) rfl ?_; clear hE a; intro a hE
            rcases Bool.eq_false_or_eq_true (decide (x86.Dep < x86.Arr)) with hg115 | hg115
            ·replace hq109 := iteT hg115 hq109
             refine QL.no hE (runs_not hE rfl rfl rfl (by rw [hg115]; decide)) rfl ?_; clear hE a; intro a hE
             refine QL.no hE (runs_not hE rfl rfl rfl (by rw [hg115]; decide)) rfl ?_; clear hE a; intro a hE
             refine QL.no hE (runs_not hE rfl rfl rfl (by rw [hg115]; decide)) rfl ?_; clear hE a; intro a hE
             refine QL.no hE (runs_undef hE rfl rfl rfl) rfl ?_; clear hE a; intro a hE
             refine QL.no hE (runs_undef hE rfl rfl rfl) rfl ?_; clear hE a; intro a hE
             refine QL.no hE (runs_undef hE rfl rfl rfl) rfl ?_; clear hE a; intro a hE
             refine QL.no hE (runs_undef hE rfl rfl rfl) rfl ?_; clear hE a; intro a hE
             refine QL.no hE (runs_undef hE rfl rfl rfl) rfl ?_; clear hE a; intro a hE
             refine QL.no hE (runs_undef hE rfl rfl rfl) rfl ?_; clear hE a; intro a hE
             refine QL.no hE (runs_undef hE rfl rfl rfl) rfl ?_; clear hE a; intro a hE
             refine QL.no hE (runs_undef hE rfl rfl rfl) rfl ?_; clear hE a; intro a hE
             refine QL.no hE (runs_undef hE rfl rfl rfl) rfl ?_; clear hE a; intro a hE
             refine QL.no hE (runs_undef hE rfl rfl rfl) rfl ?_; clear hE a; intro a hE
             refine QL.no hE (runs_not hE rfl rfl rfl (by rw [hg115]; decide)) rfl ?_; clear hE a; intro a hE
             refine qP hE (Gives.pickT hE rfl hg115 rfl) rfl ?_; clear hE a; intro a hE
             refine qP hE (Gives.p hE rfl) rfl ?_; clear hE a; intro a hE
             refine QL.nil ?_; clear hS w; intro w hS
             subst hK114
             exact ⟨true, Option.some.inj hq109, hE.pick _ ⟨rfl, rfl, rfl, rfl, rfl, rfl, rfl, rfl, rfl, trivial⟩, hS⟩
            ·replace hq109 := iteF hg115 hq109
             refine QL.v hE (runs_if hE rfl rfl rfl hg115) (Gives.p hE rfl) rfl ?_; clear hE a; intro a hE
             refine QL.v hE (runs_if hE rfl rfl rfl hg115) (Gives.p hE rfl) rfl ?_; clear hE a; intro a hE
             refine QL.v hE (runs_if hE rfl rfl rfl hg115) (Gives.p hE rfl) rfl ?_; clear hE a; intro a hE
             rcases Bool.eq_false_or_eq_true (decide (((k85 : Nat) : Int) > 0)) with hg116 | hg116
             ·replace hq109 := iteT hg116 hq109
              refine QL.v hE (runs_if hE rfl rfl rfl hg116) (Gives.fld hE rfl fl44_2) rfl ?_; clear hE a; intro a hE
              refine QL.v hE (runs_if hE rfl rfl rfl hg116) (Gives.loadB hE 0 rfl rfl rfl ty3) rfl ?_; clear hE a; intro a hE
              refine QL.v hE (runs_if hE rfl rfl rfl hg116) (Gives.fld hE rfl fl42_2) rfl ?_; clear hE a; intro a hE
              refine QL.v hE (runs_if hE rfl rfl rfl hg116) (Gives.loadB hE 1 rfl rfl rfl ty40) rfl ?_; clear hE a; intro a hE
              refine QL.v hE (runs_if hE rfl rfl rfl hg116) (Gives.p hE rfl) rfl ?_; clear hE a; intro a hE
              refine QL.v hE (runs_if hE rfl rfl rfl hg116) (Gives.p hE rfl) rfl ?_; clear hE a; intro a hE
              obtain ⟨x117, hx118, hq109⟩ := bindS hq109
              obtain ⟨hi119, hlt120, hy121⟩ := gx_some hx118
              obtain ⟨cs122, hl123, hR124, hat125⟩ := h75.at hy121
              subst hR124
              refine QL.v hE (runs_if hE rfl rfl rfl hg116) (Gives.idx hE (w64 (((k85 : Nat) : Int) - 1)).toNat rfl rfl sl40 hi119 hlt120 (h75.aok hlt120)) rfl ?_; clear hE a; intro a hE
              refine QL.v hE (runs_if hE rfl rfl rfl hg116) (Gives.fld hE rfl fl44_3) rfl ?_; clear hE a; intro a hE
              refine QL.v hE (runs_if hE rfl rfl rfl hg116) (Gives.load1 hE rfl (fun w h => (hat125 w _ h).one rfl) ty3) rfl ?_; clear hE a; intro a hE
              refine QL.v hE (runs_if hE rfl rfl rfl hg116) (Gives.p hE rfl) rfl ?_; clear hE a; intro a hE
              refine QL.v hE (runs_if hE rfl rfl rfl hg115) (Gives.pickT hE rfl hg116 rfl) rfl ?_; clear hE a; intro a hE
              refine qP hE (Gives.pickF hE rfl hg115 rfl) rfl ?_; clear hE a; intro a hE
              refine qP hE (Gives.p hE rfl) rfl ?_; clear hE a; intro a hE
              refine QL.nil ?_; clear hS w; intro w hS
              subst hK114
              exact ⟨decide (x86.Arr ≤ x117.Dep), Option.some.inj hq109, hE.pick _ ⟨rfl, rfl, rfl, rfl, rfl, rfl, rfl, rfl, rfl, trivial⟩, hS⟩
             ·replace hq109 := iteF hg116 hq109
              refine QL.no hE (runs_not hE rfl rfl rfl (by rw [hg116]; decide)) rfl ?_; clear hE a; intro a hE
              refine QL.no hE (runs_not hE rfl rfl rfl (by rw [hg116]; decide)) rfl ?_; clear hE a; intro a hE
              refine QL.no hE (runs_not hE rfl rfl rfl (by rw [hg116]; decide)) rfl ?_; clear hE a; intro a hE
              refine QL.no hE (runs_not hE rfl rfl rfl (by rw [hg116]; decide)) rfl ?_; clear hE a; intro a hE
              refine QL.no hE (runs_not hE rfl rfl rfl (by rw [hg116]; decide)) rfl ?_; clear hE a; intro a hE
              refine QL.no hE (runs_not hE rfl rfl rfl (by rw [hg116]; decide)) rfl ?_; clear hE a; intro a hE
              refine QL.no hE (runs_not hE rfl rfl rfl (by rw [hg116]; decide)) rfl ?_; clear hE a; intro a hE
              refine QL.no hE (runs_not hE rfl rfl rfl (by rw [hg116]; decide)) rfl ?_; clear hE a; intro a hE
              refine QL.no hE (runs_not hE rfl rfl rfl (by rw [hg116]; decide)) rfl ?_; clear hE a; intro a hE
              refine QL.no hE (runs_not hE rfl rfl rfl (by rw [hg116]; decide)) rfl ?_; clear hE a; intro a hE
              refine QL.v hE (runs_if hE rfl rfl rfl hg115) (Gives.pickF hE rfl hg116 rfl) rfl ?_; clear hE a; intro a hE
              refine qP hE (Gives.pickF hE rfl hg115 rfl) rfl ?_; clear hE a; intro a hE
              refine qP hE (Gives.p hE rfl) rfl ?_; clear hE a; intro a hE
              refine QL.nil ?_; clear hS w; intro w hS
              subst hK114
              exact ⟨false, Option.some.inj hq109, hE.pick _ ⟨rfl, rfl, rfl, rfl, rfl, rfl, rfl, rfl, rfl, trivial⟩, hS⟩
           ·clear hE hS a w; rintro a w ⟨q113, rfl, hE, hS⟩
            refine W.cond hE rfl (fun hc126 => ?_) (fun hc126 => ?_)
            ·replace hq83 := iteT hc126 hq83
             refine W.seq (W.region ?_)
             refine vP hS hE (Gives.p hE rfl) rfl ?_; clear hE a; intro a hE
             refine WL.nil ?_
             refine W.ret ?_
             subst hK94
             subst hK68
             rw [← Option.some.inj hq83] at hq56
             dsimp only at hq56
             rw [← Option.some.inj hq56] at hr
             dsimp only at hr
             refine finG (fn := Tryz.f53) (rs := [.tmp 2]) (vs := [_]) hE rfl ⟨rfl, trivial⟩ ?_
             obtain rfl := Option.some.inj hr
             replace hS := hS.tail
             replace hS := hS.tail
             replace hS := hS.tail
             replace hS := hS.tail
             exact ⟨rfl, hS⟩
            ·replace hq83 := iteF hc126 hq83
             refine W.skip ?_
             refine W.region ?_
             refine vP hS hE (Gives.inc hE rfl (by have := h75.small; omega)) rfl ?_; clear hE a; intro a hE
             refine vP hS hE (Gives.p hE rfl) rfl ?_; clear hE a; intro a hE
             refine WL.nil ?_
             replace hS := hS.tail
             subst hK94
             exact ⟨rest87.length, Nat.lt_succ_self _, rest87, k85 + 1, rfl, hd88, hq83, hE.pick _ ⟨rfl, rfl, rfl, rfl, rfl, rfl, rfl, rfl, trivial⟩, hS⟩
       ·clear hE hS a w; rintro a w ⟨rfl, hE, hS⟩
        dsimp only at hq56
        refine W.region ?_
        refine vP hS hE (Gives.inc hE rfl (by have := h0_0.small; omega)) rfl ?_; clear hE a; intro a hE
        refine vP hS hE (Gives.p hE rfl) rfl ?_; clear hE a; intro a hE
        refine WL.nil ?_
        replace hS := hS.tail
        subst hK68
        exact ⟨rest60.length, Nat.lt_succ_self _, rest60, k58 + 1, (mput q67 x59.No true), rfl, hd61, hq56, hE.pick _ ⟨rfl, rfl, rfl, rfl, trivial⟩, hS⟩
  ·clear hE hS a w; rintro a w ⟨q67, rfl, hE, hS⟩
   dsimp only at hr
   refine W.seq (W.region ?_)
   refine vP hS hE (Gives.p hE rfl) rfl ?_; clear hE a; intro a hE
   refine WL.nil ?_
   refine W.ret ?_
   refine finG (fn := Tryz.f53) (rs := [.tmp 2]) (vs := [_]) hE rfl ⟨rfl, trivial⟩ ?_
   obtain rfl := Option.some.inj hr
   replace hS := hS.tail
   replace hS := hS.tail
   exact ⟨rfl, hS⟩
set_option maxHeartbeats 8000000 in
theorem GuidecheckLeast_ok  {w : World} {s : Sg} {R : List HP} {x0 : ApiDay} {a0_0 : Option Addr} {c0_0 : Nat} {a0_1 : Option Addr} {c0_1 : Nat} {x1 : Int} (hS : St w s (R)) (hTab : TabX s) (h0_0 : Sl 4 RApiTrain s a0_0 c0_0 x0.Trains) (h0_1 : Sl 1 (RL 1 (RI .i64)) s a0_1 c0_1 x0.Turns) {r : Int} (hr : GuidecheckLeast x0 x1 = some r) :
  Calls Tryz.prog 35 [.agg (List.toArray [.slice a0_0 x0.Trains.length c0_0, .slice a0_1 x0.Turns.length c0_1]), .int .i64 x1].toArray w (fun e w => e = .returned (.int .i64 r) ∧ St w s (R)) := by
 refine enter Tryz.func35 rfl rfl rfl fun a hE => ?_
 rw [GuidecheckLeast] at hr
 refine W.seq (W.region ?_)
 refine WL.box hE hS (runs_plain rfl) rfl rfl rfl ?_; clear hE hS a w; intro b51 a w hE hS
 refine vP hS hE (Gives.p hE rfl) rfl ?_; clear hE a; intro a hE
 refine WL.nil ?_
 refine W.seq ?_
 refine W.seq (W.region ?_)
 refine vP hS hE (Gives.loadBA hE 0 rfl rfl ty25) rfl ?_; clear hE a; intro a hE
 obtain ⟨q52, hq53, hr⟩ := bindS hr
 have hc_ := GuideCheck_ok hS (TabG.mono (Sg.Le.refl _) hTab) h0_0 h0_1 hq53
 refine WL.fnq hE (hc_) (runs_plain rfl) bd53 rfl rfl rfl ?_
 clear hE hS hc_; rintro e w ⟨rfl, hS⟩; refine ⟨_, rfl, ?_⟩; clear a; intro a hE
 refine vP hS hE (Gives.p hE rfl) rfl ?_; clear hE a; intro a hE
 refine WL.nil ?_
 refine W.seq (W.region ?_)
 refine vP hS hE (Gives.p hE rfl) rfl ?_; clear hE a; intro a hE
 refine vP hS hE (Gives.p hE rfl) rfl ?_; clear hE a; intro a hE
 refine WL.nil ?_
 refine W.cond hE rfl (fun hc54 => ?_) (fun hc54 => ?_)
 ·replace hr := iteT hc54 hr
  refine W.seq (W.region ?_)
  refine vP hS hE (Gives.p hE rfl) rfl ?_; clear hE a; intro a hE
  refine vP hS hE (Gives.p hE rfl) rfl ?_; clear hE a; intro a hE
  refine WL.nil ?_
  refine W.ret ?_
  refine finG (fn := Tryz.f35) (rs := [.tmp 4]) (vs := [_]) hE rfl ⟨rfl, trivial⟩ ?_
  obtain rfl := Option.some.inj hr
  replace hS := hS.tail
  exact ⟨rfl, hS⟩
 ·replace hr := iteF hc54 hr
  refine W.skip ?_
  refine W.seq ?_
  refine W.seq (W.region ?_)
  refine vP hS hE (Gives.p hE rfl) rfl ?_; clear hE a; intro a hE
  refine WL.fnq hE (Guidewithin_ok hS  rfl (r := Guidewithin x1 0 28800)) (runs_plain rfl) bd54 rfl rfl rfl ?_
  clear hE hS; rintro e w ⟨rfl, hS⟩; refine ⟨_, rfl, ?_⟩; clear a; intro a hE
  refine vP hS hE (Gives.p hE rfl) rfl ?_; clear hE a; intro a hE
  refine WL.nil ?_
  refine W.cond hE rfl (fun hc55 => ?_) (fun hc55 => ?_)
  ·replace hr := iteT hc55 hr
   refine W.seq (W.region ?_)
   refine vP hS hE (Gives.p hE rfl) rfl ?_; clear hE a; intro a hE
   refine WL.nil ?_
   refine W.ret ?_
   refine finG (fn := Tryz.f35) (rs := [.tmp 4]) (vs := [_]) hE rfl ⟨rfl, trivial⟩ ?_
   obtain rfl := Option.some.inj hr
   replace hS := hS.tail
   exact ⟨rfl, hS⟩
  ·replace hr := iteF hc55 hr
   refine W.skip ?_
   refine W.seq (W.region ?_)
   refine vP hS hE (Gives.p hE rfl) rfl ?_; clear hE a; intro a hE
   refine WL.nil ?_
   refine W.ret ?_
   refine finG (fn := Tryz.f35) (rs := [.tmp 4]) (vs := [_]) hE rfl ⟨rfl, trivial⟩ ?_
   obtain rfl := Option.some.inj hr
   replace hS := hS.tail
   exact ⟨rfl, hS⟩
set_option maxHeartbeats 8000000 in
theorem GuideNeton_ok  {w : World} {s : Sg} {R : List HP} {x0 : GuideNet} {a0_0 : Option Addr} {c0_0 : Nat} {a0_1 : Option Addr} {c0_1 : Nat} {x1 : GuideRide} (hS : St w s (R)) (h0_0 : Sl 4 RApiTrain s a0_0 c0_0 x0.Day.Trains) (_h0_1 : Sl 1 (RL 1 (RI .i64)) s a0_1 c0_1 x0.Day.Turns) {r : ApiStop} (hr : GuideNeton x0 x1 = some r) :
  Calls Tryz.prog 55 [.agg (List.toArray [.slice a0_0 x0.Day.Trains.length c0_0, .slice a0_1 x0.Day.Turns.length c0_1, .int .i64 x0.least]), .agg (GuideRide.cells x1).toArray].toArray w (fun e w => ∃ (cs0 : List Value), e = .returned (.agg cs0.toArray) ∧ RApiStop s cs0 r ∧ St w s (R)) := by
 refine enter Tryz.func55 rfl rfl rfl fun a hE => ?_
 rw [GuideNeton] at hr
 refine W.seq (W.region ?_)
 refine WL.box hE hS (runs_plain rfl) rfl rfl rfl ?_; clear hE hS a w; intro b51 a w hE hS
 refine WL.box hE hS (runs_plain rfl) rfl rfl rfl ?_; clear hE hS a w; intro b52 a w hE hS
 refine WL.alloc hE hS (runs_plain rfl) zr44 rfl ?_; clear hE hS a w; intro b53 a w hE hS
 refine WL.nil ?_
 refine W.seq ?_
 refine W.gen fun K54 hK54 => ?_
 refine rE hS [] [0] [0, 1, 2, 3, 4, 5, 6, 7, 8, 9, 10, 11] [0, 1, 2, 3, 4, 5, 6, 7, 8, 9, 10, 11, 12] mixed ?_
 replace hS := hS.drew
 refine Rg.takeP (i := 0) hE rfl (by kernel_rfl) (runs_plain rfl) (Gives.fld hE rfl fl86_0) rfl (tw_sel (fun _ => hS) (fun _ => (hS.tail))) ?_; clear hE a; intro a hE
 refine Rg.takeP (i := 1) hE rfl (by kernel_rfl) (runs_plain rfl) (Gives.fld hE rfl fl25_0) rfl (tw_sel (fun _ => hS) (fun _ => (hS.tail))) ?_; clear hE a; intro a hE
 refine Rg.take (i := 2) true rfl hE rfl (by kernel_rfl) (runs_plain rfl) (Gives.loadB hE 2 rfl rfl rfl ty22) rfl (tw_sel (fun _ => hS) (fun _ => (hS.tail))) ?_; clear hE a; intro a hE
 refine Rg.takeP (i := 3) hE rfl (by kernel_rfl) (runs_plain rfl) (Gives.fld hE rfl fl39_0) rfl (tw_sel (fun _ => hS) (fun _ => (hS.tail))) ?_; clear hE a; intro a hE
 refine Rg.take (i := 4) true rfl hE rfl (by kernel_rfl) (runs_plain rfl) (Gives.loadB hE 1 rfl rfl rfl ty3) rfl (tw_sel (fun _ => hS) (fun _ => (hS.tail))) ?_; clear hE a; intro a hE
 obtain ⟨x55, hx56, hr⟩ := bindS hr
 obtain ⟨hi57, hlt58, hy59⟩ := gx_some hx56
 obtain ⟨cs60, hl61, hR62, hat63⟩ := h0_0.at hy59
 obtain ⟨a64, c65, a67, c68, rfl, h66, h69⟩ := hR62
 refine Rg.takeP (i := 5) hE rfl (by kernel_rfl) (runs_plain rfl) (Gives.idx hE (x1.Train).toNat rfl rfl sl22 hi57 hlt58 (h0_0.aok hlt58)) rfl (tw_sel (fun _ => hS) (fun _ => (hS.tail))) ?_; clear hE a; intro a hE
 refine Rg.takeP (i := 6) hE rfl (by kernel_rfl) (runs_plain rfl) (Gives.fld hE rfl fl42_2) rfl (tw_sel (fun _ => hS) (fun _ => (hS.tail))) ?_; clear hE a; intro a hE
 refine Rg.take (i := 7) true rfl hE rfl (by kernel_rfl) (runs_plain rfl) (Gives.load1 hE rfl (fun w h => (hat63 w _ h).one rfl) ty40) rfl (tw_sel (fun _ => hS) (fun _ => (hS.tail))) ?_; clear hE a; intro a hE
 refine Rg.takeP (i := 8) hE rfl (by kernel_rfl) (runs_plain rfl) (Gives.fld hE rfl fl39_1) rfl (tw_sel (fun _ => hS) (fun _ => (hS.tail))) ?_; clear hE a; intro a hE
 refine Rg.take (i := 9) true rfl hE rfl (by kernel_rfl) (runs_plain rfl) (Gives.loadB hE 1 rfl rfl rfl ty3) rfl (tw_sel (fun _ => hS) (fun _ => (hS.tail))) ?_; clear hE a; intro a hE
 obtain ⟨x70, hx71, hr⟩ := bindS hr
 obtain ⟨hi72, hlt73, hy74⟩ := gx_some hx71
 obtain ⟨cs75, hl76, hR77, hat78⟩ := h66.at hy74
 subst hR77
 refine Rg.takeP (i := 10) hE rfl (by kernel_rfl) (runs_plain rfl) (Gives.idx hE (x1.On).toNat rfl rfl sl40 hi72 hlt73 (h66.aok hlt73)) rfl (tw_sel (fun _ => hS) (fun _ => (hS.tail))) ?_; clear hE a; intro a hE
 refine Rg.take (i := 11) true rfl hE rfl (by kernel_rfl) (runs_plain rfl) (Gives.loadA hE rfl (fun w h => hat78 w _ h) ty44) rfl (tw_sel (fun _ => hS) (fun _ => (hS.tail))) ?_; clear hE a; intro a hE
 refine Rg.one (i := 12) false true rfl (by kernel_rfl) (by kernel_rfl) (by kernel_rfl) ?_
 refine WL.storeI hE hS 0 rfl (ApiStop.cells x70) (runs_plain rfl) rfl rfl rfl ty44 rfl rfl rfl rfl ?_; clear hE hS a w; intro a w hE hS
 refine WL.nil ?_
 refine ⟨⟨fun h => absurd h (by decide), fun _ => (hS.tail)⟩, ?_⟩
 refine Rg.done (by kernel_rfl) ?_
 subst hK54
 refine W.ret ?_
 refine finG (fn := Tryz.f55) (rs := [.cell 4 44]) (vs := [_]) hE rfl ⟨⟨_, rfl, .inl ⟨_, rfl, hS.seesAt 0 rfl, ty44⟩⟩, trivial⟩ ?_
 obtain rfl := Option.some.inj hr
 replace hS := hS.tail
 replace hS := hS.tail
 replace hS := hS.tail
 exact ⟨_, rfl, rfl, hS⟩
set_option maxHeartbeats 8000000 in
theorem GuideNetoff_ok  {w : World} {s : Sg} {R : List HP} {x0 : GuideNet} {a0_0 : Option Addr} {c0_0 : Nat} {a0_1 : Option Addr} {c0_1 : Nat} {x1 : GuideRide} (hS : St w s (R)) (h0_0 : Sl 4 RApiTrain s a0_0 c0_0 x0.Day.Trains) (_h0_1 : Sl 1 (RL 1 (RI .i64)) s a0_1 c0_1 x0.Day.Turns) {r : ApiStop} (hr : GuideNetoff x0 x1 = some r) :
  Calls Tryz.prog 56 [.agg (List.toArray [.slice a0_0 x0.Day.Trains.length c0_0, .slice a0_1 x0.Day.Turns.length c0_1, .int .i64 x0.least]), .agg (GuideRide.cells x1).toArray].toArray w (fun e w => ∃ (cs0 : List Value), e = .returned (.agg cs0.toArray) ∧ RApiStop s cs0 r ∧ St w s (R)) := by
 refine enter Tryz.func56 rfl rfl rfl fun a hE => ?_
 rw [GuideNetoff] at hr
 refine W.seq (W.region ?_)
 refine WL.box hE hS (runs_plain rfl) rfl rfl rfl ?_; clear hE hS a w; intro b51 a w hE hS
 refine WL.box hE hS (runs_plain rfl) rfl rfl rfl ?_; clear hE hS a w; intro b52 a w hE hS
 refine WL.alloc hE hS (runs_plain rfl) zr44 rfl ?_; clear hE hS a w; intro b53 a w hE hS
 refine WL.nil ?_
 refine W.seq ?_
 refine W.gen fun K54 hK54 => ?_
 refine rE hS [] [0] [0, 1, 2, 3, 4, 5, 6, 7, 8, 9, 10, 11] [0, 1, 2, 3, 4, 5, 6, 7, 8, 9, 10, 11, 12] mixed ?_
 replace hS := hS.drew
 refine Rg.takeP (i := 0) hE rfl (by kernel_rfl) (runs_plain rfl) (Gives.fld hE rfl fl86_0) rfl (tw_sel (fun _ => hS) (fun _ => (hS.tail))) ?_; clear hE a; intro a hE
 refine Rg.takeP (i := 1) hE rfl (by kernel_rfl) (runs_plain rfl) (Gives.fld hE rfl fl25_0) rfl (tw_sel (fun _ => hS) (fun _ => (hS.tail))) ?_; clear hE a; intro a hE
 refine Rg.take (i := 2) true rfl hE rfl (by kernel_rfl) (runs_plain rfl) (Gives.loadB hE 2 rfl rfl rfl ty22) rfl (tw_sel (fun _ => hS) (fun _ => (hS.tail))) ?_; clear hE a; intro a hE
 refine Rg.takeP (i := 3) hE rfl (by kernel_rfl) (runs_plain rfl) (Gives.fld hE rfl fl39_0) rfl (tw_sel (fun _ => hS) (fun _ => (hS.tail))) ?_; clear hE a; intro a hE
 refine Rg.take (i := 4) true rfl hE rfl (by kernel_rfl) (runs_plain rfl) (Gives.loadB hE 1 rfl rfl rfl ty3) rfl (tw_sel (fun _ => hS) (fun _ => (hS.tail))) ?_; clear hE a; intro a hE
 obtain ⟨x55, hx56, hr⟩ := bindS hr
 obtain ⟨hi57, hlt58, hy59⟩ := gx_some hx56
 obtain ⟨cs60, hl61, hR62, hat63⟩ := h0_0.at hy59
 obtain ⟨a64, c65, a67, c68, rfl, h66, h69⟩ := hR62
 refine Rg.takeP (i := 5) hE rfl (by kernel_rfl) (runs_plain rfl) (Gives.idx hE (x1.Train).toNat rfl rfl sl22 hi57 hlt58 (h0_0.aok hlt58)) rfl (tw_sel (fun _ => hS) (fun _ => (hS.tail))) ?_; clear hE a; intro a hE
 refine Rg.takeP (i := 6) hE rfl (by kernel_rfl) (runs_plain rfl) (Gives.fld hE rfl fl42_2) rfl (tw_sel (fun _ => hS) (fun _ => (hS.tail))) ?_; clear hE a; intro a hE
 refine Rg.take (i := 7) true rfl hE rfl (by kernel_rfl) (runs_plain rfl) (Gives.load1 hE rfl (fun w h => (hat63 w _ h).one rfl) ty40) rfl (tw_sel (fun _ => hS) (fun _ => (hS.tail))) ?_; clear hE a; intro a hE
 refine Rg.takeP (i := 8) hE rfl (by kernel_rfl) (runs_plain rfl) (Gives.fld hE rfl fl39_2) rfl (tw_sel (fun _ => hS) (fun _ => (hS.tail))) ?_; clear hE a; intro a hE
 refine Rg.take (i := 9) true rfl hE rfl (by kernel_rfl) (runs_plain rfl) (Gives.loadB hE 1 rfl rfl rfl ty3) rfl (tw_sel (fun _ => hS) (fun _ => (hS.tail))) ?_; clear hE a; intro a hE
 obtain ⟨x70, hx71, hr⟩ := bindS hr
 obtain ⟨hi72, hlt73, hy74⟩ := gx_some hx71
 obtain ⟨cs75, hl76, hR77, hat78⟩ := h66.at hy74
 subst hR77
 refine Rg.takeP (i := 10) hE rfl (by kernel_rfl) (runs_plain rfl) (Gives.idx hE (x1.Off).toNat rfl rfl sl40 hi72 hlt73 (h66.aok hlt73)) rfl (tw_sel (fun _ => hS) (fun _ => (hS.tail))) ?_; clear hE a; intro a hE
 refine Rg.take (i := 11) true rfl hE rfl (by kernel_rfl) (runs_plain rfl) (Gives.loadA hE rfl (fun w h => hat78 w _ h) ty44) rfl (tw_sel (fun _ => hS) (fun _ => (hS.tail))) ?_; clear hE a; intro a hE
 refine Rg.one (i := 12) false true rfl (by kernel_rfl) (by kernel_rfl) (by kernel_rfl) ?_
 refine WL.storeI hE hS 0 rfl (ApiStop.cells x70) (runs_plain rfl) rfl rfl rfl ty44 rfl rfl rfl rfl ?_; clear hE hS a w; intro a w hE hS
 refine WL.nil ?_
 refine ⟨⟨fun h => absurd h (by decide), fun _ => (hS.tail)⟩, ?_⟩
 refine Rg.done (by kernel_rfl) ?_
 subst hK54
 refine W.ret ?_
 refine finG (fn := Tryz.f56) (rs := [.cell 4 44]) (vs := [_]) hE rfl ⟨⟨_, rfl, .inl ⟨_, rfl, hS.seesAt 0 rfl, ty44⟩⟩, trivial⟩ ?_
 obtain rfl := Option.some.inj hr
 replace hS := hS.tail
 replace hS := hS.tail
 replace hS := hS.tail
 exact ⟨_, rfl, rfl, hS⟩
set_option maxHeartbeats 8000000 in
theorem GuideNetjourney_ok  {w : World} {s : Sg} {R : List HP} {x0 : GuideNet} {a0_0 : Option Addr} {c0_0 : Nat} {a0_1 : Option Addr} {c0_1 : Nat} {x1 : GuideJourney} {a1_0 : Option Addr} {c1_0 : Nat} {x2 : Bool} (hS : St w s (R)) (h0_0 : Sl 4 RApiTrain s a0_0 c0_0 x0.Day.Trains) (h0_1 : Sl 1 (RL 1 (RI .i64)) s a0_1 c0_1 x0.Day.Turns) (h1_0 : Sl 3 RGuideRide s a1_0 c1_0 x1.Rides) {r : Int} (hr : GuideNetjourney x0 x1 x2 = some r) :
  Calls Tryz.prog 36 [.agg (List.toArray [.slice a0_0 x0.Day.Trains.length c0_0, .slice a0_1 x0.Day.Turns.length c0_1, .int .i64 x0.least]), .agg (List.toArray [.slice a1_0 x1.Rides.length c1_0]), .bool x2].toArray w (fun e w => e = .returned (.int .i64 r) ∧ St w s (R)) := by
 refine enter Tryz.func36 rfl rfl rfl fun a hE => ?_
 rw [GuideNetjourney] at hr
 refine W.seq (W.region ?_)
 refine WL.box hE hS (runs_plain rfl) rfl rfl rfl ?_; clear hE hS a w; intro b51 a w hE hS
 refine WL.box hE hS (runs_plain rfl) rfl rfl rfl ?_; clear hE hS a w; intro b52 a w hE hS
 refine vP hS hE (Gives.p hE rfl) rfl ?_; clear hE a; intro a hE
 refine WL.nil ?_
 refine W.seq ?_
 refine W.seq (W.region ?_)
 refine vP hS hE (Gives.fld hE rfl fl28_0) rfl ?_; clear hE a; intro a hE
 refine vP hS hE (Gives.loadB hE 0 rfl rfl rfl ty26) rfl ?_; clear hE a; intro a hE
 refine vP hS hE (Gives.len hE rfl sl26) rfl ?_; clear hE a; intro a hE
 refine WL.fnq hE (Guidewithin_ok hS  rfl (r := Guidewithin ((x1.Rides).length : Int) 1 4)) (runs_plain rfl) bd54 rfl rfl rfl ?_
 clear hE hS; rintro e w ⟨rfl, hS⟩; refine ⟨_, rfl, ?_⟩; clear a; intro a hE
 refine vP hS hE (Gives.p hE rfl) rfl ?_; clear hE a; intro a hE
 refine WL.nil ?_
 refine W.cond hE rfl (fun hc53 => ?_) (fun hc53 => ?_)
 ·replace hr := iteT hc53 hr
  refine W.seq (W.region ?_)
  refine vP hS hE (Gives.p hE rfl) rfl ?_; clear hE a; intro a hE
  refine WL.nil ?_
  refine W.ret ?_
  refine finG (fn := Tryz.f36) (rs := [.tmp 6]) (vs := [_]) hE rfl ⟨rfl, trivial⟩ ?_
  obtain rfl := Option.some.inj hr
  replace hS := hS.tail
  replace hS := hS.tail
  exact ⟨rfl, hS⟩
 ·replace hr := iteF hc53 hr
  refine W.skip ?_
  refine W.seq ?_
  refine W.seq (W.region ?_)
  refine vP hS hE (Gives.fld hE rfl fl28_0) rfl ?_; clear hE a; intro a hE
  refine vP hS hE (Gives.loadB hE 0 rfl rfl rfl ty26) rfl ?_; clear hE a; intro a hE
  refine vP hS hE (Gives.len hE rfl sl26) rfl ?_; clear hE a; intro a hE
  refine vP hS hE (Gives.p hE rfl) rfl ?_; clear hE a; intro a hE
  refine WL.nil ?_
  obtain ⟨q55, hq54, hr⟩ := bindS hr
  refine W.cut (fun a w => (.next ()) = q55 ∧ Rep a 104 [] ∧ St w s (pt b52 (.cells #[.slice a1_0 x1.Rides.length c1_0] 28 (0, 0)) :: pt b51 (.cells #[.slice a0_0 x0.Day.Trains.length c0_0, .slice a0_1 x0.Day.Turns.length c0_1, .int .i64 x0.least] 86 (0, 0)) :: R)) ?_ ?_
  ·refine W.block ?_
   refine W.loop (fun m a w => ∃ (rest58 : List GuideRide) (k56 : Nat), rest58.length = m ∧ x1.Rides.drop k56 = rest58 ∧ GuideNetjourney.loop1 x0 x1 x2 rest58 k56 = some q55 ∧ Rep a 104 [(2, .bool x2), (3, .pointer (some ⟨b51, 0, none⟩)), (4, .pointer (some ⟨b52, 0, none⟩)), (17, .slice a1_0 x1.Rides.length c1_0), (18, .int .i64 ((x1.Rides).length : Int)), (19, .int .i64 ((k56 : Nat) : Int))] ∧ St w s (pt b52 (.cells #[.slice a1_0 x1.Rides.length c1_0] 28 (0, 0)) :: pt b51 (.cells #[.slice a0_0 x0.Day.Trains.length c0_0, .slice a0_1 x0.Day.Turns.length c0_1, .int .i64 x0.least] 86 (0, 0)) :: R)) (m := x1.Rides.length) ⟨x1.Rides, 0, rfl, rfl, hq54, hE.pick _ ⟨rfl, rfl, rfl, rfl, rfl, rfl, trivial⟩, hS⟩ ?_
   clear hE hS a w hq54; rintro m62 a w ⟨rest58, k56, rfl, hd59, hq54, hE, hS⟩
   refine W.gen fun K65 hK65 => ?_
   rcases rest58 with _ | ⟨x57, rest58⟩
   ·have hlt60 := drop_nil hd59
    refine W.seq (W.region ?_)
    refine vP hS hE (Gives.p hE rfl) rfl ?_; clear hE a; intro a hE
    refine WL.nil ?_
    refine W.seq ?_
    refine W.condF hE rfl (decide_eq_false (by omega)) ?_
    subst hK65
    refine W.exit rfl ?_
    exact ⟨Option.some.inj hq54, hE.pick _ trivial, hS⟩
   ·obtain ⟨hlt60, hx61, hd59⟩ := drop_cons hd59
    rw [GuideNetjourney.loop1] at hq54
    refine W.seq (W.region ?_)
    refine vP hS hE (Gives.p hE rfl) rfl ?_; clear hE a; intro a hE
    refine WL.nil ?_
    refine W.seq ?_
    refine W.condT hE rfl (decide_eq_true (by omega)) ?_
    refine W.skip ?_
    refine W.seq ?_
    refine W.block ?_
    refine W.seq (W.region ?_)
    refine vP hS hE (Gives.p hE rfl) rfl ?_; clear hE a; intro a hE
    obtain ⟨cs66, hl67, hR68, hat69⟩ := h1_0.at hx61
    subst hR68
    refine vP hS hE (Gives.idx hE k56 rfl rfl sl26 rfl hlt60 (h1_0.aok hlt60)) rfl ?_; clear hE a; intro a hE
    refine vP hS hE (Gives.loadA hE rfl (fun w h => hat69 w _ h) ty39) rfl ?_; clear hE a; intro a hE
    refine WL.alloc hE hS (runs_plain rfl) zr39 rfl ?_; clear hE hS a w; intro b70 a w hE hS
    refine vP hS hE (Gives.p hE rfl) rfl ?_; clear hE a; intro a hE
    refine WL.storeI hE hS 0 rfl (GuideRide.cells x57) (runs_plain rfl) rfl rfl rfl ty39 rfl rfl rfl rfl ?_; clear hE hS a w; intro a w hE hS
    refine WL.nil ?_
    refine W.seq ?_
    refine W.seq (W.region ?_)
    refine vP hS hE (Gives.fld hE rfl fl39_0) rfl ?_; clear hE a; intro a hE
    refine vP hS hE (Gives.loadB hE 0 rfl rfl rfl ty3) rfl ?_; clear hE a; intro a hE
    refine vP hS hE (Gives.fld hE rfl fl86_0) rfl ?_; clear hE a; intro a hE
    refine vP hS hE (Gives.fld hE rfl fl25_0) rfl ?_; clear hE a; intro a hE
    refine vP hS hE (Gives.loadB hE 2 rfl rfl rfl ty22) rfl ?_; clear hE a; intro a hE
    refine vP hS hE (Gives.len hE rfl sl22) rfl ?_; clear hE a; intro a hE
    refine vP hS hE (Gives.p hE rfl) rfl ?_; clear hE a; intro a hE
    refine WL.fnq hE (Guidewithin_ok hS  rfl (r := Guidewithin x57.Train 0 (w64 (((x0.Day.Trains).length : Int) - 1)))) (runs_plain rfl) bd54 rfl rfl rfl ?_
    clear hE hS; rintro e w ⟨rfl, hS⟩; refine ⟨_, rfl, ?_⟩; clear a; intro a hE
    refine vP hS hE (Gives.p hE rfl) rfl ?_; clear hE a; intro a hE
    refine WL.nil ?_
    refine W.cond hE rfl (fun hc71 => ?_) (fun hc71 => ?_)
    ·replace hq54 := iteT hc71 hq54
     refine W.seq (W.region ?_)
     refine vP hS hE (Gives.p hE rfl) rfl ?_; clear hE a; intro a hE
     refine WL.nil ?_
     refine W.ret ?_
     subst hK65
     rw [← Option.some.inj hq54] at hr
     dsimp only at hr
     refine finG (fn := Tryz.f36) (rs := [.tmp 6]) (vs := [_]) hE rfl ⟨rfl, trivial⟩ ?_
     obtain rfl := Option.some.inj hr
     replace hS := hS.tail
     replace hS := hS.tail
     replace hS := hS.tail
     exact ⟨rfl, hS⟩
    ·replace hq54 := iteF hc71 hq54
     refine W.skip ?_
     refine W.seq (W.region ?_)
     refine vP hS hE (Gives.fld hE rfl fl86_0) rfl ?_; clear hE a; intro a hE
     refine vP hS hE (Gives.fld hE rfl fl25_0) rfl ?_; clear hE a; intro a hE
     refine vP hS hE (Gives.loadB hE 2 rfl rfl rfl ty22) rfl ?_; clear hE a; intro a hE
     refine vP hS hE (Gives.fld hE rfl fl39_0) rfl ?_; clear hE a; intro a hE
     refine vP hS hE (Gives.loadB hE 0 rfl rfl rfl ty3) rfl ?_; clear hE a; intro a hE
     obtain ⟨x72, hx73, hq54⟩ := bindS hq54
     obtain ⟨hi74, hlt75, hy76⟩ := gx_some hx73
     obtain ⟨cs77, hl78, hR79, hat80⟩ := h0_0.at hy76
     obtain ⟨a81, c82, a84, c85, rfl, h83, h86⟩ := hR79
     refine vP hS hE (Gives.idx hE (x57.Train).toNat rfl rfl sl22 hi74 hlt75 (h0_0.aok hlt75)) rfl ?_; clear hE a; intro a hE
     refine vP hS hE (Gives.fld hE rfl fl42_2) rfl ?_; clear hE a; intro a hE
     refine vP hS hE (Gives.load1 hE rfl (fun w h => (hat80 w _ h).one rfl) ty40) rfl ?_; clear hE a; intro a hE
     refine vP hS hE (Gives.len hE rfl sl40) rfl ?_; clear hE a; intro a hE
     refine vP hS hE (Gives.p hE rfl) rfl ?_; clear hE a; intro a hE
     refine vP hS hE (Gives.p hE rfl) rfl ?_; clear hE a; intro a hE
     refine WL.nil ?_
     refine W.seq ?_
     refine W.block ?_
     refine W.seq ?_
     obtain ⟨q88, hq87, hq54⟩ := bndS hq54
     refine W.cut (fun a w => ∃ (q91 : Bool), q91 = q88 ∧ Rep a 104 [(2, .bool x2), (3, .pointer (some ⟨b51, 0, none⟩)), (4, .pointer (some ⟨b52, 0, none⟩)), (7, .int .i64 ((k56 : Nat) : Int)), (8, .pointer (some ⟨b70, 0, none⟩)), (17, .slice a1_0 x1.Rides.length c1_0), (18, .int .i64 ((x1.Rides).length : Int)), (19, .int .i64 ((k56 : Nat) : Int)), (43, .bool q91)] ∧ St w s (pt b70 (.cells (GuideRide.cells x57).toArray 39 (0, 0)) :: pt b52 (.cells #[.slice a1_0 x1.Rides.length c1_0] 28 (0, 0)) :: pt b51 (.cells #[.slice a0_0 x0.Day.Trains.length c0_0, .slice a0_1 x0.Day.Turns.length c0_1, .int .i64 x0.least] 86 (0, 0)) :: R)) ?_ ?_
     ·refine W.gen fun K92 hK92 => ?_
      refine W.region ?_
      refine vP hS hE (Gives.fld hE rfl fl39_1) rfl ?_; clear hE a; intro a hE
      refine vP hS hE (Gives.loadB hE 0 rfl rfl rfl ty3) rfl ?_; clear hE a; intro a hE
      refine vP hS hE (Gives.p hE rfl) rfl ?_; clear hE a; intro a hE
      refine WL.fnq hE (Guidewithin_ok hS  rfl (r := Guidewithin x57.On 0 (w64 (((x72.Stops).length : Int) - 1)))) (runs_plain rfl) bd54 rfl rfl rfl ?_
      clear hE hS; rintro e w ⟨rfl, hS⟩; refine ⟨_, rfl, ?_⟩; clear a; intro a hE
      refine vP hS hE (Gives.p hE rfl) rfl ?_; clear hE a; intro a hE
      refine vP hS hE (Gives.p hE rfl) rfl ?_; clear hE a; intro a hE
      rcases Bool.eq_false_or_eq_true (!(Guidewithin x57.On 0 (w64 (((x72.Stops).length : Int) - 1)))) with hg93 | hg93
      ·replace hq87 := iteT hg93 hq87
       refine WL.no hE (runs_not hE rfl rfl rfl (by rw [hg93]; decide)) rfl ?_; clear hE a; intro a hE
       refine WL.no hE (runs_not hE rfl rfl rfl (by rw [hg93]; decide)) rfl ?_; clear hE a; intro a hE
       refine WL.no hE (runs_not hE rfl rfl rfl (by rw [hg93]; decide)) rfl ?_; clear hE a; intro a hE
       refine WL.no hE (runs_not hE rfl rfl rfl (by rw [hg93]; decide)) rfl ?_; clear hE a; intro a hE
       refine WL.no hE (runs_not hE rfl rfl rfl (by rw [hg93]; decide)) rfl ?_; clear hE a; intro a hE
       refine vP hS hE (Gives.pickT hE rfl hg93 rfl) rfl ?_; clear hE a; intro a hE
       refine vP hS hE (Gives.p hE rfl) rfl ?_; clear hE a; intro a hE
       refine WL.nil ?_
       subst hK92
       exact ⟨true, hq87, hE.pick _ ⟨rfl, rfl, rfl, rfl, rfl, rfl, rfl, rfl, rfl, trivial⟩, hS⟩
      ·replace hq87 := iteF hg93 hq87
       refine WL.vS hS hE (runs_if hE rfl rfl rfl hg93) (Gives.fld hE rfl fl39_2) rfl ?_; clear hE a; intro a hE
       refine WL.vS hS hE (runs_if hE rfl rfl rfl hg93) (Gives.loadB hE 0 rfl rfl rfl ty3) rfl ?_; clear hE a; intro a hE
       refine WL.vS hS hE (runs_if hE rfl rfl rfl hg93) (Gives.p hE rfl) rfl ?_; clear hE a; intro a hE
       refine WL.fnq hE (Guidewithin_ok hS  rfl (r := Guidewithin x57.Off 0 (w64 (((x72.Stops).length : Int) - 1)))) (runs_if hE rfl rfl rfl hg93) bd54 rfl rfl rfl ?_
       clear hE hS; rintro e w ⟨rfl, hS⟩; refine ⟨_, rfl, ?_⟩; clear a; intro a hE
       refine WL.vS hS hE (runs_if hE rfl rfl rfl hg93) (Gives.p hE rfl) rfl ?_; clear hE a; intro a hE
       refine vP hS hE (Gives.pickF hE rfl hg93 rfl) rfl ?_; clear hE a; intro a hE
       refine vP hS hE (Gives.p hE rfl) rfl ?_; clear hE a; intro a hE
       refine WL.nil ?_
       subst hK92
       exact ⟨!(Guidewithin x57.Off 0 (w64 (((x72.Stops).length : Int) - 1))), hq87, hE.pick _ ⟨rfl, rfl, rfl, rfl, rfl, rfl, rfl, rfl, rfl, trivial⟩, hS⟩
     ·clear hE hS a w; rintro a w ⟨q91, rfl, hE, hS⟩
      refine W.cond hE rfl (fun hc94 => ?_) (fun hc94 => ?_)
      ·replace hq54 := iteT hc94 hq54
       refine W.seq (W.region ?_)
       refine vP hS hE (Gives.p hE rfl) rfl ?_; clear hE a; intro a hE
       refine WL.nil ?_
       refine W.ret ?_
       subst hK65
       rw [← Option.some.inj hq54] at hr
       dsimp only at hr
       refine finG (fn := Tryz.f36) (rs := [.tmp 6]) (vs := [_]) hE rfl ⟨rfl, trivial⟩ ?_
       obtain rfl := Option.some.inj hr
       replace hS := hS.tail
       replace hS := hS.tail
       replace hS := hS.tail
       exact ⟨rfl, hS⟩
      ·replace hq54 := iteF hc94 hq54
       refine W.seq (W.region ?_)
       refine vP hS hE (Gives.fld hE rfl fl39_1) rfl ?_; clear hE a; intro a hE
       refine vP hS hE (Gives.loadB hE 0 rfl rfl rfl ty3) rfl ?_; clear hE a; intro a hE
       refine vP hS hE (Gives.fld hE rfl fl39_2) rfl ?_; clear hE a; intro a hE
       refine vP hS hE (Gives.loadB hE 0 rfl rfl rfl ty3) rfl ?_; clear hE a; intro a hE
       refine vP hS hE (Gives.p hE rfl) rfl ?_; clear hE a; intro a hE
       refine vP hS hE (Gives.p hE rfl) rfl ?_; clear hE a; intro a hE
       refine WL.nil ?_
       refine W.cond hE rfl (fun hc95 => ?_) (fun hc95 => ?_)
       ·replace hq54 := iteT hc95 hq54
        refine W.seq (W.region ?_)
        refine vP hS hE (Gives.p hE rfl) rfl ?_; clear hE a; intro a hE
        refine WL.nil ?_
        refine W.ret ?_
        subst hK65
        rw [← Option.some.inj hq54] at hr
        dsimp only at hr
        refine finG (fn := Tryz.f36) (rs := [.tmp 6]) (vs := [_]) hE rfl ⟨rfl, trivial⟩ ?_
        obtain rfl := Option.some.inj hr
        replace hS := hS.tail
        replace hS := hS.tail
        replace hS := hS.tail
        exact ⟨rfl, hS⟩
       ·replace hq54 := iteF hc95 hq54
        refine W.skip ?_
        refine W.seq ?_
        refine W.seq (W.region ?_)
        refine vP hS hE (Gives.p hE rfl) rfl ?_; clear hE a; intro a hE
        refine vP hS hE (Gives.p hE rfl) rfl ?_; clear hE a; intro a hE
        refine WL.nil ?_
        refine W.cond hE rfl (fun hc96 => ?_) (fun hc96 => ?_)
        ·replace hq54 := iteT hc96 hq54
         refine W.exit rfl ?_
         refine W.region ?_
         refine vP hS hE (Gives.inc hE rfl (by have := h1_0.small; omega)) rfl ?_; clear hE a; intro a hE
         refine vP hS hE (Gives.p hE rfl) rfl ?_; clear hE a; intro a hE
         refine WL.nil ?_
         replace hS := hS.tail
         subst hK65
         exact ⟨rest58.length, Nat.lt_succ_self _, rest58, k56 + 1, rfl, hd59, hq54, hE.pick _ ⟨rfl, rfl, rfl, rfl, rfl, rfl, trivial⟩, hS⟩
        ·replace hq54 := iteF hc96 hq54
         refine W.skip ?_
         refine W.seq (W.region ?_)
         refine vP hS hE (Gives.fld hE rfl fl28_0) rfl ?_; clear hE a; intro a hE
         refine vP hS hE (Gives.loadB hE 1 rfl rfl rfl ty26) rfl ?_; clear hE a; intro a hE
         refine vP hS hE (Gives.p hE rfl) rfl ?_; clear hE a; intro a hE
         refine vP hS hE (Gives.p hE rfl) rfl ?_; clear hE a; intro a hE
         obtain ⟨x97, hx98, hq54⟩ := bindS hq54
         obtain ⟨hi99, hlt100, hy101⟩ := gx_some hx98
         obtain ⟨cs102, hl103, hR104, hat105⟩ := h1_0.at hy101
         subst hR104
         refine vP hS hE (Gives.idx hE (w64 (((k56 : Nat) : Int) - 1)).toNat rfl rfl sl26 hi99 hlt100 (h1_0.aok hlt100)) rfl ?_; clear hE a; intro a hE
         refine vP hS hE (Gives.loadA hE rfl (fun w h => hat105 w _ h) ty39) rfl ?_; clear hE a; intro a hE
         refine WL.alloc hE hS (runs_plain rfl) zr39 rfl ?_; clear hE hS a w; intro b106 a w hE hS
         refine WL.storeI hE hS 0 rfl (GuideRide.cells x97) (runs_plain rfl) rfl rfl rfl ty39 rfl rfl rfl rfl ?_; clear hE hS a w; intro a w hE hS
         refine WL.nil ?_
         refine W.block ?_
         refine W.seq ?_
         obtain ⟨q108, hq107, hq54⟩ := bindS hq54
         refine W.cut (fun a w => ∃ (q111 : Bool), q111 = q108 ∧ Rep a 104 [(2, .bool x2), (3, .pointer (some ⟨b51, 0, none⟩)), (4, .pointer (some ⟨b52, 0, none⟩)), (8, .pointer (some ⟨b70, 0, none⟩)), (10, .pointer (some ⟨b106, 0, none⟩)), (17, .slice a1_0 x1.Rides.length c1_0), (18, .int .i64 ((x1.Rides).length : Int)), (19, .int .i64 ((k56 : Nat) : Int)), (70, .bool q111)] ∧ St w s (pt b106 (.cells (GuideRide.cells x97).toArray 39 (0, 0)) :: pt b70 (.cells (GuideRide.cells x57).toArray 39 (0, 0)) :: pt b52 (.cells #[.slice a1_0 x1.Rides.length c1_0] 28 (0, 0)) :: pt b51 (.cells #[.slice a0_0 x0.Day.Trains.length c0_0, .slice a0_1 x0.Day.Turns.length c0_1, .int .i64 x0.least] 86 (0, 0)) :: R)) ?_ ?_
         ·refine W.gen fun K112 hK112 => ?_
          refine W.gen fun K113 hK113 => ?_
          refine rE hS [] [] [0, 1, 2, 3, 4, 5, 6, 7, 8, 9, 10, 11, 12, 13, 14, 15, 16] [0, 1, 2, 3, 4, 5, 6, 7, 8, 9, 10, 11, 12, 13, 14, 15, 16] mixed ?_
          replace hS := hS.drew
          refine Rg.takeP (i := 0) hE rfl (by kernel_rfl) (runs_plain rfl) (Gives.fld hE rfl fl39_0) rfl (tw_sel (fun _ => hS) (fun _ => hS)) ?_; clear hE a; intro a hE
          refine Rg.take (i := 1) true rfl hE rfl (by kernel_rfl) (runs_plain rfl) (Gives.loadB hE 1 rfl rfl rfl ty3) rfl (tw_sel (fun _ => hS) (fun _ => hS)) ?_; clear hE a; intro a hE
          refine Rg.takeP (i := 2) hE rfl (by kernel_rfl) (runs_plain rfl) (Gives.fld hE rfl fl39_0) rfl (tw_sel (fun _ => hS) (fun _ => hS)) ?_; clear hE a; intro a hE
          refine Rg.take (i := 3) true rfl hE rfl (by kernel_rfl) (runs_plain rfl) (Gives.loadB hE 0 rfl rfl rfl ty3) rfl (tw_sel (fun _ => hS) (fun _ => hS)) ?_; clear hE a; intro a hE
          refine Rg.takeP (i := 4) hE rfl (by kernel_rfl) (runs_plain rfl) (Gives.p hE rfl) rfl (tw_sel (fun _ => hS) (fun _ => hS)) ?_; clear hE a; intro a hE
          refine Rg.takeP (i := 5) hE rfl (by kernel_rfl) (runs_plain rfl) (Gives.p hE rfl) rfl (tw_sel (fun _ => hS) (fun _ => hS)) ?_; clear hE a; intro a hE
          rcases Bool.eq_false_or_eq_true (x57.Train == x97.Train) with hg114 | hg114
          ·replace hq107 := iteT hg114 hq107
           refine Rg.no (i := 6) hE rfl (by kernel_rfl) (runs_not hE rfl rfl rfl (by rw [hg114]; decide)) rfl (tw_sel (fun _ => hS) (fun _ => hS)) ?_; clear hE a; intro a hE
           refine Rg.no (i := 7) hE rfl (by kernel_rfl) (runs_not hE rfl rfl rfl (by rw [hg114]; decide)) rfl (tw_sel (fun _ => hS) (fun _ => hS)) ?_; clear hE a; intro a hE
           refine Rg.no (i := 10) hE rfl (by kernel_rfl) (runs_not hE rfl rfl rfl (by rw [hg114]; decide)) rfl (tw_sel (fun _ => hS) (fun _ => hS)) ?_; clear hE a; intro a hE
           refine Rg.no (i := 11) hE rfl (by kernel_rfl) (runs_not hE rfl rfl rfl (by rw [hg114]; decide)) rfl (tw_sel (fun _ => hS) (fun _ => hS)) ?_; clear hE a; intro a hE
           refine Rg.one (i := 8) true true rfl (by kernel_rfl) (by kernel_rfl) (by kernel_rfl) ?_
           refine WL.no hE (runs_not hE rfl rfl rfl (by rw [hg114]; decide)) rfl ?_; clear hE a; intro a hE
           refine WL.nil ?_
           refine ⟨⟨fun _ => hS, fun _ => hS⟩, ?_⟩
           refine Rg.no (i := 9) hE rfl (by kernel_rfl) (runs_not hE rfl rfl rfl (by rw [hg114]; decide)) rfl (tw_sel (fun _ => hS) (fun _ => hS)) ?_; clear hE a; intro a hE
           refine Rg.one (i := 12) true true rfl (by kernel_rfl) (by kernel_rfl) (by kernel_rfl) ?_
           refine WL.no hE (runs_not hE rfl rfl rfl (by rw [hg114]; decide)) rfl ?_; clear hE a; intro a hE
           refine WL.nil ?_
           refine ⟨⟨fun _ => hS, fun _ => hS⟩, ?_⟩
           refine Rg.no (i := 13) hE rfl (by kernel_rfl) (runs_not hE rfl rfl rfl (by rw [hg114]; decide)) rfl (tw_sel (fun _ => hS) (fun _ => hS)) ?_; clear hE a; intro a hE
           refine Rg.no (i := 14) hE rfl (by kernel_rfl) (runs_not hE rfl rfl rfl (by rw [hg114]; decide)) rfl (tw_sel (fun _ => hS) (fun _ => hS)) ?_; clear hE a; intro a hE
           refine Rg.takeP (i := 15) hE rfl (by kernel_rfl) (runs_plain rfl) (Gives.pickT hE rfl hg114 rfl) rfl (tw_sel (fun _ => hS) (fun _ => hS)) ?_; clear hE a; intro a hE
           refine Rg.takeP (i := 16) hE rfl (by kernel_rfl) (runs_plain rfl) (Gives.p hE rfl) rfl (tw_sel (fun _ => hS) (fun _ => hS)) ?_; clear hE a; intro a hE
           refine Rg.done (by kernel_rfl) ?_
           subst hK113
           subst hK112
           exact ⟨true, Option.some.inj hq107, hE.pick _ ⟨rfl, rfl, rfl, rfl, rfl, rfl, rfl, rfl, rfl, trivial⟩, hS⟩
          ·replace hq107 := iteF hg114 hq107
           refine Rg.take (i := 6) true rfl hE rfl (by kernel_rfl) (runs_if hE rfl rfl rfl hg114) (Gives.loadBA hE 3 rfl rfl ty86) rfl (tw_sel (fun _ => hS) (fun _ => hS)) ?_; clear hE a; intro a hE
           refine Rg.take (i := 7) true rfl hE rfl (by kernel_rfl) (runs_if hE rfl rfl rfl hg114) (Gives.loadBA hE 1 rfl rfl ty39) rfl (tw_sel (fun _ => hS) (fun _ => hS)) ?_; clear hE a; intro a hE
           refine Rg.take (i := 10) true rfl hE rfl (by kernel_rfl) (runs_if hE rfl rfl rfl hg114) (Gives.loadBA hE 3 rfl rfl ty86) rfl (tw_sel (fun _ => hS) (fun _ => hS)) ?_; clear hE a; intro a hE
           refine Rg.take (i := 11) true rfl hE rfl (by kernel_rfl) (runs_if hE rfl rfl rfl hg114) (Gives.loadBA hE 0 rfl rfl ty39) rfl (tw_sel (fun _ => hS) (fun _ => hS)) ?_; clear hE a; intro a hE
           refine Rg.one (i := 8) true true rfl (by kernel_rfl) (by kernel_rfl) (by kernel_rfl) ?_
           obtain ⟨q115, hq116, hq107⟩ := bindS hq107
           have hc_ := GuideNeton_ok hS h0_0 h0_1 hq116
           refine WL.fnq hE (hc_) (runs_if hE rfl rfl rfl hg114) bd55 rfl rfl rfl ?_
           clear hE hS hc_; rintro e w ⟨cs117, rfl, h118, hS⟩; refine ⟨_, rfl, ?_⟩; clear a; intro a hE
           subst h118
           refine WL.nil ?_
           refine ⟨⟨fun _ => hS, fun _ => hS⟩, ?_⟩
           refine Rg.takeP (i := 9) hE rfl (by kernel_rfl) (runs_if hE rfl rfl rfl hg114) (Gives.field1 hE rfl fd44_0 ty3 rfl) rfl (tw_sel (fun _ => hS) (fun _ => hS)) ?_; clear hE a; intro a hE
           refine Rg.one (i := 12) true true rfl (by kernel_rfl) (by kernel_rfl) (by kernel_rfl) ?_
           obtain ⟨q119, hq120, hq107⟩ := bindS hq107
           have hc_ := GuideNetoff_ok hS h0_0 h0_1 hq120
           refine WL.fnq hE (hc_) (runs_if hE rfl rfl rfl hg114) bd56 rfl rfl rfl ?_
           clear hE hS hc_; rintro e w ⟨cs121, rfl, h122, hS⟩; refine ⟨_, rfl, ?_⟩; clear a; intro a hE
           subst h122
           refine WL.nil ?_
           refine ⟨⟨fun _ => hS, fun _ => hS⟩, ?_⟩
           refine Rg.takeP (i := 13) hE rfl (by kernel_rfl) (runs_if hE rfl rfl rfl hg114) (Gives.field1 hE rfl fd44_0 ty3 rfl) rfl (tw_sel (fun _ => hS) (fun _ => hS)) ?_; clear hE a; intro a hE
           refine Rg.takeP (i := 14) hE rfl (by kernel_rfl) (runs_if hE rfl rfl rfl hg114) (Gives.p hE rfl) rfl (tw_sel (fun _ => hS) (fun _ => hS)) ?_; clear hE a; intro a hE
           refine Rg.takeP (i := 15) hE rfl (by kernel_rfl) (runs_plain rfl) (Gives.pickF hE rfl hg114 rfl) rfl (tw_sel (fun _ => hS) (fun _ => hS)) ?_; clear hE a; intro a hE
           refine Rg.takeP (i := 16) hE rfl (by kernel_rfl) (runs_plain rfl) (Gives.p hE rfl) rfl (tw_sel (fun _ => hS) (fun _ => hS)) ?_; clear hE a; intro a hE
           refine Rg.done (by kernel_rfl) ?_
           subst hK113
           subst hK112
           exact ⟨(q115.Station != q119.Station), Option.some.inj hq107, hE.pick _ ⟨rfl, rfl, rfl, rfl, rfl, rfl, rfl, rfl, rfl, trivial⟩, hS⟩
         ·clear hE hS a w; rintro a w ⟨q111, rfl, hE, hS⟩
          refine W.cond hE rfl (fun hc123 => ?_) (fun hc123 => ?_)
          ·replace hq54 := iteT hc123 hq54
           refine W.seq (W.region ?_)
           refine vP hS hE (Gives.p hE rfl) rfl ?_; clear hE a; intro a hE
           refine WL.nil ?_
           refine W.ret ?_
           subst hK65
           rw [← Option.some.inj hq54] at hr
           dsimp only at hr
           refine finG (fn := Tryz.f36) (rs := [.tmp 6]) (vs := [_]) hE rfl ⟨rfl, trivial⟩ ?_
           obtain rfl := Option.some.inj hr
           replace hS := hS.tail
           replace hS := hS.tail
           replace hS := hS.tail
           replace hS := hS.tail
           exact ⟨rfl, hS⟩
          ·replace hq54 := iteF hc123 hq54
           refine W.seq ?_
           obtain ⟨q125, hq124, hq54⟩ := bindS hq54
           refine W.cut (fun a w => ∃ (q128 : Bool), q128 = q125 ∧ Rep a 104 [(2, .bool x2), (3, .pointer (some ⟨b51, 0, none⟩)), (4, .pointer (some ⟨b52, 0, none⟩)), (17, .slice a1_0 x1.Rides.length c1_0), (18, .int .i64 ((x1.Rides).length : Int)), (19, .int .i64 ((k56 : Nat) : Int)), (87, .bool q128)] ∧ St w s (pt b106 (.cells (GuideRide.cells x97).toArray 39 (0, 0)) :: pt b70 (.cells (GuideRide.cells x57).toArray 39 (0, 0)) :: pt b52 (.cells #[.slice a1_0 x1.Rides.length c1_0] 28 (0, 0)) :: pt b51 (.cells #[.slice a0_0 x0.Day.Trains.length c0_0, .slice a0_1 x0.Day.Turns.length c0_1, .int .i64 x0.least] 86 (0, 0)) :: R)) ?_ ?_
           ·refine W.gen fun K129 hK129 => ?_
            refine W.gen fun K130 hK130 => ?_
            refine rE hS [] [] [0, 1, 2, 3, 4, 5, 6, 7, 8, 9, 10, 11, 12, 13, 14, 15] [0, 1, 2, 3, 4, 5, 6, 7, 8, 9, 10, 11, 12, 13, 14, 15] mixed ?_
            replace hS := hS.drew
            refine Rg.takeP (i := 0) hE rfl (by kernel_rfl) (runs_plain rfl) (Gives.p hE rfl) rfl (tw_sel (fun _ => hS) (fun _ => hS)) ?_; clear hE a; intro a hE
            refine Rg.takeP (i := 1) hE rfl (by kernel_rfl) (runs_plain rfl) (Gives.p hE rfl) rfl (tw_sel (fun _ => hS) (fun _ => hS)) ?_; clear hE a; intro a hE
            rcases Bool.eq_false_or_eq_true x2 with hg131 | hg131
            ·replace hq124 := iteT hg131 hq124
             refine Rg.take (i := 2) true rfl hE rfl (by kernel_rfl) (runs_if hE rfl rfl rfl hg131) (Gives.loadBA hE 3 rfl rfl ty86) rfl (tw_sel (fun _ => hS) (fun _ => hS)) ?_; clear hE a; intro a hE
             refine Rg.take (i := 3) true rfl hE rfl (by kernel_rfl) (runs_if hE rfl rfl rfl hg131) (Gives.loadBA hE 1 rfl rfl ty39) rfl (tw_sel (fun _ => hS) (fun _ => hS)) ?_; clear hE a; intro a hE
             refine Rg.take (i := 6) true rfl hE rfl (by kernel_rfl) (runs_if hE rfl rfl rfl hg131) (Gives.loadBA hE 3 rfl rfl ty86) rfl (tw_sel (fun _ => hS) (fun _ => hS)) ?_; clear hE a; intro a hE
             refine Rg.take (i := 7) true rfl hE rfl (by kernel_rfl) (runs_if hE rfl rfl rfl hg131) (Gives.loadBA hE 0 rfl rfl ty39) rfl (tw_sel (fun _ => hS) (fun _ => hS)) ?_; clear hE a; intro a hE
             refine Rg.takeP (i := 10) hE rfl (by kernel_rfl) (runs_if hE rfl rfl rfl hg131) (Gives.fld hE rfl fl86_1) rfl (tw_sel (fun _ => hS) (fun _ => hS)) ?_; clear hE a; intro a hE
             refine Rg.take (i := 11) true rfl hE rfl (by kernel_rfl) (runs_if hE rfl rfl rfl hg131) (Gives.loadB hE 3 rfl rfl rfl ty3) rfl (tw_sel (fun _ => hS) (fun _ => hS)) ?_; clear hE a; intro a hE
             refine Rg.one (i := 4) true true rfl (by kernel_rfl) (by kernel_rfl) (by kernel_rfl) ?_
             obtain ⟨q132, hq133, hq124⟩ := bindS hq124
             have hc_ := GuideNeton_ok hS h0_0 h0_1 hq133
             refine WL.fnq hE (hc_) (runs_if hE rfl rfl rfl hg131) bd55 rfl rfl rfl ?_
             clear hE hS hc_; rintro e w ⟨cs134, rfl, h135, hS⟩; refine ⟨_, rfl, ?_⟩; clear a; intro a hE
             subst h135
             refine WL.nil ?_
             refine ⟨⟨fun _ => hS, fun _ => hS⟩, ?_⟩
             refine Rg.takeP (i := 5) hE rfl (by kernel_rfl) (runs_if hE rfl rfl rfl hg131) (Gives.field1 hE rfl fd44_3 ty3 rfl) rfl (tw_sel (fun _ => hS) (fun _ => hS)) ?_; clear hE a; intro a hE
             refine Rg.one (i := 8) true true rfl (by kernel_rfl) (by kernel_rfl) (by kernel_rfl) ?_
             obtain ⟨q136, hq137, hq124⟩ := bindS hq124
             have hc_ := GuideNetoff_ok hS h0_0 h0_1 hq137
             refine WL.fnq hE (hc_) (runs_if hE rfl rfl rfl hg131) bd56 rfl rfl rfl ?_
             clear hE hS hc_; rintro e w ⟨cs138, rfl, h139, hS⟩; refine ⟨_, rfl, ?_⟩; clear a; intro a hE
             subst h139
             refine WL.nil ?_
             refine ⟨⟨fun _ => hS, fun _ => hS⟩, ?_⟩
             refine Rg.takeP (i := 9) hE rfl (by kernel_rfl) (runs_if hE rfl rfl rfl hg131) (Gives.field1 hE rfl fd44_2 ty3 rfl) rfl (tw_sel (fun _ => hS) (fun _ => hS)) ?_; clear hE a; intro a hE
             refine Rg.takeP (i := 12) hE rfl (by kernel_rfl) (runs_if hE rfl rfl rfl hg131) (Gives.p hE rfl) rfl (tw_sel (fun _ => hS) (fun _ => hS)) ?_; clear hE a; intro a hE
             refine Rg.takeP (i := 13) hE rfl (by kernel_rfl) (runs_if hE rfl rfl rfl hg131) (Gives.p hE rfl) rfl (tw_sel (fun _ => hS) (fun _ => hS)) ?_; clear hE a; intro a hE
             refine Rg.takeP (i := 14) hE rfl (by kernel_rfl) (runs_plain rfl) (Gives.pickT hE rfl hg131 rfl) rfl (tw_sel (fun _ => hS) (fun _ => hS)) ?_; clear hE a; intro a hE
             refine Rg.takeP (i := 15) hE rfl (by kernel_rfl) (runs_plain rfl) (Gives.p hE rfl) rfl (tw_sel (fun _ => hS) (fun _ => hS)) ?_; clear hE a; intro a hE
             refine Rg.done (by kernel_rfl) ?_
             subst hK130
             subst hK129
             exact ⟨decide (q132.Dep < (w64 (q136.Arr + x0.least))), Option.some.inj hq124, hE.pick _ ⟨rfl, rfl, rfl, rfl, rfl, rfl, rfl, trivial⟩, hS⟩
            ·replace hq124 := iteF hg131 hq124
             refine Rg.no (i := 2) hE rfl (by kernel_rfl) (runs_not hE rfl rfl rfl (by rw [hg131]; decide)) rfl (tw_sel (fun _ => hS) (fun _ => hS)) ?_; clear hE a; intro a hE
             refine Rg.no (i := 3) hE rfl (by kernel_rfl) (runs_not hE rfl rfl rfl (by rw [hg131]; decide)) rfl (tw_sel (fun _ => hS) (fun _ => hS)) ?_; clear hE a; intro a hE
             refine Rg.no (i := 6) hE rfl (by kernel_rfl) (runs_not hE rfl rfl rfl (by rw [hg131]; decide)) rfl (tw_sel (fun _ => hS) (fun _ => hS)) ?_; clear hE a; intro a hE
             refine Rg.no (i := 7) hE rfl (by kernel_rfl) (runs_not hE rfl rfl rfl (by rw [hg131]; decide)) rfl (tw_sel (fun _ => hS) (fun _ => hS)) ?_; clear hE a; intro a hE
             refine Rg.no (i := 10) hE rfl (by kernel_rfl) (runs_not hE rfl rfl rfl (by rw [hg131]; decide)) rfl (tw_sel (fun _ => hS) (fun _ => hS)) ?_; clear hE a; intro a hE
             refine Rg.no (i := 11) hE rfl (by kernel_rfl) (runs_not hE rfl rfl rfl (by rw [hg131]; decide)) rfl (tw_sel (fun _ => hS) (fun _ => hS)) ?_; clear hE a; intro a hE
             refine Rg.one (i := 4) true true rfl (by kernel_rfl) (by kernel_rfl) (by kernel_rfl) ?_
             refine WL.no hE (runs_not hE rfl rfl rfl (by rw [hg131]; decide)) rfl ?_; clear hE a; intro a hE
             refine WL.nil ?_
             refine ⟨⟨fun _ => hS, fun _ => hS⟩, ?_⟩
             refine Rg.no (i := 5) hE rfl (by kernel_rfl) (runs_not hE rfl rfl rfl (by rw [hg131]; decide)) rfl (tw_sel (fun _ => hS) (fun _ => hS)) ?_; clear hE a; intro a hE
             refine Rg.one (i := 8) true true rfl (by kernel_rfl) (by kernel_rfl) (by kernel_rfl) ?_
             refine WL.no hE (runs_not hE rfl rfl rfl (by rw [hg131]; decide)) rfl ?_; clear hE a; intro a hE
             refine WL.nil ?_
             refine ⟨⟨fun _ => hS, fun _ => hS⟩, ?_⟩
             refine Rg.no (i := 9) hE rfl (by kernel_rfl) (runs_not hE rfl rfl rfl (by rw [hg131]; decide)) rfl (tw_sel (fun _ => hS) (fun _ => hS)) ?_; clear hE a; intro a hE
             refine Rg.no (i := 12) hE rfl (by kernel_rfl) (runs_not hE rfl rfl rfl (by rw [hg131]; decide)) rfl (tw_sel (fun _ => hS) (fun _ => hS)) ?_; clear hE a; intro a hE
             refine Rg.no (i := 13) hE rfl (by kernel_rfl) (runs_not hE rfl rfl rfl (by rw [hg131]; decide)) rfl (tw_sel (fun _ => hS) (fun _ => hS)) ?_; clear hE a; intro a hE
             refine Rg.takeP (i := 14) hE rfl (by kernel_rfl) (runs_plain rfl) (Gives.pickF hE rfl hg131 rfl) rfl (tw_sel (fun _ => hS) (fun _ => hS)) ?_; clear hE a; intro a hE
             refine Rg.takeP (i := 15) hE rfl (by kernel_rfl) (runs_plain rfl) (Gives.p hE rfl) rfl (tw_sel (fun _ => hS) (fun _ => hS)) ?_; clear hE a; intro a hE
             refine Rg.done (by kernel_rfl) ?_
             subst hK130
             subst hK129
             exact ⟨false, Option.some.inj hq124, hE.pick _ ⟨rfl, rfl, rfl, rfl, rfl, rfl, rfl, trivial⟩, hS⟩
           ·clear hE hS a w; rintro a w ⟨q128, rfl, hE, hS⟩
            refine W.cond hE rfl (fun hc140 => ?_) (fun hc140 => ?_)
            ·replace hq54 := iteT hc140 hq54
             refine W.seq (W.region ?_)
             refine vP hS hE (Gives.p hE rfl) rfl ?_; clear hE a; intro a hE
             refine WL.nil ?_
             refine W.ret ?_
             subst hK65
             rw [← Option.some.inj hq54] at hr
             dsimp only at hr
             refine finG (fn := Tryz.f36) (rs := [.tmp 6]) (vs := [_]) hE rfl ⟨rfl, trivial⟩ ?_
             obtain rfl := Option.some.inj hr
             replace hS := hS.tail
             replace hS := hS.tail
             replace hS := hS.tail
             replace hS := hS.tail
             exact ⟨rfl, hS⟩
            ·replace hq54 := iteF hc140 hq54
             refine W.skip ?_
             refine W.region ?_
             refine vP hS hE (Gives.inc hE rfl (by have := h1_0.small; omega)) rfl ?_; clear hE a; intro a hE
             refine vP hS hE (Gives.p hE rfl) rfl ?_; clear hE a; intro a hE
             refine WL.nil ?_
             replace hS := hS.tail
             replace hS := hS.tail
             subst hK65
             exact ⟨rest58.length, Nat.lt_succ_self _, rest58, k56 + 1, rfl, hd59, hq54, hE.pick _ ⟨rfl, rfl, rfl, rfl, rfl, rfl, trivial⟩, hS⟩
  ·clear hE hS a w; rintro a w ⟨rfl, hE, hS⟩
   dsimp only at hr
   refine W.seq (W.region ?_)
   refine vP hS hE (Gives.p hE rfl) rfl ?_; clear hE a; intro a hE
   refine WL.nil ?_
   refine W.ret ?_
   refine finG (fn := Tryz.f36) (rs := [.tmp 6]) (vs := [_]) hE rfl ⟨rfl, trivial⟩ ?_
   obtain rfl := Option.some.inj hr
   replace hS := hS.tail
   replace hS := hS.tail
   exact ⟨rfl, hS⟩
set_option maxHeartbeats 8000000 in
theorem GuideCheckJourney_ok  {w : World} {s : Sg} {R : List HP} {x0 : ApiDay} {a0_0 : Option Addr} {c0_0 : Nat} {a0_1 : Option Addr} {c0_1 : Nat} {x1 : GuideJourney} {a1_0 : Option Addr} {c1_0 : Nat} {x2 : Int} (hS : St w s (R)) (hTab : TabX s) (h0_0 : Sl 4 RApiTrain s a0_0 c0_0 x0.Trains) (h0_1 : Sl 1 (RL 1 (RI .i64)) s a0_1 c0_1 x0.Turns) (h1_0 : Sl 3 RGuideRide s a1_0 c1_0 x1.Rides) {r : Int} (hr : GuideCheckJourney x0 x1 x2 = some r) :
  Calls Tryz.prog 17 [.agg (List.toArray [.slice a0_0 x0.Trains.length c0_0, .slice a0_1 x0.Turns.length c0_1]), .agg (List.toArray [.slice a1_0 x1.Rides.length c1_0]), .int .i64 x2].toArray w (fun e w => e = .returned (.int .i64 r) ∧ St w s (R)) := by
 refine enter Tryz.func17 rfl rfl rfl fun a hE => ?_
 rw [GuideCheckJourney] at hr
 refine W.seq (W.region ?_)
 refine WL.box hE hS (runs_plain rfl) rfl rfl rfl ?_; clear hE hS a w; intro b51 a w hE hS
 refine WL.box hE hS (runs_plain rfl) rfl rfl rfl ?_; clear hE hS a w; intro b52 a w hE hS
 refine vP hS hE (Gives.p hE rfl) rfl ?_; clear hE a; intro a hE
 refine WL.nil ?_
 refine W.seq ?_
 refine W.seq (W.region ?_)
 refine vP hS hE (Gives.loadBA hE 1 rfl rfl ty25) rfl ?_; clear hE a; intro a hE
 refine vP hS hE (Gives.p hE rfl) rfl ?_; clear hE a; intro a hE
 obtain ⟨q53, hq54, hr⟩ := bindS hr
 have hc_ := GuidecheckLeast_ok hS (TabG.mono (Sg.Le.refl _) hTab) h0_0 h0_1 hq54
 refine WL.fnq hE (hc_) (runs_plain rfl) bd35 rfl rfl rfl ?_
 clear hE hS hc_; rintro e w ⟨rfl, hS⟩; refine ⟨_, rfl, ?_⟩; clear a; intro a hE
 refine vP hS hE (Gives.p hE rfl) rfl ?_; clear hE a; intro a hE
 refine WL.nil ?_
 refine W.seq (W.region ?_)
 refine vP hS hE (Gives.p hE rfl) rfl ?_; clear hE a; intro a hE
 refine vP hS hE (Gives.p hE rfl) rfl ?_; clear hE a; intro a hE
 refine WL.nil ?_
 refine W.cond hE rfl (fun hc55 => ?_) (fun hc55 => ?_)
 ·replace hr := iteT hc55 hr
  refine W.seq (W.region ?_)
  refine vP hS hE (Gives.p hE rfl) rfl ?_; clear hE a; intro a hE
  refine vP hS hE (Gives.p hE rfl) rfl ?_; clear hE a; intro a hE
  refine WL.nil ?_
  refine W.ret ?_
  refine finG (fn := Tryz.f17) (rs := [.tmp 6]) (vs := [_]) hE rfl ⟨rfl, trivial⟩ ?_
  obtain rfl := Option.some.inj hr
  replace hS := hS.tail
  replace hS := hS.tail
  exact ⟨rfl, hS⟩
 ·replace hr := iteF hc55 hr
  refine W.skip ?_
  refine W.seq (W.region ?_)
  refine vP hS hE (Gives.loadBA hE 1 rfl rfl ty25) rfl ?_; clear hE a; intro a hE
  refine vP hS hE (Gives.p hE rfl) rfl ?_; clear hE a; intro a hE
  refine vP hS hE (Gives.build hE (vs := [(0, .agg (List.toArray [.slice a0_0 x0.Trains.length c0_0, .slice a0_1 x0.Turns.length c0_1])), (1, .int .i64 x2)]) [.slice a0_0 x0.Trains.length c0_0, .slice a0_1 x0.Turns.length c0_1, .int .i64 x2] rfl (by kernel_rfl)) rfl ?_; clear hE a; intro a hE
  refine vP hS hE (Gives.loadBA hE 0 rfl rfl ty28) rfl ?_; clear hE a; intro a hE
  obtain ⟨q56, hq57, hr⟩ := bindS hr
  have hc_ := GuideNetjourney_ok (x0 := (GuideNet.mk x0 x2)) hS h0_0 h0_1 h1_0 hq57
  refine WL.fnq hE (hc_) (runs_plain rfl) bd36 rfl rfl rfl ?_
  clear hE hS hc_; rintro e w ⟨rfl, hS⟩; refine ⟨_, rfl, ?_⟩; clear a; intro a hE
  refine vP hS hE (Gives.p hE rfl) rfl ?_; clear hE a; intro a hE
  refine WL.nil ?_
  refine W.ret ?_
  refine finG (fn := Tryz.f17) (rs := [.tmp 6]) (vs := [_]) hE rfl ⟨rfl, trivial⟩ ?_
  obtain rfl := Option.some.inj hr
  replace hS := hS.tail
  replace hS := hS.tail
  exact ⟨rfl, hS⟩
set_option maxHeartbeats 8000000 in
theorem FishtopawakeGuide_ok  {w : World} {s : Sg} {R : List HP}  (hS : St w s (R)) (hTab : TabX s) {r : Bool} (hr : FishtopawakeGuide = some r) :
  Calls Tryz.prog 4 [].toArray w (fun e w => e = .returned (.bool r) ∧ St w s (R)) := by
 refine enter Tryz.func4 rfl rfl rfl fun a hE => ?_
 rw [FishtopawakeGuide] at hr
 refine W.seq (W.region ?_)
 refine vP hS hE (Gives.p hE rfl) rfl ?_; clear hE a; intro a hE
 refine WL.nil ?_
 refine W.seq (W.region ?_)
 refine vP hS hE (Gives.build hE (vs := []) [.slice none 0 0, .slice none 0 0] rfl (by kernel_rfl)) rfl ?_; clear hE a; intro a hE
 refine vP hS hE (Gives.build hE (vs := []) [.slice none 0 0] rfl (by kernel_rfl)) rfl ?_; clear hE a; intro a hE
 obtain ⟨q51, hq52, hr⟩ := bindS hr
 have hc_ := GuideCheckJourney_ok (x0 := (ApiDay.mk [] [])) (x1 := (GuideJourney.mk [])) hS (TabG.mono (Sg.Le.refl _) hTab) Sl.nil Sl.nil Sl.nil hq52
 refine WL.fnq hE (hc_) (runs_plain rfl) bd17 rfl rfl rfl ?_
 clear hE hS hc_; rintro e w ⟨rfl, hS⟩; refine ⟨_, rfl, ?_⟩; clear a; intro a hE
 refine vP hS hE (Gives.p hE rfl) rfl ?_; clear hE a; intro a hE
 refine vP hS hE (Gives.p hE rfl) rfl ?_; clear hE a; intro a hE
 refine WL.nil ?_
 refine W.ret ?_
 refine finG (fn := Tryz.f4) (rs := [.tmp 0]) (vs := [_]) hE rfl ⟨rfl, trivial⟩ ?_
 obtain rfl := Option.some.inj hr
 exact ⟨rfl, hS⟩
set_option maxHeartbeats 8000000 in
theorem Fishref2numbersIn_ok  {w : World} {s : Sg} {R : List HP} {x0 : ApiDay} {a0_0 : Option Addr} {c0_0 : Nat} {a0_1 : Option Addr} {c0_1 : Nat} (hS : St w s (R)) (h0_0 : Sl 4 RApiTrain s a0_0 c0_0 x0.Trains) (h0_1 : Sl 1 (RL 1 (RI .i64)) s a0_1 c0_1 x0.Turns) {r : (List (List Int))} (hr : Fishref2numbersIn x0 = some r) :
  Calls Tryz.prog 37 [.agg (List.toArray [.slice a0_0 x0.Trains.length c0_0, .slice a0_1 x0.Turns.length c0_1])].toArray w (fun e w => ∃ (a0 : Option Addr) (c0 n0 : Nat) (cs0 : List Value) (t : Sg), e = .returned (.slice a0 n0 c0) ∧ s.Le t ∧ Ev 1 (RL 1 (RI .i64)) t cs0 r ∧ r.length = n0 ∧ St w t (vecC 37 1 a0 c0 n0 cs0 :: R)) := by
 refine enter Tryz.func37 rfl rfl rfl fun a hE => ?_
 rw [Fishref2numbersIn] at hr
 refine W.seq (W.region ?_)
 refine WL.box hE hS (runs_plain rfl) rfl rfl rfl ?_; clear hE hS a w; intro b51 a w hE hS
 refine vP hS hE (Gives.p hE rfl) rfl ?_; clear hE a; intro a hE
 refine WL.nil ?_
 refine W.seq (W.region ?_)
 replace hS := hS.vecNil 37 1
 refine vP hS hE (Gives.p hE rfl) rfl ?_; clear hE a; intro a hE
 refine WL.nil ?_
 refine W.seq ?_
 refine W.seq (W.region ?_)
 refine vP hS hE (Gives.fld hE rfl fl25_0) rfl ?_; clear hE a; intro a hE
 refine vP hS hE (Gives.loadB hE 1 rfl rfl rfl ty22) rfl ?_; clear hE a; intro a hE
 refine vP hS hE (Gives.len hE rfl sl22) rfl ?_; clear hE a; intro a hE
 refine vP hS hE (Gives.p hE rfl) rfl ?_; clear hE a; intro a hE
 refine WL.nil ?_
 obtain ⟨q54, hq53, hr⟩ := bindS hr
 refine W.cut (fun a w => ∃ (q64 : List (List Int)), ∃ (a65 : Option Addr), ∃ (c66 : Nat), ∃ (n68 : Nat), ∃ (cs69 : List Value), ∃ (s62 : Sg), s.Le s62 ∧ q64 = q54 ∧ Ev 1 (RL 1 (RI .i64)) s62 cs69 q64 ∧ q64.length = n68 ∧ Rep a 52 [(1, .pointer (some ⟨b51, 0, none⟩)), (3, .slice a65 n68 c66)] ∧ St w s62 (vecC 37 1 a65 c66 n68 cs69 :: pt b51 (.cells #[.slice a0_0 x0.Trains.length c0_0, .slice a0_1 x0.Turns.length c0_1] 25 (0, 0)) :: R)) ?_ ?_
 ·refine W.block ?_
  refine W.loop (fun m a w => ∃ (rest57 : List ApiTrain) (k55 : Nat), ∃ (q64 : List (List Int)), ∃ (a65 : Option Addr), ∃ (c66 : Nat), ∃ (n68 : Nat), ∃ (cs69 : List Value), ∃ (s62 : Sg), rest57.length = m ∧ x0.Trains.drop k55 = rest57 ∧ s.Le s62 ∧ Fishref2numbersIn.loop1 rest57 q64 = some q54 ∧ Ev 1 (RL 1 (RI .i64)) s62 cs69 q64 ∧ q64.length = n68 ∧ Rep a 52 [(1, .pointer (some ⟨b51, 0, none⟩)), (3, .slice a65 n68 c66), (9, .slice a0_0 x0.Trains.length c0_0), (10, .int .i64 ((x0.Trains).length : Int)), (11, .int .i64 ((k55 : Nat) : Int))] ∧ St w s62 (vecC 37 1 a65 c66 n68 cs69 :: pt b51 (.cells #[.slice a0_0 x0.Trains.length c0_0, .slice a0_1 x0.Turns.length c0_1] 25 (0, 0)) :: R)) (m := x0.Trains.length) ⟨x0.Trains, 0, [], none, 0, 0, [], s, rfl, rfl, (Sg.Le.refl _), hq53, (Ev.nil), (rfl), hE.pick _ ⟨rfl, rfl, rfl, rfl, rfl, trivial⟩, hS⟩ ?_
  clear hE hS a w hq53; rintro m61 a w ⟨rest57, k55, q64, a65, c66, n68, cs69, s62, rfl, hd58, hle63, hq53, h67, rfl, hE, hS⟩
  refine W.gen fun K71 hK71 => ?_
  replace h0_0 := Sl.mono RApiTrain.mono hle63 h0_0
  replace h0_1 := Sl.mono (RL.mono RI.mono) hle63 h0_1
  rcases rest57 with _ | ⟨x56, rest57⟩
  ·have hlt59 := drop_nil hd58
   refine W.seq (W.region ?_)
   refine vP hS hE (Gives.p hE rfl) rfl ?_; clear hE a; intro a hE
   refine WL.nil ?_
   refine W.seq ?_
   refine W.condF hE rfl (decide_eq_false (by omega)) ?_
   subst hK71
   refine W.exit rfl ?_
   exact ⟨q64, a65, c66, q64.length, cs69, s62, hle63, Option.some.inj hq53, h67, rfl, hE.pick _ ⟨rfl, rfl, trivial⟩, hS⟩
  ·obtain ⟨hlt59, hx60, hd58⟩ := drop_cons hd58
   rw [Fishref2numbersIn.loop1] at hq53
   refine W.seq (W.region ?_)
   refine vP hS hE (Gives.p hE rfl) rfl ?_; clear hE a; intro a hE
   refine WL.nil ?_
   refine W.seq ?_
   refine W.condT hE rfl (decide_eq_true (by omega)) ?_
   refine W.skip ?_
   refine W.seq ?_
   refine W.block ?_
   refine W.seq (W.region ?_)
   obtain ⟨cs72, hl73, hR74, hat75⟩ := h0_0.at hx60
   obtain ⟨a76, c77, a79, c80, rfl, h78, h81⟩ := hR74
   refine vP hS hE (Gives.idx hE k55 rfl rfl sl22 rfl hlt59 (h0_0.aok hlt59)) rfl ?_; clear hE a; intro a hE
   refine vP hS hE (Gives.loadA hE rfl (fun w h => hat75 w _ h) ty42) rfl ?_; clear hE a; intro a hE
   refine WL.alloc hE hS (runs_plain rfl) zr42 rfl ?_; clear hE hS a w; intro b82 a w hE hS
   refine WL.storeI hE hS 0 rfl [.int .i64 x56.No, .int .i64 x56.Stock, .slice a76 x56.Stops.length c77, .slice a79 x56.Legs.length c80] (runs_plain rfl) rfl rfl rfl ty42 rfl rfl rfl rfl ?_; clear hE hS a w; intro a w hE hS
   refine WL.nil ?_
   refine W.seq (W.region ?_)
   refine vP hS hE (Gives.p hE rfl) rfl ?_; clear hE a; intro a hE
   refine vP hS hE (Gives.fld hE rfl fl42_0) rfl ?_; clear hE a; intro a hE
   refine vP hS hE (Gives.loadB hE 0 rfl rfl rfl ty3) rfl ?_; clear hE a; intro a hE
   refine vP hS hE (Gives.fld hE rfl fl42_1) rfl ?_; clear hE a; intro a hE
   refine vP hS hE (Gives.loadB hE 0 rfl rfl rfl ty3) rfl ?_; clear hE a; intro a hE
   refine WL.lit hE hS (e := 3) (es := 1) (vs := [(0, .int .i64 x56.No), (1, .int .i64 x56.Stock)]) (cs := [.int .i64 x56.No, .int .i64 x56.Stock]) (runs_plain rfl) rfl (by kernel_rfl) rfl ?_; clear hE hS a w; intro b83 a w hE hS
   replace hS := hS.ptVec (es := 1) (m := 2) rfl (by decide)
   have h85 : Ev 1 (RI .i64) s62 [.int .i64 x56.No, .int .i64 x56.Stock] [x56.No, x56.Stock] := (Ev.cons (c1 := [.int .i64 x56.No]) rfl rfl (Ev.cons (c1 := [.int .i64 x56.Stock]) rfl rfl (Ev.nil)))
   have hF := hS.fixD RI.mono 0 rfl h85 (rfl); clear hS; obtain ⟨s86, hle87, hS, h88⟩ := hF
   replace h0_0 := Sl.mono RApiTrain.mono hle87 h0_0
   replace h78 := Sl.mono RApiStop.mono hle87 h78
   replace h81 := Sl.mono (RL.mono RI.mono) hle87 h81
   replace h67 := Ev.mono (RL.mono RI.mono) hle87 h67
   replace h0_1 := Sl.mono (RL.mono RI.mono) hle87 h0_1
   refine WL.lit hE hS (e := 37) (es := 1) (vs := [(0, .slice (some ⟨b83, 0, none⟩) 2 2)]) (cs := [.slice (some ⟨b83, 0, none⟩) 2 2]) (runs_plain rfl) rfl (by kernel_rfl) rfl ?_; clear hE hS a w; intro b89 a w hE hS
   obtain ⟨x90, hx91, hq53⟩ := bindS hq53
   refine WL.appD hE hS 1 (m := 1) (runs_plain rfl) rfl rfl rfl ap23 rfl h67 rfl (xs := [[x56.No, x56.Stock]]) (Ev.cons (c1 := [.slice (some ⟨b83, 0, none⟩) 2 2]) ⟨_, _, rfl, h88⟩ rfl (Ev.nil)) rfl rfl hx91 rfl ?_; clear hE hS a w; intro a92 c93 cs94 a w h95 hE hS
   refine vP hS hE (Gives.p hE rfl) rfl ?_; clear hE a; intro a hE
   refine WL.nil ?_
   refine W.seq ?_
   refine W.seq (W.region ?_)
   refine vP hS hE (Gives.fld hE rfl fl42_2) rfl ?_; clear hE a; intro a hE
   refine vP hS hE (Gives.loadB hE 0 rfl rfl rfl ty40) rfl ?_; clear hE a; intro a hE
   refine vP hS hE (Gives.len hE rfl sl40) rfl ?_; clear hE a; intro a hE
   refine vP hS hE (Gives.p hE rfl) rfl ?_; clear hE a; intro a hE
   refine WL.nil ?_
   obtain ⟨q97, hq96, hq53⟩ := bindS hq53
   refine W.cut (fun a w => ∃ (q107 : List (List Int)), ∃ (a108 : Option Addr), ∃ (c109 : Nat), ∃ (n111 : Nat), ∃ (cs112 : List Value), ∃ (s105 : Sg), s86.Le s105 ∧ q107 = q97 ∧ Ev 1 (RL 1 (RI .i64)) s105 cs112 q107 ∧ q107.length = n111 ∧ Rep a 52 [(1, .pointer (some ⟨b51, 0, none⟩)), (3, .slice a108 n111 c109), (5, .pointer (some ⟨b82, 0, none⟩)), (9, .slice a0_0 x0.Trains.length c0_0), (10, .int .i64 ((x0.Trains).length : Int)), (11, .int .i64 ((k55 : Nat) : Int))] ∧ St w s105 (pt b82 (.cells #[.int .i64 x56.No, .int .i64 x56.Stock, .slice a76 x56.Stops.length c77, .slice a79 x56.Legs.length c80] 42 (0, 0)) :: vecC 37 1 a108 c109 n111 cs112 :: pt b51 (.cells #[.slice a0_0 x0.Trains.length c0_0, .slice a0_1 x0.Turns.length c0_1] 25 (0, 0)) :: R)) ?_ ?_
   ·refine W.block ?_
    refine W.loop (fun m a w => ∃ (rest100 : List ApiStop) (k98 : Nat), ∃ (q107 : List (List Int)), ∃ (a108 : Option Addr), ∃ (c109 : Nat), ∃ (n111 : Nat), ∃ (cs112 : List Value), ∃ (s105 : Sg), rest100.length = m ∧ x56.Stops.drop k98 = rest100 ∧ s86.Le s105 ∧ Fishref2numbersIn.loop2 rest100 q107 = some q97 ∧ Ev 1 (RL 1 (RI .i64)) s105 cs112 q107 ∧ q107.length = n111 ∧ Rep a 52 [(1, .pointer (some ⟨b51, 0, none⟩)), (3, .slice a108 n111 c109), (5, .pointer (some ⟨b82, 0, none⟩)), (9, .slice a0_0 x0.Trains.length c0_0), (10, .int .i64 ((x0.Trains).length : Int)), (11, .int .i64 ((k55 : Nat) : Int)), (24, .slice a76 x56.Stops.length c77), (25, .int .i64 ((x56.Stops).length : Int)), (26, .int .i64 ((k98 : Nat) : Int))] ∧ St w s105 (pt b82 (.cells #[.int .i64 x56.No, .int .i64 x56.Stock, .slice a76 x56.Stops.length c77, .slice a79 x56.Legs.length c80] 42 (0, 0)) :: vecC 37 1 a108 c109 n111 cs112 :: pt b51 (.cells #[.slice a0_0 x0.Trains.length c0_0, .slice a0_1 x0.Turns.length c0_1] 25 (0, 0)) :: R)) (m := x56.Stops.length) ⟨x56.Stops, 0, x90, a92, c93, x90.length, cs94, s86, rfl, rfl, (Sg.Le.refl _), hq96, h95, (rfl), hE.pick _ ⟨rfl, rfl, rfl, rfl, rfl, rfl, rfl, rfl, rfl, trivial⟩, hS⟩ ?_
    clear hE hS a w hq96; rintro m104 a w ⟨rest100, k98, q107, a108, c109, n111, cs112, s105, rfl, hd101, hle106, hq96, h110, rfl, hE, hS⟩
    refine W.gen fun K114 hK114 => ?_
    replace h0_0 := Sl.mono RApiTrain.mono hle106 h0_0
    replace h78 := Sl.mono RApiStop.mono hle106 h78
    replace h81 := Sl.mono (RL.mono RI.mono) hle106 h81
    replace h88 := Sl.mono RI.mono hle106 h88
    replace h95 := Ev.mono (RL.mono RI.mono) hle106 h95
    replace h0_1 := Sl.mono (RL.mono RI.mono) hle106 h0_1
    rcases rest100 with _ | ⟨x99, rest100⟩
    ·have hlt102 := drop_nil hd101
     refine W.seq (W.region ?_)
     refine vP hS hE (Gives.p hE rfl) rfl ?_; clear hE a; intro a hE
     refine WL.nil ?_
     refine W.seq ?_
     refine W.condF hE rfl (decide_eq_false (by omega)) ?_
     subst hK114
     refine W.exit rfl ?_
     exact ⟨q107, a108, c109, q107.length, cs112, s105, hle106, Option.some.inj hq96, h110, rfl, hE.pick _ ⟨rfl, rfl, rfl, rfl, rfl, rfl, trivial⟩, hS⟩
    ·obtain ⟨hlt102, hx103, hd101⟩ := drop_cons hd101
     rw [Fishref2numbersIn.loop2] at hq96
     refine W.seq (W.region ?_)
     refine vP hS hE (Gives.p hE rfl) rfl ?_; clear hE a; intro a hE
     refine WL.nil ?_
     refine W.seq ?_
     refine W.condT hE rfl (decide_eq_true (by omega)) ?_
     refine W.skip ?_
     refine W.seq ?_
     refine W.block ?_
     refine W.seq (W.region ?_)
     obtain ⟨cs115, hl116, hR117, hat118⟩ := h78.at hx103
     subst hR117
     refine vP hS hE (Gives.idx hE k98 rfl rfl sl40 rfl hlt102 (h78.aok hlt102)) rfl ?_; clear hE a; intro a hE
     refine vP hS hE (Gives.loadA hE rfl (fun w h => hat118 w _ h) ty44) rfl ?_; clear hE a; intro a hE
     refine WL.alloc hE hS (runs_plain rfl) zr44 rfl ?_; clear hE hS a w; intro b119 a w hE hS
     refine WL.storeI hE hS 0 rfl (ApiStop.cells x99) (runs_plain rfl) rfl rfl rfl ty44 rfl rfl rfl rfl ?_; clear hE hS a w; intro a w hE hS
     refine WL.nil ?_
     refine W.region ?_
     refine vP hS hE (Gives.p hE rfl) rfl ?_; clear hE a; intro a hE
     refine vP hS hE (Gives.fld hE rfl fl44_0) rfl ?_; clear hE a; intro a hE
     refine vP hS hE (Gives.loadB hE 0 rfl rfl rfl ty3) rfl ?_; clear hE a; intro a hE
     refine vP hS hE (Gives.fld hE rfl fl44_1) rfl ?_; clear hE a; intro a hE
     refine vP hS hE (Gives.loadB hE 0 rfl rfl rfl ty3) rfl ?_; clear hE a; intro a hE
     refine vP hS hE (Gives.fld hE rfl fl44_2) rfl ?_; clear hE a; intro a hE
     refine vP hS hE (Gives.loadB hE 0 rfl rfl rfl ty3) rfl ?_; clear hE a; intro a hE
     refine vP hS hE (Gives.fld hE rfl fl44_3) rfl ?_; clear hE a; intro a hE
     refine vP hS hE (Gives.loadB hE 0 rfl rfl rfl ty3) rfl ?_; clear hE a; intro a hE
     refine WL.lit hE hS (e := 3) (es := 1) (vs := [(0, .int .i64 x99.Station), (1, .int .i64 x99.Track), (2, .int .i64 x99.Arr), (3, .int .i64 x99.Dep)]) (cs := [.int .i64 x99.Station, .int .i64 x99.Track, .int .i64 x99.Arr, .int .i64 x99.Dep]) (runs_plain rfl) rfl (by kernel_rfl) rfl ?_; clear hE hS a w; intro b120 a w hE hS
     replace hS := hS.ptVec (es := 1) (m := 4) rfl (by decide)
     have h122 : Ev 1 (RI .i64) s105 [.int .i64 x99.Station, .int .i64 x99.Track, .int .i64 x99.Arr, .int .i64 x99.Dep] [x99.Station, x99.Track, x99.Arr, x99.Dep] := (Ev.cons (c1 := [.int .i64 x99.Station]) rfl rfl (Ev.cons (c1 := [.int .i64 x99.Track]) rfl rfl (Ev.cons (c1 := [.int .i64 x99.Arr]) rfl rfl (Ev.cons (c1 := [.int .i64 x99.Dep]) rfl rfl (Ev.nil)))))
     have hF := hS.fixD RI.mono 0 rfl h122 (rfl); clear hS; obtain ⟨s123, hle124, hS, h125⟩ := hF
     replace h0_0 := Sl.mono RApiTrain.mono hle124 h0_0
     replace h78 := Sl.mono RApiStop.mono hle124 h78
     replace h81 := Sl.mono (RL.mono RI.mono) hle124 h81
     replace h110 := Ev.mono (RL.mono RI.mono) hle124 h110
     replace h0_1 := Sl.mono (RL.mono RI.mono) hle124 h0_1
     refine WL.lit hE hS (e := 37) (es := 1) (vs := [(0, .slice (some ⟨b120, 0, none⟩) 4 4)]) (cs := [.slice (some ⟨b120, 0, none⟩) 4 4]) (runs_plain rfl) rfl (by kernel_rfl) rfl ?_; clear hE hS a w; intro b126 a w hE hS
     obtain ⟨x127, hx128, hq96⟩ := bindS hq96
     refine WL.appD hE hS 2 (m := 1) (runs_plain rfl) rfl rfl rfl ap23 rfl h110 rfl (xs := [[x99.Station, x99.Track, x99.Arr, x99.Dep]]) (Ev.cons (c1 := [.slice (some ⟨b120, 0, none⟩) 4 4]) ⟨_, _, rfl, h125⟩ rfl (Ev.nil)) rfl rfl hx128 rfl ?_; clear hE hS a w; intro a129 c130 cs131 a w h132 hE hS
     refine vP hS hE (Gives.p hE rfl) rfl ?_; clear hE a; intro a hE
     refine WL.nil ?_
     refine W.region ?_
     refine vP hS hE (Gives.inc hE rfl (by have := h78.small; omega)) rfl ?_; clear hE a; intro a hE
     refine vP hS hE (Gives.p hE rfl) rfl ?_; clear hE a; intro a hE
     refine WL.nil ?_
     replace hS := hS.tail
     subst hK114
     exact ⟨rest100.length, Nat.lt_succ_self _, rest100, k98 + 1, x127, a129, c130, x127.length, cs131, s123, rfl, hd101, (Sg.Le.trans hle106 hle124), hq96, h132, (rfl), hE.pick _ ⟨rfl, rfl, rfl, rfl, rfl, rfl, rfl, rfl, rfl, trivial⟩, hS⟩
   ·clear hE hS a w; rintro a w ⟨q107, a108, c109, n111, cs112, s105, hle106, rfl, h110, rfl, hE, hS⟩
    replace h0_0 := Sl.mono RApiTrain.mono hle106 h0_0
    replace h78 := Sl.mono RApiStop.mono hle106 h78
    replace h81 := Sl.mono (RL.mono RI.mono) hle106 h81
    replace h88 := Sl.mono RI.mono hle106 h88
    replace h95 := Ev.mono (RL.mono RI.mono) hle106 h95
    replace h0_1 := Sl.mono (RL.mono RI.mono) hle106 h0_1
    refine W.region ?_
    refine vP hS hE (Gives.p hE rfl) rfl ?_; clear hE a; intro a hE
    refine vP hS hE (Gives.fld hE rfl fl42_3) rfl ?_; clear hE a; intro a hE
    refine vP hS hE (Gives.loadB hE 0 rfl rfl rfl ty23) rfl ?_; clear hE a; intro a hE
    obtain ⟨x133, hx134, hq53⟩ := bindS hq53
    refine WL.appS hE hS 1 (runs_plain rfl) rfl rfl (xs := x56.Legs) rfl rfl ap23 RL.one h110 rfl h81 hx134 rfl ?_; clear hE hS a w; intro a135 c136 cs137 a w h138 hE hS
    refine vP hS hE (Gives.p hE rfl) rfl ?_; clear hE a; intro a hE
    refine WL.nil ?_
    refine W.region ?_
    refine vP hS hE (Gives.inc hE rfl (by have := h0_0.small; omega)) rfl ?_; clear hE a; intro a hE
    refine vP hS hE (Gives.p hE rfl) rfl ?_; clear hE a; intro a hE
    refine WL.nil ?_
    replace hS := hS.tail
    subst hK71
    exact ⟨rest57.length, Nat.lt_succ_self _, rest57, k55 + 1, x133, a135, c136, x133.length, cs137, s105, rfl, hd58, (Sg.Le.trans (Sg.Le.trans hle63 hle87) hle106), hq53, h138, (rfl), hE.pick _ ⟨rfl, rfl, rfl, rfl, rfl, trivial⟩, hS⟩
 ·clear hE hS a w; rintro a w ⟨q64, a65, c66, n68, cs69, s62, hle63, rfl, h67, rfl, hE, hS⟩
  replace h0_0 := Sl.mono RApiTrain.mono hle63 h0_0
  replace h0_1 := Sl.mono (RL.mono RI.mono) hle63 h0_1
  refine W.seq (W.region ?_)
  refine vP hS hE (Gives.p hE rfl) rfl ?_; clear hE a; intro a hE
  refine vP hS hE (Gives.fld hE rfl fl25_1) rfl ?_; clear hE a; intro a hE
  refine vP hS hE (Gives.loadB hE 1 rfl rfl rfl ty23) rfl ?_; clear hE a; intro a hE
  obtain ⟨x139, hx140, hr⟩ := bindS hr
  refine WL.appS hE hS 0 (runs_plain rfl) rfl rfl (xs := x0.Turns) rfl rfl ap23 RL.one h67 rfl h0_1 hx140 rfl ?_; clear hE hS a w; intro a141 c142 cs143 a w h144 hE hS
  refine vP hS hE (Gives.p hE rfl) rfl ?_; clear hE a; intro a hE
  refine WL.nil ?_
  refine W.ret ?_
  refine finG (fn := Tryz.f37) (rs := [.tmp 2]) (vs := [_]) hE rfl ⟨rfl, trivial⟩ ?_
  obtain rfl := Option.some.inj hr
  replace hS := hS.dropAt 1
  exact ⟨a141, c142, x139.length, cs143, s62, rfl, hle63, h144, (rfl), hS⟩
set_option maxHeartbeats 8000000 in
theorem Fishref2within_ok  {w : World} {s : Sg} {R : List HP} {x0 : Int} {x1 : Int} {x2 : Int} (hS : St w s (R))  {r : Bool} (hr : Fishref2within x0 x1 x2 = r) :
  Calls Tryz.prog 19 [.int .i64 x0, .int .i64 x1, .int .i64 x2].toArray w (fun e w => e = .returned (.bool r) ∧ St w s (R)) := by
 refine enter Tryz.func19 rfl rfl rfl fun a hE => ?_
 rw [Fishref2within] at hr
 refine W.seq (W.region ?_)
 refine vP hS hE (Gives.p hE rfl) rfl ?_; clear hE a; intro a hE
 refine WL.nil ?_
 refine W.seq ?_
 obtain ⟨q52, hq51, hr⟩ := bndS hr
 refine W.cut (fun a w => ∃ (q55 : Bool), q55 = q52 ∧ Rep a 15 [(6, .bool q55)] ∧ St w s (R)) ?_ ?_
 ·refine W.gen fun K56 hK56 => ?_
  refine W.region ?_
  refine vP hS hE (Gives.p hE rfl) rfl ?_; clear hE a; intro a hE
  refine vP hS hE (Gives.p hE rfl) rfl ?_; clear hE a; intro a hE
  refine vP hS hE (Gives.p hE rfl) rfl ?_; clear hE a; intro a hE
  refine vP hS hE (Gives.p hE rfl) rfl ?_; clear hE a; intro a hE
  rcases Bool.eq_false_or_eq_true (decide (x0 ≥ x1)) with hg57 | hg57
  ·replace hq51 := iteT hg57 hq51
   refine WL.vS hS hE (runs_if hE rfl rfl rfl hg57) (Gives.p hE rfl) rfl ?_; clear hE a; intro a hE
   refine WL.vS hS hE (runs_if hE rfl rfl rfl hg57) (Gives.p hE rfl) rfl ?_; clear hE a; intro a hE
   refine WL.vS hS hE (runs_if hE rfl rfl rfl hg57) (Gives.p hE rfl) rfl ?_; clear hE a; intro a hE
   refine vP hS hE (Gives.pickT hE rfl hg57 rfl) rfl ?_; clear hE a; intro a hE
   refine vP hS hE (Gives.p hE rfl) rfl ?_; clear hE a; intro a hE
   refine WL.nil ?_
   subst hK56
   exact ⟨decide (x0 ≤ x2), hq51, hE.pick _ ⟨rfl, trivial⟩, hS⟩
  ·replace hq51 := iteF hg57 hq51
   refine WL.no hE (runs_not hE rfl rfl rfl (by rw [hg57]; decide)) rfl ?_; clear hE a; intro a hE
   refine WL.no hE (runs_not hE rfl rfl rfl (by rw [hg57]; decide)) rfl ?_; clear hE a; intro a hE
   refine WL.no hE (runs_not hE rfl rfl rfl (by rw [hg57]; decide)) rfl ?_; clear hE a; intro a hE
   refine vP hS hE (Gives.pickF hE rfl hg57 rfl) rfl ?_; clear hE a; intro a hE
   refine vP hS hE (Gives.p hE rfl) rfl ?_; clear hE a; intro a hE
   refine WL.nil ?_
   subst hK56
   exact ⟨false, hq51, hE.pick _ ⟨rfl, trivial⟩, hS⟩
 ·clear hE hS a w; rintro a w ⟨q55, rfl, hE, hS⟩
  refine W.ret ?_
  refine finG (fn := Tryz.f19) (rs := [.tmp 6]) (vs := [_]) hE rfl ⟨rfl, trivial⟩ ?_
  subst hr
  exact ⟨rfl, hS⟩
end Go.Proofs.YtngamgkmhgmmjaaGreatDoor
