/- The walks of the functions that FareTexts reaches: each call comes to what its mirror says. The conditions are those of each contract. -/
import Derived.Test.YtfdifpegldailaaGreatDoorProg
import Derived.Test.YtfdifpegldailaaGreatDoorFareTextsM
import Derived.Test.YtfdifpegldailaaGreatDoorFpAllT
import Derived.Test.YtfdifpegldailaaGreatDoorFareTextsS
import Derived.Test.YtfdifpegldailaaGreatDoorFpDfr
import Derived.Test.YtfdifpegldailaaGreatDoorFpErr
import Derived.Test.YtfdifpegldailaaGreatDoorFpJoin
import Derived.Test.YtfdifpegldailaaGreatDoorFpKeyB
import Derived.Test.YtfdifpegldailaaGreatDoorFpMeth
import Derived.Test.YtfdifpegldailaaGreatDoorFpPan
import Derived.Test.YtfdifpegldailaaGreatDoorFpRgP
import Derived.Test.YtfdifpegldailaaGreatDoorFpRgn
import Derived.Test.YtfdifpegldailaaGreatDoorFpRune
set_option maxRecDepth 10000
namespace Go.Proofs.YtfdifpegldailaaGreatDoor
open Go Go.Fp
theorem ap22 : apOk Tryz.prog 22 40 2 = true := by kernel_rfl
theorem ap23 : apOk Tryz.prog 23 45 7 = true := by kernel_rfl
theorem ap41 : apOk Tryz.prog 41 43 4 = true := by kernel_rfl
theorem ap47 : apOk Tryz.prog 47 3 1 = true := by kernel_rfl
theorem ap59 : apOk Tryz.prog 59 9 1 = true := by kernel_rfl
theorem ar106 : arOk Tryz.prog 106 10 = true := by kernel_rfl
theorem ar163 : arOk Tryz.prog 163 2 = true := by kernel_rfl
theorem ar76 : arOk Tryz.prog 76 7 = true := by kernel_rfl
theorem ar96 : arOk Tryz.prog 96 2 = true := by kernel_rfl
theorem bd10 : bodied Tryz.prog 10 = true := by kernel_rfl
theorem bd103 : bodied Tryz.prog 103 = true := by kernel_rfl
theorem bd12 : bodied Tryz.prog 12 = true := by kernel_rfl
theorem bd13 : bodied Tryz.prog 13 = true := by kernel_rfl
theorem bd14 : bodied Tryz.prog 14 = true := by kernel_rfl
theorem bd15 : bodied Tryz.prog 15 = true := by kernel_rfl
theorem bd16 : bodied Tryz.prog 16 = true := by kernel_rfl
theorem bd17 : bodied Tryz.prog 17 = true := by kernel_rfl
theorem bd18 : bodied Tryz.prog 18 = true := by kernel_rfl
theorem bd19 : bodied Tryz.prog 19 = true := by kernel_rfl
theorem bd20 : bodied Tryz.prog 20 = true := by kernel_rfl
theorem bd21 : bodied Tryz.prog 21 = true := by kernel_rfl
theorem bd22 : bodied Tryz.prog 22 = true := by kernel_rfl
theorem bd23 : bodied Tryz.prog 23 = true := by kernel_rfl
theorem bd24 : bodied Tryz.prog 24 = true := by kernel_rfl
theorem bd25 : bodied Tryz.prog 25 = true := by kernel_rfl
theorem bd27 : bodied Tryz.prog 27 = true := by kernel_rfl
theorem bd28 : bodied Tryz.prog 28 = true := by kernel_rfl
theorem bd29 : bodied Tryz.prog 29 = true := by kernel_rfl
theorem bd30 : bodied Tryz.prog 30 = true := by kernel_rfl
theorem bd31 : bodied Tryz.prog 31 = true := by kernel_rfl
theorem bd32 : bodied Tryz.prog 32 = true := by kernel_rfl
theorem bd33 : bodied Tryz.prog 33 = true := by kernel_rfl
theorem bd34 : bodied Tryz.prog 34 = true := by kernel_rfl
theorem bd35 : bodied Tryz.prog 35 = true := by kernel_rfl
theorem bd36 : bodied Tryz.prog 36 = true := by kernel_rfl
theorem bd37 : bodied Tryz.prog 37 = true := by kernel_rfl
theorem bd38 : bodied Tryz.prog 38 = true := by kernel_rfl
theorem bd39 : bodied Tryz.prog 39 = true := by kernel_rfl
theorem bd40 : bodied Tryz.prog 40 = true := by kernel_rfl
theorem bd41 : bodied Tryz.prog 41 = true := by kernel_rfl
theorem bd42 : bodied Tryz.prog 42 = true := by kernel_rfl
theorem bd43 : bodied Tryz.prog 43 = true := by kernel_rfl
theorem bd45 : bodied Tryz.prog 45 = true := by kernel_rfl
theorem bd46 : bodied Tryz.prog 46 = true := by kernel_rfl
theorem bd47 : bodied Tryz.prog 47 = true := by kernel_rfl
theorem bd48 : bodied Tryz.prog 48 = true := by kernel_rfl
theorem bd5 : bodied Tryz.prog 5 = true := by kernel_rfl
theorem bd52 : bodied Tryz.prog 52 = true := by kernel_rfl
theorem bd53 : bodied Tryz.prog 53 = true := by kernel_rfl
theorem bd55 : bodied Tryz.prog 55 = true := by kernel_rfl
theorem bd56 : bodied Tryz.prog 56 = true := by kernel_rfl
theorem bd57 : bodied Tryz.prog 57 = true := by kernel_rfl
theorem bd58 : bodied Tryz.prog 58 = true := by kernel_rfl
theorem bd59 : bodied Tryz.prog 59 = true := by kernel_rfl
theorem bd6 : bodied Tryz.prog 6 = true := by kernel_rfl
theorem bd60 : bodied Tryz.prog 60 = true := by kernel_rfl
theorem bd61 : bodied Tryz.prog 61 = true := by kernel_rfl
theorem bd62 : bodied Tryz.prog 62 = true := by kernel_rfl
theorem bd65 : bodied Tryz.prog 65 = true := by kernel_rfl
theorem bd66 : bodied Tryz.prog 66 = true := by kernel_rfl
theorem bd67 : bodied Tryz.prog 67 = true := by kernel_rfl
theorem bd7 : bodied Tryz.prog 7 = true := by kernel_rfl
theorem bd71 : bodied Tryz.prog 71 = true := by kernel_rfl
theorem bd76 : bodied Tryz.prog 76 = true := by kernel_rfl
theorem bd77 : bodied Tryz.prog 77 = true := by kernel_rfl
theorem bd78 : bodied Tryz.prog 78 = true := by kernel_rfl
theorem bd79 : bodied Tryz.prog 79 = true := by kernel_rfl
theorem bd8 : bodied Tryz.prog 8 = true := by kernel_rfl
theorem bd80 : bodied Tryz.prog 80 = true := by kernel_rfl
theorem bd85 : bodied Tryz.prog 85 = true := by kernel_rfl
theorem bd86 : bodied Tryz.prog 86 = true := by kernel_rfl
theorem bd9 : bodied Tryz.prog 9 = true := by kernel_rfl
theorem bd97 : bodied Tryz.prog 97 = true := by kernel_rfl
theorem bd98 : bodied Tryz.prog 98 = true := by kernel_rfl
theorem bl4 : isBl Tryz.prog 4 = true := by kernel_rfl
theorem fl25_0 : fldOk Tryz.prog 25 0 0 = true := by kernel_rfl
theorem fl25_1 : fldOk Tryz.prog 25 1 1 = true := by kernel_rfl
theorem fl25_2 : fldOk Tryz.prog 25 2 2 = true := by kernel_rfl
theorem fl25_3 : fldOk Tryz.prog 25 3 3 = true := by kernel_rfl
theorem fl40_0 : fldOk Tryz.prog 40 0 0 = true := by kernel_rfl
theorem fl40_1 : fldOk Tryz.prog 40 1 1 = true := by kernel_rfl
theorem fl43_0 : fldOk Tryz.prog 43 0 0 = true := by kernel_rfl
theorem fl43_1 : fldOk Tryz.prog 43 1 1 = true := by kernel_rfl
theorem fl43_2 : fldOk Tryz.prog 43 2 2 = true := by kernel_rfl
theorem fl43_3 : fldOk Tryz.prog 43 3 3 = true := by kernel_rfl
theorem fl45_0 : fldOk Tryz.prog 45 0 0 = true := by kernel_rfl
theorem fl45_1 : fldOk Tryz.prog 45 1 4 = true := by kernel_rfl
theorem fl45_2 : fldOk Tryz.prog 45 2 5 = true := by kernel_rfl
theorem fl45_3 : fldOk Tryz.prog 45 3 6 = true := by kernel_rfl
theorem fl51_0 : fldOk Tryz.prog 51 0 0 = true := by kernel_rfl
theorem fl51_1 : fldOk Tryz.prog 51 1 1 = true := by kernel_rfl
theorem fl51_2 : fldOk Tryz.prog 51 2 2 = true := by kernel_rfl
theorem fl51_3 : fldOk Tryz.prog 51 3 3 = true := by kernel_rfl
theorem fl51_4 : fldOk Tryz.prog 51 4 4 = true := by kernel_rfl
theorem fl51_5 : fldOk Tryz.prog 51 5 5 = true := by kernel_rfl
theorem fl89_0 : fldOk Tryz.prog 89 0 0 = true := by kernel_rfl
theorem fl89_1 : fldOk Tryz.prog 89 1 1 = true := by kernel_rfl
theorem if72 : ifOk Tryz.prog 72 = true := by kernel_rfl
theorem ifc54 : ifcOk Tryz.prog 54 = true := by kernel_rfl
theorem mixed : Tryz.prog.follows .mixedOrders = true := by kernel_rfl
theorem mp105 : mpOk Tryz.prog keyI.ok 105 3 9 = true := by kernel_rfl
theorem mp75 : mpOk Tryz.prog keyB.ok 75 4 9 = true := by kernel_rfl
theorem se40 : stEqB Tryz.prog 40 [.i .i64, .i .i64] = true := by kernel_rfl
theorem sl22 : slOk Tryz.prog 22 40 2 = true := by kernel_rfl
theorem sl23 : slOk Tryz.prog 23 45 7 = true := by kernel_rfl
theorem sl41 : slOk Tryz.prog 41 43 4 = true := by kernel_rfl
theorem sl47 : slOk Tryz.prog 47 3 1 = true := by kernel_rfl
theorem sl59 : slOk Tryz.prog 59 9 1 = true := by kernel_rfl
theorem st9 : stOk Tryz.prog 9 = true := by kernel_rfl
theorem ty106 : tyOk Tryz.prog 106 true 10 = true := by kernel_rfl
theorem ty22 : tyOk Tryz.prog 22 false 1 = true := by kernel_rfl
theorem ty23 : tyOk Tryz.prog 23 false 1 = true := by kernel_rfl
theorem ty25 : tyOk Tryz.prog 25 true 4 = true := by kernel_rfl
theorem ty26 : tyOk Tryz.prog 26 false 1 = true := by kernel_rfl
theorem ty3 : tyOk Tryz.prog 3 false 1 = true := by kernel_rfl
theorem ty4 : tyOk Tryz.prog 4 false 1 = true := by kernel_rfl
theorem ty40 : tyOk Tryz.prog 40 true 2 = true := by kernel_rfl
theorem ty41 : tyOk Tryz.prog 41 false 1 = true := by kernel_rfl
theorem ty43 : tyOk Tryz.prog 43 true 4 = true := by kernel_rfl
theorem ty45 : tyOk Tryz.prog 45 true 7 = true := by kernel_rfl
theorem ty47 : tyOk Tryz.prog 47 false 1 = true := by kernel_rfl
theorem ty51 : tyOk Tryz.prog 51 true 6 = true := by kernel_rfl
theorem ty59 : tyOk Tryz.prog 59 false 1 = true := by kernel_rfl
theorem ty76 : tyOk Tryz.prog 76 true 7 = true := by kernel_rfl
theorem ty9 : tyOk Tryz.prog 9 false 1 = true := by kernel_rfl
theorem ui21 : Tryz.prog.underlying 21 = some (.int .i32) := by kernel_rfl
theorem ut9 : Tryz.prog.underlying 9 = some .string := by kernel_rfl
theorem zm9 : (Tryz.prog.info? 9).bind (fun i => i.zero) = some (Value.string ByteArray.empty) := by kernel_rfl
theorem zr106 : (Tryz.prog.info? 106).bind (fun i => i.zero.map fun z => z.cells.toList) = some [.string ByteArray.empty, .string ByteArray.empty, .string ByteArray.empty, .string ByteArray.empty, .string ByteArray.empty, .string ByteArray.empty, .string ByteArray.empty, .string ByteArray.empty, .string ByteArray.empty, .string ByteArray.empty] := by kernel_rfl
theorem zr25 : (Tryz.prog.info? 25).bind (fun i => i.zero.map fun z => z.cells.toList) = some [.bool false, .slice none 0 0, .int .i64 0, .slice none 0 0] := by kernel_rfl
theorem zr26 : (Tryz.prog.info? 26).bind (fun i => i.zero.map fun z => z.cells.toList) = some [.int .i64 0] := by kernel_rfl
theorem zr3 : (Tryz.prog.info? 3).bind (fun i => i.zero.map fun z => z.cells.toList) = some [.int .i64 0] := by kernel_rfl
theorem zr40 : (Tryz.prog.info? 40).bind (fun i => i.zero.map fun z => z.cells.toList) = some [.int .i64 0, .int .i64 0] := by kernel_rfl
theorem zr43 : (Tryz.prog.info? 43).bind (fun i => i.zero.map fun z => z.cells.toList) = some [.int .i64 0, .int .i64 0, .int .i64 0, .slice none 0 0] := by kernel_rfl
theorem zr45 : (Tryz.prog.info? 45).bind (fun i => i.zero.map fun z => z.cells.toList) = some [.int .i64 0, .int .i64 0, .int .i64 0, .slice none 0 0, .int .i64 0, .int .i64 0, .bool false] := by kernel_rfl
theorem zr70 : (Tryz.prog.info? 70).bind (fun i => i.zero.map fun z => z.cells.toList) = some [.pointer none, .slice none 0 0] := by kernel_rfl
theorem zr76 : (Tryz.prog.info? 76).bind (fun i => i.zero.map fun z => z.cells.toList) = some [.string ByteArray.empty, .string ByteArray.empty, .string ByteArray.empty, .string ByteArray.empty, .string ByteArray.empty, .string ByteArray.empty, .string ByteArray.empty] := by kernel_rfl
abbrev TabX (s : Sg) : Prop := TabG Tryz.prog 1 2 3 s
theorem split_ok {w : World} {s : Sg} {R : List HP} {x y : ByteArray} {r : List ByteArray} (hS : St w s R) (hTab : TabX s) (hr : splitq x y = some r) : Calls Tryz.prog 38 [.string x, .string y].toArray w (fun e w => ∃ b cs, e = .returned (.slice (some ⟨b, 0, none⟩) r.length r.length) ∧ Ev 1 RS s cs r ∧ St w s (vecC 9 1 (some ⟨b, 0, none⟩) r.length r.length cs :: R)) := by
 obtain ⟨h0, h1, rfl⟩ := splitq_some hr
 obtain ⟨m, hm⟩ := hTab.max
 have hlen := Lib.splitB_all y h1 0 _ x rfl
 have hle := Lib.countB_le y h1 x.size x (Nat.le_refl _)
 refine (Tryz.strings_Split x y m w h0 (hm w R hS) h1).mono ?_
 rintro e w' ⟨rfl, rfl⟩
 refine ⟨w.heap.size, _, by rw [hlen], Ev.strs _, ?_⟩
 exact (hS.alloc _).ptVec (by simp) (by unfold maxLen; omega)
theorem atoi_ok {w : World} {s : Sg} {R : List HP} {x : ByteArray} {r : Int × Bool} (hS : St w s R) (hTab : TabX s) (hr : atoiq x = some r) : Calls Tryz.prog 71 [.string x].toArray w (fun e w => ∃ v, e = .returned (.tuple #[.int .i64 r.1, v]) ∧ ErrV v r.2 ∧ St w s R) := by
 unfold atoiq at hr
 split at hr
 ·rename_i hz
  injection hr with hr
  subst hr
  cases h : Lib.atoiAll x.data.toList with
  | ok v =>
   refine (Tryz.strconv_Atoi_ok x (by omega) v h w).mono ?_
   rintro e w' ⟨rfl, hw⟩
   refine ⟨_, rfl, rfl, ?_⟩
   rcases hw with rfl | ⟨t, rfl⟩
   ·exact hS
   ·exact hS.frozen _ _
  | range =>
   obtain ⟨ev, h1, h2⟩ := hTab.ran
   refine (Tryz.strconv_Atoi_range x (by omega) h ev w (h1 w R hS) h2).mono ?_
   rintro e w' ⟨N, rfl, _, _, hB⟩
   exact ⟨_, rfl, ⟨_, _, rfl⟩, hS.grown hB⟩
  | _ =>
   obtain ⟨ev, h1, h2⟩ := hTab.syn
   refine (Tryz.strconv_Atoi_syntax x (by omega) h ev w (h1 w R hS) h2).mono ?_
   rintro e w' ⟨N, rfl, _, _, hB⟩
   exact ⟨_, rfl, ⟨_, _, rfl⟩, hS.grown hB⟩
 ·cases hr
theorem cuts_ok {w : World} {s : Sg} {R : List HP} {x y : ByteArray} {r : ByteArray × Bool} (hS : St w s R) (hr : cutsq x y = some r) : Calls Tryz.prog 37 [.string x, .string y].toArray w (fun e w => e = .returned (.tuple #[.string r.1, .bool r.2]) ∧ St w s R) := by
 obtain ⟨h0, rfl⟩ := cutsq_some hr
 refine (Tryz.strings_CutSuffix x y w h0).mono ?_
 rintro e w' ⟨rfl, rfl⟩
 exact ⟨rfl, hS⟩
theorem join_ok {w : World} {s : Sg} {R : List HP} {a : Option Addr} {c : Nat} {l : List ByteArray} {y r : ByteArray} (hS : St w s R) (h : Sl 1 RS s a c l) (hr : joinq l y = some r) : Calls Tryz.prog 46 [.slice a l.length c, .string y].toArray w (fun e w => e = .returned (.string r) ∧ St w s R) := by
 obtain ⟨h0, h1, rfl⟩ := joinq_some hr
 cases l with
 | nil =>
  refine (Tryz.strings_Join_none a c y w).mono ?_
  rintro e w' ⟨rfl, rfl⟩
  exact ⟨rfl, hS⟩
 | cons x l =>
  obtain ⟨bk, o, rfl⟩ := h.aok (k := 0) (by simp)
  refine (Tryz.strings_Join bk o c (x :: l) y w (Sl.strs hS h) (Sl.block hS h) h0 h.len h1).mono ?_
  rintro e w' ⟨rfl, hB⟩
  exact ⟨rfl, hS.grown hB⟩
theorem oc2_ret_18 (p q : Addr) (w : World) : CallsDIn Fence.wide 0 Tryz.prog 18 #[.pointer (some p), .pointer (some q)] .returning w fun e u' w' => e = .returned (.tuple #[]) ∧ u' = .returning ∧ w' = w := by
 refine callsDIn_of_wpSIn Tryz.func18 rfl trivial fun c₀ cs hu => ?_
 apply wpSIn_seq
 apply wpSIn_region
 simp [wpOpsSIn, go_sem, recoverD, hu, Tryz.ntmps18, Exit.thenS, Fence.wide]
 apply wpSIn_seq
 apply wpSIn_region
 simp [wpOpsSIn, go_sem, Exit.thenS]
 refine wpSIn_cond (t := false) (by simp [Act.eval, Array.replicate]) ?_
 simp only [Bool.false_eq_true, if_false]
 refine wpSIn_of_wpIn rfl (wpIn_skip ?_)
 cases c₀
 simp_all [bodyPostS, results, Tryz.results18]
theorem oc2_pan_18 {w : World} {s : Sg} {R : List HP} {b b2 T1 T2 : Nat} {c0 c1 c2 c3 v : Value} (hS : St w s (pt b (.cells [c0, c1, c2, c3].toArray T1 (0, 0)) :: pt b2 (.cells [v].toArray T2 (0, 0)) :: R)) :
  CallsDIn Fence.wide 0 Tryz.prog 18 #[.pointer (some ⟨b, 0, none⟩), .pointer (some ⟨b2, 0, none⟩)] (.panicking [{ v := .iface 54 (.agg #[]), recovered := false }]) w fun e u' w' => e = .returned (.tuple #[]) ∧ u' = .panicking [{ v := .iface 54 (.agg #[]), recovered := true }] ∧
   St w' s (pt b (.cells [.bool false, .slice none 0 0, .int .i64 0, .slice none 0 0].toArray T1 (0, 0)) :: pt b2 (.cells [.int .i64 10].toArray T2 (0, 0)) :: R) := by
 have hta : ∀ w : World, (Instr.typeAssert (.iface 54 (.agg #[])) 20 54 true).run Tryz.prog w = .ok (.tuple #[.agg #[], .bool true]) w := fun _ => rfl
 refine callsDIn_of_wpSIn Tryz.func18 rfl trivial fun c₀ cs hu => ?_
 apply wpSIn_seq
 apply wpSIn_region
 simp [wpOpsSIn, go_sem, recoverD, hu, Tryz.ntmps18, Exit.thenS, Fence.wide]
 apply wpSIn_seq
 apply wpSIn_region
 simp [wpOpsSIn, go_sem, Exit.thenS]
 refine wpSIn_cond (t := true) (by simp [Act.eval, Array.replicate]) ?_
 simp only [if_true]
 apply wpSIn_seq
 apply wpSIn_seq
 apply wpSIn_region
 simp [wpOpsSIn, go_sem, Exit.thenS, hta]
 apply wpSIn_seq
 apply wpSIn_region
 simp [wpOpsSIn, go_sem, Exit.thenS]
 refine wpSIn_cond (t := false) (by simp [Act.eval, Array.replicate]) ?_
 simp only [Bool.false_eq_true, if_false]
 refine wpSIn_of_wpIn rfl (wpIn_skip ?_)
 simp only [Exit.thenS]
 refine wpSIn_of_wpIn rfl (wpIn_mono (Q := Kt.q { nor := fun a w' => a.defers = [] ∧ St w' s (pt b (.cells [.bool false, .slice none 0 0, .int .i64 0, .slice none 0 0].toArray T1 (0, 0)) :: pt b2 (.cells [.int .i64 10].toArray T2 (0, 0)) :: R), ret := fun _ _ => False, ex := [], pan := fun _ _ _ => False })
  (W.toS (n := 17) (E := [(0, .pointer (some ⟨b, 0, none⟩)), (1, .pointer (some ⟨b2, 0, none⟩))]) rfl ⟨?_, by simp, rfl, rfl⟩ ?_) ?_)
 ·intro t u ht
  simp only [Env.get] at ht
  split at ht
  ·obtain rfl := Option.some.inj ht
   rename_i h
   simp at h
   obtain ⟨rfl, _⟩ := h
   simp
  ·split at ht
   ·obtain rfl := Option.some.inj ht
    rename_i h
    simp at h
    obtain ⟨rfl, _⟩ := h
    simp
   ·cases ht
 ·have hS : St (w.alloc (.cells #[] 54)) s (pt b (.cells [c0, c1, c2, c3].toArray T1 (0, 0)) :: pt b2 (.cells [v].toArray T2 (0, 0)) :: R) := (hS.alloc _).tail
  generalize w.alloc (.cells #[] 54) = w at hS
  intro a hE
  refine W.region ?_
  refine vP hS hE (Gives.build hE (vs := []) [.bool false, .slice none 0 0, .int .i64 0, .slice none 0 0] rfl (by kernel_rfl)) rfl ?_; clear hE a; intro a hE
  refine WL.storeI hE hS 0 rfl [.bool false, .slice none 0 0, .int .i64 0, .slice none 0 0] (runs_plain rfl) rfl rfl rfl ty25 rfl rfl rfl rfl ?_; clear hE hS a w; intro a w hE hS
  refine WL.storeI hE hS 1 rfl [.int .i64 10] (runs_plain rfl) rfl rfl rfl ty26 rfl rfl rfl rfl ?_; clear hE hS a w; intro a w hE hS
  refine WL.nil ?_
  exact ⟨hE.defers, hS⟩
 ·intro e a w' q
  cases e with
  | normal => 
   obtain ⟨hd, hS⟩ := q
   simp [bodyPostS, results, Tryz.results18]
   exact ⟨hd, hS⟩
  | exit id => obtain ⟨k, hk, _⟩ := q; simp [Kt.look] at hk
  | ret => exact q.elim
  | panic c => exact q.elim
  | goto l => exact q.elim
  | outgrown => exact q.elim
theorem sbmixed : Tryz.prog.follows .mixedOrders = true := by kernel_rfl
theorem sbty60 : tyOk Tryz.prog 67 false 1 = true := by kernel_rfl
theorem sbty61 : tyOk Tryz.prog 68 false 1 = true := by kernel_rfl
theorem sbfl0 : fldOk Tryz.prog 70 0 0 = true := by kernel_rfl
theorem sbfl1 : fldOk Tryz.prog 70 1 1 = true := by kernel_rfl
theorem sbap : apOk Tryz.prog 68 5 1 = true := by kernel_rfl
theorem sbsl : slOk Tryz.prog 68 5 1 = true := by kernel_rfl
theorem sbpt : ptOk Tryz.prog 67 70 = true := by kernel_rfl
theorem sbu60 : Tryz.prog.underlying 67 = some (.pointer 70) := by kernel_rfl
theorem sbu77 : Tryz.prog.underlying 123 = some .unsafePointer := by kernel_rfl
theorem sbu76 : Tryz.prog.underlying 108 = some (.pointer 5) := by kernel_rfl
theorem sbu9 : Tryz.prog.underlying 9 = some .string := by kernel_rfl
theorem sbst : stOk Tryz.prog 9 = true := by kernel_rfl
theorem sbc : Tryz.prog.cellsOf 70 = 2 := by kernel_rfl
theorem sbc5 : Tryz.prog.cellsOf 5 = 1 := by kernel_rfl
theorem sbi0 : (Tryz.prog.info? 70).map (·.size) = some 2 := by kernel_rfl
theorem sbi : ∃ j, Tryz.prog.info? 70 = some j ∧ j.size ≠ 0 := by
 have h := sbi0
 rw [Option.map_eq_some_iff] at h
 obtain ⟨j, h1, h2⟩ := h
 exact ⟨j, h1, by omega⟩
theorem sbsame : sameOk Tryz.prog 75 := ⟨_, rfl, by kernel_rfl, by kernel_rfl, by kernel_rfl, by kernel_rfl⟩
theorem sbbd : bodied Tryz.prog 54 = true := by kernel_rfl
section
variable {w : World} {s : Sg} {R : List HP} {b : Nat} {y : ByteArray}
theorem sbCheck_ok {f a : Option Addr} {c : Nat} (hf : f = none ∨ f = some ⟨b, 0, none⟩) (hS : St w s (pt b (.cells [.pointer f, .slice a y.size c].toArray 70 (0, 0)) :: R)) :
  Calls Tryz.prog 54 [.pointer (some ⟨b, 0, none⟩)].toArray w (fun e w => e = .returned (.tuple #[]) ∧ St w s (pt b (.cells [.pointer (some ⟨b, 0, none⟩), .slice a y.size c].toArray 70 (0, 0)) :: R)) := by
 obtain ⟨j, hj1, hj2⟩ := sbi
 refine enter Tryz.func54 rfl rfl rfl fun a hE => ?_
 refine W.seq (W.region ?_)
 refine vP hS hE (Gives.p hE rfl) rfl ?_; clear hE a; intro a hE
 refine vP hS hE (Gives.nilOk hE rfl) rfl ?_; clear hE a; intro a hE
 refine vP hS hE (Gives.fld hE rfl sbfl0) rfl ?_; clear hE a; intro a hE
 refine vP hS hE (Gives.loadB hE 0 rfl rfl rfl sbty60) rfl ?_; clear hE a; intro a hE
 refine vP hS hE (Gives.isNilP hE rfl rfl sbpt) rfl ?_; clear hE a; intro a hE
 refine WL.nil ?_
 refine W.cond hE rfl (fun hc => ?_) (fun hc => ?_)
 ·refine W.region ?_
  refine vP hS hE (Gives.p hE rfl) rfl ?_; clear hE a; intro a hE
  refine vP hS hE (Gives.p hE rfl) rfl ?_; clear hE a; intro a hE
  refine vP hS hE (Gives.toUnsafe hE 0 rfl rfl rfl sbu60 sbu77 hj1 hj2) rfl ?_; clear hE a; intro a hE
  refine WL.same hE sbsame (runs_plain rfl) rfl rfl ?_; clear hE a; intro a hE
  refine vP hS hE (Gives.fromUnsafe hE 0 rfl rfl sbu77 sbu60 hj1 sbc rfl) rfl ?_; clear hE a; intro a hE
  refine vP hS hE (Gives.nilOk hE rfl) rfl ?_; clear hE a; intro a hE
  refine vP hS hE (Gives.fld hE rfl sbfl0) rfl ?_; clear hE a; intro a hE
  refine WL.storeI hE hS 0 rfl _ (runs_plain rfl) rfl rfl rfl sbty60 rfl rfl rfl rfl ?_; clear hE hS a; intro a w hE hS
  refine WL.nil ?_
  refine fin0 hE rfl ?_
  exact ⟨rfl, hS⟩
 ·have hf' : f = some ⟨b, 0, none⟩ := by
   rcases hf with rfl | h
   ·cases hc
   ·exact h
  subst hf'
  refine W.seq (W.region ?_)
  refine vP hS hE (Gives.p hE rfl) rfl ?_; clear hE a; intro a hE
  refine vP hS hE (Gives.nilOk hE rfl) rfl ?_; clear hE a; intro a hE
  refine vP hS hE (Gives.fld hE rfl sbfl0) rfl ?_; clear hE a; intro a hE
  refine vP hS hE (Gives.loadB hE 0 rfl rfl rfl sbty60) rfl ?_; clear hE a; intro a hE
  refine vP hS hE (Gives.p hE rfl) rfl ?_; clear hE a; intro a hE
  refine vP hS hE (Gives.neqSame hE rfl rfl sbu60 hj1) rfl ?_; clear hE a; intro a hE
  refine WL.nil ?_
  refine W.condF hE rfl rfl ?_
  refine W.skip ?_
  refine fin0 hE rfl ?_
  exact ⟨rfl, hS⟩

theorem sbWrite_ok {x r : ByteArray} (hS : St w s (sbC 70 5 b y :: R)) (hr : sbw y x = some r) :
  Calls Tryz.prog 29 [.pointer (some ⟨b, 0, none⟩), .string x].toArray w (fun e w => e = .returned (.tuple #[.int .i64 x.size, .nilIface]) ∧ St w s (sbC 70 5 b r :: R)) := by
 obtain ⟨h1, h2, rfl⟩ := sbw_some hr
 obtain ⟨f, sa, c, hf, ha, hS⟩ := hS.sbOpen
 refine enter Tryz.func29 rfl rfl rfl fun a hE => ?_
 refine W.seq (W.region ?_)
 refine vP hS hE (Gives.p hE rfl) rfl ?_; clear hE a; intro a hE
 refine vP hS hE (Gives.p hE rfl) rfl ?_; clear hE a; intro a hE
 refine WL.nil ?_
 refine W.seq (W.region ?_)
 refine vP hS hE (Gives.p hE rfl) rfl ?_; clear hE a; intro a hE
 refine WL.fnq hE (sbCheck_ok hf hS) (runs_plain rfl) sbbd rfl rfl rfl ?_
 clear hE hS; rintro e w ⟨rfl, hS⟩; refine ⟨_, rfl, ?_⟩; clear a; intro a hE
 refine WL.nil ?_
 refine W.seq (W.region ?_)
 refine vP hS hE (Gives.p hE rfl) rfl ?_; clear hE a; intro a hE
 refine vP hS hE (Gives.p hE rfl) rfl ?_; clear hE a; intro a hE
 refine vP hS hE (Gives.nilOk hE rfl) rfl ?_; clear hE a; intro a hE
 refine vP hS hE (Gives.fld hE rfl sbfl1) rfl ?_; clear hE a; intro a hE
 refine vP hS hE (Gives.loadB hE 0 rfl rfl rfl sbty61) rfl ?_; clear hE a; intro a hE
 refine vP hS hE (Gives.p hE rfl) rfl ?_; clear hE a; intro a hE
 refine WL.appStr hE hS 1 (runs_plain rfl) rfl rfl rfl sbap sbu9 h1 h2 ha.1 rfl ?_; clear hE hS a ha; intro sa2 c2 a w ha hE hS
 refine vP hS hE (Gives.nilOk hE rfl) rfl ?_; clear hE a; intro a hE
 refine vP hS hE (Gives.fld hE rfl sbfl1) rfl ?_; clear hE a; intro a hE
 refine WL.storeI hE hS 0 rfl _ (runs_plain rfl) rfl rfl rfl sbty61 rfl rfl rfl rfl ?_; clear hE hS a; intro a w hE hS
 refine WL.nil ?_
 refine W.seq (W.region ?_)
 refine vP hS hE (Gives.p hE rfl) rfl ?_; clear hE a; intro a hE
 refine vP hS hE (Gives.lenS hE rfl sbst) rfl ?_; clear hE a; intro a hE
 refine vP hS hE (Gives.p hE rfl) rfl ?_; clear hE a; intro a hE
 refine vP hS hE (Gives.p hE rfl) rfl ?_; clear hE a; intro a hE
 refine WL.nil ?_
 refine W.ret ?_
 refine finG (fn := Tryz.f29) (rs := [.tmp 4, .tmp 5]) (vs := [_, _]) hE rfl ⟨rfl, rfl, trivial⟩ ?_
 refine ⟨rfl, St.sbClose (f := some ⟨b, 0, none⟩) (a := sa2) (c := c2) (.inr rfl) ha ?_⟩
 rw [ByteArray.size_append, byteCells_app]
 exact hS

theorem sbString_ok (hS : St w s (sbC 70 5 b y :: R)) :
  Calls Tryz.prog 32 [.pointer (some ⟨b, 0, none⟩)].toArray w (fun e w => e = .returned (.string y) ∧ St w s R) := by
 obtain ⟨f, sa, c, hf, ha, hS⟩ := hS.sbOpen
 refine enter Tryz.func32 rfl rfl rfl fun a hE => ?_
 refine W.seq (W.region ?_)
 refine vP hS hE (Gives.p hE rfl) rfl ?_; clear hE a; intro a hE
 refine WL.nil ?_
 refine W.seq ?_
 refine W.regionE (sel (fun w => St w s (pt b (.cells [.pointer f, .slice sa y.size c].toArray 70 (0, 0)) :: vecC 5 1 sa c y.size (byteCells y) :: R)) (fun w => St w s R)) (fun b i => cond b (!(i == 10)) true) sbmixed ?_
 replace hS := hS.drew
 refine Rg.takeP (i := 0) hE rfl (by kernel_rfl) (runs_plain rfl) (Gives.p hE rfl) rfl (tw_sel (fun _ => hS) (fun _ => hS.tail.tail)) ?_; clear hE a; intro a hE
 refine Rg.takeP (i := 5) hE rfl (by kernel_rfl) (runs_plain rfl) (Gives.p hE rfl) rfl (tw_sel (fun _ => hS) (fun _ => hS.tail.tail)) ?_; clear hE a; intro a hE
 refine Rg.takeP (i := 1) hE rfl (by kernel_rfl) (runs_plain rfl) (Gives.nilOk hE rfl) rfl (tw_sel (fun _ => hS) (fun _ => hS.tail.tail)) ?_; clear hE a; intro a hE
 refine Rg.takeP (i := 6) hE rfl (by kernel_rfl) (runs_plain rfl) (Gives.nilOk hE rfl) rfl (tw_sel (fun _ => hS) (fun _ => hS.tail.tail)) ?_; clear hE a; intro a hE
 refine Rg.takeP (i := 2) hE rfl (by kernel_rfl) (runs_plain rfl) (Gives.fld hE rfl sbfl1) rfl (tw_sel (fun _ => hS) (fun _ => hS.tail.tail)) ?_; clear hE a; intro a hE
 refine Rg.takeP (i := 7) hE rfl (by kernel_rfl) (runs_plain rfl) (Gives.fld hE rfl sbfl1) rfl (tw_sel (fun _ => hS) (fun _ => hS.tail.tail)) ?_; clear hE a; intro a hE
 refine Rg.two (i := 3) (j := 8) true true true true rfl rfl (by kernel_rfl) (by kernel_rfl) (by kernel_rfl) (by kernel_rfl) (by kernel_rfl) ?_ ?_
 ·refine vP hS hE (Gives.loadB hE 0 rfl rfl rfl sbty61) rfl ?_; clear hE a; intro a hE
  refine WL.nil ?_
  refine ⟨⟨fun _ => hS, fun _ => hS.tail.tail⟩, ?_⟩
  refine Rg.takeP (i := 4) hE rfl (by kernel_rfl) (runs_plain rfl) (Gives.sliceData hE rfl ha.2) rfl (tw_sel (fun _ => hS) (fun _ => hS.tail.tail)) ?_; clear hE a; intro a hE
  refine Rg.one (i := 8) true true rfl (by kernel_rfl) (by kernel_rfl) (by kernel_rfl) ?_
  refine vP hS hE (Gives.loadB hE 0 rfl rfl rfl sbty61) rfl ?_; clear hE a; intro a hE
  refine WL.nil ?_
  refine ⟨⟨fun _ => hS, fun _ => hS.tail.tail⟩, ?_⟩
  refine Rg.takeP (i := 9) hE rfl (by kernel_rfl) (runs_plain rfl) (Gives.len hE rfl sbsl) rfl (tw_sel (fun _ => hS) (fun _ => hS.tail.tail)) ?_; clear hE a; intro a hE
  refine Rg.one (i := 10) false true rfl (by kernel_rfl) (by kernel_rfl) (by kernel_rfl) ?_
  refine WL.sbString hE hS 1 (runs_plain rfl) rfl rfl rfl ha.1 sbu76 sbc5 rfl ?_; clear hE hS a; intro a w hE hS
  refine WL.nil ?_
  refine ⟨⟨fun h => absurd h (by decide), fun _ => hS.tail⟩, ?_⟩
  refine Rg.takeP (i := 11) hE rfl (by kernel_rfl) (runs_plain rfl) (Gives.p hE rfl) rfl (tw_sel (fun h => absurd h (by decide)) (fun _ => hS.tail)) ?_; clear hE a; intro a hE
  refine Rg.done (by kernel_rfl) ?_
  refine W.ret ?_
  refine finG (fn := Tryz.f32) (rs := [.tmp 2]) (vs := [_]) hE rfl ⟨rfl, trivial⟩ ?_
  exact ⟨rfl, hS.tail⟩
 ·refine vP hS hE (Gives.loadB hE 0 rfl rfl rfl sbty61) rfl ?_; clear hE a; intro a hE
  refine WL.nil ?_
  refine ⟨⟨fun _ => hS, fun _ => hS.tail.tail⟩, ?_⟩
  refine Rg.takeP (i := 9) hE rfl (by kernel_rfl) (runs_plain rfl) (Gives.len hE rfl sbsl) rfl (tw_sel (fun _ => hS) (fun _ => hS.tail.tail)) ?_; clear hE a; intro a hE
  refine Rg.one (i := 3) true true rfl (by kernel_rfl) (by kernel_rfl) (by kernel_rfl) ?_
  refine vP hS hE (Gives.loadB hE 0 rfl rfl rfl sbty61) rfl ?_; clear hE a; intro a hE
  refine WL.nil ?_
  refine ⟨⟨fun _ => hS, fun _ => hS.tail.tail⟩, ?_⟩
  refine Rg.takeP (i := 4) hE rfl (by kernel_rfl) (runs_plain rfl) (Gives.sliceData hE rfl ha.2) rfl (tw_sel (fun _ => hS) (fun _ => hS.tail.tail)) ?_; clear hE a; intro a hE
  refine Rg.one (i := 10) false true rfl (by kernel_rfl) (by kernel_rfl) (by kernel_rfl) ?_
  refine WL.sbString hE hS 1 (runs_plain rfl) rfl rfl rfl ha.1 sbu76 sbc5 rfl ?_; clear hE hS a; intro a w hE hS
  refine WL.nil ?_
  refine ⟨⟨fun h => absurd h (by decide), fun _ => hS.tail⟩, ?_⟩
  refine Rg.takeP (i := 11) hE rfl (by kernel_rfl) (runs_plain rfl) (Gives.p hE rfl) rfl (tw_sel (fun h => absurd h (by decide)) (fun _ => hS.tail)) ?_; clear hE a; intro a hE
  refine Rg.done (by kernel_rfl) ?_
  refine W.ret ?_
  refine finG (fn := Tryz.f32) (rs := [.tmp 2]) (vs := [_]) hE rfl ⟨rfl, trivial⟩ ?_
  exact ⟨rfl, hS.tail⟩
end
theorem itoa_ok {w : World} {s : Sg} {R : List HP} {x : Int} {r : ByteArray} (hS : St w s R) (hTab : TabS Tryz.prog s) (hr : itoa x = some r) : Calls Tryz.prog 20 [.int .i64 x].toArray w (fun e w => e = .returned (.string r) ∧ St w s R) := by
 obtain ⟨⟨h0, h1⟩, rfl⟩ := itoa_some hr
 refine (Tryz.strconv_Itoa x h0 h1 w (hTab w R hS)).mono ?_
 rintro e w' ⟨rfl, k, os, rfl⟩
 exact ⟨rfl, (hS.drewN k).growBy os⟩
set_option maxHeartbeats 8000000 in
theorem Farewithin_ok  {w : World} {s : Sg} {R : List HP} {x0 : Int} {x1 : Int} {x2 : Int} (hS : St w s (R))  {r : Bool} (hr : Farewithin x0 x1 x2 = r) :
  Calls Tryz.prog 27 [.int .i64 x0, .int .i64 x1, .int .i64 x2].toArray w (fun e w => e = .returned (.bool r) ∧ St w s (R)) := by
 refine enter Tryz.func27 rfl rfl rfl fun a hE => ?_
 rw [Farewithin] at hr
 refine W.seq (W.region ?_)
 refine vP hS hE (Gives.p hE rfl) rfl ?_; clear hE a; intro a hE
 refine WL.nil ?_
 refine W.seq ?_
 obtain ⟨q52, hq51, hr⟩ := bndS hr
 refine W.cut (fun a w => ∃ (q55 : Bool), q55 = q52 ∧ Rep a 15 [(6, .bool q55)] ∧ St w s (R)) ?_ ?_
 ·refine W.gen fun K56 hK56 => ?_
  refine W.region ?_
  refine vP hS hE (Gives.p hE rfl) rfl ?_; clear hE a; intro a hE
  refine vP hS hE (Gives.p hE rfl) rfl ?_; clear hE a; intro a hE
  refine vP hS hE (Gives.p hE rfl) rfl ?_; clear hE a; intro a hE
  refine vP hS hE (Gives.p hE rfl) rfl ?_; clear hE a; intro a hE
  rcases Bool.eq_false_or_eq_true (decide (x0 ≥ x1)) with hg57 | hg57
  ·replace hq51 := iteT hg57 hq51
   refine WL.vS hS hE (runs_if hE rfl rfl rfl hg57) (Gives.p hE rfl) rfl ?_; clear hE a; intro a hE
   refine WL.vS hS hE (runs_if hE rfl rfl rfl hg57) (Gives.p hE rfl) rfl ?_; clear hE a; intro a hE
   refine WL.vS hS hE (runs_if hE rfl rfl rfl hg57) (Gives.p hE rfl) rfl ?_; clear hE a; intro a hE
   refine vP hS hE (Gives.pickT hE rfl hg57 rfl) rfl ?_; clear hE a; intro a hE
   refine vP hS hE (Gives.p hE rfl) rfl ?_; clear hE a; intro a hE
   refine WL.nil ?_
   subst hK56
   exact ⟨decide (x0 ≤ x2), hq51, hE.pick _ ⟨rfl, trivial⟩, hS⟩
  ·replace hq51 := iteF hg57 hq51
   refine WL.no hE (runs_not hE rfl rfl rfl (by rw [hg57]; decide)) rfl ?_; clear hE a; intro a hE
   refine WL.no hE (runs_not hE rfl rfl rfl (by rw [hg57]; decide)) rfl ?_; clear hE a; intro a hE
   refine WL.no hE (runs_not hE rfl rfl rfl (by rw [hg57]; decide)) rfl ?_; clear hE a; intro a hE
   refine vP hS hE (Gives.pickF hE rfl hg57 rfl) rfl ?_; clear hE a; intro a hE
   refine vP hS hE (Gives.p hE rfl) rfl ?_; clear hE a; intro a hE
   refine WL.nil ?_
   subst hK56
   exact ⟨false, hq51, hE.pick _ ⟨rfl, trivial⟩, hS⟩
 ·clear hE hS a w; rintro a w ⟨q55, rfl, hE, hS⟩
  refine W.ret ?_
  refine finG (fn := Tryz.f27) (rs := [.tmp 6]) (vs := [_]) hE rfl ⟨rfl, trivial⟩ ?_
  subst hr
  exact ⟨rfl, hS⟩
set_option maxHeartbeats 8000000 in
theorem FareCondsize_ok : ∀ {fu : Nat} {w : World} {s : Sg} {R : List HP} {x0 : FareCond} {a0_0 : Option Addr} {c0_0 : Nat} (_hS : St w s (R)) (_h0_0 : Sl 4 RFareCond s a0_0 c0_0 x0.Kids) {r : Int × Int} (_hr : FareCondsize fu x0 = some r),
  Calls Tryz.prog 52 [.agg (List.toArray [.int .i64 x0.Kind, .int .i64 x0.A, .int .i64 x0.B, .slice a0_0 x0.Kids.length c0_0])].toArray w (fun e w => e = .returned (.tuple #[.int .i64 r.1, .int .i64 r.2]) ∧ St w s (R)) := by
 intro fu
 induction fu with
 | zero => intro w s R x0 a0_0 c0_0 hS h0_0 r hr; rw [FareCondsize] at hr; exact absurd hr (by simp)
 | succ fu ih_FareCondsize =>
  intro w s R x0 a0_0 c0_0 hS h0_0 r hr
  rw [FareCondsize] at hr
  generalize FareCondsize fu = self_FareCondsize at hr ih_FareCondsize
  refine enter Tryz.func52 rfl rfl rfl fun a hE => ?_
  refine W.seq (W.region ?_)
  refine WL.box hE hS (runs_plain rfl) rfl rfl rfl ?_; clear hE hS a w; intro b51 a w hE hS
  refine vP hS hE (Gives.p hE rfl) rfl ?_; clear hE a; intro a hE
  refine vP hS hE (Gives.p hE rfl) rfl ?_; clear hE a; intro a hE
  refine WL.nil ?_
  refine W.seq (W.region ?_)
  refine vP hS hE (Gives.p hE rfl) rfl ?_; clear hE a; intro a hE
  refine WL.nil ?_
  refine W.seq ?_
  refine W.seq (W.region ?_)
  refine vP hS hE (Gives.fld hE rfl fl43_3) rfl ?_; clear hE a; intro a hE
  refine vP hS hE (Gives.loadB hE 0 rfl rfl rfl ty41) rfl ?_; clear hE a; intro a hE
  refine vP hS hE (Gives.len hE rfl sl41) rfl ?_; clear hE a; intro a hE
  refine vP hS hE (Gives.p hE rfl) rfl ?_; clear hE a; intro a hE
  refine WL.nil ?_
  obtain ⟨q53, hq52, hr⟩ := bindS hr
  refine W.cut (fun a w => ∃ (q63 : Int), ∃ (q64 : Int), (q63, q64) = q53 ∧ Rep a 30 [(2, .int .i64 q63), (3, .int .i64 q64)] ∧ St w s (pt b51 (.cells #[.int .i64 x0.Kind, .int .i64 x0.A, .int .i64 x0.B, .slice a0_0 x0.Kids.length c0_0] 43 (0, 0)) :: R)) ?_ ?_
  ·refine W.block ?_
   refine W.loop (fun m a w => ∃ (rest56 : List FareCond) (k54 : Nat), ∃ (q63 : Int), ∃ (q64 : Int), rest56.length = m ∧ x0.Kids.drop k54 = rest56 ∧ FareCondsize.loop1 self_FareCondsize rest56 q63 q64 = some q53 ∧ Rep a 30 [(2, .int .i64 q63), (3, .int .i64 q64), (9, .slice a0_0 x0.Kids.length c0_0), (10, .int .i64 ((x0.Kids).length : Int)), (11, .int .i64 ((k54 : Nat) : Int))] ∧ St w s (pt b51 (.cells #[.int .i64 x0.Kind, .int .i64 x0.A, .int .i64 x0.B, .slice a0_0 x0.Kids.length c0_0] 43 (0, 0)) :: R)) (m := x0.Kids.length) ⟨x0.Kids, 0, 1, 0, rfl, rfl, hq52, hE.pick _ ⟨rfl, rfl, rfl, rfl, rfl, trivial⟩, hS⟩ ?_
   clear hE hS a w hq52; rintro m60 a w ⟨rest56, k54, q63, q64, rfl, hd57, hq52, hE, hS⟩
   refine W.gen fun K65 hK65 => ?_
   rcases rest56 with _ | ⟨x55, rest56⟩
   ·have hlt58 := drop_nil hd57
    refine W.seq (W.region ?_)
    refine vP hS hE (Gives.p hE rfl) rfl ?_; clear hE a; intro a hE
    refine WL.nil ?_
    refine W.seq ?_
    refine W.condF hE rfl (decide_eq_false (by omega)) ?_
    subst hK65
    refine W.exit rfl ?_
    exact ⟨q63, q64, Option.some.inj hq52, hE.pick _ ⟨rfl, rfl, trivial⟩, hS⟩
   ·obtain ⟨hlt58, hx59, hd57⟩ := drop_cons hd57
    rw [FareCondsize.loop1] at hq52
    refine W.seq (W.region ?_)
    refine vP hS hE (Gives.p hE rfl) rfl ?_; clear hE a; intro a hE
    refine WL.nil ?_
    refine W.seq ?_
    refine W.condT hE rfl (decide_eq_true (by omega)) ?_
    refine W.skip ?_
    refine W.seq ?_
    refine W.block ?_
    refine W.seq (W.region ?_)
    obtain ⟨cs66, hl67, hR68, hat69⟩ := h0_0.at hx59
    obtain ⟨a70, c71, rfl, h72⟩ := hR68.unf
    refine vP hS hE (Gives.idx hE k54 rfl rfl sl41 rfl hlt58 (h0_0.aok hlt58)) rfl ?_; clear hE a; intro a hE
    refine vP hS hE (Gives.loadA hE rfl (fun w h => hat69 w _ h) ty43) rfl ?_; clear hE a; intro a hE
    refine WL.alloc hE hS (runs_plain rfl) zr43 rfl ?_; clear hE hS a w; intro b73 a w hE hS
    refine WL.storeI hE hS 0 rfl [.int .i64 x55.Kind, .int .i64 x55.A, .int .i64 x55.B, .slice a70 x55.Kids.length c71] (runs_plain rfl) rfl rfl rfl ty43 rfl rfl rfl rfl ?_; clear hE hS a w; intro a w hE hS
    refine WL.nil ?_
    refine W.seq (W.region ?_)
    refine vP hS hE (Gives.loadBA hE 0 rfl rfl ty43) rfl ?_; clear hE a; intro a hE
    obtain ⟨q74, hq75, hq52⟩ := bindS hq52
    have hc_ := ih_FareCondsize hS h72 hq75
    refine WL.fnq hE (hc_) (runs_plain rfl) bd52 rfl rfl rfl ?_
    clear hE hS hc_; rintro e w ⟨rfl, hS⟩; refine ⟨_, rfl, ?_⟩; clear a; intro a hE
    refine vP hS hE (Gives.p hE rfl) rfl ?_; clear hE a; intro a hE
    refine vP hS hE (Gives.p hE rfl) rfl ?_; clear hE a; intro a hE
    refine vP hS hE (Gives.p hE rfl) rfl ?_; clear hE a; intro a hE
    refine vP hS hE (Gives.p hE rfl) rfl ?_; clear hE a; intro a hE
    refine vP hS hE (Gives.p hE rfl) rfl ?_; clear hE a; intro a hE
    refine WL.nil ?_
    refine W.seq (W.region ?_)
    refine vP hS hE (Gives.p hE rfl) rfl ?_; clear hE a; intro a hE
    refine vP hS hE (Gives.p hE rfl) rfl ?_; clear hE a; intro a hE
    refine vP hS hE (Gives.p hE rfl) rfl ?_; clear hE a; intro a hE
    refine vP hS hE (Gives.p hE rfl) rfl ?_; clear hE a; intro a hE
    refine WL.nil ?_
    refine W.region ?_
    refine vP hS hE (Gives.p hE rfl) rfl ?_; clear hE a; intro a hE
    refine vP hS hE (Gives.p hE rfl) rfl ?_; clear hE a; intro a hE
    refine vP hS hE (Gives.max2 hE rfl rfl) rfl ?_; clear hE a; intro a hE
    refine vP hS hE (Gives.p hE rfl) rfl ?_; clear hE a; intro a hE
    refine WL.nil ?_
    refine W.region ?_
    refine vP hS hE (Gives.inc hE rfl (by have := h0_0.small; omega)) rfl ?_; clear hE a; intro a hE
    refine vP hS hE (Gives.p hE rfl) rfl ?_; clear hE a; intro a hE
    refine WL.nil ?_
    replace hS := hS.tail
    subst hK65
    exact ⟨rest56.length, Nat.lt_succ_self _, rest56, k54 + 1, (w64 (q63 + q74.1)), (mx q64 q74.2), rfl, hd57, hq52, hE.pick _ ⟨rfl, rfl, rfl, rfl, rfl, trivial⟩, hS⟩
  ·clear hE hS a w; rintro a w ⟨q63, q64, rfl, hE, hS⟩
   dsimp only at hr
   refine W.seq (W.region ?_)
   refine vP hS hE (Gives.p hE rfl) rfl ?_; clear hE a; intro a hE
   refine vP hS hE (Gives.p hE rfl) rfl ?_; clear hE a; intro a hE
   refine vP hS hE (Gives.p hE rfl) rfl ?_; clear hE a; intro a hE
   refine vP hS hE (Gives.p hE rfl) rfl ?_; clear hE a; intro a hE
   refine vP hS hE (Gives.p hE rfl) rfl ?_; clear hE a; intro a hE
   refine WL.nil ?_
   refine W.ret ?_
   refine finG (fn := Tryz.f52) (rs := [.tmp 2, .tmp 3]) (vs := [_, _]) hE rfl ⟨rfl, rfl, trivial⟩ ?_
   obtain rfl := Option.some.inj hr
   replace hS := hS.tail
   exact ⟨rfl, hS⟩
set_option maxHeartbeats 8000000 in
theorem Farenumbers_ok  {w : World} {s : Sg} {R : List HP} {x0 : Int} (hS : St w s (R))  {r : Int} (hr : Farenumbers x0 = r) :
  Calls Tryz.prog 57 [.int .i64 x0].toArray w (fun e w => e = .returned (.int .i64 r) ∧ St w s (R)) := by
 refine enter Tryz.func57 rfl rfl rfl fun a hE => ?_
 rw [Farenumbers] at hr
 refine W.seq (W.region ?_)
 refine vP hS hE (Gives.p hE rfl) rfl ?_; clear hE a; intro a hE
 refine WL.nil ?_
 refine W.seq ?_
 refine W.seq (W.region ?_)
 refine vP hS hE (Gives.p hE rfl) rfl ?_; clear hE a; intro a hE
 refine WL.nil ?_
 refine W.block ?_
 refine W.seq ?_
 refine W.seq (W.region ?_)
 refine vP hS hE (Gives.p hE rfl) rfl ?_; clear hE a; intro a hE
 refine vP hS hE (Gives.p hE rfl) rfl ?_; clear hE a; intro a hE
 refine WL.nil ?_
 obtain ⟨q52, hq51, hr⟩ := bndS hr
 refine W.cut (fun a w => ∃ (q55 : Bool), q55 = q52 ∧ Rep a 13 [(3, .int .i64 x0), (4, .bool q55)] ∧ St w s (R)) ?_ ?_
 ·refine W.gen fun K56 hK56 => ?_
  refine W.cond hE rfl (fun hc57 => ?_) (fun hc57 => ?_)
  ·replace hq51 := iteT hc57 hq51
   refine W.skip ?_
   subst hK56
   exact ⟨(x0 == 2), hq51, hE.pick _ ⟨rfl, rfl, trivial⟩, hS⟩
  ·replace hq51 := iteF hc57 hq51
   refine W.seq (W.region ?_)
   refine vP hS hE (Gives.p hE rfl) rfl ?_; clear hE a; intro a hE
   refine vP hS hE (Gives.p hE rfl) rfl ?_; clear hE a; intro a hE
   refine WL.nil ?_
   obtain ⟨q59, hq58, hq51⟩ := bndS hq51
   refine W.cut (fun a w => ∃ (q62 : Bool), q62 = q59 ∧ Rep a 13 [(3, .int .i64 x0), (4, .bool q62)] ∧ St w s (R)) ?_ ?_
   ·refine W.gen fun K63 hK63 => ?_
    refine W.cond hE rfl (fun hc64 => ?_) (fun hc64 => ?_)
    ·replace hq58 := iteT hc64 hq58
     refine W.skip ?_
     subst hK63
     exact ⟨(x0 == 3), hq58, hE.pick _ ⟨rfl, rfl, trivial⟩, hS⟩
    ·replace hq58 := iteF hc64 hq58
     refine W.seq (W.region ?_)
     refine vP hS hE (Gives.p hE rfl) rfl ?_; clear hE a; intro a hE
     refine vP hS hE (Gives.p hE rfl) rfl ?_; clear hE a; intro a hE
     refine WL.nil ?_
     obtain ⟨q66, hq65, hq58⟩ := bndS hq58
     refine W.cut (fun a w => ∃ (q69 : Bool), q69 = q66 ∧ Rep a 13 [(3, .int .i64 x0), (4, .bool q69)] ∧ St w s (R)) ?_ ?_
     ·refine W.gen fun K70 hK70 => ?_
      refine W.cond hE rfl (fun hc71 => ?_) (fun hc71 => ?_)
      ·replace hq65 := iteT hc71 hq65
       refine W.skip ?_
       subst hK70
       exact ⟨(x0 == 4), hq65, hE.pick _ ⟨rfl, rfl, trivial⟩, hS⟩
      ·replace hq65 := iteF hc71 hq65
       refine W.region ?_
       refine vP hS hE (Gives.p hE rfl) rfl ?_; clear hE a; intro a hE
       refine vP hS hE (Gives.p hE rfl) rfl ?_; clear hE a; intro a hE
       refine WL.nil ?_
       subst hK70
       exact ⟨(x0 == 5), hq65, hE.pick _ ⟨rfl, rfl, trivial⟩, hS⟩
     ·clear hE hS a w; rintro a w ⟨q69, rfl, hE, hS⟩
      subst hK63
      exact ⟨q69, hq58, hE.pick _ ⟨rfl, rfl, trivial⟩, hS⟩
   ·clear hE hS a w; rintro a w ⟨q62, rfl, hE, hS⟩
    subst hK56
    exact ⟨q62, hq51, hE.pick _ ⟨rfl, rfl, trivial⟩, hS⟩
 ·clear hE hS a w; rintro a w ⟨q55, rfl, hE, hS⟩
  refine W.cond hE rfl (fun hc72 => ?_) (fun hc72 => ?_)
  ·replace hr := iteT hc72 hr
   refine W.seq (W.region ?_)
   refine vP hS hE (Gives.p hE rfl) rfl ?_; clear hE a; intro a hE
   refine WL.nil ?_
   refine W.ret ?_
   refine finG (fn := Tryz.f57) (rs := [.tmp 2]) (vs := [_]) hE rfl ⟨rfl, trivial⟩ ?_
   subst hr
   exact ⟨rfl, hS⟩
  ·replace hr := iteF hc72 hr
   refine W.seq ?_
   refine W.seq (W.region ?_)
   refine vP hS hE (Gives.p hE rfl) rfl ?_; clear hE a; intro a hE
   refine vP hS hE (Gives.p hE rfl) rfl ?_; clear hE a; intro a hE
   refine WL.nil ?_
   obtain ⟨q74, hq73, hr⟩ := bndS hr
   refine W.cut (fun a w => ∃ (q77 : Bool), q77 = q74 ∧ Rep a 13 [(9, .bool q77)] ∧ St w s (R)) ?_ ?_
   ·refine W.gen fun K78 hK78 => ?_
    refine W.cond hE rfl (fun hc79 => ?_) (fun hc79 => ?_)
    ·replace hq73 := iteT hc79 hq73
     refine W.skip ?_
     subst hK78
     exact ⟨(x0 == 6), hq73, hE.pick _ ⟨rfl, trivial⟩, hS⟩
    ·replace hq73 := iteF hc79 hq73
     refine W.seq (W.region ?_)
     refine vP hS hE (Gives.p hE rfl) rfl ?_; clear hE a; intro a hE
     refine vP hS hE (Gives.p hE rfl) rfl ?_; clear hE a; intro a hE
     refine WL.nil ?_
     obtain ⟨q81, hq80, hq73⟩ := bndS hq73
     refine W.cut (fun a w => ∃ (q84 : Bool), q84 = q81 ∧ Rep a 13 [(9, .bool q84)] ∧ St w s (R)) ?_ ?_
     ·refine W.gen fun K85 hK85 => ?_
      refine W.cond hE rfl (fun hc86 => ?_) (fun hc86 => ?_)
      ·replace hq80 := iteT hc86 hq80
       refine W.skip ?_
       subst hK85
       exact ⟨(x0 == 7), hq80, hE.pick _ ⟨rfl, trivial⟩, hS⟩
      ·replace hq80 := iteF hc86 hq80
       refine W.region ?_
       refine vP hS hE (Gives.p hE rfl) rfl ?_; clear hE a; intro a hE
       refine vP hS hE (Gives.p hE rfl) rfl ?_; clear hE a; intro a hE
       refine WL.nil ?_
       subst hK85
       exact ⟨(x0 == 8), hq80, hE.pick _ ⟨rfl, trivial⟩, hS⟩
     ·clear hE hS a w; rintro a w ⟨q84, rfl, hE, hS⟩
      subst hK78
      exact ⟨q84, hq73, hE.pick _ ⟨rfl, trivial⟩, hS⟩
   ·clear hE hS a w; rintro a w ⟨q77, rfl, hE, hS⟩
    refine W.cond hE rfl (fun hc87 => ?_) (fun hc87 => ?_)
    ·replace hr := iteT hc87 hr
     refine W.seq (W.region ?_)
     refine vP hS hE (Gives.p hE rfl) rfl ?_; clear hE a; intro a hE
     refine WL.nil ?_
     refine W.ret ?_
     refine finG (fn := Tryz.f57) (rs := [.tmp 2]) (vs := [_]) hE rfl ⟨rfl, trivial⟩ ?_
     subst hr
     exact ⟨rfl, hS⟩
    ·replace hr := iteF hc87 hr
     refine W.skip ?_
     refine W.seq (W.region ?_)
     refine vP hS hE (Gives.p hE rfl) rfl ?_; clear hE a; intro a hE
     refine WL.nil ?_
     refine W.ret ?_
     refine finG (fn := Tryz.f57) (rs := [.tmp 2]) (vs := [_]) hE rfl ⟨rfl, trivial⟩ ?_
     subst hr
     exact ⟨rfl, hS⟩
set_option maxHeartbeats 8000000 in
theorem FareCondnode_ok : ∀ {fu : Nat} {w : World} {s : Sg} {R : List HP} {x0 : FareCond} {a0_0 : Option Addr} {c0_0 : Nat} (_hS : St w s (R)) (_h0_0 : Sl 4 RFareCond s a0_0 c0_0 x0.Kids) {r : Int} (_hr : FareCondnode fu x0 = some r),
  Calls Tryz.prog 53 [.agg (List.toArray [.int .i64 x0.Kind, .int .i64 x0.A, .int .i64 x0.B, .slice a0_0 x0.Kids.length c0_0])].toArray w (fun e w => e = .returned (.int .i64 r) ∧ St w s (R)) := by
 intro fu
 induction fu with
 | zero => intro w s R x0 a0_0 c0_0 hS h0_0 r hr; rw [FareCondnode] at hr; exact absurd hr (by simp)
 | succ fu ih_FareCondnode =>
  intro w s R x0 a0_0 c0_0 hS h0_0 r hr
  rw [FareCondnode] at hr
  generalize FareCondnode fu = self_FareCondnode at hr ih_FareCondnode
  refine enter Tryz.func53 rfl rfl rfl fun a hE => ?_
  refine W.seq (W.region ?_)
  refine WL.box hE hS (runs_plain rfl) rfl rfl rfl ?_; clear hE hS a w; intro b51 a w hE hS
  refine vP hS hE (Gives.p hE rfl) rfl ?_; clear hE a; intro a hE
  refine WL.nil ?_
  refine W.seq (W.region ?_)
  refine vP hS hE (Gives.fld hE rfl fl43_0) rfl ?_; clear hE a; intro a hE
  refine vP hS hE (Gives.loadB hE 0 rfl rfl rfl ty3) rfl ?_; clear hE a; intro a hE
  refine WL.fnq hE (Farenumbers_ok hS  rfl (r := Farenumbers x0.Kind)) (runs_plain rfl) bd57 rfl rfl rfl ?_
  clear hE hS; rintro e w ⟨rfl, hS⟩; refine ⟨_, rfl, ?_⟩; clear a; intro a hE
  refine vP hS hE (Gives.p hE rfl) rfl ?_; clear hE a; intro a hE
  refine WL.nil ?_
  refine W.seq ?_
  refine W.block ?_
  refine W.seq (W.region ?_)
  refine vP hS hE (Gives.fld hE rfl fl43_0) rfl ?_; clear hE a; intro a hE
  refine vP hS hE (Gives.loadB hE 0 rfl rfl rfl ty3) rfl ?_; clear hE a; intro a hE
  refine WL.fnq hE (Farewithin_ok hS  rfl (r := Farewithin x0.Kind 0 11)) (runs_plain rfl) bd27 rfl rfl rfl ?_
  clear hE hS; rintro e w ⟨rfl, hS⟩; refine ⟨_, rfl, ?_⟩; clear a; intro a hE
  refine vP hS hE (Gives.p hE rfl) rfl ?_; clear hE a; intro a hE
  refine vP hS hE (Gives.p hE rfl) rfl ?_; clear hE a; intro a hE
  refine WL.nil ?_
  refine W.cond hE rfl (fun hc52 => ?_) (fun hc52 => ?_)
  ·replace hr := iteT hc52 hr
   refine W.seq (W.region ?_)
   refine vP hS hE (Gives.p hE rfl) rfl ?_; clear hE a; intro a hE
   refine WL.nil ?_
   refine W.ret ?_
   refine finG (fn := Tryz.f53) (rs := [.tmp 2]) (vs := [_]) hE rfl ⟨rfl, trivial⟩ ?_
   obtain rfl := Option.some.inj hr
   replace hS := hS.tail
   exact ⟨rfl, hS⟩
  ·replace hr := iteF hc52 hr
   refine W.seq ?_
   obtain ⟨q54, hq53, hr⟩ := bndS hr
   refine W.cut (fun a w => ∃ (q57 : Bool), q57 = q54 ∧ Rep a 99 [(1, .pointer (some ⟨b51, 0, none⟩)), (3, .int .i64 (Farenumbers x0.Kind)), (15, .bool q57)] ∧ St w s (pt b51 (.cells #[.int .i64 x0.Kind, .int .i64 x0.A, .int .i64 x0.B, .slice a0_0 x0.Kids.length c0_0] 43 (0, 0)) :: R)) ?_ ?_
   ·refine W.gen fun K58 hK58 => ?_
    refine W.region ?_
    refine vP hS hE (Gives.fld hE rfl fl43_1) rfl ?_; clear hE a; intro a hE
    refine vP hS hE (Gives.loadB hE 0 rfl rfl rfl ty3) rfl ?_; clear hE a; intro a hE
    refine WL.fnq hE (Farewithin_ok hS  rfl (r := Farewithin x0.A 0 28800)) (runs_plain rfl) bd27 rfl rfl rfl ?_
    clear hE hS; rintro e w ⟨rfl, hS⟩; refine ⟨_, rfl, ?_⟩; clear a; intro a hE
    refine vP hS hE (Gives.p hE rfl) rfl ?_; clear hE a; intro a hE
    refine vP hS hE (Gives.p hE rfl) rfl ?_; clear hE a; intro a hE
    rcases Bool.eq_false_or_eq_true (!(Farewithin x0.A 0 28800)) with hg59 | hg59
    ·replace hq53 := iteT hg59 hq53
     refine WL.no hE (runs_not hE rfl rfl rfl (by rw [hg59]; decide)) rfl ?_; clear hE a; intro a hE
     refine WL.no hE (runs_not hE rfl rfl rfl (by rw [hg59]; decide)) rfl ?_; clear hE a; intro a hE
     refine WL.no hE (runs_not hE rfl rfl rfl (by rw [hg59]; decide)) rfl ?_; clear hE a; intro a hE
     refine WL.no hE (runs_not hE rfl rfl rfl (by rw [hg59]; decide)) rfl ?_; clear hE a; intro a hE
     refine vP hS hE (Gives.pickT hE rfl hg59 rfl) rfl ?_; clear hE a; intro a hE
     refine vP hS hE (Gives.p hE rfl) rfl ?_; clear hE a; intro a hE
     refine WL.nil ?_
     subst hK58
     exact ⟨true, hq53, hE.pick _ ⟨rfl, rfl, rfl, trivial⟩, hS⟩
    ·replace hq53 := iteF hg59 hq53
     refine WL.vS hS hE (runs_if hE rfl rfl rfl hg59) (Gives.fld hE rfl fl43_2) rfl ?_; clear hE a; intro a hE
     refine WL.vS hS hE (runs_if hE rfl rfl rfl hg59) (Gives.loadB hE 0 rfl rfl rfl ty3) rfl ?_; clear hE a; intro a hE
     refine WL.fnq hE (Farewithin_ok hS  rfl (r := Farewithin x0.B 0 28800)) (runs_if hE rfl rfl rfl hg59) bd27 rfl rfl rfl ?_
     clear hE hS; rintro e w ⟨rfl, hS⟩; refine ⟨_, rfl, ?_⟩; clear a; intro a hE
     refine WL.vS hS hE (runs_if hE rfl rfl rfl hg59) (Gives.p hE rfl) rfl ?_; clear hE a; intro a hE
     refine vP hS hE (Gives.pickF hE rfl hg59 rfl) rfl ?_; clear hE a; intro a hE
     refine vP hS hE (Gives.p hE rfl) rfl ?_; clear hE a; intro a hE
     refine WL.nil ?_
     subst hK58
     exact ⟨!(Farewithin x0.B 0 28800), hq53, hE.pick _ ⟨rfl, rfl, rfl, trivial⟩, hS⟩
   ·clear hE hS a w; rintro a w ⟨q57, rfl, hE, hS⟩
    refine W.cond hE rfl (fun hc60 => ?_) (fun hc60 => ?_)
    ·replace hr := iteT hc60 hr
     refine W.seq (W.region ?_)
     refine vP hS hE (Gives.p hE rfl) rfl ?_; clear hE a; intro a hE
     refine WL.nil ?_
     refine W.ret ?_
     refine finG (fn := Tryz.f53) (rs := [.tmp 2]) (vs := [_]) hE rfl ⟨rfl, trivial⟩ ?_
     obtain rfl := Option.some.inj hr
     replace hS := hS.tail
     exact ⟨rfl, hS⟩
    ·replace hr := iteF hc60 hr
     refine W.seq ?_
     obtain ⟨q62, hq61, hr⟩ := bndS hr
     refine W.cut (fun a w => ∃ (q65 : Bool), q65 = q62 ∧ Rep a 99 [(1, .pointer (some ⟨b51, 0, none⟩)), (26, .bool q65)] ∧ St w s (pt b51 (.cells #[.int .i64 x0.Kind, .int .i64 x0.A, .int .i64 x0.B, .slice a0_0 x0.Kids.length c0_0] 43 (0, 0)) :: R)) ?_ ?_
     ·refine W.gen fun K66 hK66 => ?_
      refine W.region ?_
      refine vP hS hE (Gives.p hE rfl) rfl ?_; clear hE a; intro a hE
      refine vP hS hE (Gives.p hE rfl) rfl ?_; clear hE a; intro a hE
      refine vP hS hE (Gives.p hE rfl) rfl ?_; clear hE a; intro a hE
      rcases Bool.eq_false_or_eq_true (decide ((Farenumbers x0.Kind) < 1)) with hg67 | hg67
      ·replace hq61 := iteT hg67 hq61
       refine WL.vS hS hE (runs_if hE rfl rfl rfl hg67) (Gives.fld hE rfl fl43_1) rfl ?_; clear hE a; intro a hE
       refine WL.vS hS hE (runs_if hE rfl rfl rfl hg67) (Gives.loadB hE 0 rfl rfl rfl ty3) rfl ?_; clear hE a; intro a hE
       refine WL.vS hS hE (runs_if hE rfl rfl rfl hg67) (Gives.p hE rfl) rfl ?_; clear hE a; intro a hE
       refine vP hS hE (Gives.pickT hE rfl hg67 rfl) rfl ?_; clear hE a; intro a hE
       refine vP hS hE (Gives.p hE rfl) rfl ?_; clear hE a; intro a hE
       rcases Bool.eq_false_or_eq_true (x0.A != 0) with hg68 | hg68
       ·replace hq61 := iteT hg68 hq61
        refine WL.no hE (runs_not hE rfl rfl rfl (by rw [hg68]; decide)) rfl ?_; clear hE a; intro a hE
        refine WL.no hE (runs_not hE rfl rfl rfl (by rw [hg68]; decide)) rfl ?_; clear hE a; intro a hE
        refine WL.no hE (runs_not hE rfl rfl rfl (by rw [hg68]; decide)) rfl ?_; clear hE a; intro a hE
        refine WL.no hE (runs_undef hE rfl rfl rfl) rfl ?_; clear hE a; intro a hE
        refine WL.no hE (runs_undef hE rfl rfl rfl) rfl ?_; clear hE a; intro a hE
        refine WL.no hE (runs_undef hE rfl rfl rfl) rfl ?_; clear hE a; intro a hE
        refine WL.no hE (runs_not hE rfl rfl rfl (by rw [hg68]; decide)) rfl ?_; clear hE a; intro a hE
        refine vP hS hE (Gives.pickT hE rfl hg68 rfl) rfl ?_; clear hE a; intro a hE
        refine vP hS hE (Gives.p hE rfl) rfl ?_; clear hE a; intro a hE
        refine WL.no hE (runs_not hE rfl rfl rfl (by decide)) rfl ?_; clear hE a; intro a hE
        refine WL.no hE (runs_not hE rfl rfl rfl (by decide)) rfl ?_; clear hE a; intro a hE
        refine WL.no hE (runs_not hE rfl rfl rfl (by decide)) rfl ?_; clear hE a; intro a hE
        refine WL.no hE (runs_undef hE rfl rfl rfl) rfl ?_; clear hE a; intro a hE
        refine WL.no hE (runs_undef hE rfl rfl rfl) rfl ?_; clear hE a; intro a hE
        refine WL.no hE (runs_undef hE rfl rfl rfl) rfl ?_; clear hE a; intro a hE
        refine WL.no hE (runs_undef hE rfl rfl rfl) rfl ?_; clear hE a; intro a hE
        refine WL.no hE (runs_undef hE rfl rfl rfl) rfl ?_; clear hE a; intro a hE
        refine WL.no hE (runs_not hE rfl rfl rfl (by decide)) rfl ?_; clear hE a; intro a hE
        refine vP hS hE (Gives.pickT hE rfl rfl rfl) rfl ?_; clear hE a; intro a hE
        refine vP hS hE (Gives.p hE rfl) rfl ?_; clear hE a; intro a hE
        refine WL.nil ?_
        subst hK66
        exact ⟨true, hq61, hE.pick _ ⟨rfl, rfl, trivial⟩, hS⟩
       ·replace hq61 := iteF hg68 hq61
        refine WL.vS hS hE (runs_if hE rfl rfl rfl hg68) (Gives.p hE rfl) rfl ?_; clear hE a; intro a hE
        refine WL.vS hS hE (runs_if hE rfl rfl rfl hg68) (Gives.p hE rfl) rfl ?_; clear hE a; intro a hE
        refine WL.vS hS hE (runs_if hE rfl rfl rfl hg68) (Gives.p hE rfl) rfl ?_; clear hE a; intro a hE
        rcases Bool.eq_false_or_eq_true (decide ((Farenumbers x0.Kind) < 2)) with hg69 | hg69
        ·replace hq61 := iteT hg69 hq61
         refine WL.vS hS hE (runs_if hE rfl rfl rfl hg69) (Gives.fld hE rfl fl43_2) rfl ?_; clear hE a; intro a hE
         refine WL.vS hS hE (runs_if hE rfl rfl rfl hg69) (Gives.loadB hE 0 rfl rfl rfl ty3) rfl ?_; clear hE a; intro a hE
         refine WL.vS hS hE (runs_if hE rfl rfl rfl hg69) (Gives.p hE rfl) rfl ?_; clear hE a; intro a hE
         refine WL.vS hS hE (runs_if hE rfl rfl rfl hg68) (Gives.pickT hE rfl hg69 rfl) rfl ?_; clear hE a; intro a hE
         refine vP hS hE (Gives.pickF hE rfl hg68 rfl) rfl ?_; clear hE a; intro a hE
         refine vP hS hE (Gives.p hE rfl) rfl ?_; clear hE a; intro a hE
         rcases Bool.eq_false_or_eq_true (x0.B != 0) with hg70 | hg70
         ·replace hq61 := iteT hg70 hq61
          refine WL.no hE (runs_not hE rfl rfl rfl (by rw [hg70]; decide)) rfl ?_; clear hE a; intro a hE
          refine WL.no hE (runs_not hE rfl rfl rfl (by rw [hg70]; decide)) rfl ?_; clear hE a; intro a hE
          refine WL.no hE (runs_not hE rfl rfl rfl (by rw [hg70]; decide)) rfl ?_; clear hE a; intro a hE
          refine WL.no hE (runs_undef hE rfl rfl rfl) rfl ?_; clear hE a; intro a hE
          refine WL.no hE (runs_undef hE rfl rfl rfl) rfl ?_; clear hE a; intro a hE
          refine WL.no hE (runs_undef hE rfl rfl rfl) rfl ?_; clear hE a; intro a hE
          refine WL.no hE (runs_undef hE rfl rfl rfl) rfl ?_; clear hE a; intro a hE
          refine WL.no hE (runs_undef hE rfl rfl rfl) rfl ?_; clear hE a; intro a hE
          refine WL.no hE (runs_not hE rfl rfl rfl (by rw [hg70]; decide)) rfl ?_; clear hE a; intro a hE
          refine vP hS hE (Gives.pickT hE rfl hg70 rfl) rfl ?_; clear hE a; intro a hE
          refine vP hS hE (Gives.p hE rfl) rfl ?_; clear hE a; intro a hE
          refine WL.nil ?_
          subst hK66
          exact ⟨true, hq61, hE.pick _ ⟨rfl, rfl, trivial⟩, hS⟩
         ·replace hq61 := iteF hg70 hq61
          refine WL.vS hS hE (runs_if hE rfl rfl rfl hg70) (Gives.p hE rfl) rfl ?_; clear hE a; intro a hE
          refine WL.vS hS hE (runs_if hE rfl rfl rfl hg70) (Gives.p hE rfl) rfl ?_; clear hE a; intro a hE
          refine WL.vS hS hE (runs_if hE rfl rfl rfl hg70) (Gives.p hE rfl) rfl ?_; clear hE a; intro a hE
          rcases Bool.eq_false_or_eq_true ((Farenumbers x0.Kind) == 2) with hg71 | hg71
          ·replace hq61 := iteT hg71 hq61
           refine WL.vS hS hE (runs_if hE rfl rfl rfl hg71) (Gives.fld hE rfl fl43_1) rfl ?_; clear hE a; intro a hE
           refine WL.vS hS hE (runs_if hE rfl rfl rfl hg71) (Gives.loadB hE 0 rfl rfl rfl ty3) rfl ?_; clear hE a; intro a hE
           refine WL.vS hS hE (runs_if hE rfl rfl rfl hg71) (Gives.fld hE rfl fl43_2) rfl ?_; clear hE a; intro a hE
           refine WL.vS hS hE (runs_if hE rfl rfl rfl hg71) (Gives.loadB hE 0 rfl rfl rfl ty3) rfl ?_; clear hE a; intro a hE
           refine WL.vS hS hE (runs_if hE rfl rfl rfl hg71) (Gives.p hE rfl) rfl ?_; clear hE a; intro a hE
           refine WL.vS hS hE (runs_if hE rfl rfl rfl hg70) (Gives.pickT hE rfl hg71 rfl) rfl ?_; clear hE a; intro a hE
           refine vP hS hE (Gives.pickF hE rfl hg70 rfl) rfl ?_; clear hE a; intro a hE
           refine vP hS hE (Gives.p hE rfl) rfl ?_; clear hE a; intro a hE
           refine WL.nil ?_
           subst hK66
           exact ⟨decide (x0.A > x0.B), hq61, hE.pick _ ⟨rfl, rfl, trivial⟩, hS⟩
          ·replace hq61 := iteF hg71 hq61
           refine WL.no hE (runs_not hE rfl rfl rfl (by rw [hg71]; decide)) rfl ?_; clear hE a; intro a hE
           refine WL.no hE (runs_not hE rfl rfl rfl (by rw [hg71]; decide)) rfl ?_; clear hE a; intro a hE
           refine WL.no hE (runs_not hE rfl rfl rfl (by rw [hg71]; decide)) rfl ?_; clear hE a; intro a hE
           refine WL.no hE (runs_not hE rfl rfl rfl (by rw [hg71]; decide)) rfl ?_; clear hE a; intro a hE
           refine WL.no hE (runs_not hE rfl rfl rfl (by rw [hg71]; decide)) rfl ?_; clear hE a; intro a hE
           refine WL.vS hS hE (runs_if hE rfl rfl rfl hg70) (Gives.pickF hE rfl hg71 rfl) rfl ?_; clear hE a; intro a hE
           refine vP hS hE (Gives.pickF hE rfl hg70 rfl) rfl ?_; clear hE a; intro a hE
           refine vP hS hE (Gives.p hE rfl) rfl ?_; clear hE a; intro a hE
           refine WL.nil ?_
           subst hK66
           exact ⟨false, hq61, hE.pick _ ⟨rfl, rfl, trivial⟩, hS⟩
        ·replace hq61 := iteF hg69 hq61
         refine WL.no hE (runs_not hE rfl rfl rfl (by rw [hg69]; decide)) rfl ?_; clear hE a; intro a hE
         refine WL.no hE (runs_not hE rfl rfl rfl (by rw [hg69]; decide)) rfl ?_; clear hE a; intro a hE
         refine WL.no hE (runs_not hE rfl rfl rfl (by rw [hg69]; decide)) rfl ?_; clear hE a; intro a hE
         refine WL.vS hS hE (runs_if hE rfl rfl rfl hg68) (Gives.pickF hE rfl hg69 rfl) rfl ?_; clear hE a; intro a hE
         refine vP hS hE (Gives.pickF hE rfl hg68 rfl) rfl ?_; clear hE a; intro a hE
         refine vP hS hE (Gives.p hE rfl) rfl ?_; clear hE a; intro a hE
         refine WL.vS hS hE (runs_if hE rfl rfl rfl rfl) (Gives.p hE rfl) rfl ?_; clear hE a; intro a hE
         refine WL.vS hS hE (runs_if hE rfl rfl rfl rfl) (Gives.p hE rfl) rfl ?_; clear hE a; intro a hE
         refine WL.vS hS hE (runs_if hE rfl rfl rfl rfl) (Gives.p hE rfl) rfl ?_; clear hE a; intro a hE
         rcases Bool.eq_false_or_eq_true ((Farenumbers x0.Kind) == 2) with hg72 | hg72
         ·replace hq61 := iteT hg72 hq61
          refine WL.vS hS hE (runs_if hE rfl rfl rfl hg72) (Gives.fld hE rfl fl43_1) rfl ?_; clear hE a; intro a hE
          refine WL.vS hS hE (runs_if hE rfl rfl rfl hg72) (Gives.loadB hE 0 rfl rfl rfl ty3) rfl ?_; clear hE a; intro a hE
          refine WL.vS hS hE (runs_if hE rfl rfl rfl hg72) (Gives.fld hE rfl fl43_2) rfl ?_; clear hE a; intro a hE
          refine WL.vS hS hE (runs_if hE rfl rfl rfl hg72) (Gives.loadB hE 0 rfl rfl rfl ty3) rfl ?_; clear hE a; intro a hE
          refine WL.vS hS hE (runs_if hE rfl rfl rfl hg72) (Gives.p hE rfl) rfl ?_; clear hE a; intro a hE
          refine WL.vS hS hE (runs_if hE rfl rfl rfl rfl) (Gives.pickT hE rfl hg72 rfl) rfl ?_; clear hE a; intro a hE
          refine vP hS hE (Gives.pickF hE rfl rfl rfl) rfl ?_; clear hE a; intro a hE
          refine vP hS hE (Gives.p hE rfl) rfl ?_; clear hE a; intro a hE
          refine WL.nil ?_
          subst hK66
          exact ⟨decide (x0.A > x0.B), hq61, hE.pick _ ⟨rfl, rfl, trivial⟩, hS⟩
         ·replace hq61 := iteF hg72 hq61
          refine WL.no hE (runs_not hE rfl rfl rfl (by rw [hg72]; decide)) rfl ?_; clear hE a; intro a hE
          refine WL.no hE (runs_not hE rfl rfl rfl (by rw [hg72]; decide)) rfl ?_; clear hE a; intro a hE
          refine WL.no hE (runs_not hE rfl rfl rfl (by rw [hg72]; decide)) rfl ?_; clear hE a; intro a hE
          refine WL.no hE (runs_not hE rfl rfl rfl (by rw [hg72]; decide)) rfl ?_; clear hE a; intro a hE
          refine WL.no hE (runs_not hE rfl rfl rfl (by rw [hg72]; decide)) rfl ?_; clear hE a; intro a hE
          refine WL.vS hS hE (runs_if hE rfl rfl rfl rfl) (Gives.pickF hE rfl hg72 rfl) rfl ?_; clear hE a; intro a hE
          refine vP hS hE (Gives.pickF hE rfl rfl rfl) rfl ?_; clear hE a; intro a hE
          refine vP hS hE (Gives.p hE rfl) rfl ?_; clear hE a; intro a hE
          refine WL.nil ?_
          subst hK66
          exact ⟨false, hq61, hE.pick _ ⟨rfl, rfl, trivial⟩, hS⟩
      ·replace hq61 := iteF hg67 hq61
       refine WL.no hE (runs_not hE rfl rfl rfl (by rw [hg67]; decide)) rfl ?_; clear hE a; intro a hE
       refine WL.no hE (runs_not hE rfl rfl rfl (by rw [hg67]; decide)) rfl ?_; clear hE a; intro a hE
       refine WL.no hE (runs_not hE rfl rfl rfl (by rw [hg67]; decide)) rfl ?_; clear hE a; intro a hE
       refine vP hS hE (Gives.pickF hE rfl hg67 rfl) rfl ?_; clear hE a; intro a hE
       refine vP hS hE (Gives.p hE rfl) rfl ?_; clear hE a; intro a hE
       refine WL.vS hS hE (runs_if hE rfl rfl rfl rfl) (Gives.p hE rfl) rfl ?_; clear hE a; intro a hE
       refine WL.vS hS hE (runs_if hE rfl rfl rfl rfl) (Gives.p hE rfl) rfl ?_; clear hE a; intro a hE
       refine WL.vS hS hE (runs_if hE rfl rfl rfl rfl) (Gives.p hE rfl) rfl ?_; clear hE a; intro a hE
       rcases Bool.eq_false_or_eq_true (decide ((Farenumbers x0.Kind) < 2)) with hg73 | hg73
       ·replace hq61 := iteT hg73 hq61
        refine WL.vS hS hE (runs_if hE rfl rfl rfl hg73) (Gives.fld hE rfl fl43_2) rfl ?_; clear hE a; intro a hE
        refine WL.vS hS hE (runs_if hE rfl rfl rfl hg73) (Gives.loadB hE 0 rfl rfl rfl ty3) rfl ?_; clear hE a; intro a hE
        refine WL.vS hS hE (runs_if hE rfl rfl rfl hg73) (Gives.p hE rfl) rfl ?_; clear hE a; intro a hE
        refine WL.vS hS hE (runs_if hE rfl rfl rfl rfl) (Gives.pickT hE rfl hg73 rfl) rfl ?_; clear hE a; intro a hE
        refine vP hS hE (Gives.pickF hE rfl rfl rfl) rfl ?_; clear hE a; intro a hE
        refine vP hS hE (Gives.p hE rfl) rfl ?_; clear hE a; intro a hE
        rcases Bool.eq_false_or_eq_true (x0.B != 0) with hg74 | hg74
        ·replace hq61 := iteT hg74 hq61
         refine WL.no hE (runs_not hE rfl rfl rfl (by rw [hg74]; decide)) rfl ?_; clear hE a; intro a hE
         refine WL.no hE (runs_not hE rfl rfl rfl (by rw [hg74]; decide)) rfl ?_; clear hE a; intro a hE
         refine WL.no hE (runs_not hE rfl rfl rfl (by rw [hg74]; decide)) rfl ?_; clear hE a; intro a hE
         refine WL.no hE (runs_undef hE rfl rfl rfl) rfl ?_; clear hE a; intro a hE
         refine WL.no hE (runs_undef hE rfl rfl rfl) rfl ?_; clear hE a; intro a hE
         refine WL.no hE (runs_undef hE rfl rfl rfl) rfl ?_; clear hE a; intro a hE
         refine WL.no hE (runs_undef hE rfl rfl rfl) rfl ?_; clear hE a; intro a hE
         refine WL.no hE (runs_undef hE rfl rfl rfl) rfl ?_; clear hE a; intro a hE
         refine WL.no hE (runs_not hE rfl rfl rfl (by rw [hg74]; decide)) rfl ?_; clear hE a; intro a hE
         refine vP hS hE (Gives.pickT hE rfl hg74 rfl) rfl ?_; clear hE a; intro a hE
         refine vP hS hE (Gives.p hE rfl) rfl ?_; clear hE a; intro a hE
         refine WL.nil ?_
         subst hK66
         exact ⟨true, hq61, hE.pick _ ⟨rfl, rfl, trivial⟩, hS⟩
        ·replace hq61 := iteF hg74 hq61
         refine WL.vS hS hE (runs_if hE rfl rfl rfl hg74) (Gives.p hE rfl) rfl ?_; clear hE a; intro a hE
         refine WL.vS hS hE (runs_if hE rfl rfl rfl hg74) (Gives.p hE rfl) rfl ?_; clear hE a; intro a hE
         refine WL.vS hS hE (runs_if hE rfl rfl rfl hg74) (Gives.p hE rfl) rfl ?_; clear hE a; intro a hE
         rcases Bool.eq_false_or_eq_true ((Farenumbers x0.Kind) == 2) with hg75 | hg75
         ·replace hq61 := iteT hg75 hq61
          refine WL.vS hS hE (runs_if hE rfl rfl rfl hg75) (Gives.fld hE rfl fl43_1) rfl ?_; clear hE a; intro a hE
          refine WL.vS hS hE (runs_if hE rfl rfl rfl hg75) (Gives.loadB hE 0 rfl rfl rfl ty3) rfl ?_; clear hE a; intro a hE
          refine WL.vS hS hE (runs_if hE rfl rfl rfl hg75) (Gives.fld hE rfl fl43_2) rfl ?_; clear hE a; intro a hE
          refine WL.vS hS hE (runs_if hE rfl rfl rfl hg75) (Gives.loadB hE 0 rfl rfl rfl ty3) rfl ?_; clear hE a; intro a hE
          refine WL.vS hS hE (runs_if hE rfl rfl rfl hg75) (Gives.p hE rfl) rfl ?_; clear hE a; intro a hE
          refine WL.vS hS hE (runs_if hE rfl rfl rfl hg74) (Gives.pickT hE rfl hg75 rfl) rfl ?_; clear hE a; intro a hE
          refine vP hS hE (Gives.pickF hE rfl hg74 rfl) rfl ?_; clear hE a; intro a hE
          refine vP hS hE (Gives.p hE rfl) rfl ?_; clear hE a; intro a hE
          refine WL.nil ?_
          subst hK66
          exact ⟨decide (x0.A > x0.B), hq61, hE.pick _ ⟨rfl, rfl, trivial⟩, hS⟩
         ·replace hq61 := iteF hg75 hq61
          refine WL.no hE (runs_not hE rfl rfl rfl (by rw [hg75]; decide)) rfl ?_; clear hE a; intro a hE
          refine WL.no hE (runs_not hE rfl rfl rfl (by rw [hg75]; decide)) rfl ?_; clear hE a; intro a hE
          refine WL.no hE (runs_not hE rfl rfl rfl (by rw [hg75]; decide)) rfl ?_; clear hE a; intro a hE
          refine WL.no hE (runs_not hE rfl rfl rfl (by rw [hg75]; decide)) rfl ?_; clear hE a; intro a hE
          refine WL.no hE (runs_not hE rfl rfl rfl (by rw [hg75]; decide)) rfl ?_; clear hE a; intro a hE
          refine WL.vS hS hE (runs_if hE rfl rfl rfl hg74) (Gives.pickF hE rfl hg75 rfl) rfl ?_; clear hE a; intro a hE
          refine vP hS hE (Gives.pickF hE rfl hg74 rfl) rfl ?_; clear hE a; intro a hE
          refine vP hS hE (Gives.p hE rfl) rfl ?_; clear hE a; intro a hE
          refine WL.nil ?_
          subst hK66
          exact ⟨false, hq61, hE.pick _ ⟨rfl, rfl, trivial⟩, hS⟩
       ·replace hq61 := iteF hg73 hq61
        refine WL.no hE (runs_not hE rfl rfl rfl (by rw [hg73]; decide)) rfl ?_; clear hE a; intro a hE
        refine WL.no hE (runs_not hE rfl rfl rfl (by rw [hg73]; decide)) rfl ?_; clear hE a; intro a hE
        refine WL.no hE (runs_not hE rfl rfl rfl (by rw [hg73]; decide)) rfl ?_; clear hE a; intro a hE
        refine WL.vS hS hE (runs_if hE rfl rfl rfl rfl) (Gives.pickF hE rfl hg73 rfl) rfl ?_; clear hE a; intro a hE
        refine vP hS hE (Gives.pickF hE rfl rfl rfl) rfl ?_; clear hE a; intro a hE
        refine vP hS hE (Gives.p hE rfl) rfl ?_; clear hE a; intro a hE
        refine WL.vS hS hE (runs_if hE rfl rfl rfl rfl) (Gives.p hE rfl) rfl ?_; clear hE a; intro a hE
        refine WL.vS hS hE (runs_if hE rfl rfl rfl rfl) (Gives.p hE rfl) rfl ?_; clear hE a; intro a hE
        refine WL.vS hS hE (runs_if hE rfl rfl rfl rfl) (Gives.p hE rfl) rfl ?_; clear hE a; intro a hE
        rcases Bool.eq_false_or_eq_true ((Farenumbers x0.Kind) == 2) with hg76 | hg76
        ·replace hq61 := iteT hg76 hq61
         refine WL.vS hS hE (runs_if hE rfl rfl rfl hg76) (Gives.fld hE rfl fl43_1) rfl ?_; clear hE a; intro a hE
         refine WL.vS hS hE (runs_if hE rfl rfl rfl hg76) (Gives.loadB hE 0 rfl rfl rfl ty3) rfl ?_; clear hE a; intro a hE
         refine WL.vS hS hE (runs_if hE rfl rfl rfl hg76) (Gives.fld hE rfl fl43_2) rfl ?_; clear hE a; intro a hE
         refine WL.vS hS hE (runs_if hE rfl rfl rfl hg76) (Gives.loadB hE 0 rfl rfl rfl ty3) rfl ?_; clear hE a; intro a hE
         refine WL.vS hS hE (runs_if hE rfl rfl rfl hg76) (Gives.p hE rfl) rfl ?_; clear hE a; intro a hE
         refine WL.vS hS hE (runs_if hE rfl rfl rfl rfl) (Gives.pickT hE rfl hg76 rfl) rfl ?_; clear hE a; intro a hE
         refine vP hS hE (Gives.pickF hE rfl rfl rfl) rfl ?_; clear hE a; intro a hE
         refine vP hS hE (Gives.p hE rfl) rfl ?_; clear hE a; intro a hE
         refine WL.nil ?_
         subst hK66
         exact ⟨decide (x0.A > x0.B), hq61, hE.pick _ ⟨rfl, rfl, trivial⟩, hS⟩
        ·replace hq61 := iteF hg76 hq61
         refine WL.no hE (runs_not hE rfl rfl rfl (by rw [hg76]; decide)) rfl ?_; clear hE a; intro a hE
         refine WL.no hE (runs_not hE rfl rfl rfl (by rw [hg76]; decide)) rfl ?_; clear hE a; intro a hE
         refine WL.no hE (runs_not hE rfl rfl rfl (by rw [hg76]; decide)) rfl ?_; clear hE a; intro a hE
         refine WL.no hE (runs_not hE rfl rfl rfl (by rw [hg76]; decide)) rfl ?_; clear hE a; intro a hE
         refine WL.no hE (runs_not hE rfl rfl rfl (by rw [hg76]; decide)) rfl ?_; clear hE a; intro a hE
         refine WL.vS hS hE (runs_if hE rfl rfl rfl rfl) (Gives.pickF hE rfl hg76 rfl) rfl ?_; clear hE a; intro a hE
         refine vP hS hE (Gives.pickF hE rfl rfl rfl) rfl ?_; clear hE a; intro a hE
         refine vP hS hE (Gives.p hE rfl) rfl ?_; clear hE a; intro a hE
         refine WL.nil ?_
         subst hK66
         exact ⟨false, hq61, hE.pick _ ⟨rfl, rfl, trivial⟩, hS⟩
     ·clear hE hS a w; rintro a w ⟨q65, rfl, hE, hS⟩
      refine W.cond hE rfl (fun hc77 => ?_) (fun hc77 => ?_)
      ·replace hr := iteT hc77 hr
       refine W.seq (W.region ?_)
       refine vP hS hE (Gives.p hE rfl) rfl ?_; clear hE a; intro a hE
       refine WL.nil ?_
       refine W.ret ?_
       refine finG (fn := Tryz.f53) (rs := [.tmp 2]) (vs := [_]) hE rfl ⟨rfl, trivial⟩ ?_
       obtain rfl := Option.some.inj hr
       replace hS := hS.tail
       exact ⟨rfl, hS⟩
      ·replace hr := iteF hc77 hr
       refine W.seq ?_
       obtain ⟨q79, hq78, hr⟩ := bndS hr
       refine W.cut (fun a w => ∃ (q82 : Bool), q82 = q79 ∧ Rep a 99 [(1, .pointer (some ⟨b51, 0, none⟩)), (54, .bool q82)] ∧ St w s (pt b51 (.cells #[.int .i64 x0.Kind, .int .i64 x0.A, .int .i64 x0.B, .slice a0_0 x0.Kids.length c0_0] 43 (0, 0)) :: R)) ?_ ?_
       ·refine W.gen fun K83 hK83 => ?_
        refine W.region ?_
        refine vP hS hE (Gives.fld hE rfl fl43_0) rfl ?_; clear hE a; intro a hE
        refine vP hS hE (Gives.loadB hE 0 rfl rfl rfl ty3) rfl ?_; clear hE a; intro a hE
        refine vP hS hE (Gives.p hE rfl) rfl ?_; clear hE a; intro a hE
        refine vP hS hE (Gives.p hE rfl) rfl ?_; clear hE a; intro a hE
        rcases Bool.eq_false_or_eq_true (x0.Kind == 9) with hg84 | hg84
        ·replace hq78 := iteT hg84 hq78
         refine WL.vS hS hE (runs_if hE rfl rfl rfl hg84) (Gives.fld hE rfl fl43_3) rfl ?_; clear hE a; intro a hE
         refine WL.vS hS hE (runs_if hE rfl rfl rfl hg84) (Gives.loadB hE 0 rfl rfl rfl ty41) rfl ?_; clear hE a; intro a hE
         refine WL.vS hS hE (runs_if hE rfl rfl rfl hg84) (Gives.len hE rfl sl41) rfl ?_; clear hE a; intro a hE
         refine WL.vS hS hE (runs_if hE rfl rfl rfl hg84) (Gives.p hE rfl) rfl ?_; clear hE a; intro a hE
         refine vP hS hE (Gives.pickT hE rfl hg84 rfl) rfl ?_; clear hE a; intro a hE
         refine vP hS hE (Gives.p hE rfl) rfl ?_; clear hE a; intro a hE
         rcases Bool.eq_false_or_eq_true (((x0.Kids).length : Int) != 1) with hg85 | hg85
         ·replace hq78 := iteT hg85 hq78
          refine WL.no hE (runs_not hE rfl rfl rfl (by rw [hg85]; decide)) rfl ?_; clear hE a; intro a hE
          refine WL.no hE (runs_not hE rfl rfl rfl (by rw [hg85]; decide)) rfl ?_; clear hE a; intro a hE
          refine WL.no hE (runs_not hE rfl rfl rfl (by rw [hg85]; decide)) rfl ?_; clear hE a; intro a hE
          refine WL.no hE (runs_not hE rfl rfl rfl (by rw [hg85]; decide)) rfl ?_; clear hE a; intro a hE
          refine WL.no hE (runs_undef hE rfl rfl rfl) rfl ?_; clear hE a; intro a hE
          refine WL.no hE (runs_undef hE rfl rfl rfl) rfl ?_; clear hE a; intro a hE
          refine WL.no hE (runs_undef hE rfl rfl rfl) rfl ?_; clear hE a; intro a hE
          refine WL.no hE (runs_undef hE rfl rfl rfl) rfl ?_; clear hE a; intro a hE
          refine WL.no hE (runs_not hE rfl rfl rfl (by rw [hg85]; decide)) rfl ?_; clear hE a; intro a hE
          refine vP hS hE (Gives.pickT hE rfl hg85 rfl) rfl ?_; clear hE a; intro a hE
          refine vP hS hE (Gives.p hE rfl) rfl ?_; clear hE a; intro a hE
          refine WL.no hE (runs_not hE rfl rfl rfl (by decide)) rfl ?_; clear hE a; intro a hE
          refine WL.no hE (runs_not hE rfl rfl rfl (by decide)) rfl ?_; clear hE a; intro a hE
          refine WL.no hE (runs_not hE rfl rfl rfl (by decide)) rfl ?_; clear hE a; intro a hE
          refine WL.no hE (runs_not hE rfl rfl rfl (by decide)) rfl ?_; clear hE a; intro a hE
          refine WL.no hE (runs_undef hE rfl rfl rfl) rfl ?_; clear hE a; intro a hE
          refine WL.no hE (runs_undef hE rfl rfl rfl) rfl ?_; clear hE a; intro a hE
          refine WL.no hE (runs_undef hE rfl rfl rfl) rfl ?_; clear hE a; intro a hE
          refine WL.no hE (runs_undef hE rfl rfl rfl) rfl ?_; clear hE a; intro a hE
          refine WL.no hE (runs_not hE rfl rfl rfl (by decide)) rfl ?_; clear hE a; intro a hE
          refine vP hS hE (Gives.pickT hE rfl rfl rfl) rfl ?_; clear hE a; intro a hE
          refine vP hS hE (Gives.p hE rfl) rfl ?_; clear hE a; intro a hE
          refine WL.nil ?_
          subst hK83
          exact ⟨true, hq78, hE.pick _ ⟨rfl, rfl, trivial⟩, hS⟩
         ·replace hq78 := iteF hg85 hq78
          refine WL.vS hS hE (runs_if hE rfl rfl rfl hg85) (Gives.fld hE rfl fl43_0) rfl ?_; clear hE a; intro a hE
          refine WL.vS hS hE (runs_if hE rfl rfl rfl hg85) (Gives.loadB hE 0 rfl rfl rfl ty3) rfl ?_; clear hE a; intro a hE
          refine WL.vS hS hE (runs_if hE rfl rfl rfl hg85) (Gives.p hE rfl) rfl ?_; clear hE a; intro a hE
          refine WL.vS hS hE (runs_if hE rfl rfl rfl hg85) (Gives.p hE rfl) rfl ?_; clear hE a; intro a hE
          rcases Bool.eq_false_or_eq_true (decide (x0.Kind > 9)) with hg86 | hg86
          ·replace hq78 := iteT hg86 hq78
           refine WL.vS hS hE (runs_if hE rfl rfl rfl hg86) (Gives.fld hE rfl fl43_3) rfl ?_; clear hE a; intro a hE
           refine WL.vS hS hE (runs_if hE rfl rfl rfl hg86) (Gives.loadB hE 0 rfl rfl rfl ty41) rfl ?_; clear hE a; intro a hE
           refine WL.vS hS hE (runs_if hE rfl rfl rfl hg86) (Gives.len hE rfl sl41) rfl ?_; clear hE a; intro a hE
           refine WL.vS hS hE (runs_if hE rfl rfl rfl hg86) (Gives.p hE rfl) rfl ?_; clear hE a; intro a hE
           refine WL.vS hS hE (runs_if hE rfl rfl rfl hg85) (Gives.pickT hE rfl hg86 rfl) rfl ?_; clear hE a; intro a hE
           refine vP hS hE (Gives.pickF hE rfl hg85 rfl) rfl ?_; clear hE a; intro a hE
           refine vP hS hE (Gives.p hE rfl) rfl ?_; clear hE a; intro a hE
           rcases Bool.eq_false_or_eq_true (decide (((x0.Kids).length : Int) < 2)) with hg87 | hg87
           ·replace hq78 := iteT hg87 hq78
            refine WL.no hE (runs_not hE rfl rfl rfl (by rw [hg87]; decide)) rfl ?_; clear hE a; intro a hE
            refine WL.no hE (runs_not hE rfl rfl rfl (by rw [hg87]; decide)) rfl ?_; clear hE a; intro a hE
            refine WL.no hE (runs_not hE rfl rfl rfl (by rw [hg87]; decide)) rfl ?_; clear hE a; intro a hE
            refine WL.no hE (runs_not hE rfl rfl rfl (by rw [hg87]; decide)) rfl ?_; clear hE a; intro a hE
            refine WL.no hE (runs_undef hE rfl rfl rfl) rfl ?_; clear hE a; intro a hE
            refine WL.no hE (runs_undef hE rfl rfl rfl) rfl ?_; clear hE a; intro a hE
            refine WL.no hE (runs_undef hE rfl rfl rfl) rfl ?_; clear hE a; intro a hE
            refine WL.no hE (runs_undef hE rfl rfl rfl) rfl ?_; clear hE a; intro a hE
            refine WL.no hE (runs_not hE rfl rfl rfl (by rw [hg87]; decide)) rfl ?_; clear hE a; intro a hE
            refine vP hS hE (Gives.pickT hE rfl hg87 rfl) rfl ?_; clear hE a; intro a hE
            refine vP hS hE (Gives.p hE rfl) rfl ?_; clear hE a; intro a hE
            refine WL.nil ?_
            subst hK83
            exact ⟨true, hq78, hE.pick _ ⟨rfl, rfl, trivial⟩, hS⟩
           ·replace hq78 := iteF hg87 hq78
            refine WL.vS hS hE (runs_if hE rfl rfl rfl hg87) (Gives.fld hE rfl fl43_0) rfl ?_; clear hE a; intro a hE
            refine WL.vS hS hE (runs_if hE rfl rfl rfl hg87) (Gives.loadB hE 0 rfl rfl rfl ty3) rfl ?_; clear hE a; intro a hE
            refine WL.vS hS hE (runs_if hE rfl rfl rfl hg87) (Gives.p hE rfl) rfl ?_; clear hE a; intro a hE
            refine WL.vS hS hE (runs_if hE rfl rfl rfl hg87) (Gives.p hE rfl) rfl ?_; clear hE a; intro a hE
            rcases Bool.eq_false_or_eq_true (decide (x0.Kind < 9)) with hg88 | hg88
            ·replace hq78 := iteT hg88 hq78
             refine WL.vS hS hE (runs_if hE rfl rfl rfl hg88) (Gives.fld hE rfl fl43_3) rfl ?_; clear hE a; intro a hE
             refine WL.vS hS hE (runs_if hE rfl rfl rfl hg88) (Gives.loadB hE 0 rfl rfl rfl ty41) rfl ?_; clear hE a; intro a hE
             refine WL.vS hS hE (runs_if hE rfl rfl rfl hg88) (Gives.len hE rfl sl41) rfl ?_; clear hE a; intro a hE
             refine WL.vS hS hE (runs_if hE rfl rfl rfl hg88) (Gives.p hE rfl) rfl ?_; clear hE a; intro a hE
             refine WL.vS hS hE (runs_if hE rfl rfl rfl hg87) (Gives.pickT hE rfl hg88 rfl) rfl ?_; clear hE a; intro a hE
             refine vP hS hE (Gives.pickF hE rfl hg87 rfl) rfl ?_; clear hE a; intro a hE
             refine vP hS hE (Gives.p hE rfl) rfl ?_; clear hE a; intro a hE
             refine WL.nil ?_
             subst hK83
             exact ⟨decide (((x0.Kids).length : Int) > 0), hq78, hE.pick _ ⟨rfl, rfl, trivial⟩, hS⟩
            ·replace hq78 := iteF hg88 hq78
             refine WL.no hE (runs_not hE rfl rfl rfl (by rw [hg88]; decide)) rfl ?_; clear hE a; intro a hE
             refine WL.no hE (runs_not hE rfl rfl rfl (by rw [hg88]; decide)) rfl ?_; clear hE a; intro a hE
             refine WL.no hE (runs_not hE rfl rfl rfl (by rw [hg88]; decide)) rfl ?_; clear hE a; intro a hE
             refine WL.no hE (runs_not hE rfl rfl rfl (by rw [hg88]; decide)) rfl ?_; clear hE a; intro a hE
             refine WL.vS hS hE (runs_if hE rfl rfl rfl hg87) (Gives.pickF hE rfl hg88 rfl) rfl ?_; clear hE a; intro a hE
             refine vP hS hE (Gives.pickF hE rfl hg87 rfl) rfl ?_; clear hE a; intro a hE
             refine vP hS hE (Gives.p hE rfl) rfl ?_; clear hE a; intro a hE
             refine WL.nil ?_
             subst hK83
             exact ⟨false, hq78, hE.pick _ ⟨rfl, rfl, trivial⟩, hS⟩
          ·replace hq78 := iteF hg86 hq78
           refine WL.no hE (runs_not hE rfl rfl rfl (by rw [hg86]; decide)) rfl ?_; clear hE a; intro a hE
           refine WL.no hE (runs_not hE rfl rfl rfl (by rw [hg86]; decide)) rfl ?_; clear hE a; intro a hE
           refine WL.no hE (runs_not hE rfl rfl rfl (by rw [hg86]; decide)) rfl ?_; clear hE a; intro a hE
           refine WL.no hE (runs_not hE rfl rfl rfl (by rw [hg86]; decide)) rfl ?_; clear hE a; intro a hE
           refine WL.vS hS hE (runs_if hE rfl rfl rfl hg85) (Gives.pickF hE rfl hg86 rfl) rfl ?_; clear hE a; intro a hE
           refine vP hS hE (Gives.pickF hE rfl hg85 rfl) rfl ?_; clear hE a; intro a hE
           refine vP hS hE (Gives.p hE rfl) rfl ?_; clear hE a; intro a hE
           refine WL.vS hS hE (runs_if hE rfl rfl rfl rfl) (Gives.fld hE rfl fl43_0) rfl ?_; clear hE a; intro a hE
           refine WL.vS hS hE (runs_if hE rfl rfl rfl rfl) (Gives.loadB hE 0 rfl rfl rfl ty3) rfl ?_; clear hE a; intro a hE
           refine WL.vS hS hE (runs_if hE rfl rfl rfl rfl) (Gives.p hE rfl) rfl ?_; clear hE a; intro a hE
           refine WL.vS hS hE (runs_if hE rfl rfl rfl rfl) (Gives.p hE rfl) rfl ?_; clear hE a; intro a hE
           rcases Bool.eq_false_or_eq_true (decide (x0.Kind < 9)) with hg89 | hg89
           ·replace hq78 := iteT hg89 hq78
            refine WL.vS hS hE (runs_if hE rfl rfl rfl hg89) (Gives.fld hE rfl fl43_3) rfl ?_; clear hE a; intro a hE
            refine WL.vS hS hE (runs_if hE rfl rfl rfl hg89) (Gives.loadB hE 0 rfl rfl rfl ty41) rfl ?_; clear hE a; intro a hE
            refine WL.vS hS hE (runs_if hE rfl rfl rfl hg89) (Gives.len hE rfl sl41) rfl ?_; clear hE a; intro a hE
            refine WL.vS hS hE (runs_if hE rfl rfl rfl hg89) (Gives.p hE rfl) rfl ?_; clear hE a; intro a hE
            refine WL.vS hS hE (runs_if hE rfl rfl rfl rfl) (Gives.pickT hE rfl hg89 rfl) rfl ?_; clear hE a; intro a hE
            refine vP hS hE (Gives.pickF hE rfl rfl rfl) rfl ?_; clear hE a; intro a hE
            refine vP hS hE (Gives.p hE rfl) rfl ?_; clear hE a; intro a hE
            refine WL.nil ?_
            subst hK83
            exact ⟨decide (((x0.Kids).length : Int) > 0), hq78, hE.pick _ ⟨rfl, rfl, trivial⟩, hS⟩
           ·replace hq78 := iteF hg89 hq78
            refine WL.no hE (runs_not hE rfl rfl rfl (by rw [hg89]; decide)) rfl ?_; clear hE a; intro a hE
            refine WL.no hE (runs_not hE rfl rfl rfl (by rw [hg89]; decide)) rfl ?_; clear hE a; intro a hE
            refine WL.no hE (runs_not hE rfl rfl rfl (by rw [hg89]; decide)) rfl ?_; clear hE a; intro a hE
            refine WL.no hE (runs_not hE rfl rfl rfl (by rw [hg89]; decide)) rfl ?_; clear hE a; intro a hE
            refine WL.vS hS hE (runs_if hE rfl rfl rfl rfl) (Gives.pickF hE rfl hg89 rfl) rfl ?_; clear hE a; intro a hE
            refine vP hS hE (Gives.pickF hE rfl rfl rfl) rfl ?_; clear hE a; intro a hE
            refine vP hS hE (Gives.p hE rfl) rfl ?_; clear hE a; intro a hE
            refine WL.nil ?_
            subst hK83
            exact ⟨false, hq78, hE.pick _ ⟨rfl, rfl, trivial⟩, hS⟩
        ·replace hq78 := iteF hg84 hq78
         refine WL.no hE (runs_not hE rfl rfl rfl (by rw [hg84]; decide)) rfl ?_; clear hE a; intro a hE
         refine WL.no hE (runs_not hE rfl rfl rfl (by rw [hg84]; decide)) rfl ?_; clear hE a; intro a hE
         refine WL.no hE (runs_not hE rfl rfl rfl (by rw [hg84]; decide)) rfl ?_; clear hE a; intro a hE
         refine WL.no hE (runs_not hE rfl rfl rfl (by rw [hg84]; decide)) rfl ?_; clear hE a; intro a hE
         refine vP hS hE (Gives.pickF hE rfl hg84 rfl) rfl ?_; clear hE a; intro a hE
         refine vP hS hE (Gives.p hE rfl) rfl ?_; clear hE a; intro a hE
         refine WL.vS hS hE (runs_if hE rfl rfl rfl rfl) (Gives.fld hE rfl fl43_0) rfl ?_; clear hE a; intro a hE
         refine WL.vS hS hE (runs_if hE rfl rfl rfl rfl) (Gives.loadB hE 0 rfl rfl rfl ty3) rfl ?_; clear hE a; intro a hE
         refine WL.vS hS hE (runs_if hE rfl rfl rfl rfl) (Gives.p hE rfl) rfl ?_; clear hE a; intro a hE
         refine WL.vS hS hE (runs_if hE rfl rfl rfl rfl) (Gives.p hE rfl) rfl ?_; clear hE a; intro a hE
         rcases Bool.eq_false_or_eq_true (decide (x0.Kind > 9)) with hg90 | hg90
         ·replace hq78 := iteT hg90 hq78
          refine WL.vS hS hE (runs_if hE rfl rfl rfl hg90) (Gives.fld hE rfl fl43_3) rfl ?_; clear hE a; intro a hE
          refine WL.vS hS hE (runs_if hE rfl rfl rfl hg90) (Gives.loadB hE 0 rfl rfl rfl ty41) rfl ?_; clear hE a; intro a hE
          refine WL.vS hS hE (runs_if hE rfl rfl rfl hg90) (Gives.len hE rfl sl41) rfl ?_; clear hE a; intro a hE
          refine WL.vS hS hE (runs_if hE rfl rfl rfl hg90) (Gives.p hE rfl) rfl ?_; clear hE a; intro a hE
          refine WL.vS hS hE (runs_if hE rfl rfl rfl rfl) (Gives.pickT hE rfl hg90 rfl) rfl ?_; clear hE a; intro a hE
          refine vP hS hE (Gives.pickF hE rfl rfl rfl) rfl ?_; clear hE a; intro a hE
          refine vP hS hE (Gives.p hE rfl) rfl ?_; clear hE a; intro a hE
          rcases Bool.eq_false_or_eq_true (decide (((x0.Kids).length : Int) < 2)) with hg91 | hg91
          ·replace hq78 := iteT hg91 hq78
           refine WL.no hE (runs_not hE rfl rfl rfl (by rw [hg91]; decide)) rfl ?_; clear hE a; intro a hE
           refine WL.no hE (runs_not hE rfl rfl rfl (by rw [hg91]; decide)) rfl ?_; clear hE a; intro a hE
           refine WL.no hE (runs_not hE rfl rfl rfl (by rw [hg91]; decide)) rfl ?_; clear hE a; intro a hE
           refine WL.no hE (runs_not hE rfl rfl rfl (by rw [hg91]; decide)) rfl ?_; clear hE a; intro a hE
           refine WL.no hE (runs_undef hE rfl rfl rfl) rfl ?_; clear hE a; intro a hE
           refine WL.no hE (runs_undef hE rfl rfl rfl) rfl ?_; clear hE a; intro a hE
           refine WL.no hE (runs_undef hE rfl rfl rfl) rfl ?_; clear hE a; intro a hE
           refine WL.no hE (runs_undef hE rfl rfl rfl) rfl ?_; clear hE a; intro a hE
           refine WL.no hE (runs_not hE rfl rfl rfl (by rw [hg91]; decide)) rfl ?_; clear hE a; intro a hE
           refine vP hS hE (Gives.pickT hE rfl hg91 rfl) rfl ?_; clear hE a; intro a hE
           refine vP hS hE (Gives.p hE rfl) rfl ?_; clear hE a; intro a hE
           refine WL.nil ?_
           subst hK83
           exact ⟨true, hq78, hE.pick _ ⟨rfl, rfl, trivial⟩, hS⟩
          ·replace hq78 := iteF hg91 hq78
           refine WL.vS hS hE (runs_if hE rfl rfl rfl hg91) (Gives.fld hE rfl fl43_0) rfl ?_; clear hE a; intro a hE
           refine WL.vS hS hE (runs_if hE rfl rfl rfl hg91) (Gives.loadB hE 0 rfl rfl rfl ty3) rfl ?_; clear hE a; intro a hE
           refine WL.vS hS hE (runs_if hE rfl rfl rfl hg91) (Gives.p hE rfl) rfl ?_; clear hE a; intro a hE
           refine WL.vS hS hE (runs_if hE rfl rfl rfl hg91) (Gives.p hE rfl) rfl ?_; clear hE a; intro a hE
           rcases Bool.eq_false_or_eq_true (decide (x0.Kind < 9)) with hg92 | hg92
           ·replace hq78 := iteT hg92 hq78
            refine WL.vS hS hE (runs_if hE rfl rfl rfl hg92) (Gives.fld hE rfl fl43_3) rfl ?_; clear hE a; intro a hE
            refine WL.vS hS hE (runs_if hE rfl rfl rfl hg92) (Gives.loadB hE 0 rfl rfl rfl ty41) rfl ?_; clear hE a; intro a hE
            refine WL.vS hS hE (runs_if hE rfl rfl rfl hg92) (Gives.len hE rfl sl41) rfl ?_; clear hE a; intro a hE
            refine WL.vS hS hE (runs_if hE rfl rfl rfl hg92) (Gives.p hE rfl) rfl ?_; clear hE a; intro a hE
            refine WL.vS hS hE (runs_if hE rfl rfl rfl hg91) (Gives.pickT hE rfl hg92 rfl) rfl ?_; clear hE a; intro a hE
            refine vP hS hE (Gives.pickF hE rfl hg91 rfl) rfl ?_; clear hE a; intro a hE
            refine vP hS hE (Gives.p hE rfl) rfl ?_; clear hE a; intro a hE
            refine WL.nil ?_
            subst hK83
            exact ⟨decide (((x0.Kids).length : Int) > 0), hq78, hE.pick _ ⟨rfl, rfl, trivial⟩, hS⟩
           ·replace hq78 := iteF hg92 hq78
            refine WL.no hE (runs_not hE rfl rfl rfl (by rw [hg92]; decide)) rfl ?_; clear hE a; intro a hE
            refine WL.no hE (runs_not hE rfl rfl rfl (by rw [hg92]; decide)) rfl ?_; clear hE a; intro a hE
            refine WL.no hE (runs_not hE rfl rfl rfl (by rw [hg92]; decide)) rfl ?_; clear hE a; intro a hE
            refine WL.no hE (runs_not hE rfl rfl rfl (by rw [hg92]; decide)) rfl ?_; clear hE a; intro a hE
            refine WL.vS hS hE (runs_if hE rfl rfl rfl hg91) (Gives.pickF hE rfl hg92 rfl) rfl ?_; clear hE a; intro a hE
            refine vP hS hE (Gives.pickF hE rfl hg91 rfl) rfl ?_; clear hE a; intro a hE
            refine vP hS hE (Gives.p hE rfl) rfl ?_; clear hE a; intro a hE
            refine WL.nil ?_
            subst hK83
            exact ⟨false, hq78, hE.pick _ ⟨rfl, rfl, trivial⟩, hS⟩
         ·replace hq78 := iteF hg90 hq78
          refine WL.no hE (runs_not hE rfl rfl rfl (by rw [hg90]; decide)) rfl ?_; clear hE a; intro a hE
          refine WL.no hE (runs_not hE rfl rfl rfl (by rw [hg90]; decide)) rfl ?_; clear hE a; intro a hE
          refine WL.no hE (runs_not hE rfl rfl rfl (by rw [hg90]; decide)) rfl ?_; clear hE a; intro a hE
          refine WL.no hE (runs_not hE rfl rfl rfl (by rw [hg90]; decide)) rfl ?_; clear hE a; intro a hE
          refine WL.vS hS hE (runs_if hE rfl rfl rfl rfl) (Gives.pickF hE rfl hg90 rfl) rfl ?_; clear hE a; intro a hE
          refine vP hS hE (Gives.pickF hE rfl rfl rfl) rfl ?_; clear hE a; intro a hE
          refine vP hS hE (Gives.p hE rfl) rfl ?_; clear hE a; intro a hE
          refine WL.vS hS hE (runs_if hE rfl rfl rfl rfl) (Gives.fld hE rfl fl43_0) rfl ?_; clear hE a; intro a hE
          refine WL.vS hS hE (runs_if hE rfl rfl rfl rfl) (Gives.loadB hE 0 rfl rfl rfl ty3) rfl ?_; clear hE a; intro a hE
          refine WL.vS hS hE (runs_if hE rfl rfl rfl rfl) (Gives.p hE rfl) rfl ?_; clear hE a; intro a hE
          refine WL.vS hS hE (runs_if hE rfl rfl rfl rfl) (Gives.p hE rfl) rfl ?_; clear hE a; intro a hE
          rcases Bool.eq_false_or_eq_true (decide (x0.Kind < 9)) with hg93 | hg93
          ·replace hq78 := iteT hg93 hq78
           refine WL.vS hS hE (runs_if hE rfl rfl rfl hg93) (Gives.fld hE rfl fl43_3) rfl ?_; clear hE a; intro a hE
           refine WL.vS hS hE (runs_if hE rfl rfl rfl hg93) (Gives.loadB hE 0 rfl rfl rfl ty41) rfl ?_; clear hE a; intro a hE
           refine WL.vS hS hE (runs_if hE rfl rfl rfl hg93) (Gives.len hE rfl sl41) rfl ?_; clear hE a; intro a hE
           refine WL.vS hS hE (runs_if hE rfl rfl rfl hg93) (Gives.p hE rfl) rfl ?_; clear hE a; intro a hE
           refine WL.vS hS hE (runs_if hE rfl rfl rfl rfl) (Gives.pickT hE rfl hg93 rfl) rfl ?_; clear hE a; intro a hE
           refine vP hS hE (Gives.pickF hE rfl rfl rfl) rfl ?_; clear hE a; intro a hE
           refine vP hS hE (Gives.p hE rfl) rfl ?_; clear hE a; intro a hE
           refine WL.nil ?_
           subst hK83
           exact ⟨decide (((x0.Kids).length : Int) > 0), hq78, hE.pick _ ⟨rfl, rfl, trivial⟩, hS⟩
          ·replace hq78 := iteF hg93 hq78
           refine WL.no hE (runs_not hE rfl rfl rfl (by rw [hg93]; decide)) rfl ?_; clear hE a; intro a hE
           refine WL.no hE (runs_not hE rfl rfl rfl (by rw [hg93]; decide)) rfl ?_; clear hE a; intro a hE
           refine WL.no hE (runs_not hE rfl rfl rfl (by rw [hg93]; decide)) rfl ?_; clear hE a; intro a hE
           refine WL.no hE (runs_not hE rfl rfl rfl (by rw [hg93]; decide)) rfl ?_; clear hE a; intro a hE
           refine WL.vS hS hE (runs_if hE rfl rfl rfl rfl) (Gives.pickF hE rfl hg93 rfl) rfl ?_; clear hE a; intro a hE
           refine vP hS hE (Gives.pickF hE rfl rfl rfl) rfl ?_; clear hE a; intro a hE
           refine vP hS hE (Gives.p hE rfl) rfl ?_; clear hE a; intro a hE
           refine WL.nil ?_
           subst hK83
           exact ⟨false, hq78, hE.pick _ ⟨rfl, rfl, trivial⟩, hS⟩
       ·clear hE hS a w; rintro a w ⟨q82, rfl, hE, hS⟩
        refine W.cond hE rfl (fun hc94 => ?_) (fun hc94 => ?_)
        ·replace hr := iteT hc94 hr
         refine W.seq (W.region ?_)
         refine vP hS hE (Gives.p hE rfl) rfl ?_; clear hE a; intro a hE
         refine WL.nil ?_
         refine W.ret ?_
         refine finG (fn := Tryz.f53) (rs := [.tmp 2]) (vs := [_]) hE rfl ⟨rfl, trivial⟩ ?_
         obtain rfl := Option.some.inj hr
         replace hS := hS.tail
         exact ⟨rfl, hS⟩
        ·replace hr := iteF hc94 hr
         refine W.skip ?_
         refine W.seq ?_
         refine W.seq (W.region ?_)
         refine vP hS hE (Gives.fld hE rfl fl43_3) rfl ?_; clear hE a; intro a hE
         refine vP hS hE (Gives.loadB hE 0 rfl rfl rfl ty41) rfl ?_; clear hE a; intro a hE
         refine vP hS hE (Gives.len hE rfl sl41) rfl ?_; clear hE a; intro a hE
         refine vP hS hE (Gives.p hE rfl) rfl ?_; clear hE a; intro a hE
         refine WL.nil ?_
         obtain ⟨q96, hq95, hr⟩ := bindS hr
         refine W.cut (fun a w => (.next ()) = q96 ∧ Rep a 99 [] ∧ St w s (pt b51 (.cells #[.int .i64 x0.Kind, .int .i64 x0.A, .int .i64 x0.B, .slice a0_0 x0.Kids.length c0_0] 43 (0, 0)) :: R)) ?_ ?_
         ·refine W.block ?_
          refine W.loop (fun m a w => ∃ (rest99 : List FareCond) (k97 : Nat), rest99.length = m ∧ x0.Kids.drop k97 = rest99 ∧ FareCondnode.loop1 self_FareCondnode rest99 = some q96 ∧ Rep a 99 [(87, .slice a0_0 x0.Kids.length c0_0), (88, .int .i64 ((x0.Kids).length : Int)), (89, .int .i64 ((k97 : Nat) : Int))] ∧ St w s (pt b51 (.cells #[.int .i64 x0.Kind, .int .i64 x0.A, .int .i64 x0.B, .slice a0_0 x0.Kids.length c0_0] 43 (0, 0)) :: R)) (m := x0.Kids.length) ⟨x0.Kids, 0, rfl, rfl, hq95, hE.pick _ ⟨rfl, rfl, rfl, trivial⟩, hS⟩ ?_
          clear hE hS a w hq95; rintro m103 a w ⟨rest99, k97, rfl, hd100, hq95, hE, hS⟩
          refine W.gen fun K106 hK106 => ?_
          rcases rest99 with _ | ⟨x98, rest99⟩
          ·have hlt101 := drop_nil hd100
           refine W.seq (W.region ?_)
           refine vP hS hE (Gives.p hE rfl) rfl ?_; clear hE a; intro a hE
           refine WL.nil ?_
           refine W.seq ?_
           refine W.condF hE rfl (decide_eq_false (by omega)) ?_
           subst hK106
           refine W.exit rfl ?_
           exact ⟨Option.some.inj hq95, hE.pick _ trivial, hS⟩
          ·obtain ⟨hlt101, hx102, hd100⟩ := drop_cons hd100
           rw [FareCondnode.loop1] at hq95
           refine W.seq (W.region ?_)
           refine vP hS hE (Gives.p hE rfl) rfl ?_; clear hE a; intro a hE
           refine WL.nil ?_
           refine W.seq ?_
           refine W.condT hE rfl (decide_eq_true (by omega)) ?_
           refine W.skip ?_
           refine W.seq ?_
           refine W.block ?_
           refine W.seq (W.region ?_)
           obtain ⟨cs107, hl108, hR109, hat110⟩ := h0_0.at hx102
           obtain ⟨a111, c112, rfl, h113⟩ := hR109.unf
           refine vP hS hE (Gives.idx hE k97 rfl rfl sl41 rfl hlt101 (h0_0.aok hlt101)) rfl ?_; clear hE a; intro a hE
           refine vP hS hE (Gives.loadA hE rfl (fun w h => hat110 w _ h) ty43) rfl ?_; clear hE a; intro a hE
           refine WL.alloc hE hS (runs_plain rfl) zr43 rfl ?_; clear hE hS a w; intro b114 a w hE hS
           refine WL.storeI hE hS 0 rfl [.int .i64 x98.Kind, .int .i64 x98.A, .int .i64 x98.B, .slice a111 x98.Kids.length c112] (runs_plain rfl) rfl rfl rfl ty43 rfl rfl rfl rfl ?_; clear hE hS a w; intro a w hE hS
           refine WL.nil ?_
           refine W.seq (W.region ?_)
           refine vP hS hE (Gives.loadBA hE 0 rfl rfl ty43) rfl ?_; clear hE a; intro a hE
           obtain ⟨q115, hq116, hq95⟩ := bindS hq95
           have hc_ := ih_FareCondnode hS h113 hq116
           refine WL.fnq hE (hc_) (runs_plain rfl) bd53 rfl rfl rfl ?_
           clear hE hS hc_; rintro e w ⟨rfl, hS⟩; refine ⟨_, rfl, ?_⟩; clear a; intro a hE
           refine vP hS hE (Gives.p hE rfl) rfl ?_; clear hE a; intro a hE
           refine WL.nil ?_
           refine W.seq (W.region ?_)
           refine vP hS hE (Gives.p hE rfl) rfl ?_; clear hE a; intro a hE
           refine vP hS hE (Gives.p hE rfl) rfl ?_; clear hE a; intro a hE
           refine WL.nil ?_
           refine W.cond hE rfl (fun hc117 => ?_) (fun hc117 => ?_)
           ·replace hq95 := iteT hc117 hq95
            refine W.seq (W.region ?_)
            refine vP hS hE (Gives.p hE rfl) rfl ?_; clear hE a; intro a hE
            refine vP hS hE (Gives.p hE rfl) rfl ?_; clear hE a; intro a hE
            refine WL.nil ?_
            refine W.ret ?_
            subst hK106
            rw [← Option.some.inj hq95] at hr
            dsimp only at hr
            refine finG (fn := Tryz.f53) (rs := [.tmp 2]) (vs := [_]) hE rfl ⟨rfl, trivial⟩ ?_
            obtain rfl := Option.some.inj hr
            replace hS := hS.tail
            replace hS := hS.tail
            exact ⟨rfl, hS⟩
           ·replace hq95 := iteF hc117 hq95
            refine W.skip ?_
            refine W.region ?_
            refine vP hS hE (Gives.inc hE rfl (by have := h0_0.small; omega)) rfl ?_; clear hE a; intro a hE
            refine vP hS hE (Gives.p hE rfl) rfl ?_; clear hE a; intro a hE
            refine WL.nil ?_
            replace hS := hS.tail
            subst hK106
            exact ⟨rest99.length, Nat.lt_succ_self _, rest99, k97 + 1, rfl, hd100, hq95, hE.pick _ ⟨rfl, rfl, rfl, trivial⟩, hS⟩
         ·clear hE hS a w; rintro a w ⟨rfl, hE, hS⟩
          dsimp only at hr
          refine W.seq (W.region ?_)
          refine vP hS hE (Gives.p hE rfl) rfl ?_; clear hE a; intro a hE
          refine WL.nil ?_
          refine W.ret ?_
          refine finG (fn := Tryz.f53) (rs := [.tmp 2]) (vs := [_]) hE rfl ⟨rfl, trivial⟩ ?_
          obtain rfl := Option.some.inj hr
          replace hS := hS.tail
          exact ⟨rfl, hS⟩
set_option maxHeartbeats 8000000 in
theorem FareCondcheck_ok {fu : Nat}  {w : World} {s : Sg} {R : List HP} {x0 : FareCond} {a0_0 : Option Addr} {c0_0 : Nat} (hS : St w s (R)) (h0_0 : Sl 4 RFareCond s a0_0 c0_0 x0.Kids) {r : Int} (hr : FareCondcheck fu x0 = some r) :
  Calls Tryz.prog 28 [.agg (List.toArray [.int .i64 x0.Kind, .int .i64 x0.A, .int .i64 x0.B, .slice a0_0 x0.Kids.length c0_0])].toArray w (fun e w => e = .returned (.int .i64 r) ∧ St w s (R)) := by
 refine enter Tryz.func28 rfl rfl rfl fun a hE => ?_
 rw [FareCondcheck] at hr
 refine W.seq (W.region ?_)
 refine WL.box hE hS (runs_plain rfl) rfl rfl rfl ?_; clear hE hS a w; intro b51 a w hE hS
 refine vP hS hE (Gives.p hE rfl) rfl ?_; clear hE a; intro a hE
 refine WL.nil ?_
 refine W.seq ?_
 refine W.seq (W.region ?_)
 refine vP hS hE (Gives.loadBA hE 0 rfl rfl ty43) rfl ?_; clear hE a; intro a hE
 obtain ⟨q52, hq53, hr⟩ := bindS hr
 have hc_ := FareCondsize_ok hS h0_0 hq53
 refine WL.fnq hE (hc_) (runs_plain rfl) bd52 rfl rfl rfl ?_
 clear hE hS hc_; rintro e w ⟨rfl, hS⟩; refine ⟨_, rfl, ?_⟩; clear a; intro a hE
 refine vP hS hE (Gives.p hE rfl) rfl ?_; clear hE a; intro a hE
 refine vP hS hE (Gives.p hE rfl) rfl ?_; clear hE a; intro a hE
 refine vP hS hE (Gives.p hE rfl) rfl ?_; clear hE a; intro a hE
 refine vP hS hE (Gives.p hE rfl) rfl ?_; clear hE a; intro a hE
 refine vP hS hE (Gives.p hE rfl) rfl ?_; clear hE a; intro a hE
 refine WL.nil ?_
 refine W.seq ?_
 obtain ⟨q55, hq54, hr⟩ := bndS hr
 refine W.cut (fun a w => ∃ (q58 : Bool), q58 = q55 ∧ Rep a 18 [(1, .pointer (some ⟨b51, 0, none⟩)), (15, .bool q58)] ∧ St w s (pt b51 (.cells #[.int .i64 x0.Kind, .int .i64 x0.A, .int .i64 x0.B, .slice a0_0 x0.Kids.length c0_0] 43 (0, 0)) :: R)) ?_ ?_
 ·refine W.gen fun K59 hK59 => ?_
  refine W.region ?_
  refine vP hS hE (Gives.p hE rfl) rfl ?_; clear hE a; intro a hE
  refine vP hS hE (Gives.p hE rfl) rfl ?_; clear hE a; intro a hE
  refine vP hS hE (Gives.p hE rfl) rfl ?_; clear hE a; intro a hE
  rcases Bool.eq_false_or_eq_true (decide (q52.1 > 40)) with hg60 | hg60
  ·replace hq54 := iteT hg60 hq54
   refine WL.no hE (runs_not hE rfl rfl rfl (by rw [hg60]; decide)) rfl ?_; clear hE a; intro a hE
   refine WL.no hE (runs_not hE rfl rfl rfl (by rw [hg60]; decide)) rfl ?_; clear hE a; intro a hE
   refine vP hS hE (Gives.pickT hE rfl hg60 rfl) rfl ?_; clear hE a; intro a hE
   refine WL.nil ?_
   subst hK59
   exact ⟨true, hq54, hE.pick _ ⟨rfl, rfl, trivial⟩, hS⟩
  ·replace hq54 := iteF hg60 hq54
   refine WL.vS hS hE (runs_if hE rfl rfl rfl hg60) (Gives.p hE rfl) rfl ?_; clear hE a; intro a hE
   refine WL.vS hS hE (runs_if hE rfl rfl rfl hg60) (Gives.p hE rfl) rfl ?_; clear hE a; intro a hE
   refine vP hS hE (Gives.pickF hE rfl hg60 rfl) rfl ?_; clear hE a; intro a hE
   refine WL.nil ?_
   subst hK59
   exact ⟨decide (q52.2 > 6), hq54, hE.pick _ ⟨rfl, rfl, trivial⟩, hS⟩
 ·clear hE hS a w; rintro a w ⟨q58, rfl, hE, hS⟩
  refine W.cond hE rfl (fun hc61 => ?_) (fun hc61 => ?_)
  ·replace hr := iteT hc61 hr
   refine W.seq (W.region ?_)
   refine vP hS hE (Gives.p hE rfl) rfl ?_; clear hE a; intro a hE
   refine WL.nil ?_
   refine W.ret ?_
   refine finG (fn := Tryz.f28) (rs := [.tmp 2]) (vs := [_]) hE rfl ⟨rfl, trivial⟩ ?_
   obtain rfl := Option.some.inj hr
   replace hS := hS.tail
   exact ⟨rfl, hS⟩
  ·replace hr := iteF hc61 hr
   refine W.skip ?_
   refine W.seq (W.region ?_)
   refine vP hS hE (Gives.loadBA hE 0 rfl rfl ty43) rfl ?_; clear hE a; intro a hE
   obtain ⟨q62, hq63, hr⟩ := bindS hr
   have hc_ := FareCondnode_ok hS h0_0 hq63
   refine WL.fnq hE (hc_) (runs_plain rfl) bd53 rfl rfl rfl ?_
   clear hE hS hc_; rintro e w ⟨rfl, hS⟩; refine ⟨_, rfl, ?_⟩; clear a; intro a hE
   refine vP hS hE (Gives.p hE rfl) rfl ?_; clear hE a; intro a hE
   refine WL.nil ?_
   refine W.ret ?_
   refine finG (fn := Tryz.f28) (rs := [.tmp 2]) (vs := [_]) hE rfl ⟨rfl, trivial⟩ ?_
   obtain rfl := Option.some.inj hr
   replace hS := hS.tail
   exact ⟨rfl, hS⟩
set_option maxHeartbeats 8000000 in
theorem FareCheckTariff_ok {fu : Nat}  {w : World} {s : Sg} {R : List HP} {x0 : FareTariff} {a0_0 : Option Addr} {c0_0 : Nat} {a0_1 : Option Addr} {c0_1 : Nat} (hS : St w s (R)) (h0_0 : Sl 2 RFareBand s a0_0 c0_0 x0.Bands) (h0_1 : Sl 7 RFareRule s a0_1 c0_1 x0.Rules) {r : Int} (hr : FareCheckTariff fu x0 = some r) :
  Calls Tryz.prog 12 [.agg (List.toArray [.bool x0.ByKm, .slice a0_0 x0.Bands.length c0_0, .int .i64 x0.Round, .slice a0_1 x0.Rules.length c0_1])].toArray w (fun e w => e = .returned (.int .i64 r) ∧ St w s (R)) := by
 refine enter Tryz.func12 rfl rfl rfl fun a hE => ?_
 rw [FareCheckTariff] at hr
 refine W.seq (W.region ?_)
 refine WL.box hE hS (runs_plain rfl) rfl rfl rfl ?_; clear hE hS a w; intro b51 a w hE hS
 refine vP hS hE (Gives.p hE rfl) rfl ?_; clear hE a; intro a hE
 refine WL.nil ?_
 refine W.seq ?_
 refine W.seq ?_
 obtain ⟨q53, hq52, hr⟩ := bndS hr
 refine W.cut (fun a w => ∃ (q56 : Bool), q56 = q53 ∧ Rep a 97 [(1, .pointer (some ⟨b51, 0, none⟩)), (19, .bool q56)] ∧ St w s (pt b51 (.cells #[.bool x0.ByKm, .slice a0_0 x0.Bands.length c0_0, .int .i64 x0.Round, .slice a0_1 x0.Rules.length c0_1] 25 (0, 0)) :: R)) ?_ ?_
 ·refine W.gen fun K57 hK57 => ?_
  refine W.region ?_
  refine vP hS hE (Gives.fld hE rfl fl25_1) rfl ?_; clear hE a; intro a hE
  refine vP hS hE (Gives.loadB hE 0 rfl rfl rfl ty22) rfl ?_; clear hE a; intro a hE
  refine vP hS hE (Gives.len hE rfl sl22) rfl ?_; clear hE a; intro a hE
  refine WL.fnq hE (Farewithin_ok hS  rfl (r := Farewithin ((x0.Bands).length : Int) 1 8)) (runs_plain rfl) bd27 rfl rfl rfl ?_
  clear hE hS; rintro e w ⟨rfl, hS⟩; refine ⟨_, rfl, ?_⟩; clear a; intro a hE
  refine vP hS hE (Gives.p hE rfl) rfl ?_; clear hE a; intro a hE
  refine vP hS hE (Gives.p hE rfl) rfl ?_; clear hE a; intro a hE
  rcases Bool.eq_false_or_eq_true (!(Farewithin ((x0.Bands).length : Int) 1 8)) with hg58 | hg58
  ·replace hq52 := iteT hg58 hq52
   refine WL.no hE (runs_not hE rfl rfl rfl (by rw [hg58]; decide)) rfl ?_; clear hE a; intro a hE
   refine WL.no hE (runs_not hE rfl rfl rfl (by rw [hg58]; decide)) rfl ?_; clear hE a; intro a hE
   refine WL.no hE (runs_not hE rfl rfl rfl (by rw [hg58]; decide)) rfl ?_; clear hE a; intro a hE
   refine WL.no hE (runs_not hE rfl rfl rfl (by rw [hg58]; decide)) rfl ?_; clear hE a; intro a hE
   refine vP hS hE (Gives.pickT hE rfl hg58 rfl) rfl ?_; clear hE a; intro a hE
   refine WL.nil ?_
   subst hK57
   exact ⟨true, hq52, hE.pick _ ⟨rfl, rfl, trivial⟩, hS⟩
  ·replace hq52 := iteF hg58 hq52
   refine WL.vS hS hE (runs_if hE rfl rfl rfl hg58) (Gives.fld hE rfl fl25_3) rfl ?_; clear hE a; intro a hE
   refine WL.vS hS hE (runs_if hE rfl rfl rfl hg58) (Gives.loadB hE 0 rfl rfl rfl ty23) rfl ?_; clear hE a; intro a hE
   refine WL.vS hS hE (runs_if hE rfl rfl rfl hg58) (Gives.len hE rfl sl23) rfl ?_; clear hE a; intro a hE
   refine WL.vS hS hE (runs_if hE rfl rfl rfl hg58) (Gives.p hE rfl) rfl ?_; clear hE a; intro a hE
   refine vP hS hE (Gives.pickF hE rfl hg58 rfl) rfl ?_; clear hE a; intro a hE
   refine WL.nil ?_
   subst hK57
   exact ⟨decide (((x0.Rules).length : Int) > 20), hq52, hE.pick _ ⟨rfl, rfl, trivial⟩, hS⟩
 ·clear hE hS a w; rintro a w ⟨q56, rfl, hE, hS⟩
  refine W.cond hE rfl (fun hc59 => ?_) (fun hc59 => ?_)
  ·replace hr := iteT hc59 hr
   refine W.seq (W.region ?_)
   refine vP hS hE (Gives.p hE rfl) rfl ?_; clear hE a; intro a hE
   refine WL.nil ?_
   refine W.ret ?_
   refine finG (fn := Tryz.f12) (rs := [.tmp 2]) (vs := [_]) hE rfl ⟨rfl, trivial⟩ ?_
   obtain rfl := Option.some.inj hr
   replace hS := hS.tail
   exact ⟨rfl, hS⟩
  ·replace hr := iteF hc59 hr
   refine W.skip ?_
   refine W.seq ?_
   refine W.seq (W.region ?_)
   refine vP hS hE (Gives.fld hE rfl fl25_1) rfl ?_; clear hE a; intro a hE
   refine vP hS hE (Gives.loadB hE 0 rfl rfl rfl ty22) rfl ?_; clear hE a; intro a hE
   refine vP hS hE (Gives.len hE rfl sl22) rfl ?_; clear hE a; intro a hE
   refine vP hS hE (Gives.p hE rfl) rfl ?_; clear hE a; intro a hE
   refine WL.nil ?_
   obtain ⟨q61, hq60, hr⟩ := bindS hr
   refine W.cut (fun a w => (.next ()) = q61 ∧ Rep a 97 [(1, .pointer (some ⟨b51, 0, none⟩))] ∧ St w s (pt b51 (.cells #[.bool x0.ByKm, .slice a0_0 x0.Bands.length c0_0, .int .i64 x0.Round, .slice a0_1 x0.Rules.length c0_1] 25 (0, 0)) :: R)) ?_ ?_
   ·refine W.block ?_
    refine W.loop (fun m a w => ∃ (rest64 : List FareBand) (k62 : Nat), rest64.length = m ∧ x0.Bands.drop k62 = rest64 ∧ FareCheckTariff.loop1 x0 rest64 k62 = some q61 ∧ Rep a 97 [(1, .pointer (some ⟨b51, 0, none⟩)), (21, .slice a0_0 x0.Bands.length c0_0), (22, .int .i64 ((x0.Bands).length : Int)), (23, .int .i64 ((k62 : Nat) : Int))] ∧ St w s (pt b51 (.cells #[.bool x0.ByKm, .slice a0_0 x0.Bands.length c0_0, .int .i64 x0.Round, .slice a0_1 x0.Rules.length c0_1] 25 (0, 0)) :: R)) (m := x0.Bands.length) ⟨x0.Bands, 0, rfl, rfl, hq60, hE.pick _ ⟨rfl, rfl, rfl, rfl, trivial⟩, hS⟩ ?_
    clear hE hS a w hq60; rintro m68 a w ⟨rest64, k62, rfl, hd65, hq60, hE, hS⟩
    refine W.gen fun K71 hK71 => ?_
    rcases rest64 with _ | ⟨x63, rest64⟩
    ·have hlt66 := drop_nil hd65
     refine W.seq (W.region ?_)
     refine vP hS hE (Gives.p hE rfl) rfl ?_; clear hE a; intro a hE
     refine WL.nil ?_
     refine W.seq ?_
     refine W.condF hE rfl (decide_eq_false (by omega)) ?_
     subst hK71
     refine W.exit rfl ?_
     exact ⟨Option.some.inj hq60, hE.pick _ ⟨rfl, trivial⟩, hS⟩
    ·obtain ⟨hlt66, hx67, hd65⟩ := drop_cons hd65
     rw [FareCheckTariff.loop1] at hq60
     refine W.seq (W.region ?_)
     refine vP hS hE (Gives.p hE rfl) rfl ?_; clear hE a; intro a hE
     refine WL.nil ?_
     refine W.seq ?_
     refine W.condT hE rfl (decide_eq_true (by omega)) ?_
     refine W.skip ?_
     refine W.seq ?_
     refine W.block ?_
     refine W.seq (W.region ?_)
     refine vP hS hE (Gives.p hE rfl) rfl ?_; clear hE a; intro a hE
     obtain ⟨cs72, hl73, hR74, hat75⟩ := h0_0.at hx67
     subst hR74
     refine vP hS hE (Gives.idx hE k62 rfl rfl sl22 rfl hlt66 (h0_0.aok hlt66)) rfl ?_; clear hE a; intro a hE
     refine vP hS hE (Gives.loadA hE rfl (fun w h => hat75 w _ h) ty40) rfl ?_; clear hE a; intro a hE
     refine WL.alloc hE hS (runs_plain rfl) zr40 rfl ?_; clear hE hS a w; intro b76 a w hE hS
     refine vP hS hE (Gives.p hE rfl) rfl ?_; clear hE a; intro a hE
     refine WL.storeI hE hS 0 rfl (FareBand.cells x63) (runs_plain rfl) rfl rfl rfl ty40 rfl rfl rfl rfl ?_; clear hE hS a w; intro a w hE hS
     refine WL.nil ?_
     refine W.seq ?_
     refine W.seq ?_
     obtain ⟨q78, hq77, hq60⟩ := bndS hq60
     refine W.cut (fun a w => ∃ (q81 : Bool), q81 = q78 ∧ Rep a 97 [(1, .pointer (some ⟨b51, 0, none⟩)), (3, .int .i64 ((k62 : Nat) : Int)), (4, .pointer (some ⟨b76, 0, none⟩)), (21, .slice a0_0 x0.Bands.length c0_0), (22, .int .i64 ((x0.Bands).length : Int)), (23, .int .i64 ((k62 : Nat) : Int)), (37, .bool q81)] ∧ St w s (pt b76 (.cells (FareBand.cells x63).toArray 40 (0, 0)) :: pt b51 (.cells #[.bool x0.ByKm, .slice a0_0 x0.Bands.length c0_0, .int .i64 x0.Round, .slice a0_1 x0.Rules.length c0_1] 25 (0, 0)) :: R)) ?_ ?_
     ·refine W.gen fun K82 hK82 => ?_
      refine W.region ?_
      refine vP hS hE (Gives.fld hE rfl fl40_0) rfl ?_; clear hE a; intro a hE
      refine vP hS hE (Gives.loadB hE 0 rfl rfl rfl ty3) rfl ?_; clear hE a; intro a hE
      refine WL.fnq hE (Farewithin_ok hS  rfl (r := Farewithin x63.Upto 1 1000)) (runs_plain rfl) bd27 rfl rfl rfl ?_
      clear hE hS; rintro e w ⟨rfl, hS⟩; refine ⟨_, rfl, ?_⟩; clear a; intro a hE
      refine vP hS hE (Gives.p hE rfl) rfl ?_; clear hE a; intro a hE
      refine vP hS hE (Gives.p hE rfl) rfl ?_; clear hE a; intro a hE
      rcases Bool.eq_false_or_eq_true (!(Farewithin x63.Upto 1 1000)) with hg83 | hg83
      ·replace hq77 := iteT hg83 hq77
       refine WL.no hE (runs_not hE rfl rfl rfl (by rw [hg83]; decide)) rfl ?_; clear hE a; intro a hE
       refine WL.no hE (runs_not hE rfl rfl rfl (by rw [hg83]; decide)) rfl ?_; clear hE a; intro a hE
       refine WL.no hE (runs_not hE rfl rfl rfl (by rw [hg83]; decide)) rfl ?_; clear hE a; intro a hE
       refine WL.no hE (runs_not hE rfl rfl rfl (by rw [hg83]; decide)) rfl ?_; clear hE a; intro a hE
       refine vP hS hE (Gives.pickT hE rfl hg83 rfl) rfl ?_; clear hE a; intro a hE
       refine WL.nil ?_
       subst hK82
       exact ⟨true, hq77, hE.pick _ ⟨rfl, rfl, rfl, rfl, rfl, rfl, rfl, trivial⟩, hS⟩
      ·replace hq77 := iteF hg83 hq77
       refine WL.vS hS hE (runs_if hE rfl rfl rfl hg83) (Gives.fld hE rfl fl40_1) rfl ?_; clear hE a; intro a hE
       refine WL.vS hS hE (runs_if hE rfl rfl rfl hg83) (Gives.loadB hE 0 rfl rfl rfl ty3) rfl ?_; clear hE a; intro a hE
       refine WL.fnq hE (Farewithin_ok hS  rfl (r := Farewithin x63.Price 0 100000)) (runs_if hE rfl rfl rfl hg83) bd27 rfl rfl rfl ?_
       clear hE hS; rintro e w ⟨rfl, hS⟩; refine ⟨_, rfl, ?_⟩; clear a; intro a hE
       refine WL.vS hS hE (runs_if hE rfl rfl rfl hg83) (Gives.p hE rfl) rfl ?_; clear hE a; intro a hE
       refine vP hS hE (Gives.pickF hE rfl hg83 rfl) rfl ?_; clear hE a; intro a hE
       refine WL.nil ?_
       subst hK82
       exact ⟨!(Farewithin x63.Price 0 100000), hq77, hE.pick _ ⟨rfl, rfl, rfl, rfl, rfl, rfl, rfl, trivial⟩, hS⟩
     ·clear hE hS a w; rintro a w ⟨q81, rfl, hE, hS⟩
      refine W.cond hE rfl (fun hc84 => ?_) (fun hc84 => ?_)
      ·replace hq60 := iteT hc84 hq60
       refine W.seq (W.region ?_)
       refine vP hS hE (Gives.p hE rfl) rfl ?_; clear hE a; intro a hE
       refine WL.nil ?_
       refine W.ret ?_
       subst hK71
       rw [← Option.some.inj hq60] at hr
       dsimp only at hr
       refine finG (fn := Tryz.f12) (rs := [.tmp 2]) (vs := [_]) hE rfl ⟨rfl, trivial⟩ ?_
       obtain rfl := Option.some.inj hr
       replace hS := hS.tail
       replace hS := hS.tail
       exact ⟨rfl, hS⟩
      ·replace hq60 := iteF hc84 hq60
       refine W.skip ?_
       refine W.seq ?_
       obtain ⟨q86, hq85, hq60⟩ := bindS hq60
       refine W.cut (fun a w => ∃ (q89 : Bool), q89 = q86 ∧ Rep a 97 [(1, .pointer (some ⟨b51, 0, none⟩)), (21, .slice a0_0 x0.Bands.length c0_0), (22, .int .i64 ((x0.Bands).length : Int)), (23, .int .i64 ((k62 : Nat) : Int)), (63, .bool q89)] ∧ St w s (pt b76 (.cells (FareBand.cells x63).toArray 40 (0, 0)) :: pt b51 (.cells #[.bool x0.ByKm, .slice a0_0 x0.Bands.length c0_0, .int .i64 x0.Round, .slice a0_1 x0.Rules.length c0_1] 25 (0, 0)) :: R)) ?_ ?_
       ·refine W.gen fun K90 hK90 => ?_
        refine W.regionQ (C := fun w => St w s (pt b76 (.cells (FareBand.cells x63).toArray 40 (0, 0)) :: pt b51 (.cells #[.bool x0.ByKm, .slice a0_0 x0.Bands.length c0_0, .int .i64 x0.Round, .slice a0_1 x0.Rules.length c0_1] 25 (0, 0)) :: R)) mixed (by kernel_rfl) hS.drew ?_
        refine qP hE (Gives.p hE rfl) rfl ?_; clear hE a; intro a hE
        refine qP hE (Gives.p hE rfl) rfl ?_; clear hE a; intro a hE
        refine qP hE (Gives.p hE rfl) rfl ?_; clear hE a; intro a hE
        rcases Bool.eq_false_or_eq_true (decide (((k62 : Nat) : Int) > 0)) with hg91 | hg91
        ·replace hq85 := iteT hg91 hq85
         refine QL.v hE (runs_if hE rfl rfl rfl hg91) (Gives.fld hE rfl fl40_0) rfl ?_; clear hE a; intro a hE
         refine QL.v hE (runs_if hE rfl rfl rfl hg91) (Gives.loadB hE 0 rfl rfl rfl ty3) rfl ?_; clear hE a; intro a hE
         refine QL.v hE (runs_if hE rfl rfl rfl hg91) (Gives.fld hE rfl fl25_1) rfl ?_; clear hE a; intro a hE
         refine QL.v hE (runs_if hE rfl rfl rfl hg91) (Gives.loadB hE 1 rfl rfl rfl ty22) rfl ?_; clear hE a; intro a hE
         refine QL.v hE (runs_if hE rfl rfl rfl hg91) (Gives.p hE rfl) rfl ?_; clear hE a; intro a hE
         refine QL.v hE (runs_if hE rfl rfl rfl hg91) (Gives.p hE rfl) rfl ?_; clear hE a; intro a hE
         obtain ⟨x92, hx93, hq85⟩ := bindS hq85
         obtain ⟨hi94, hlt95, hy96⟩ := gx_some hx93
         obtain ⟨cs97, hl98, hR99, hat100⟩ := h0_0.at hy96
         subst hR99
         refine QL.v hE (runs_if hE rfl rfl rfl hg91) (Gives.idx hE (w64 (((k62 : Nat) : Int) - 1)).toNat rfl rfl sl22 hi94 hlt95 (h0_0.aok hlt95)) rfl ?_; clear hE a; intro a hE
         refine QL.v hE (runs_if hE rfl rfl rfl hg91) (Gives.fld hE rfl fl40_0) rfl ?_; clear hE a; intro a hE
         refine QL.v hE (runs_if hE rfl rfl rfl hg91) (Gives.load1 hE rfl (fun w h => (hat100 w _ h).one rfl) ty3) rfl ?_; clear hE a; intro a hE
         refine QL.v hE (runs_if hE rfl rfl rfl hg91) (Gives.p hE rfl) rfl ?_; clear hE a; intro a hE
         refine QL.v hE (runs_if hE rfl rfl rfl hg91) (Gives.p hE rfl) rfl ?_; clear hE a; intro a hE
         rcases Bool.eq_false_or_eq_true (decide (x63.Upto ≤ x92.Upto)) with hg101 | hg101
         ·replace hq85 := iteT hg101 hq85
          refine QL.no hE (runs_not hE rfl rfl rfl (by rw [hg101]; decide)) rfl ?_; clear hE a; intro a hE
          refine QL.no hE (runs_not hE rfl rfl rfl (by rw [hg101]; decide)) rfl ?_; clear hE a; intro a hE
          refine QL.no hE (runs_not hE rfl rfl rfl (by rw [hg101]; decide)) rfl ?_; clear hE a; intro a hE
          refine QL.no hE (runs_not hE rfl rfl rfl (by rw [hg101]; decide)) rfl ?_; clear hE a; intro a hE
          refine QL.no hE (runs_not hE rfl rfl rfl (by rw [hg101]; decide)) rfl ?_; clear hE a; intro a hE
          refine QL.no hE (runs_not hE rfl rfl rfl (by rw [hg101]; decide)) rfl ?_; clear hE a; intro a hE
          refine QL.no hE (runs_not hE rfl rfl rfl (by rw [hg101]; decide)) rfl ?_; clear hE a; intro a hE
          refine QL.no hE (runs_not hE rfl rfl rfl (by rw [hg101]; decide)) rfl ?_; clear hE a; intro a hE
          refine QL.no hE (runs_not hE rfl rfl rfl (by rw [hg101]; decide)) rfl ?_; clear hE a; intro a hE
          refine QL.no hE (runs_not hE rfl rfl rfl (by rw [hg101]; decide)) rfl ?_; clear hE a; intro a hE
          refine QL.v hE (runs_if hE rfl rfl rfl hg91) (Gives.pickT hE rfl hg101 rfl) rfl ?_; clear hE a; intro a hE
          refine qP hE (Gives.pickT hE rfl hg91 rfl) rfl ?_; clear hE a; intro a hE
          refine QL.nil ?_; clear hS w; intro w hS
          subst hK90
          exact ⟨true, Option.some.inj hq85, hE.pick _ ⟨rfl, rfl, rfl, rfl, rfl, trivial⟩, hS⟩
         ·replace hq85 := iteF hg101 hq85
          refine QL.v hE (runs_if hE rfl rfl rfl hg101) (Gives.fld hE rfl fl40_1) rfl ?_; clear hE a; intro a hE
          refine QL.v hE (runs_if hE rfl rfl rfl hg101) (Gives.loadB hE 0 rfl rfl rfl ty3) rfl ?_; clear hE a; intro a hE
          refine QL.v hE (runs_if hE rfl rfl rfl hg101) (Gives.fld hE rfl fl25_1) rfl ?_; clear hE a; intro a hE
          refine QL.v hE (runs_if hE rfl rfl rfl hg101) (Gives.loadB hE 1 rfl rfl rfl ty22) rfl ?_; clear hE a; intro a hE
          refine QL.v hE (runs_if hE rfl rfl rfl hg101) (Gives.p hE rfl) rfl ?_; clear hE a; intro a hE
          refine QL.v hE (runs_if hE rfl rfl rfl hg101) (Gives.p hE rfl) rfl ?_; clear hE a; intro a hE
          obtain ⟨x102, hx103, hq85⟩ := bindS hq85
          obtain ⟨hi104, hlt105, hy106⟩ := gx_some hx103
          obtain ⟨cs107, hl108, hR109, hat110⟩ := h0_0.at hy106
          subst hR109
          refine QL.v hE (runs_if hE rfl rfl rfl hg101) (Gives.idx hE (w64 (((k62 : Nat) : Int) - 1)).toNat rfl rfl sl22 hi104 hlt105 (h0_0.aok hlt105)) rfl ?_; clear hE a; intro a hE
          refine QL.v hE (runs_if hE rfl rfl rfl hg101) (Gives.fld hE rfl fl40_1) rfl ?_; clear hE a; intro a hE
          refine QL.v hE (runs_if hE rfl rfl rfl hg101) (Gives.load1 hE rfl (fun w h => (hat110 w _ h).one rfl) ty3) rfl ?_; clear hE a; intro a hE
          refine QL.v hE (runs_if hE rfl rfl rfl hg101) (Gives.p hE rfl) rfl ?_; clear hE a; intro a hE
          refine QL.v hE (runs_if hE rfl rfl rfl hg91) (Gives.pickF hE rfl hg101 rfl) rfl ?_; clear hE a; intro a hE
          refine qP hE (Gives.pickT hE rfl hg91 rfl) rfl ?_; clear hE a; intro a hE
          refine QL.nil ?_; clear hS w; intro w hS
          subst hK90
          exact ⟨decide (x63.Price < x102.Price), Option.some.inj hq85, hE.pick _ ⟨rfl, rfl, rfl, rfl, rfl, trivial⟩, hS⟩
        ·replace hq85 := iteF hg91 hq85
         refine QL.no hE (runs_not hE rfl rfl rfl (by rw [hg91]; decide)) rfl ?_; clear hE a; intro a hE
         refine QL.no hE (runs_not hE rfl rfl rfl (by rw [hg91]; decide)) rfl ?_; clear hE a; intro a hE
         refine QL.no hE (runs_not hE rfl rfl rfl (by rw [hg91]; decide)) rfl ?_; clear hE a; intro a hE
         refine QL.no hE (runs_not hE rfl rfl rfl (by rw [hg91]; decide)) rfl ?_; clear hE a; intro a hE
         refine QL.no hE (runs_not hE rfl rfl rfl (by rw [hg91]; decide)) rfl ?_; clear hE a; intro a hE
         refine QL.no hE (runs_not hE rfl rfl rfl (by rw [hg91]; decide)) rfl ?_; clear hE a; intro a hE
         refine QL.no hE (runs_not hE rfl rfl rfl (by rw [hg91]; decide)) rfl ?_; clear hE a; intro a hE
         refine QL.no hE (runs_not hE rfl rfl rfl (by rw [hg91]; decide)) rfl ?_; clear hE a; intro a hE
         refine QL.no hE (runs_not hE rfl rfl rfl (by rw [hg91]; decide)) rfl ?_; clear hE a; intro a hE
         refine QL.no hE (runs_not hE rfl rfl rfl (by rw [hg91]; decide)) rfl ?_; clear hE a; intro a hE
         refine QL.no hE (runs_not hE rfl rfl rfl (by rw [hg91]; decide)) rfl ?_; clear hE a; intro a hE
         refine QL.no hE (runs_undef hE rfl rfl rfl) rfl ?_; clear hE a; intro a hE
         refine QL.no hE (runs_undef hE rfl rfl rfl) rfl ?_; clear hE a; intro a hE
         refine QL.no hE (runs_undef hE rfl rfl rfl) rfl ?_; clear hE a; intro a hE
         refine QL.no hE (runs_undef hE rfl rfl rfl) rfl ?_; clear hE a; intro a hE
         refine QL.no hE (runs_undef hE rfl rfl rfl) rfl ?_; clear hE a; intro a hE
         refine QL.no hE (runs_undef hE rfl rfl rfl) rfl ?_; clear hE a; intro a hE
         refine QL.no hE (runs_undef hE rfl rfl rfl) rfl ?_; clear hE a; intro a hE
         refine QL.no hE (runs_undef hE rfl rfl rfl) rfl ?_; clear hE a; intro a hE
         refine QL.no hE (runs_undef hE rfl rfl rfl) rfl ?_; clear hE a; intro a hE
         refine QL.no hE (runs_undef hE rfl rfl rfl) rfl ?_; clear hE a; intro a hE
         refine QL.no hE (runs_not hE rfl rfl rfl (by rw [hg91]; decide)) rfl ?_; clear hE a; intro a hE
         refine qP hE (Gives.pickF hE rfl hg91 rfl) rfl ?_; clear hE a; intro a hE
         refine QL.nil ?_; clear hS w; intro w hS
         subst hK90
         exact ⟨false, Option.some.inj hq85, hE.pick _ ⟨rfl, rfl, rfl, rfl, rfl, trivial⟩, hS⟩
       ·clear hE hS a w; rintro a w ⟨q89, rfl, hE, hS⟩
        refine W.cond hE rfl (fun hc111 => ?_) (fun hc111 => ?_)
        ·replace hq60 := iteT hc111 hq60
         refine W.seq (W.region ?_)
         refine vP hS hE (Gives.p hE rfl) rfl ?_; clear hE a; intro a hE
         refine WL.nil ?_
         refine W.ret ?_
         subst hK71
         rw [← Option.some.inj hq60] at hr
         dsimp only at hr
         refine finG (fn := Tryz.f12) (rs := [.tmp 2]) (vs := [_]) hE rfl ⟨rfl, trivial⟩ ?_
         obtain rfl := Option.some.inj hr
         replace hS := hS.tail
         replace hS := hS.tail
         exact ⟨rfl, hS⟩
        ·replace hq60 := iteF hc111 hq60
         refine W.skip ?_
         refine W.region ?_
         refine vP hS hE (Gives.inc hE rfl (by have := h0_0.small; omega)) rfl ?_; clear hE a; intro a hE
         refine vP hS hE (Gives.p hE rfl) rfl ?_; clear hE a; intro a hE
         refine WL.nil ?_
         replace hS := hS.tail
         subst hK71
         exact ⟨rest64.length, Nat.lt_succ_self _, rest64, k62 + 1, rfl, hd65, hq60, hE.pick _ ⟨rfl, rfl, rfl, rfl, trivial⟩, hS⟩
   ·clear hE hS a w; rintro a w ⟨rfl, hE, hS⟩
    dsimp only at hr
    refine W.seq ?_
    refine W.seq (W.region ?_)
    refine vP hS hE (Gives.fld hE rfl fl25_2) rfl ?_; clear hE a; intro a hE
    refine vP hS hE (Gives.loadB hE 0 rfl rfl rfl ty3) rfl ?_; clear hE a; intro a hE
    refine WL.fnq hE (Farewithin_ok hS  rfl (r := Farewithin x0.Round 1 100)) (runs_plain rfl) bd27 rfl rfl rfl ?_
    clear hE hS; rintro e w ⟨rfl, hS⟩; refine ⟨_, rfl, ?_⟩; clear a; intro a hE
    refine vP hS hE (Gives.p hE rfl) rfl ?_; clear hE a; intro a hE
    refine WL.nil ?_
    refine W.cond hE rfl (fun hc112 => ?_) (fun hc112 => ?_)
    ·replace hr := iteT hc112 hr
     refine W.seq (W.region ?_)
     refine vP hS hE (Gives.p hE rfl) rfl ?_; clear hE a; intro a hE
     refine WL.nil ?_
     refine W.ret ?_
     refine finG (fn := Tryz.f12) (rs := [.tmp 2]) (vs := [_]) hE rfl ⟨rfl, trivial⟩ ?_
     obtain rfl := Option.some.inj hr
     replace hS := hS.tail
     exact ⟨rfl, hS⟩
    ·replace hr := iteF hc112 hr
     refine W.skip ?_
     refine W.seq ?_
     refine W.seq (W.region ?_)
     refine vP hS hE (Gives.fld hE rfl fl25_3) rfl ?_; clear hE a; intro a hE
     refine vP hS hE (Gives.loadB hE 0 rfl rfl rfl ty23) rfl ?_; clear hE a; intro a hE
     refine vP hS hE (Gives.len hE rfl sl23) rfl ?_; clear hE a; intro a hE
     refine vP hS hE (Gives.p hE rfl) rfl ?_; clear hE a; intro a hE
     refine WL.nil ?_
     obtain ⟨q114, hq113, hr⟩ := bindS hr
     refine W.cut (fun a w => (.next ()) = q114 ∧ Rep a 97 [] ∧ St w s (pt b51 (.cells #[.bool x0.ByKm, .slice a0_0 x0.Bands.length c0_0, .int .i64 x0.Round, .slice a0_1 x0.Rules.length c0_1] 25 (0, 0)) :: R)) ?_ ?_
     ·refine W.block ?_
      refine W.loop (fun m a w => ∃ (rest117 : List FareRule) (k115 : Nat), rest117.length = m ∧ x0.Rules.drop k115 = rest117 ∧ FareCheckTariff.loop2 fu rest117 = some q114 ∧ Rep a 97 [(70, .slice a0_1 x0.Rules.length c0_1), (71, .int .i64 ((x0.Rules).length : Int)), (72, .int .i64 ((k115 : Nat) : Int))] ∧ St w s (pt b51 (.cells #[.bool x0.ByKm, .slice a0_0 x0.Bands.length c0_0, .int .i64 x0.Round, .slice a0_1 x0.Rules.length c0_1] 25 (0, 0)) :: R)) (m := x0.Rules.length) ⟨x0.Rules, 0, rfl, rfl, hq113, hE.pick _ ⟨rfl, rfl, rfl, trivial⟩, hS⟩ ?_
      clear hE hS a w hq113; rintro m121 a w ⟨rest117, k115, rfl, hd118, hq113, hE, hS⟩
      refine W.gen fun K124 hK124 => ?_
      rcases rest117 with _ | ⟨x116, rest117⟩
      ·have hlt119 := drop_nil hd118
       refine W.seq (W.region ?_)
       refine vP hS hE (Gives.p hE rfl) rfl ?_; clear hE a; intro a hE
       refine WL.nil ?_
       refine W.seq ?_
       refine W.condF hE rfl (decide_eq_false (by omega)) ?_
       subst hK124
       refine W.exit rfl ?_
       exact ⟨Option.some.inj hq113, hE.pick _ trivial, hS⟩
      ·obtain ⟨hlt119, hx120, hd118⟩ := drop_cons hd118
       rw [FareCheckTariff.loop2] at hq113
       refine W.seq (W.region ?_)
       refine vP hS hE (Gives.p hE rfl) rfl ?_; clear hE a; intro a hE
       refine WL.nil ?_
       refine W.seq ?_
       refine W.condT hE rfl (decide_eq_true (by omega)) ?_
       refine W.skip ?_
       refine W.seq ?_
       refine W.block ?_
       refine W.seq (W.region ?_)
       obtain ⟨cs125, hl126, hR127, hat128⟩ := h0_1.at hx120
       obtain ⟨a129, c130, rfl, h131⟩ := hR127
       refine vP hS hE (Gives.idx hE k115 rfl rfl sl23 rfl hlt119 (h0_1.aok hlt119)) rfl ?_; clear hE a; intro a hE
       refine vP hS hE (Gives.loadA hE rfl (fun w h => hat128 w _ h) ty45) rfl ?_; clear hE a; intro a hE
       refine WL.alloc hE hS (runs_plain rfl) zr45 rfl ?_; clear hE hS a w; intro b132 a w hE hS
       refine WL.storeI hE hS 0 rfl [.int .i64 x116.If.Kind, .int .i64 x116.If.A, .int .i64 x116.If.B, .slice a129 x116.If.Kids.length c130, .int .i64 x116.Do, .int .i64 x116.N, .bool x116.Stop] (runs_plain rfl) rfl rfl rfl ty45 rfl rfl rfl rfl ?_; clear hE hS a w; intro a w hE hS
       refine WL.nil ?_
       refine W.seq ?_
       refine W.seq (W.region ?_)
       refine vP hS hE (Gives.fld hE rfl fl45_0) rfl ?_; clear hE a; intro a hE
       refine vP hS hE (Gives.loadA (cs := [.int .i64 x116.If.Kind, .int .i64 x116.If.A, .int .i64 x116.If.B, .slice a129 x116.If.Kids.length c130]) hE rfl (fun w h => (St.seesAt h 0 rfl).part 0 4) ty43) rfl ?_; clear hE a; intro a hE
       obtain ⟨q133, hq134, hq113⟩ := bindS hq113
       have hc_ := FareCondcheck_ok hS h131 hq134
       refine WL.fnq hE (hc_) (runs_plain rfl) bd28 rfl rfl rfl ?_
       clear hE hS hc_; rintro e w ⟨rfl, hS⟩; refine ⟨_, rfl, ?_⟩; clear a; intro a hE
       refine vP hS hE (Gives.p hE rfl) rfl ?_; clear hE a; intro a hE
       refine WL.nil ?_
       refine W.seq (W.region ?_)
       refine vP hS hE (Gives.p hE rfl) rfl ?_; clear hE a; intro a hE
       refine vP hS hE (Gives.p hE rfl) rfl ?_; clear hE a; intro a hE
       refine WL.nil ?_
       refine W.cond hE rfl (fun hc135 => ?_) (fun hc135 => ?_)
       ·replace hq113 := iteT hc135 hq113
        refine W.seq (W.region ?_)
        refine vP hS hE (Gives.p hE rfl) rfl ?_; clear hE a; intro a hE
        refine vP hS hE (Gives.p hE rfl) rfl ?_; clear hE a; intro a hE
        refine WL.nil ?_
        refine W.ret ?_
        subst hK124
        rw [← Option.some.inj hq113] at hr
        dsimp only at hr
        refine finG (fn := Tryz.f12) (rs := [.tmp 2]) (vs := [_]) hE rfl ⟨rfl, trivial⟩ ?_
        obtain rfl := Option.some.inj hr
        replace hS := hS.tail
        replace hS := hS.tail
        exact ⟨rfl, hS⟩
       ·replace hq113 := iteF hc135 hq113
        refine W.skip ?_
        refine W.seq (W.region ?_)
        refine vP hS hE (Gives.p hE rfl) rfl ?_; clear hE a; intro a hE
        refine WL.nil ?_
        refine W.seq ?_
        refine W.seq (W.region ?_)
        refine vP hS hE (Gives.fld hE rfl fl45_1) rfl ?_; clear hE a; intro a hE
        refine vP hS hE (Gives.loadB hE 0 rfl rfl rfl ty3) rfl ?_; clear hE a; intro a hE
        refine vP hS hE (Gives.p hE rfl) rfl ?_; clear hE a; intro a hE
        refine WL.nil ?_
        obtain ⟨q137, hq136, hq113⟩ := bndS hq113
        refine W.cut (fun a w => ∃ (q140 : Int), q140 = q137 ∧ Rep a 97 [(6, .pointer (some ⟨b132, 0, none⟩)), (8, .int .i64 q140), (70, .slice a0_1 x0.Rules.length c0_1), (71, .int .i64 ((x0.Rules).length : Int)), (72, .int .i64 ((k115 : Nat) : Int))] ∧ St w s (pt b132 (.cells #[.int .i64 x116.If.Kind, .int .i64 x116.If.A, .int .i64 x116.If.B, .slice a129 x116.If.Kids.length c130, .int .i64 x116.Do, .int .i64 x116.N, .bool x116.Stop] 45 (0, 0)) :: pt b51 (.cells #[.bool x0.ByKm, .slice a0_0 x0.Bands.length c0_0, .int .i64 x0.Round, .slice a0_1 x0.Rules.length c0_1] 25 (0, 0)) :: R)) ?_ ?_
        ·refine W.gen fun K141 hK141 => ?_
         refine W.cond hE rfl (fun hc142 => ?_) (fun hc142 => ?_)
         ·replace hq136 := iteT hc142 hq136
          refine W.region ?_
          refine vP hS hE (Gives.p hE rfl) rfl ?_; clear hE a; intro a hE
          refine WL.nil ?_
          subst hK141
          exact ⟨200, hq136, hE.pick _ ⟨rfl, rfl, rfl, rfl, rfl, trivial⟩, hS⟩
         ·replace hq136 := iteF hc142 hq136
          refine W.skip ?_
          subst hK141
          exact ⟨100000, hq136, hE.pick _ ⟨rfl, rfl, rfl, rfl, rfl, trivial⟩, hS⟩
        ·clear hE hS a w; rintro a w ⟨q140, rfl, hE, hS⟩
         refine W.block ?_
         refine W.seq (W.region ?_)
         refine vP hS hE (Gives.fld hE rfl fl45_1) rfl ?_; clear hE a; intro a hE
         refine vP hS hE (Gives.loadB hE 0 rfl rfl rfl ty3) rfl ?_; clear hE a; intro a hE
         refine WL.fnq hE (Farewithin_ok hS  rfl (r := Farewithin x116.Do 1 6)) (runs_plain rfl) bd27 rfl rfl rfl ?_
         clear hE hS; rintro e w ⟨rfl, hS⟩; refine ⟨_, rfl, ?_⟩; clear a; intro a hE
         refine vP hS hE (Gives.p hE rfl) rfl ?_; clear hE a; intro a hE
         refine vP hS hE (Gives.p hE rfl) rfl ?_; clear hE a; intro a hE
         refine WL.nil ?_
         refine W.cond hE rfl (fun hc143 => ?_) (fun hc143 => ?_)
         ·replace hq113 := iteT hc143 hq113
          refine W.seq (W.region ?_)
          refine vP hS hE (Gives.p hE rfl) rfl ?_; clear hE a; intro a hE
          refine WL.nil ?_
          refine W.ret ?_
          subst hK124
          rw [← Option.some.inj hq113] at hr
          dsimp only at hr
          refine finG (fn := Tryz.f12) (rs := [.tmp 2]) (vs := [_]) hE rfl ⟨rfl, trivial⟩ ?_
          obtain rfl := Option.some.inj hr
          replace hS := hS.tail
          replace hS := hS.tail
          exact ⟨rfl, hS⟩
         ·replace hq113 := iteF hc143 hq113
          refine W.seq (W.region ?_)
          refine vP hS hE (Gives.fld hE rfl fl45_2) rfl ?_; clear hE a; intro a hE
          refine vP hS hE (Gives.loadB hE 0 rfl rfl rfl ty3) rfl ?_; clear hE a; intro a hE
          refine vP hS hE (Gives.p hE rfl) rfl ?_; clear hE a; intro a hE
          refine WL.fnq hE (Farewithin_ok hS  rfl (r := Farewithin x116.N 0 q140)) (runs_plain rfl) bd27 rfl rfl rfl ?_
          clear hE hS; rintro e w ⟨rfl, hS⟩; refine ⟨_, rfl, ?_⟩; clear a; intro a hE
          refine vP hS hE (Gives.p hE rfl) rfl ?_; clear hE a; intro a hE
          refine vP hS hE (Gives.p hE rfl) rfl ?_; clear hE a; intro a hE
          refine WL.nil ?_
          refine W.cond hE rfl (fun hc144 => ?_) (fun hc144 => ?_)
          ·replace hq113 := iteT hc144 hq113
           refine W.seq (W.region ?_)
           refine vP hS hE (Gives.p hE rfl) rfl ?_; clear hE a; intro a hE
           refine WL.nil ?_
           refine W.ret ?_
           subst hK124
           rw [← Option.some.inj hq113] at hr
           dsimp only at hr
           refine finG (fn := Tryz.f12) (rs := [.tmp 2]) (vs := [_]) hE rfl ⟨rfl, trivial⟩ ?_
           obtain rfl := Option.some.inj hr
           replace hS := hS.tail
           replace hS := hS.tail
           exact ⟨rfl, hS⟩
          ·replace hq113 := iteF hc144 hq113
           refine W.skip ?_
           refine W.region ?_
           refine vP hS hE (Gives.inc hE rfl (by have := h0_1.small; omega)) rfl ?_; clear hE a; intro a hE
           refine vP hS hE (Gives.p hE rfl) rfl ?_; clear hE a; intro a hE
           refine WL.nil ?_
           replace hS := hS.tail
           subst hK124
           exact ⟨rest117.length, Nat.lt_succ_self _, rest117, k115 + 1, rfl, hd118, hq113, hE.pick _ ⟨rfl, rfl, rfl, trivial⟩, hS⟩
     ·clear hE hS a w; rintro a w ⟨rfl, hE, hS⟩
      dsimp only at hr
      refine W.seq (W.region ?_)
      refine vP hS hE (Gives.p hE rfl) rfl ?_; clear hE a; intro a hE
      refine WL.nil ?_
      refine W.ret ?_
      refine finG (fn := Tryz.f12) (rs := [.tmp 2]) (vs := [_]) hE rfl ⟨rfl, trivial⟩ ?_
      obtain rfl := Option.some.inj hr
      replace hS := hS.tail
      exact ⟨rfl, hS⟩
set_option maxHeartbeats 8000000 in
theorem Farenames_ok  {w : World} {s : Sg} {R : List HP}  (hS : St w s (R))  {r : Ar10str} (hr : Farenames = r) :
  Calls Tryz.prog 56 [].toArray w (fun e w => ∃ (cs0 : List Value), e = .returned (.agg cs0.toArray) ∧ RAr10str s cs0 r ∧ St w s (R)) := by
 refine enter Tryz.func56 rfl rfl rfl fun a hE => ?_
 rw [Farenames] at hr
 refine W.seq (W.region ?_)
 refine WL.alloc hE hS (runs_plain rfl) zr106 rfl ?_; clear hE hS a w; intro b51 a w hE hS
 refine WL.nil ?_
 refine W.seq (W.region ?_)
 refine vP hS hE (Gives.build hE (vs := [(0, .string (str [97, 108, 119, 97, 121, 115])), (1, .string (str [99, 97, 114, 100])), (2, .string (str [97, 103, 101])), (3, .string (str [116, 105, 109, 101])), (4, .string (str [107, 109])), (5, .string (str [99, 111, 117, 110, 116])), (6, .string (str [116, 111, 117, 99, 104])), (7, .string (str [98, 101, 103, 105, 110])), (8, .string (str [102, 105, 110, 105, 115, 104])), (9, .string (str [110, 111, 116]))]) [.string (str [97, 108, 119, 97, 121, 115]), .string (str [99, 97, 114, 100]), .string (str [97, 103, 101]), .string (str [116, 105, 109, 101]), .string (str [107, 109]), .string (str [99, 111, 117, 110, 116]), .string (str [116, 111, 117, 99, 104]), .string (str [98, 101, 103, 105, 110]), .string (str [102, 105, 110, 105, 115, 104]), .string (str [110, 111, 116])] rfl (by kernel_rfl)) rfl ?_; clear hE a; intro a hE
 refine WL.storeI hE hS 0 rfl [.string (str [97, 108, 119, 97, 121, 115]), .string (str [99, 97, 114, 100]), .string (str [97, 103, 101]), .string (str [116, 105, 109, 101]), .string (str [107, 109]), .string (str [99, 111, 117, 110, 116]), .string (str [116, 111, 117, 99, 104]), .string (str [98, 101, 103, 105, 110]), .string (str [102, 105, 110, 105, 115, 104]), .string (str [110, 111, 116])] (runs_plain rfl) rfl rfl rfl ty106 rfl rfl rfl rfl ?_; clear hE hS a w; intro a w hE hS
 refine WL.nil ?_
 refine W.ret ?_
 refine finG (fn := Tryz.f56) (rs := [.cell 0 106]) (vs := [_]) hE rfl ⟨⟨_, rfl, .inl ⟨_, rfl, hS.seesAt 0 rfl, ty106⟩⟩, trivial⟩ ?_
 subst hr
 replace hS := hS.tail
 exact ⟨_, rfl, rfl, hS⟩
set_option maxHeartbeats 8000000 in
theorem FareCondtext_1_v3_ok  {self_FareCondtext : FareCond → Option ByteArray} (ih_FareCondtext : ∀ {w : World} {s : Sg} {R : List HP} {x0 : FareCond} {a0_0 : Option Addr} {c0_0 : Nat} (_hS : St w s (R)) (_hTab : TabX s) (_h0_0 : Sl 4 RFareCond s a0_0 c0_0 x0.Kids) {r : ByteArray} (_hr : self_FareCondtext x0 = some r), Calls Tryz.prog 30 [.agg (List.toArray [.int .i64 x0.Kind, .int .i64 x0.A, .int .i64 x0.B, .slice a0_0 x0.Kids.length c0_0])].toArray w (fun e w => e = .returned (.string r) ∧ St w s (R))) {w : World} {s : Sg} {R : List HP} {pb0 : Nat} {x0 : FareCond} {a0_0 : Option Addr} {c0_0 : Nat} {y0 : FareCond} {a_y0_3 : Option Addr} {c_y0_3 : Nat} (hS : St w s (pt pb0 (.cells #[.int .i64 y0.Kind, .int .i64 y0.A, .int .i64 y0.B, .slice a_y0_3 y0.Kids.length c_y0_3] 43 (0, 0)) :: R)) (hTab : TabX s) (h0_0 : Sl 4 RFareCond s a0_0 c0_0 x0.Kids) (_h_y0_3 : Sl 4 RFareCond s a_y0_3 c_y0_3 y0.Kids) {r : ByteArray} (hr : FareCondtext_1_v3 self_FareCondtext x0 y0 = some r) :
  Calls Tryz.prog 55 [.agg (List.toArray [.int .i64 x0.Kind, .int .i64 x0.A, .int .i64 x0.B, .slice a0_0 x0.Kids.length c0_0]), .pointer (some ⟨pb0, 0, none⟩)].toArray w (fun e w => e = .returned (.string r) ∧ St w s (pt pb0 (.cells #[.int .i64 y0.Kind, .int .i64 y0.A, .int .i64 y0.B, .slice a_y0_3 y0.Kids.length c_y0_3] 43 (0, 0)) :: R)) := by
 refine enter Tryz.func55 rfl rfl rfl fun a hE => ?_
 rw [FareCondtext_1_v3] at hr
 refine W.seq (W.region ?_)
 refine WL.box hE hS (runs_plain rfl) rfl rfl rfl ?_; clear hE hS a w; intro b51 a w hE hS
 refine vP hS hE (Gives.p hE rfl) rfl ?_; clear hE a; intro a hE
 refine WL.nil ?_
 refine W.seq (W.region ?_)
 refine vP hS hE (Gives.loadBA hE 0 rfl rfl ty43) rfl ?_; clear hE a; intro a hE
 obtain ⟨q52, hq53, hr⟩ := bindS hr
 have hc_ := ih_FareCondtext hS (TabG.mono (Sg.Le.refl _) hTab) h0_0 hq53
 refine WL.fnq hE (hc_) (runs_plain rfl) bd30 rfl rfl rfl ?_
 clear hE hS hc_; rintro e w ⟨rfl, hS⟩; refine ⟨_, rfl, ?_⟩; clear a; intro a hE
 refine vP hS hE (Gives.p hE rfl) rfl ?_; clear hE a; intro a hE
 refine WL.nil ?_
 refine W.seq ?_
 refine W.seq ?_
 obtain ⟨q55, hq54, hr⟩ := bndS hr
 refine W.cut (fun a w => ∃ (q58 : Bool), q58 = q55 ∧ Rep a 24 [(4, .string q52), (19, .bool q58)] ∧ St w s (pt b51 (.cells #[.int .i64 x0.Kind, .int .i64 x0.A, .int .i64 x0.B, .slice a0_0 x0.Kids.length c0_0] 43 (0, 0)) :: pt pb0 (.cells #[.int .i64 y0.Kind, .int .i64 y0.A, .int .i64 y0.B, .slice a_y0_3 y0.Kids.length c_y0_3] 43 (0, 0)) :: R)) ?_ ?_
 ·refine W.gen fun K59 hK59 => ?_
  refine W.region ?_
  refine vP hS hE (Gives.fld hE rfl fl43_0) rfl ?_; clear hE a; intro a hE
  refine vP hS hE (Gives.loadB hE 0 rfl rfl rfl ty3) rfl ?_; clear hE a; intro a hE
  refine vP hS hE (Gives.p hE rfl) rfl ?_; clear hE a; intro a hE
  refine vP hS hE (Gives.p hE rfl) rfl ?_; clear hE a; intro a hE
  rcases Bool.eq_false_or_eq_true (x0.Kind == 10) with hg60 | hg60
  ·replace hq54 := iteT hg60 hq54
   refine WL.vS hS hE (runs_if hE rfl rfl rfl hg60) (Gives.fld hE rfl fl43_0) rfl ?_; clear hE a; intro a hE
   refine WL.vS hS hE (runs_if hE rfl rfl rfl hg60) (Gives.loadB hE 1 rfl rfl rfl ty3) rfl ?_; clear hE a; intro a hE
   refine WL.vS hS hE (runs_if hE rfl rfl rfl hg60) (Gives.p hE rfl) rfl ?_; clear hE a; intro a hE
   refine vP hS hE (Gives.pickT hE rfl hg60 rfl) rfl ?_; clear hE a; intro a hE
   refine vP hS hE (Gives.p hE rfl) rfl ?_; clear hE a; intro a hE
   rcases Bool.eq_false_or_eq_true (y0.Kind != 11) with hg61 | hg61
   ·replace hq54 := iteT hg61 hq54
    refine WL.no hE (runs_not hE rfl rfl rfl (by rw [hg61]; decide)) rfl ?_; clear hE a; intro a hE
    refine WL.no hE (runs_not hE rfl rfl rfl (by rw [hg61]; decide)) rfl ?_; clear hE a; intro a hE
    refine WL.no hE (runs_not hE rfl rfl rfl (by rw [hg61]; decide)) rfl ?_; clear hE a; intro a hE
    refine vP hS hE (Gives.pickT hE rfl hg61 rfl) rfl ?_; clear hE a; intro a hE
    refine WL.nil ?_
    subst hK59
    exact ⟨true, hq54, hE.pick _ ⟨rfl, rfl, trivial⟩, hS⟩
   ·replace hq54 := iteF hg61 hq54
    refine WL.vS hS hE (runs_if hE rfl rfl rfl hg61) (Gives.fld hE rfl fl43_0) rfl ?_; clear hE a; intro a hE
    refine WL.vS hS hE (runs_if hE rfl rfl rfl hg61) (Gives.loadB hE 0 rfl rfl rfl ty3) rfl ?_; clear hE a; intro a hE
    refine WL.vS hS hE (runs_if hE rfl rfl rfl hg61) (Gives.p hE rfl) rfl ?_; clear hE a; intro a hE
    refine vP hS hE (Gives.pickF hE rfl hg61 rfl) rfl ?_; clear hE a; intro a hE
    refine WL.nil ?_
    subst hK59
    exact ⟨(x0.Kind == 11), hq54, hE.pick _ ⟨rfl, rfl, trivial⟩, hS⟩
  ·replace hq54 := iteF hg60 hq54
   refine WL.no hE (runs_not hE rfl rfl rfl (by rw [hg60]; decide)) rfl ?_; clear hE a; intro a hE
   refine WL.no hE (runs_not hE rfl rfl rfl (by rw [hg60]; decide)) rfl ?_; clear hE a; intro a hE
   refine WL.no hE (runs_not hE rfl rfl rfl (by rw [hg60]; decide)) rfl ?_; clear hE a; intro a hE
   refine vP hS hE (Gives.pickF hE rfl hg60 rfl) rfl ?_; clear hE a; intro a hE
   refine vP hS hE (Gives.p hE rfl) rfl ?_; clear hE a; intro a hE
   refine WL.vS hS hE (runs_if hE rfl rfl rfl rfl) (Gives.fld hE rfl fl43_0) rfl ?_; clear hE a; intro a hE
   refine WL.vS hS hE (runs_if hE rfl rfl rfl rfl) (Gives.loadB hE 0 rfl rfl rfl ty3) rfl ?_; clear hE a; intro a hE
   refine WL.vS hS hE (runs_if hE rfl rfl rfl rfl) (Gives.p hE rfl) rfl ?_; clear hE a; intro a hE
   refine vP hS hE (Gives.pickF hE rfl rfl rfl) rfl ?_; clear hE a; intro a hE
   refine WL.nil ?_
   subst hK59
   exact ⟨(x0.Kind == 11), hq54, hE.pick _ ⟨rfl, rfl, trivial⟩, hS⟩
 ·clear hE hS a w; rintro a w ⟨q58, rfl, hE, hS⟩
  refine W.cond hE rfl (fun hc62 => ?_) (fun hc62 => ?_)
  ·replace hr := iteT hc62 hr
   refine W.seq (W.region ?_)
   refine vP hS hE (Gives.p hE rfl) rfl ?_; clear hE a; intro a hE
   obtain ⟨x63, hx64, hr⟩ := bindS hr
   refine vP hS hE (Gives.catS hE rfl rfl hx64) rfl ?_; clear hE a; intro a hE
   obtain ⟨x65, hx66, hr⟩ := bindS hr
   refine vP hS hE (Gives.catS hE rfl rfl hx66) rfl ?_; clear hE a; intro a hE
   refine vP hS hE (Gives.p hE rfl) rfl ?_; clear hE a; intro a hE
   refine WL.nil ?_
   refine W.ret ?_
   refine finG (fn := Tryz.f55) (rs := [.tmp 3]) (vs := [_]) hE rfl ⟨rfl, trivial⟩ ?_
   obtain rfl := Option.some.inj hr
   replace hS := hS.tail
   exact ⟨rfl, hS⟩
  ·replace hr := iteF hc62 hr
   refine W.skip ?_
   refine W.seq (W.region ?_)
   refine vP hS hE (Gives.p hE rfl) rfl ?_; clear hE a; intro a hE
   refine vP hS hE (Gives.p hE rfl) rfl ?_; clear hE a; intro a hE
   refine WL.nil ?_
   refine W.ret ?_
   refine finG (fn := Tryz.f55) (rs := [.tmp 3]) (vs := [_]) hE rfl ⟨rfl, trivial⟩ ?_
   obtain rfl := Option.some.inj hr
   replace hS := hS.tail
   exact ⟨rfl, hS⟩
set_option maxHeartbeats 8000000 in
theorem FareCondtext_ok : ∀ {fu : Nat} {w : World} {s : Sg} {R : List HP} {x0 : FareCond} {a0_0 : Option Addr} {c0_0 : Nat} (_hS : St w s (R)) (_hTab : TabX s) (_h0_0 : Sl 4 RFareCond s a0_0 c0_0 x0.Kids) {r : ByteArray} (_hr : FareCondtext fu x0 = some r),
  Calls Tryz.prog 30 [.agg (List.toArray [.int .i64 x0.Kind, .int .i64 x0.A, .int .i64 x0.B, .slice a0_0 x0.Kids.length c0_0])].toArray w (fun e w => e = .returned (.string r) ∧ St w s (R)) := by
 intro fu
 induction fu with
 | zero => intro w s R x0 a0_0 c0_0 hS hTab h0_0 r hr; rw [FareCondtext] at hr; exact absurd hr (by simp)
 | succ fu ih_FareCondtext =>
  intro w s R x0 a0_0 c0_0 hS hTab h0_0 r hr
  rw [FareCondtext] at hr
  generalize FareCondtext fu = self_FareCondtext at hr ih_FareCondtext
  refine enter Tryz.func30 rfl rfl rfl fun a hE => ?_
  refine W.seq (W.region ?_)
  refine WL.box hE hS (runs_plain rfl) rfl rfl rfl ?_; clear hE hS a w; intro b51 a w hE hS
  refine vP hS hE (Gives.p hE rfl) rfl ?_; clear hE a; intro a hE
  refine WL.nil ?_
  refine W.seq (W.region ?_)
  refine vP hS hE (Gives.mkfn hE (vs := [.pointer (some ⟨b51, 0, none⟩)]) rfl) rfl ?_; clear hE a; intro a hE
  refine vP hS hE (Gives.p hE rfl) rfl ?_; clear hE a; intro a hE
  refine WL.nil ?_
  refine W.seq ?_
  refine W.seq (W.region ?_)
  refine vP hS hE (Gives.fld hE rfl fl43_0) rfl ?_; clear hE a; intro a hE
  refine vP hS hE (Gives.loadB hE 0 rfl rfl rfl ty3) rfl ?_; clear hE a; intro a hE
  refine WL.nil ?_
  refine W.block ?_
  refine W.seq (W.region ?_)
  refine vP hS hE (Gives.p hE rfl) rfl ?_; clear hE a; intro a hE
  refine vP hS hE (Gives.p hE rfl) rfl ?_; clear hE a; intro a hE
  refine WL.nil ?_
  obtain ⟨q53, hq52, hr⟩ := bindS hr
  refine W.cut (fun a w => .next () = q53 ∧ Rep a 71 [(1, .pointer (some ⟨b51, 0, none⟩))] ∧ St w s (pt b51 (.cells #[.int .i64 x0.Kind, .int .i64 x0.A, .int .i64 x0.B, .slice a0_0 x0.Kids.length c0_0] 43 (0, 0)) :: R)) ?_ ?_
  ·refine W.gen fun K56 hK56 => ?_
   refine W.cond hE rfl (fun hc57 => ?_) (fun hc57 => ?_)
   ·replace hq52 := iteT hc57 hq52
    refine W.seq (W.region ?_)
    refine vP hS hE (Gives.p hE rfl) rfl ?_; clear hE a; intro a hE
    refine vP hS hE (Gives.fld hE rfl fl43_3) rfl ?_; clear hE a; intro a hE
    refine vP hS hE (Gives.loadB hE 0 rfl rfl rfl ty41) rfl ?_; clear hE a; intro a hE
    obtain ⟨x58, hx59, hq52⟩ := bindS hq52
    obtain ⟨hi60, hlt61, hy62⟩ := gx_some hx59
    obtain ⟨cs63, hl64, hR65, hat66⟩ := h0_0.at hy62
    obtain ⟨a67, c68, rfl, h69⟩ := hR65.unf
    refine vP hS hE (Gives.idx hE ((0 : Int)).toNat rfl rfl sl41 hi60 hlt61 (h0_0.aok hlt61)) rfl ?_; clear hE a; intro a hE
    refine vP hS hE (Gives.loadA hE rfl (fun w h => hat66 w _ h) ty43) rfl ?_; clear hE a; intro a hE
    obtain ⟨q70, hq71, hq52⟩ := bindS hq52
    have hc_ := FareCondtext_1_v3_ok (y0 := x0) @ih_FareCondtext hS (TabG.mono (Sg.Le.refl _) hTab) h69 h0_0 hq71
    refine WL.fnw hE (hc_) rfl (runs_plain rfl) bd55 rfl rfl rfl ?_
    clear hE hS hc_; rintro e w ⟨rfl, hS⟩; refine ⟨_, rfl, ?_⟩; clear a; intro a hE
    obtain ⟨x72, hx73, hq52⟩ := bindS hq52
    refine vP hS hE (Gives.catS hE rfl rfl hx73) rfl ?_; clear hE a; intro a hE
    refine vP hS hE (Gives.p hE rfl) rfl ?_; clear hE a; intro a hE
    refine WL.nil ?_
    refine W.ret ?_
    subst hK56
    rw [← Option.some.inj hq52] at hr
    dsimp only at hr
    refine finG (fn := Tryz.f30) (rs := [.tmp 2]) (vs := [_]) hE rfl ⟨rfl, trivial⟩ ?_
    obtain rfl := Option.some.inj hr
    replace hS := hS.tail
    exact ⟨rfl, hS⟩
   ·replace hq52 := iteF hc57 hq52
    refine W.seq ?_
    refine W.seq (W.region ?_)
    refine vP hS hE (Gives.p hE rfl) rfl ?_; clear hE a; intro a hE
    refine vP hS hE (Gives.p hE rfl) rfl ?_; clear hE a; intro a hE
    refine WL.nil ?_
    obtain ⟨q75, hq74, hq52⟩ := bndS hq52
    refine W.cut (fun a w => ∃ (q78 : Bool), q78 = q75 ∧ Rep a 71 [(1, .pointer (some ⟨b51, 0, none⟩)), (3, .func (.func 55) #[] #[.pointer (some ⟨b51, 0, none⟩)]), (22, .bool q78)] ∧ St w s (pt b51 (.cells #[.int .i64 x0.Kind, .int .i64 x0.A, .int .i64 x0.B, .slice a0_0 x0.Kids.length c0_0] 43 (0, 0)) :: R)) ?_ ?_
    ·refine W.gen fun K79 hK79 => ?_
     refine W.cond hE rfl (fun hc80 => ?_) (fun hc80 => ?_)
     ·replace hq74 := iteT hc80 hq74
      refine W.skip ?_
      subst hK79
      exact ⟨(x0.Kind == 10), hq74, hE.pick _ ⟨rfl, rfl, rfl, trivial⟩, hS⟩
     ·replace hq74 := iteF hc80 hq74
      refine W.region ?_
      refine vP hS hE (Gives.p hE rfl) rfl ?_; clear hE a; intro a hE
      refine vP hS hE (Gives.p hE rfl) rfl ?_; clear hE a; intro a hE
      refine WL.nil ?_
      subst hK79
      exact ⟨(x0.Kind == 11), hq74, hE.pick _ ⟨rfl, rfl, rfl, trivial⟩, hS⟩
    ·clear hE hS a w; rintro a w ⟨q78, rfl, hE, hS⟩
     refine W.cond hE rfl (fun hc81 => ?_) (fun hc81 => ?_)
     ·replace hq52 := iteT hc81 hq52
      refine W.seq (W.region ?_)
      replace hS := hS.vecNil 9 1
      refine vP hS hE (Gives.p hE rfl) rfl ?_; clear hE a; intro a hE
      refine WL.nil ?_
      refine W.seq ?_
      refine W.seq (W.region ?_)
      refine vP hS hE (Gives.fld hE rfl fl43_3) rfl ?_; clear hE a; intro a hE
      refine vP hS hE (Gives.loadB hE 1 rfl rfl rfl ty41) rfl ?_; clear hE a; intro a hE
      refine vP hS hE (Gives.len hE rfl sl41) rfl ?_; clear hE a; intro a hE
      refine vP hS hE (Gives.p hE rfl) rfl ?_; clear hE a; intro a hE
      refine WL.nil ?_
      obtain ⟨q84, hq83, hq52⟩ := bindS hq52
      refine W.cut (fun a w => ∃ (q94 : List ByteArray), ∃ (a95 : Option Addr), ∃ (c96 : Nat), ∃ (n98 : Nat), ∃ (cs99 : List Value), q94 = q84 ∧ Ev 1 RS s cs99 q94 ∧ q94.length = n98 ∧ Rep a 71 [(1, .pointer (some ⟨b51, 0, none⟩)), (4, .slice a95 n98 c96)] ∧ St w s (vecC 9 1 a95 c96 n98 cs99 :: pt b51 (.cells #[.int .i64 x0.Kind, .int .i64 x0.A, .int .i64 x0.B, .slice a0_0 x0.Kids.length c0_0] 43 (0, 0)) :: R)) ?_ ?_
      ·refine W.block ?_
       refine W.loop (fun m a w => ∃ (rest87 : List FareCond) (k85 : Nat), ∃ (q94 : List ByteArray), ∃ (a95 : Option Addr), ∃ (c96 : Nat), ∃ (n98 : Nat), ∃ (cs99 : List Value), rest87.length = m ∧ x0.Kids.drop k85 = rest87 ∧ FareCondtext.loop1 x0 self_FareCondtext rest87 q94 = some q84 ∧ Ev 1 RS s cs99 q94 ∧ q94.length = n98 ∧ Rep a 71 [(1, .pointer (some ⟨b51, 0, none⟩)), (3, .func (.func 55) #[] #[.pointer (some ⟨b51, 0, none⟩)]), (4, .slice a95 n98 c96), (26, .slice a0_0 x0.Kids.length c0_0), (27, .int .i64 ((x0.Kids).length : Int)), (28, .int .i64 ((k85 : Nat) : Int))] ∧ St w s (vecC 9 1 a95 c96 n98 cs99 :: pt b51 (.cells #[.int .i64 x0.Kind, .int .i64 x0.A, .int .i64 x0.B, .slice a0_0 x0.Kids.length c0_0] 43 (0, 0)) :: R)) (m := x0.Kids.length) ⟨x0.Kids, 0, [], none, 0, 0, [], rfl, rfl, hq83, (Ev.nil), (rfl), hE.pick _ ⟨rfl, rfl, rfl, rfl, rfl, rfl, trivial⟩, hS⟩ ?_
       clear hE hS a w hq83; rintro m91 a w ⟨rest87, k85, q94, a95, c96, n98, cs99, rfl, hd88, hq83, h97, rfl, hE, hS⟩
       refine W.gen fun K101 hK101 => ?_
       rcases rest87 with _ | ⟨x86, rest87⟩
       ·have hlt89 := drop_nil hd88
        refine W.seq (W.region ?_)
        refine vP hS hE (Gives.p hE rfl) rfl ?_; clear hE a; intro a hE
        refine WL.nil ?_
        refine W.seq ?_
        refine W.condF hE rfl (decide_eq_false (by omega)) ?_
        subst hK101
        refine W.exit rfl ?_
        exact ⟨q94, a95, c96, q94.length, cs99, Option.some.inj hq83, h97, rfl, hE.pick _ ⟨rfl, rfl, trivial⟩, hS⟩
       ·obtain ⟨hlt89, hx90, hd88⟩ := drop_cons hd88
        rw [FareCondtext.loop1] at hq83
        refine W.seq (W.region ?_)
        refine vP hS hE (Gives.p hE rfl) rfl ?_; clear hE a; intro a hE
        refine WL.nil ?_
        refine W.seq ?_
        refine W.condT hE rfl (decide_eq_true (by omega)) ?_
        refine W.skip ?_
        refine W.seq ?_
        refine W.block ?_
        refine W.seq (W.region ?_)
        obtain ⟨cs102, hl103, hR104, hat105⟩ := h0_0.at hx90
        obtain ⟨a106, c107, rfl, h108⟩ := hR104.unf
        refine vP hS hE (Gives.idx hE k85 rfl rfl sl41 rfl hlt89 (h0_0.aok hlt89)) rfl ?_; clear hE a; intro a hE
        refine vP hS hE (Gives.loadA hE rfl (fun w h => hat105 w _ h) ty43) rfl ?_; clear hE a; intro a hE
        refine WL.alloc hE hS (runs_plain rfl) zr43 rfl ?_; clear hE hS a w; intro b109 a w hE hS
        refine WL.storeI hE hS 0 rfl [.int .i64 x86.Kind, .int .i64 x86.A, .int .i64 x86.B, .slice a106 x86.Kids.length c107] (runs_plain rfl) rfl rfl rfl ty43 rfl rfl rfl rfl ?_; clear hE hS a w; intro a w hE hS
        refine WL.nil ?_
        refine W.region ?_
        refine vP hS hE (Gives.p hE rfl) rfl ?_; clear hE a; intro a hE
        refine vP hS hE (Gives.p hE rfl) rfl ?_; clear hE a; intro a hE
        refine vP hS hE (Gives.loadBA hE 0 rfl rfl ty43) rfl ?_; clear hE a; intro a hE
        obtain ⟨q110, hq111, hq83⟩ := bindS hq83
        replace hS := hS.front 2 rfl
        have hc_ := FareCondtext_1_v3_ok (y0 := x0) @ih_FareCondtext hS (TabG.mono (Sg.Le.refl _) hTab) h108 h0_0 hq111
        refine WL.fnw hE (hc_) rfl (runs_plain rfl) bd55 rfl rfl rfl ?_
        clear hE hS hc_; rintro e w ⟨rfl, hS⟩; refine ⟨_, rfl, ?_⟩; clear a; intro a hE
        refine WL.lit hE hS (e := 9) (es := 1) (vs := [(0, .string q110)]) (cs := [.string q110]) (runs_plain rfl) rfl (by kernel_rfl) rfl ?_; clear hE hS a w; intro b112 a w hE hS
        obtain ⟨x113, hx114, hq83⟩ := bindS hq83
        refine WL.appD hE hS 2 (m := 1) (runs_plain rfl) rfl rfl rfl ap59 rfl h97 rfl (xs := [q110]) (Ev.cons (c1 := [.string q110]) rfl rfl (Ev.nil)) rfl rfl hx114 rfl ?_; clear hE hS a w; intro a115 c116 cs117 a w h118 hE hS
        refine vP hS hE (Gives.p hE rfl) rfl ?_; clear hE a; intro a hE
        refine WL.nil ?_
        refine W.region ?_
        refine vP hS hE (Gives.inc hE rfl (by have := h0_0.small; omega)) rfl ?_; clear hE a; intro a hE
        refine vP hS hE (Gives.p hE rfl) rfl ?_; clear hE a; intro a hE
        refine WL.nil ?_
        replace hS := hS.dropAt 1
        replace hS := hS.front 1 rfl
        subst hK101
        exact ⟨rest87.length, Nat.lt_succ_self _, rest87, k85 + 1, x113, a115, c116, x113.length, cs117, rfl, hd88, hq83, h118, (rfl), hE.pick _ ⟨rfl, rfl, rfl, rfl, rfl, rfl, trivial⟩, hS⟩
      ·clear hE hS a w; rintro a w ⟨q94, a95, c96, n98, cs99, rfl, h97, rfl, hE, hS⟩
       refine W.seq (W.region ?_)
       refine vP hS hE (Gives.p hE rfl) rfl ?_; clear hE a; intro a hE
       refine WL.mkMap (fk := keyI.f) (fv := Value.string) hE hS (runs_plain rfl) rfl ?_; clear hE hS a w; intro b119 a w hE hS
       refine WL.mapSet keyI hE hS 0 (k := 10) (v := (str [32, 97, 110, 100, 32])) (.inr rfl) (runs_plain rfl) rfl rfl rfl rfl mp105 rfl ?_; clear hE hS a w; intro a w hE hS
       refine WL.mapSet keyI hE hS 0 (k := 11) (v := (str [32, 111, 114, 32])) (.inr rfl) (runs_plain rfl) rfl rfl rfl rfl mp105 rfl ?_; clear hE hS a w; intro a w hE hS
       refine vP hS hE (Gives.p hE rfl) rfl ?_; clear hE a; intro a hE
       refine vP hS hE (Gives.fld hE rfl fl43_0) rfl ?_; clear hE a; intro a hE
       refine vP hS hE (Gives.loadB hE 2 rfl rfl rfl ty3) rfl ?_; clear hE a; intro a hE
       refine vP hS hE (Gives.mapGet keyI hE 0 (k := x0.Kind) (z := ByteArray.empty) rfl rfl rfl mp105 zm9) rfl ?_; clear hE a; intro a hE
       have hF := hS.fixD RS.mono 1 rfl h97 rfl; clear hS; obtain ⟨s122, hle123, hS, h124⟩ := hF
       replace h0_0 := Sl.mono RFareCond.mono hle123 h0_0
       obtain ⟨q120, hq121, hq52⟩ := bindS hq52
       refine WL.fnq hE (join_ok hS h124 hq121) (runs_plain rfl) bd46 rfl rfl rfl ?_
       clear hE hS; rintro e w ⟨rfl, hS⟩; refine ⟨_, rfl, ?_⟩; clear a; intro a hE
       refine vP hS hE (Gives.p hE rfl) rfl ?_; clear hE a; intro a hE
       refine WL.nil ?_
       refine W.ret ?_
       subst hK56
       rw [← Option.some.inj hq52] at hr
       dsimp only at hr
       refine finG (fn := Tryz.f30) (rs := [.tmp 2]) (vs := [_]) hE rfl ⟨rfl, trivial⟩ ?_
       obtain rfl := Option.some.inj hr
       replace hS := hS.tail
       replace hS := hS.tail
       exact ⟨rfl, (hS.down hle123)⟩
     ·replace hq52 := iteF hc81 hq52
      refine W.skip ?_
      subst hK56
      exact ⟨Option.some.inj hq52, hE.pick _ ⟨rfl, trivial⟩, hS⟩
  ·clear hE hS a w; rintro a w ⟨rfl, hE, hS⟩
   dsimp only at hr
   refine W.seq ?_
   refine W.gen fun K125 hK125 => ?_
   refine rE hS [] [] [0, 1, 2, 3, 4] [0, 1, 2, 3, 4] mixed ?_
   replace hS := hS.drew
   refine Rg.takeP (i := 1) hE rfl (by kernel_rfl) (runs_plain rfl) (Gives.fld hE rfl fl43_0) rfl (tw_sel (fun _ => hS) (fun _ => hS)) ?_; clear hE a; intro a hE
   refine Rg.take (i := 2) true rfl hE rfl (by kernel_rfl) (runs_plain rfl) (Gives.loadB hE 0 rfl rfl rfl ty3) rfl (tw_sel (fun _ => hS) (fun _ => hS)) ?_; clear hE a; intro a hE
   refine Rg.one (i := 0) true true rfl (by kernel_rfl) (by kernel_rfl) (by kernel_rfl) ?_
   obtain ⟨q126, hq127, hr⟩ := bndS hr
   have hc_ := Farenames_ok hS  hq127
   refine WL.fnq hE (hc_) (runs_plain rfl) bd56 rfl rfl rfl ?_
   clear hE hS hc_; rintro e w ⟨cs128, rfl, h129, hS⟩; refine ⟨_, rfl, ?_⟩; clear a; intro a hE
   subst h129
   refine WL.nil ?_
   refine ⟨⟨fun _ => hS, fun _ => hS⟩, ?_⟩
   obtain ⟨x130, hx131, hr⟩ := bindS hr
   obtain ⟨hi132, hlt133, hy134⟩ := gx_some hx131
   refine Rg.takeP (i := 3) hE rfl (by kernel_rfl) (runs_plain rfl) (Gives.indexMi hE (f := Value.string) (l := [q126.f0, q126.f1, q126.f2, q126.f3, q126.f4, q126.f5, q126.f6, q126.f7, q126.f8, q126.f9]) ar106 rfl rfl rfl rfl hi132 hy134) rfl (tw_sel (fun _ => hS) (fun _ => hS)) ?_; clear hE a; intro a hE
   refine Rg.takeP (i := 4) hE rfl (by kernel_rfl) (runs_plain rfl) (Gives.p hE rfl) rfl (tw_sel (fun _ => hS) (fun _ => hS)) ?_; clear hE a; intro a hE
   refine Rg.done (by kernel_rfl) ?_
   subst hK125
   refine W.seq ?_
   refine W.seq (W.region ?_)
   refine vP hS hE (Gives.fld hE rfl fl43_1) rfl ?_; clear hE a; intro a hE
   refine vP hS hE (Gives.loadB hE 0 rfl rfl rfl ty3) rfl ?_; clear hE a; intro a hE
   refine vP hS hE (Gives.fld hE rfl fl43_2) rfl ?_; clear hE a; intro a hE
   refine vP hS hE (Gives.loadB hE 0 rfl rfl rfl ty3) rfl ?_; clear hE a; intro a hE
   refine vP hS hE (Gives.build hE (vs := [(0, .int .i64 x0.A), (1, .int .i64 x0.B)]) [.int .i64 x0.A, .int .i64 x0.B] rfl (by kernel_rfl)) rfl ?_; clear hE a; intro a hE
   refine vP hS hE (Gives.p hE rfl) rfl ?_; clear hE a; intro a hE
   refine WL.nil ?_
   obtain ⟨q136, hq135, hr⟩ := bindS hr
   refine W.cut (fun a w => ∃ (q146 : ByteArray), q146 = q136 ∧ Rep a 71 [(7, .string q146)] ∧ St w s (pt b51 (.cells #[.int .i64 x0.Kind, .int .i64 x0.A, .int .i64 x0.B, .slice a0_0 x0.Kids.length c0_0] 43 (0, 0)) :: R)) ?_ ?_
   ·refine W.block ?_
    refine W.loop (fun m a w => ∃ (rest139 : List Int) (k137 : Nat), ∃ (q146 : ByteArray), rest139.length = m ∧ [x0.A, x0.B].drop k137 = rest139 ∧ FareCondtext.loop2 x0 rest139 k137 q146 = some q136 ∧ Rep a 71 [(1, .pointer (some ⟨b51, 0, none⟩)), (7, .string q146), (54, .agg (List.toArray [.int .i64 x0.A, .int .i64 x0.B])), (55, .int .i64 ((k137 : Nat) : Int))] ∧ St w s (pt b51 (.cells #[.int .i64 x0.Kind, .int .i64 x0.A, .int .i64 x0.B, .slice a0_0 x0.Kids.length c0_0] 43 (0, 0)) :: R)) (m := [x0.A, x0.B].length) ⟨[x0.A, x0.B], 0, x130, rfl, rfl, hq135, hE.pick _ ⟨rfl, rfl, rfl, rfl, trivial⟩, hS⟩ ?_
    clear hE hS a w hq135; rintro m143 a w ⟨rest139, k137, q146, rfl, hd140, hq135, hE, hS⟩
    refine W.gen fun K147 hK147 => ?_
    rcases rest139 with _ | ⟨x138, rest139⟩
    ·have hlt141 : 2 ≤ k137 := drop_nil hd140
     refine W.seq (W.region ?_)
     refine vP hS hE (Gives.p hE rfl) rfl ?_; clear hE a; intro a hE
     refine WL.nil ?_
     refine W.seq ?_
     refine W.condF hE rfl (decide_eq_false (by omega)) ?_
     subst hK147
     refine W.exit rfl ?_
     exact ⟨q146, Option.some.inj hq135, hE.pick _ ⟨rfl, trivial⟩, hS⟩
    ·obtain ⟨hlt141, hx142, hd140⟩ := drop_cons hd140
     replace hlt141 : k137 < 2 := hlt141
     rw [FareCondtext.loop2] at hq135
     refine W.seq (W.region ?_)
     refine vP hS hE (Gives.p hE rfl) rfl ?_; clear hE a; intro a hE
     refine WL.nil ?_
     refine W.seq ?_
     refine W.condT hE rfl (decide_eq_true (by omega)) ?_
     refine W.skip ?_
     refine W.seq ?_
     refine W.block ?_
     refine W.seq (W.region ?_)
     refine vP hS hE (Gives.p hE rfl) rfl ?_; clear hE a; intro a hE
     refine vP hS hE (Gives.indexM hE (f := (Value.int .i64)) (l := [x0.A, x0.B]) (k := k137) ar96 rfl rfl rfl rfl hx142) rfl ?_; clear hE a; intro a hE
     refine vP hS hE (Gives.p hE rfl) rfl ?_; clear hE a; intro a hE
     refine vP hS hE (Gives.p hE rfl) rfl ?_; clear hE a; intro a hE
     refine WL.nil ?_
     refine W.seq (W.region ?_)
     refine vP hS hE (Gives.p hE rfl) rfl ?_; clear hE a; intro a hE
     refine vP hS hE (Gives.fld hE rfl fl43_0) rfl ?_; clear hE a; intro a hE
     refine vP hS hE (Gives.loadB hE 0 rfl rfl rfl ty3) rfl ?_; clear hE a; intro a hE
     refine WL.fnq hE (Farenumbers_ok hS  rfl (r := Farenumbers x0.Kind)) (runs_plain rfl) bd57 rfl rfl rfl ?_
     clear hE hS; rintro e w ⟨rfl, hS⟩; refine ⟨_, rfl, ?_⟩; clear a; intro a hE
     refine vP hS hE (Gives.p hE rfl) rfl ?_; clear hE a; intro a hE
     refine WL.nil ?_
     obtain ⟨q149, hq148, hq135⟩ := bindS hq135
     refine W.cut (fun a w => ∃ (q152 : ByteArray), q152 = q149 ∧ Rep a 71 [(1, .pointer (some ⟨b51, 0, none⟩)), (7, .string q152), (54, .agg (List.toArray [.int .i64 x0.A, .int .i64 x0.B])), (55, .int .i64 ((k137 : Nat) : Int))] ∧ St w s (pt b51 (.cells #[.int .i64 x0.Kind, .int .i64 x0.A, .int .i64 x0.B, .slice a0_0 x0.Kids.length c0_0] 43 (0, 0)) :: R)) ?_ ?_
     ·refine W.gen fun K153 hK153 => ?_
      refine W.cond hE rfl (fun hc154 => ?_) (fun hc154 => ?_)
      ·replace hq148 := iteT hc154 hq148
       refine W.region ?_
       refine vP hS hE (Gives.p hE rfl) rfl ?_; clear hE a; intro a hE
       refine vP hS hE (Gives.p hE rfl) rfl ?_; clear hE a; intro a hE
       obtain ⟨q155, hq156, hq148⟩ := bindS hq148
       refine WL.fnq hE (itoa_ok hS (TabG.mono (Sg.Le.refl _) hTab).tab hq156) (runs_plain rfl) bd20 rfl rfl rfl ?_
       clear hE hS; rintro e w ⟨rfl, hS⟩; refine ⟨_, rfl, ?_⟩; clear a; intro a hE
       obtain ⟨x157, hx158, hq148⟩ := bindS hq148
       refine vP hS hE (Gives.catS hE rfl rfl hx158) rfl ?_; clear hE a; intro a hE
       obtain ⟨x159, hx160, hq148⟩ := bindS hq148
       refine vP hS hE (Gives.catS hE rfl rfl hx160) rfl ?_; clear hE a; intro a hE
       refine vP hS hE (Gives.p hE rfl) rfl ?_; clear hE a; intro a hE
       refine WL.nil ?_
       subst hK153
       exact ⟨x159, Option.some.inj hq148, hE.pick _ ⟨rfl, rfl, rfl, rfl, trivial⟩, hS⟩
      ·replace hq148 := iteF hc154 hq148
       refine W.skip ?_
       subst hK153
       exact ⟨q146, Option.some.inj hq148, hE.pick _ ⟨rfl, rfl, rfl, rfl, trivial⟩, hS⟩
     ·clear hE hS a w; rintro a w ⟨q152, rfl, hE, hS⟩
      refine W.region ?_
      refine vP hS hE (Gives.inc hE rfl (by omega)) rfl ?_; clear hE a; intro a hE
      refine vP hS hE (Gives.p hE rfl) rfl ?_; clear hE a; intro a hE
      refine WL.nil ?_
      subst hK147
      exact ⟨rest139.length, Nat.lt_succ_self _, rest139, k137 + 1, q152, rfl, hd140, hq135, hE.pick _ ⟨rfl, rfl, rfl, rfl, trivial⟩, hS⟩
   ·clear hE hS a w; rintro a w ⟨q146, rfl, hE, hS⟩
    refine W.seq (W.region ?_)
    refine vP hS hE (Gives.p hE rfl) rfl ?_; clear hE a; intro a hE
    refine vP hS hE (Gives.p hE rfl) rfl ?_; clear hE a; intro a hE
    refine WL.nil ?_
    refine W.ret ?_
    refine finG (fn := Tryz.f30) (rs := [.tmp 2]) (vs := [_]) hE rfl ⟨rfl, trivial⟩ ?_
    obtain rfl := Option.some.inj hr
    replace hS := hS.tail
    exact ⟨rfl, hS⟩
set_option maxHeartbeats 8000000 in
theorem Faredeeds_ok  {w : World} {s : Sg} {R : List HP}  (hS : St w s (R))  {r : Ar7str} (hr : Faredeeds = r) :
  Calls Tryz.prog 31 [].toArray w (fun e w => ∃ (cs0 : List Value), e = .returned (.agg cs0.toArray) ∧ RAr7str s cs0 r ∧ St w s (R)) := by
 refine enter Tryz.func31 rfl rfl rfl fun a hE => ?_
 rw [Faredeeds] at hr
 refine W.seq (W.region ?_)
 refine WL.alloc hE hS (runs_plain rfl) zr76 rfl ?_; clear hE hS a w; intro b51 a w hE hS
 refine WL.nil ?_
 refine W.seq (W.region ?_)
 refine vP hS hE (Gives.build hE (vs := [(0, .string (str [])), (1, .string (str [112, 101, 114, 99, 101, 110, 116])), (2, .string (str [109, 105, 110, 117, 115])), (3, .string (str [112, 108, 117, 115])), (4, .string (str [102, 105, 120])), (5, .string (str [97, 116, 109, 111, 115, 116])), (6, .string (str [97, 116, 108, 101, 97, 115, 116]))]) [.string (str []), .string (str [112, 101, 114, 99, 101, 110, 116]), .string (str [109, 105, 110, 117, 115]), .string (str [112, 108, 117, 115]), .string (str [102, 105, 120]), .string (str [97, 116, 109, 111, 115, 116]), .string (str [97, 116, 108, 101, 97, 115, 116])] rfl (by kernel_rfl)) rfl ?_; clear hE a; intro a hE
 refine WL.storeI hE hS 0 rfl [.string (str []), .string (str [112, 101, 114, 99, 101, 110, 116]), .string (str [109, 105, 110, 117, 115]), .string (str [112, 108, 117, 115]), .string (str [102, 105, 120]), .string (str [97, 116, 109, 111, 115, 116]), .string (str [97, 116, 108, 101, 97, 115, 116])] (runs_plain rfl) rfl rfl rfl ty76 rfl rfl rfl rfl ?_; clear hE hS a w; intro a w hE hS
 refine WL.nil ?_
 refine W.ret ?_
 refine finG (fn := Tryz.f31) (rs := [.cell 0 76]) (vs := [_]) hE rfl ⟨⟨_, rfl, .inl ⟨_, rfl, hS.seesAt 0 rfl, ty76⟩⟩, trivial⟩ ?_
 subst hr
 replace hS := hS.tail
 exact ⟨_, rfl, rfl, hS⟩
set_option maxHeartbeats 8000000 in
theorem FareTarifftext_ok {fu : Nat}  {w : World} {s : Sg} {R : List HP} {x0 : FareTariff} {a0_0 : Option Addr} {c0_0 : Nat} {a0_1 : Option Addr} {c0_1 : Nat} (hS : St w s (R)) (hTab : TabX s) (h0_0 : Sl 2 RFareBand s a0_0 c0_0 x0.Bands) (h0_1 : Sl 7 RFareRule s a0_1 c0_1 x0.Rules) {r : ByteArray} (hr : FareTarifftext fu x0 = some r) :
  Calls Tryz.prog 13 [.agg (List.toArray [.bool x0.ByKm, .slice a0_0 x0.Bands.length c0_0, .int .i64 x0.Round, .slice a0_1 x0.Rules.length c0_1])].toArray w (fun e w => e = .returned (.string r) ∧ St w s (R)) := by
 refine enter Tryz.func13 rfl rfl rfl fun a hE => ?_
 rw [FareTarifftext] at hr
 refine W.seq (W.region ?_)
 refine WL.box hE hS (runs_plain rfl) rfl rfl rfl ?_; clear hE hS a w; intro b51 a w hE hS
 refine vP hS hE (Gives.p hE rfl) rfl ?_; clear hE a; intro a hE
 refine WL.nil ?_
 refine W.seq (W.region ?_)
 refine WL.alloc hE hS (runs_plain rfl) zr70 rfl ?_; clear hE hS a w; intro b52 a w hE hS
 replace hS := hS.sbNew 5
 refine WL.nil ?_
 refine W.seq (W.region ?_)
 refine WL.mkMap (fk := keyB.f) (fv := Value.string) hE hS (runs_plain rfl) rfl ?_; clear hE hS a w; intro b53 a w hE hS
 refine WL.mapSet keyB hE hS 0 (k := false) (v := (str [122, 111, 110, 101, 115, 10])) (.inr rfl) (runs_plain rfl) rfl rfl rfl rfl mp75 rfl ?_; clear hE hS a w; intro a w hE hS
 refine WL.mapSet keyB hE hS 0 (k := true) (v := (str [107, 109, 10])) (.inr rfl) (runs_plain rfl) rfl rfl rfl rfl mp75 rfl ?_; clear hE hS a w; intro a w hE hS
 refine vP hS hE (Gives.p hE rfl) rfl ?_; clear hE a; intro a hE
 refine vP hS hE (Gives.fld hE rfl fl25_0) rfl ?_; clear hE a; intro a hE
 refine vP hS hE (Gives.loadB hE 2 rfl rfl rfl ty4) rfl ?_; clear hE a; intro a hE
 refine vP hS hE (Gives.mapGet keyB hE 0 (k := x0.ByKm) (z := ByteArray.empty) rfl rfl rfl mp75 zm9) rfl ?_; clear hE a; intro a hE
 replace hS := hS.front 1 rfl
 obtain ⟨q54, hq55, hr⟩ := bindS hr
 refine WL.fnq hE (sbWrite_ok hS hq55) (runs_plain rfl) bd29 rfl rfl rfl ?_
 clear hE hS; rintro e w ⟨rfl, hS⟩; refine ⟨_, rfl, ?_⟩; clear a; intro a hE
 refine WL.nil ?_
 refine W.seq ?_
 refine W.seq (W.region ?_)
 refine vP hS hE (Gives.fld hE rfl fl25_1) rfl ?_; clear hE a; intro a hE
 refine vP hS hE (Gives.loadB hE 2 rfl rfl rfl ty22) rfl ?_; clear hE a; intro a hE
 refine vP hS hE (Gives.len hE rfl sl22) rfl ?_; clear hE a; intro a hE
 refine vP hS hE (Gives.p hE rfl) rfl ?_; clear hE a; intro a hE
 refine WL.nil ?_
 obtain ⟨q57, hq56, hr⟩ := bindS hr
 refine W.cut (fun a w => ∃ (q67 : ByteArray), q67 = q57 ∧ Rep a 67 [(1, .pointer (some ⟨b51, 0, none⟩)), (3, .pointer (some ⟨b52, 0, none⟩))] ∧ St w s (sbC 70 5 b52 q67 :: mapC keyB.f Value.string b53 (mput (mput [] false (str [122, 111, 110, 101, 115, 10])) true (str [107, 109, 10])) :: pt b51 (.cells #[.bool x0.ByKm, .slice a0_0 x0.Bands.length c0_0, .int .i64 x0.Round, .slice a0_1 x0.Rules.length c0_1] 25 (0, 0)) :: R)) ?_ ?_
 ·refine W.block ?_
  refine W.loop (fun m a w => ∃ (rest60 : List FareBand) (k58 : Nat), ∃ (q67 : ByteArray), rest60.length = m ∧ x0.Bands.drop k58 = rest60 ∧ FareTarifftext.loop1 rest60 q67 = some q57 ∧ Rep a 67 [(1, .pointer (some ⟨b51, 0, none⟩)), (3, .pointer (some ⟨b52, 0, none⟩)), (15, .slice a0_0 x0.Bands.length c0_0), (16, .int .i64 ((x0.Bands).length : Int)), (17, .int .i64 ((k58 : Nat) : Int))] ∧ St w s (sbC 70 5 b52 q67 :: mapC keyB.f Value.string b53 (mput (mput [] false (str [122, 111, 110, 101, 115, 10])) true (str [107, 109, 10])) :: pt b51 (.cells #[.bool x0.ByKm, .slice a0_0 x0.Bands.length c0_0, .int .i64 x0.Round, .slice a0_1 x0.Rules.length c0_1] 25 (0, 0)) :: R)) (m := x0.Bands.length) ⟨x0.Bands, 0, q54, rfl, rfl, hq56, hE.pick _ ⟨rfl, rfl, rfl, rfl, rfl, trivial⟩, hS⟩ ?_
  clear hE hS a w hq56; rintro m64 a w ⟨rest60, k58, q67, rfl, hd61, hq56, hE, hS⟩
  refine W.gen fun K68 hK68 => ?_
  rcases rest60 with _ | ⟨x59, rest60⟩
  ·have hlt62 := drop_nil hd61
   refine W.seq (W.region ?_)
   refine vP hS hE (Gives.p hE rfl) rfl ?_; clear hE a; intro a hE
   refine WL.nil ?_
   refine W.seq ?_
   refine W.condF hE rfl (decide_eq_false (by omega)) ?_
   subst hK68
   refine W.exit rfl ?_
   exact ⟨q67, Option.some.inj hq56, hE.pick _ ⟨rfl, rfl, trivial⟩, hS⟩
  ·obtain ⟨hlt62, hx63, hd61⟩ := drop_cons hd61
   rw [FareTarifftext.loop1] at hq56
   refine W.seq (W.region ?_)
   refine vP hS hE (Gives.p hE rfl) rfl ?_; clear hE a; intro a hE
   refine WL.nil ?_
   refine W.seq ?_
   refine W.condT hE rfl (decide_eq_true (by omega)) ?_
   refine W.skip ?_
   refine W.seq ?_
   refine W.block ?_
   refine W.seq (W.region ?_)
   obtain ⟨cs69, hl70, hR71, hat72⟩ := h0_0.at hx63
   subst hR71
   refine vP hS hE (Gives.idx hE k58 rfl rfl sl22 rfl hlt62 (h0_0.aok hlt62)) rfl ?_; clear hE a; intro a hE
   refine vP hS hE (Gives.loadA hE rfl (fun w h => hat72 w _ h) ty40) rfl ?_; clear hE a; intro a hE
   refine WL.alloc hE hS (runs_plain rfl) zr40 rfl ?_; clear hE hS a w; intro b73 a w hE hS
   refine WL.storeI hE hS 0 rfl (FareBand.cells x59) (runs_plain rfl) rfl rfl rfl ty40 rfl rfl rfl rfl ?_; clear hE hS a w; intro a w hE hS
   refine WL.nil ?_
   refine W.gen fun K74 hK74 => ?_
   refine rE hS [] [1] [0, 1, 2, 3, 4, 5, 6, 7, 8, 9] [0, 1, 2, 3, 4, 5, 6, 7, 8, 9, 10] mixed ?_
   replace hS := hS.drew
   refine Rg.takeP (i := 0) hE rfl (by kernel_rfl) (runs_plain rfl) (Gives.fld hE rfl fl40_0) rfl (tw_sel (fun _ => hS) (fun _ => (hS.dropAt 1))) ?_; clear hE a; intro a hE
   refine Rg.take (i := 1) false rfl hE rfl (by kernel_rfl) (runs_plain rfl) (Gives.loadB hE 0 rfl rfl rfl ty3) rfl (tw_sel (fun _ => hS) (fun _ => (hS.dropAt 1))) ?_; clear hE a; intro a hE
   refine Rg.takeP (i := 5) hE rfl (by kernel_rfl) (runs_plain rfl) (Gives.fld hE rfl fl40_1) rfl (tw_sel (fun _ => hS) (fun _ => (hS.dropAt 1))) ?_; clear hE a; intro a hE
   refine Rg.take (i := 6) false rfl hE rfl (by kernel_rfl) (runs_plain rfl) (Gives.loadB hE 0 rfl rfl rfl ty3) rfl (tw_sel (fun _ => hS) (fun _ => (hS.dropAt 1))) ?_; clear hE a; intro a hE
   refine Rg.one (i := 2) true true rfl (by kernel_rfl) (by kernel_rfl) (by kernel_rfl) ?_
   obtain ⟨q75, hq76, hq56⟩ := bindS hq56
   refine WL.fnq hE (itoa_ok hS (TabG.mono (Sg.Le.refl _) hTab).tab hq76) (runs_plain rfl) bd20 rfl rfl rfl ?_
   clear hE hS; rintro e w ⟨rfl, hS⟩; refine ⟨_, rfl, ?_⟩; clear a; intro a hE
   refine WL.nil ?_
   refine ⟨⟨fun _ => hS, fun _ => (hS.dropAt 1)⟩, ?_⟩
   obtain ⟨x77, hx78, hq56⟩ := bindS hq56
   refine Rg.takeP (i := 3) hE rfl (by kernel_rfl) (runs_plain rfl) (Gives.catS hE rfl rfl hx78) rfl (tw_sel (fun _ => hS) (fun _ => (hS.dropAt 1))) ?_; clear hE a; intro a hE
   obtain ⟨x79, hx80, hq56⟩ := bindS hq56
   refine Rg.takeP (i := 4) hE rfl (by kernel_rfl) (runs_plain rfl) (Gives.catS hE rfl rfl hx80) rfl (tw_sel (fun _ => hS) (fun _ => (hS.dropAt 1))) ?_; clear hE a; intro a hE
   refine Rg.one (i := 7) true true rfl (by kernel_rfl) (by kernel_rfl) (by kernel_rfl) ?_
   obtain ⟨q81, hq82, hq56⟩ := bindS hq56
   refine WL.fnq hE (itoa_ok hS (TabG.mono (Sg.Le.refl _) hTab).tab hq82) (runs_plain rfl) bd20 rfl rfl rfl ?_
   clear hE hS; rintro e w ⟨rfl, hS⟩; refine ⟨_, rfl, ?_⟩; clear a; intro a hE
   refine WL.nil ?_
   refine ⟨⟨fun _ => hS, fun _ => (hS.dropAt 1)⟩, ?_⟩
   obtain ⟨x83, hx84, hq56⟩ := bindS hq56
   refine Rg.takeP (i := 8) hE rfl (by kernel_rfl) (runs_plain rfl) (Gives.catS hE rfl rfl hx84) rfl (tw_sel (fun _ => hS) (fun _ => (hS.dropAt 1))) ?_; clear hE a; intro a hE
   obtain ⟨x85, hx86, hq56⟩ := bindS hq56
   refine Rg.takeP (i := 9) hE rfl (by kernel_rfl) (runs_plain rfl) (Gives.catS hE rfl rfl hx86) rfl (tw_sel (fun _ => hS) (fun _ => (hS.dropAt 1))) ?_; clear hE a; intro a hE
   refine Rg.one (i := 10) false true rfl (by kernel_rfl) (by kernel_rfl) (by kernel_rfl) ?_
   replace hS := hS.front 1 rfl
   obtain ⟨q87, hq88, hq56⟩ := bindS hq56
   refine WL.fnq hE (sbWrite_ok hS hq88) (runs_plain rfl) bd29 rfl rfl rfl ?_
   clear hE hS; rintro e w ⟨rfl, hS⟩; refine ⟨_, rfl, ?_⟩; clear a; intro a hE
   refine WL.nil ?_
   refine ⟨⟨fun h => absurd h (by decide), fun _ => (hS.tail)⟩, ?_⟩
   refine Rg.done (by kernel_rfl) ?_
   subst hK74
   refine W.region ?_
   refine vP hS hE (Gives.inc hE rfl (by have := h0_0.small; omega)) rfl ?_; clear hE a; intro a hE
   refine vP hS hE (Gives.p hE rfl) rfl ?_; clear hE a; intro a hE
   refine WL.nil ?_
   replace hS := hS.dropAt 1
   subst hK68
   exact ⟨rest60.length, Nat.lt_succ_self _, rest60, k58 + 1, q87, rfl, hd61, hq56, hE.pick _ ⟨rfl, rfl, rfl, rfl, rfl, trivial⟩, hS⟩
 ·clear hE hS a w; rintro a w ⟨q67, rfl, hE, hS⟩
  refine W.seq (W.region ?_)
  refine vP hS hE (Gives.fld hE rfl fl25_2) rfl ?_; clear hE a; intro a hE
  refine vP hS hE (Gives.loadB hE 2 rfl rfl rfl ty3) rfl ?_; clear hE a; intro a hE
  obtain ⟨q89, hq90, hr⟩ := bindS hr
  refine WL.fnq hE (itoa_ok hS (TabG.mono (Sg.Le.refl _) hTab).tab hq90) (runs_plain rfl) bd20 rfl rfl rfl ?_
  clear hE hS; rintro e w ⟨rfl, hS⟩; refine ⟨_, rfl, ?_⟩; clear a; intro a hE
  obtain ⟨x91, hx92, hr⟩ := bindS hr
  refine vP hS hE (Gives.catS hE rfl rfl hx92) rfl ?_; clear hE a; intro a hE
  obtain ⟨x93, hx94, hr⟩ := bindS hr
  refine vP hS hE (Gives.catS hE rfl rfl hx94) rfl ?_; clear hE a; intro a hE
  obtain ⟨q95, hq96, hr⟩ := bindS hr
  refine WL.fnq hE (sbWrite_ok hS hq96) (runs_plain rfl) bd29 rfl rfl rfl ?_
  clear hE hS; rintro e w ⟨rfl, hS⟩; refine ⟨_, rfl, ?_⟩; clear a; intro a hE
  refine WL.nil ?_
  refine W.seq ?_
  refine W.seq (W.region ?_)
  refine vP hS hE (Gives.fld hE rfl fl25_3) rfl ?_; clear hE a; intro a hE
  refine vP hS hE (Gives.loadB hE 2 rfl rfl rfl ty23) rfl ?_; clear hE a; intro a hE
  refine vP hS hE (Gives.len hE rfl sl23) rfl ?_; clear hE a; intro a hE
  refine vP hS hE (Gives.p hE rfl) rfl ?_; clear hE a; intro a hE
  refine WL.nil ?_
  obtain ⟨q98, hq97, hr⟩ := bindS hr
  refine W.cut (fun a w => ∃ (q108 : ByteArray), q108 = q98 ∧ Rep a 67 [(3, .pointer (some ⟨b52, 0, none⟩))] ∧ St w s (sbC 70 5 b52 q108 :: mapC keyB.f Value.string b53 (mput (mput [] false (str [122, 111, 110, 101, 115, 10])) true (str [107, 109, 10])) :: pt b51 (.cells #[.bool x0.ByKm, .slice a0_0 x0.Bands.length c0_0, .int .i64 x0.Round, .slice a0_1 x0.Rules.length c0_1] 25 (0, 0)) :: R)) ?_ ?_
  ·refine W.block ?_
   refine W.loop (fun m a w => ∃ (rest101 : List FareRule) (k99 : Nat), ∃ (q108 : ByteArray), rest101.length = m ∧ x0.Rules.drop k99 = rest101 ∧ FareTarifftext.loop2 fu rest101 q108 = some q98 ∧ Rep a 67 [(3, .pointer (some ⟨b52, 0, none⟩)), (40, .slice a0_1 x0.Rules.length c0_1), (41, .int .i64 ((x0.Rules).length : Int)), (42, .int .i64 ((k99 : Nat) : Int))] ∧ St w s (sbC 70 5 b52 q108 :: mapC keyB.f Value.string b53 (mput (mput [] false (str [122, 111, 110, 101, 115, 10])) true (str [107, 109, 10])) :: pt b51 (.cells #[.bool x0.ByKm, .slice a0_0 x0.Bands.length c0_0, .int .i64 x0.Round, .slice a0_1 x0.Rules.length c0_1] 25 (0, 0)) :: R)) (m := x0.Rules.length) ⟨x0.Rules, 0, q95, rfl, rfl, hq97, hE.pick _ ⟨rfl, rfl, rfl, rfl, trivial⟩, hS⟩ ?_
   clear hE hS a w hq97; rintro m105 a w ⟨rest101, k99, q108, rfl, hd102, hq97, hE, hS⟩
   refine W.gen fun K109 hK109 => ?_
   rcases rest101 with _ | ⟨x100, rest101⟩
   ·have hlt103 := drop_nil hd102
    refine W.seq (W.region ?_)
    refine vP hS hE (Gives.p hE rfl) rfl ?_; clear hE a; intro a hE
    refine WL.nil ?_
    refine W.seq ?_
    refine W.condF hE rfl (decide_eq_false (by omega)) ?_
    subst hK109
    refine W.exit rfl ?_
    exact ⟨q108, Option.some.inj hq97, hE.pick _ ⟨rfl, trivial⟩, hS⟩
   ·obtain ⟨hlt103, hx104, hd102⟩ := drop_cons hd102
    rw [FareTarifftext.loop2] at hq97
    refine W.seq (W.region ?_)
    refine vP hS hE (Gives.p hE rfl) rfl ?_; clear hE a; intro a hE
    refine WL.nil ?_
    refine W.seq ?_
    refine W.condT hE rfl (decide_eq_true (by omega)) ?_
    refine W.skip ?_
    refine W.seq ?_
    refine W.block ?_
    refine W.seq (W.region ?_)
    obtain ⟨cs110, hl111, hR112, hat113⟩ := h0_1.at hx104
    obtain ⟨a114, c115, rfl, h116⟩ := hR112
    refine vP hS hE (Gives.idx hE k99 rfl rfl sl23 rfl hlt103 (h0_1.aok hlt103)) rfl ?_; clear hE a; intro a hE
    refine vP hS hE (Gives.loadA hE rfl (fun w h => hat113 w _ h) ty45) rfl ?_; clear hE a; intro a hE
    refine WL.alloc hE hS (runs_plain rfl) zr45 rfl ?_; clear hE hS a w; intro b117 a w hE hS
    refine WL.storeI hE hS 0 rfl [.int .i64 x100.If.Kind, .int .i64 x100.If.A, .int .i64 x100.If.B, .slice a114 x100.If.Kids.length c115, .int .i64 x100.Do, .int .i64 x100.N, .bool x100.Stop] (runs_plain rfl) rfl rfl rfl ty45 rfl rfl rfl rfl ?_; clear hE hS a w; intro a w hE hS
    refine WL.nil ?_
    refine W.seq ?_
    refine W.gen fun K118 hK118 => ?_
    refine rE hS [] [1] [0, 1, 2, 3, 4, 5, 6, 7, 8, 9, 10, 11, 12, 13] [0, 1, 2, 3, 4, 5, 6, 7, 8, 9, 10, 11, 12, 13, 14] mixed ?_
    replace hS := hS.drew
    refine Rg.takeP (i := 0) hE rfl (by kernel_rfl) (runs_plain rfl) (Gives.fld hE rfl fl45_0) rfl (tw_sel (fun _ => hS) (fun _ => (hS.dropAt 1))) ?_; clear hE a; intro a hE
    refine Rg.take (i := 1) false rfl hE rfl (by kernel_rfl) (runs_plain rfl) (Gives.loadA (cs := [.int .i64 x100.If.Kind, .int .i64 x100.If.A, .int .i64 x100.If.B, .slice a114 x100.If.Kids.length c115]) hE rfl (fun w h => (St.seesAt h 0 rfl).part 0 4) ty43) rfl (tw_sel (fun _ => hS) (fun _ => (hS.dropAt 1))) ?_; clear hE a; intro a hE
    refine Rg.takeP (i := 5) hE rfl (by kernel_rfl) (runs_plain rfl) (Gives.fld hE rfl fl45_1) rfl (tw_sel (fun _ => hS) (fun _ => (hS.dropAt 1))) ?_; clear hE a; intro a hE
    refine Rg.take (i := 6) false rfl hE rfl (by kernel_rfl) (runs_plain rfl) (Gives.loadB hE 0 rfl rfl rfl ty3) rfl (tw_sel (fun _ => hS) (fun _ => (hS.dropAt 1))) ?_; clear hE a; intro a hE
    refine Rg.takeP (i := 10) hE rfl (by kernel_rfl) (runs_plain rfl) (Gives.fld hE rfl fl45_2) rfl (tw_sel (fun _ => hS) (fun _ => (hS.dropAt 1))) ?_; clear hE a; intro a hE
    refine Rg.take (i := 11) false rfl hE rfl (by kernel_rfl) (runs_plain rfl) (Gives.loadB hE 0 rfl rfl rfl ty3) rfl (tw_sel (fun _ => hS) (fun _ => (hS.dropAt 1))) ?_; clear hE a; intro a hE
    refine Rg.one (i := 2) true true rfl (by kernel_rfl) (by kernel_rfl) (by kernel_rfl) ?_
    obtain ⟨q119, hq120, hq97⟩ := bindS hq97
    have hc_ := FareCondtext_ok hS (TabG.mono (Sg.Le.refl _) hTab) h116 hq120
    refine WL.fnq hE (hc_) (runs_plain rfl) bd30 rfl rfl rfl ?_
    clear hE hS hc_; rintro e w ⟨rfl, hS⟩; refine ⟨_, rfl, ?_⟩; clear a; intro a hE
    refine WL.nil ?_
    refine ⟨⟨fun _ => hS, fun _ => (hS.dropAt 1)⟩, ?_⟩
    obtain ⟨x121, hx122, hq97⟩ := bindS hq97
    refine Rg.takeP (i := 3) hE rfl (by kernel_rfl) (runs_plain rfl) (Gives.catS hE rfl rfl hx122) rfl (tw_sel (fun _ => hS) (fun _ => (hS.dropAt 1))) ?_; clear hE a; intro a hE
    refine Rg.one (i := 4) true true rfl (by kernel_rfl) (by kernel_rfl) (by kernel_rfl) ?_
    obtain ⟨q123, hq124, hq97⟩ := bndS hq97
    have hc_ := Faredeeds_ok hS  hq124
    refine WL.fnq hE (hc_) (runs_plain rfl) bd31 rfl rfl rfl ?_
    clear hE hS hc_; rintro e w ⟨cs125, rfl, h126, hS⟩; refine ⟨_, rfl, ?_⟩; clear a; intro a hE
    subst h126
    refine WL.nil ?_
    refine ⟨⟨fun _ => hS, fun _ => (hS.dropAt 1)⟩, ?_⟩
    obtain ⟨x127, hx128, hq97⟩ := bindS hq97
    obtain ⟨hi129, hlt130, hy131⟩ := gx_some hx128
    refine Rg.takeP (i := 7) hE rfl (by kernel_rfl) (runs_plain rfl) (Gives.indexMi hE (f := Value.string) (l := [q123.f0, q123.f1, q123.f2, q123.f3, q123.f4, q123.f5, q123.f6]) ar76 rfl rfl rfl rfl hi129 hy131) rfl (tw_sel (fun _ => hS) (fun _ => (hS.dropAt 1))) ?_; clear hE a; intro a hE
    obtain ⟨x132, hx133, hq97⟩ := bindS hq97
    refine Rg.takeP (i := 8) hE rfl (by kernel_rfl) (runs_plain rfl) (Gives.catS hE rfl rfl hx133) rfl (tw_sel (fun _ => hS) (fun _ => (hS.dropAt 1))) ?_; clear hE a; intro a hE
    obtain ⟨x134, hx135, hq97⟩ := bindS hq97
    refine Rg.takeP (i := 9) hE rfl (by kernel_rfl) (runs_plain rfl) (Gives.catS hE rfl rfl hx135) rfl (tw_sel (fun _ => hS) (fun _ => (hS.dropAt 1))) ?_; clear hE a; intro a hE
    refine Rg.one (i := 12) true true rfl (by kernel_rfl) (by kernel_rfl) (by kernel_rfl) ?_
    obtain ⟨q136, hq137, hq97⟩ := bindS hq97
    refine WL.fnq hE (itoa_ok hS (TabG.mono (Sg.Le.refl _) hTab).tab hq137) (runs_plain rfl) bd20 rfl rfl rfl ?_
    clear hE hS; rintro e w ⟨rfl, hS⟩; refine ⟨_, rfl, ?_⟩; clear a; intro a hE
    refine WL.nil ?_
    refine ⟨⟨fun _ => hS, fun _ => (hS.dropAt 1)⟩, ?_⟩
    obtain ⟨x138, hx139, hq97⟩ := bindS hq97
    refine Rg.takeP (i := 13) hE rfl (by kernel_rfl) (runs_plain rfl) (Gives.catS hE rfl rfl hx139) rfl (tw_sel (fun _ => hS) (fun _ => (hS.dropAt 1))) ?_; clear hE a; intro a hE
    refine Rg.one (i := 14) false true rfl (by kernel_rfl) (by kernel_rfl) (by kernel_rfl) ?_
    replace hS := hS.front 1 rfl
    obtain ⟨q140, hq141, hq97⟩ := bindS hq97
    refine WL.fnq hE (sbWrite_ok hS hq141) (runs_plain rfl) bd29 rfl rfl rfl ?_
    clear hE hS; rintro e w ⟨rfl, hS⟩; refine ⟨_, rfl, ?_⟩; clear a; intro a hE
    refine WL.nil ?_
    refine ⟨⟨fun h => absurd h (by decide), fun _ => (hS.tail)⟩, ?_⟩
    refine Rg.done (by kernel_rfl) ?_
    subst hK118
    refine W.seq ?_
    refine W.seq (W.region ?_)
    refine vP hS hE (Gives.fld hE rfl fl45_3) rfl ?_; clear hE a; intro a hE
    refine vP hS hE (Gives.loadB hE 1 rfl rfl rfl ty4) rfl ?_; clear hE a; intro a hE
    refine WL.nil ?_
    refine W.cond hE rfl (fun hc142 => ?_) (fun hc142 => ?_)
    ·replace hq97 := iteT hc142 hq97
     refine W.region ?_
     obtain ⟨q143, hq144, hq97⟩ := bindS hq97
     refine WL.fnq hE (sbWrite_ok hS hq144) (runs_plain rfl) bd29 rfl rfl rfl ?_
     clear hE hS; rintro e w ⟨rfl, hS⟩; refine ⟨_, rfl, ?_⟩; clear a; intro a hE
     refine WL.nil ?_
     refine W.region ?_
     obtain ⟨q145, hq146, hq97⟩ := bindS hq97
     refine WL.fnq hE (sbWrite_ok hS hq146) (runs_plain rfl) bd29 rfl rfl rfl ?_
     clear hE hS; rintro e w ⟨rfl, hS⟩; refine ⟨_, rfl, ?_⟩; clear a; intro a hE
     refine WL.nil ?_
     refine W.region ?_
     refine vP hS hE (Gives.inc hE rfl (by have := h0_1.small; omega)) rfl ?_; clear hE a; intro a hE
     refine vP hS hE (Gives.p hE rfl) rfl ?_; clear hE a; intro a hE
     refine WL.nil ?_
     replace hS := hS.dropAt 1
     subst hK109
     exact ⟨rest101.length, Nat.lt_succ_self _, rest101, k99 + 1, q145, rfl, hd102, hq97, hE.pick _ ⟨rfl, rfl, rfl, rfl, trivial⟩, hS⟩
    ·replace hq97 := iteF hc142 hq97
     refine W.skip ?_
     refine W.region ?_
     obtain ⟨q147, hq148, hq97⟩ := bindS hq97
     refine WL.fnq hE (sbWrite_ok hS hq148) (runs_plain rfl) bd29 rfl rfl rfl ?_
     clear hE hS; rintro e w ⟨rfl, hS⟩; refine ⟨_, rfl, ?_⟩; clear a; intro a hE
     refine WL.nil ?_
     refine W.region ?_
     refine vP hS hE (Gives.inc hE rfl (by have := h0_1.small; omega)) rfl ?_; clear hE a; intro a hE
     refine vP hS hE (Gives.p hE rfl) rfl ?_; clear hE a; intro a hE
     refine WL.nil ?_
     replace hS := hS.dropAt 1
     subst hK109
     exact ⟨rest101.length, Nat.lt_succ_self _, rest101, k99 + 1, q147, rfl, hd102, hq97, hE.pick _ ⟨rfl, rfl, rfl, rfl, trivial⟩, hS⟩
  ·clear hE hS a w; rintro a w ⟨q108, rfl, hE, hS⟩
   refine W.seq (W.region ?_)
   refine WL.fnq hE (sbString_ok hS) (runs_plain rfl) bd32 rfl rfl rfl ?_
   clear hE hS; rintro e w ⟨rfl, hS⟩; refine ⟨_, rfl, ?_⟩; clear a; intro a hE
   refine vP hS hE (Gives.p hE rfl) rfl ?_; clear hE a; intro a hE
   refine WL.nil ?_
   refine W.ret ?_
   refine finG (fn := Tryz.f13) (rs := [.tmp 2]) (vs := [_]) hE rfl ⟨rfl, trivial⟩ ?_
   obtain rfl := Option.some.inj hr
   replace hS := hS.tail
   replace hS := hS.tail
   exact ⟨rfl, hS⟩
set_option maxHeartbeats 8000000 in
theorem FareText_ok {fu : Nat}  {w : World} {s : Sg} {R : List HP} {x0 : FareTariff} {a0_0 : Option Addr} {c0_0 : Nat} {a0_1 : Option Addr} {c0_1 : Nat} (hS : St w s (R)) (hTab : TabX s) (h0_0 : Sl 2 RFareBand s a0_0 c0_0 x0.Bands) (h0_1 : Sl 7 RFareRule s a0_1 c0_1 x0.Rules) {r : ByteArray × Int} (hr : FareText fu x0 = some r) :
  Calls Tryz.prog 5 [.agg (List.toArray [.bool x0.ByKm, .slice a0_0 x0.Bands.length c0_0, .int .i64 x0.Round, .slice a0_1 x0.Rules.length c0_1])].toArray w (fun e w => e = .returned (.tuple #[.string r.1, .int .i64 r.2]) ∧ St w s (R)) := by
 refine enter Tryz.func5 rfl rfl rfl fun a hE => ?_
 rw [FareText] at hr
 refine W.seq (W.region ?_)
 refine WL.box hE hS (runs_plain rfl) rfl rfl rfl ?_; clear hE hS a w; intro b51 a w hE hS
 refine vP hS hE (Gives.p hE rfl) rfl ?_; clear hE a; intro a hE
 refine vP hS hE (Gives.p hE rfl) rfl ?_; clear hE a; intro a hE
 refine WL.nil ?_
 refine W.seq ?_
 refine W.seq (W.region ?_)
 refine vP hS hE (Gives.loadBA hE 0 rfl rfl ty25) rfl ?_; clear hE a; intro a hE
 obtain ⟨q52, hq53, hr⟩ := bindS hr
 have hc_ := FareCheckTariff_ok hS h0_0 h0_1 hq53
 refine WL.fnq hE (hc_) (runs_plain rfl) bd12 rfl rfl rfl ?_
 clear hE hS hc_; rintro e w ⟨rfl, hS⟩; refine ⟨_, rfl, ?_⟩; clear a; intro a hE
 refine vP hS hE (Gives.p hE rfl) rfl ?_; clear hE a; intro a hE
 refine WL.nil ?_
 refine W.seq (W.region ?_)
 refine vP hS hE (Gives.p hE rfl) rfl ?_; clear hE a; intro a hE
 refine vP hS hE (Gives.p hE rfl) rfl ?_; clear hE a; intro a hE
 refine WL.nil ?_
 refine W.cond hE rfl (fun hc54 => ?_) (fun hc54 => ?_)
 ·replace hr := iteT hc54 hr
  refine W.seq (W.region ?_)
  refine vP hS hE (Gives.p hE rfl) rfl ?_; clear hE a; intro a hE
  refine vP hS hE (Gives.p hE rfl) rfl ?_; clear hE a; intro a hE
  refine vP hS hE (Gives.p hE rfl) rfl ?_; clear hE a; intro a hE
  refine WL.nil ?_
  refine W.ret ?_
  refine finG (fn := Tryz.f5) (rs := [.tmp 2, .tmp 3]) (vs := [_, _]) hE rfl ⟨rfl, rfl, trivial⟩ ?_
  obtain rfl := Option.some.inj hr
  replace hS := hS.tail
  exact ⟨rfl, hS⟩
 ·replace hr := iteF hc54 hr
  refine W.skip ?_
  refine W.seq (W.region ?_)
  refine vP hS hE (Gives.loadBA hE 0 rfl rfl ty25) rfl ?_; clear hE a; intro a hE
  obtain ⟨q55, hq56, hr⟩ := bindS hr
  have hc_ := FareTarifftext_ok hS (TabG.mono (Sg.Le.refl _) hTab) h0_0 h0_1 hq56
  refine WL.fnq hE (hc_) (runs_plain rfl) bd13 rfl rfl rfl ?_
  clear hE hS hc_; rintro e w ⟨rfl, hS⟩; refine ⟨_, rfl, ?_⟩; clear a; intro a hE
  refine vP hS hE (Gives.p hE rfl) rfl ?_; clear hE a; intro a hE
  refine vP hS hE (Gives.p hE rfl) rfl ?_; clear hE a; intro a hE
  refine WL.nil ?_
  refine W.ret ?_
  refine finG (fn := Tryz.f5) (rs := [.tmp 2, .tmp 3]) (vs := [_, _]) hE rfl ⟨rfl, rfl, trivial⟩ ?_
  obtain rfl := Option.some.inj hr
  replace hS := hS.tail
  exact ⟨rfl, hS⟩
set_option maxHeartbeats 8000000 in
theorem Fishref2within_ok  {w : World} {s : Sg} {R : List HP} {x0 : Int} {x1 : Int} {x2 : Int} (hS : St w s (R))  {r : Bool} (hr : Fishref2within x0 x1 x2 = r) :
  Calls Tryz.prog 14 [.int .i64 x0, .int .i64 x1, .int .i64 x2].toArray w (fun e w => e = .returned (.bool r) ∧ St w s (R)) := by
 refine enter Tryz.func14 rfl rfl rfl fun a hE => ?_
 rw [Fishref2within] at hr
 refine W.seq (W.region ?_)
 refine vP hS hE (Gives.p hE rfl) rfl ?_; clear hE a; intro a hE
 refine WL.nil ?_
 refine W.seq ?_
 obtain ⟨q52, hq51, hr⟩ := bndS hr
 refine W.cut (fun a w => ∃ (q55 : Bool), q55 = q52 ∧ Rep a 15 [(6, .bool q55)] ∧ St w s (R)) ?_ ?_
 ·refine W.gen fun K56 hK56 => ?_
  refine W.region ?_
  refine vP hS hE (Gives.p hE rfl) rfl ?_; clear hE a; intro a hE
  refine vP hS hE (Gives.p hE rfl) rfl ?_; clear hE a; intro a hE
  refine vP hS hE (Gives.p hE rfl) rfl ?_; clear hE a; intro a hE
  refine vP hS hE (Gives.p hE rfl) rfl ?_; clear hE a; intro a hE
  rcases Bool.eq_false_or_eq_true (decide (x0 ≥ x1)) with hg57 | hg57
  ·replace hq51 := iteT hg57 hq51
   refine WL.vS hS hE (runs_if hE rfl rfl rfl hg57) (Gives.p hE rfl) rfl ?_; clear hE a; intro a hE
   refine WL.vS hS hE (runs_if hE rfl rfl rfl hg57) (Gives.p hE rfl) rfl ?_; clear hE a; intro a hE
   refine WL.vS hS hE (runs_if hE rfl rfl rfl hg57) (Gives.p hE rfl) rfl ?_; clear hE a; intro a hE
   refine vP hS hE (Gives.pickT hE rfl hg57 rfl) rfl ?_; clear hE a; intro a hE
   refine vP hS hE (Gives.p hE rfl) rfl ?_; clear hE a; intro a hE
   refine WL.nil ?_
   subst hK56
   exact ⟨decide (x0 ≤ x2), hq51, hE.pick _ ⟨rfl, trivial⟩, hS⟩
  ·replace hq51 := iteF hg57 hq51
   refine WL.no hE (runs_not hE rfl rfl rfl (by rw [hg57]; decide)) rfl ?_; clear hE a; intro a hE
   refine WL.no hE (runs_not hE rfl rfl rfl (by rw [hg57]; decide)) rfl ?_; clear hE a; intro a hE
   refine WL.no hE (runs_not hE rfl rfl rfl (by rw [hg57]; decide)) rfl ?_; clear hE a; intro a hE
   refine vP hS hE (Gives.pickF hE rfl hg57 rfl) rfl ?_; clear hE a; intro a hE
   refine vP hS hE (Gives.p hE rfl) rfl ?_; clear hE a; intro a hE
   refine WL.nil ?_
   subst hK56
   exact ⟨false, hq51, hE.pick _ ⟨rfl, trivial⟩, hS⟩
 ·clear hE hS a w; rintro a w ⟨q55, rfl, hE, hS⟩
  refine W.ret ?_
  refine finG (fn := Tryz.f14) (rs := [.tmp 6]) (vs := [_]) hE rfl ⟨rfl, trivial⟩ ?_
  subst hr
  exact ⟨rfl, hS⟩
set_option maxHeartbeats 8000000 in
theorem Fishref2shape_v1_ok : ∀ {fu : Nat} {w : World} {s : Sg} {R : List HP} {pb0 : Nat} {x0 : FareCond} {a0_0 : Option Addr} {c0_0 : Nat} {y0 : Int} (_hS : St w s (pt pb0 (.cells #[.int .i64 y0] 3 (0, 0)) :: R)) (_h0_0 : Sl 4 RFareCond s a0_0 c0_0 x0.Kids) {r : Int × Int} (_hr : Fishref2shape_v1 fu x0 y0 = some r),
  Calls Tryz.prog 33 [.agg (List.toArray [.int .i64 x0.Kind, .int .i64 x0.A, .int .i64 x0.B, .slice a0_0 x0.Kids.length c0_0]), .pointer (some ⟨pb0, 0, none⟩)].toArray w (fun e w => e = .returned (.int .i64 r.1) ∧ St w s (pt pb0 (.cells #[.int .i64 r.2] 3 (0, 0)) :: R)) := by
 intro fu
 induction fu with
 | zero => intro w s R pb0 x0 a0_0 c0_0 y0 hS h0_0 r hr; rw [Fishref2shape_v1] at hr; exact absurd hr (by simp)
 | succ fu ih_Fishref2shape_v1 =>
  intro w s R pb0 x0 a0_0 c0_0 y0 hS h0_0 r hr
  rw [Fishref2shape_v1] at hr
  generalize Fishref2shape_v1 fu = self_Fishref2shape_v1 at hr ih_Fishref2shape_v1
  refine enter Tryz.func33 rfl rfl rfl fun a hE => ?_
  refine W.seq (W.region ?_)
  refine WL.box hE hS (runs_plain rfl) rfl rfl rfl ?_; clear hE hS a w; intro b52 a w hE hS
  refine vP hS hE (Gives.p hE rfl) rfl ?_; clear hE a; intro a hE
  refine WL.nil ?_
  refine W.seq (W.region ?_)
  refine vP hS hE (Gives.p hE rfl) rfl ?_; clear hE a; intro a hE
  refine vP hS hE (Gives.nilOk hE rfl) rfl ?_; clear hE a; intro a hE
  refine vP hS hE (Gives.loadB hE 1 rfl rfl rfl ty3) rfl ?_; clear hE a; intro a hE
  refine vP hS hE (Gives.p hE rfl) rfl ?_; clear hE a; intro a hE
  refine vP hS hE (Gives.nilOk hE rfl) rfl ?_; clear hE a; intro a hE
  refine WL.storeI hE hS 1 rfl [.int .i64 (w64 (y0 - 1))] (runs_plain rfl) rfl rfl rfl ty3 rfl rfl rfl rfl ?_; clear hE hS a w; intro a w hE hS
  refine WL.nil ?_
  refine W.seq ?_
  refine W.seq (W.region ?_)
  refine vP hS hE (Gives.p hE rfl) rfl ?_; clear hE a; intro a hE
  refine vP hS hE (Gives.nilOk hE rfl) rfl ?_; clear hE a; intro a hE
  refine vP hS hE (Gives.loadB hE 1 rfl rfl rfl ty3) rfl ?_; clear hE a; intro a hE
  refine vP hS hE (Gives.p hE rfl) rfl ?_; clear hE a; intro a hE
  refine WL.nil ?_
  refine W.cond hE rfl (fun hc53 => ?_) (fun hc53 => ?_)
  ·replace hr := iteT hc53 hr
   refine W.seq (W.region ?_)
   refine vP hS hE (Gives.p hE rfl) rfl ?_; clear hE a; intro a hE
   refine WL.nil ?_
   refine W.ret ?_
   refine finG (fn := Tryz.f33) (rs := [.tmp 4]) (vs := [_]) hE rfl ⟨rfl, trivial⟩ ?_
   obtain rfl := Option.some.inj hr
   replace hS := hS.tail
   exact ⟨rfl, hS⟩
  ·replace hr := iteF hc53 hr
   refine W.skip ?_
   refine W.seq ?_
   refine W.seq (W.region ?_)
   refine vP hS hE (Gives.fld hE rfl fl43_3) rfl ?_; clear hE a; intro a hE
   refine vP hS hE (Gives.loadB hE 0 rfl rfl rfl ty41) rfl ?_; clear hE a; intro a hE
   refine vP hS hE (Gives.len hE rfl sl41) rfl ?_; clear hE a; intro a hE
   refine vP hS hE (Gives.p hE rfl) rfl ?_; clear hE a; intro a hE
   refine WL.nil ?_
   obtain ⟨q55, hq54, hr⟩ := bindS hr
   refine W.cut (fun a w => ∃ (q65 : Int), ∃ (q66 : Int), (q65, q66) = q55 ∧ Rep a 35 [(4, .int .i64 q65)] ∧ St w s (pt b52 (.cells #[.int .i64 x0.Kind, .int .i64 x0.A, .int .i64 x0.B, .slice a0_0 x0.Kids.length c0_0] 43 (0, 0)) :: pt pb0 (.cells #[.int .i64 q66] 3 (0, 0)) :: R)) ?_ ?_
   ·refine W.block ?_
    refine W.loop (fun m a w => ∃ (rest58 : List FareCond) (k56 : Nat), ∃ (q65 : Int), ∃ (q66 : Int), rest58.length = m ∧ x0.Kids.drop k56 = rest58 ∧ Fishref2shape_v1.loop1 self_Fishref2shape_v1 rest58 q65 q66 = some q55 ∧ Rep a 35 [(1, .pointer (some ⟨pb0, 0, none⟩)), (4, .int .i64 q65), (17, .slice a0_0 x0.Kids.length c0_0), (18, .int .i64 ((x0.Kids).length : Int)), (19, .int .i64 ((k56 : Nat) : Int))] ∧ St w s (pt b52 (.cells #[.int .i64 x0.Kind, .int .i64 x0.A, .int .i64 x0.B, .slice a0_0 x0.Kids.length c0_0] 43 (0, 0)) :: pt pb0 (.cells #[.int .i64 q66] 3 (0, 0)) :: R)) (m := x0.Kids.length) ⟨x0.Kids, 0, 0, (w64 (y0 - 1)), rfl, rfl, hq54, hE.pick _ ⟨rfl, rfl, rfl, rfl, rfl, trivial⟩, hS⟩ ?_
    clear hE hS a w hq54; rintro m62 a w ⟨rest58, k56, q65, q66, rfl, hd59, hq54, hE, hS⟩
    refine W.gen fun K67 hK67 => ?_
    rcases rest58 with _ | ⟨x57, rest58⟩
    ·have hlt60 := drop_nil hd59
     refine W.seq (W.region ?_)
     refine vP hS hE (Gives.p hE rfl) rfl ?_; clear hE a; intro a hE
     refine WL.nil ?_
     refine W.seq ?_
     refine W.condF hE rfl (decide_eq_false (by omega)) ?_
     subst hK67
     refine W.exit rfl ?_
     exact ⟨q65, q66, Option.some.inj hq54, hE.pick _ ⟨rfl, trivial⟩, hS⟩
    ·obtain ⟨hlt60, hx61, hd59⟩ := drop_cons hd59
     rw [Fishref2shape_v1.loop1] at hq54
     refine W.seq (W.region ?_)
     refine vP hS hE (Gives.p hE rfl) rfl ?_; clear hE a; intro a hE
     refine WL.nil ?_
     refine W.seq ?_
     refine W.condT hE rfl (decide_eq_true (by omega)) ?_
     refine W.skip ?_
     refine W.seq ?_
     refine W.block ?_
     refine W.seq (W.region ?_)
     obtain ⟨cs68, hl69, hR70, hat71⟩ := h0_0.at hx61
     obtain ⟨a72, c73, rfl, h74⟩ := hR70.unf
     refine vP hS hE (Gives.idx hE k56 rfl rfl sl41 rfl hlt60 (h0_0.aok hlt60)) rfl ?_; clear hE a; intro a hE
     refine vP hS hE (Gives.loadA hE rfl (fun w h => hat71 w _ h) ty43) rfl ?_; clear hE a; intro a hE
     refine WL.alloc hE hS (runs_plain rfl) zr43 rfl ?_; clear hE hS a w; intro b75 a w hE hS
     refine WL.storeI hE hS 0 rfl [.int .i64 x57.Kind, .int .i64 x57.A, .int .i64 x57.B, .slice a72 x57.Kids.length c73] (runs_plain rfl) rfl rfl rfl ty43 rfl rfl rfl rfl ?_; clear hE hS a w; intro a w hE hS
     refine WL.nil ?_
     refine W.seq (W.region ?_)
     refine vP hS hE (Gives.p hE rfl) rfl ?_; clear hE a; intro a hE
     refine vP hS hE (Gives.loadBA hE 0 rfl rfl ty43) rfl ?_; clear hE a; intro a hE
     refine vP hS hE (Gives.p hE rfl) rfl ?_; clear hE a; intro a hE
     obtain ⟨q76, hq77, hq54⟩ := bindS hq54
     replace hS := hS.front 2 rfl
     have hc_ := ih_Fishref2shape_v1 hS h74 hq77
     refine WL.fnq hE (hc_) (runs_plain rfl) bd33 rfl rfl rfl ?_
     clear hE hS hc_; rintro e w ⟨rfl, hS⟩; refine ⟨_, rfl, ?_⟩; clear a; intro a hE
     refine vP hS hE (Gives.max2 hE rfl rfl) rfl ?_; clear hE a; intro a hE
     refine vP hS hE (Gives.p hE rfl) rfl ?_; clear hE a; intro a hE
     refine WL.nil ?_
     refine W.seq (W.region ?_)
     refine vP hS hE (Gives.p hE rfl) rfl ?_; clear hE a; intro a hE
     refine vP hS hE (Gives.nilOk hE rfl) rfl ?_; clear hE a; intro a hE
     refine vP hS hE (Gives.loadB hE 0 rfl rfl rfl ty3) rfl ?_; clear hE a; intro a hE
     refine vP hS hE (Gives.p hE rfl) rfl ?_; clear hE a; intro a hE
     refine WL.nil ?_
     refine W.cond hE rfl (fun hc78 => ?_) (fun hc78 => ?_)
     ·replace hq54 := iteT hc78 hq54
      subst hK67
      refine W.exit rfl ?_
      replace hS := hS.dropAt 1
      replace hS := hS.front 1 rfl
      exact ⟨mx q65 q76.1, q76.2, Option.some.inj hq54, hE.pick _ ⟨rfl, trivial⟩, hS⟩
     ·replace hq54 := iteF hc78 hq54
      refine W.skip ?_
      refine W.region ?_
      refine vP hS hE (Gives.inc hE rfl (by have := h0_0.small; omega)) rfl ?_; clear hE a; intro a hE
      refine vP hS hE (Gives.p hE rfl) rfl ?_; clear hE a; intro a hE
      refine WL.nil ?_
      replace hS := hS.dropAt 1
      replace hS := hS.front 1 rfl
      subst hK67
      exact ⟨rest58.length, Nat.lt_succ_self _, rest58, k56 + 1, (mx q65 q76.1), q76.2, rfl, hd59, hq54, hE.pick _ ⟨rfl, rfl, rfl, rfl, rfl, trivial⟩, hS⟩
   ·clear hE hS a w; rintro a w ⟨q65, q66, rfl, hE, hS⟩
    dsimp only at hr
    refine W.seq (W.region ?_)
    refine vP hS hE (Gives.p hE rfl) rfl ?_; clear hE a; intro a hE
    refine vP hS hE (Gives.p hE rfl) rfl ?_; clear hE a; intro a hE
    refine vP hS hE (Gives.p hE rfl) rfl ?_; clear hE a; intro a hE
    refine WL.nil ?_
    refine W.ret ?_
    refine finG (fn := Tryz.f33) (rs := [.tmp 4]) (vs := [_]) hE rfl ⟨rfl, trivial⟩ ?_
    obtain rfl := Option.some.inj hr
    replace hS := hS.tail
    exact ⟨rfl, hS⟩
set_option maxHeartbeats 8000000 in
theorem Fishref2numbersOf_ok  {w : World} {s : Sg} {R : List HP} {x0 : Int} (hS : St w s (R))  {r : Int} (hr : Fishref2numbersOf x0 = r) :
  Calls Tryz.prog 47 [.int .i64 x0].toArray w (fun e w => e = .returned (.int .i64 r) ∧ St w s (R)) := by
 refine enter Tryz.func47 rfl rfl rfl fun a hE => ?_
 rw [Fishref2numbersOf] at hr
 refine W.seq (W.region ?_)
 refine vP hS hE (Gives.p hE rfl) rfl ?_; clear hE a; intro a hE
 refine WL.nil ?_
 refine W.seq ?_
 refine W.seq (W.region ?_)
 refine vP hS hE (Gives.p hE rfl) rfl ?_; clear hE a; intro a hE
 refine WL.nil ?_
 refine W.block ?_
 refine W.seq ?_
 refine W.seq (W.region ?_)
 refine vP hS hE (Gives.p hE rfl) rfl ?_; clear hE a; intro a hE
 refine vP hS hE (Gives.p hE rfl) rfl ?_; clear hE a; intro a hE
 refine WL.nil ?_
 obtain ⟨q52, hq51, hr⟩ := bndS hr
 refine W.cut (fun a w => ∃ (q55 : Bool), q55 = q52 ∧ Rep a 13 [(3, .int .i64 x0), (4, .bool q55)] ∧ St w s (R)) ?_ ?_
 ·refine W.gen fun K56 hK56 => ?_
  refine W.cond hE rfl (fun hc57 => ?_) (fun hc57 => ?_)
  ·replace hq51 := iteT hc57 hq51
   refine W.skip ?_
   subst hK56
   exact ⟨(x0 == 2), hq51, hE.pick _ ⟨rfl, rfl, trivial⟩, hS⟩
  ·replace hq51 := iteF hc57 hq51
   refine W.seq (W.region ?_)
   refine vP hS hE (Gives.p hE rfl) rfl ?_; clear hE a; intro a hE
   refine vP hS hE (Gives.p hE rfl) rfl ?_; clear hE a; intro a hE
   refine WL.nil ?_
   obtain ⟨q59, hq58, hq51⟩ := bndS hq51
   refine W.cut (fun a w => ∃ (q62 : Bool), q62 = q59 ∧ Rep a 13 [(3, .int .i64 x0), (4, .bool q62)] ∧ St w s (R)) ?_ ?_
   ·refine W.gen fun K63 hK63 => ?_
    refine W.cond hE rfl (fun hc64 => ?_) (fun hc64 => ?_)
    ·replace hq58 := iteT hc64 hq58
     refine W.skip ?_
     subst hK63
     exact ⟨(x0 == 3), hq58, hE.pick _ ⟨rfl, rfl, trivial⟩, hS⟩
    ·replace hq58 := iteF hc64 hq58
     refine W.seq (W.region ?_)
     refine vP hS hE (Gives.p hE rfl) rfl ?_; clear hE a; intro a hE
     refine vP hS hE (Gives.p hE rfl) rfl ?_; clear hE a; intro a hE
     refine WL.nil ?_
     obtain ⟨q66, hq65, hq58⟩ := bndS hq58
     refine W.cut (fun a w => ∃ (q69 : Bool), q69 = q66 ∧ Rep a 13 [(3, .int .i64 x0), (4, .bool q69)] ∧ St w s (R)) ?_ ?_
     ·refine W.gen fun K70 hK70 => ?_
      refine W.cond hE rfl (fun hc71 => ?_) (fun hc71 => ?_)
      ·replace hq65 := iteT hc71 hq65
       refine W.skip ?_
       subst hK70
       exact ⟨(x0 == 4), hq65, hE.pick _ ⟨rfl, rfl, trivial⟩, hS⟩
      ·replace hq65 := iteF hc71 hq65
       refine W.region ?_
       refine vP hS hE (Gives.p hE rfl) rfl ?_; clear hE a; intro a hE
       refine vP hS hE (Gives.p hE rfl) rfl ?_; clear hE a; intro a hE
       refine WL.nil ?_
       subst hK70
       exact ⟨(x0 == 5), hq65, hE.pick _ ⟨rfl, rfl, trivial⟩, hS⟩
     ·clear hE hS a w; rintro a w ⟨q69, rfl, hE, hS⟩
      subst hK63
      exact ⟨q69, hq58, hE.pick _ ⟨rfl, rfl, trivial⟩, hS⟩
   ·clear hE hS a w; rintro a w ⟨q62, rfl, hE, hS⟩
    subst hK56
    exact ⟨q62, hq51, hE.pick _ ⟨rfl, rfl, trivial⟩, hS⟩
 ·clear hE hS a w; rintro a w ⟨q55, rfl, hE, hS⟩
  refine W.cond hE rfl (fun hc72 => ?_) (fun hc72 => ?_)
  ·replace hr := iteT hc72 hr
   refine W.seq (W.region ?_)
   refine vP hS hE (Gives.p hE rfl) rfl ?_; clear hE a; intro a hE
   refine WL.nil ?_
   refine W.ret ?_
   refine finG (fn := Tryz.f47) (rs := [.tmp 2]) (vs := [_]) hE rfl ⟨rfl, trivial⟩ ?_
   subst hr
   exact ⟨rfl, hS⟩
  ·replace hr := iteF hc72 hr
   refine W.seq ?_
   refine W.seq (W.region ?_)
   refine vP hS hE (Gives.p hE rfl) rfl ?_; clear hE a; intro a hE
   refine vP hS hE (Gives.p hE rfl) rfl ?_; clear hE a; intro a hE
   refine WL.nil ?_
   obtain ⟨q74, hq73, hr⟩ := bndS hr
   refine W.cut (fun a w => ∃ (q77 : Bool), q77 = q74 ∧ Rep a 13 [(9, .bool q77)] ∧ St w s (R)) ?_ ?_
   ·refine W.gen fun K78 hK78 => ?_
    refine W.cond hE rfl (fun hc79 => ?_) (fun hc79 => ?_)
    ·replace hq73 := iteT hc79 hq73
     refine W.skip ?_
     subst hK78
     exact ⟨(x0 == 6), hq73, hE.pick _ ⟨rfl, trivial⟩, hS⟩
    ·replace hq73 := iteF hc79 hq73
     refine W.seq (W.region ?_)
     refine vP hS hE (Gives.p hE rfl) rfl ?_; clear hE a; intro a hE
     refine vP hS hE (Gives.p hE rfl) rfl ?_; clear hE a; intro a hE
     refine WL.nil ?_
     obtain ⟨q81, hq80, hq73⟩ := bndS hq73
     refine W.cut (fun a w => ∃ (q84 : Bool), q84 = q81 ∧ Rep a 13 [(9, .bool q84)] ∧ St w s (R)) ?_ ?_
     ·refine W.gen fun K85 hK85 => ?_
      refine W.cond hE rfl (fun hc86 => ?_) (fun hc86 => ?_)
      ·replace hq80 := iteT hc86 hq80
       refine W.skip ?_
       subst hK85
       exact ⟨(x0 == 7), hq80, hE.pick _ ⟨rfl, trivial⟩, hS⟩
      ·replace hq80 := iteF hc86 hq80
       refine W.region ?_
       refine vP hS hE (Gives.p hE rfl) rfl ?_; clear hE a; intro a hE
       refine vP hS hE (Gives.p hE rfl) rfl ?_; clear hE a; intro a hE
       refine WL.nil ?_
       subst hK85
       exact ⟨(x0 == 8), hq80, hE.pick _ ⟨rfl, trivial⟩, hS⟩
     ·clear hE hS a w; rintro a w ⟨q84, rfl, hE, hS⟩
      subst hK78
      exact ⟨q84, hq73, hE.pick _ ⟨rfl, trivial⟩, hS⟩
   ·clear hE hS a w; rintro a w ⟨q77, rfl, hE, hS⟩
    refine W.cond hE rfl (fun hc87 => ?_) (fun hc87 => ?_)
    ·replace hr := iteT hc87 hr
     refine W.seq (W.region ?_)
     refine vP hS hE (Gives.p hE rfl) rfl ?_; clear hE a; intro a hE
     refine WL.nil ?_
     refine W.ret ?_
     refine finG (fn := Tryz.f47) (rs := [.tmp 2]) (vs := [_]) hE rfl ⟨rfl, trivial⟩ ?_
     subst hr
     exact ⟨rfl, hS⟩
    ·replace hr := iteF hc87 hr
     refine W.skip ?_
     refine W.seq (W.region ?_)
     refine vP hS hE (Gives.p hE rfl) rfl ?_; clear hE a; intro a hE
     refine WL.nil ?_
     refine W.ret ?_
     refine finG (fn := Tryz.f47) (rs := [.tmp 2]) (vs := [_]) hE rfl ⟨rfl, trivial⟩ ?_
     subst hr
     exact ⟨rfl, hS⟩
end Go.Proofs.YtfdifpegldailaaGreatDoor
