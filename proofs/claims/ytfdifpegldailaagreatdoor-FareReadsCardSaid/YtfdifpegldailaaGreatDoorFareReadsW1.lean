/- The walks of the functions that FareReads reaches: each call comes to what its mirror says. The conditions are those of each contract. -/
import Derived.Test.YtfdifpegldailaaGreatDoorProg
import Derived.Test.YtfdifpegldailaaGreatDoorFpTight
import Derived.Test.YtfdifpegldailaaGreatDoorFareReadsM
import Derived.Test.YtfdifpegldailaaGreatDoorFpAllT
import Derived.Test.YtfdifpegldailaaGreatDoorFareReadsS
import Derived.Test.YtfdifpegldailaaGreatDoorFpDfr
import Derived.Test.YtfdifpegldailaaGreatDoorFpErr
import Derived.Test.YtfdifpegldailaaGreatDoorFpJoin
import Derived.Test.YtfdifpegldailaaGreatDoorFpKeyB
import Derived.Test.YtfdifpegldailaaGreatDoorFpMeth
import Derived.Test.YtfdifpegldailaaGreatDoorFpPan
import Derived.Test.YtfdifpegldailaaGreatDoorFpRf
import Derived.Test.YtfdifpegldailaaGreatDoorFpRfO
import Derived.Test.YtfdifpegldailaaGreatDoorFpRgP
import Derived.Test.YtfdifpegldailaaGreatDoorFpRgn
import Derived.Test.YtfdifpegldailaaGreatDoorFpRune
set_option maxRecDepth 10000
namespace Go.Proofs.YtfdifpegldailaaGreatDoor
open Go Go.Fp
theorem ap22 : apOk Tryz.prog 22 40 2 = true := by kernel_rfl
theorem ap23 : apOk Tryz.prog 23 45 7 = true := by kernel_rfl
theorem ap41 : apOk Tryz.prog 41 43 4 = true := by kernel_rfl
theorem ap47 : apOk Tryz.prog 47 3 1 = true := by kernel_rfl
theorem ap59 : apOk Tryz.prog 59 9 1 = true := by kernel_rfl
theorem ar106 : arOk Tryz.prog 106 10 = true := by kernel_rfl
theorem ar163 : arOk Tryz.prog 163 2 = true := by kernel_rfl
theorem ar76 : arOk Tryz.prog 76 7 = true := by kernel_rfl
theorem ar96 : arOk Tryz.prog 96 2 = true := by kernel_rfl
theorem bd10 : bodied Tryz.prog 10 = true := by kernel_rfl
theorem bd103 : bodied Tryz.prog 103 = true := by kernel_rfl
theorem bd11 : bodied Tryz.prog 11 = true := by kernel_rfl
theorem bd115 : bodied Tryz.prog 115 = true := by kernel_rfl
theorem bd116 : bodied Tryz.prog 116 = true := by kernel_rfl
theorem bd117 : bodied Tryz.prog 117 = true := by kernel_rfl
theorem bd118 : bodied Tryz.prog 118 = true := by kernel_rfl
theorem bd119 : bodied Tryz.prog 119 = true := by kernel_rfl
theorem bd12 : bodied Tryz.prog 12 = true := by kernel_rfl
theorem bd13 : bodied Tryz.prog 13 = true := by kernel_rfl
theorem bd130 : bodied Tryz.prog 130 = true := by kernel_rfl
theorem bd131 : bodied Tryz.prog 131 = true := by kernel_rfl
theorem bd136 : bodied Tryz.prog 136 = true := by kernel_rfl
theorem bd14 : bodied Tryz.prog 14 = true := by kernel_rfl
theorem bd15 : bodied Tryz.prog 15 = true := by kernel_rfl
theorem bd16 : bodied Tryz.prog 16 = true := by kernel_rfl
theorem bd17 : bodied Tryz.prog 17 = true := by kernel_rfl
theorem bd18 : bodied Tryz.prog 18 = true := by kernel_rfl
theorem bd19 : bodied Tryz.prog 19 = true := by kernel_rfl
theorem bd20 : bodied Tryz.prog 20 = true := by kernel_rfl
theorem bd21 : bodied Tryz.prog 21 = true := by kernel_rfl
theorem bd22 : bodied Tryz.prog 22 = true := by kernel_rfl
theorem bd23 : bodied Tryz.prog 23 = true := by kernel_rfl
theorem bd24 : bodied Tryz.prog 24 = true := by kernel_rfl
theorem bd25 : bodied Tryz.prog 25 = true := by kernel_rfl
theorem bd26 : bodied Tryz.prog 26 = true := by kernel_rfl
theorem bd27 : bodied Tryz.prog 27 = true := by kernel_rfl
theorem bd28 : bodied Tryz.prog 28 = true := by kernel_rfl
theorem bd29 : bodied Tryz.prog 29 = true := by kernel_rfl
theorem bd30 : bodied Tryz.prog 30 = true := by kernel_rfl
theorem bd31 : bodied Tryz.prog 31 = true := by kernel_rfl
theorem bd32 : bodied Tryz.prog 32 = true := by kernel_rfl
theorem bd33 : bodied Tryz.prog 33 = true := by kernel_rfl
theorem bd34 : bodied Tryz.prog 34 = true := by kernel_rfl
theorem bd35 : bodied Tryz.prog 35 = true := by kernel_rfl
theorem bd36 : bodied Tryz.prog 36 = true := by kernel_rfl
theorem bd37 : bodied Tryz.prog 37 = true := by kernel_rfl
theorem bd38 : bodied Tryz.prog 38 = true := by kernel_rfl
theorem bd39 : bodied Tryz.prog 39 = true := by kernel_rfl
theorem bd40 : bodied Tryz.prog 40 = true := by kernel_rfl
theorem bd41 : bodied Tryz.prog 41 = true := by kernel_rfl
theorem bd42 : bodied Tryz.prog 42 = true := by kernel_rfl
theorem bd43 : bodied Tryz.prog 43 = true := by kernel_rfl
theorem bd45 : bodied Tryz.prog 45 = true := by kernel_rfl
theorem bd46 : bodied Tryz.prog 46 = true := by kernel_rfl
theorem bd47 : bodied Tryz.prog 47 = true := by kernel_rfl
theorem bd48 : bodied Tryz.prog 48 = true := by kernel_rfl
theorem bd49 : bodied Tryz.prog 49 = true := by kernel_rfl
theorem bd50 : bodied Tryz.prog 50 = true := by kernel_rfl
theorem bd51 : bodied Tryz.prog 51 = true := by kernel_rfl
theorem bd52 : bodied Tryz.prog 52 = true := by kernel_rfl
theorem bd53 : bodied Tryz.prog 53 = true := by kernel_rfl
theorem bd55 : bodied Tryz.prog 55 = true := by kernel_rfl
theorem bd56 : bodied Tryz.prog 56 = true := by kernel_rfl
theorem bd57 : bodied Tryz.prog 57 = true := by kernel_rfl
theorem bd58 : bodied Tryz.prog 58 = true := by kernel_rfl
theorem bd59 : bodied Tryz.prog 59 = true := by kernel_rfl
theorem bd6 : bodied Tryz.prog 6 = true := by kernel_rfl
theorem bd60 : bodied Tryz.prog 60 = true := by kernel_rfl
theorem bd61 : bodied Tryz.prog 61 = true := by kernel_rfl
theorem bd62 : bodied Tryz.prog 62 = true := by kernel_rfl
theorem bd65 : bodied Tryz.prog 65 = true := by kernel_rfl
theorem bd66 : bodied Tryz.prog 66 = true := by kernel_rfl
theorem bd67 : bodied Tryz.prog 67 = true := by kernel_rfl
theorem bd7 : bodied Tryz.prog 7 = true := by kernel_rfl
theorem bd71 : bodied Tryz.prog 71 = true := by kernel_rfl
theorem bd72 : bodied Tryz.prog 72 = true := by kernel_rfl
theorem bd73 : bodied Tryz.prog 73 = true := by kernel_rfl
theorem bd74 : bodied Tryz.prog 74 = true := by kernel_rfl
theorem bd76 : bodied Tryz.prog 76 = true := by kernel_rfl
theorem bd77 : bodied Tryz.prog 77 = true := by kernel_rfl
theorem bd78 : bodied Tryz.prog 78 = true := by kernel_rfl
theorem bd79 : bodied Tryz.prog 79 = true := by kernel_rfl
theorem bd8 : bodied Tryz.prog 8 = true := by kernel_rfl
theorem bd80 : bodied Tryz.prog 80 = true := by kernel_rfl
theorem bd84 : bodied Tryz.prog 84 = true := by kernel_rfl
theorem bd85 : bodied Tryz.prog 85 = true := by kernel_rfl
theorem bd86 : bodied Tryz.prog 86 = true := by kernel_rfl
theorem bd95 : bodied Tryz.prog 95 = true := by kernel_rfl
theorem bd96 : bodied Tryz.prog 96 = true := by kernel_rfl
theorem bd97 : bodied Tryz.prog 97 = true := by kernel_rfl
theorem bd98 : bodied Tryz.prog 98 = true := by kernel_rfl
theorem bl4 : isBl Tryz.prog 4 = true := by kernel_rfl
theorem fl141_0 : fldOk Tryz.prog 141 0 0 = true := by kernel_rfl
theorem fl141_1 : fldOk Tryz.prog 141 1 1 = true := by kernel_rfl
theorem fl25_0 : fldOk Tryz.prog 25 0 0 = true := by kernel_rfl
theorem fl25_1 : fldOk Tryz.prog 25 1 1 = true := by kernel_rfl
theorem fl25_2 : fldOk Tryz.prog 25 2 2 = true := by kernel_rfl
theorem fl25_3 : fldOk Tryz.prog 25 3 3 = true := by kernel_rfl
theorem fl40_0 : fldOk Tryz.prog 40 0 0 = true := by kernel_rfl
theorem fl40_1 : fldOk Tryz.prog 40 1 1 = true := by kernel_rfl
theorem fl43_0 : fldOk Tryz.prog 43 0 0 = true := by kernel_rfl
theorem fl43_1 : fldOk Tryz.prog 43 1 1 = true := by kernel_rfl
theorem fl43_2 : fldOk Tryz.prog 43 2 2 = true := by kernel_rfl
theorem fl43_3 : fldOk Tryz.prog 43 3 3 = true := by kernel_rfl
theorem fl45_0 : fldOk Tryz.prog 45 0 0 = true := by kernel_rfl
theorem fl45_1 : fldOk Tryz.prog 45 1 4 = true := by kernel_rfl
theorem fl45_2 : fldOk Tryz.prog 45 2 5 = true := by kernel_rfl
theorem fl45_3 : fldOk Tryz.prog 45 3 6 = true := by kernel_rfl
theorem fl51_0 : fldOk Tryz.prog 51 0 0 = true := by kernel_rfl
theorem fl51_1 : fldOk Tryz.prog 51 1 1 = true := by kernel_rfl
theorem fl51_2 : fldOk Tryz.prog 51 2 2 = true := by kernel_rfl
theorem fl51_3 : fldOk Tryz.prog 51 3 3 = true := by kernel_rfl
theorem fl51_4 : fldOk Tryz.prog 51 4 4 = true := by kernel_rfl
theorem fl51_5 : fldOk Tryz.prog 51 5 5 = true := by kernel_rfl
theorem fl89_0 : fldOk Tryz.prog 89 0 0 = true := by kernel_rfl
theorem fl89_1 : fldOk Tryz.prog 89 1 1 = true := by kernel_rfl
theorem if72 : ifOk Tryz.prog 72 = true := by kernel_rfl
theorem ifc54 : ifcOk Tryz.prog 54 = true := by kernel_rfl
theorem mixed : Tryz.prog.follows .mixedOrders = true := by kernel_rfl
theorem mp105 : mpOk Tryz.prog keyI.ok 105 3 9 = true := by kernel_rfl
theorem mp75 : mpOk Tryz.prog keyB.ok 75 4 9 = true := by kernel_rfl
theorem se40 : stEqB Tryz.prog 40 [.i .i64, .i .i64] = true := by kernel_rfl
theorem sl22 : slOk Tryz.prog 22 40 2 = true := by kernel_rfl
theorem sl23 : slOk Tryz.prog 23 45 7 = true := by kernel_rfl
theorem sl41 : slOk Tryz.prog 41 43 4 = true := by kernel_rfl
theorem sl47 : slOk Tryz.prog 47 3 1 = true := by kernel_rfl
theorem sl59 : slOk Tryz.prog 59 9 1 = true := by kernel_rfl
theorem st9 : stOk Tryz.prog 9 = true := by kernel_rfl
theorem ty106 : tyOk Tryz.prog 106 true 10 = true := by kernel_rfl
theorem ty139 : tyOk Tryz.prog 139 false 1 = true := by kernel_rfl
theorem ty22 : tyOk Tryz.prog 22 false 1 = true := by kernel_rfl
theorem ty23 : tyOk Tryz.prog 23 false 1 = true := by kernel_rfl
theorem ty25 : tyOk Tryz.prog 25 true 4 = true := by kernel_rfl
theorem ty26 : tyOk Tryz.prog 26 false 1 = true := by kernel_rfl
theorem ty3 : tyOk Tryz.prog 3 false 1 = true := by kernel_rfl
theorem ty4 : tyOk Tryz.prog 4 false 1 = true := by kernel_rfl
theorem ty40 : tyOk Tryz.prog 40 true 2 = true := by kernel_rfl
theorem ty41 : tyOk Tryz.prog 41 false 1 = true := by kernel_rfl
theorem ty43 : tyOk Tryz.prog 43 true 4 = true := by kernel_rfl
theorem ty45 : tyOk Tryz.prog 45 true 7 = true := by kernel_rfl
theorem ty47 : tyOk Tryz.prog 47 false 1 = true := by kernel_rfl
theorem ty51 : tyOk Tryz.prog 51 true 6 = true := by kernel_rfl
theorem ty59 : tyOk Tryz.prog 59 false 1 = true := by kernel_rfl
theorem ty76 : tyOk Tryz.prog 76 true 7 = true := by kernel_rfl
theorem ty9 : tyOk Tryz.prog 9 false 1 = true := by kernel_rfl
theorem ui21 : Tryz.prog.underlying 21 = some (.int .i32) := by kernel_rfl
theorem ut9 : Tryz.prog.underlying 9 = some .string := by kernel_rfl
theorem zm9 : (Tryz.prog.info? 9).bind (fun i => i.zero) = some (Value.string ByteArray.empty) := by kernel_rfl
theorem zr106 : (Tryz.prog.info? 106).bind (fun i => i.zero.map fun z => z.cells.toList) = some [.string ByteArray.empty, .string ByteArray.empty, .string ByteArray.empty, .string ByteArray.empty, .string ByteArray.empty, .string ByteArray.empty, .string ByteArray.empty, .string ByteArray.empty, .string ByteArray.empty, .string ByteArray.empty] := by kernel_rfl
theorem zr25 : (Tryz.prog.info? 25).bind (fun i => i.zero.map fun z => z.cells.toList) = some [.bool false, .slice none 0 0, vi 0, .slice none 0 0] := by kernel_rfl
theorem zr26 : (Tryz.prog.info? 26).bind (fun i => i.zero.map fun z => z.cells.toList) = some [vi 0] := by kernel_rfl
theorem zr3 : (Tryz.prog.info? 3).bind (fun i => i.zero.map fun z => z.cells.toList) = some [vi 0] := by kernel_rfl
theorem zr40 : (Tryz.prog.info? 40).bind (fun i => i.zero.map fun z => z.cells.toList) = some [vi 0, vi 0] := by kernel_rfl
theorem zr43 : (Tryz.prog.info? 43).bind (fun i => i.zero.map fun z => z.cells.toList) = some [vi 0, vi 0, vi 0, .slice none 0 0] := by kernel_rfl
theorem zr45 : (Tryz.prog.info? 45).bind (fun i => i.zero.map fun z => z.cells.toList) = some [vi 0, vi 0, vi 0, .slice none 0 0, vi 0, vi 0, .bool false] := by kernel_rfl
theorem zr59 : (Tryz.prog.info? 59).bind (fun i => i.zero.map fun z => z.cells.toList) = some [.slice none 0 0] := by kernel_rfl
theorem zr70 : (Tryz.prog.info? 70).bind (fun i => i.zero.map fun z => z.cells.toList) = some [.pointer none, .slice none 0 0] := by kernel_rfl
theorem zr76 : (Tryz.prog.info? 76).bind (fun i => i.zero.map fun z => z.cells.toList) = some [.string ByteArray.empty, .string ByteArray.empty, .string ByteArray.empty, .string ByteArray.empty, .string ByteArray.empty, .string ByteArray.empty, .string ByteArray.empty] := by kernel_rfl
abbrev TabX (s : Sg) : Prop := TabG Tryz.prog 1 2 3 s
theorem split_ok {w : World} {s : Sg} {R : List HP} {x y : ByteArray} {r : List ByteArray} (hS : St w s R) (hTab : TabX s) (hr : splitq x y = some r) : Calls Tryz.prog 38 [.string x, .string y].toArray w (fun e w => ∃ b cs, e = .returned (.slice (some ⟨b, 0, none⟩) r.length r.length) ∧ Ev 1 RS s cs r ∧ St w s (vecC 9 1 (some ⟨b, 0, none⟩) r.length r.length cs :: R)) := by
 obtain ⟨h0, h1, rfl⟩ := splitq_some hr
 obtain ⟨m, hm⟩ := hTab.max
 have hlen := Lib.splitB_all y h1 0 _ x rfl
 have hle := Lib.countB_le y h1 x.size x (Nat.le_refl _)
 refine (Tryz.strings_Split x y m w h0 (hm w R hS) h1).mono ?_
 rintro e w' ⟨rfl, rfl⟩
 refine ⟨w.heap.size, _, by rw [hlen], Ev.strs _, ?_⟩
 exact (hS.alloc _).ptVec (by simp) (by unfold maxLen; omega)
theorem atoi_ok {w : World} {s : Sg} {R : List HP} {x : ByteArray} {r : Int × Bool} (hS : St w s R) (hTab : TabX s) (hr : atoiq x = some r) : Calls Tryz.prog 71 [.string x].toArray w (fun e w => ∃ v, e = .returned (.tuple #[vi r.1, v]) ∧ ErrV v r.2 ∧ St w s R) := by
 unfold atoiq at hr
 split at hr
 ·rename_i hz
  injection hr with hr
  subst hr
  cases h : Lib.atoiAll x.data.toList with
  | ok v =>
   refine (Tryz.strconv_Atoi_ok x (by omega) v h w).mono ?_
   rintro e w' ⟨rfl, hw⟩
   refine ⟨_, rfl, rfl, ?_⟩
   rcases hw with rfl | ⟨t, rfl⟩
   ·exact hS
   exact hS.frozen _ _
  | range =>
   obtain ⟨ev, h1, h2⟩ := hTab.ran
   refine (Tryz.strconv_Atoi_range x (by omega) h ev w (h1 w R hS) h2).mono ?_
   rintro e w' ⟨N, rfl, _, _, hB⟩
   exact ⟨_, rfl, ⟨_, _, rfl⟩, hS.grown hB⟩
  | _ =>
   obtain ⟨ev, h1, h2⟩ := hTab.syn
   refine (Tryz.strconv_Atoi_syntax x (by omega) h ev w (h1 w R hS) h2).mono ?_
   rintro e w' ⟨N, rfl, _, _, hB⟩
   exact ⟨_, rfl, ⟨_, _, rfl⟩, hS.grown hB⟩
 cases hr
theorem cuts_ok {w : World} {s : Sg} {R : List HP} {x y : ByteArray} {r : ByteArray × Bool} (hS : St w s R) (hr : cutsq x y = some r) : Calls Tryz.prog 37 [.string x, .string y].toArray w (fun e w => e = .returned (.tuple #[.string r.1, .bool r.2]) ∧ St w s R) := by
 obtain ⟨h0, rfl⟩ := cutsq_some hr
 refine (Tryz.strings_CutSuffix x y w h0).mono ?_
 rintro e w' ⟨rfl, rfl⟩
 exact ⟨rfl, hS⟩
theorem join_ok {w : World} {s : Sg} {R : List HP} {a : Option Addr} {c : Nat} {l : List ByteArray} {y r : ByteArray} (hS : St w s R) (h : Sl 1 RS s a c l) (hr : joinq l y = some r) : Calls Tryz.prog 46 [.slice a l.length c, .string y].toArray w (fun e w => e = .returned (.string r) ∧ St w s R) := by
 obtain ⟨h0, h1, rfl⟩ := joinq_some hr
 cases l with
 | nil =>
  refine (Tryz.strings_Join_none a c y w).mono ?_
  rintro e w' ⟨rfl, rfl⟩
  exact ⟨rfl, hS⟩
 | cons x l =>
  obtain ⟨bk, o, rfl⟩ := h.aok (k := 0) (by simp)
  refine (Tryz.strings_Join bk o c (x :: l) y w (Sl.strs hS h) (Sl.block hS h) h0 h.len h1).mono ?_
  rintro e w' ⟨rfl, hB⟩
  exact ⟨rfl, hS.grown hB⟩
theorem hasp_ok {w : World} {s : Sg} {R : List HP} {x y : ByteArray} (hS : St w s R) : Calls Tryz.prog 49 [.string x, .string y].toArray w (fun e w => e = .returned (.bool (haspq x y)) ∧ St w s R) := by
 refine (Tryz.strings_HasPrefix x y w).mono ?_
 rintro e w' ⟨rfl, rfl⟩
 exact ⟨rfl, hS⟩
theorem cut_ok {w : World} {s : Sg} {R : List HP} {x y : ByteArray} {r : ByteArray × ByteArray × Bool} (hS : St w s R) (hTab : TabX s) (hr : cutq x y = some r) : Calls Tryz.prog 72 [.string x, .string y].toArray w (fun e w => e = .returned (.tuple #[.string r.1, .string r.2.1, .bool r.2.2]) ∧ St w s R) := by
 obtain ⟨h0, rfl⟩ := cutq_some hr
 obtain ⟨m, hm⟩ := hTab.max
 refine (Tryz.strings_Cut x y m w h0 (hm w R hS)).mono ?_
 rintro e w' ⟨rfl, n, rfl⟩
 exact ⟨rfl, hS.drewN n⟩
theorem hass_ok {w : World} {s : Sg} {R : List HP} {x y : ByteArray} {r : Bool} (hS : St w s R) (hr : hassq x y = some r) : Calls Tryz.prog 116 [.string x, .string y].toArray w (fun e w => e = .returned (.bool r) ∧ St w s R) := by
 obtain ⟨h0, rfl⟩ := hassq_some hr
 refine (Tryz.strings_HasSuffix x y w h0).mono ?_
 rintro e w' ⟨rfl, rfl⟩
 exact ⟨rfl, hS⟩
theorem idx_ok {w : World} {s : Sg} {R : List HP} {x y : ByteArray} (hS : St w s R) (hTab : TabX s) (h : x.size < 4294967281) : Calls Tryz.prog 84 [.string x, .string y].toArray w (fun e w => e = .returned (vi (Lib.index x.data.toList y.data.toList)) ∧ St w s R) := by
 obtain ⟨m, hm⟩ := hTab.max
 refine (Tryz.strings_Index x y m w h (hm w R hS)).mono ?_
 rintro e w' ⟨rfl, rfl⟩
 exact ⟨rfl, hS⟩
theorem sp0_ok {w : World} {s : Sg} {R : List HP} {x y : ByteArray} (hS : St w s R) : Calls Tryz.prog 130 [.string x, .string y, vi 0].toArray w (fun e w => ∃ b1 b2 b3 : Nat, e = .returned (.func (.func 136) #[] [pp b1, pp b2, pp b3].toArray) ∧
  St w s (pc b1 [.string y].toArray 9 :: pc b2 [.string x].toArray 9 :: pc b3 [vi 0].toArray 3 :: R)) := by
 refine enter Tryz.func130 rfl rfl rfl fun a hE => ?_
 refine W.seq (W.region ?_)
 refine WL.box hE hS (runs_plain rfl) rfl rfl rfl ?_; clear hE hS a w; intro b2 a w hE hS
 refine WL.box hE hS (runs_plain rfl) rfl rfl rfl ?_; clear hE hS a w; intro b1 a w hE hS
 refine WL.box hE hS (runs_plain rfl) rfl rfl rfl ?_; clear hE hS a w; intro b3 a w hE hS
 refine vp hS hE rfl rfl fun a hE => WL.nil ?_
 refine W.seq (W.region (vP hS hE (Gives.mkfn hE (vs := [pp b1, pp b2, pp b3]) rfl) rfl fun a hE => ?_))
 refine vp hS hE rfl rfl fun a hE => WL.nil ?_
 refine W.ret ?_
 refine finG (fn := Tryz.f130) (rs := [.tmp 6]) (vs := [_]) hE rfl ⟨rfl, trivial⟩ ?_
 exact ⟨b1, b2, b3, rfl, (hS.front 1 rfl).front 2 rfl |>.front 1 rfl⟩
theorem sps_ok {w : World} {s : Sg} {R : List HP} {x y : ByteArray} (hS : St w s R) : Calls Tryz.prog 115 [.string x, .string y].toArray w (fun e w => ∃ b1 b2 b3 : Nat, e = .returned (.func (.func 136) #[] [pp b1, pp b2, pp b3].toArray) ∧
  St w s (pc b1 [.string y].toArray 9 :: pc b2 [.string x].toArray 9 :: pc b3 [vi 0].toArray 3 :: R)) := by
 refine enter Tryz.func115 rfl rfl rfl fun a hE => ?_
 refine W.seq (W.region (vp hS hE rfl rfl fun a hE => WL.nil ?_))
 refine W.seq (W.region (v2 hS hE rfl rfl rfl rfl fun a hE => ?_))
 refine WL.fnq hE (sp0_ok hS) (runs_plain rfl) bd130 rfl rfl rfl ?_
 clear hE hS; rintro e w ⟨b1, b2, b3, rfl, hS⟩; refine ⟨_, rfl, ?_⟩; clear a; intro a hE
 refine vp hS hE rfl rfl fun a hE => WL.nil ?_
 refine W.ret ?_
 refine finG (fn := Tryz.f115) (rs := [.tmp 4]) (vs := [_]) hE rfl ⟨rfl, trivial⟩ ?_
 exact ⟨b1, b2, b3, rfl, hS⟩
theorem spit_ok {s : Sg} (hTab : TabX s) {b1 b2 b3 : Nat} {x sep : ByteArray} {r : List ByteArray} (hr : splitq x sep = some r) :
  IterO Tryz.prog 136 [pp b1, pp b2, pp b3] (fun x => [Value.string x]) s r
   [pc b1 [.string sep].toArray 9, pc b2 [.string x].toArray 9, pc b3 [vi 0].toArray 3] := by
 intro y I X hI hY w u Q hp hS
 obtain ⟨hx0, hx1, rfl⟩ := splitq_some hr
 replace hS : St w u (pc b1 [.string sep].toArray 9 :: pc b2 [.string x].toArray 9 :: pc b3 [vi 0].toArray 3 :: Q) := hS
 have hz : (((sep.size : Nat) : Int) == 0) = false := by rw [Bool.eq_false_iff]; intro h; have := eq_of_beq h; omega
 refine enter Tryz.func136 rfl rfl rfl fun a hE => ?_
 refine W.seq ?_
 refine W.seq (W.region (vP hS hE (Gives.loadB hE 0 rfl rfl rfl ty9) rfl fun a hE => ?_))
 refine vP hS hE (Gives.lenS hE rfl st9) rfl fun a hE => ?_
 refine vp hS hE rfl rfl fun a hE => WL.nil ?_
 refine W.condF hE rfl hz ?_
 refine W.skip ?_
 refine W.seq ?_
 refine W.cut (fun a w => ∃ (z : ByteArray) (pre : List ByteArray) (u : Sg) (Q : List HP), Lib.splitB sep 0 (Lib.countB x sep) x = pre ++ [z] ∧ I pre u Q ∧ Rep a 52 [(0, .func (.yield y) #[] #[]), (1, pp b1), (2, pp b2), (3, pp b3)] ∧
  St w u (pc b1 [.string sep].toArray 9 :: pc b2 [.string z].toArray 9 :: pc b3 [vi 0].toArray 3 :: Q)) ?_ ?_
 ·refine W.block ?_
  refine W.loop (fun m a w => ∃ (z : ByteArray) (pre : List ByteArray) (u : Sg) (Q : List HP), (spl sep z).length = m ∧ z.size < 4294967281 ∧ Lib.splitB sep 0 (Lib.countB x sep) x = pre ++ spl sep z ∧ I pre u Q ∧ Rep a 52 [(0, .func (.yield y) #[] #[]), (1, pp b1), (2, pp b2), (3, pp b3)] ∧
   St w u (pc b1 [.string sep].toArray 9 :: pc b2 [.string z].toArray 9 :: pc b3 [vi 0].toArray 3 :: Q)) (m := (spl sep x).length) ⟨x, [], u, Q, rfl, hx0, rfl, hp, hE.pick _ ⟨rfl, rfl, rfl, rfl, trivial⟩, hS⟩ ?_
  clear hE hS a w hp u Q; rintro m a w ⟨z, pre, u, Q, rfl, hzs, hl, hp, hE, hS⟩
  refine W.gen fun K hK => ?_; have hrd : K.rd = none := by rw [← hK]
  refine W.block ?_
  refine W.seq (W.region (vP hS hE (Gives.loadB hE 1 rfl rfl rfl ty9) rfl fun a hE => ?_))
  refine vP hS hE (Gives.loadB hE 0 rfl rfl rfl ty9) rfl fun a hE => ?_
  refine WL.fnq hE (idx_ok hS (TabG.mono (hI _ _ _ hp) hTab) hzs) (runs_plain rfl) bd84 rfl rfl rfl ?_
  clear hE hS; rintro e w ⟨rfl, hS⟩; refine ⟨_, rfl, ?_⟩; clear a; intro a hE
  refine vp hS hE rfl rfl fun a hE => WL.nil ?_
  refine W.seq ?_
  refine W.seq (W.region (v2 hS hE rfl rfl rfl rfl fun a hE => WL.nil ?_))
  by_cases hi : Lib.index z.data.toList sep.data.toList < 0
  ·refine W.condT hE rfl (decide_eq_true hi) ?_
   subst hK
   refine W.exit rfl ?_
   exact ⟨z, pre, u, Q, by rw [hl, spl_miss hi], hp, hE.pick _ ⟨rfl, rfl, rfl, rfl, trivial⟩, hS⟩
  obtain ⟨i, hidx⟩ : ∃ i : Nat, Lib.index z.data.toList sep.data.toList = i := ⟨(Lib.index z.data.toList sep.data.toList).toNat, by omega⟩
  obtain ⟨hsp, hroom⟩ := spl_hit hx1 hidx
  refine W.condF hE rfl (decide_eq_false hi) ?_
  refine W.skip ?_
  refine W.seq (W.region ?_)
  rw [hidx] at hE
  have c1 : scut z 0 (w64 ((i : Int) + 0)) = some (z.extract 0 i) := by
   have : w64 ((i : Int) + 0) = (i : Int) := IntWalk.i64_in _ (by omega)
   rw [this]; unfold scut; rw [if_pos (by omega)]; rfl
  have c2 : scut z (w64 ((i : Int) + ((sep.size : Nat) : Int))) ((z.size : Nat) : Int) = some (z.extract (i + sep.size) z.size) := by
   have : w64 ((i : Int) + ((sep.size : Nat) : Int)) = ((i + sep.size : Nat) : Int) := by rw [show w64 ((i : Int) + ((sep.size : Nat) : Int)) = (i : Int) + ((sep.size : Nat) : Int) from IntWalk.i64_in _ (by omega)]; omega
   rw [this]; unfold scut; rw [if_pos (by omega)]; rfl
  refine vP hS hE (Gives.loadB hE 1 rfl rfl rfl ty9) rfl fun a hE => ?_
  refine vp hS hE rfl rfl fun a hE => ?_
  refine vP hS hE (Gives.loadB hE 2 rfl rfl rfl ty3) rfl fun a hE => ?_
  refine vp hS hE rfl rfl fun a hE => ?_
  refine vP hS hE (Gives.cutSH hE st9 rfl rfl c1) rfl fun a hE => ?_
  refine vp hS hE rfl rfl fun a hE => WL.nil ?_
  refine W.seq ?_
  refine W.seq ?_
  refine W.regionY ?_
  refine WLY.vS hrd hS hE (runs_plain rfl) (Gives.p hE rfl) rfl fun a hE => ?_
  refine WLY.vS hrd hS hE (runs_plain rfl) (Gives.p hE rfl) rfl fun a hE => ?_
  have hpre : pre ++ [z.extract 0 i] <+: Lib.splitB sep 0 (Lib.countB x sep) x := ⟨spl sep (z.extract (i + sep.size) z.size), by rw [hl, hsp]; simp⟩
  refine WLY.yield hrd hE rfl rfl (runs_plain rfl) rfl (hY pre (z.extract 0 i) u Q [pc b1 #[Value.string sep] 9, pc b2 #[Value.string z] 9, pc b3 #[Value.int .i64 0] 3] w hpre hp hS) ?_
  clear hE hS a w; rintro e w (⟨rfl, u4, Q4, hp4, hS⟩ | ⟨rfl, u4, Q4, hX, hS⟩)
  ·refine ⟨_, rfl, fun a hE => ?_⟩
   refine WLY.vS hrd hS hE (runs_plain rfl) (Gives.p hE rfl) rfl fun a hE => ?_
   refine WLY.nil ?_
   refine W.condF hE rfl rfl ?_
   refine W.skip ?_
   replace hS : St w u4 (pc b1 [.string sep].toArray 9 :: pc b2 [.string z].toArray 9 :: pc b3 [vi 0].toArray 3 :: Q4) := hS
   refine W.region ?_
   refine vP hS hE (Gives.loadB hE 1 rfl rfl rfl ty9) rfl fun a hE => ?_
   refine vp hS hE rfl rfl fun a hE => ?_
   refine vP hS hE (Gives.loadB hE 0 rfl rfl rfl ty9) rfl fun a hE => ?_
   refine vP hS hE (Gives.lenS hE rfl st9) rfl fun a hE => ?_
   refine vp hS hE rfl rfl fun a hE => ?_
   refine vP hS hE (Gives.cutSL hE st9 rfl rfl c2) rfl fun a hE => ?_
   refine WL.storeI hE hS 1 rfl [.string (z.extract (i + sep.size) z.size)] (runs_plain rfl) rfl rfl rfl ty9 rfl rfl rfl rfl ?_; clear hE hS a w; intro a w hE hS
   refine WL.nil ?_
   subst hK
   exact ⟨(spl sep (z.extract (i + sep.size) z.size)).length, (by rw [hsp]; simp), z.extract (i + sep.size) z.size, pre ++ [z.extract 0 i], u4, Q4, rfl, (by rw [ByteArray.size_extract]; omega), (by rw [hl, hsp]; simp), hp4, hE.pick _ ⟨rfl, rfl, rfl, rfl, trivial⟩, hS⟩
  refine ⟨_, rfl, fun a hE => ?_⟩
  refine WLY.vS hrd hS hE (runs_plain rfl) (Gives.p hE rfl) rfl fun a hE => ?_
  refine WLY.nil ?_
  refine W.condT hE rfl rfl ?_
  replace hS : St w u4 (pc b1 [.string sep].toArray 9 :: pc b2 [.string z].toArray 9 :: pc b3 [vi 0].toArray 3 :: Q4) := hS
  subst hK
  refine W.ret ?_
  exact fin0 hE rfl ⟨⟨_, rfl⟩, .inr ⟨u4, Q4, hX, hS.tail.tail.tail⟩⟩
 clear hE hS a w hp u Q; rintro a w ⟨z, pre, u, Q, hl, hp, hE, hS⟩
 refine W.gen fun K hK => ?_; have hrd : K.rd = none := by rw [← hK]
 refine W.regionY ?_
 refine WLY.vS hrd hS hE (runs_plain rfl) (Gives.p hE rfl) rfl fun a hE => ?_
 refine WLY.vS hrd hS hE (runs_plain rfl) (Gives.loadB hE 1 rfl rfl rfl ty9) rfl fun a hE => ?_
 have hpre : pre ++ [z] <+: Lib.splitB sep 0 (Lib.countB x sep) x := ⟨[], by rw [hl]; simp⟩
 refine WLY.yield hrd hE rfl rfl (runs_plain rfl) rfl (hY pre z u Q [pc b1 #[Value.string sep] 9, pc b2 #[Value.string z] 9, pc b3 #[Value.int .i64 0] 3] w hpre hp hS) ?_
 clear hE hS a w; rintro e w (⟨rfl, u4, Q4, hp4, hS⟩ | ⟨rfl, u4, Q4, hX, hS⟩)
 ·refine ⟨_, rfl, fun a hE => ?_⟩
  refine WLY.nil ?_
  replace hS : St w u4 (pc b1 [.string sep].toArray 9 :: pc b2 [.string z].toArray 9 :: pc b3 [vi 0].toArray 3 :: Q4) := hS
  subst hK
  exact fin0 hE rfl ⟨⟨_, rfl⟩, .inl ⟨u4, Q4, (by rw [hl]; exact hp4), hS.tail.tail.tail⟩⟩
 refine ⟨_, rfl, fun a hE => ?_⟩
 refine WLY.nil ?_
 replace hS : St w u4 (pc b1 [.string sep].toArray 9 :: pc b2 [.string z].toArray 9 :: pc b3 [vi 0].toArray 3 :: Q4) := hS
 subst hK
 exact fin0 hE rfl ⟨⟨_, rfl⟩, .inr ⟨u4, Q4, hX, hS.tail.tail.tail⟩⟩
theorem oc2_ret_18 (p q : Addr) (w : World) : CallsDIn Fence.wide 0 Tryz.prog 18 #[.pointer (some p), .pointer (some q)] .returning w fun e u' w' => e = .returned (.tuple #[]) ∧ u' = .returning ∧ w' = w := by
 refine callsDIn_of_wpSIn Tryz.func18 rfl trivial fun c₀ cs hu => ?_
 apply wpSIn_seq
 apply wpSIn_region
 simp [wpOpsSIn, go_sem, recoverD, hu, Tryz.ntmps18, Exit.thenS, Fence.wide]
 apply wpSIn_seq
 apply wpSIn_region
 simp [wpOpsSIn, go_sem, Exit.thenS]
 refine wpSIn_cond (t := false) (by simp [Act.eval, Array.replicate]) ?_
 simp only [Bool.false_eq_true, if_false]
 refine wpSIn_of_wpIn rfl (wpIn_skip ?_)
 cases c₀
 simp_all [bodyPostS, results, Tryz.results18]
theorem oc2_pan_18 {w : World} {s : Sg} {R : List HP} {b b2 T1 T2 : Nat} {c0 c1 c2 c3 v : Value} (hS : St w s (pc b [c0, c1, c2, c3].toArray T1 :: pc b2 [v].toArray T2 :: R)) :
  CallsDIn Fence.wide 0 Tryz.prog 18 #[pp b, pp b2] (.panicking [{ v := .iface 54 (.agg #[]), recovered := false }]) w fun e u' w' => e = .returned (.tuple #[]) ∧ u' = .panicking [{ v := .iface 54 (.agg #[]), recovered := true }] ∧
   St w' s (pc b [.bool false, .slice none 0 0, vi 0, .slice none 0 0].toArray T1 :: pc b2 [vi 10].toArray T2 :: R) := by
 have hta : ∀ w : World, (Instr.typeAssert (.iface 54 (.agg #[])) 20 54 true).run Tryz.prog w = .ok (.tuple #[.agg #[], .bool true]) w := fun _ => rfl
 refine callsDIn_of_wpSIn Tryz.func18 rfl trivial fun c₀ cs hu => ?_
 apply wpSIn_seq
 apply wpSIn_region
 simp [wpOpsSIn, go_sem, recoverD, hu, Tryz.ntmps18, Exit.thenS, Fence.wide]
 apply wpSIn_seq
 apply wpSIn_region
 simp [wpOpsSIn, go_sem, Exit.thenS]
 refine wpSIn_cond (t := true) (by simp [Act.eval, Array.replicate]) ?_
 simp only [if_true]
 apply wpSIn_seq
 apply wpSIn_seq
 apply wpSIn_region
 simp [wpOpsSIn, go_sem, Exit.thenS, hta]
 apply wpSIn_seq
 apply wpSIn_region
 simp [wpOpsSIn, go_sem, Exit.thenS]
 refine wpSIn_cond (t := false) (by simp [Act.eval, Array.replicate]) ?_
 simp only [Bool.false_eq_true, if_false]
 refine wpSIn_of_wpIn rfl (wpIn_skip ?_)
 simp only [Exit.thenS]
 refine wpSIn_of_wpIn rfl (wpIn_mono (Q := Kt.q { nor := fun a w' => a.defers = [] ∧ St w' s (pc b [.bool false, .slice none 0 0, vi 0, .slice none 0 0].toArray T1 :: pc b2 [vi 10].toArray T2 :: R), ret := fun _ _ => False, ex := [], pan := fun _ _ _ => False })
  (W.toS (n := 17) (E := [(0, pp b), (1, pp b2)]) rfl ⟨?_, by simp, rfl, rfl⟩ ?_) ?_)
 ·intro t u ht
  simp only [Env.get] at ht
  split at ht
  ·obtain rfl := Option.some.inj ht
   rename_i h
   simp at h
   obtain ⟨rfl, _⟩ := h
   simp
  split at ht
  ·obtain rfl := Option.some.inj ht
   rename_i h
   simp at h
   obtain ⟨rfl, _⟩ := h
   simp
  cases ht
 ·have hS : St (w.alloc (.cells #[] 54)) s (pc b [c0, c1, c2, c3].toArray T1 :: pc b2 [v].toArray T2 :: R) := (hS.alloc _).tail
  generalize w.alloc (.cells #[] 54) = w at hS
  intro a hE
  refine W.region ?_
  refine vP hS hE (Gives.build hE (vs := []) [.bool false, .slice none 0 0, vi 0, .slice none 0 0] rfl (by kernel_rfl)) rfl fun a hE => ?_
  refine WL.storeI hE hS 0 rfl [.bool false, .slice none 0 0, vi 0, .slice none 0 0] (runs_plain rfl) rfl rfl rfl ty25 rfl rfl rfl rfl ?_; clear hE hS a w; intro a w hE hS
  refine WL.storeI hE hS 1 rfl [vi 10] (runs_plain rfl) rfl rfl rfl ty26 rfl rfl rfl rfl ?_; clear hE hS a w; intro a w hE hS
  refine WL.nil ?_
  exact ⟨hE.defers, hS⟩
 intro e a w' q
 cases e with
 | normal => 
  obtain ⟨hd, hS⟩ := q
  simp [bodyPostS, results, Tryz.results18]
  exact ⟨hd, hS⟩
 | exit id => obtain ⟨k, hk, _⟩ := q; simp [Kt.look] at hk
 | ret => exact q.elim
 | panic c => exact q.elim
 | goto l => exact q.elim
 | outgrown => exact q.elim
theorem sbmixed : Tryz.prog.follows .mixedOrders = true := by kernel_rfl
theorem sbty60 : tyOk Tryz.prog 67 false 1 = true := by kernel_rfl
theorem sbty61 : tyOk Tryz.prog 68 false 1 = true := by kernel_rfl
theorem sbfl0 : fldOk Tryz.prog 70 0 0 = true := by kernel_rfl
theorem sbfl1 : fldOk Tryz.prog 70 1 1 = true := by kernel_rfl
theorem sbap : apOk Tryz.prog 68 5 1 = true := by kernel_rfl
theorem sbsl : slOk Tryz.prog 68 5 1 = true := by kernel_rfl
theorem sbpt : ptOk Tryz.prog 67 70 = true := by kernel_rfl
theorem sbu60 : Tryz.prog.underlying 67 = some (.pointer 70) := by kernel_rfl
theorem sbu77 : Tryz.prog.underlying 123 = some .unsafePointer := by kernel_rfl
theorem sbu76 : Tryz.prog.underlying 108 = some (.pointer 5) := by kernel_rfl
theorem sbu9 : Tryz.prog.underlying 9 = some .string := by kernel_rfl
theorem sbst : stOk Tryz.prog 9 = true := by kernel_rfl
theorem sbc : Tryz.prog.cellsOf 70 = 2 := by kernel_rfl
theorem sbc5 : Tryz.prog.cellsOf 5 = 1 := by kernel_rfl
theorem sbi0 : (Tryz.prog.info? 70).map (·.size) = some 2 := by kernel_rfl
theorem sbi : ∃ j, Tryz.prog.info? 70 = some j ∧ j.size ≠ 0 := by
 have h := sbi0
 rw [Option.map_eq_some_iff] at h
 obtain ⟨j, h1, h2⟩ := h
 exact ⟨j, h1, by omega⟩
theorem sbsame : sameOk Tryz.prog 75 := ⟨_, rfl, by kernel_rfl, by kernel_rfl, by kernel_rfl, by kernel_rfl⟩
theorem sbbd : bodied Tryz.prog 54 = true := by kernel_rfl
section
variable {w : World} {s : Sg} {R : List HP} {b : Nat} {y : ByteArray}
theorem sbCheck_ok {f a : Option Addr} {c : Nat} (hf : f = none ∨ f = some ⟨b, 0, none⟩) (hS : St w s (pc b [.pointer f, .slice a y.size c].toArray 70 :: R)) :
  Calls Tryz.prog 54 [pp b].toArray w (fun e w => e = .returned (.tuple #[]) ∧ St w s (pc b [pp b, .slice a y.size c].toArray 70 :: R)) := by
 obtain ⟨j, hj1, hj2⟩ := sbi
 refine enter Tryz.func54 rfl rfl rfl fun a hE => ?_
 refine W.seq (W.region (vp hS hE rfl rfl fun a hE => ?_))
 refine vP hS hE (Gives.nilOk hE rfl) rfl fun a hE => ?_
 refine vP hS hE (Gives.fld hE rfl sbfl0) rfl fun a hE => ?_
 refine vP hS hE (Gives.loadB hE 0 rfl rfl rfl sbty60) rfl fun a hE => ?_
 refine vP hS hE (Gives.isNilP hE rfl rfl sbpt) rfl fun a hE => WL.nil ?_
 refine W.cond hE rfl (fun hc => ?_) (fun hc => ?_)
 ·refine W.region ?_
  refine v2 hS hE rfl rfl rfl rfl fun a hE => ?_
  refine vP hS hE (Gives.toUnsafe hE 0 rfl rfl rfl sbu60 sbu77 hj1 hj2) rfl fun a hE => ?_
  refine WL.same hE sbsame (runs_plain rfl) rfl rfl fun a hE => ?_
  refine vP hS hE (Gives.fromUnsafe hE 0 rfl rfl sbu77 sbu60 hj1 sbc rfl) rfl fun a hE => ?_
  refine vP hS hE (Gives.nilOk hE rfl) rfl fun a hE => ?_
  refine vP hS hE (Gives.fld hE rfl sbfl0) rfl fun a hE => ?_
  refine WL.storeI hE hS 0 rfl _ (runs_plain rfl) rfl rfl rfl sbty60 rfl rfl rfl rfl ?_; clear hE hS a; intro a w hE hS
  refine WL.nil ?_
  refine fin0 hE rfl ?_
  exact ⟨rfl, hS⟩
 have hf' : f = some ⟨b, 0, none⟩ := by
  rcases hf with rfl | h
  ·cases hc
  exact h
 subst hf'
 refine W.seq (W.region (vp hS hE rfl rfl fun a hE => ?_))
 refine vP hS hE (Gives.nilOk hE rfl) rfl fun a hE => ?_
 refine vP hS hE (Gives.fld hE rfl sbfl0) rfl fun a hE => ?_
 refine vP hS hE (Gives.loadB hE 0 rfl rfl rfl sbty60) rfl fun a hE => ?_
 refine vp hS hE rfl rfl fun a hE => ?_
 refine vP hS hE (Gives.neqSame hE rfl rfl sbu60 hj1) rfl fun a hE => WL.nil ?_
 refine W.condF hE rfl rfl ?_
 refine W.skip ?_
 refine fin0 hE rfl ?_
 exact ⟨rfl, hS⟩

theorem sbWrite_ok {x r : ByteArray} (hS : St w s (sbC 70 5 b y :: R)) (hr : sbw y x = some r) :
  Calls Tryz.prog 29 [pp b, .string x].toArray w (fun e w => e = .returned (.tuple #[vi x.size, .nilIface]) ∧ St w s (sbC 70 5 b r :: R)) := by
 obtain ⟨h1, h2, rfl⟩ := sbw_some hr
 obtain ⟨f, sa, c, hf, ha, hS⟩ := hS.sbOpen
 refine enter Tryz.func29 rfl rfl rfl fun a hE => ?_
 refine W.seq (W.region (v2 hS hE rfl rfl rfl rfl fun a hE => WL.nil ?_))
 refine W.seq (W.region (vp hS hE rfl rfl fun a hE => ?_))
 refine WL.fnq hE (sbCheck_ok hf hS) (runs_plain rfl) sbbd rfl rfl rfl ?_
 clear hE hS; rintro e w ⟨rfl, hS⟩; refine ⟨_, rfl, ?_⟩; clear a; intro a hE
 refine WL.nil ?_
 refine W.seq (W.region (v2 hS hE rfl rfl rfl rfl fun a hE => ?_))
 refine vP hS hE (Gives.nilOk hE rfl) rfl fun a hE => ?_
 refine vP hS hE (Gives.fld hE rfl sbfl1) rfl fun a hE => ?_
 refine vP hS hE (Gives.loadB hE 0 rfl rfl rfl sbty61) rfl fun a hE => ?_
 refine vp hS hE rfl rfl fun a hE => ?_
 refine WL.appStr hE hS 1 (runs_plain rfl) rfl rfl rfl sbap sbu9 h1 h2 ha.1 rfl ?_; clear hE hS a ha; intro sa2 c2 a w ha hE hS
 refine vP hS hE (Gives.nilOk hE rfl) rfl fun a hE => ?_
 refine vP hS hE (Gives.fld hE rfl sbfl1) rfl fun a hE => ?_
 refine WL.storeI hE hS 0 rfl _ (runs_plain rfl) rfl rfl rfl sbty61 rfl rfl rfl rfl ?_; clear hE hS a; intro a w hE hS
 refine WL.nil ?_
 refine W.seq (W.region (vp hS hE rfl rfl fun a hE => ?_))
 refine vP hS hE (Gives.lenS hE rfl sbst) rfl fun a hE => ?_
 refine v2 hS hE rfl rfl rfl rfl fun a hE => WL.nil ?_
 refine W.ret ?_
 refine finG (fn := Tryz.f29) (rs := [.tmp 4, .tmp 5]) (vs := [_, _]) hE rfl ⟨rfl, rfl, trivial⟩ ?_
 refine ⟨rfl, St.sbClose (f := some ⟨b, 0, none⟩) (a := sa2) (c := c2) (.inr rfl) ha ?_⟩
 rw [ByteArray.size_append, byteCells_app]
 exact hS

theorem sbString_ok (hS : St w s (sbC 70 5 b y :: R)) :
  Calls Tryz.prog 32 [pp b].toArray w (fun e w => e = .returned (.string y) ∧ St w s R) := by
 obtain ⟨f, sa, c, hf, ha, hS⟩ := hS.sbOpen
 refine enter Tryz.func32 rfl rfl rfl fun a hE => ?_
 refine W.seq (W.region (vp hS hE rfl rfl fun a hE => WL.nil ?_))
 refine W.seq ?_
 refine W.regionE (sel (fun w => St w s (pc b [.pointer f, .slice sa y.size c].toArray 70 :: vecC 5 1 sa c y.size (byteCells y) :: R)) (fun w => St w s R)) (fun b i => cond b (!(i == 10)) true) sbmixed ?_
 replace hS := hS.drew
 refine Rg.takeP (i := 0) hE rfl (by kernel_rfl) (runs_plain rfl) (Gives.p hE rfl) rfl (tw_sel (fun _ => hS) (fun _ => hS.tail.tail)) fun a hE => ?_
 refine Rg.takeP (i := 5) hE rfl (by kernel_rfl) (runs_plain rfl) (Gives.p hE rfl) rfl (tw_sel (fun _ => hS) (fun _ => hS.tail.tail)) fun a hE => ?_
 refine Rg.takeP (i := 1) hE rfl (by kernel_rfl) (runs_plain rfl) (Gives.nilOk hE rfl) rfl (tw_sel (fun _ => hS) (fun _ => hS.tail.tail)) fun a hE => ?_
 refine Rg.takeP (i := 6) hE rfl (by kernel_rfl) (runs_plain rfl) (Gives.nilOk hE rfl) rfl (tw_sel (fun _ => hS) (fun _ => hS.tail.tail)) fun a hE => ?_
 refine Rg.takeP (i := 2) hE rfl (by kernel_rfl) (runs_plain rfl) (Gives.fld hE rfl sbfl1) rfl (tw_sel (fun _ => hS) (fun _ => hS.tail.tail)) fun a hE => ?_
 refine Rg.takeP (i := 7) hE rfl (by kernel_rfl) (runs_plain rfl) (Gives.fld hE rfl sbfl1) rfl (tw_sel (fun _ => hS) (fun _ => hS.tail.tail)) fun a hE => ?_
 refine Rg.two (i := 3) (j := 8) true true true true rfl rfl (by kernel_rfl) (by kernel_rfl) (by kernel_rfl) (by kernel_rfl) (by kernel_rfl) ?_ ?_
 ·refine vP hS hE (Gives.loadB hE 0 rfl rfl rfl sbty61) rfl fun a hE => WL.nil ?_
  refine ⟨⟨fun _ => hS, fun _ => hS.tail.tail⟩, ?_⟩
  refine Rg.takeP (i := 4) hE rfl (by kernel_rfl) (runs_plain rfl) (Gives.sliceData hE rfl ha.2) rfl (tw_sel (fun _ => hS) (fun _ => hS.tail.tail)) fun a hE => ?_
  refine Rg.one (i := 8) true true rfl (by kernel_rfl) (by kernel_rfl) (by kernel_rfl) ?_
  refine vP hS hE (Gives.loadB hE 0 rfl rfl rfl sbty61) rfl fun a hE => WL.nil ?_
  refine ⟨⟨fun _ => hS, fun _ => hS.tail.tail⟩, ?_⟩
  refine Rg.takeP (i := 9) hE rfl (by kernel_rfl) (runs_plain rfl) (Gives.len hE rfl sbsl) rfl (tw_sel (fun _ => hS) (fun _ => hS.tail.tail)) fun a hE => ?_
  refine Rg.one (i := 10) false true rfl (by kernel_rfl) (by kernel_rfl) (by kernel_rfl) ?_
  refine WL.sbString hE hS 1 (runs_plain rfl) rfl rfl rfl ha.1 sbu76 sbc5 rfl ?_; clear hE hS a; intro a w hE hS
  refine WL.nil ?_
  refine ⟨⟨fun h => absurd h (by decide), fun _ => hS.tail⟩, ?_⟩
  refine Rg.takeP (i := 11) hE rfl (by kernel_rfl) (runs_plain rfl) (Gives.p hE rfl) rfl (tw_sel (fun h => absurd h (by decide)) (fun _ => hS.tail)) fun a hE => ?_
  refine Rg.done (by kernel_rfl) ?_
  refine W.ret ?_
  refine finG (fn := Tryz.f32) (rs := [.tmp 2]) (vs := [_]) hE rfl ⟨rfl, trivial⟩ ?_
  exact ⟨rfl, hS.tail⟩
 refine vP hS hE (Gives.loadB hE 0 rfl rfl rfl sbty61) rfl fun a hE => WL.nil ?_
 refine ⟨⟨fun _ => hS, fun _ => hS.tail.tail⟩, ?_⟩
 refine Rg.takeP (i := 9) hE rfl (by kernel_rfl) (runs_plain rfl) (Gives.len hE rfl sbsl) rfl (tw_sel (fun _ => hS) (fun _ => hS.tail.tail)) fun a hE => ?_
 refine Rg.one (i := 3) true true rfl (by kernel_rfl) (by kernel_rfl) (by kernel_rfl) ?_
 refine vP hS hE (Gives.loadB hE 0 rfl rfl rfl sbty61) rfl fun a hE => WL.nil ?_
 refine ⟨⟨fun _ => hS, fun _ => hS.tail.tail⟩, ?_⟩
 refine Rg.takeP (i := 4) hE rfl (by kernel_rfl) (runs_plain rfl) (Gives.sliceData hE rfl ha.2) rfl (tw_sel (fun _ => hS) (fun _ => hS.tail.tail)) fun a hE => ?_
 refine Rg.one (i := 10) false true rfl (by kernel_rfl) (by kernel_rfl) (by kernel_rfl) ?_
 refine WL.sbString hE hS 1 (runs_plain rfl) rfl rfl rfl ha.1 sbu76 sbc5 rfl ?_; clear hE hS a; intro a w hE hS
 refine WL.nil ?_
 refine ⟨⟨fun h => absurd h (by decide), fun _ => hS.tail⟩, ?_⟩
 refine Rg.takeP (i := 11) hE rfl (by kernel_rfl) (runs_plain rfl) (Gives.p hE rfl) rfl (tw_sel (fun h => absurd h (by decide)) (fun _ => hS.tail)) fun a hE => ?_
 refine Rg.done (by kernel_rfl) ?_
 refine W.ret ?_
 refine finG (fn := Tryz.f32) (rs := [.tmp 2]) (vs := [_]) hE rfl ⟨rfl, trivial⟩ ?_
 exact ⟨rfl, hS.tail⟩
end
theorem itoa_ok {w : World} {s : Sg} {R : List HP} {x : Int} {r : ByteArray} (hS : St w s R) (hTab : TabS Tryz.prog s) (hr : itoa x = some r) : Calls Tryz.prog 20 [vi x].toArray w (fun e w => e = .returned (.string r) ∧ St w s R) := by
 obtain ⟨⟨h0, h1⟩, rfl⟩ := itoa_some hr
 refine (Tryz.strconv_Itoa x h0 h1 w (hTab w R hS)).mono ?_
 rintro e w' ⟨rfl, k, os, rfl⟩
 exact ⟨rfl, (hS.drewN k).growBy os⟩
set_option maxHeartbeats 8000000 in
theorem Farewords_ok {fu : Nat}  {w : World} {s : Sg} {R : List HP} {x0 : ByteArray} (hS : St w s (R))  {r : (List ByteArray)} (hr : Farewords fu x0 = some r) :
  Calls Tryz.prog 39 [.string x0].toArray w (fun e w => ∃ (a0 : Option Addr) (c0 n0 : Nat) (cs0 : List Value), e = .returned (.slice a0 n0 c0) ∧ Ev 1 RS s cs0 r ∧ r.length = n0 ∧ St w s (vecC 9 1 a0 c0 n0 cs0 :: R)) := by
 refine enter Tryz.func39 rfl rfl rfl fun a hE => ?_
 rw [Farewords] at hr
 refine W.seq (W.region (vp hS hE rfl rfl fun a hE => WL.nil ?_))
 refine W.seq (W.region ?_)
 replace hS := hS.vecNil 9 1
 refine vp hS hE rfl rfl fun a hE => WL.nil ?_
 refine W.seq (W.region (vp hS hE rfl rfl fun a hE => WL.nil ?_))
 refine W.seq ?_
 refine W.seq (W.region (vp hS hE rfl rfl fun a hE => ?_))
 refine WL.rangeS hE hS rfl ut9 (runs_plain rfl) rfl ?_; clear hE hS a w; intro r52 a w hE hS
 refine WL.nil ?_
 obtain ⟨q55, hq54, hr⟩ := bindS hr
 refine W.cut (fun a w => ∃ (q60 : List ByteArray), ∃ (q67 : Bool), ∃ (q68 : Nat), ∃ (a61 : Option Addr), ∃ (c62 : Nat), ∃ (n64 : Nat), ∃ (cs65 : List Value), (q60, q67, q68) = q55 ∧ Ev 1 RS s cs65 q60 ∧ q60.length = n64 ∧ Rep a 45 [(3, .slice a61 n64 c62)] ∧ St w s (strI r52 x0 q68 :: vecC 9 1 a61 c62 n64 cs65 :: R)) ?_ ?_
 ·refine W.block ?_
  refine W.loop (fun m a w => ∃ (n56 : Nat), ∃ (q60 : List ByteArray), ∃ (q67 : Bool), ∃ (q68 : Nat), ∃ (a61 : Option Addr), ∃ (c62 : Nat), ∃ (n64 : Nat), ∃ (cs65 : List Value), n56 = m ∧ Farewords.loop1 x0 n56 q60 q67 q68 = some q55 ∧ Ev 1 RS s cs65 q60 ∧ q60.length = n64 ∧ Rep a 45 [(3, .slice a61 n64 c62), (4, .bool q67), (8, pp r52)] ∧ St w s (strI r52 x0 q68 :: vecC 9 1 a61 c62 n64 cs65 :: R)) (m := fu) ⟨fu, [], true, 0, none, 0, 0, [], rfl, hq54, (Ev.nil), (rfl), hE.pick _ ⟨rfl, rfl, rfl, trivial⟩, hS⟩ ?_
  clear hE hS a w hq54; rintro m57 a w ⟨n56, q60, q67, q68, a61, c62, n64, cs65, rfl, hq54, h63, rfl, hE, hS⟩
  refine W.gen fun K69 hK69 => ?_
  rcases n56 with _ | n56
  ·rw [Farewords.loop1] at hq54; exact absurd hq54 (by simp)
  rw [Farewords.loop1] at hq54
  refine W.seq (W.region ?_)
  refine WL.nextS hE hS 0 rfl rfl (runs_plain rfl) rfl ?_ ?_
  ·intro hp70; clear hE a; intro a hE; replace hq54 := iteF (decide_eq_false hp70) hq54
   refine vp hS hE rfl rfl fun a hE => WL.nil ?_
   refine W.seq ?_
   refine W.condF hE rfl rfl ?_
   subst hK69
   refine W.exit rfl ?_
   exact ⟨q60, q67, q68, a61, c62, q60.length, cs65, Option.some.inj hq54, h63, rfl, hE.pick _ ⟨rfl, trivial⟩, hS⟩
  clear hE hS; intro hp70; clear a w; intro a w hE hS; replace hq54 := iteT (decide_eq_true hp70) hq54
  refine vp hS hE rfl rfl fun a hE => WL.nil ?_
  refine W.seq ?_
  refine W.condT hE rfl rfl ?_
  refine W.skip ?_
  refine W.block ?_
  refine W.seq (W.region (v2 hS hE rfl rfl rfl rfl fun a hE => WL.nil ?_))
  refine W.block ?_
  refine W.seq (W.region (v2 hS hE rfl rfl rfl rfl fun a hE => ?_))
  refine vp hS hE rfl rfl fun a hE => WL.nil ?_
  obtain ⟨q72, hq71, hq54⟩ := bindS hq54
  refine W.cut (fun a w => ∃ (q75 : List ByteArray), ∃ (q82 : Bool), ∃ (a76 : Option Addr), ∃ (c77 : Nat), ∃ (n79 : Nat), ∃ (cs80 : List Value), (q75, q82) = q72 ∧ Ev 1 RS s cs80 q75 ∧ q75.length = n79 ∧ Rep a 45 [(3, .slice a76 n79 c77), (4, .bool q82), (8, pp r52)] ∧ St w s (strI r52 x0 (q68 + (Utf8.decode x0 q68).2) :: vecC 9 1 a76 c77 n79 cs80 :: R)) ?_ ?_
  ·refine W.gen fun K83 hK83 => ?_
   refine W.cond hE rfl (fun hc84 => ?_) (fun hc84 => ?_)
   ·replace hq71 := iteT hc84 hq71
    refine W.region ?_
    refine vp hS hE rfl rfl fun a hE => WL.nil ?_
    subst hK83
    exact ⟨q60, true, a61, c62, q60.length, cs65, Option.some.inj hq71, h63, rfl, hE.pick _ ⟨rfl, rfl, rfl, trivial⟩, hS⟩
   replace hq71 := iteF hc84 hq71
   refine W.seq ?_
   obtain ⟨q86, hq85, hq71⟩ := bndS hq71
   refine W.cut (fun a w => ∃ (q89 : Bool), q89 = q86 ∧ Rep a 45 [(3, .slice a61 q60.length c62), (4, .bool q67), (6, .int .i32 ((Utf8.decode x0 q68).1 : Int)), (8, pp r52), (25, .bool q89)] ∧ St w s (strI r52 x0 (q68 + (Utf8.decode x0 q68).2) :: vecC 9 1 a61 c62 q60.length cs65 :: R)) ?_ ?_
   ·refine W.gen fun K90 hK90 => ?_
    refine W.region ?_
    refine v2 hS hE rfl rfl rfl rfl fun a hE => ?_
    refine vp hS hE rfl rfl fun a hE => ?_
    rcases Bool.eq_false_or_eq_true (((Utf8.decode x0 q68).1 : Int) == 40) with hg91 | hg91
    ·replace hq85 := iteT hg91 hq85
     refine nO hE rfl rfl rfl (by rw [hg91]; decide) rfl fun a hE => ?_
     refine nO hE rfl rfl rfl (by rw [hg91]; decide) rfl fun a hE => ?_
     refine vP hS hE (Gives.pickT hE rfl hg91 rfl) rfl fun a hE => ?_
     refine vp hS hE rfl rfl fun a hE => WL.nil ?_
     subst hK90
     exact ⟨true, hq85, hE.pick _ ⟨rfl, rfl, rfl, rfl, rfl, trivial⟩, hS⟩
    replace hq85 := iteF hg91 hq85
    refine WL.vS hS hE (runs_if hE rfl rfl rfl hg91) (Gives.p hE rfl) rfl fun a hE => ?_
    refine WL.vS hS hE (runs_if hE rfl rfl rfl hg91) (Gives.p hE rfl) rfl fun a hE => ?_
    refine vP hS hE (Gives.pickF hE rfl hg91 rfl) rfl fun a hE => ?_
    refine vp hS hE rfl rfl fun a hE => WL.nil ?_
    subst hK90
    exact ⟨(((Utf8.decode x0 q68).1 : Int) == 41), hq85, hE.pick _ ⟨rfl, rfl, rfl, rfl, rfl, trivial⟩, hS⟩
   clear hE hS a w; rintro a w ⟨q89, rfl, hE, hS⟩
   obtain ⟨q93, hq92, hq71⟩ := bindS hq71
   refine W.cut (fun a w => ∃ (q96 : List ByteArray), ∃ (q103 : Bool), ∃ (a97 : Option Addr), ∃ (c98 : Nat), ∃ (n100 : Nat), ∃ (cs101 : List Value), (q96, q103) = q93 ∧ Ev 1 RS s cs101 q96 ∧ q96.length = n100 ∧ Rep a 45 [(3, .slice a97 n100 c98), (4, .bool q103), (8, pp r52)] ∧ St w s (strI r52 x0 (q68 + (Utf8.decode x0 q68).2) :: vecC 9 1 a97 c98 n100 cs101 :: R)) ?_ ?_
   ·refine W.gen fun K104 hK104 => ?_
    refine W.cond hE rfl (fun hc105 => ?_) (fun hc105 => ?_)
    ·replace hq92 := iteT hc105 hq92
     refine W.seq (W.region (v2 hS hE rfl rfl rfl rfl fun a hE => ?_))
     refine vP hS hE (Gives.runeStr hE rfl ui21 ut9) rfl fun a hE => ?_
     refine WL.lit hE hS (e := 9) (es := 1) (vs := [(0, .string (Utf8.encode ((Utf8.decode x0 q68).1 : Int)))]) (cs := [.string (Utf8.encode ((Utf8.decode x0 q68).1 : Int))]) (runs_plain rfl) rfl (by kernel_rfl) rfl ?_; clear hE hS a w; intro b106 a w hE hS
     obtain ⟨x107, hx108, hq92⟩ := bindS hq92
     refine WL.appD hE hS 1 (m := 1) (runs_plain rfl) rfl rfl rfl ap59 rfl h63 rfl (xs := [(Utf8.encode ((Utf8.decode x0 q68).1 : Int))]) (Ev.cons (c1 := [.string (Utf8.encode ((Utf8.decode x0 q68).1 : Int))]) rfl rfl (Ev.nil)) rfl rfl hx108 rfl ?_; clear hE hS a w; intro a109 c110 cs111 a w h112 hE hS
     refine vp hS hE rfl rfl fun a hE => WL.nil ?_
     refine W.region ?_
     refine vp hS hE rfl rfl fun a hE => WL.nil ?_
     subst hK104
     exact ⟨x107, true, a109, c110, x107.length, cs111, Option.some.inj hq92, h112, (rfl), hE.pick _ ⟨rfl, rfl, rfl, trivial⟩, hS⟩
    replace hq92 := iteF hc105 hq92
    refine W.seq (W.region (v2 hS hE rfl rfl rfl rfl fun a hE => WL.nil ?_))
    obtain ⟨q114, hq113, hq92⟩ := bindS hq92
    refine W.cut (fun a w => ∃ (q117 : List ByteArray), ∃ (q124 : Bool), ∃ (a118 : Option Addr), ∃ (c119 : Nat), ∃ (n121 : Nat), ∃ (cs122 : List Value), (q117, q124) = q114 ∧ Ev 1 RS s cs122 q117 ∧ q117.length = n121 ∧ Rep a 45 [(3, .slice a118 n121 c119), (4, .bool q124), (8, pp r52)] ∧ St w s (strI r52 x0 (q68 + (Utf8.decode x0 q68).2) :: vecC 9 1 a118 c119 n121 cs122 :: R)) ?_ ?_
    ·refine W.gen fun K125 hK125 => ?_
     refine W.cond hE rfl (fun hc126 => ?_) (fun hc126 => ?_)
     ·replace hq113 := iteT hc126 hq113
      refine W.seq (W.region (v2 hS hE rfl rfl rfl rfl fun a hE => ?_))
      refine vP hS hE (Gives.runeStr hE rfl ui21 ut9) rfl fun a hE => ?_
      refine WL.lit hE hS (e := 9) (es := 1) (vs := [(0, .string (Utf8.encode ((Utf8.decode x0 q68).1 : Int)))]) (cs := [.string (Utf8.encode ((Utf8.decode x0 q68).1 : Int))]) (runs_plain rfl) rfl (by kernel_rfl) rfl ?_; clear hE hS a w; intro b127 a w hE hS
      obtain ⟨x128, hx129, hq113⟩ := bindS hq113
      refine WL.appD hE hS 1 (m := 1) (runs_plain rfl) rfl rfl rfl ap59 rfl h63 rfl (xs := [(Utf8.encode ((Utf8.decode x0 q68).1 : Int))]) (Ev.cons (c1 := [.string (Utf8.encode ((Utf8.decode x0 q68).1 : Int))]) rfl rfl (Ev.nil)) rfl rfl hx129 rfl ?_; clear hE hS a w; intro a130 c131 cs132 a w h133 hE hS
      refine vp hS hE rfl rfl fun a hE => WL.nil ?_
      refine W.region ?_
      refine vp hS hE rfl rfl fun a hE => WL.nil ?_
      subst hK125
      exact ⟨x128, false, a130, c131, x128.length, cs132, Option.some.inj hq113, h133, (rfl), hE.pick _ ⟨rfl, rfl, rfl, trivial⟩, hS⟩
     replace hq113 := iteF hc126 hq113
     refine W.region ?_
     refine v2 hS hE rfl rfl rfl rfl fun a hE => ?_
     refine vP hS hE (Gives.len hE rfl sl59) rfl fun a hE => ?_
     refine vp hS hE rfl rfl fun a hE => ?_
     obtain ⟨x134, hx135, hq113⟩ := bindS hq113
     obtain ⟨hi136, hlt137, hy138⟩ := gx_some hx135
     obtain ⟨vs139, hl140, hR141, hd142, hget143⟩ := h63.at hy138
     subst hR141
     refine vP hS hE (Gives.idx hE ((w64 (((q60.length : Nat) : Int) - 1)).toNat) rfl rfl sl59 hi136 (by omega) (hS.vecAok 1 rfl (by omega : (w64 (((q60.length : Nat) : Int) - 1)).toNat < q60.length))) rfl fun a hE => ?_
     refine vP hS hE (Gives.load1 hE rfl (fun w h => St.vecSees h 1 rfl ((w64 (((q60.length : Nat) : Int) - 1)).toNat * 1) _ hget143) ty9) rfl fun a hE => ?_
     refine vp hS hE rfl rfl fun a hE => ?_
     refine vP hS hE (Gives.runeStr hE rfl ui21 ut9) rfl fun a hE => ?_
     obtain ⟨x144, hx145, hq113⟩ := bindS hq113
     refine vP hS hE (Gives.catS hE rfl rfl hx145) rfl fun a hE => ?_
     obtain ⟨_, hx147, hq113⟩ := bindS hq113
     obtain ⟨h148, h149⟩ := ix_some hx147
     refine vP hS hE (Gives.idx hE ((w64 (((q60.length : Nat) : Int) - 1)).toNat) rfl rfl sl59 h148 (by omega) (hS.vecAok 1 rfl (by omega : (w64 (((q60.length : Nat) : Int) - 1)).toNat < q60.length))) rfl fun a hE => ?_
     obtain ⟨x151, hx152, hq113⟩ := bindS hq113
     refine WL.setD hE hS 1 rfl (runs_plain rfl) rfl rfl (vs := [.string x144]) rfl ty9 rfl rfl rfl h63 rfl (sx_some hx152).1 hx152 rfl rfl ?_; clear hE hS a w; intro cs153 a w h154 hn155 hE hS
     refine WL.nil ?_
     subst hK125
     exact ⟨x151, q67, a61, c62, q60.length, cs153, Option.some.inj hq113, h154, hn155, hE.pick _ ⟨rfl, rfl, rfl, trivial⟩, hS⟩
    clear hE hS a w; rintro a w ⟨q117, q124, a118, c119, n121, cs122, rfl, h120, rfl, hE, hS⟩
    dsimp only at hq92
    subst hK104
    exact ⟨q117, q124, a118, c119, q117.length, cs122, Option.some.inj hq92, h120, rfl, hE.pick _ ⟨rfl, rfl, rfl, trivial⟩, hS⟩
   clear hE hS a w; rintro a w ⟨q96, q103, a97, c98, n100, cs101, rfl, h99, rfl, hE, hS⟩
   dsimp only at hq71
   subst hK83
   exact ⟨q96, q103, a97, c98, q96.length, cs101, Option.some.inj hq71, h99, rfl, hE.pick _ ⟨rfl, rfl, rfl, trivial⟩, hS⟩
  clear hE hS a w; rintro a w ⟨q75, q82, a76, c77, n79, cs80, rfl, h78, rfl, hE, hS⟩
  dsimp only at hq54
  subst hK69
  exact ⟨n56, Nat.lt_succ_self _, n56, q75, q82, (q68 + (Utf8.decode x0 q68).2), a76, c77, q75.length, cs80, rfl, hq54, h78, rfl, hE.pick _ ⟨rfl, rfl, rfl, trivial⟩, hS⟩
 clear hE hS a w; rintro a w ⟨q60, q67, q68, a61, c62, n64, cs65, rfl, h63, rfl, hE, hS⟩
 dsimp only at hr
 refine W.seq (W.region (v2 hS hE rfl rfl rfl rfl fun a hE => WL.nil ?_))
 refine W.ret ?_
 refine finG (fn := Tryz.f39) (rs := [.tmp 2]) (vs := [_]) hE rfl ⟨rfl, trivial⟩ ?_
 obtain rfl := Option.some.inj hr
 replace hS := hS.tail
 exact ⟨a61, c62, q60.length, cs65, rfl, h63, rfl, hS⟩
set_option maxHeartbeats 8000000 in
theorem FareReadertake_v1_ok  {w : World} {s : Sg} {R : List HP} {pb0 : Nat} {x1 : ByteArray} {y0 : FareReader} {a_v0 : Option Addr} {c_v0 n_v0 : Nat} {cs_v0 : List Value} (hS : St w s (pc pb0 #[.slice a_v0 n_v0 c_v0, vi y0.at_] 89 :: vecC 9 1 a_v0 c_v0 n_v0 cs_v0 :: R)) (h_v0 : Ev 1 RS s cs_v0 y0.words) (hn_v0 : y0.words.length = n_v0) {r : Bool × Int} (hr : FareReadertake_v1 x1 y0 = some r) :
  Calls Tryz.prog 40 [pp pb0, .string x1].toArray w (fun e w => e = .returned (.bool r.1) ∧ St w s (pc pb0 #[.slice a_v0 n_v0 c_v0, vi r.2] 89 :: vecC 9 1 a_v0 c_v0 n_v0 cs_v0 :: R)) := by
 refine enter Tryz.func40 rfl rfl rfl fun a hE => ?_
 rw [FareReadertake_v1] at hr
 subst hn_v0
 refine W.seq (W.region (vp hS hE rfl rfl fun a hE => WL.nil ?_))
 refine W.seq ?_
 refine W.seq ?_
 obtain ⟨q53, hq52, hr⟩ := bindS hr
 refine W.cut (fun a w => ∃ (q56 : Bool), q56 = q53 ∧ Rep a 36 [(0, pp pb0), (28, .bool q56)] ∧ St w s (pc pb0 #[.slice a_v0 y0.words.length c_v0, vi y0.at_] 89 :: vecC 9 1 a_v0 c_v0 y0.words.length cs_v0 :: R)) ?_ ?_
 ·refine W.gen fun K57 hK57 => ?_
  refine W.regionQ (C := fun w => St w s (pc pb0 #[.slice a_v0 y0.words.length c_v0, vi y0.at_] 89 :: vecC 9 1 a_v0 c_v0 y0.words.length cs_v0 :: R)) mixed (by kernel_rfl) hS.drew ?_
  refine qP hE (Gives.p hE rfl) rfl fun a hE => ?_
  refine qP hE (Gives.nilOk hE rfl) rfl fun a hE => ?_
  refine qP hE (Gives.fld hE rfl fl89_1) rfl fun a hE => ?_
  refine qP hE (Gives.loadB hE 0 rfl rfl rfl ty3) rfl fun a hE => ?_
  refine qP hE (Gives.p hE rfl) rfl fun a hE => ?_
  refine qP hE (Gives.nilOk hE rfl) rfl fun a hE => ?_
  refine qP hE (Gives.fld hE rfl fl89_0) rfl fun a hE => ?_
  refine qP hE (Gives.loadB hE 0 rfl rfl rfl ty59) rfl fun a hE => ?_
  refine qP hE (Gives.len hE rfl sl59) rfl fun a hE => ?_
  refine qP hE (Gives.p hE rfl) rfl fun a hE => ?_
  refine qP hE (Gives.p hE rfl) rfl fun a hE => ?_
  rcases Bool.eq_false_or_eq_true (decide (y0.at_ < ((y0.words.length : Nat) : Int))) with hg58 | hg58
  ·replace hq52 := iteT hg58 hq52
   refine QL.v hE (runs_if hE rfl rfl rfl hg58) (Gives.p hE rfl) rfl fun a hE => ?_
   refine QL.v hE (runs_if hE rfl rfl rfl hg58) (Gives.nilOk hE rfl) rfl fun a hE => ?_
   refine QL.v hE (runs_if hE rfl rfl rfl hg58) (Gives.fld hE rfl fl89_0) rfl fun a hE => ?_
   refine QL.v hE (runs_if hE rfl rfl rfl hg58) (Gives.loadB hE 0 rfl rfl rfl ty59) rfl fun a hE => ?_
   refine QL.v hE (runs_if hE rfl rfl rfl hg58) (Gives.p hE rfl) rfl fun a hE => ?_
   refine QL.v hE (runs_if hE rfl rfl rfl hg58) (Gives.nilOk hE rfl) rfl fun a hE => ?_
   refine QL.v hE (runs_if hE rfl rfl rfl hg58) (Gives.fld hE rfl fl89_1) rfl fun a hE => ?_
   refine QL.v hE (runs_if hE rfl rfl rfl hg58) (Gives.loadB hE 0 rfl rfl rfl ty3) rfl fun a hE => ?_
   obtain ⟨x59, hx60, hq52⟩ := bindS hq52
   obtain ⟨hi61, hlt62, hy63⟩ := gx_some hx60
   obtain ⟨vs64, hl65, hR66, hd67, hget68⟩ := h_v0.at hy63
   subst hR66
   refine QL.v hE (runs_if hE rfl rfl rfl hg58) (Gives.idx hE ((y0.at_).toNat) rfl rfl sl59 hi61 (by omega) (hS.vecAok 1 rfl (by omega : (y0.at_).toNat < y0.words.length))) rfl fun a hE => ?_
   refine QL.v hE (runs_if hE rfl rfl rfl hg58) (Gives.load1 hE rfl (fun w h => St.vecSees h 1 rfl ((y0.at_).toNat * 1) _ hget68) ty9) rfl fun a hE => ?_
   refine QL.v hE (runs_if hE rfl rfl rfl hg58) (Gives.p hE rfl) rfl fun a hE => ?_
   refine QL.v hE (runs_if hE rfl rfl rfl hg58) (Gives.eqSt hE rfl rfl) rfl fun a hE => ?_
   refine qP hE (Gives.pickT hE rfl hg58 rfl) rfl fun a hE => ?_
   refine QL.nil ?_; clear hS w; intro w hS
   subst hK57
   exact ⟨(seq x59 x1), Option.some.inj hq52, hE.pick _ ⟨rfl, rfl, trivial⟩, hS⟩
  replace hq52 := iteF hg58 hq52
  refine QL.no hE (runs_not hE rfl rfl rfl (by rw [hg58]; decide)) rfl fun a hE => ?_
  refine QL.no hE (runs_not hE rfl rfl rfl (by rw [hg58]; decide)) rfl fun a hE => ?_
  refine QL.no hE (runs_not hE rfl rfl rfl (by rw [hg58]; decide)) rfl fun a hE => ?_
  refine QL.no hE (runs_not hE rfl rfl rfl (by rw [hg58]; decide)) rfl fun a hE => ?_
  refine QL.no hE (runs_not hE rfl rfl rfl (by rw [hg58]; decide)) rfl fun a hE => ?_
  refine QL.no hE (runs_not hE rfl rfl rfl (by rw [hg58]; decide)) rfl fun a hE => ?_
  refine QL.no hE (runs_not hE rfl rfl rfl (by rw [hg58]; decide)) rfl fun a hE => ?_
  refine QL.no hE (runs_not hE rfl rfl rfl (by rw [hg58]; decide)) rfl fun a hE => ?_
  refine QL.no hE (runs_not hE rfl rfl rfl (by rw [hg58]; decide)) rfl fun a hE => ?_
  refine QL.no hE (runs_not hE rfl rfl rfl (by rw [hg58]; decide)) rfl fun a hE => ?_
  refine QL.no hE (runs_not hE rfl rfl rfl (by rw [hg58]; decide)) rfl fun a hE => ?_
  refine QL.no hE (runs_not hE rfl rfl rfl (by rw [hg58]; decide)) rfl fun a hE => ?_
  refine qP hE (Gives.pickF hE rfl hg58 rfl) rfl fun a hE => ?_
  refine QL.nil ?_; clear hS w; intro w hS
  subst hK57
  exact ⟨false, Option.some.inj hq52, hE.pick _ ⟨rfl, rfl, trivial⟩, hS⟩
 clear hE hS a w; rintro a w ⟨q56, rfl, hE, hS⟩
 refine W.cond hE rfl (fun hc69 => ?_) (fun hc69 => ?_)
 ·replace hr := iteT hc69 hr
  refine W.seq (W.region (vp hS hE rfl rfl fun a hE => ?_))
  refine vP hS hE (Gives.nilOk hE rfl) rfl fun a hE => ?_
  refine vP hS hE (Gives.fld hE rfl fl89_1) rfl fun a hE => ?_
  refine vP hS hE (Gives.loadB hE 0 rfl rfl rfl ty3) rfl fun a hE => ?_
  refine vp hS hE rfl rfl fun a hE => ?_
  refine vP hS hE (Gives.nilOk hE rfl) rfl fun a hE => ?_
  refine vP hS hE (Gives.fld hE rfl fl89_1) rfl fun a hE => ?_
  refine WL.storeI hE hS 0 rfl [.slice a_v0 y0.words.length c_v0, vi (w64 (y0.at_ + 1))] (runs_plain rfl) rfl rfl rfl ty3 rfl rfl rfl rfl ?_; clear hE hS a w; intro a w hE hS
  refine WL.nil ?_
  refine W.seq (W.region (vp hS hE rfl rfl fun a hE => WL.nil ?_))
  refine W.ret ?_
  refine finG (fn := Tryz.f40) (rs := [.tmp 4]) (vs := [_]) hE rfl ⟨rfl, trivial⟩ ?_
  obtain rfl := Option.some.inj hr
  exact ⟨rfl, hS⟩
 replace hr := iteF hc69 hr
 refine W.skip ?_
 refine W.seq (W.region (vp hS hE rfl rfl fun a hE => WL.nil ?_))
 refine W.ret ?_
 refine finG (fn := Tryz.f40) (rs := [.tmp 4]) (vs := [_]) hE rfl ⟨rfl, trivial⟩ ?_
 obtain rfl := Option.some.inj hr
 exact ⟨rfl, hS⟩
set_option maxHeartbeats 8000000 in
theorem FareReadermust_v1_ok  {w : World} {s : Sg} {R : List HP} {pb0 : Nat} {x1 : ByteArray} {y0 : FareReader} {a_v0 : Option Addr} {c_v0 n_v0 : Nat} {cs_v0 : List Value} (hS : St w s (pc pb0 #[.slice a_v0 n_v0 c_v0, vi y0.at_] 89 :: vecC 9 1 a_v0 c_v0 n_v0 cs_v0 :: R)) (h_v0 : Ev 1 RS s cs_v0 y0.words) (hn_v0 : y0.words.length = n_v0) {r : Option Int} (hr : FareReadermust_v1 x1 y0 = some r) :
  Calls Tryz.prog 41 [pp pb0, .string x1].toArray w (fun e w => (r = none ∧ e = .panicked [{ v := .iface 54 (.agg #[]), recovered := false }] ∧ ∃ (t : Sg), s.Le t ∧ St w t R) ∨ (∃ rr, r = some rr ∧ e = .returned (.tuple #[]) ∧ St w s (pc pb0 #[.slice a_v0 n_v0 c_v0, vi rr] 89 :: vecC 9 1 a_v0 c_v0 n_v0 cs_v0 :: R))) := by
 refine enter Tryz.func41 rfl rfl rfl fun a hE => ?_
 rw [FareReadermust_v1] at hr
 subst hn_v0
 refine W.seq (W.region (v2 hS hE rfl rfl rfl rfl fun a hE => ?_))
 obtain ⟨q52, hq53, hr⟩ := bindS hr
 have hc_ := FareReadertake_v1_ok (y0 := y0) hS h_v0 (rfl) hq53
 refine WL.fnq hE (hc_) (runs_plain rfl) bd40 rfl rfl rfl ?_
 clear hE hS hc_; rintro e w ⟨rfl, hS⟩; refine ⟨_, rfl, ?_⟩; clear a; intro a hE
 refine vp hS hE rfl rfl fun a hE => WL.nil ?_
 refine W.cond hE rfl (fun hc54 => ?_) (fun hc54 => ?_)
 ·replace hr := iteT hc54 hr
  refine W.region ?_
  refine vP hS hE (Gives.build hE (vs := []) [] rfl (by kernel_rfl)) rfl fun a hE => ?_
  refine vP hS hE (Gives.iface hE rfl ifc54) rfl fun a hE => ?_
  refine WL.panic hE rfl (runs_plain rfl) fun a hE => ?_
  refine ⟨hE.defers.trans rfl, ?_⟩
  obtain rfl := Option.some.inj hr
  replace hS := hS.tail
  replace hS := hS.tail
  exact .inl ⟨rfl, rfl, s, (Sg.Le.refl _), hS⟩
 replace hr := iteF hc54 hr
 refine W.skip ?_
 refine finG (fn := Tryz.f41) (rs := []) (vs := []) hE rfl trivial ?_
 obtain rfl := Option.some.inj hr
 exact .inr ⟨_, rfl, ⟨rfl, hS⟩⟩
set_option maxHeartbeats 8000000 in
theorem FareReaderword_v1_ok  {w : World} {s : Sg} {R : List HP} {pb0 : Nat} {y0 : FareReader} {a_v0 : Option Addr} {c_v0 n_v0 : Nat} {cs_v0 : List Value} (hS : St w s (pc pb0 #[.slice a_v0 n_v0 c_v0, vi y0.at_] 89 :: vecC 9 1 a_v0 c_v0 n_v0 cs_v0 :: R)) (h_v0 : Ev 1 RS s cs_v0 y0.words) (hn_v0 : y0.words.length = n_v0) {r : Option (ByteArray × Int)} (hr : FareReaderword_v1 y0 = some r) :
  Calls Tryz.prog 66 [pp pb0].toArray w (fun e w => (r = none ∧ e = .panicked [{ v := .iface 54 (.agg #[]), recovered := false }] ∧ ∃ (t : Sg), s.Le t ∧ St w t R) ∨ (∃ rr, r = some rr ∧ e = .returned (.string rr.1) ∧ St w s (pc pb0 #[.slice a_v0 n_v0 c_v0, vi rr.2] 89 :: vecC 9 1 a_v0 c_v0 n_v0 cs_v0 :: R))) := by
 refine enter Tryz.func66 rfl rfl rfl fun a hE => ?_
 rw [FareReaderword_v1] at hr
 subst hn_v0
 refine W.seq (W.region (vp hS hE rfl rfl fun a hE => WL.nil ?_))
 refine W.seq ?_
 refine W.seq ?_
 refine W.regionQ (C := fun w => St w s (pc pb0 #[.slice a_v0 y0.words.length c_v0, vi y0.at_] 89 :: vecC 9 1 a_v0 c_v0 y0.words.length cs_v0 :: R)) mixed (by kernel_rfl) hS.drew ?_
 refine qP hE (Gives.p hE rfl) rfl fun a hE => ?_
 refine qP hE (Gives.nilOk hE rfl) rfl fun a hE => ?_
 refine qP hE (Gives.fld hE rfl fl89_1) rfl fun a hE => ?_
 refine qP hE (Gives.loadB hE 0 rfl rfl rfl ty3) rfl fun a hE => ?_
 refine qP hE (Gives.p hE rfl) rfl fun a hE => ?_
 refine qP hE (Gives.nilOk hE rfl) rfl fun a hE => ?_
 refine qP hE (Gives.fld hE rfl fl89_0) rfl fun a hE => ?_
 refine qP hE (Gives.loadB hE 0 rfl rfl rfl ty59) rfl fun a hE => ?_
 refine qP hE (Gives.len hE rfl sl59) rfl fun a hE => ?_
 refine qP hE (Gives.p hE rfl) rfl fun a hE => ?_
 refine QL.nil ?_; clear hS w; intro w hS
 refine W.cond hE rfl (fun hc52 => ?_) (fun hc52 => ?_)
 ·replace hr := iteT hc52 hr
  refine W.region ?_
  refine vP hS hE (Gives.build hE (vs := []) [] rfl (by kernel_rfl)) rfl fun a hE => ?_
  refine vP hS hE (Gives.iface hE rfl ifc54) rfl fun a hE => ?_
  refine WL.panic hE rfl (runs_plain rfl) fun a hE => ?_
  refine ⟨hE.defers.trans rfl, ?_⟩
  obtain rfl := Option.some.inj hr
  replace hS := hS.tail
  replace hS := hS.tail
  exact .inl ⟨rfl, rfl, s, (Sg.Le.refl _), hS⟩
 replace hr := iteF hc52 hr
 refine W.skip ?_
 refine W.seq (W.region (vp hS hE rfl rfl fun a hE => ?_))
 refine vP hS hE (Gives.nilOk hE rfl) rfl fun a hE => ?_
 refine vP hS hE (Gives.fld hE rfl fl89_1) rfl fun a hE => ?_
 refine vP hS hE (Gives.loadB hE 0 rfl rfl rfl ty3) rfl fun a hE => ?_
 refine vp hS hE rfl rfl fun a hE => ?_
 refine vP hS hE (Gives.nilOk hE rfl) rfl fun a hE => ?_
 refine vP hS hE (Gives.fld hE rfl fl89_1) rfl fun a hE => ?_
 refine WL.storeI hE hS 0 rfl [.slice a_v0 y0.words.length c_v0, vi (w64 (y0.at_ + 1))] (runs_plain rfl) rfl rfl rfl ty3 rfl rfl rfl rfl ?_; clear hE hS a w; intro a w hE hS
 refine WL.nil ?_
 refine W.seq ?_
 refine W.regionQ (C := fun w => St w s (pc pb0 #[.slice a_v0 y0.words.length c_v0, vi (w64 (y0.at_ + 1))] 89 :: vecC 9 1 a_v0 c_v0 y0.words.length cs_v0 :: R)) mixed (by kernel_rfl) hS.drew ?_
 refine qP hE (Gives.p hE rfl) rfl fun a hE => ?_
 refine qP hE (Gives.nilOk hE rfl) rfl fun a hE => ?_
 refine qP hE (Gives.fld hE rfl fl89_0) rfl fun a hE => ?_
 refine qP hE (Gives.loadB hE 0 rfl rfl rfl ty59) rfl fun a hE => ?_
 refine qP hE (Gives.p hE rfl) rfl fun a hE => ?_
 refine qP hE (Gives.nilOk hE rfl) rfl fun a hE => ?_
 refine qP hE (Gives.fld hE rfl fl89_1) rfl fun a hE => ?_
 refine qP hE (Gives.loadB hE 0 rfl rfl rfl ty3) rfl fun a hE => ?_
 refine qP hE (Gives.p hE rfl) rfl fun a hE => ?_
 obtain ⟨x53, hx54, hr⟩ := bindS hr
 obtain ⟨hi55, hlt56, hy57⟩ := gx_some hx54
 obtain ⟨vs58, hl59, hR60, hd61, hget62⟩ := h_v0.at hy57
 subst hR60
 refine qP hE (Gives.idx hE ((w64 ((w64 (y0.at_ + 1)) - 1)).toNat) rfl rfl sl59 hi55 (by omega) (hS.vecAok 1 rfl (by omega : (w64 ((w64 (y0.at_ + 1)) - 1)).toNat < y0.words.length))) rfl fun a hE => ?_
 refine qP hE (Gives.load1 hE rfl (fun w h => St.vecSees h 1 rfl ((w64 ((w64 (y0.at_ + 1)) - 1)).toNat * 1) _ hget62) ty9) rfl fun a hE => ?_
 refine qP hE (Gives.p hE rfl) rfl fun a hE => ?_
 refine QL.nil ?_; clear hS w; intro w hS
 refine W.ret ?_
 refine finG (fn := Tryz.f66) (rs := [.tmp 2]) (vs := [_]) hE rfl ⟨rfl, trivial⟩ ?_
 obtain rfl := Option.some.inj hr
 exact .inr ⟨_, rfl, ⟨rfl, hS⟩⟩
set_option maxHeartbeats 8000000 in
theorem Farenumber_ok  {w : World} {s : Sg} {R : List HP} {x0 : ByteArray} (hS : St w s (R)) (hTab : TabX s) {r : Option Int} (hr : Farenumber x0 = some r) :
  Calls Tryz.prog 65 [.string x0].toArray w (fun e w => (r = none ∧ e = .panicked [{ v := .iface 54 (.agg #[]), recovered := false }] ∧ ∃ (t : Sg), s.Le t ∧ St w t R) ∨ (∃ rr, r = some rr ∧ e = .returned (vi rr) ∧ St w s (R))) := by
 refine enter Tryz.func65 rfl rfl rfl fun a hE => ?_
 rw [Farenumber] at hr
 refine W.seq (W.region (vp hS hE rfl rfl fun a hE => WL.nil ?_))
 refine W.seq (W.region (vp hS hE rfl rfl fun a hE => ?_))
 obtain ⟨q51, hq52, hr⟩ := bindS hr
 refine WL.fnq hE (atoi_ok hS (TabG.mono (Sg.Le.refl _) hTab) hq52) (runs_plain rfl) bd71 rfl rfl rfl ?_
 clear hE hS; rintro e w ⟨ev53, rfl, h54, hS⟩; refine ⟨_, rfl, ?_⟩; clear a; intro a hE
 refine v2 hS hE rfl rfl rfl rfl fun a hE => ?_
 refine v2 hS hE rfl rfl rfl rfl fun a hE => ?_
 refine vp hS hE rfl rfl fun a hE => WL.nil ?_
 refine W.seq ?_
 refine W.seq ?_
 obtain ⟨q56, hq55, hr⟩ := bindS hr
 refine W.cut (fun a w => ∃ (q59 : Bool), q59 = q56 ∧ Rep a 25 [(3, vi q51.1), (21, .bool q59)] ∧ St w s (R)) ?_ ?_
 ·refine W.gen fun K60 hK60 => ?_
  refine W.region ?_
  refine vp hS hE rfl rfl fun a hE => ?_
  refine vP hS hE (Gives.errNe hE if72 h54 rfl) rfl fun a hE => ?_
  refine vp hS hE rfl rfl fun a hE => ?_
  rcases Bool.eq_false_or_eq_true (!(q51.2)) with hg61 | hg61
  ·replace hq55 := iteT hg61 hq55
   refine nO hE rfl rfl rfl (by rw [hg61]; decide) rfl fun a hE => ?_
   refine nO hE rfl rfl rfl (by rw [hg61]; decide) rfl fun a hE => ?_
   refine vP hS hE (Gives.pickT hE rfl hg61 rfl) rfl fun a hE => ?_
   refine vp hS hE rfl rfl fun a hE => ?_
   refine nO hE rfl rfl rfl (by decide) rfl fun a hE => ?_
   refine nO hE rfl rfl rfl (by decide) rfl fun a hE => ?_
   refine nO hE rfl rfl rfl (by decide) rfl fun a hE => ?_
   refine nO hE rfl rfl rfl (by decide) rfl fun a hE => ?_
   refine vP hS hE (Gives.pickT hE rfl rfl rfl) rfl fun a hE => WL.nil ?_
   subst hK60
   exact ⟨true, Option.some.inj hq55, hE.pick _ ⟨rfl, rfl, trivial⟩, hS⟩
  replace hq55 := iteF hg61 hq55
  refine WL.vS hS hE (runs_if hE rfl rfl rfl hg61) (Gives.p hE rfl) rfl fun a hE => ?_
  refine WL.vS hS hE (runs_if hE rfl rfl rfl hg61) (Gives.p hE rfl) rfl fun a hE => ?_
  refine vP hS hE (Gives.pickF hE rfl hg61 rfl) rfl fun a hE => ?_
  refine vp hS hE rfl rfl fun a hE => ?_
  rcases Bool.eq_false_or_eq_true (decide (q51.1 < 0)) with hg62 | hg62
  ·replace hq55 := iteT hg62 hq55
   refine nO hE rfl rfl rfl (by rw [hg62]; decide) rfl fun a hE => ?_
   refine nO hE rfl rfl rfl (by rw [hg62]; decide) rfl fun a hE => ?_
   refine nO hE rfl rfl rfl (by rw [hg62]; decide) rfl fun a hE => ?_
   refine nO hE rfl rfl rfl (by rw [hg62]; decide) rfl fun a hE => ?_
   refine vP hS hE (Gives.pickT hE rfl hg62 rfl) rfl fun a hE => WL.nil ?_
   subst hK60
   exact ⟨true, Option.some.inj hq55, hE.pick _ ⟨rfl, rfl, trivial⟩, hS⟩
  replace hq55 := iteF hg62 hq55
  refine WL.vS hS hE (runs_if hE rfl rfl rfl hg62) (Gives.p hE rfl) rfl fun a hE => ?_
  obtain ⟨q63, hq64, hq55⟩ := bindS hq55
  refine WL.fnq hE (itoa_ok hS (TabG.mono (Sg.Le.refl _) hTab).tab hq64) (runs_if hE rfl rfl rfl hg62) bd20 rfl rfl rfl ?_
  clear hE hS; rintro e w ⟨rfl, hS⟩; refine ⟨_, rfl, ?_⟩; clear a; intro a hE
  refine WL.vS hS hE (runs_if hE rfl rfl rfl hg62) (Gives.p hE rfl) rfl fun a hE => ?_
  refine WL.vS hS hE (runs_if hE rfl rfl rfl hg62) (Gives.neSt hE rfl rfl) rfl fun a hE => ?_
  refine vP hS hE (Gives.pickF hE rfl hg62 rfl) rfl fun a hE => WL.nil ?_
  subst hK60
  exact ⟨!(seq q63 x0), Option.some.inj hq55, hE.pick _ ⟨rfl, rfl, trivial⟩, hS⟩
 clear hE hS a w; rintro a w ⟨q59, rfl, hE, hS⟩
 refine W.cond hE rfl (fun hc65 => ?_) (fun hc65 => ?_)
 ·replace hr := iteT hc65 hr
  refine W.region ?_
  refine vP hS hE (Gives.build hE (vs := []) [] rfl (by kernel_rfl)) rfl fun a hE => ?_
  refine vP hS hE (Gives.iface hE rfl ifc54) rfl fun a hE => ?_
  refine WL.panic hE rfl (runs_plain rfl) fun a hE => ?_
  refine ⟨hE.defers.trans rfl, ?_⟩
  obtain rfl := Option.some.inj hr
  exact .inl ⟨rfl, rfl, s, (Sg.Le.refl _), hS⟩
 replace hr := iteF hc65 hr
 refine W.skip ?_
 refine W.seq (W.region (v2 hS hE rfl rfl rfl rfl fun a hE => WL.nil ?_))
 refine W.ret ?_
 refine finG (fn := Tryz.f65) (rs := [.tmp 2]) (vs := [_]) hE rfl ⟨rfl, trivial⟩ ?_
 obtain rfl := Option.some.inj hr
 exact .inr ⟨_, rfl, ⟨rfl, hS⟩⟩
set_option maxHeartbeats 8000000 in
theorem FareReadernumber_v1_ok  {w : World} {s : Sg} {R : List HP} {pb0 : Nat} {y0 : FareReader} {a_v0 : Option Addr} {c_v0 n_v0 : Nat} {cs_v0 : List Value} (hS : St w s (pc pb0 #[.slice a_v0 n_v0 c_v0, vi y0.at_] 89 :: vecC 9 1 a_v0 c_v0 n_v0 cs_v0 :: R)) (hTab : TabX s) (h_v0 : Ev 1 RS s cs_v0 y0.words) (hn_v0 : y0.words.length = n_v0) {r : Option (Int × Int)} (hr : FareReadernumber_v1 y0 = some r) :
  Calls Tryz.prog 42 [pp pb0].toArray w (fun e w => (r = none ∧ e = .panicked [{ v := .iface 54 (.agg #[]), recovered := false }] ∧ ∃ (t : Sg), s.Le t ∧ St w t R) ∨ (∃ rr, r = some rr ∧ e = .returned (vi rr.1) ∧ St w s (pc pb0 #[.slice a_v0 n_v0 c_v0, vi rr.2] 89 :: vecC 9 1 a_v0 c_v0 n_v0 cs_v0 :: R))) := by
 refine enter Tryz.func42 rfl rfl rfl fun a hE => ?_
 rw [FareReadernumber_v1] at hr
 subst hn_v0
 refine W.seq (W.region (vp hS hE rfl rfl fun a hE => WL.nil ?_))
 refine W.seq (W.region (vp hS hE rfl rfl fun a hE => ?_))
 obtain ⟨q52, hq53, hr⟩ := bindS hr
 have hc_ := FareReaderword_v1_ok (y0 := y0) hS h_v0 (rfl) hq53
 refine WL.fnP hE (hc_) (runs_plain rfl) bd66 rfl rfl rfl ?_
 clear hE hS hc_; rintro e w (⟨hz55, rfl, t57, hle58, hS⟩ | ⟨rr54, hz56, rfl, hS⟩)
 ·refine .inr ⟨_, rfl, ?_⟩; clear a; intro a hE
  rw [hz55] at hr; dsimp only at hr
  replace hS := hS.down hle58
  refine ⟨hE.defers.trans rfl, ?_⟩
  obtain rfl := Option.some.inj hr
  exact .inl ⟨rfl, rfl, s, (Sg.Le.refl _), hS⟩
 refine .inl ⟨_, rfl, ?_⟩; clear a; intro a hE
 rw [hz56] at hr; dsimp only at hr
 obtain ⟨q59, hq60, hr⟩ := bindS hr
 have hc_ := Farenumber_ok hS (TabG.mono (Sg.Le.refl _) hTab) hq60
 refine WL.fnP hE (hc_) (runs_plain rfl) bd65 rfl rfl rfl ?_
 clear hE hS hc_; rintro e w (⟨hz62, rfl, t64, hle65, hS⟩ | ⟨rr61, hz63, rfl, hS⟩)
 ·refine .inr ⟨_, rfl, ?_⟩; clear a; intro a hE
  rw [hz62] at hr; dsimp only at hr
  replace hS := hS.down hle65
  refine ⟨hE.defers.trans rfl, ?_⟩
  obtain rfl := Option.some.inj hr
  replace hS := hS.tail
  replace hS := hS.tail
  exact .inl ⟨rfl, rfl, s, (Sg.Le.refl _), hS⟩
 refine .inl ⟨_, rfl, ?_⟩; clear a; intro a hE
 rw [hz63] at hr; dsimp only at hr
 refine vp hS hE rfl rfl fun a hE => WL.nil ?_
 refine W.ret ?_
 refine finG (fn := Tryz.f42) (rs := [.tmp 2]) (vs := [_]) hE rfl ⟨rfl, trivial⟩ ?_
 obtain rfl := Option.some.inj hr
 exact .inr ⟨_, rfl, ⟨rfl, hS⟩⟩
set_option maxHeartbeats 8000000 in
theorem Farenames_ok  {w : World} {s : Sg} {R : List HP}  (hS : St w s (R))  {r : Ar10str} (hr : Farenames = r) :
  Calls Tryz.prog 56 [].toArray w (fun e w => ∃ (cs0 : List Value), e = .returned (.agg cs0.toArray) ∧ RAr10str s cs0 r ∧ St w s (R)) := by
 refine enter Tryz.func56 rfl rfl rfl fun a hE => ?_
 rw [Farenames] at hr
 refine W.seq (W.region ?_)
 refine WL.alloc hE hS (runs_plain rfl) zr106 rfl ?_; clear hE hS a w; intro b51 a w hE hS
 refine WL.nil ?_
 refine W.seq (W.region (vP hS hE (Gives.build hE (vs := [(0, .string (str [97, 108, 119, 97, 121, 115])), (1, .string (str [99, 97, 114, 100])), (2, .string (str [97, 103, 101])), (3, .string (str [116, 105, 109, 101])), (4, .string (str [107, 109])), (5, .string (str [99, 111, 117, 110, 116])), (6, .string (str [116, 111, 117, 99, 104])), (7, .string (str [98, 101, 103, 105, 110])), (8, .string (str [102, 105, 110, 105, 115, 104])), (9, .string (str [110, 111, 116]))]) [.string (str [97, 108, 119, 97, 121, 115]), .string (str [99, 97, 114, 100]), .string (str [97, 103, 101]), .string (str [116, 105, 109, 101]), .string (str [107, 109]), .string (str [99, 111, 117, 110, 116]), .string (str [116, 111, 117, 99, 104]), .string (str [98, 101, 103, 105, 110]), .string (str [102, 105, 110, 105, 115, 104]), .string (str [110, 111, 116])] rfl (by kernel_rfl)) rfl fun a hE => ?_))
 refine WL.storeI hE hS 0 rfl [.string (str [97, 108, 119, 97, 121, 115]), .string (str [99, 97, 114, 100]), .string (str [97, 103, 101]), .string (str [116, 105, 109, 101]), .string (str [107, 109]), .string (str [99, 111, 117, 110, 116]), .string (str [116, 111, 117, 99, 104]), .string (str [98, 101, 103, 105, 110]), .string (str [102, 105, 110, 105, 115, 104]), .string (str [110, 111, 116])] (runs_plain rfl) rfl rfl rfl ty106 rfl rfl rfl rfl ?_; clear hE hS a w; intro a w hE hS
 refine WL.nil ?_
 refine W.ret ?_
 refine finG (fn := Tryz.f56) (rs := [.cell 0 106]) (vs := [_]) hE rfl ⟨⟨_, rfl, .inl ⟨_, rfl, hS.seesAt 0 rfl, ty106⟩⟩, trivial⟩ ?_
 subst hr
 replace hS := hS.tail
 exact ⟨_, rfl, rfl, hS⟩
set_option maxHeartbeats 8000000 in
theorem Farenumbers_ok  {w : World} {s : Sg} {R : List HP} {x0 : Int} (hS : St w s (R))  {r : Int} (hr : Farenumbers x0 = r) :
  Calls Tryz.prog 57 [vi x0].toArray w (fun e w => e = .returned (vi r) ∧ St w s (R)) := by
 refine enter Tryz.func57 rfl rfl rfl fun a hE => ?_
 rw [Farenumbers] at hr
 refine W.seq (W.region (vp hS hE rfl rfl fun a hE => WL.nil ?_))
 refine W.seq ?_
 refine W.seq (W.region (vp hS hE rfl rfl fun a hE => WL.nil ?_))
 refine W.block ?_
 refine W.seq ?_
 refine W.seq (W.region (v2 hS hE rfl rfl rfl rfl fun a hE => WL.nil ?_))
 obtain ⟨q52, hq51, hr⟩ := bndS hr
 refine W.cut (fun a w => ∃ (q55 : Bool), q55 = q52 ∧ Rep a 13 [(3, vi x0), (4, .bool q55)] ∧ St w s (R)) ?_ ?_
 ·refine W.gen fun K56 hK56 => ?_
  refine W.cond hE rfl (fun hc57 => ?_) (fun hc57 => ?_)
  ·replace hq51 := iteT hc57 hq51
   refine W.skip ?_
   subst hK56
   exact ⟨(x0 == 2), hq51, hE.pick _ ⟨rfl, rfl, trivial⟩, hS⟩
  replace hq51 := iteF hc57 hq51
  refine W.seq (W.region (v2 hS hE rfl rfl rfl rfl fun a hE => WL.nil ?_))
  obtain ⟨q59, hq58, hq51⟩ := bndS hq51
  refine W.cut (fun a w => ∃ (q62 : Bool), q62 = q59 ∧ Rep a 13 [(3, vi x0), (4, .bool q62)] ∧ St w s (R)) ?_ ?_
  ·refine W.gen fun K63 hK63 => ?_
   refine W.cond hE rfl (fun hc64 => ?_) (fun hc64 => ?_)
   ·replace hq58 := iteT hc64 hq58
    refine W.skip ?_
    subst hK63
    exact ⟨(x0 == 3), hq58, hE.pick _ ⟨rfl, rfl, trivial⟩, hS⟩
   replace hq58 := iteF hc64 hq58
   refine W.seq (W.region (v2 hS hE rfl rfl rfl rfl fun a hE => WL.nil ?_))
   obtain ⟨q66, hq65, hq58⟩ := bndS hq58
   refine W.cut (fun a w => ∃ (q69 : Bool), q69 = q66 ∧ Rep a 13 [(3, vi x0), (4, .bool q69)] ∧ St w s (R)) ?_ ?_
   ·refine W.gen fun K70 hK70 => ?_
    refine W.cond hE rfl (fun hc71 => ?_) (fun hc71 => ?_)
    ·replace hq65 := iteT hc71 hq65
     refine W.skip ?_
     subst hK70
     exact ⟨(x0 == 4), hq65, hE.pick _ ⟨rfl, rfl, trivial⟩, hS⟩
    replace hq65 := iteF hc71 hq65
    refine W.region ?_
    refine v2 hS hE rfl rfl rfl rfl fun a hE => WL.nil ?_
    subst hK70
    exact ⟨(x0 == 5), hq65, hE.pick _ ⟨rfl, rfl, trivial⟩, hS⟩
   clear hE hS a w; rintro a w ⟨q69, rfl, hE, hS⟩
   subst hK63
   exact ⟨q69, hq58, hE.pick _ ⟨rfl, rfl, trivial⟩, hS⟩
  clear hE hS a w; rintro a w ⟨q62, rfl, hE, hS⟩
  subst hK56
  exact ⟨q62, hq51, hE.pick _ ⟨rfl, rfl, trivial⟩, hS⟩
 clear hE hS a w; rintro a w ⟨q55, rfl, hE, hS⟩
 refine W.cond hE rfl (fun hc72 => ?_) (fun hc72 => ?_)
 ·replace hr := iteT hc72 hr
  refine W.seq (W.region (vp hS hE rfl rfl fun a hE => WL.nil ?_))
  refine W.ret ?_
  refine finG (fn := Tryz.f57) (rs := [.tmp 2]) (vs := [_]) hE rfl ⟨rfl, trivial⟩ ?_
  subst hr
  exact ⟨rfl, hS⟩
 replace hr := iteF hc72 hr
 refine W.seq ?_
 refine W.seq (W.region (v2 hS hE rfl rfl rfl rfl fun a hE => WL.nil ?_))
 obtain ⟨q74, hq73, hr⟩ := bndS hr
 refine W.cut (fun a w => ∃ (q77 : Bool), q77 = q74 ∧ Rep a 13 [(9, .bool q77)] ∧ St w s (R)) ?_ ?_
 ·refine W.gen fun K78 hK78 => ?_
  refine W.cond hE rfl (fun hc79 => ?_) (fun hc79 => ?_)
  ·replace hq73 := iteT hc79 hq73
   refine W.skip ?_
   subst hK78
   exact ⟨(x0 == 6), hq73, hE.pick _ ⟨rfl, trivial⟩, hS⟩
  replace hq73 := iteF hc79 hq73
  refine W.seq (W.region (v2 hS hE rfl rfl rfl rfl fun a hE => WL.nil ?_))
  obtain ⟨q81, hq80, hq73⟩ := bndS hq73
  refine W.cut (fun a w => ∃ (q84 : Bool), q84 = q81 ∧ Rep a 13 [(9, .bool q84)] ∧ St w s (R)) ?_ ?_
  ·refine W.gen fun K85 hK85 => ?_
   refine W.cond hE rfl (fun hc86 => ?_) (fun hc86 => ?_)
   ·replace hq80 := iteT hc86 hq80
    refine W.skip ?_
    subst hK85
    exact ⟨(x0 == 7), hq80, hE.pick _ ⟨rfl, trivial⟩, hS⟩
   replace hq80 := iteF hc86 hq80
   refine W.region ?_
   refine v2 hS hE rfl rfl rfl rfl fun a hE => WL.nil ?_
   subst hK85
   exact ⟨(x0 == 8), hq80, hE.pick _ ⟨rfl, trivial⟩, hS⟩
  clear hE hS a w; rintro a w ⟨q84, rfl, hE, hS⟩
  subst hK78
  exact ⟨q84, hq73, hE.pick _ ⟨rfl, trivial⟩, hS⟩
 clear hE hS a w; rintro a w ⟨q77, rfl, hE, hS⟩
 refine W.cond hE rfl (fun hc87 => ?_) (fun hc87 => ?_)
 ·replace hr := iteT hc87 hr
  refine W.seq (W.region (vp hS hE rfl rfl fun a hE => WL.nil ?_))
  refine W.ret ?_
  refine finG (fn := Tryz.f57) (rs := [.tmp 2]) (vs := [_]) hE rfl ⟨rfl, trivial⟩ ?_
  subst hr
  exact ⟨rfl, hS⟩
 replace hr := iteF hc87 hr
 refine W.skip ?_
 refine W.seq (W.region (vp hS hE rfl rfl fun a hE => WL.nil ?_))
 refine W.ret ?_
 refine finG (fn := Tryz.f57) (rs := [.tmp 2]) (vs := [_]) hE rfl ⟨rfl, trivial⟩ ?_
 subst hr
 exact ⟨rfl, hS⟩
set_option maxHeartbeats 8000000 in
theorem FareReaderlist_v6_ok {fu : Nat}  {self_FareReaderone_v1 : FareReader → Option (Option (FareCond × Int))} (ih_FareReaderone_v1 : ∀ {w : World} {s : Sg} {R : List HP} {pb0 : Nat} {y0 : FareReader} {a_v0 : Option Addr} {c_v0 n_v0 : Nat} {cs_v0 : List Value} (_hS : St w s (pc pb0 #[.slice a_v0 n_v0 c_v0, vi y0.at_] 89 :: vecC 9 1 a_v0 c_v0 n_v0 cs_v0 :: R)) (_hTab : TabX s) (_h_v0 : Ev 1 RS s cs_v0 y0.words) (_hn_v0 : y0.words.length = n_v0) {r : Option (FareCond × Int)} (_hr : self_FareReaderone_v1 y0 = some r), Calls Tryz.prog 103 [pp pb0].toArray w (fun e w => (r = none ∧ e = .panicked [{ v := .iface 54 (.agg #[]), recovered := false }] ∧ ∃ (t : Sg), s.Le t ∧ St w t R) ∨ (∃ rr, r = some rr ∧ ∃ (cs0 : List Value) (t : Sg), e = .returned (.agg cs0.toArray) ∧ s.Le t ∧ RFareCond t cs0 rr.1 ∧ St w t (pc pb0 #[.slice a_v0 n_v0 c_v0, vi rr.2] 89 :: vecC 9 1 a_v0 c_v0 n_v0 cs_v0 :: R)))) {w : World} {s : Sg} {R : List HP} {pb0 : Nat} {x1 : Int} {x2 : ByteArray} {y0 : FareReader} {a_v0 : Option Addr} {c_v0 n_v0 : Nat} {cs_v0 : List Value} (hS : St w s (pc pb0 #[.slice a_v0 n_v0 c_v0, vi y0.at_] 89 :: vecC 9 1 a_v0 c_v0 n_v0 cs_v0 :: R)) (hTab : TabX s) (h_v0 : Ev 1 RS s cs_v0 y0.words) (hn_v0 : y0.words.length = n_v0) {r : Option (FareCond × Int)} (hr : FareReaderlist_v6 fu self_FareReaderone_v1 x1 x2 y0 = some r) :
  Calls Tryz.prog 85 [pp pb0, vi x1, .string x2, .func (.func 103) #[pp pb0] #[]].toArray w (fun e w => (r = none ∧ e = .panicked [{ v := .iface 54 (.agg #[]), recovered := false }] ∧ ∃ (t : Sg), s.Le t ∧ St w t R) ∨ (∃ rr, r = some rr ∧ ∃ (cs0 : List Value) (t : Sg), e = .returned (.agg cs0.toArray) ∧ s.Le t ∧ RFareCond t cs0 rr.1 ∧ St w t (pc pb0 #[.slice a_v0 n_v0 c_v0, vi rr.2] 89 :: vecC 9 1 a_v0 c_v0 n_v0 cs_v0 :: R))) := by
 refine enter Tryz.func85 rfl rfl rfl fun a hE => ?_
 rw [FareReaderlist_v6] at hr
 subst hn_v0
 refine W.seq (W.region ?_)
 refine WL.alloc hE hS (runs_plain rfl) zr43 rfl ?_; clear hE hS a w; intro b53 a w hE hS
 refine WL.nil ?_
 refine W.seq (W.region (vp hS hE rfl rfl fun a hE => ?_))
 obtain ⟨q54, hq55, hr⟩ := bindS hr
 replace hS := hS.front 2 rfl
 replace hS := hS.front 2 rfl
 have hc_ := ih_FareReaderone_v1 (y0 := y0) hS (TabG.mono (Sg.Le.refl _) hTab) h_v0 (rfl) hq55
 refine WL.fnzP hE (hc_) rfl (runs_plain rfl) bd103 rfl rfl rfl ?_
 clear hE hS hc_; rintro e w (⟨hz57, rfl, t59, hle60, hS⟩ | ⟨rr56, hz58, cs61, s63, rfl, hle64, h62, hS⟩)
 ·refine .inr ⟨_, rfl, ?_⟩; clear a; intro a hE
  rw [hz57] at hr; dsimp only at hr
  replace hS := hS.down hle60
  refine ⟨hE.defers.trans rfl, ?_⟩
  obtain rfl := Option.some.inj hr
  replace hS := hS.tail
  exact .inl ⟨rfl, rfl, s, (Sg.Le.refl _), hS⟩
 refine .inl ⟨_, rfl, ?_⟩; clear a; intro a hE
 rw [hz58] at hr; dsimp only at hr
 replace h_v0 := Ev.mono RS.mono hle64 h_v0
 obtain ⟨a65, c66, rfl, h67⟩ := h62.unf
 refine WL.lit hE hS (e := 43) (es := 4) (vs := [(0, .agg (List.toArray [vi rr56.1.Kind, vi rr56.1.A, vi rr56.1.B, .slice a65 rr56.1.Kids.length c66]))]) (cs := [vi rr56.1.Kind, vi rr56.1.A, vi rr56.1.B, .slice a65 rr56.1.Kids.length c66]) (runs_plain rfl) rfl (by kernel_rfl) rfl ?_; clear hE hS a w; intro b68 a w hE hS
 replace hS := hS.ptVec (es := 4) (m := 1) rfl (by decide)
 have h70 : Ev 4 RFareCond s63 [vi rr56.1.Kind, vi rr56.1.A, vi rr56.1.B, .slice a65 rr56.1.Kids.length c66] [rr56.1] := (Ev.cons (c1 := [vi rr56.1.Kind, vi rr56.1.A, vi rr56.1.B, .slice a65 rr56.1.Kids.length c66]) (RFareCond.fold ⟨_, _, rfl, h67⟩) rfl (Ev.nil))
 refine vp hS hE rfl rfl fun a hE => WL.nil ?_
 refine W.seq ?_
 obtain ⟨q72, hq71, hr⟩ := bindS hr
 refine W.cut (fun a w => ∃ (q77 : List FareCond), ∃ (q84 : Int), ∃ (a78 : Option Addr), ∃ (c79 : Nat), ∃ (n81 : Nat), ∃ (cs82 : List Value), ∃ (s75 : Sg), s63.Le s75 ∧ (.next (q77, q84)) = q72 ∧ Ev 4 RFareCond s75 cs82 q77 ∧ q77.length = n81 ∧ Rep a 30 [(1, vi x1), (8, pp b53), (9, .slice a78 n81 c79)] ∧ St w s75 (vecC 43 4 a78 c79 n81 cs82 :: pc pb0 #[.slice a_v0 y0.words.length c_v0, vi q84] 89 :: vecC 9 1 a_v0 c_v0 y0.words.length cs_v0 :: pc b53 #[vi 0, vi 0, vi 0, .slice none 0 0] 43 :: R)) ?_ ?_
 ·refine W.block ?_
  refine W.loop (fun m a w => ∃ (n73 : Nat), ∃ (q77 : List FareCond), ∃ (q84 : Int), ∃ (a78 : Option Addr), ∃ (c79 : Nat), ∃ (n81 : Nat), ∃ (cs82 : List Value), ∃ (s75 : Sg), n73 = m ∧ s63.Le s75 ∧ FareReaderlist_v6.loop1 x2 y0 self_FareReaderone_v1 n73 q77 q84 = some q72 ∧ Ev 4 RFareCond s75 cs82 q77 ∧ q77.length = n81 ∧ Rep a 30 [(0, pp pb0), (1, vi x1), (2, .string x2), (3, .func (.func 103) #[pp pb0] #[]), (8, pp b53), (9, .slice a78 n81 c79)] ∧ St w s75 (vecC 43 4 a78 c79 n81 cs82 :: pc pb0 #[.slice a_v0 y0.words.length c_v0, vi q84] 89 :: vecC 9 1 a_v0 c_v0 y0.words.length cs_v0 :: pc b53 #[vi 0, vi 0, vi 0, .slice none 0 0] 43 :: R)) (m := fu) ⟨fu, [rr56.1], rr56.2, (some ⟨b68, 0, none⟩), 1, 1, [vi rr56.1.Kind, vi rr56.1.A, vi rr56.1.B, .slice a65 rr56.1.Kids.length c66], s63, rfl, (Sg.Le.refl _), hq71, h70, (rfl), hE.pick _ ⟨rfl, rfl, rfl, rfl, rfl, rfl, trivial⟩, hS⟩ ?_
  clear hE hS a w hq71; rintro m74 a w ⟨n73, q77, q84, a78, c79, n81, cs82, s75, rfl, hle76, hq71, h80, rfl, hE, hS⟩
  refine W.gen fun K85 hK85 => ?_
  replace h67 := Sl.mono RFareCond.mono hle76 h67
  replace h70 := Ev.mono RFareCond.mono hle76 h70
  replace h_v0 := Ev.mono RS.mono hle76 h_v0
  rcases n73 with _ | n73
  ·rw [FareReaderlist_v6.loop1] at hq71; exact absurd hq71 (by simp)
  rw [FareReaderlist_v6.loop1] at hq71
  refine W.seq ?_
  refine W.seq (W.region (v2 hS hE rfl rfl rfl rfl fun a hE => ?_))
  obtain ⟨q86, hq87, hq71⟩ := bindS hq71
  replace hS := hS.front 2 rfl
  replace hS := hS.front 2 rfl
  have hc_ := FareReadertake_v1_ok (y0 := (FareReader.mk y0.words q84)) hS h_v0 (rfl) hq87
  refine WL.fnq hE (hc_) (runs_plain rfl) bd40 rfl rfl rfl ?_
  clear hE hS hc_; rintro e w ⟨rfl, hS⟩; refine ⟨_, rfl, ?_⟩; clear a; intro a hE
  refine WL.nil ?_
  refine W.cond hE rfl (fun hc88 => ?_) (fun hc88 => ?_)
  ·replace hq71 := iteT hc88 hq71
   refine W.skip ?_
   refine W.block ?_
   refine W.region ?_
   refine v2 hS hE rfl rfl rfl rfl fun a hE => ?_
   obtain ⟨q89, hq90, hq71⟩ := bindS hq71
   have hc_ := ih_FareReaderone_v1 (y0 := (FareReader.mk y0.words q86.2)) hS (TabG.mono (Sg.Le.trans hle64 hle76) hTab) h_v0 (rfl) hq90
   refine WL.fnzP hE (hc_) rfl (runs_plain rfl) bd103 rfl rfl rfl ?_
   clear hE hS hc_; rintro e w (⟨hz92, rfl, t94, hle95, hS⟩ | ⟨rr91, hz93, cs96, s98, rfl, hle99, h97, hS⟩)
   ·refine .inr ⟨_, rfl, ?_⟩; clear a; intro a hE
    rw [hz92] at hq71; dsimp only at hq71
    replace hS := hS.down hle95
    subst hK85
    rw [← Option.some.inj hq71] at hr
    dsimp only at hr
    refine ⟨hE.defers.trans rfl, ?_⟩
    obtain rfl := Option.some.inj hr
    replace hS := hS.tail
    replace hS := hS.tail
    exact .inl ⟨rfl, rfl, s75, (Sg.Le.trans hle64 hle76), hS⟩
   refine .inl ⟨_, rfl, ?_⟩; clear a; intro a hE
   rw [hz93] at hq71; dsimp only at hq71
   replace h_v0 := Ev.mono RS.mono hle99 h_v0
   replace h80 := Ev.mono RFareCond.mono hle99 h80
   obtain ⟨a100, c101, rfl, h102⟩ := h97.unf
   refine WL.lit hE hS (e := 43) (es := 4) (vs := [(0, .agg (List.toArray [vi rr91.1.Kind, vi rr91.1.A, vi rr91.1.B, .slice a100 rr91.1.Kids.length c101]))]) (cs := [vi rr91.1.Kind, vi rr91.1.A, vi rr91.1.B, .slice a100 rr91.1.Kids.length c101]) (runs_plain rfl) rfl (by kernel_rfl) rfl ?_; clear hE hS a w; intro b103 a w hE hS
   obtain ⟨x104, hx105, hq71⟩ := bindS hq71
   refine WL.appD hE hS 2 (m := 1) (runs_plain rfl) rfl rfl rfl ap41 rfl h80 rfl (xs := [rr91.1]) (Ev.cons (c1 := [vi rr91.1.Kind, vi rr91.1.A, vi rr91.1.B, .slice a100 rr91.1.Kids.length c101]) (RFareCond.fold ⟨_, _, rfl, h102⟩) rfl (Ev.nil)) rfl rfl hx105 rfl ?_; clear hE hS a w; intro a106 c107 cs108 a w h109 hE hS
   refine vp hS hE rfl rfl fun a hE => WL.nil ?_
   replace hS := hS.front 3 rfl
   replace hS := hS.front 2 rfl
   replace hS := hS.front 2 rfl
   replace hS := hS.front 3 rfl
   subst hK85
   exact ⟨n73, Nat.lt_succ_self _, n73, x104, rr91.2, a106, c107, x104.length, cs108, s98, rfl, (Sg.Le.trans hle76 hle99), hq71, h109, (rfl), hE.pick _ ⟨rfl, rfl, rfl, rfl, rfl, rfl, trivial⟩, hS⟩
  replace hq71 := iteF hc88 hq71
  subst hK85
  refine W.exit rfl ?_
  replace hS := hS.front 3 rfl
  replace hS := hS.front 2 rfl
  replace hS := hS.front 2 rfl
  replace hS := hS.front 3 rfl
  exact ⟨q77, q86.2, a78, c79, q77.length, cs82, s75, hle76, Option.some.inj hq71, h80, rfl, hE.pick _ ⟨rfl, rfl, rfl, trivial⟩, hS⟩
 clear hE hS a w; rintro a w ⟨q77, q84, a78, c79, n81, cs82, s75, hle76, rfl, h80, rfl, hE, hS⟩
 dsimp only at hr
 replace h67 := Sl.mono RFareCond.mono hle76 h67
 replace h70 := Ev.mono RFareCond.mono hle76 h70
 replace h_v0 := Ev.mono RS.mono hle76 h_v0
 refine W.seq ?_
 refine W.seq (W.region (vp hS hE rfl rfl fun a hE => ?_))
 refine vP hS hE (Gives.len hE rfl sl41) rfl fun a hE => ?_
 refine vp hS hE rfl rfl fun a hE => WL.nil ?_
 refine W.cond hE rfl (fun hc110 => ?_) (fun hc110 => ?_)
 ·replace hr := iteT hc110 hr
  refine W.seq (W.region (vp hS hE rfl rfl fun a hE => ?_))
  obtain ⟨x111, hx112, hr⟩ := bindS hr
  obtain ⟨hi113, hlt114, hy115⟩ := gx_some hx112
  obtain ⟨vs116, hl117, hR118, hd119, hget120⟩ := h80.at hy115
  obtain ⟨a121, c122, rfl, h123⟩ := hR118.unf
  refine vP hS hE (Gives.idx hE (((0 : Int)).toNat) rfl rfl sl41 hi113 (by omega) (hS.vecAok 0 rfl (by omega : ((0 : Int)).toNat < q77.length))) rfl fun a hE => ?_
  refine vP hS hE (Gives.loadA hE rfl (fun w h => St.vecSees h 0 rfl (((0 : Int)).toNat * 4) _ hget120) ty43) rfl fun a hE => ?_
  refine WL.storeI hE hS 3 rfl [vi x111.Kind, vi x111.A, vi x111.B, .slice a121 x111.Kids.length c122] (runs_plain rfl) rfl rfl rfl ty43 rfl rfl rfl rfl ?_; clear hE hS a w; intro a w hE hS
  refine WL.nil ?_
  refine W.ret ?_
  refine finG (fn := Tryz.f85) (rs := [.cell 8 43]) (vs := [_]) hE rfl ⟨⟨_, rfl, .inl ⟨_, rfl, hS.seesAt 3 rfl, ty43⟩⟩, trivial⟩ ?_
  obtain rfl := Option.some.inj hr
  replace hS := hS.tail
  replace hS := hS.dropAt 2
  exact .inr ⟨_, rfl, ⟨_, s75, rfl, (Sg.Le.trans hle64 hle76), (RFareCond.fold ⟨_, _, rfl, h123⟩), hS⟩⟩
 replace hr := iteF hc110 hr
 refine W.skip ?_
 refine W.seq (W.region (v2 hS hE rfl rfl rfl rfl fun a hE => ?_))
 refine vP hS hE (Gives.build hE (vs := [(0, vi x1), (3, .slice a78 q77.length c79)]) [vi x1, vi 0, vi 0, .slice a78 q77.length c79] rfl (by kernel_rfl)) rfl fun a hE => ?_
 refine WL.storeI hE hS 3 rfl [vi x1, vi 0, vi 0, .slice a78 q77.length c79] (runs_plain rfl) rfl rfl rfl ty43 rfl rfl rfl rfl ?_; clear hE hS a w; intro a w hE hS
 refine WL.nil ?_
 refine W.ret ?_
 have hF := hS.fixD RFareCond.mono 0 rfl h80 rfl; clear hS; obtain ⟨s124, hle125, hS, h126⟩ := hF
 replace h_v0 := Ev.mono RS.mono hle125 h_v0
 refine finG (fn := Tryz.f85) (rs := [.cell 8 43]) (vs := [_]) hE rfl ⟨⟨_, rfl, .inl ⟨_, rfl, hS.seesAt 2 rfl, ty43⟩⟩, trivial⟩ ?_
 obtain rfl := Option.some.inj hr
 replace hS := hS.dropAt 2
 exact .inr ⟨_, rfl, ⟨_, s124, rfl, (Sg.Le.trans (Sg.Le.trans hle64 hle76) hle125), (RFareCond.fold ⟨_, _, rfl, h126⟩), hS⟩⟩
set_option maxHeartbeats 8000000 in
theorem FareReaderand_v3_ok {fu : Nat}  {self_FareReaderone_v1 : FareReader → Option (Option (FareCond × Int))} (ih_FareReaderone_v1 : ∀ {w : World} {s : Sg} {R : List HP} {pb0 : Nat} {y0 : FareReader} {a_v0 : Option Addr} {c_v0 n_v0 : Nat} {cs_v0 : List Value} (_hS : St w s (pc pb0 #[.slice a_v0 n_v0 c_v0, vi y0.at_] 89 :: vecC 9 1 a_v0 c_v0 n_v0 cs_v0 :: R)) (_hTab : TabX s) (_h_v0 : Ev 1 RS s cs_v0 y0.words) (_hn_v0 : y0.words.length = n_v0) {r : Option (FareCond × Int)} (_hr : self_FareReaderone_v1 y0 = some r), Calls Tryz.prog 103 [pp pb0].toArray w (fun e w => (r = none ∧ e = .panicked [{ v := .iface 54 (.agg #[]), recovered := false }] ∧ ∃ (t : Sg), s.Le t ∧ St w t R) ∨ (∃ rr, r = some rr ∧ ∃ (cs0 : List Value) (t : Sg), e = .returned (.agg cs0.toArray) ∧ s.Le t ∧ RFareCond t cs0 rr.1 ∧ St w t (pc pb0 #[.slice a_v0 n_v0 c_v0, vi rr.2] 89 :: vecC 9 1 a_v0 c_v0 n_v0 cs_v0 :: R)))) {w : World} {s : Sg} {R : List HP} {pb0 : Nat} {y0 : FareReader} {a_v0 : Option Addr} {c_v0 n_v0 : Nat} {cs_v0 : List Value} (hS : St w s (pc pb0 #[.slice a_v0 n_v0 c_v0, vi y0.at_] 89 :: vecC 9 1 a_v0 c_v0 n_v0 cs_v0 :: R)) (hTab : TabX s) (h_v0 : Ev 1 RS s cs_v0 y0.words) (hn_v0 : y0.words.length = n_v0) {r : Option (FareCond × Int)} (hr : FareReaderand_v3 fu self_FareReaderone_v1 y0 = some r) :
  Calls Tryz.prog 86 [pp pb0].toArray w (fun e w => (r = none ∧ e = .panicked [{ v := .iface 54 (.agg #[]), recovered := false }] ∧ ∃ (t : Sg), s.Le t ∧ St w t R) ∨ (∃ rr, r = some rr ∧ ∃ (cs0 : List Value) (t : Sg), e = .returned (.agg cs0.toArray) ∧ s.Le t ∧ RFareCond t cs0 rr.1 ∧ St w t (pc pb0 #[.slice a_v0 n_v0 c_v0, vi rr.2] 89 :: vecC 9 1 a_v0 c_v0 n_v0 cs_v0 :: R))) := by
 refine enter Tryz.func86 rfl rfl rfl fun a hE => ?_
 rw [FareReaderand_v3] at hr
 subst hn_v0
 refine W.seq (W.region ?_)
 refine WL.alloc hE hS (runs_plain rfl) zr43 rfl ?_; clear hE hS a w; intro b53 a w hE hS
 refine WL.nil ?_
 refine W.seq (W.region (v2 hS hE rfl rfl rfl rfl fun a hE => ?_))
 refine vP hS hE (Gives.mkmeth hE (vs := [pp pb0]) rfl) rfl fun a hE => ?_
 obtain ⟨q54, hq55, hr⟩ := bindS hr
 replace hS := hS.front 2 rfl
 replace hS := hS.front 2 rfl
 have hc_ := FareReaderlist_v6_ok (y0 := y0) @ih_FareReaderone_v1 hS (TabG.mono (Sg.Le.refl _) hTab) h_v0 (rfl) hq55
 refine WL.fnP hE (hc_) (runs_plain rfl) bd85 rfl rfl rfl ?_
 clear hE hS hc_; rintro e w (⟨hz57, rfl, t59, hle60, hS⟩ | ⟨rr56, hz58, cs61, s63, rfl, hle64, h62, hS⟩)
 ·refine .inr ⟨_, rfl, ?_⟩; clear a; intro a hE
  rw [hz57] at hr; dsimp only at hr
  replace hS := hS.down hle60
  refine ⟨hE.defers.trans rfl, ?_⟩
  obtain rfl := Option.some.inj hr
  replace hS := hS.tail
  exact .inl ⟨rfl, rfl, s, (Sg.Le.refl _), hS⟩
 refine .inl ⟨_, rfl, ?_⟩; clear a; intro a hE
 rw [hz58] at hr; dsimp only at hr
 replace h_v0 := Ev.mono RS.mono hle64 h_v0
 obtain ⟨a65, c66, rfl, h67⟩ := h62.unf
 refine WL.storeI hE hS 2 rfl [vi rr56.1.Kind, vi rr56.1.A, vi rr56.1.B, .slice a65 rr56.1.Kids.length c66] (runs_plain rfl) rfl rfl rfl ty43 rfl rfl rfl rfl ?_; clear hE hS a w; intro a w hE hS
 refine WL.nil ?_
 refine W.ret ?_
 refine finG (fn := Tryz.f86) (rs := [.cell 2 43]) (vs := [_]) hE rfl ⟨⟨_, rfl, .inl ⟨_, rfl, hS.seesAt 2 rfl, ty43⟩⟩, trivial⟩ ?_
 obtain rfl := Option.some.inj hr
 replace hS := hS.dropAt 2
 exact .inr ⟨_, rfl, ⟨_, s63, rfl, hle64, (RFareCond.fold ⟨_, _, rfl, h67⟩), hS⟩⟩
set_option maxHeartbeats 8000000 in
theorem FareReaderlist_v5_ok {fu : Nat}  {self_FareReaderone_v1 : FareReader → Option (Option (FareCond × Int))} (ih_FareReaderone_v1 : ∀ {w : World} {s : Sg} {R : List HP} {pb0 : Nat} {y0 : FareReader} {a_v0 : Option Addr} {c_v0 n_v0 : Nat} {cs_v0 : List Value} (_hS : St w s (pc pb0 #[.slice a_v0 n_v0 c_v0, vi y0.at_] 89 :: vecC 9 1 a_v0 c_v0 n_v0 cs_v0 :: R)) (_hTab : TabX s) (_h_v0 : Ev 1 RS s cs_v0 y0.words) (_hn_v0 : y0.words.length = n_v0) {r : Option (FareCond × Int)} (_hr : self_FareReaderone_v1 y0 = some r), Calls Tryz.prog 103 [pp pb0].toArray w (fun e w => (r = none ∧ e = .panicked [{ v := .iface 54 (.agg #[]), recovered := false }] ∧ ∃ (t : Sg), s.Le t ∧ St w t R) ∨ (∃ rr, r = some rr ∧ ∃ (cs0 : List Value) (t : Sg), e = .returned (.agg cs0.toArray) ∧ s.Le t ∧ RFareCond t cs0 rr.1 ∧ St w t (pc pb0 #[.slice a_v0 n_v0 c_v0, vi rr.2] 89 :: vecC 9 1 a_v0 c_v0 n_v0 cs_v0 :: R)))) {w : World} {s : Sg} {R : List HP} {pb0 : Nat} {x1 : Int} {x2 : ByteArray} {y0 : FareReader} {a_v0 : Option Addr} {c_v0 n_v0 : Nat} {cs_v0 : List Value} (hS : St w s (pc pb0 #[.slice a_v0 n_v0 c_v0, vi y0.at_] 89 :: vecC 9 1 a_v0 c_v0 n_v0 cs_v0 :: R)) (hTab : TabX s) (h_v0 : Ev 1 RS s cs_v0 y0.words) (hn_v0 : y0.words.length = n_v0) {r : Option (FareCond × Int)} (hr : FareReaderlist_v5 fu self_FareReaderone_v1 x1 x2 y0 = some r) :
  Calls Tryz.prog 85 [pp pb0, vi x1, .string x2, .func (.func 86) #[pp pb0] #[]].toArray w (fun e w => (r = none ∧ e = .panicked [{ v := .iface 54 (.agg #[]), recovered := false }] ∧ ∃ (t : Sg), s.Le t ∧ St w t R) ∨ (∃ rr, r = some rr ∧ ∃ (cs0 : List Value) (t : Sg), e = .returned (.agg cs0.toArray) ∧ s.Le t ∧ RFareCond t cs0 rr.1 ∧ St w t (pc pb0 #[.slice a_v0 n_v0 c_v0, vi rr.2] 89 :: vecC 9 1 a_v0 c_v0 n_v0 cs_v0 :: R))) := by
 refine enter Tryz.func85 rfl rfl rfl fun a hE => ?_
 rw [FareReaderlist_v5] at hr
 subst hn_v0
 refine W.seq (W.region ?_)
 refine WL.alloc hE hS (runs_plain rfl) zr43 rfl ?_; clear hE hS a w; intro b53 a w hE hS
 refine WL.nil ?_
 refine W.seq (W.region (vp hS hE rfl rfl fun a hE => ?_))
 obtain ⟨q54, hq55, hr⟩ := bindS hr
 replace hS := hS.front 2 rfl
 replace hS := hS.front 2 rfl
 have hc_ := FareReaderand_v3_ok (y0 := y0) @ih_FareReaderone_v1 hS (TabG.mono (Sg.Le.refl _) hTab) h_v0 (rfl) hq55
 refine WL.fnzP hE (hc_) rfl (runs_plain rfl) bd86 rfl rfl rfl ?_
 clear hE hS hc_; rintro e w (⟨hz57, rfl, t59, hle60, hS⟩ | ⟨rr56, hz58, cs61, s63, rfl, hle64, h62, hS⟩)
 ·refine .inr ⟨_, rfl, ?_⟩; clear a; intro a hE
  rw [hz57] at hr; dsimp only at hr
  replace hS := hS.down hle60
  refine ⟨hE.defers.trans rfl, ?_⟩
  obtain rfl := Option.some.inj hr
  replace hS := hS.tail
  exact .inl ⟨rfl, rfl, s, (Sg.Le.refl _), hS⟩
 refine .inl ⟨_, rfl, ?_⟩; clear a; intro a hE
 rw [hz58] at hr; dsimp only at hr
 replace h_v0 := Ev.mono RS.mono hle64 h_v0
 obtain ⟨a65, c66, rfl, h67⟩ := h62.unf
 refine WL.lit hE hS (e := 43) (es := 4) (vs := [(0, .agg (List.toArray [vi rr56.1.Kind, vi rr56.1.A, vi rr56.1.B, .slice a65 rr56.1.Kids.length c66]))]) (cs := [vi rr56.1.Kind, vi rr56.1.A, vi rr56.1.B, .slice a65 rr56.1.Kids.length c66]) (runs_plain rfl) rfl (by kernel_rfl) rfl ?_; clear hE hS a w; intro b68 a w hE hS
 replace hS := hS.ptVec (es := 4) (m := 1) rfl (by decide)
 have h70 : Ev 4 RFareCond s63 [vi rr56.1.Kind, vi rr56.1.A, vi rr56.1.B, .slice a65 rr56.1.Kids.length c66] [rr56.1] := (Ev.cons (c1 := [vi rr56.1.Kind, vi rr56.1.A, vi rr56.1.B, .slice a65 rr56.1.Kids.length c66]) (RFareCond.fold ⟨_, _, rfl, h67⟩) rfl (Ev.nil))
 refine vp hS hE rfl rfl fun a hE => WL.nil ?_
 refine W.seq ?_
 obtain ⟨q72, hq71, hr⟩ := bindS hr
 refine W.cut (fun a w => ∃ (q77 : List FareCond), ∃ (q84 : Int), ∃ (a78 : Option Addr), ∃ (c79 : Nat), ∃ (n81 : Nat), ∃ (cs82 : List Value), ∃ (s75 : Sg), s63.Le s75 ∧ (.next (q77, q84)) = q72 ∧ Ev 4 RFareCond s75 cs82 q77 ∧ q77.length = n81 ∧ Rep a 30 [(1, vi x1), (8, pp b53), (9, .slice a78 n81 c79)] ∧ St w s75 (vecC 43 4 a78 c79 n81 cs82 :: pc pb0 #[.slice a_v0 y0.words.length c_v0, vi q84] 89 :: vecC 9 1 a_v0 c_v0 y0.words.length cs_v0 :: pc b53 #[vi 0, vi 0, vi 0, .slice none 0 0] 43 :: R)) ?_ ?_
 ·refine W.block ?_
  refine W.loop (fun m a w => ∃ (n73 : Nat), ∃ (q77 : List FareCond), ∃ (q84 : Int), ∃ (a78 : Option Addr), ∃ (c79 : Nat), ∃ (n81 : Nat), ∃ (cs82 : List Value), ∃ (s75 : Sg), n73 = m ∧ s63.Le s75 ∧ FareReaderlist_v5.loop1 x2 y0 fu self_FareReaderone_v1 n73 q77 q84 = some q72 ∧ Ev 4 RFareCond s75 cs82 q77 ∧ q77.length = n81 ∧ Rep a 30 [(0, pp pb0), (1, vi x1), (2, .string x2), (3, .func (.func 86) #[pp pb0] #[]), (8, pp b53), (9, .slice a78 n81 c79)] ∧ St w s75 (vecC 43 4 a78 c79 n81 cs82 :: pc pb0 #[.slice a_v0 y0.words.length c_v0, vi q84] 89 :: vecC 9 1 a_v0 c_v0 y0.words.length cs_v0 :: pc b53 #[vi 0, vi 0, vi 0, .slice none 0 0] 43 :: R)) (m := fu) ⟨fu, [rr56.1], rr56.2, (some ⟨b68, 0, none⟩), 1, 1, [vi rr56.1.Kind, vi rr56.1.A, vi rr56.1.B, .slice a65 rr56.1.Kids.length c66], s63, rfl, (Sg.Le.refl _), hq71, h70, (rfl), hE.pick _ ⟨rfl, rfl, rfl, rfl, rfl, rfl, trivial⟩, hS⟩ ?_
  clear hE hS a w hq71; rintro m74 a w ⟨n73, q77, q84, a78, c79, n81, cs82, s75, rfl, hle76, hq71, h80, rfl, hE, hS⟩
  refine W.gen fun K85 hK85 => ?_
  replace h67 := Sl.mono RFareCond.mono hle76 h67
  replace h70 := Ev.mono RFareCond.mono hle76 h70
  replace h_v0 := Ev.mono RS.mono hle76 h_v0
  rcases n73 with _ | n73
  ·rw [FareReaderlist_v5.loop1] at hq71; exact absurd hq71 (by simp)
  rw [FareReaderlist_v5.loop1] at hq71
  refine W.seq ?_
  refine W.seq (W.region (v2 hS hE rfl rfl rfl rfl fun a hE => ?_))
  obtain ⟨q86, hq87, hq71⟩ := bindS hq71
  replace hS := hS.front 2 rfl
  replace hS := hS.front 2 rfl
  have hc_ := FareReadertake_v1_ok (y0 := (FareReader.mk y0.words q84)) hS h_v0 (rfl) hq87
  refine WL.fnq hE (hc_) (runs_plain rfl) bd40 rfl rfl rfl ?_
  clear hE hS hc_; rintro e w ⟨rfl, hS⟩; refine ⟨_, rfl, ?_⟩; clear a; intro a hE
  refine WL.nil ?_
  refine W.cond hE rfl (fun hc88 => ?_) (fun hc88 => ?_)
  ·replace hq71 := iteT hc88 hq71
   refine W.skip ?_
   refine W.block ?_
   refine W.region ?_
   refine v2 hS hE rfl rfl rfl rfl fun a hE => ?_
   obtain ⟨q89, hq90, hq71⟩ := bindS hq71
   have hc_ := FareReaderand_v3_ok (y0 := (FareReader.mk y0.words q86.2)) @ih_FareReaderone_v1 hS (TabG.mono (Sg.Le.trans hle64 hle76) hTab) h_v0 (rfl) hq90
   refine WL.fnzP hE (hc_) rfl (runs_plain rfl) bd86 rfl rfl rfl ?_
   clear hE hS hc_; rintro e w (⟨hz92, rfl, t94, hle95, hS⟩ | ⟨rr91, hz93, cs96, s98, rfl, hle99, h97, hS⟩)
   ·refine .inr ⟨_, rfl, ?_⟩; clear a; intro a hE
    rw [hz92] at hq71; dsimp only at hq71
    replace hS := hS.down hle95
    subst hK85
    rw [← Option.some.inj hq71] at hr
    dsimp only at hr
    refine ⟨hE.defers.trans rfl, ?_⟩
    obtain rfl := Option.some.inj hr
    replace hS := hS.tail
    replace hS := hS.tail
    exact .inl ⟨rfl, rfl, s75, (Sg.Le.trans hle64 hle76), hS⟩
   refine .inl ⟨_, rfl, ?_⟩; clear a; intro a hE
   rw [hz93] at hq71; dsimp only at hq71
   replace h_v0 := Ev.mono RS.mono hle99 h_v0
   replace h80 := Ev.mono RFareCond.mono hle99 h80
   obtain ⟨a100, c101, rfl, h102⟩ := h97.unf
   refine WL.lit hE hS (e := 43) (es := 4) (vs := [(0, .agg (List.toArray [vi rr91.1.Kind, vi rr91.1.A, vi rr91.1.B, .slice a100 rr91.1.Kids.length c101]))]) (cs := [vi rr91.1.Kind, vi rr91.1.A, vi rr91.1.B, .slice a100 rr91.1.Kids.length c101]) (runs_plain rfl) rfl (by kernel_rfl) rfl ?_; clear hE hS a w; intro b103 a w hE hS
   obtain ⟨x104, hx105, hq71⟩ := bindS hq71
   refine WL.appD hE hS 2 (m := 1) (runs_plain rfl) rfl rfl rfl ap41 rfl h80 rfl (xs := [rr91.1]) (Ev.cons (c1 := [vi rr91.1.Kind, vi rr91.1.A, vi rr91.1.B, .slice a100 rr91.1.Kids.length c101]) (RFareCond.fold ⟨_, _, rfl, h102⟩) rfl (Ev.nil)) rfl rfl hx105 rfl ?_; clear hE hS a w; intro a106 c107 cs108 a w h109 hE hS
   refine vp hS hE rfl rfl fun a hE => WL.nil ?_
   replace hS := hS.front 3 rfl
   replace hS := hS.front 2 rfl
   replace hS := hS.front 2 rfl
   replace hS := hS.front 3 rfl
   subst hK85
   exact ⟨n73, Nat.lt_succ_self _, n73, x104, rr91.2, a106, c107, x104.length, cs108, s98, rfl, (Sg.Le.trans hle76 hle99), hq71, h109, (rfl), hE.pick _ ⟨rfl, rfl, rfl, rfl, rfl, rfl, trivial⟩, hS⟩
  replace hq71 := iteF hc88 hq71
  subst hK85
  refine W.exit rfl ?_
  replace hS := hS.front 3 rfl
  replace hS := hS.front 2 rfl
  replace hS := hS.front 2 rfl
  replace hS := hS.front 3 rfl
  exact ⟨q77, q86.2, a78, c79, q77.length, cs82, s75, hle76, Option.some.inj hq71, h80, rfl, hE.pick _ ⟨rfl, rfl, rfl, trivial⟩, hS⟩
 clear hE hS a w; rintro a w ⟨q77, q84, a78, c79, n81, cs82, s75, hle76, rfl, h80, rfl, hE, hS⟩
 dsimp only at hr
 replace h67 := Sl.mono RFareCond.mono hle76 h67
 replace h70 := Ev.mono RFareCond.mono hle76 h70
 replace h_v0 := Ev.mono RS.mono hle76 h_v0
 refine W.seq ?_
 refine W.seq (W.region (vp hS hE rfl rfl fun a hE => ?_))
 refine vP hS hE (Gives.len hE rfl sl41) rfl fun a hE => ?_
 refine vp hS hE rfl rfl fun a hE => WL.nil ?_
 refine W.cond hE rfl (fun hc110 => ?_) (fun hc110 => ?_)
 ·replace hr := iteT hc110 hr
  refine W.seq (W.region (vp hS hE rfl rfl fun a hE => ?_))
  obtain ⟨x111, hx112, hr⟩ := bindS hr
  obtain ⟨hi113, hlt114, hy115⟩ := gx_some hx112
  obtain ⟨vs116, hl117, hR118, hd119, hget120⟩ := h80.at hy115
  obtain ⟨a121, c122, rfl, h123⟩ := hR118.unf
  refine vP hS hE (Gives.idx hE (((0 : Int)).toNat) rfl rfl sl41 hi113 (by omega) (hS.vecAok 0 rfl (by omega : ((0 : Int)).toNat < q77.length))) rfl fun a hE => ?_
  refine vP hS hE (Gives.loadA hE rfl (fun w h => St.vecSees h 0 rfl (((0 : Int)).toNat * 4) _ hget120) ty43) rfl fun a hE => ?_
  refine WL.storeI hE hS 3 rfl [vi x111.Kind, vi x111.A, vi x111.B, .slice a121 x111.Kids.length c122] (runs_plain rfl) rfl rfl rfl ty43 rfl rfl rfl rfl ?_; clear hE hS a w; intro a w hE hS
  refine WL.nil ?_
  refine W.ret ?_
  refine finG (fn := Tryz.f85) (rs := [.cell 8 43]) (vs := [_]) hE rfl ⟨⟨_, rfl, .inl ⟨_, rfl, hS.seesAt 3 rfl, ty43⟩⟩, trivial⟩ ?_
  obtain rfl := Option.some.inj hr
  replace hS := hS.tail
  replace hS := hS.dropAt 2
  exact .inr ⟨_, rfl, ⟨_, s75, rfl, (Sg.Le.trans hle64 hle76), (RFareCond.fold ⟨_, _, rfl, h123⟩), hS⟩⟩
 replace hr := iteF hc110 hr
 refine W.skip ?_
 refine W.seq (W.region (v2 hS hE rfl rfl rfl rfl fun a hE => ?_))
 refine vP hS hE (Gives.build hE (vs := [(0, vi x1), (3, .slice a78 q77.length c79)]) [vi x1, vi 0, vi 0, .slice a78 q77.length c79] rfl (by kernel_rfl)) rfl fun a hE => ?_
 refine WL.storeI hE hS 3 rfl [vi x1, vi 0, vi 0, .slice a78 q77.length c79] (runs_plain rfl) rfl rfl rfl ty43 rfl rfl rfl rfl ?_; clear hE hS a w; intro a w hE hS
 refine WL.nil ?_
 refine W.ret ?_
 have hF := hS.fixD RFareCond.mono 0 rfl h80 rfl; clear hS; obtain ⟨s124, hle125, hS, h126⟩ := hF
 replace h_v0 := Ev.mono RS.mono hle125 h_v0
 refine finG (fn := Tryz.f85) (rs := [.cell 8 43]) (vs := [_]) hE rfl ⟨⟨_, rfl, .inl ⟨_, rfl, hS.seesAt 2 rfl, ty43⟩⟩, trivial⟩ ?_
 obtain rfl := Option.some.inj hr
 replace hS := hS.dropAt 2
 exact .inr ⟨_, rfl, ⟨_, s124, rfl, (Sg.Le.trans (Sg.Le.trans hle64 hle76) hle125), (RFareCond.fold ⟨_, _, rfl, h126⟩), hS⟩⟩
set_option maxHeartbeats 8000000 in
theorem FareReaderor_v3_ok {fu : Nat}  {self_FareReaderone_v1 : FareReader → Option (Option (FareCond × Int))} (ih_FareReaderone_v1 : ∀ {w : World} {s : Sg} {R : List HP} {pb0 : Nat} {y0 : FareReader} {a_v0 : Option Addr} {c_v0 n_v0 : Nat} {cs_v0 : List Value} (_hS : St w s (pc pb0 #[.slice a_v0 n_v0 c_v0, vi y0.at_] 89 :: vecC 9 1 a_v0 c_v0 n_v0 cs_v0 :: R)) (_hTab : TabX s) (_h_v0 : Ev 1 RS s cs_v0 y0.words) (_hn_v0 : y0.words.length = n_v0) {r : Option (FareCond × Int)} (_hr : self_FareReaderone_v1 y0 = some r), Calls Tryz.prog 103 [pp pb0].toArray w (fun e w => (r = none ∧ e = .panicked [{ v := .iface 54 (.agg #[]), recovered := false }] ∧ ∃ (t : Sg), s.Le t ∧ St w t R) ∨ (∃ rr, r = some rr ∧ ∃ (cs0 : List Value) (t : Sg), e = .returned (.agg cs0.toArray) ∧ s.Le t ∧ RFareCond t cs0 rr.1 ∧ St w t (pc pb0 #[.slice a_v0 n_v0 c_v0, vi rr.2] 89 :: vecC 9 1 a_v0 c_v0 n_v0 cs_v0 :: R)))) {w : World} {s : Sg} {R : List HP} {pb0 : Nat} {y0 : FareReader} {a_v0 : Option Addr} {c_v0 n_v0 : Nat} {cs_v0 : List Value} (hS : St w s (pc pb0 #[.slice a_v0 n_v0 c_v0, vi y0.at_] 89 :: vecC 9 1 a_v0 c_v0 n_v0 cs_v0 :: R)) (hTab : TabX s) (h_v0 : Ev 1 RS s cs_v0 y0.words) (hn_v0 : y0.words.length = n_v0) {r : Option (FareCond × Int)} (hr : FareReaderor_v3 fu self_FareReaderone_v1 y0 = some r) :
  Calls Tryz.prog 67 [pp pb0].toArray w (fun e w => (r = none ∧ e = .panicked [{ v := .iface 54 (.agg #[]), recovered := false }] ∧ ∃ (t : Sg), s.Le t ∧ St w t R) ∨ (∃ rr, r = some rr ∧ ∃ (cs0 : List Value) (t : Sg), e = .returned (.agg cs0.toArray) ∧ s.Le t ∧ RFareCond t cs0 rr.1 ∧ St w t (pc pb0 #[.slice a_v0 n_v0 c_v0, vi rr.2] 89 :: vecC 9 1 a_v0 c_v0 n_v0 cs_v0 :: R))) := by
 refine enter Tryz.func67 rfl rfl rfl fun a hE => ?_
 rw [FareReaderor_v3] at hr
 subst hn_v0
 refine W.seq (W.region ?_)
 refine WL.alloc hE hS (runs_plain rfl) zr43 rfl ?_; clear hE hS a w; intro b53 a w hE hS
 refine WL.nil ?_
 refine W.seq (W.region (v2 hS hE rfl rfl rfl rfl fun a hE => ?_))
 refine vP hS hE (Gives.mkmeth hE (vs := [pp pb0]) rfl) rfl fun a hE => ?_
 obtain ⟨q54, hq55, hr⟩ := bindS hr
 replace hS := hS.front 2 rfl
 replace hS := hS.front 2 rfl
 have hc_ := FareReaderlist_v5_ok (y0 := y0) @ih_FareReaderone_v1 hS (TabG.mono (Sg.Le.refl _) hTab) h_v0 (rfl) hq55
 refine WL.fnP hE (hc_) (runs_plain rfl) bd85 rfl rfl rfl ?_
 clear hE hS hc_; rintro e w (⟨hz57, rfl, t59, hle60, hS⟩ | ⟨rr56, hz58, cs61, s63, rfl, hle64, h62, hS⟩)
 ·refine .inr ⟨_, rfl, ?_⟩; clear a; intro a hE
  rw [hz57] at hr; dsimp only at hr
  replace hS := hS.down hle60
  refine ⟨hE.defers.trans rfl, ?_⟩
  obtain rfl := Option.some.inj hr
  replace hS := hS.tail
  exact .inl ⟨rfl, rfl, s, (Sg.Le.refl _), hS⟩
 refine .inl ⟨_, rfl, ?_⟩; clear a; intro a hE
 rw [hz58] at hr; dsimp only at hr
 replace h_v0 := Ev.mono RS.mono hle64 h_v0
 obtain ⟨a65, c66, rfl, h67⟩ := h62.unf
 refine WL.storeI hE hS 2 rfl [vi rr56.1.Kind, vi rr56.1.A, vi rr56.1.B, .slice a65 rr56.1.Kids.length c66] (runs_plain rfl) rfl rfl rfl ty43 rfl rfl rfl rfl ?_; clear hE hS a w; intro a w hE hS
 refine WL.nil ?_
 refine W.ret ?_
 refine finG (fn := Tryz.f67) (rs := [.cell 2 43]) (vs := [_]) hE rfl ⟨⟨_, rfl, .inl ⟨_, rfl, hS.seesAt 2 rfl, ty43⟩⟩, trivial⟩ ?_
 obtain rfl := Option.some.inj hr
 replace hS := hS.dropAt 2
 exact .inr ⟨_, rfl, ⟨_, s63, rfl, hle64, (RFareCond.fold ⟨_, _, rfl, h67⟩), hS⟩⟩
set_option maxHeartbeats 8000000 in
theorem FareReaderone_v1_ok : ∀ {fu : Nat} {w : World} {s : Sg} {R : List HP} {pb0 : Nat} {y0 : FareReader} {a_v0 : Option Addr} {c_v0 n_v0 : Nat} {cs_v0 : List Value} (_hS : St w s (pc pb0 #[.slice a_v0 n_v0 c_v0, vi y0.at_] 89 :: vecC 9 1 a_v0 c_v0 n_v0 cs_v0 :: R)) (_hTab : TabX s) (_h_v0 : Ev 1 RS s cs_v0 y0.words) (_hn_v0 : y0.words.length = n_v0) {r : Option (FareCond × Int)} (_hr : FareReaderone_v1 fu y0 = some r),
  Calls Tryz.prog 103 [pp pb0].toArray w (fun e w => (r = none ∧ e = .panicked [{ v := .iface 54 (.agg #[]), recovered := false }] ∧ ∃ (t : Sg), s.Le t ∧ St w t R) ∨ (∃ rr, r = some rr ∧ ∃ (cs0 : List Value) (t : Sg), e = .returned (.agg cs0.toArray) ∧ s.Le t ∧ RFareCond t cs0 rr.1 ∧ St w t (pc pb0 #[.slice a_v0 n_v0 c_v0, vi rr.2] 89 :: vecC 9 1 a_v0 c_v0 n_v0 cs_v0 :: R))) := by
 intro fu
 induction fu with
 | zero => intro w s R pb0 y0 a_v0 c_v0 n_v0 cs_v0 hS hTab h_v0 hn_v0 r hr; rw [FareReaderone_v1] at hr; exact absurd hr (by simp)
 | succ fu ih_FareReaderone_v1 =>
  intro w s R pb0 y0 a_v0 c_v0 n_v0 cs_v0 hS hTab h_v0 hn_v0 r hr
  rw [FareReaderone_v1] at hr
  generalize FareReaderone_v1 fu = self_FareReaderone_v1 at hr ih_FareReaderone_v1
  refine enter Tryz.func103 rfl rfl rfl fun a hE => ?_
  subst hn_v0
  refine W.seq (W.region ?_)
  refine WL.alloc hE hS (runs_plain rfl) zr43 rfl ?_; clear hE hS a w; intro b53 a w hE hS
  refine WL.nil ?_
  refine W.seq ?_
  refine W.seq (W.region (vp hS hE rfl rfl fun a hE => ?_))
  obtain ⟨q54, hq55, hr⟩ := bindS hr
  replace hS := hS.front 2 rfl
  replace hS := hS.front 2 rfl
  have hc_ := FareReadertake_v1_ok (y0 := y0) hS h_v0 (rfl) hq55
  refine WL.fnq hE (hc_) (runs_plain rfl) bd40 rfl rfl rfl ?_
  clear hE hS hc_; rintro e w ⟨rfl, hS⟩; refine ⟨_, rfl, ?_⟩; clear a; intro a hE
  refine WL.nil ?_
  refine W.cond hE rfl (fun hc56 => ?_) (fun hc56 => ?_)
  ·replace hr := iteT hc56 hr
   refine W.seq (W.region (vp hS hE rfl rfl fun a hE => ?_))
   obtain ⟨q57, hq58, hr⟩ := bindS hr
   have hc_ := FareReaderor_v3_ok (y0 := (FareReader.mk y0.words q54.2)) @ih_FareReaderone_v1 hS (TabG.mono (Sg.Le.refl _) hTab) h_v0 (rfl) hq58
   refine WL.fnP hE (hc_) (runs_plain rfl) bd67 rfl rfl rfl ?_
   clear hE hS hc_; rintro e w (⟨hz60, rfl, t62, hle63, hS⟩ | ⟨rr59, hz61, cs64, s66, rfl, hle67, h65, hS⟩)
   ·refine .inr ⟨_, rfl, ?_⟩; clear a; intro a hE
    rw [hz60] at hr; dsimp only at hr
    replace hS := hS.down hle63
    refine ⟨hE.defers.trans rfl, ?_⟩
    obtain rfl := Option.some.inj hr
    replace hS := hS.tail
    exact .inl ⟨rfl, rfl, s, (Sg.Le.refl _), hS⟩
   refine .inl ⟨_, rfl, ?_⟩; clear a; intro a hE
   rw [hz61] at hr; dsimp only at hr
   replace h_v0 := Ev.mono RS.mono hle67 h_v0
   obtain ⟨a68, c69, rfl, h70⟩ := h65.unf
   refine WL.alloc hE hS (runs_plain rfl) zr43 rfl ?_; clear hE hS a w; intro b71 a w hE hS
   refine WL.storeI hE hS 0 rfl [vi rr59.1.Kind, vi rr59.1.A, vi rr59.1.B, .slice a68 rr59.1.Kids.length c69] (runs_plain rfl) rfl rfl rfl ty43 rfl rfl rfl rfl ?_; clear hE hS a w; intro a w hE hS
   refine WL.nil ?_
   refine W.seq (W.region (vp hS hE rfl rfl fun a hE => ?_))
   obtain ⟨q72, hq73, hr⟩ := bindS hr
   replace hS := hS.front 2 rfl
   replace hS := hS.front 2 rfl
   have hc_ := FareReadermust_v1_ok (y0 := (FareReader.mk y0.words rr59.2)) hS h_v0 (rfl) hq73
   refine WL.fnP hE (hc_) (runs_plain rfl) bd41 rfl rfl rfl ?_
   clear hE hS hc_; rintro e w (⟨hz75, rfl, t77, hle78, hS⟩ | ⟨rr74, hz76, rfl, hS⟩)
   ·refine .inr ⟨_, rfl, ?_⟩; clear a; intro a hE
    rw [hz75] at hr; dsimp only at hr
    replace hS := hS.down hle78
    refine ⟨hE.defers.trans rfl, ?_⟩
    obtain rfl := Option.some.inj hr
    replace hS := hS.tail
    replace hS := hS.tail
    exact .inl ⟨rfl, rfl, s66, hle67, hS⟩
   refine .inl ⟨_, rfl, ?_⟩; clear a; intro a hE
   rw [hz76] at hr; dsimp only at hr
   refine WL.nil ?_
   refine W.seq (W.region (vP hS hE (Gives.loadBA hE 2 rfl rfl ty43) rfl fun a hE => ?_))
   refine WL.storeI hE hS 3 rfl [vi rr59.1.Kind, vi rr59.1.A, vi rr59.1.B, .slice a68 rr59.1.Kids.length c69] (runs_plain rfl) rfl rfl rfl ty43 rfl rfl rfl rfl ?_; clear hE hS a w; intro a w hE hS
   refine WL.nil ?_
   refine W.ret ?_
   refine finG (fn := Tryz.f103) (rs := [.cell 2 43]) (vs := [_]) hE rfl ⟨⟨_, rfl, .inl ⟨_, rfl, hS.seesAt 3 rfl, ty43⟩⟩, trivial⟩ ?_
   obtain rfl := Option.some.inj hr
   replace hS := hS.dropAt 2
   replace hS := hS.dropAt 2
   exact .inr ⟨_, rfl, ⟨_, s66, rfl, hle67, (RFareCond.fold ⟨_, _, rfl, h70⟩), hS⟩⟩
  replace hr := iteF hc56 hr
  refine W.skip ?_
  refine W.seq (W.region (vp hS hE rfl rfl fun a hE => ?_))
  obtain ⟨q79, hq80, hr⟩ := bindS hr
  have hc_ := FareReaderword_v1_ok (y0 := (FareReader.mk y0.words q54.2)) hS h_v0 (rfl) hq80
  refine WL.fnP hE (hc_) (runs_plain rfl) bd66 rfl rfl rfl ?_
  clear hE hS hc_; rintro e w (⟨hz82, rfl, t84, hle85, hS⟩ | ⟨rr81, hz83, rfl, hS⟩)
  ·refine .inr ⟨_, rfl, ?_⟩; clear a; intro a hE
   rw [hz82] at hr; dsimp only at hr
   replace hS := hS.down hle85
   refine ⟨hE.defers.trans rfl, ?_⟩
   obtain rfl := Option.some.inj hr
   replace hS := hS.tail
   exact .inl ⟨rfl, rfl, s, (Sg.Le.refl _), hS⟩
  refine .inl ⟨_, rfl, ?_⟩; clear a; intro a hE
  rw [hz83] at hr; dsimp only at hr
  refine vp hS hE rfl rfl fun a hE => WL.nil ?_
  refine W.seq ?_
  refine W.seq (W.region ?_)
  obtain ⟨q86, hq87, hr⟩ := bndS hr
  have hc_ := Farenames_ok hS  hq87
  refine WL.fnq hE (hc_) (runs_plain rfl) bd56 rfl rfl rfl ?_
  clear hE hS hc_; rintro e w ⟨cs88, rfl, h89, hS⟩; refine ⟨_, rfl, ?_⟩; clear a; intro a hE
  subst h89
  refine vp hS hE rfl rfl fun a hE => WL.nil ?_
  obtain ⟨q91, hq90, hr⟩ := bindS hr
  refine W.cut (fun a w => ∃ (q101 : Int), ∃ (q102 : Int), ∃ (q103 : Int), ∃ (q104 : List FareCond), ∃ (q108 : Int), ∃ (a105 : Option Addr), ∃ (c106 : Nat), (.next (q101, q102, q103, q104, q108)) = q91 ∧ Sl 4 RFareCond s a105 c106 q104 ∧ Rep a 52 [(2, pp b53)] ∧ St w s (pc pb0 #[.slice a_v0 y0.words.length c_v0, vi q108] 89 :: vecC 9 1 a_v0 c_v0 y0.words.length cs_v0 :: pc b53 #[vi q101, vi q102, vi q103, .slice a105 q104.length c106] 43 :: R)) ?_ ?_
  ·refine W.block ?_
   refine W.loop (fun m a w => ∃ (rest94 : List ByteArray) (k92 : Nat), ∃ (q101 : Int), ∃ (q102 : Int), ∃ (q103 : Int), ∃ (q104 : List FareCond), ∃ (q108 : Int), ∃ (a105 : Option Addr), ∃ (c106 : Nat), rest94.length = m ∧ [q86.f0, q86.f1, q86.f2, q86.f3, q86.f4, q86.f5, q86.f6, q86.f7, q86.f8, q86.f9].drop k92 = rest94 ∧ FareReaderone_v1.loop1 y0 fu self_FareReaderone_v1 rr81 rest94 k92 q101 q102 q103 q104 q108 = some q91 ∧ Sl 4 RFareCond s a105 c106 q104 ∧ Rep a 52 [(0, pp pb0), (2, pp b53), (4, .string rr81.1), (18, .agg (Ar10str.cells q86).toArray), (19, vi ((k92 : Nat) : Int))] ∧ St w s (pc pb0 #[.slice a_v0 y0.words.length c_v0, vi q108] 89 :: vecC 9 1 a_v0 c_v0 y0.words.length cs_v0 :: pc b53 #[vi q101, vi q102, vi q103, .slice a105 q104.length c106] 43 :: R)) (m := [q86.f0, q86.f1, q86.f2, q86.f3, q86.f4, q86.f5, q86.f6, q86.f7, q86.f8, q86.f9].length) ⟨[q86.f0, q86.f1, q86.f2, q86.f3, q86.f4, q86.f5, q86.f6, q86.f7, q86.f8, q86.f9], 0, 0, 0, 0, [], rr81.2, none, 0, rfl, rfl, hq90, Sl.nil, hE.pick _ ⟨rfl, rfl, rfl, rfl, rfl, trivial⟩, hS⟩ ?_
   clear hE hS a w hq90; rintro m98 a w ⟨rest94, k92, q101, q102, q103, q104, q108, a105, c106, rfl, hd95, hq90, h107, hE, hS⟩
   refine W.gen fun K109 hK109 => ?_
   rcases rest94 with _ | ⟨x93, rest94⟩
   ·have hlt96 : 10 ≤ k92 := drop_nil hd95
    refine W.seq (W.region (vp hS hE rfl rfl fun a hE => WL.nil ?_))
    refine W.seq ?_
    refine W.condF hE rfl (decide_eq_false (by omega)) ?_
    subst hK109
    refine W.exit rfl ?_
    exact ⟨q101, q102, q103, q104, q108, a105, c106, Option.some.inj hq90, h107, hE.pick _ ⟨rfl, trivial⟩, hS⟩
   obtain ⟨hlt96, hx97, hd95⟩ := drop_cons hd95
   replace hlt96 : k92 < 10 := hlt96
   rw [FareReaderone_v1.loop1] at hq90
   refine W.seq (W.region (vp hS hE rfl rfl fun a hE => WL.nil ?_))
   refine W.seq ?_
   refine W.condT hE rfl (decide_eq_true (by omega)) ?_
   refine W.skip ?_
   refine W.seq ?_
   refine W.block ?_
   refine W.seq (W.region (vp hS hE rfl rfl fun a hE => ?_))
   refine vP hS hE (Gives.indexM hE (f := Value.string) (l := [q86.f0, q86.f1, q86.f2, q86.f3, q86.f4, q86.f5, q86.f6, q86.f7, q86.f8, q86.f9]) (k := k92) ar106 rfl rfl rfl rfl hx97) rfl fun a hE => ?_
   refine v2 hS hE rfl rfl rfl rfl fun a hE => WL.nil ?_
   refine W.seq ?_
   refine W.seq (W.region (v2 hS hE rfl rfl rfl rfl fun a hE => ?_))
   refine vP hS hE (Gives.neSt hE rfl rfl) rfl fun a hE => WL.nil ?_
   refine W.cond hE rfl (fun hc110 => ?_) (fun hc110 => ?_)
   ·replace hq90 := iteT hc110 hq90
    refine W.exit rfl ?_
    refine W.region ?_
    refine vP hS hE (Gives.inc hE rfl (by omega)) rfl fun a hE => ?_
    refine vp hS hE rfl rfl fun a hE => WL.nil ?_
    subst hK109
    exact ⟨rest94.length, Nat.lt_succ_self _, rest94, k92 + 1, q101, q102, q103, q104, q108, a105, c106, rfl, hd95, hq90, h107, hE.pick _ ⟨rfl, rfl, rfl, rfl, rfl, trivial⟩, hS⟩
   replace hq90 := iteF hc110 hq90
   refine W.skip ?_
   refine W.seq (W.region (vp hS hE rfl rfl fun a hE => ?_))
   refine vP hS hE (Gives.build hE (vs := [(0, vi ((k92 : Nat) : Int))]) [vi ((k92 : Nat) : Int), vi 0, vi 0, .slice none 0 0] rfl (by kernel_rfl)) rfl fun a hE => ?_
   refine WL.alloc hE hS (runs_plain rfl) zr43 rfl ?_; clear hE hS a w; intro b111 a w hE hS
   refine WL.storeI hE hS 0 rfl [vi ((k92 : Nat) : Int), vi 0, vi 0, .slice none 0 0] (runs_plain rfl) rfl rfl rfl ty43 rfl rfl rfl rfl ?_; clear hE hS a w; intro a w hE hS
   refine WL.nil ?_
   refine W.seq ?_
   refine W.seq (W.region (v2 hS hE rfl rfl rfl rfl fun a hE => WL.nil ?_))
   obtain ⟨q113, hq112, hq90⟩ := bindS hq90
   refine W.cut (fun a w => ∃ (q116 : List FareCond), ∃ (q120 : Int), ∃ (a117 : Option Addr), ∃ (c118 : Nat), ∃ (s114 : Sg), s.Le s114 ∧ .next (q116, q120) = q113 ∧ Sl 4 RFareCond s114 a117 c118 q116 ∧ Rep a 52 [(0, pp pb0), (2, pp b53), (5, vi ((k92 : Nat) : Int)), (7, pp b111)] ∧ St w s114 (pc b111 #[vi ((k92 : Nat) : Int), vi 0, vi 0, .slice a117 q116.length c118] 43 :: pc pb0 #[.slice a_v0 y0.words.length c_v0, vi q120] 89 :: vecC 9 1 a_v0 c_v0 y0.words.length cs_v0 :: pc b53 #[vi q101, vi q102, vi q103, .slice a105 q104.length c106] 43 :: R)) ?_ ?_
   ·refine W.gen fun K121 hK121 => ?_
    refine W.cond hE rfl (fun hc122 => ?_) (fun hc122 => ?_)
    ·replace hq112 := iteT hc122 hq112
     refine W.region ?_
     refine vp hS hE rfl rfl fun a hE => ?_
     obtain ⟨q123, hq124, hq112⟩ := bindS hq112
     replace hS := hS.front 2 rfl
     replace hS := hS.front 2 rfl
     have hc_ := ih_FareReaderone_v1 (y0 := (FareReader.mk y0.words q108)) hS (TabG.mono (Sg.Le.refl _) hTab) h_v0 (rfl) hq124
     refine WL.fnP hE (hc_) (runs_plain rfl) bd103 rfl rfl rfl ?_
     clear hE hS hc_; rintro e w (⟨hz126, rfl, t128, hle129, hS⟩ | ⟨rr125, hz127, cs130, s132, rfl, hle133, h131, hS⟩)
     ·refine .inr ⟨_, rfl, ?_⟩; clear a; intro a hE
      rw [hz126] at hq112; dsimp only at hq112
      replace hS := hS.down hle129
      subst hK121
      subst hK109
      rw [← Option.some.inj hq112] at hq90
      dsimp only at hq90
      rw [← Option.some.inj hq90] at hr
      dsimp only at hr
      refine ⟨hE.defers.trans rfl, ?_⟩
      obtain rfl := Option.some.inj hr
      replace hS := hS.tail
      replace hS := hS.tail
      exact .inl ⟨rfl, rfl, s, (Sg.Le.refl _), hS⟩
     refine .inl ⟨_, rfl, ?_⟩; clear a; intro a hE
     rw [hz127] at hq112; dsimp only at hq112
     replace h_v0 := Ev.mono RS.mono hle133 h_v0
     replace h107 := Sl.mono RFareCond.mono hle133 h107
     obtain ⟨a134, c135, rfl, h136⟩ := h131.unf
     refine WL.lit hE hS (e := 43) (es := 4) (vs := [(0, .agg (List.toArray [vi rr125.1.Kind, vi rr125.1.A, vi rr125.1.B, .slice a134 rr125.1.Kids.length c135]))]) (cs := [vi rr125.1.Kind, vi rr125.1.A, vi rr125.1.B, .slice a134 rr125.1.Kids.length c135]) (runs_plain rfl) rfl (by kernel_rfl) rfl ?_; clear hE hS a w; intro b137 a w hE hS
     replace hS := hS.ptVec (es := 4) (m := 1) rfl (by decide)
     have h139 : Ev 4 RFareCond s132 [vi rr125.1.Kind, vi rr125.1.A, vi rr125.1.B, .slice a134 rr125.1.Kids.length c135] [rr125.1] := (Ev.cons (c1 := [vi rr125.1.Kind, vi rr125.1.A, vi rr125.1.B, .slice a134 rr125.1.Kids.length c135]) (RFareCond.fold ⟨_, _, rfl, h136⟩) rfl (Ev.nil))
     have hF := hS.fixD RFareCond.mono 0 rfl h139 (rfl); clear hS; obtain ⟨s140, hle141, hS, h142⟩ := hF
     replace h136 := Sl.mono RFareCond.mono hle141 h136
     replace h_v0 := Ev.mono RS.mono hle141 h_v0
     replace h107 := Sl.mono RFareCond.mono hle141 h107
     refine vP hS hE (Gives.fld hE rfl fl43_3) rfl fun a hE => ?_
     refine WL.storeI hE hS 2 rfl [vi ((k92 : Nat) : Int), vi 0, vi 0, .slice (some ⟨b137, 0, none⟩) 1 1] (runs_plain rfl) rfl rfl rfl ty41 rfl rfl rfl rfl ?_; clear hE hS a w; intro a w hE hS
     refine WL.nil ?_
     replace hS := hS.front 3 rfl
     replace hS := hS.front 2 rfl
     replace hS := hS.front 2 rfl
     replace hS := hS.front 3 rfl
     subst hK121
     exact ⟨[rr125.1], rr125.2, (some ⟨b137, 0, none⟩), 1, s140, (Sg.Le.trans hle133 hle141), Option.some.inj hq112, h142, hE.pick _ ⟨rfl, rfl, rfl, rfl, trivial⟩, hS⟩
    replace hq112 := iteF hc122 hq112
    refine W.skip ?_
    subst hK121
    exact ⟨[], q108, none, 0, s, (Sg.Le.refl _), Option.some.inj hq112, Sl.nil, hE.pick _ ⟨rfl, rfl, rfl, rfl, trivial⟩, hS⟩
   clear hE hS a w; rintro a w ⟨q116, q120, a117, c118, s114, hle115, rfl, h119, hE, hS⟩
   dsimp only at hq90
   replace h_v0 := Ev.mono RS.mono hle115 h_v0
   replace h107 := Sl.mono RFareCond.mono hle115 h107
   refine W.seq ?_
   refine W.seq (W.region (vp hS hE rfl rfl fun a hE => ?_))
   refine WL.fnq hE (Farenumbers_ok hS  rfl (r := Farenumbers ((k92 : Nat) : Int))) (runs_plain rfl) bd57 rfl rfl rfl ?_
   clear hE hS; rintro e w ⟨rfl, hS⟩; refine ⟨_, rfl, ?_⟩; clear a; intro a hE
   refine vp hS hE rfl rfl fun a hE => WL.nil ?_
   obtain ⟨q155, hq154, hq90⟩ := bindS hq90
   refine W.cut (fun a w => ∃ (q160 : Int), ∃ (q161 : Int), ∃ (q162 : Int), ∃ (q163 : Int), (.next (q160, q161, q162, q163)) = q155 ∧ Rep a 52 [(2, pp b53), (7, pp b111)] ∧ St w s114 (pc b111 #[vi ((k92 : Nat) : Int), vi q161, vi q162, .slice a117 q116.length c118] 43 :: pc pb0 #[.slice a_v0 y0.words.length c_v0, vi q163] 89 :: vecC 9 1 a_v0 c_v0 y0.words.length cs_v0 :: pc b53 #[vi q101, vi q102, vi q103, .slice a105 q104.length c106] 43 :: R)) ?_ ?_
   ·refine W.block ?_
    refine W.loop (fun m a w => ∃ (n156 : Nat), ∃ (q160 : Int), ∃ (q161 : Int), ∃ (q162 : Int), ∃ (q163 : Int), n156 = m ∧ FareReaderone_v1.loop3 y0 k92 n156 q160 q161 q162 q163 = some q155 ∧ Rep a 52 [(0, pp pb0), (2, pp b53), (7, pp b111), (35, vi (Farenumbers ((k92 : Nat) : Int))), (36, vi q160)] ∧ St w s114 (pc b111 #[vi ((k92 : Nat) : Int), vi q161, vi q162, .slice a117 q116.length c118] 43 :: pc pb0 #[.slice a_v0 y0.words.length c_v0, vi q163] 89 :: vecC 9 1 a_v0 c_v0 y0.words.length cs_v0 :: pc b53 #[vi q101, vi q102, vi q103, .slice a105 q104.length c106] 43 :: R)) (m := fu) ⟨fu, 0, 0, 0, q120, rfl, hq154, hE.pick _ ⟨rfl, rfl, rfl, rfl, rfl, trivial⟩, hS⟩ ?_
    clear hE hS a w hq154; rintro m157 a w ⟨n156, q160, q161, q162, q163, rfl, hq154, hE, hS⟩
    refine W.gen fun K164 hK164 => ?_
    rcases n156 with _ | n156
    ·rw [FareReaderone_v1.loop3] at hq154; exact absurd hq154 (by simp)
    rw [FareReaderone_v1.loop3] at hq154
    refine W.seq (W.region (vp hS hE rfl rfl fun a hE => WL.nil ?_))
    refine W.seq ?_
    refine W.cond hE rfl (fun hc165 => ?_) (fun hc165 => ?_)
    ·replace hq154 := iteT hc165 hq154
     refine W.skip ?_
     refine W.seq ?_
     refine W.block ?_
     refine W.seq (W.region (v2 hS hE rfl rfl rfl rfl fun a hE => WL.nil ?_))
     refine W.gen fun K166 hK166 => ?_
     have hPF : PanF K166.pan := by subst hK166; subst hK164; subst hK109; rintro c (_ | d) v a w h <;> exact h
     refine rQ hS [] [1] [0, 1, 2, 3, 4, 5, 7] [0, 1, 2, 3, 4, 5, 6, 7] mixed ?_
     replace hS := hS.drew
     refine Rq.takeP hPF (i := 0) hE rfl (by kernel_rfl) (runs_plain rfl) (Gives.fld hE rfl fl43_1) rfl (tw_sel (fun _ => hS) (fun _ => (hS.dropAt 1))) fun a hE => ?_
     refine Rq.takeP hPF (i := 1) hE rfl (by kernel_rfl) (runs_plain rfl) (Gives.fld hE rfl fl43_2) rfl (tw_sel (fun _ => hS) (fun _ => (hS.dropAt 1))) fun a hE => ?_
     refine Rq.takeP hPF (i := 2) hE rfl (by kernel_rfl) (runs_plain rfl) (Gives.build hE (vs := [(0, .pointer (some ⟨b111, 1, none⟩)), (1, .pointer (some ⟨b111, 2, none⟩))]) [.pointer (some ⟨b111, 1, none⟩), .pointer (some ⟨b111, 2, none⟩)] rfl (by kernel_rfl)) rfl (tw_sel (fun _ => hS) (fun _ => (hS.dropAt 1))) fun a hE => ?_
     refine Rq.takeP hPF (i := 3) hE rfl (by kernel_rfl) (runs_plain rfl) (Gives.p hE rfl) rfl (tw_sel (fun _ => hS) (fun _ => (hS.dropAt 1))) fun a hE => ?_
     rcases Bool.eq_false_or_eq_true (q160 == 0) with hg167 | hg167
     ·replace hq154 := iteT hg167 hq154
      have hk168 := eq_of_beq hg167
      refine Rq.takeP hPF (i := 4) hE rfl (by kernel_rfl) (runs_plain rfl) (show Gives _ _ _ _ (.pointer (some ⟨b111, 1, none⟩)) from Gives.indexMi hE (f := id) (l := [.pointer (some ⟨b111, 1, none⟩), .pointer (some ⟨b111, 2, none⟩)]) ar163 rfl rfl (by simp) rfl (by omega) (by rw [hk168]; rfl)) rfl (tw_sel (fun _ => hS) (fun _ => (hS.dropAt 1))) fun a hE => ?_
      refine Rq.takeP hPF (i := 5) hE rfl (by kernel_rfl) (runs_plain rfl) (Gives.p hE rfl) rfl (tw_sel (fun _ => hS) (fun _ => (hS.dropAt 1))) fun a hE => ?_
      refine Rq.one (i := 6) false true rfl (by kernel_rfl) (by kernel_rfl) (by kernel_rfl) ?_
      obtain ⟨q169, hq170, hq154⟩ := bindS hq154
      replace hS := hS.front 2 rfl
      replace hS := hS.front 2 rfl
      have hc_ := FareReadernumber_v1_ok (y0 := (FareReader.mk y0.words q163)) hS (TabG.mono hle115 hTab) h_v0 (rfl) hq170
      refine WL.fnP hE (hc_) (runs_plain rfl) bd42 rfl rfl rfl ?_
      clear hE hS hc_; rintro e w (⟨hz172, rfl, t174, hle175, hS⟩ | ⟨rr171, hz173, rfl, hS⟩)
      ·refine .inr ⟨_, rfl, ?_⟩; clear a; intro a hE
       rw [hz172] at hq154; dsimp only at hq154
       replace hS := hS.down hle175
       subst hK166
       subst hK164
       subst hK109
       rw [← Option.some.inj hq154] at hq90
       dsimp only at hq90
       rw [← Option.some.inj hq90] at hr
       dsimp only at hr
       refine ⟨hE.defers.trans rfl, ?_⟩
       obtain rfl := Option.some.inj hr
       replace hS := hS.tail
       replace hS := hS.tail
       exact .inl ⟨rfl, rfl, s114, hle115, hS⟩
      refine .inl ⟨_, rfl, ?_⟩; clear a; intro a hE
      rw [hz173] at hq154; dsimp only at hq154
      refine WL.nil ?_
      refine ⟨⟨fun h => absurd h (by decide), fun _ => (St.front (St.front (St.front (hS.tail) 2 rfl) 1 rfl) 2 rfl)⟩, ?_⟩
      refine Rq.take hPF (i := 7) false rfl hE rfl (by kernel_rfl) (runs_plain rfl) (Gives.nilOk hE rfl) rfl (tw_sel (fun h => absurd h (by decide)) (fun _ => (St.front (St.front (St.front (hS.tail) 2 rfl) 1 rfl) 2 rfl))) fun a hE => ?_
      refine Rq.one (i := 8) false false rfl (by kernel_rfl) (by kernel_rfl) (by kernel_rfl) ?_
      refine WL.storeI hE hS 2 rfl [vi ((k92 : Nat) : Int), vi rr171.1, vi q162, .slice a117 q116.length c118] (runs_plain rfl) rfl rfl rfl ty3 rfl rfl rfl rfl ?_; clear hE hS a w; intro a w hE hS
      refine WL.nil ?_
      refine ⟨⟨fun h => absurd h (by decide), fun h => absurd h (by decide)⟩, ?_⟩
      refine Rq.done (by kernel_rfl) ?_
      subst hK166
      refine W.region ?_
      refine v2 hS hE rfl rfl rfl rfl fun a hE => WL.nil ?_
      replace hS := hS.front 3 rfl
      replace hS := hS.front 2 rfl
      replace hS := hS.front 2 rfl
      replace hS := hS.front 3 rfl
      subst hK164
      exact ⟨n156, Nat.lt_succ_self _, n156, (w64 (q160 + 1)), rr171.1, q162, rr171.2, rfl, hq154, hE.pick _ ⟨rfl, rfl, rfl, rfl, rfl, trivial⟩, hS⟩
     replace hq154 := iteF hg167 hq154
     rcases Bool.eq_false_or_eq_true (q160 == 1) with hg176 | hg176
     ·replace hq154 := iteT hg176 hq154
      have hk177 := eq_of_beq hg176
      refine Rq.takeP hPF (i := 4) hE rfl (by kernel_rfl) (runs_plain rfl) (show Gives _ _ _ _ (.pointer (some ⟨b111, 2, none⟩)) from Gives.indexMi hE (f := id) (l := [.pointer (some ⟨b111, 1, none⟩), .pointer (some ⟨b111, 2, none⟩)]) ar163 rfl rfl (by simp) rfl (by omega) (by rw [hk177]; rfl)) rfl (tw_sel (fun _ => hS) (fun _ => (hS.dropAt 1))) fun a hE => ?_
      refine Rq.takeP hPF (i := 5) hE rfl (by kernel_rfl) (runs_plain rfl) (Gives.p hE rfl) rfl (tw_sel (fun _ => hS) (fun _ => (hS.dropAt 1))) fun a hE => ?_
      refine Rq.one (i := 6) false true rfl (by kernel_rfl) (by kernel_rfl) (by kernel_rfl) ?_
      obtain ⟨q178, hq179, hq154⟩ := bindS hq154
      replace hS := hS.front 2 rfl
      replace hS := hS.front 2 rfl
      have hc_ := FareReadernumber_v1_ok (y0 := (FareReader.mk y0.words q163)) hS (TabG.mono hle115 hTab) h_v0 (rfl) hq179
      refine WL.fnP hE (hc_) (runs_plain rfl) bd42 rfl rfl rfl ?_
      clear hE hS hc_; rintro e w (⟨hz181, rfl, t183, hle184, hS⟩ | ⟨rr180, hz182, rfl, hS⟩)
      ·refine .inr ⟨_, rfl, ?_⟩; clear a; intro a hE
       rw [hz181] at hq154; dsimp only at hq154
       replace hS := hS.down hle184
       subst hK166
       subst hK164
       subst hK109
       rw [← Option.some.inj hq154] at hq90
       dsimp only at hq90
       rw [← Option.some.inj hq90] at hr
       dsimp only at hr
       refine ⟨hE.defers.trans rfl, ?_⟩
       obtain rfl := Option.some.inj hr
       replace hS := hS.tail
       replace hS := hS.tail
       exact .inl ⟨rfl, rfl, s114, hle115, hS⟩
      refine .inl ⟨_, rfl, ?_⟩; clear a; intro a hE
      rw [hz182] at hq154; dsimp only at hq154
      refine WL.nil ?_
      refine ⟨⟨fun h => absurd h (by decide), fun _ => (St.front (St.front (St.front (hS.tail) 2 rfl) 1 rfl) 2 rfl)⟩, ?_⟩
      refine Rq.take hPF (i := 7) false rfl hE rfl (by kernel_rfl) (runs_plain rfl) (Gives.nilOk hE rfl) rfl (tw_sel (fun h => absurd h (by decide)) (fun _ => (St.front (St.front (St.front (hS.tail) 2 rfl) 1 rfl) 2 rfl))) fun a hE => ?_
      refine Rq.one (i := 8) false false rfl (by kernel_rfl) (by kernel_rfl) (by kernel_rfl) ?_
      refine WL.storeI hE hS 2 rfl [vi ((k92 : Nat) : Int), vi q161, vi rr180.1, .slice a117 q116.length c118] (runs_plain rfl) rfl rfl rfl ty3 rfl rfl rfl rfl ?_; clear hE hS a w; intro a w hE hS
      refine WL.nil ?_
      refine ⟨⟨fun h => absurd h (by decide), fun h => absurd h (by decide)⟩, ?_⟩
      refine Rq.done (by kernel_rfl) ?_
      subst hK166
      refine W.region ?_
      refine v2 hS hE rfl rfl rfl rfl fun a hE => WL.nil ?_
      replace hS := hS.front 3 rfl
      replace hS := hS.front 2 rfl
      replace hS := hS.front 2 rfl
      replace hS := hS.front 3 rfl
      subst hK164
      exact ⟨n156, Nat.lt_succ_self _, n156, (w64 (q160 + 1)), q161, rr180.1, rr180.2, rfl, hq154, hE.pick _ ⟨rfl, rfl, rfl, rfl, rfl, trivial⟩, hS⟩
     replace hq154 := iteF hg176 hq154
     exact absurd hq154 (by simp)
    replace hq154 := iteF hc165 hq154
    subst hK164
    refine W.exit rfl ?_
    exact ⟨q160, q161, q162, q163, Option.some.inj hq154, hE.pick _ ⟨rfl, rfl, trivial⟩, hS⟩
   clear hE hS a w; rintro a w ⟨q160, q161, q162, q163, rfl, hE, hS⟩
   dsimp only at hq90
   refine W.seq (W.region (vP hS hE (Gives.loadBA hE 0 rfl rfl ty43) rfl fun a hE => ?_))
   refine WL.storeI hE hS 3 rfl [vi ((k92 : Nat) : Int), vi q161, vi q162, .slice a117 q116.length c118] (runs_plain rfl) rfl rfl rfl ty43 rfl rfl rfl rfl ?_; clear hE hS a w; intro a w hE hS
   refine WL.nil ?_
   refine W.ret ?_
   subst hK109
   rw [← Option.some.inj hq90] at hr
   dsimp only at hr
   refine finG (fn := Tryz.f103) (rs := [.cell 2 43]) (vs := [_]) hE rfl ⟨⟨_, rfl, .inl ⟨_, rfl, hS.seesAt 3 rfl, ty43⟩⟩, trivial⟩ ?_
   obtain rfl := Option.some.inj hr
   replace hS := hS.tail
   replace hS := hS.dropAt 2
   exact .inr ⟨_, rfl, ⟨_, s114, rfl, hle115, (RFareCond.fold ⟨_, _, rfl, h119⟩), hS⟩⟩
  clear hE hS a w; rintro a w ⟨q101, q102, q103, q104, q108, a105, c106, rfl, h107, hE, hS⟩
  dsimp only at hr
  refine W.region ?_
  refine vP hS hE (Gives.build hE (vs := []) [] rfl (by kernel_rfl)) rfl fun a hE => ?_
  refine vP hS hE (Gives.iface hE rfl ifc54) rfl fun a hE => ?_
  refine WL.panic hE rfl (runs_plain rfl) fun a hE => ?_
  refine ⟨hE.defers.trans rfl, ?_⟩
  obtain rfl := Option.some.inj hr
  replace hS := hS.tail
  replace hS := hS.tail
  replace hS := hS.tail
  exact .inl ⟨rfl, rfl, s, (Sg.Le.refl _), hS⟩
set_option maxHeartbeats 8000000 in
theorem Faredeeds_ok  {w : World} {s : Sg} {R : List HP}  (hS : St w s (R))  {r : Ar7str} (hr : Faredeeds = r) :
  Calls Tryz.prog 31 [].toArray w (fun e w => ∃ (cs0 : List Value), e = .returned (.agg cs0.toArray) ∧ RAr7str s cs0 r ∧ St w s (R)) := by
 refine enter Tryz.func31 rfl rfl rfl fun a hE => ?_
 rw [Faredeeds] at hr
 refine W.seq (W.region ?_)
 refine WL.alloc hE hS (runs_plain rfl) zr76 rfl ?_; clear hE hS a w; intro b51 a w hE hS
 refine WL.nil ?_
 refine W.seq (W.region (vP hS hE (Gives.build hE (vs := [(0, .string (str [])), (1, .string (str [112, 101, 114, 99, 101, 110, 116])), (2, .string (str [109, 105, 110, 117, 115])), (3, .string (str [112, 108, 117, 115])), (4, .string (str [102, 105, 120])), (5, .string (str [97, 116, 109, 111, 115, 116])), (6, .string (str [97, 116, 108, 101, 97, 115, 116]))]) [.string (str []), .string (str [112, 101, 114, 99, 101, 110, 116]), .string (str [109, 105, 110, 117, 115]), .string (str [112, 108, 117, 115]), .string (str [102, 105, 120]), .string (str [97, 116, 109, 111, 115, 116]), .string (str [97, 116, 108, 101, 97, 115, 116])] rfl (by kernel_rfl)) rfl fun a hE => ?_))
 refine WL.storeI hE hS 0 rfl [.string (str []), .string (str [112, 101, 114, 99, 101, 110, 116]), .string (str [109, 105, 110, 117, 115]), .string (str [112, 108, 117, 115]), .string (str [102, 105, 120]), .string (str [97, 116, 109, 111, 115, 116]), .string (str [97, 116, 108, 101, 97, 115, 116])] (runs_plain rfl) rfl rfl rfl ty76 rfl rfl rfl rfl ?_; clear hE hS a w; intro a w hE hS
 refine WL.nil ?_
 refine W.ret ?_
 refine finG (fn := Tryz.f31) (rs := [.cell 0 76]) (vs := [_]) hE rfl ⟨⟨_, rfl, .inl ⟨_, rfl, hS.seesAt 0 rfl, ty76⟩⟩, trivial⟩ ?_
 subst hr
 replace hS := hS.tail
 exact ⟨_, rfl, rfl, hS⟩
set_option maxHeartbeats 8000000 in
theorem FareReaderrule_v1_ok {fu : Nat}  {w : World} {s : Sg} {R : List HP} {pb0 : Nat} {y0 : FareReader} {a_v0 : Option Addr} {c_v0 n_v0 : Nat} {cs_v0 : List Value} (hS : St w s (pc pb0 #[.slice a_v0 n_v0 c_v0, vi y0.at_] 89 :: vecC 9 1 a_v0 c_v0 n_v0 cs_v0 :: R)) (hTab : TabX s) (h_v0 : Ev 1 RS s cs_v0 y0.words) (hn_v0 : y0.words.length = n_v0) {r : Option (FareRule × Int)} (hr : FareReaderrule_v1 fu y0 = some r) :
  Calls Tryz.prog 43 [pp pb0].toArray w (fun e w => (r = none ∧ e = .panicked [{ v := .iface 54 (.agg #[]), recovered := false }] ∧ ∃ (t : Sg), s.Le t ∧ St w t R) ∨ (∃ rr, r = some rr ∧ ∃ (cs0 : List Value) (t : Sg), e = .returned (.agg cs0.toArray) ∧ s.Le t ∧ RFareRule t cs0 rr.1 ∧ St w t (pc pb0 #[.slice a_v0 n_v0 c_v0, vi rr.2] 89 :: vecC 9 1 a_v0 c_v0 n_v0 cs_v0 :: R))) := by
 refine enter Tryz.func43 rfl rfl rfl fun a hE => ?_
 rw [FareReaderrule_v1] at hr
 subst hn_v0
 refine W.seq (W.region ?_)
 refine WL.alloc hE hS (runs_plain rfl) zr45 rfl ?_; clear hE hS a w; intro b53 a w hE hS
 refine WL.nil ?_
 refine W.seq (W.region (vp hS hE rfl rfl fun a hE => ?_))
 obtain ⟨q54, hq55, hr⟩ := bindS hr
 replace hS := hS.front 2 rfl
 replace hS := hS.front 2 rfl
 have hc_ := FareReaderor_v3_ok (y0 := y0) (@FareReaderone_v1_ok fu) hS (TabG.mono (Sg.Le.refl _) hTab) h_v0 (rfl) hq55
 refine WL.fnP hE (hc_) (runs_plain rfl) bd67 rfl rfl rfl ?_
 clear hE hS hc_; rintro e w (⟨hz57, rfl, t59, hle60, hS⟩ | ⟨rr56, hz58, cs61, s63, rfl, hle64, h62, hS⟩)
 ·refine .inr ⟨_, rfl, ?_⟩; clear a; intro a hE
  rw [hz57] at hr; dsimp only at hr
  replace hS := hS.down hle60
  refine ⟨hE.defers.trans rfl, ?_⟩
  obtain rfl := Option.some.inj hr
  replace hS := hS.tail
  exact .inl ⟨rfl, rfl, s, (Sg.Le.refl _), hS⟩
 refine .inl ⟨_, rfl, ?_⟩; clear a; intro a hE
 rw [hz58] at hr; dsimp only at hr
 replace h_v0 := Ev.mono RS.mono hle64 h_v0
 obtain ⟨a65, c66, rfl, h67⟩ := h62.unf
 refine vP hS hE (Gives.build hE (vs := [(0, .agg (List.toArray [vi rr56.1.Kind, vi rr56.1.A, vi rr56.1.B, .slice a65 rr56.1.Kids.length c66]))]) [vi rr56.1.Kind, vi rr56.1.A, vi rr56.1.B, .slice a65 rr56.1.Kids.length c66, vi 0, vi 0, .bool false] rfl (by kernel_rfl)) rfl fun a hE => ?_
 refine WL.alloc hE hS (runs_plain rfl) zr45 rfl ?_; clear hE hS a w; intro b68 a w hE hS
 refine WL.storeI hE hS 0 rfl [vi rr56.1.Kind, vi rr56.1.A, vi rr56.1.B, .slice a65 rr56.1.Kids.length c66, vi 0, vi 0, .bool false] (runs_plain rfl) rfl rfl rfl ty45 rfl rfl rfl rfl ?_; clear hE hS a w; intro a w hE hS
 refine WL.nil ?_
 refine W.seq (W.region (vp hS hE rfl rfl fun a hE => ?_))
 obtain ⟨q69, hq70, hr⟩ := bindS hr
 replace hS := hS.front 2 rfl
 replace hS := hS.front 2 rfl
 have hc_ := FareReadermust_v1_ok (y0 := (FareReader.mk y0.words rr56.2)) hS h_v0 (rfl) hq70
 refine WL.fnP hE (hc_) (runs_plain rfl) bd41 rfl rfl rfl ?_
 clear hE hS hc_; rintro e w (⟨hz72, rfl, t74, hle75, hS⟩ | ⟨rr71, hz73, rfl, hS⟩)
 ·refine .inr ⟨_, rfl, ?_⟩; clear a; intro a hE
  rw [hz72] at hr; dsimp only at hr
  replace hS := hS.down hle75
  refine ⟨hE.defers.trans rfl, ?_⟩
  obtain rfl := Option.some.inj hr
  replace hS := hS.tail
  replace hS := hS.tail
  exact .inl ⟨rfl, rfl, s63, hle64, hS⟩
 refine .inl ⟨_, rfl, ?_⟩; clear a; intro a hE
 rw [hz73] at hr; dsimp only at hr
 refine WL.nil ?_
 refine W.seq (W.region (vp hS hE rfl rfl fun a hE => ?_))
 obtain ⟨q76, hq77, hr⟩ := bindS hr
 have hc_ := FareReaderword_v1_ok (y0 := (FareReader.mk y0.words rr71)) hS h_v0 (rfl) hq77
 refine WL.fnP hE (hc_) (runs_plain rfl) bd66 rfl rfl rfl ?_
 clear hE hS hc_; rintro e w (⟨hz79, rfl, t81, hle82, hS⟩ | ⟨rr78, hz80, rfl, hS⟩)
 ·refine .inr ⟨_, rfl, ?_⟩; clear a; intro a hE
  rw [hz79] at hr; dsimp only at hr
  replace hS := hS.down hle82
  refine ⟨hE.defers.trans rfl, ?_⟩
  obtain rfl := Option.some.inj hr
  replace hS := hS.tail
  replace hS := hS.tail
  exact .inl ⟨rfl, rfl, s63, hle64, hS⟩
 refine .inl ⟨_, rfl, ?_⟩; clear a; intro a hE
 rw [hz80] at hr; dsimp only at hr
 refine vp hS hE rfl rfl fun a hE => WL.nil ?_
 refine W.seq ?_
 refine W.seq (W.region ?_)
 obtain ⟨q83, hq84, hr⟩ := bndS hr
 have hc_ := Faredeeds_ok hS  hq84
 refine WL.fnq hE (hc_) (runs_plain rfl) bd31 rfl rfl rfl ?_
 clear hE hS hc_; rintro e w ⟨cs85, rfl, h86, hS⟩; refine ⟨_, rfl, ?_⟩; clear a; intro a hE
 subst h86
 refine vp hS hE rfl rfl fun a hE => WL.nil ?_
 obtain ⟨q88, hq87, hr⟩ := bndS hr
 refine W.cut (fun a w => ∃ (q98 : Int), q98 = q88 ∧ Rep a 41 [(0, pp pb0), (2, pp b53), (3, pp b68)] ∧ St w s63 (pc pb0 #[.slice a_v0 y0.words.length c_v0, vi rr78.2] 89 :: vecC 9 1 a_v0 c_v0 y0.words.length cs_v0 :: pc b68 #[vi rr56.1.Kind, vi rr56.1.A, vi rr56.1.B, .slice a65 rr56.1.Kids.length c66, vi q98, vi 0, .bool false] 45 :: pc b53 #[vi 0, vi 0, vi 0, .slice none 0 0, vi 0, vi 0, .bool false] 45 :: R)) ?_ ?_
 ·refine W.block ?_
  refine W.loop (fun m a w => ∃ (rest91 : List ByteArray) (k89 : Nat), ∃ (q98 : Int), rest91.length = m ∧ [q83.f0, q83.f1, q83.f2, q83.f3, q83.f4, q83.f5, q83.f6].drop k89 = rest91 ∧ FareReaderrule_v1.loop1 rr78 rest91 k89 q98 = q88 ∧ Rep a 41 [(0, pp pb0), (2, pp b53), (3, pp b68), (4, .string rr78.1), (14, .agg (Ar7str.cells q83).toArray), (15, vi ((k89 : Nat) : Int))] ∧ St w s63 (pc pb0 #[.slice a_v0 y0.words.length c_v0, vi rr78.2] 89 :: vecC 9 1 a_v0 c_v0 y0.words.length cs_v0 :: pc b68 #[vi rr56.1.Kind, vi rr56.1.A, vi rr56.1.B, .slice a65 rr56.1.Kids.length c66, vi q98, vi 0, .bool false] 45 :: pc b53 #[vi 0, vi 0, vi 0, .slice none 0 0, vi 0, vi 0, .bool false] 45 :: R)) (m := [q83.f0, q83.f1, q83.f2, q83.f3, q83.f4, q83.f5, q83.f6].length) ⟨[q83.f0, q83.f1, q83.f2, q83.f3, q83.f4, q83.f5, q83.f6], 0, 0, rfl, rfl, hq87, hE.pick _ ⟨rfl, rfl, rfl, rfl, rfl, rfl, trivial⟩, hS⟩ ?_
  clear hE hS a w hq87; rintro m95 a w ⟨rest91, k89, q98, rfl, hd92, hq87, hE, hS⟩
  refine W.gen fun K99 hK99 => ?_
  rcases rest91 with _ | ⟨x90, rest91⟩
  ·have hlt93 : 7 ≤ k89 := drop_nil hd92
   refine W.seq (W.region (vp hS hE rfl rfl fun a hE => WL.nil ?_))
   refine W.seq ?_
   refine W.condF hE rfl (decide_eq_false (by omega)) ?_
   subst hK99
   refine W.exit rfl ?_
   exact ⟨q98, hq87, hE.pick _ ⟨rfl, rfl, rfl, trivial⟩, hS⟩
  obtain ⟨hlt93, hx94, hd92⟩ := drop_cons hd92
  replace hlt93 : k89 < 7 := hlt93
  rw [FareReaderrule_v1.loop1] at hq87
  refine W.seq (W.region (vp hS hE rfl rfl fun a hE => WL.nil ?_))
  refine W.seq ?_
  refine W.condT hE rfl (decide_eq_true (by omega)) ?_
  refine W.skip ?_
  refine W.seq ?_
  refine W.block ?_
  refine W.seq (W.region (vp hS hE rfl rfl fun a hE => ?_))
  refine vP hS hE (Gives.indexM hE (f := Value.string) (l := [q83.f0, q83.f1, q83.f2, q83.f3, q83.f4, q83.f5, q83.f6]) (k := k89) ar76 rfl rfl rfl rfl hx94) rfl fun a hE => ?_
  refine v2 hS hE rfl rfl rfl rfl fun a hE => WL.nil ?_
  refine W.seq ?_
  obtain ⟨q101, hq100, hq87⟩ := bndS hq87
  refine W.cut (fun a w => ∃ (q104 : Bool), q104 = q101 ∧ Rep a 41 [(0, pp pb0), (2, pp b53), (3, pp b68), (4, .string rr78.1), (5, vi ((k89 : Nat) : Int)), (14, .agg (Ar7str.cells q83).toArray), (15, vi ((k89 : Nat) : Int)), (25, .bool q104)] ∧ St w s63 (pc pb0 #[.slice a_v0 y0.words.length c_v0, vi rr78.2] 89 :: vecC 9 1 a_v0 c_v0 y0.words.length cs_v0 :: pc b68 #[vi rr56.1.Kind, vi rr56.1.A, vi rr56.1.B, .slice a65 rr56.1.Kids.length c66, vi q98, vi 0, .bool false] 45 :: pc b53 #[vi 0, vi 0, vi 0, .slice none 0 0, vi 0, vi 0, .bool false] 45 :: R)) ?_ ?_
  ·refine W.gen fun K105 hK105 => ?_
   refine W.region ?_
   refine v2 hS hE rfl rfl rfl rfl fun a hE => ?_
   refine vp hS hE rfl rfl fun a hE => ?_
   rcases Bool.eq_false_or_eq_true (decide (((k89 : Nat) : Int) > 0)) with hg106 | hg106
   ·replace hq100 := iteT hg106 hq100
    refine WL.vS hS hE (runs_if hE rfl rfl rfl hg106) (Gives.p hE rfl) rfl fun a hE => ?_
    refine WL.vS hS hE (runs_if hE rfl rfl rfl hg106) (Gives.p hE rfl) rfl fun a hE => ?_
    refine WL.vS hS hE (runs_if hE rfl rfl rfl hg106) (Gives.eqSt hE rfl rfl) rfl fun a hE => ?_
    refine vP hS hE (Gives.pickT hE rfl hg106 rfl) rfl fun a hE => WL.nil ?_
    subst hK105
    exact ⟨(seq rr78.1 x90), hq100, hE.pick _ ⟨rfl, rfl, rfl, rfl, rfl, rfl, rfl, rfl, trivial⟩, hS⟩
   replace hq100 := iteF hg106 hq100
   refine nO hE rfl rfl rfl (by rw [hg106]; decide) rfl fun a hE => ?_
   refine nO hE rfl rfl rfl (by rw [hg106]; decide) rfl fun a hE => ?_
   refine nO hE rfl rfl rfl (by rw [hg106]; decide) rfl fun a hE => ?_
   refine vP hS hE (Gives.pickF hE rfl hg106 rfl) rfl fun a hE => WL.nil ?_
   subst hK105
   exact ⟨false, hq100, hE.pick _ ⟨rfl, rfl, rfl, rfl, rfl, rfl, rfl, rfl, trivial⟩, hS⟩
  clear hE hS a w; rintro a w ⟨q104, rfl, hE, hS⟩
  obtain ⟨q108, hq107, hq87⟩ := bndS hq87
  refine W.cut (fun a w => ∃ (q111 : Int), q111 = q108 ∧ Rep a 41 [(0, pp pb0), (2, pp b53), (3, pp b68), (4, .string rr78.1), (14, .agg (Ar7str.cells q83).toArray), (15, vi ((k89 : Nat) : Int))] ∧ St w s63 (pc pb0 #[.slice a_v0 y0.words.length c_v0, vi rr78.2] 89 :: vecC 9 1 a_v0 c_v0 y0.words.length cs_v0 :: pc b68 #[vi rr56.1.Kind, vi rr56.1.A, vi rr56.1.B, .slice a65 rr56.1.Kids.length c66, vi q111, vi 0, .bool false] 45 :: pc b53 #[vi 0, vi 0, vi 0, .slice none 0 0, vi 0, vi 0, .bool false] 45 :: R)) ?_ ?_
  ·refine W.gen fun K112 hK112 => ?_
   refine W.cond hE rfl (fun hc113 => ?_) (fun hc113 => ?_)
   ·replace hq107 := iteT hc113 hq107
    refine W.region ?_
    refine vp hS hE rfl rfl fun a hE => ?_
    refine vP hS hE (Gives.fld hE rfl fl45_1) rfl fun a hE => ?_
    refine WL.storeI hE hS 2 rfl [vi rr56.1.Kind, vi rr56.1.A, vi rr56.1.B, .slice a65 rr56.1.Kids.length c66, vi ((k89 : Nat) : Int), vi 0, .bool false] (runs_plain rfl) rfl rfl rfl ty3 rfl rfl rfl rfl ?_; clear hE hS a w; intro a w hE hS
    refine WL.nil ?_
    subst hK112
    exact ⟨((k89 : Nat) : Int), hq107, hE.pick _ ⟨rfl, rfl, rfl, rfl, rfl, rfl, trivial⟩, hS⟩
   replace hq107 := iteF hc113 hq107
   refine W.skip ?_
   subst hK112
   exact ⟨q98, hq107, hE.pick _ ⟨rfl, rfl, rfl, rfl, rfl, rfl, trivial⟩, hS⟩
  clear hE hS a w; rintro a w ⟨q111, rfl, hE, hS⟩
  refine W.region ?_
  refine vP hS hE (Gives.inc hE rfl (by omega)) rfl fun a hE => ?_
  refine vp hS hE rfl rfl fun a hE => WL.nil ?_
  subst hK99
  exact ⟨rest91.length, Nat.lt_succ_self _, rest91, k89 + 1, q111, rfl, hd92, hq87, hE.pick _ ⟨rfl, rfl, rfl, rfl, rfl, rfl, trivial⟩, hS⟩
 clear hE hS a w; rintro a w ⟨q98, rfl, hE, hS⟩
 refine W.seq ?_
 refine W.seq (W.region (vP hS hE (Gives.fld hE rfl fl45_1) rfl fun a hE => ?_))
 refine vP hS hE (Gives.loadB hE 2 rfl rfl rfl ty3) rfl fun a hE => ?_
 refine vp hS hE rfl rfl fun a hE => WL.nil ?_
 refine W.cond hE rfl (fun hc114 => ?_) (fun hc114 => ?_)
 ·replace hr := iteT hc114 hr
  refine W.region ?_
  refine vP hS hE (Gives.build hE (vs := []) [] rfl (by kernel_rfl)) rfl fun a hE => ?_
  refine vP hS hE (Gives.iface hE rfl ifc54) rfl fun a hE => ?_
  refine WL.panic hE rfl (runs_plain rfl) fun a hE => ?_
  refine ⟨hE.defers.trans rfl, ?_⟩
  obtain rfl := Option.some.inj hr
  replace hS := hS.tail
  replace hS := hS.tail
  replace hS := hS.tail
  replace hS := hS.tail
  exact .inl ⟨rfl, rfl, s63, hle64, hS⟩
 replace hr := iteF hc114 hr
 refine W.skip ?_
 refine W.seq (W.region (vp hS hE rfl rfl fun a hE => ?_))
 obtain ⟨q115, hq116, hr⟩ := bindS hr
 have hc_ := FareReadernumber_v1_ok (y0 := (FareReader.mk y0.words rr78.2)) hS (TabG.mono hle64 hTab) h_v0 (rfl) hq116
 refine WL.fnP hE (hc_) (runs_plain rfl) bd42 rfl rfl rfl ?_
 clear hE hS hc_; rintro e w (⟨hz118, rfl, t120, hle121, hS⟩ | ⟨rr117, hz119, rfl, hS⟩)
 ·refine .inr ⟨_, rfl, ?_⟩; clear a; intro a hE
  rw [hz118] at hr; dsimp only at hr
  replace hS := hS.down hle121
  refine ⟨hE.defers.trans rfl, ?_⟩
  obtain rfl := Option.some.inj hr
  replace hS := hS.tail
  replace hS := hS.tail
  exact .inl ⟨rfl, rfl, s63, hle64, hS⟩
 refine .inl ⟨_, rfl, ?_⟩; clear a; intro a hE
 rw [hz119] at hr; dsimp only at hr
 refine vP hS hE (Gives.fld hE rfl fl45_2) rfl fun a hE => ?_
 refine WL.storeI hE hS 2 rfl [vi rr56.1.Kind, vi rr56.1.A, vi rr56.1.B, .slice a65 rr56.1.Kids.length c66, vi q98, vi rr117.1, .bool false] (runs_plain rfl) rfl rfl rfl ty3 rfl rfl rfl rfl ?_; clear hE hS a w; intro a w hE hS
 refine WL.nil ?_
 refine W.seq (W.region (vp hS hE rfl rfl fun a hE => ?_))
 obtain ⟨q122, hq123, hr⟩ := bindS hr
 have hc_ := FareReadertake_v1_ok (y0 := (FareReader.mk y0.words rr117.2)) hS h_v0 (rfl) hq123
 refine WL.fnq hE (hc_) (runs_plain rfl) bd40 rfl rfl rfl ?_
 clear hE hS hc_; rintro e w ⟨rfl, hS⟩; refine ⟨_, rfl, ?_⟩; clear a; intro a hE
 refine vP hS hE (Gives.fld hE rfl fl45_3) rfl fun a hE => ?_
 refine WL.storeI hE hS 2 rfl [vi rr56.1.Kind, vi rr56.1.A, vi rr56.1.B, .slice a65 rr56.1.Kids.length c66, vi q98, vi rr117.1, .bool q122.1] (runs_plain rfl) rfl rfl rfl ty4 rfl rfl rfl rfl ?_; clear hE hS a w; intro a w hE hS
 refine WL.nil ?_
 refine W.seq (W.region (vP hS hE (Gives.loadBA hE 2 rfl rfl ty45) rfl fun a hE => ?_))
 refine WL.storeI hE hS 3 rfl [vi rr56.1.Kind, vi rr56.1.A, vi rr56.1.B, .slice a65 rr56.1.Kids.length c66, vi q98, vi rr117.1, .bool q122.1] (runs_plain rfl) rfl rfl rfl ty45 rfl rfl rfl rfl ?_; clear hE hS a w; intro a w hE hS
 refine WL.nil ?_
 refine W.ret ?_
 refine finG (fn := Tryz.f43) (rs := [.cell 2 45]) (vs := [_]) hE rfl ⟨⟨_, rfl, .inl ⟨_, rfl, hS.seesAt 3 rfl, ty45⟩⟩, trivial⟩ ?_
 obtain rfl := Option.some.inj hr
 replace hS := hS.dropAt 2
 replace hS := hS.dropAt 2
 exact .inr ⟨_, rfl, ⟨_, s63, rfl, hle64, ⟨_, _, rfl, h67⟩, hS⟩⟩
set_option maxHeartbeats 8000000 in
theorem FareCondtext_1_v3_ok  {self_FareCondtext : FareCond → Option ByteArray} (ih_FareCondtext : ∀ {w : World} {s : Sg} {R : List HP} {x0 : FareCond} {a0_0 : Option Addr} {c0_0 : Nat} (_hS : St w s (R)) (_hTab : TabX s) (_h0_0 : Sl 4 RFareCond s a0_0 c0_0 x0.Kids) {r : ByteArray} (_hr : self_FareCondtext x0 = some r), Calls Tryz.prog 30 [.agg (List.toArray [vi x0.Kind, vi x0.A, vi x0.B, .slice a0_0 x0.Kids.length c0_0])].toArray w (fun e w => e = .returned (.string r) ∧ St w s (R))) {w : World} {s : Sg} {R : List HP} {pb0 : Nat} {x0 : FareCond} {a0_0 : Option Addr} {c0_0 : Nat} {y0 : FareCond} {a_y0_3 : Option Addr} {c_y0_3 : Nat} (hS : St w s (pc pb0 #[vi y0.Kind, vi y0.A, vi y0.B, .slice a_y0_3 y0.Kids.length c_y0_3] 43 :: R)) (hTab : TabX s) (h0_0 : Sl 4 RFareCond s a0_0 c0_0 x0.Kids) (_h_y0_3 : Sl 4 RFareCond s a_y0_3 c_y0_3 y0.Kids) {r : ByteArray} (hr : FareCondtext_1_v3 self_FareCondtext x0 y0 = some r) :
  Calls Tryz.prog 55 [.agg (List.toArray [vi x0.Kind, vi x0.A, vi x0.B, .slice a0_0 x0.Kids.length c0_0]), pp pb0].toArray w (fun e w => e = .returned (.string r) ∧ St w s (pc pb0 #[vi y0.Kind, vi y0.A, vi y0.B, .slice a_y0_3 y0.Kids.length c_y0_3] 43 :: R)) := by
 refine enter Tryz.func55 rfl rfl rfl fun a hE => ?_
 rw [FareCondtext_1_v3] at hr
 refine W.seq (W.region ?_)
 refine WL.box hE hS (runs_plain rfl) rfl rfl rfl ?_; clear hE hS a w; intro b51 a w hE hS
 refine vp hS hE rfl rfl fun a hE => WL.nil ?_
 refine W.seq (W.region (vP hS hE (Gives.loadBA hE 0 rfl rfl ty43) rfl fun a hE => ?_))
 obtain ⟨q52, hq53, hr⟩ := bindS hr
 have hc_ := ih_FareCondtext hS (TabG.mono (Sg.Le.refl _) hTab) h0_0 hq53
 refine WL.fnq hE (hc_) (runs_plain rfl) bd30 rfl rfl rfl ?_
 clear hE hS hc_; rintro e w ⟨rfl, hS⟩; refine ⟨_, rfl, ?_⟩; clear a; intro a hE
 refine vp hS hE rfl rfl fun a hE => WL.nil ?_
 refine W.seq ?_
 refine W.seq ?_
 obtain ⟨q55, hq54, hr⟩ := bndS hr
 refine W.cut (fun a w => ∃ (q58 : Bool), q58 = q55 ∧ Rep a 24 [(4, .string q52), (19, .bool q58)] ∧ St w s (pc b51 #[vi x0.Kind, vi x0.A, vi x0.B, .slice a0_0 x0.Kids.length c0_0] 43 :: pc pb0 #[vi y0.Kind, vi y0.A, vi y0.B, .slice a_y0_3 y0.Kids.length c_y0_3] 43 :: R)) ?_ ?_
 ·refine W.gen fun K59 hK59 => ?_
  refine W.region ?_
  refine vP hS hE (Gives.fld hE rfl fl43_0) rfl fun a hE => ?_
  refine vP hS hE (Gives.loadB hE 0 rfl rfl rfl ty3) rfl fun a hE => ?_
  refine v2 hS hE rfl rfl rfl rfl fun a hE => ?_
  rcases Bool.eq_false_or_eq_true (x0.Kind == 10) with hg60 | hg60
  ·replace hq54 := iteT hg60 hq54
   refine WL.vS hS hE (runs_if hE rfl rfl rfl hg60) (Gives.fld hE rfl fl43_0) rfl fun a hE => ?_
   refine WL.vS hS hE (runs_if hE rfl rfl rfl hg60) (Gives.loadB hE 1 rfl rfl rfl ty3) rfl fun a hE => ?_
   refine WL.vS hS hE (runs_if hE rfl rfl rfl hg60) (Gives.p hE rfl) rfl fun a hE => ?_
   refine vP hS hE (Gives.pickT hE rfl hg60 rfl) rfl fun a hE => ?_
   refine vp hS hE rfl rfl fun a hE => ?_
   rcases Bool.eq_false_or_eq_true (y0.Kind != 11) with hg61 | hg61
   ·replace hq54 := iteT hg61 hq54
    refine nO hE rfl rfl rfl (by rw [hg61]; decide) rfl fun a hE => ?_
    refine nO hE rfl rfl rfl (by rw [hg61]; decide) rfl fun a hE => ?_
    refine nO hE rfl rfl rfl (by rw [hg61]; decide) rfl fun a hE => ?_
    refine vP hS hE (Gives.pickT hE rfl hg61 rfl) rfl fun a hE => WL.nil ?_
    subst hK59
    exact ⟨true, hq54, hE.pick _ ⟨rfl, rfl, trivial⟩, hS⟩
   replace hq54 := iteF hg61 hq54
   refine WL.vS hS hE (runs_if hE rfl rfl rfl hg61) (Gives.fld hE rfl fl43_0) rfl fun a hE => ?_
   refine WL.vS hS hE (runs_if hE rfl rfl rfl hg61) (Gives.loadB hE 0 rfl rfl rfl ty3) rfl fun a hE => ?_
   refine WL.vS hS hE (runs_if hE rfl rfl rfl hg61) (Gives.p hE rfl) rfl fun a hE => ?_
   refine vP hS hE (Gives.pickF hE rfl hg61 rfl) rfl fun a hE => WL.nil ?_
   subst hK59
   exact ⟨(x0.Kind == 11), hq54, hE.pick _ ⟨rfl, rfl, trivial⟩, hS⟩
  replace hq54 := iteF hg60 hq54
  refine nO hE rfl rfl rfl (by rw [hg60]; decide) rfl fun a hE => ?_
  refine nO hE rfl rfl rfl (by rw [hg60]; decide) rfl fun a hE => ?_
  refine nO hE rfl rfl rfl (by rw [hg60]; decide) rfl fun a hE => ?_
  refine vP hS hE (Gives.pickF hE rfl hg60 rfl) rfl fun a hE => ?_
  refine vp hS hE rfl rfl fun a hE => ?_
  refine WL.vS hS hE (runs_if hE rfl rfl rfl rfl) (Gives.fld hE rfl fl43_0) rfl fun a hE => ?_
  refine WL.vS hS hE (runs_if hE rfl rfl rfl rfl) (Gives.loadB hE 0 rfl rfl rfl ty3) rfl fun a hE => ?_
  refine WL.vS hS hE (runs_if hE rfl rfl rfl rfl) (Gives.p hE rfl) rfl fun a hE => ?_
  refine vP hS hE (Gives.pickF hE rfl rfl rfl) rfl fun a hE => WL.nil ?_
  subst hK59
  exact ⟨(x0.Kind == 11), hq54, hE.pick _ ⟨rfl, rfl, trivial⟩, hS⟩
 clear hE hS a w; rintro a w ⟨q58, rfl, hE, hS⟩
 refine W.cond hE rfl (fun hc62 => ?_) (fun hc62 => ?_)
 ·replace hr := iteT hc62 hr
  refine W.seq (W.region (vp hS hE rfl rfl fun a hE => ?_))
  obtain ⟨x63, hx64, hr⟩ := bindS hr
  refine vP hS hE (Gives.catS hE rfl rfl hx64) rfl fun a hE => ?_
  obtain ⟨x65, hx66, hr⟩ := bindS hr
  refine vP hS hE (Gives.catS hE rfl rfl hx66) rfl fun a hE => ?_
  refine vp hS hE rfl rfl fun a hE => WL.nil ?_
  refine W.ret ?_
  refine finG (fn := Tryz.f55) (rs := [.tmp 3]) (vs := [_]) hE rfl ⟨rfl, trivial⟩ ?_
  obtain rfl := Option.some.inj hr
  replace hS := hS.tail
  exact ⟨rfl, hS⟩
 replace hr := iteF hc62 hr
 refine W.skip ?_
 refine W.seq (W.region (v2 hS hE rfl rfl rfl rfl fun a hE => WL.nil ?_))
 refine W.ret ?_
 refine finG (fn := Tryz.f55) (rs := [.tmp 3]) (vs := [_]) hE rfl ⟨rfl, trivial⟩ ?_
 obtain rfl := Option.some.inj hr
 replace hS := hS.tail
 exact ⟨rfl, hS⟩
set_option maxHeartbeats 8000000 in
theorem FareCondtext_ok : ∀ {fu : Nat} {w : World} {s : Sg} {R : List HP} {x0 : FareCond} {a0_0 : Option Addr} {c0_0 : Nat} (_hS : St w s (R)) (_hTab : TabX s) (_h0_0 : Sl 4 RFareCond s a0_0 c0_0 x0.Kids) {r : ByteArray} (_hr : FareCondtext fu x0 = some r),
  Calls Tryz.prog 30 [.agg (List.toArray [vi x0.Kind, vi x0.A, vi x0.B, .slice a0_0 x0.Kids.length c0_0])].toArray w (fun e w => e = .returned (.string r) ∧ St w s (R)) := by
 intro fu
 induction fu with
 | zero => intro w s R x0 a0_0 c0_0 hS hTab h0_0 r hr; rw [FareCondtext] at hr; exact absurd hr (by simp)
 | succ fu ih_FareCondtext =>
  intro w s R x0 a0_0 c0_0 hS hTab h0_0 r hr
  rw [FareCondtext] at hr
  generalize FareCondtext fu = self_FareCondtext at hr ih_FareCondtext
  refine enter Tryz.func30 rfl rfl rfl fun a hE => ?_
  refine W.seq (W.region ?_)
  refine WL.box hE hS (runs_plain rfl) rfl rfl rfl ?_; clear hE hS a w; intro b51 a w hE hS
  refine vp hS hE rfl rfl fun a hE => WL.nil ?_
  refine W.seq (W.region (vP hS hE (Gives.mkfn hE (vs := [pp b51]) rfl) rfl fun a hE => ?_))
  refine vp hS hE rfl rfl fun a hE => WL.nil ?_
  refine W.seq ?_
  refine W.seq (W.region (vP hS hE (Gives.fld hE rfl fl43_0) rfl fun a hE => ?_))
  refine vP hS hE (Gives.loadB hE 0 rfl rfl rfl ty3) rfl fun a hE => WL.nil ?_
  refine W.block ?_
  refine W.seq (W.region (v2 hS hE rfl rfl rfl rfl fun a hE => WL.nil ?_))
  obtain ⟨q53, hq52, hr⟩ := bindS hr
  refine W.cut (fun a w => .next () = q53 ∧ Rep a 71 [(1, pp b51)] ∧ St w s (pc b51 #[vi x0.Kind, vi x0.A, vi x0.B, .slice a0_0 x0.Kids.length c0_0] 43 :: R)) ?_ ?_
  ·refine W.gen fun K56 hK56 => ?_
   refine W.cond hE rfl (fun hc57 => ?_) (fun hc57 => ?_)
   ·replace hq52 := iteT hc57 hq52
    refine W.seq (W.region (vp hS hE rfl rfl fun a hE => ?_))
    refine vP hS hE (Gives.fld hE rfl fl43_3) rfl fun a hE => ?_
    refine vP hS hE (Gives.loadB hE 0 rfl rfl rfl ty41) rfl fun a hE => ?_
    obtain ⟨x58, hx59, hq52⟩ := bindS hq52
    obtain ⟨hi60, hlt61, hy62⟩ := gx_some hx59
    obtain ⟨cs63, hl64, hR65, hat66⟩ := h0_0.at hy62
    obtain ⟨a67, c68, rfl, h69⟩ := hR65.unf
    refine vP hS hE (Gives.idx hE ((0 : Int)).toNat rfl rfl sl41 hi60 hlt61 (h0_0.aok hlt61)) rfl fun a hE => ?_
    refine vP hS hE (Gives.loadA hE rfl (fun w h => hat66 w _ h) ty43) rfl fun a hE => ?_
    obtain ⟨q70, hq71, hq52⟩ := bindS hq52
    have hc_ := FareCondtext_1_v3_ok (y0 := x0) @ih_FareCondtext hS (TabG.mono (Sg.Le.refl _) hTab) h69 h0_0 hq71
    refine WL.fnw hE (hc_) rfl (runs_plain rfl) bd55 rfl rfl rfl ?_
    clear hE hS hc_; rintro e w ⟨rfl, hS⟩; refine ⟨_, rfl, ?_⟩; clear a; intro a hE
    obtain ⟨x72, hx73, hq52⟩ := bindS hq52
    refine vP hS hE (Gives.catS hE rfl rfl hx73) rfl fun a hE => ?_
    refine vp hS hE rfl rfl fun a hE => WL.nil ?_
    refine W.ret ?_
    subst hK56
    rw [← Option.some.inj hq52] at hr
    dsimp only at hr
    refine finG (fn := Tryz.f30) (rs := [.tmp 2]) (vs := [_]) hE rfl ⟨rfl, trivial⟩ ?_
    obtain rfl := Option.some.inj hr
    replace hS := hS.tail
    exact ⟨rfl, hS⟩
   replace hq52 := iteF hc57 hq52
   refine W.seq ?_
   refine W.seq (W.region (v2 hS hE rfl rfl rfl rfl fun a hE => WL.nil ?_))
   obtain ⟨q75, hq74, hq52⟩ := bndS hq52
   refine W.cut (fun a w => ∃ (q78 : Bool), q78 = q75 ∧ Rep a 71 [(1, pp b51), (3, .func (.func 55) #[] #[pp b51]), (22, .bool q78)] ∧ St w s (pc b51 #[vi x0.Kind, vi x0.A, vi x0.B, .slice a0_0 x0.Kids.length c0_0] 43 :: R)) ?_ ?_
   ·refine W.gen fun K79 hK79 => ?_
    refine W.cond hE rfl (fun hc80 => ?_) (fun hc80 => ?_)
    ·replace hq74 := iteT hc80 hq74
     refine W.skip ?_
     subst hK79
     exact ⟨(x0.Kind == 10), hq74, hE.pick _ ⟨rfl, rfl, rfl, trivial⟩, hS⟩
    replace hq74 := iteF hc80 hq74
    refine W.region ?_
    refine v2 hS hE rfl rfl rfl rfl fun a hE => WL.nil ?_
    subst hK79
    exact ⟨(x0.Kind == 11), hq74, hE.pick _ ⟨rfl, rfl, rfl, trivial⟩, hS⟩
   clear hE hS a w; rintro a w ⟨q78, rfl, hE, hS⟩
   refine W.cond hE rfl (fun hc81 => ?_) (fun hc81 => ?_)
   ·replace hq52 := iteT hc81 hq52
    refine W.seq (W.region ?_)
    replace hS := hS.vecNil 9 1
    refine vp hS hE rfl rfl fun a hE => WL.nil ?_
    refine W.seq ?_
    refine W.seq (W.region (vP hS hE (Gives.fld hE rfl fl43_3) rfl fun a hE => ?_))
    refine vP hS hE (Gives.loadB hE 1 rfl rfl rfl ty41) rfl fun a hE => ?_
    refine vP hS hE (Gives.len hE rfl sl41) rfl fun a hE => ?_
    refine vp hS hE rfl rfl fun a hE => WL.nil ?_
    obtain ⟨q84, hq83, hq52⟩ := bindS hq52
    refine W.cut (fun a w => ∃ (q94 : List ByteArray), ∃ (a95 : Option Addr), ∃ (c96 : Nat), ∃ (n98 : Nat), ∃ (cs99 : List Value), q94 = q84 ∧ Ev 1 RS s cs99 q94 ∧ q94.length = n98 ∧ Rep a 71 [(1, pp b51), (4, .slice a95 n98 c96)] ∧ St w s (vecC 9 1 a95 c96 n98 cs99 :: pc b51 #[vi x0.Kind, vi x0.A, vi x0.B, .slice a0_0 x0.Kids.length c0_0] 43 :: R)) ?_ ?_
    ·refine W.block ?_
     refine W.loop (fun m a w => ∃ (rest87 : List FareCond) (k85 : Nat), ∃ (q94 : List ByteArray), ∃ (a95 : Option Addr), ∃ (c96 : Nat), ∃ (n98 : Nat), ∃ (cs99 : List Value), rest87.length = m ∧ x0.Kids.drop k85 = rest87 ∧ FareCondtext.loop1 x0 self_FareCondtext rest87 q94 = some q84 ∧ Ev 1 RS s cs99 q94 ∧ q94.length = n98 ∧ Rep a 71 [(1, pp b51), (3, .func (.func 55) #[] #[pp b51]), (4, .slice a95 n98 c96), (26, .slice a0_0 x0.Kids.length c0_0), (27, vi ((x0.Kids).length : Int)), (28, vi ((k85 : Nat) : Int))] ∧ St w s (vecC 9 1 a95 c96 n98 cs99 :: pc b51 #[vi x0.Kind, vi x0.A, vi x0.B, .slice a0_0 x0.Kids.length c0_0] 43 :: R)) (m := x0.Kids.length) ⟨x0.Kids, 0, [], none, 0, 0, [], rfl, rfl, hq83, (Ev.nil), (rfl), hE.pick _ ⟨rfl, rfl, rfl, rfl, rfl, rfl, trivial⟩, hS⟩ ?_
     clear hE hS a w hq83; rintro m91 a w ⟨rest87, k85, q94, a95, c96, n98, cs99, rfl, hd88, hq83, h97, rfl, hE, hS⟩
     refine W.gen fun K101 hK101 => ?_
     rcases rest87 with _ | ⟨x86, rest87⟩
     ·have hlt89 := drop_nil hd88
      refine W.seq (W.region (vp hS hE rfl rfl fun a hE => WL.nil ?_))
      refine W.seq ?_
      refine W.condF hE rfl (decide_eq_false (by omega)) ?_
      subst hK101
      refine W.exit rfl ?_
      exact ⟨q94, a95, c96, q94.length, cs99, Option.some.inj hq83, h97, rfl, hE.pick _ ⟨rfl, rfl, trivial⟩, hS⟩
     obtain ⟨hlt89, hx90, hd88⟩ := drop_cons hd88
     rw [FareCondtext.loop1] at hq83
     refine W.seq (W.region (vp hS hE rfl rfl fun a hE => WL.nil ?_))
     refine W.seq ?_
     refine W.condT hE rfl (decide_eq_true (by omega)) ?_
     refine W.skip ?_
     refine W.seq ?_
     refine W.block ?_
     refine W.seq (W.region ?_)
     obtain ⟨cs102, hl103, hR104, hat105⟩ := h0_0.at hx90
     obtain ⟨a106, c107, rfl, h108⟩ := hR104.unf
     refine vP hS hE (Gives.idx hE k85 rfl rfl sl41 rfl hlt89 (h0_0.aok hlt89)) rfl fun a hE => ?_
     refine vP hS hE (Gives.loadA hE rfl (fun w h => hat105 w _ h) ty43) rfl fun a hE => ?_
     refine WL.alloc hE hS (runs_plain rfl) zr43 rfl ?_; clear hE hS a w; intro b109 a w hE hS
     refine WL.storeI hE hS 0 rfl [vi x86.Kind, vi x86.A, vi x86.B, .slice a106 x86.Kids.length c107] (runs_plain rfl) rfl rfl rfl ty43 rfl rfl rfl rfl ?_; clear hE hS a w; intro a w hE hS
     refine WL.nil ?_
     refine W.region ?_
     refine v2 hS hE rfl rfl rfl rfl fun a hE => ?_
     refine vP hS hE (Gives.loadBA hE 0 rfl rfl ty43) rfl fun a hE => ?_
     obtain ⟨q110, hq111, hq83⟩ := bindS hq83
     replace hS := hS.front 2 rfl
     have hc_ := FareCondtext_1_v3_ok (y0 := x0) @ih_FareCondtext hS (TabG.mono (Sg.Le.refl _) hTab) h108 h0_0 hq111
     refine WL.fnw hE (hc_) rfl (runs_plain rfl) bd55 rfl rfl rfl ?_
     clear hE hS hc_; rintro e w ⟨rfl, hS⟩; refine ⟨_, rfl, ?_⟩; clear a; intro a hE
     refine WL.lit hE hS (e := 9) (es := 1) (vs := [(0, .string q110)]) (cs := [.string q110]) (runs_plain rfl) rfl (by kernel_rfl) rfl ?_; clear hE hS a w; intro b112 a w hE hS
     obtain ⟨x113, hx114, hq83⟩ := bindS hq83
     refine WL.appD hE hS 2 (m := 1) (runs_plain rfl) rfl rfl rfl ap59 rfl h97 rfl (xs := [q110]) (Ev.cons (c1 := [.string q110]) rfl rfl (Ev.nil)) rfl rfl hx114 rfl ?_; clear hE hS a w; intro a115 c116 cs117 a w h118 hE hS
     refine vp hS hE rfl rfl fun a hE => WL.nil ?_
     refine W.region ?_
     refine vP hS hE (Gives.inc hE rfl (by have := h0_0.small; omega)) rfl fun a hE => ?_
     refine vp hS hE rfl rfl fun a hE => WL.nil ?_
     replace hS := hS.dropAt 1
     replace hS := hS.front 1 rfl
     subst hK101
     exact ⟨rest87.length, Nat.lt_succ_self _, rest87, k85 + 1, x113, a115, c116, x113.length, cs117, rfl, hd88, hq83, h118, (rfl), hE.pick _ ⟨rfl, rfl, rfl, rfl, rfl, rfl, trivial⟩, hS⟩
    clear hE hS a w; rintro a w ⟨q94, a95, c96, n98, cs99, rfl, h97, rfl, hE, hS⟩
    refine W.seq (W.region (vp hS hE rfl rfl fun a hE => ?_))
    refine WL.mkMap (fk := keyI.f) (fv := Value.string) hE hS (runs_plain rfl) rfl ?_; clear hE hS a w; intro b119 a w hE hS
    refine WL.mapSet keyI hE hS 0 (k := 10) (v := (str [32, 97, 110, 100, 32])) (.inr rfl) (runs_plain rfl) rfl rfl rfl rfl mp105 rfl ?_; clear hE hS a w; intro a w hE hS
    refine WL.mapSet keyI hE hS 0 (k := 11) (v := (str [32, 111, 114, 32])) (.inr rfl) (runs_plain rfl) rfl rfl rfl rfl mp105 rfl ?_; clear hE hS a w; intro a w hE hS
    refine vp hS hE rfl rfl fun a hE => ?_
    refine vP hS hE (Gives.fld hE rfl fl43_0) rfl fun a hE => ?_
    refine vP hS hE (Gives.loadB hE 2 rfl rfl rfl ty3) rfl fun a hE => ?_
    refine vP hS hE (Gives.mapGet keyI hE 0 (k := x0.Kind) (z := ByteArray.empty) rfl rfl rfl mp105 zm9) rfl fun a hE => ?_
    have hF := hS.fixD RS.mono 1 rfl h97 rfl; clear hS; obtain ⟨s122, hle123, hS, h124⟩ := hF
    replace h0_0 := Sl.mono RFareCond.mono hle123 h0_0
    obtain ⟨q120, hq121, hq52⟩ := bindS hq52
    refine WL.fnq hE (join_ok hS h124 hq121) (runs_plain rfl) bd46 rfl rfl rfl ?_
    clear hE hS; rintro e w ⟨rfl, hS⟩; refine ⟨_, rfl, ?_⟩; clear a; intro a hE
    refine vp hS hE rfl rfl fun a hE => WL.nil ?_
    refine W.ret ?_
    subst hK56
    rw [← Option.some.inj hq52] at hr
    dsimp only at hr
    refine finG (fn := Tryz.f30) (rs := [.tmp 2]) (vs := [_]) hE rfl ⟨rfl, trivial⟩ ?_
    obtain rfl := Option.some.inj hr
    replace hS := hS.tail
    replace hS := hS.tail
    exact ⟨rfl, (hS.down hle123)⟩
   replace hq52 := iteF hc81 hq52
   refine W.skip ?_
   subst hK56
   exact ⟨Option.some.inj hq52, hE.pick _ ⟨rfl, trivial⟩, hS⟩
  clear hE hS a w; rintro a w ⟨rfl, hE, hS⟩
  dsimp only at hr
  refine W.seq ?_
  refine W.gen fun K125 hK125 => ?_
  refine rE hS [] [] [0, 1, 2, 3, 4] [0, 1, 2, 3, 4] mixed ?_
  replace hS := hS.drew
  refine tP (i := 1) hE rfl (by kernel_rfl) (Gives.fld hE rfl fl43_0) rfl hS hS fun a hE => ?_
  refine tT (i := 2) true rfl hE rfl (by kernel_rfl) (Gives.loadB hE 0 rfl rfl rfl ty3) rfl hS hS fun a hE => ?_
  refine Rg.one (i := 0) true true rfl (by kernel_rfl) (by kernel_rfl) (by kernel_rfl) ?_
  obtain ⟨q126, hq127, hr⟩ := bndS hr
  have hc_ := Farenames_ok hS  hq127
  refine WL.fnq hE (hc_) (runs_plain rfl) bd56 rfl rfl rfl ?_
  clear hE hS hc_; rintro e w ⟨cs128, rfl, h129, hS⟩; refine ⟨_, rfl, ?_⟩; clear a; intro a hE
  subst h129
  refine WL.nil ?_
  refine ⟨⟨fun _ => hS, fun _ => hS⟩, ?_⟩
  obtain ⟨x130, hx131, hr⟩ := bindS hr
  obtain ⟨hi132, hlt133, hy134⟩ := gx_some hx131
  refine tP (i := 3) hE rfl (by kernel_rfl) (Gives.indexMi hE (f := Value.string) (l := [q126.f0, q126.f1, q126.f2, q126.f3, q126.f4, q126.f5, q126.f6, q126.f7, q126.f8, q126.f9]) ar106 rfl rfl rfl rfl hi132 hy134) rfl hS hS fun a hE => ?_
  refine tP (i := 4) hE rfl (by kernel_rfl) (Gives.p hE rfl) rfl hS hS fun a hE => ?_
  refine Rg.done (by kernel_rfl) ?_
  subst hK125
  refine W.seq ?_
  refine W.seq (W.region (vP hS hE (Gives.fld hE rfl fl43_1) rfl fun a hE => ?_))
  refine vP hS hE (Gives.loadB hE 0 rfl rfl rfl ty3) rfl fun a hE => ?_
  refine vP hS hE (Gives.fld hE rfl fl43_2) rfl fun a hE => ?_
  refine vP hS hE (Gives.loadB hE 0 rfl rfl rfl ty3) rfl fun a hE => ?_
  refine vP hS hE (Gives.build hE (vs := [(0, vi x0.A), (1, vi x0.B)]) [vi x0.A, vi x0.B] rfl (by kernel_rfl)) rfl fun a hE => ?_
  refine vp hS hE rfl rfl fun a hE => WL.nil ?_
  obtain ⟨q136, hq135, hr⟩ := bindS hr
  refine W.cut (fun a w => ∃ (q146 : ByteArray), q146 = q136 ∧ Rep a 71 [(7, .string q146)] ∧ St w s (pc b51 #[vi x0.Kind, vi x0.A, vi x0.B, .slice a0_0 x0.Kids.length c0_0] 43 :: R)) ?_ ?_
  ·refine W.block ?_
   refine W.loop (fun m a w => ∃ (rest139 : List Int) (k137 : Nat), ∃ (q146 : ByteArray), rest139.length = m ∧ [x0.A, x0.B].drop k137 = rest139 ∧ FareCondtext.loop2 x0 rest139 k137 q146 = some q136 ∧ Rep a 71 [(1, pp b51), (7, .string q146), (54, .agg (List.toArray [vi x0.A, vi x0.B])), (55, vi ((k137 : Nat) : Int))] ∧ St w s (pc b51 #[vi x0.Kind, vi x0.A, vi x0.B, .slice a0_0 x0.Kids.length c0_0] 43 :: R)) (m := [x0.A, x0.B].length) ⟨[x0.A, x0.B], 0, x130, rfl, rfl, hq135, hE.pick _ ⟨rfl, rfl, rfl, rfl, trivial⟩, hS⟩ ?_
   clear hE hS a w hq135; rintro m143 a w ⟨rest139, k137, q146, rfl, hd140, hq135, hE, hS⟩
   refine W.gen fun K147 hK147 => ?_
   rcases rest139 with _ | ⟨x138, rest139⟩
   ·have hlt141 : 2 ≤ k137 := drop_nil hd140
    refine W.seq (W.region (vp hS hE rfl rfl fun a hE => WL.nil ?_))
    refine W.seq ?_
    refine W.condF hE rfl (decide_eq_false (by omega)) ?_
    subst hK147
    refine W.exit rfl ?_
    exact ⟨q146, Option.some.inj hq135, hE.pick _ ⟨rfl, trivial⟩, hS⟩
   obtain ⟨hlt141, hx142, hd140⟩ := drop_cons hd140
   replace hlt141 : k137 < 2 := hlt141
   rw [FareCondtext.loop2] at hq135
   refine W.seq (W.region (vp hS hE rfl rfl fun a hE => WL.nil ?_))
   refine W.seq ?_
   refine W.condT hE rfl (decide_eq_true (by omega)) ?_
   refine W.skip ?_
   refine W.seq ?_
   refine W.block ?_
   refine W.seq (W.region (vp hS hE rfl rfl fun a hE => ?_))
   refine vP hS hE (Gives.indexM hE (f := (Value.int .i64)) (l := [x0.A, x0.B]) (k := k137) ar96 rfl rfl rfl rfl hx142) rfl fun a hE => ?_
   refine v2 hS hE rfl rfl rfl rfl fun a hE => WL.nil ?_
   refine W.seq (W.region (vp hS hE rfl rfl fun a hE => ?_))
   refine vP hS hE (Gives.fld hE rfl fl43_0) rfl fun a hE => ?_
   refine vP hS hE (Gives.loadB hE 0 rfl rfl rfl ty3) rfl fun a hE => ?_
   refine WL.fnq hE (Farenumbers_ok hS  rfl (r := Farenumbers x0.Kind)) (runs_plain rfl) bd57 rfl rfl rfl ?_
   clear hE hS; rintro e w ⟨rfl, hS⟩; refine ⟨_, rfl, ?_⟩; clear a; intro a hE
   refine vp hS hE rfl rfl fun a hE => WL.nil ?_
   obtain ⟨q149, hq148, hq135⟩ := bindS hq135
   refine W.cut (fun a w => ∃ (q152 : ByteArray), q152 = q149 ∧ Rep a 71 [(1, pp b51), (7, .string q152), (54, .agg (List.toArray [vi x0.A, vi x0.B])), (55, vi ((k137 : Nat) : Int))] ∧ St w s (pc b51 #[vi x0.Kind, vi x0.A, vi x0.B, .slice a0_0 x0.Kids.length c0_0] 43 :: R)) ?_ ?_
   ·refine W.gen fun K153 hK153 => ?_
    refine W.cond hE rfl (fun hc154 => ?_) (fun hc154 => ?_)
    ·replace hq148 := iteT hc154 hq148
     refine W.region ?_
     refine v2 hS hE rfl rfl rfl rfl fun a hE => ?_
     obtain ⟨q155, hq156, hq148⟩ := bindS hq148
     refine WL.fnq hE (itoa_ok hS (TabG.mono (Sg.Le.refl _) hTab).tab hq156) (runs_plain rfl) bd20 rfl rfl rfl ?_
     clear hE hS; rintro e w ⟨rfl, hS⟩; refine ⟨_, rfl, ?_⟩; clear a; intro a hE
     obtain ⟨x157, hx158, hq148⟩ := bindS hq148
     refine vP hS hE (Gives.catS hE rfl rfl hx158) rfl fun a hE => ?_
     obtain ⟨x159, hx160, hq148⟩ := bindS hq148
     refine vP hS hE (Gives.catS hE rfl rfl hx160) rfl fun a hE => ?_
     refine vp hS hE rfl rfl fun a hE => WL.nil ?_
     subst hK153
     exact ⟨x159, Option.some.inj hq148, hE.pick _ ⟨rfl, rfl, rfl, rfl, trivial⟩, hS⟩
    replace hq148 := iteF hc154 hq148
    refine W.skip ?_
    subst hK153
    exact ⟨q146, Option.some.inj hq148, hE.pick _ ⟨rfl, rfl, rfl, rfl, trivial⟩, hS⟩
   clear hE hS a w; rintro a w ⟨q152, rfl, hE, hS⟩
   refine W.region ?_
   refine vP hS hE (Gives.inc hE rfl (by omega)) rfl fun a hE => ?_
   refine vp hS hE rfl rfl fun a hE => WL.nil ?_
   subst hK147
   exact ⟨rest139.length, Nat.lt_succ_self _, rest139, k137 + 1, q152, rfl, hd140, hq135, hE.pick _ ⟨rfl, rfl, rfl, rfl, trivial⟩, hS⟩
  clear hE hS a w; rintro a w ⟨q146, rfl, hE, hS⟩
  refine W.seq (W.region (v2 hS hE rfl rfl rfl rfl fun a hE => WL.nil ?_))
  refine W.ret ?_
  refine finG (fn := Tryz.f30) (rs := [.tmp 2]) (vs := [_]) hE rfl ⟨rfl, trivial⟩ ?_
  obtain rfl := Option.some.inj hr
  replace hS := hS.tail
  exact ⟨rfl, hS⟩
set_option maxHeartbeats 8000000 in
theorem FareTarifftext_ok {fu : Nat}  {w : World} {s : Sg} {R : List HP} {x0 : FareTariff} {a0_0 : Option Addr} {c0_0 : Nat} {a0_1 : Option Addr} {c0_1 : Nat} (hS : St w s (R)) (hTab : TabX s) (h0_0 : Sl 2 RFareBand s a0_0 c0_0 x0.Bands) (h0_1 : Sl 7 RFareRule s a0_1 c0_1 x0.Rules) {r : ByteArray} (hr : FareTarifftext fu x0 = some r) :
  Calls Tryz.prog 13 [.agg (List.toArray [.bool x0.ByKm, .slice a0_0 x0.Bands.length c0_0, vi x0.Round, .slice a0_1 x0.Rules.length c0_1])].toArray w (fun e w => e = .returned (.string r) ∧ St w s (R)) := by
 refine enter Tryz.func13 rfl rfl rfl fun a hE => ?_
 rw [FareTarifftext] at hr
 refine W.seq (W.region ?_)
 refine WL.box hE hS (runs_plain rfl) rfl rfl rfl ?_; clear hE hS a w; intro b51 a w hE hS
 refine vp hS hE rfl rfl fun a hE => WL.nil ?_
 refine W.seq (W.region ?_)
 refine WL.alloc hE hS (runs_plain rfl) zr70 rfl ?_; clear hE hS a w; intro b52 a w hE hS
 replace hS := hS.sbNew 5
 refine WL.nil ?_
 refine W.seq (W.region ?_)
 refine WL.mkMap (fk := keyB.f) (fv := Value.string) hE hS (runs_plain rfl) rfl ?_; clear hE hS a w; intro b53 a w hE hS
 refine WL.mapSet keyB hE hS 0 (k := false) (v := (str [122, 111, 110, 101, 115, 10])) (.inr rfl) (runs_plain rfl) rfl rfl rfl rfl mp75 rfl ?_; clear hE hS a w; intro a w hE hS
 refine WL.mapSet keyB hE hS 0 (k := true) (v := (str [107, 109, 10])) (.inr rfl) (runs_plain rfl) rfl rfl rfl rfl mp75 rfl ?_; clear hE hS a w; intro a w hE hS
 refine vp hS hE rfl rfl fun a hE => ?_
 refine vP hS hE (Gives.fld hE rfl fl25_0) rfl fun a hE => ?_
 refine vP hS hE (Gives.loadB hE 2 rfl rfl rfl ty4) rfl fun a hE => ?_
 refine vP hS hE (Gives.mapGet keyB hE 0 (k := x0.ByKm) (z := ByteArray.empty) rfl rfl rfl mp75 zm9) rfl fun a hE => ?_
 replace hS := hS.front 1 rfl
 obtain ⟨q54, hq55, hr⟩ := bindS hr
 refine WL.fnq hE (sbWrite_ok hS hq55) (runs_plain rfl) bd29 rfl rfl rfl ?_
 clear hE hS; rintro e w ⟨rfl, hS⟩; refine ⟨_, rfl, ?_⟩; clear a; intro a hE
 refine WL.nil ?_
 refine W.seq ?_
 refine W.seq (W.region (vP hS hE (Gives.fld hE rfl fl25_1) rfl fun a hE => ?_))
 refine vP hS hE (Gives.loadB hE 2 rfl rfl rfl ty22) rfl fun a hE => ?_
 refine vP hS hE (Gives.len hE rfl sl22) rfl fun a hE => ?_
 refine vp hS hE rfl rfl fun a hE => WL.nil ?_
 obtain ⟨q57, hq56, hr⟩ := bindS hr
 refine W.cut (fun a w => ∃ (q67 : ByteArray), q67 = q57 ∧ Rep a 67 [(1, pp b51), (3, pp b52)] ∧ St w s (sbC 70 5 b52 q67 :: mapC keyB.f Value.string b53 (mput (mput [] false (str [122, 111, 110, 101, 115, 10])) true (str [107, 109, 10])) :: pc b51 #[.bool x0.ByKm, .slice a0_0 x0.Bands.length c0_0, vi x0.Round, .slice a0_1 x0.Rules.length c0_1] 25 :: R)) ?_ ?_
 ·refine W.block ?_
  refine W.loop (fun m a w => ∃ (rest60 : List FareBand) (k58 : Nat), ∃ (q67 : ByteArray), rest60.length = m ∧ x0.Bands.drop k58 = rest60 ∧ FareTarifftext.loop1 rest60 q67 = some q57 ∧ Rep a 67 [(1, pp b51), (3, pp b52), (15, .slice a0_0 x0.Bands.length c0_0), (16, vi ((x0.Bands).length : Int)), (17, vi ((k58 : Nat) : Int))] ∧ St w s (sbC 70 5 b52 q67 :: mapC keyB.f Value.string b53 (mput (mput [] false (str [122, 111, 110, 101, 115, 10])) true (str [107, 109, 10])) :: pc b51 #[.bool x0.ByKm, .slice a0_0 x0.Bands.length c0_0, vi x0.Round, .slice a0_1 x0.Rules.length c0_1] 25 :: R)) (m := x0.Bands.length) ⟨x0.Bands, 0, q54, rfl, rfl, hq56, hE.pick _ ⟨rfl, rfl, rfl, rfl, rfl, trivial⟩, hS⟩ ?_
  clear hE hS a w hq56; rintro m64 a w ⟨rest60, k58, q67, rfl, hd61, hq56, hE, hS⟩
  refine W.gen fun K68 hK68 => ?_
  rcases rest60 with _ | ⟨x59, rest60⟩
  ·have hlt62 := drop_nil hd61
   refine W.seq (W.region (vp hS hE rfl rfl fun a hE => WL.nil ?_))
   refine W.seq ?_
   refine W.condF hE rfl (decide_eq_false (by omega)) ?_
   subst hK68
   refine W.exit rfl ?_
   exact ⟨q67, Option.some.inj hq56, hE.pick _ ⟨rfl, rfl, trivial⟩, hS⟩
  obtain ⟨hlt62, hx63, hd61⟩ := drop_cons hd61
  rw [FareTarifftext.loop1] at hq56
  refine W.seq (W.region (vp hS hE rfl rfl fun a hE => WL.nil ?_))
  refine W.seq ?_
  refine W.condT hE rfl (decide_eq_true (by omega)) ?_
  refine W.skip ?_
  refine W.seq ?_
  refine W.block ?_
  refine W.seq (W.region ?_)
  obtain ⟨cs69, hl70, hR71, hat72⟩ := h0_0.at hx63
  subst hR71
  refine vP hS hE (Gives.idx hE k58 rfl rfl sl22 rfl hlt62 (h0_0.aok hlt62)) rfl fun a hE => ?_
  refine vP hS hE (Gives.loadA hE rfl (fun w h => hat72 w _ h) ty40) rfl fun a hE => ?_
  refine WL.alloc hE hS (runs_plain rfl) zr40 rfl ?_; clear hE hS a w; intro b73 a w hE hS
  refine WL.storeI hE hS 0 rfl (FareBand.cells x59) (runs_plain rfl) rfl rfl rfl ty40 rfl rfl rfl rfl ?_; clear hE hS a w; intro a w hE hS
  refine WL.nil ?_
  refine W.gen fun K74 hK74 => ?_
  refine rE hS [] [1] [0, 1, 2, 3, 4, 5, 6, 7, 8, 9] [0, 1, 2, 3, 4, 5, 6, 7, 8, 9, 10] mixed ?_
  replace hS := hS.drew
  refine tP (i := 0) hE rfl (by kernel_rfl) (Gives.fld hE rfl fl40_0) rfl hS (hS.dropAt 1) fun a hE => ?_
  refine tT (i := 1) false rfl hE rfl (by kernel_rfl) (Gives.loadB hE 0 rfl rfl rfl ty3) rfl hS (hS.dropAt 1) fun a hE => ?_
  refine tP (i := 5) hE rfl (by kernel_rfl) (Gives.fld hE rfl fl40_1) rfl hS (hS.dropAt 1) fun a hE => ?_
  refine tT (i := 6) false rfl hE rfl (by kernel_rfl) (Gives.loadB hE 0 rfl rfl rfl ty3) rfl hS (hS.dropAt 1) fun a hE => ?_
  refine Rg.one (i := 2) true true rfl (by kernel_rfl) (by kernel_rfl) (by kernel_rfl) ?_
  obtain ⟨q75, hq76, hq56⟩ := bindS hq56
  refine WL.fnq hE (itoa_ok hS (TabG.mono (Sg.Le.refl _) hTab).tab hq76) (runs_plain rfl) bd20 rfl rfl rfl ?_
  clear hE hS; rintro e w ⟨rfl, hS⟩; refine ⟨_, rfl, ?_⟩; clear a; intro a hE
  refine WL.nil ?_
  refine ⟨⟨fun _ => hS, fun _ => (hS.dropAt 1)⟩, ?_⟩
  obtain ⟨x77, hx78, hq56⟩ := bindS hq56
  refine tP (i := 3) hE rfl (by kernel_rfl) (Gives.catS hE rfl rfl hx78) rfl hS (hS.dropAt 1) fun a hE => ?_
  obtain ⟨x79, hx80, hq56⟩ := bindS hq56
  refine tP (i := 4) hE rfl (by kernel_rfl) (Gives.catS hE rfl rfl hx80) rfl hS (hS.dropAt 1) fun a hE => ?_
  refine Rg.one (i := 7) true true rfl (by kernel_rfl) (by kernel_rfl) (by kernel_rfl) ?_
  obtain ⟨q81, hq82, hq56⟩ := bindS hq56
  refine WL.fnq hE (itoa_ok hS (TabG.mono (Sg.Le.refl _) hTab).tab hq82) (runs_plain rfl) bd20 rfl rfl rfl ?_
  clear hE hS; rintro e w ⟨rfl, hS⟩; refine ⟨_, rfl, ?_⟩; clear a; intro a hE
  refine WL.nil ?_
  refine ⟨⟨fun _ => hS, fun _ => (hS.dropAt 1)⟩, ?_⟩
  obtain ⟨x83, hx84, hq56⟩ := bindS hq56
  refine tP (i := 8) hE rfl (by kernel_rfl) (Gives.catS hE rfl rfl hx84) rfl hS (hS.dropAt 1) fun a hE => ?_
  obtain ⟨x85, hx86, hq56⟩ := bindS hq56
  refine tP (i := 9) hE rfl (by kernel_rfl) (Gives.catS hE rfl rfl hx86) rfl hS (hS.dropAt 1) fun a hE => ?_
  refine Rg.one (i := 10) false true rfl (by kernel_rfl) (by kernel_rfl) (by kernel_rfl) ?_
  replace hS := hS.front 1 rfl
  obtain ⟨q87, hq88, hq56⟩ := bindS hq56
  refine WL.fnq hE (sbWrite_ok hS hq88) (runs_plain rfl) bd29 rfl rfl rfl ?_
  clear hE hS; rintro e w ⟨rfl, hS⟩; refine ⟨_, rfl, ?_⟩; clear a; intro a hE
  refine WL.nil ?_
  refine ⟨⟨fun h => absurd h (by decide), fun _ => (hS.tail)⟩, ?_⟩
  refine Rg.done (by kernel_rfl) ?_
  subst hK74
  refine W.region ?_
  refine vP hS hE (Gives.inc hE rfl (by have := h0_0.small; omega)) rfl fun a hE => ?_
  refine vp hS hE rfl rfl fun a hE => WL.nil ?_
  replace hS := hS.dropAt 1
  subst hK68
  exact ⟨rest60.length, Nat.lt_succ_self _, rest60, k58 + 1, q87, rfl, hd61, hq56, hE.pick _ ⟨rfl, rfl, rfl, rfl, rfl, trivial⟩, hS⟩
 clear hE hS a w; rintro a w ⟨q67, rfl, hE, hS⟩
 refine W.seq (W.region (vP hS hE (Gives.fld hE rfl fl25_2) rfl fun a hE => ?_))
 refine vP hS hE (Gives.loadB hE 2 rfl rfl rfl ty3) rfl fun a hE => ?_
 obtain ⟨q89, hq90, hr⟩ := bindS hr
 refine WL.fnq hE (itoa_ok hS (TabG.mono (Sg.Le.refl _) hTab).tab hq90) (runs_plain rfl) bd20 rfl rfl rfl ?_
 clear hE hS; rintro e w ⟨rfl, hS⟩; refine ⟨_, rfl, ?_⟩; clear a; intro a hE
 obtain ⟨x91, hx92, hr⟩ := bindS hr
 refine vP hS hE (Gives.catS hE rfl rfl hx92) rfl fun a hE => ?_
 obtain ⟨x93, hx94, hr⟩ := bindS hr
 refine vP hS hE (Gives.catS hE rfl rfl hx94) rfl fun a hE => ?_
 obtain ⟨q95, hq96, hr⟩ := bindS hr
 refine WL.fnq hE (sbWrite_ok hS hq96) (runs_plain rfl) bd29 rfl rfl rfl ?_
 clear hE hS; rintro e w ⟨rfl, hS⟩; refine ⟨_, rfl, ?_⟩; clear a; intro a hE
 refine WL.nil ?_
 refine W.seq ?_
 refine W.seq (W.region (vP hS hE (Gives.fld hE rfl fl25_3) rfl fun a hE => ?_))
 refine vP hS hE (Gives.loadB hE 2 rfl rfl rfl ty23) rfl fun a hE => ?_
 refine vP hS hE (Gives.len hE rfl sl23) rfl fun a hE => ?_
 refine vp hS hE rfl rfl fun a hE => WL.nil ?_
 obtain ⟨q98, hq97, hr⟩ := bindS hr
 refine W.cut (fun a w => ∃ (q108 : ByteArray), q108 = q98 ∧ Rep a 67 [(3, pp b52)] ∧ St w s (sbC 70 5 b52 q108 :: mapC keyB.f Value.string b53 (mput (mput [] false (str [122, 111, 110, 101, 115, 10])) true (str [107, 109, 10])) :: pc b51 #[.bool x0.ByKm, .slice a0_0 x0.Bands.length c0_0, vi x0.Round, .slice a0_1 x0.Rules.length c0_1] 25 :: R)) ?_ ?_
 ·refine W.block ?_
  refine W.loop (fun m a w => ∃ (rest101 : List FareRule) (k99 : Nat), ∃ (q108 : ByteArray), rest101.length = m ∧ x0.Rules.drop k99 = rest101 ∧ FareTarifftext.loop2 fu rest101 q108 = some q98 ∧ Rep a 67 [(3, pp b52), (40, .slice a0_1 x0.Rules.length c0_1), (41, vi ((x0.Rules).length : Int)), (42, vi ((k99 : Nat) : Int))] ∧ St w s (sbC 70 5 b52 q108 :: mapC keyB.f Value.string b53 (mput (mput [] false (str [122, 111, 110, 101, 115, 10])) true (str [107, 109, 10])) :: pc b51 #[.bool x0.ByKm, .slice a0_0 x0.Bands.length c0_0, vi x0.Round, .slice a0_1 x0.Rules.length c0_1] 25 :: R)) (m := x0.Rules.length) ⟨x0.Rules, 0, q95, rfl, rfl, hq97, hE.pick _ ⟨rfl, rfl, rfl, rfl, trivial⟩, hS⟩ ?_
  clear hE hS a w hq97; rintro m105 a w ⟨rest101, k99, q108, rfl, hd102, hq97, hE, hS⟩
  refine W.gen fun K109 hK109 => ?_
  rcases rest101 with _ | ⟨x100, rest101⟩
  ·have hlt103 := drop_nil hd102
   refine W.seq (W.region (vp hS hE rfl rfl fun a hE => WL.nil ?_))
   refine W.seq ?_
   refine W.condF hE rfl (decide_eq_false (by omega)) ?_
   subst hK109
   refine W.exit rfl ?_
   exact ⟨q108, Option.some.inj hq97, hE.pick _ ⟨rfl, trivial⟩, hS⟩
  obtain ⟨hlt103, hx104, hd102⟩ := drop_cons hd102
  rw [FareTarifftext.loop2] at hq97
  refine W.seq (W.region (vp hS hE rfl rfl fun a hE => WL.nil ?_))
  refine W.seq ?_
  refine W.condT hE rfl (decide_eq_true (by omega)) ?_
  refine W.skip ?_
  refine W.seq ?_
  refine W.block ?_
  refine W.seq (W.region ?_)
  obtain ⟨cs110, hl111, hR112, hat113⟩ := h0_1.at hx104
  obtain ⟨a114, c115, rfl, h116⟩ := hR112
  refine vP hS hE (Gives.idx hE k99 rfl rfl sl23 rfl hlt103 (h0_1.aok hlt103)) rfl fun a hE => ?_
  refine vP hS hE (Gives.loadA hE rfl (fun w h => hat113 w _ h) ty45) rfl fun a hE => ?_
  refine WL.alloc hE hS (runs_plain rfl) zr45 rfl ?_; clear hE hS a w; intro b117 a w hE hS
  refine WL.storeI hE hS 0 rfl [vi x100.If.Kind, vi x100.If.A, vi x100.If.B, .slice a114 x100.If.Kids.length c115, vi x100.Do, vi x100.N, .bool x100.Stop] (runs_plain rfl) rfl rfl rfl ty45 rfl rfl rfl rfl ?_; clear hE hS a w; intro a w hE hS
  refine WL.nil ?_
  refine W.seq ?_
  refine W.gen fun K118 hK118 => ?_
  refine rE hS [] [1] [0, 1, 2, 3, 4, 5, 6, 7, 8, 9, 10, 11, 12, 13] [0, 1, 2, 3, 4, 5, 6, 7, 8, 9, 10, 11, 12, 13, 14] mixed ?_
  replace hS := hS.drew
  refine tP (i := 0) hE rfl (by kernel_rfl) (Gives.fld hE rfl fl45_0) rfl hS (hS.dropAt 1) fun a hE => ?_
  refine tT (i := 1) false rfl hE rfl (by kernel_rfl) (Gives.loadA (cs := [vi x100.If.Kind, vi x100.If.A, vi x100.If.B, .slice a114 x100.If.Kids.length c115]) hE rfl (fun w h => (St.seesAt h 0 rfl).part 0 4) ty43) rfl hS (hS.dropAt 1) fun a hE => ?_
  refine tP (i := 5) hE rfl (by kernel_rfl) (Gives.fld hE rfl fl45_1) rfl hS (hS.dropAt 1) fun a hE => ?_
  refine tT (i := 6) false rfl hE rfl (by kernel_rfl) (Gives.loadB hE 0 rfl rfl rfl ty3) rfl hS (hS.dropAt 1) fun a hE => ?_
  refine tP (i := 10) hE rfl (by kernel_rfl) (Gives.fld hE rfl fl45_2) rfl hS (hS.dropAt 1) fun a hE => ?_
  refine tT (i := 11) false rfl hE rfl (by kernel_rfl) (Gives.loadB hE 0 rfl rfl rfl ty3) rfl hS (hS.dropAt 1) fun a hE => ?_
  refine Rg.one (i := 2) true true rfl (by kernel_rfl) (by kernel_rfl) (by kernel_rfl) ?_
  obtain ⟨q119, hq120, hq97⟩ := bindS hq97
  have hc_ := FareCondtext_ok hS (TabG.mono (Sg.Le.refl _) hTab) h116 hq120
  refine WL.fnq hE (hc_) (runs_plain rfl) bd30 rfl rfl rfl ?_
  clear hE hS hc_; rintro e w ⟨rfl, hS⟩; refine ⟨_, rfl, ?_⟩; clear a; intro a hE
  refine WL.nil ?_
  refine ⟨⟨fun _ => hS, fun _ => (hS.dropAt 1)⟩, ?_⟩
  obtain ⟨x121, hx122, hq97⟩ := bindS hq97
  refine tP (i := 3) hE rfl (by kernel_rfl) (Gives.catS hE rfl rfl hx122) rfl hS (hS.dropAt 1) fun a hE => ?_
  refine Rg.one (i := 4) true true rfl (by kernel_rfl) (by kernel_rfl) (by kernel_rfl) ?_
  obtain ⟨q123, hq124, hq97⟩ := bndS hq97
  have hc_ := Faredeeds_ok hS  hq124
  refine WL.fnq hE (hc_) (runs_plain rfl) bd31 rfl rfl rfl ?_
  clear hE hS hc_; rintro e w ⟨cs125, rfl, h126, hS⟩; refine ⟨_, rfl, ?_⟩; clear a; intro a hE
  subst h126
  refine WL.nil ?_
  refine ⟨⟨fun _ => hS, fun _ => (hS.dropAt 1)⟩, ?_⟩
  obtain ⟨x127, hx128, hq97⟩ := bindS hq97
  obtain ⟨hi129, hlt130, hy131⟩ := gx_some hx128
  refine tP (i := 7) hE rfl (by kernel_rfl) (Gives.indexMi hE (f := Value.string) (l := [q123.f0, q123.f1, q123.f2, q123.f3, q123.f4, q123.f5, q123.f6]) ar76 rfl rfl rfl rfl hi129 hy131) rfl hS (hS.dropAt 1) fun a hE => ?_
  obtain ⟨x132, hx133, hq97⟩ := bindS hq97
  refine tP (i := 8) hE rfl (by kernel_rfl) (Gives.catS hE rfl rfl hx133) rfl hS (hS.dropAt 1) fun a hE => ?_
  obtain ⟨x134, hx135, hq97⟩ := bindS hq97
  refine tP (i := 9) hE rfl (by kernel_rfl) (Gives.catS hE rfl rfl hx135) rfl hS (hS.dropAt 1) fun a hE => ?_
  refine Rg.one (i := 12) true true rfl (by kernel_rfl) (by kernel_rfl) (by kernel_rfl) ?_
  obtain ⟨q136, hq137, hq97⟩ := bindS hq97
  refine WL.fnq hE (itoa_ok hS (TabG.mono (Sg.Le.refl _) hTab).tab hq137) (runs_plain rfl) bd20 rfl rfl rfl ?_
  clear hE hS; rintro e w ⟨rfl, hS⟩; refine ⟨_, rfl, ?_⟩; clear a; intro a hE
  refine WL.nil ?_
  refine ⟨⟨fun _ => hS, fun _ => (hS.dropAt 1)⟩, ?_⟩
  obtain ⟨x138, hx139, hq97⟩ := bindS hq97
  refine tP (i := 13) hE rfl (by kernel_rfl) (Gives.catS hE rfl rfl hx139) rfl hS (hS.dropAt 1) fun a hE => ?_
  refine Rg.one (i := 14) false true rfl (by kernel_rfl) (by kernel_rfl) (by kernel_rfl) ?_
  replace hS := hS.front 1 rfl
  obtain ⟨q140, hq141, hq97⟩ := bindS hq97
  refine WL.fnq hE (sbWrite_ok hS hq141) (runs_plain rfl) bd29 rfl rfl rfl ?_
  clear hE hS; rintro e w ⟨rfl, hS⟩; refine ⟨_, rfl, ?_⟩; clear a; intro a hE
  refine WL.nil ?_
  refine ⟨⟨fun h => absurd h (by decide), fun _ => (hS.tail)⟩, ?_⟩
  refine Rg.done (by kernel_rfl) ?_
  subst hK118
  refine W.seq ?_
  refine W.seq (W.region (vP hS hE (Gives.fld hE rfl fl45_3) rfl fun a hE => ?_))
  refine vP hS hE (Gives.loadB hE 1 rfl rfl rfl ty4) rfl fun a hE => WL.nil ?_
  refine W.cond hE rfl (fun hc142 => ?_) (fun hc142 => ?_)
  ·replace hq97 := iteT hc142 hq97
   refine W.region ?_
   obtain ⟨q143, hq144, hq97⟩ := bindS hq97
   refine WL.fnq hE (sbWrite_ok hS hq144) (runs_plain rfl) bd29 rfl rfl rfl ?_
   clear hE hS; rintro e w ⟨rfl, hS⟩; refine ⟨_, rfl, ?_⟩; clear a; intro a hE
   refine WL.nil ?_
   refine W.region ?_
   obtain ⟨q145, hq146, hq97⟩ := bindS hq97
   refine WL.fnq hE (sbWrite_ok hS hq146) (runs_plain rfl) bd29 rfl rfl rfl ?_
   clear hE hS; rintro e w ⟨rfl, hS⟩; refine ⟨_, rfl, ?_⟩; clear a; intro a hE
   refine WL.nil ?_
   refine W.region ?_
   refine vP hS hE (Gives.inc hE rfl (by have := h0_1.small; omega)) rfl fun a hE => ?_
   refine vp hS hE rfl rfl fun a hE => WL.nil ?_
   replace hS := hS.dropAt 1
   subst hK109
   exact ⟨rest101.length, Nat.lt_succ_self _, rest101, k99 + 1, q145, rfl, hd102, hq97, hE.pick _ ⟨rfl, rfl, rfl, rfl, trivial⟩, hS⟩
  replace hq97 := iteF hc142 hq97
  refine W.skip ?_
  refine W.region ?_
  obtain ⟨q147, hq148, hq97⟩ := bindS hq97
  refine WL.fnq hE (sbWrite_ok hS hq148) (runs_plain rfl) bd29 rfl rfl rfl ?_
  clear hE hS; rintro e w ⟨rfl, hS⟩; refine ⟨_, rfl, ?_⟩; clear a; intro a hE
  refine WL.nil ?_
  refine W.region ?_
  refine vP hS hE (Gives.inc hE rfl (by have := h0_1.small; omega)) rfl fun a hE => ?_
  refine vp hS hE rfl rfl fun a hE => WL.nil ?_
  replace hS := hS.dropAt 1
  subst hK109
  exact ⟨rest101.length, Nat.lt_succ_self _, rest101, k99 + 1, q147, rfl, hd102, hq97, hE.pick _ ⟨rfl, rfl, rfl, rfl, trivial⟩, hS⟩
 clear hE hS a w; rintro a w ⟨q108, rfl, hE, hS⟩
 refine W.seq (W.region ?_)
 refine WL.fnq hE (sbString_ok hS) (runs_plain rfl) bd32 rfl rfl rfl ?_
 clear hE hS; rintro e w ⟨rfl, hS⟩; refine ⟨_, rfl, ?_⟩; clear a; intro a hE
 refine vp hS hE rfl rfl fun a hE => WL.nil ?_
 refine W.ret ?_
 refine finG (fn := Tryz.f13) (rs := [.tmp 2]) (vs := [_]) hE rfl ⟨rfl, trivial⟩ ?_
 obtain rfl := Option.some.inj hr
 replace hS := hS.tail
 replace hS := hS.tail
 exact ⟨rfl, hS⟩
end Go.Proofs.YtfdifpegldailaaGreatDoor
