/- The walks of the functions that FareReads reaches: each call comes to what its mirror says. The conditions are those of each contract. -/
import Derived.Test.YtfdifpegldailaaGreatDoorProg
import Derived.Test.YtfdifpegldailaaGreatDoorFpTight
import Derived.Test.YtfdifpegldailaaGreatDoorFareReadsM
import Derived.Test.YtfdifpegldailaaGreatDoorFpAllT
import Derived.Test.YtfdifpegldailaaGreatDoorFareReadsS
import Derived.Test.YtfdifpegldailaaGreatDoorFpDfr
import Derived.Test.YtfdifpegldailaaGreatDoorFpErr
import Derived.Test.YtfdifpegldailaaGreatDoorFpJoin
import Derived.Test.YtfdifpegldailaaGreatDoorFpKeyB
import Derived.Test.YtfdifpegldailaaGreatDoorFpMeth
import Derived.Test.YtfdifpegldailaaGreatDoorFpPan
import Derived.Test.YtfdifpegldailaaGreatDoorFpRf
import Derived.Test.YtfdifpegldailaaGreatDoorFpRfO
import Derived.Test.YtfdifpegldailaaGreatDoorFpRgP
import Derived.Test.YtfdifpegldailaaGreatDoorFpRgn
import Derived.Test.YtfdifpegldailaaGreatDoorFpRune
import Derived.Test.YtfdifpegldailaaGreatDoorFareReadsW2
set_option maxRecDepth 10000
namespace Go.Proofs.YtfdifpegldailaaGreatDoor
open Go Go.Fp
set_option maxHeartbeats 8000000 in
theorem Fishref2Parserunit_v1_ok : ∀ {fu : Nat} {w : World} {s : Sg} {R : List HP} {pb0 : Nat} {y0 : Fishref2Parser} {a_v0 : Option Addr} {c_v0 n_v0 : Nat} {cs_v0 : List Value} (_hS : St w s (pc pb0 #[.slice a_v0 n_v0 c_v0, .bool y0.bad] 141 :: vecC 9 1 a_v0 c_v0 n_v0 cs_v0 :: R)) (_hTab : TabX s) (_h_v0 : Ev 1 RS s cs_v0 y0.l) (_hn_v0 : y0.l.length = n_v0) {r : FareCond × (List ByteArray) × Bool} (_hr : Fishref2Parserunit_v1 fu y0 = some r),
  Calls Tryz.prog 119 [pp pb0].toArray w (fun e w => ∃ (cs0 : List Value) (a60 : Option Addr) (c61 : Nat) (n63 : Nat) (cs64 : List Value) (t : Sg), e = .returned (.agg cs0.toArray) ∧ s.Le t ∧ RFareCond t cs0 r.1 ∧ Ev 1 RS t cs64 r.2.1 ∧ r.2.1.length = n63 ∧ St w t (pc pb0 #[.slice a60 n63 c61, .bool r.2.2] 141 :: vecC 9 1 a60 c61 n63 cs64 :: R)) := by
 intro fu
 induction fu with
 | zero => intro w s R pb0 y0 a_v0 c_v0 n_v0 cs_v0 hS hTab h_v0 hn_v0 r hr; rw [Fishref2Parserunit_v1] at hr; exact absurd hr (by simp)
 | succ fu ih_Fishref2Parserunit_v1 =>
  intro w s R pb0 y0 a_v0 c_v0 n_v0 cs_v0 hS hTab h_v0 hn_v0 r hr
  rw [Fishref2Parserunit_v1] at hr
  generalize Fishref2Parserunit_v1 fu = self_Fishref2Parserunit_v1 at hr ih_Fishref2Parserunit_v1
  refine enter Tryz.func119 rfl rfl rfl fun a hE => ?_
  subst hn_v0
  refine W.seq (W.region ?_)
  refine WL.alloc hE hS (runs_plain rfl) zr43 rfl ?_; clear hE hS a w; intro b67 a w hE hS
  refine WL.nil ?_
  refine W.seq (W.region (vp hS hE rfl rfl fun a hE => ?_))
  obtain ⟨q68, hq69, hr⟩ := bindS hr
  replace hS := hS.front 2 rfl
  replace hS := hS.front 2 rfl
  have hc_ := Fishref2Parsernext_v1_ok (y0 := y0) hS h_v0 (rfl) hq69
  refine WL.fnq hE (hc_) (runs_plain rfl) bd131 rfl rfl rfl ?_
  clear hE hS hc_; rintro e w ⟨a70, c71, n72, cs73, rfl, h74, rfl, hS⟩; refine ⟨_, rfl, ?_⟩; clear a; intro a hE
  refine vp hS hE rfl rfl fun a hE => WL.nil ?_
  refine W.seq ?_
  refine W.seq (W.region (vp hS hE rfl rfl fun a hE => ?_))
  refine vP hS hE (Gives.nilOk hE rfl) rfl fun a hE => ?_
  refine vP hS hE (Gives.fld hE rfl fl141_1) rfl fun a hE => ?_
  refine vP hS hE (Gives.loadB hE 0 rfl rfl rfl ty4) rfl fun a hE => WL.nil ?_
  refine W.cond hE rfl (fun hc75 => ?_) (fun hc75 => ?_)
  ·replace hr := iteT hc75 hr
   refine W.seq (W.region (vP hS hE (Gives.build hE (vs := []) [vi 0, vi 0, vi 0, .slice none 0 0] rfl (by kernel_rfl)) rfl fun a hE => ?_))
   refine WL.storeI hE hS 2 rfl [vi 0, vi 0, vi 0, .slice none 0 0] (runs_plain rfl) rfl rfl rfl ty43 rfl rfl rfl rfl ?_; clear hE hS a w; intro a w hE hS
   refine WL.nil ?_
   refine W.ret ?_
   refine finG (fn := Tryz.f119) (rs := [.cell 2 43]) (vs := [_]) hE rfl ⟨⟨_, rfl, .inl ⟨_, rfl, hS.seesAt 2 rfl, ty43⟩⟩, trivial⟩ ?_
   obtain rfl := Option.some.inj hr
   replace hS := hS.dropAt 2
   exact ⟨_, a70, c71, q68.2.1.length, cs73, s, rfl, (Sg.Le.refl _), (RFareCond.fold ⟨_, _, rfl, Sl.nil⟩), h74, rfl, hS⟩
  replace hr := iteF hc75 hr
  refine W.skip ?_
  refine W.seq ?_
  refine W.seq (W.region (vp hS hE rfl rfl fun a hE => WL.nil ?_))
  refine W.block ?_
  refine W.seq (W.region (vP hS hE (Gives.eqSt hE rfl rfl) rfl fun a hE => ?_))
  refine vp hS hE rfl rfl fun a hE => WL.nil ?_
  refine W.cond hE rfl (fun hc76 => ?_) (fun hc76 => ?_)
  ·replace hr := iteT hc76 hr
   refine W.seq (W.region (vp hS hE rfl rfl fun a hE => ?_))
   obtain ⟨q77, hq78, hr⟩ := bindS hr
   have hc_ := ih_Fishref2Parserunit_v1 (y0 := (Fishref2Parser.mk q68.2.1 q68.2.2)) hS (TabG.mono (Sg.Le.refl _) hTab) h74 rfl hq78
   refine WL.fnq hE (hc_) (runs_plain rfl) bd119 rfl rfl rfl ?_
   clear hE hS hc_; rintro e w ⟨cs79, a81, c82, n83, cs84, s86, rfl, hle87, h80, h85, rfl, hS⟩; refine ⟨_, rfl, ?_⟩; clear a; intro a hE
   replace h74 := Ev.mono RS.mono hle87 h74
   obtain ⟨a88, c89, rfl, h90⟩ := h80.unf
   refine WL.lit hE hS (e := 43) (es := 4) (vs := [(0, .agg (List.toArray [vi q77.1.Kind, vi q77.1.A, vi q77.1.B, .slice a88 q77.1.Kids.length c89]))]) (cs := [vi q77.1.Kind, vi q77.1.A, vi q77.1.B, .slice a88 q77.1.Kids.length c89]) (runs_plain rfl) rfl (by kernel_rfl) rfl ?_; clear hE hS a w; intro b91 a w hE hS
   replace hS := hS.ptVec (es := 4) (m := 1) rfl (by decide)
   have h93 : Ev 4 RFareCond s86 [vi q77.1.Kind, vi q77.1.A, vi q77.1.B, .slice a88 q77.1.Kids.length c89] [q77.1] := (Ev.cons (c1 := [vi q77.1.Kind, vi q77.1.A, vi q77.1.B, .slice a88 q77.1.Kids.length c89]) (RFareCond.fold ⟨_, _, rfl, h90⟩) rfl (Ev.nil))
   have hF := hS.fixD RFareCond.mono 0 rfl h93 (rfl); clear hS; obtain ⟨s94, hle95, hS, h96⟩ := hF
   replace h90 := Sl.mono RFareCond.mono hle95 h90
   replace h85 := Ev.mono RS.mono hle95 h85
   refine vP hS hE (Gives.build hE (vs := [(0, vi 9), (3, .slice (some ⟨b91, 0, none⟩) 1 1)]) [vi 9, vi 0, vi 0, .slice (some ⟨b91, 0, none⟩) 1 1] rfl (by kernel_rfl)) rfl fun a hE => ?_
   refine WL.storeI hE hS 2 rfl [vi 9, vi 0, vi 0, .slice (some ⟨b91, 0, none⟩) 1 1] (runs_plain rfl) rfl rfl rfl ty43 rfl rfl rfl rfl ?_; clear hE hS a w; intro a w hE hS
   refine WL.nil ?_
   refine W.ret ?_
   refine finG (fn := Tryz.f119) (rs := [.cell 2 43]) (vs := [_]) hE rfl ⟨⟨_, rfl, .inl ⟨_, rfl, hS.seesAt 2 rfl, ty43⟩⟩, trivial⟩ ?_
   obtain rfl := Option.some.inj hr
   replace hS := hS.dropAt 2
   exact ⟨_, a81, c82, q77.2.1.length, cs84, s94, rfl, (Sg.Le.trans hle87 hle95), (RFareCond.fold ⟨_, _, rfl, h96⟩), h85, rfl, hS⟩
  replace hr := iteF hc76 hr
  refine W.seq (W.region (vP hS hE (Gives.eqSt hE rfl rfl) rfl fun a hE => ?_))
  refine vp hS hE rfl rfl fun a hE => WL.nil ?_
  refine W.cond hE rfl (fun hc97 => ?_) (fun hc97 => ?_)
  ·replace hr := iteT hc97 hr
   refine W.seq (W.region (vp hS hE rfl rfl fun a hE => ?_))
   obtain ⟨q98, hq99, hr⟩ := bindS hr
   have hc_ := Fishref2Parserwhole_v2_ok (y0 := (Fishref2Parser.mk q68.2.1 q68.2.2)) @ih_Fishref2Parserunit_v1 hS (TabG.mono (Sg.Le.refl _) hTab) h74 rfl hq99
   refine WL.fnq hE (hc_) (runs_plain rfl) bd96 rfl rfl rfl ?_
   clear hE hS hc_; rintro e w ⟨cs100, a102, c103, n104, cs105, s107, rfl, hle108, h101, h106, rfl, hS⟩; refine ⟨_, rfl, ?_⟩; clear a; intro a hE
   replace h74 := Ev.mono RS.mono hle108 h74
   obtain ⟨a109, c110, rfl, h111⟩ := h101.unf
   refine WL.alloc hE hS (runs_plain rfl) zr43 rfl ?_; clear hE hS a w; intro b112 a w hE hS
   refine WL.storeI hE hS 0 rfl [vi q98.1.Kind, vi q98.1.A, vi q98.1.B, .slice a109 q98.1.Kids.length c110] (runs_plain rfl) rfl rfl rfl ty43 rfl rfl rfl rfl ?_; clear hE hS a w; intro a w hE hS
   refine WL.nil ?_
   refine W.seq ?_
   obtain ⟨q114, hq113, hr⟩ := bindS hr
   refine W.cut (fun a w => ∃ (q117 : List ByteArray), ∃ (q124 : Bool), ∃ (a118 : Option Addr), ∃ (c119 : Nat), ∃ (n121 : Nat), ∃ (cs122 : List Value), (q117, q124) = q114 ∧ Ev 1 RS s107 cs122 q117 ∧ q117.length = n121 ∧ Rep a 82 [(2, pp b67), (4, pp b112)] ∧ St w s107 (pc b112 #[vi q98.1.Kind, vi q98.1.A, vi q98.1.B, .slice a109 q98.1.Kids.length c110] 43 :: pc pb0 #[.slice a118 n121 c119, .bool q124] 141 :: vecC 9 1 a118 c119 n121 cs122 :: pc b67 #[vi 0, vi 0, vi 0, .slice none 0 0] 43 :: R)) ?_ ?_
   ·refine W.gen fun K125 hK125 => ?_
    refine W.region ?_
    refine v2 hS hE rfl rfl rfl rfl fun a hE => ?_
    obtain ⟨q126, hq127, hq113⟩ := bindS hq113
    replace hS := hS.front 2 rfl
    replace hS := hS.front 2 rfl
    have hc_ := Fishref2Parsernext_v1_ok (y0 := (Fishref2Parser.mk q98.2.1 q98.2.2)) hS h106 rfl hq127
    refine WL.fnq hE (hc_) (runs_plain rfl) bd131 rfl rfl rfl ?_
    clear hE hS hc_; rintro e w ⟨a128, c129, n130, cs131, rfl, h132, rfl, hS⟩; refine ⟨_, rfl, ?_⟩; clear a; intro a hE
    refine vP hS hE (Gives.neSt hE rfl rfl) rfl fun a hE => ?_
    refine vp hS hE rfl rfl fun a hE => ?_
    rcases Bool.eq_false_or_eq_true (!(seq q126.1 (str [41]))) with hg133 | hg133
    ·replace hq113 := iteT hg133 hq113
     refine nO hE rfl rfl rfl (by rw [hg133]; decide) rfl fun a hE => ?_
     refine nO hE rfl rfl rfl (by rw [hg133]; decide) rfl fun a hE => ?_
     refine nO hE rfl rfl rfl (by rw [hg133]; decide) rfl fun a hE => ?_
     refine nO hE rfl rfl rfl (by rw [hg133]; decide) rfl fun a hE => ?_
     refine vP hS hE (Gives.pickT hE rfl hg133 rfl) rfl fun a hE => ?_
     refine vP hS hE (Gives.nilOk hE rfl) rfl fun a hE => ?_
     refine vP hS hE (Gives.fld hE rfl fl141_1) rfl fun a hE => ?_
     refine WL.storeI hE hS 0 rfl [.slice a128 q126.2.1.length c129, .bool true] (runs_plain rfl) rfl rfl rfl ty4 rfl rfl rfl rfl ?_; clear hE hS a w; intro a w hE hS
     refine WL.nil ?_
     replace hS := hS.front 3 rfl
     replace hS := hS.front 2 rfl
     replace hS := hS.front 2 rfl
     replace hS := hS.front 3 rfl
     subst hK125
     exact ⟨q126.2.1, true, a128, c129, q126.2.1.length, cs131, Option.some.inj hq113, h132, rfl, hE.pick _ ⟨rfl, rfl, trivial⟩, hS⟩
    replace hq113 := iteF hg133 hq113
    refine WL.vS hS hE (runs_if hE rfl rfl rfl hg133) (Gives.p hE rfl) rfl fun a hE => ?_
    refine WL.vS hS hE (runs_if hE rfl rfl rfl hg133) (Gives.nilOk hE rfl) rfl fun a hE => ?_
    refine WL.vS hS hE (runs_if hE rfl rfl rfl hg133) (Gives.fld hE rfl fl141_1) rfl fun a hE => ?_
    refine WL.vS hS hE (runs_if hE rfl rfl rfl hg133) (Gives.loadB hE 0 rfl rfl rfl ty4) rfl fun a hE => ?_
    refine vP hS hE (Gives.pickF hE rfl hg133 rfl) rfl fun a hE => ?_
    refine vP hS hE (Gives.nilOk hE rfl) rfl fun a hE => ?_
    refine vP hS hE (Gives.fld hE rfl fl141_1) rfl fun a hE => ?_
    refine WL.storeI hE hS 0 rfl [.slice a128 q126.2.1.length c129, .bool q126.2.2] (runs_plain rfl) rfl rfl rfl ty4 rfl rfl rfl rfl ?_; clear hE hS a w; intro a w hE hS
    refine WL.nil ?_
    replace hS := hS.front 3 rfl
    replace hS := hS.front 2 rfl
    replace hS := hS.front 2 rfl
    replace hS := hS.front 3 rfl
    subst hK125
    exact ⟨q126.2.1, q126.2.2, a128, c129, q126.2.1.length, cs131, Option.some.inj hq113, h132, rfl, hE.pick _ ⟨rfl, rfl, trivial⟩, hS⟩
   clear hE hS a w; rintro a w ⟨q117, q124, a118, c119, n121, cs122, rfl, h120, rfl, hE, hS⟩
   dsimp only at hr
   refine W.seq (W.region (vP hS hE (Gives.loadBA hE 0 rfl rfl ty43) rfl fun a hE => ?_))
   refine WL.storeI hE hS 3 rfl [vi q98.1.Kind, vi q98.1.A, vi q98.1.B, .slice a109 q98.1.Kids.length c110] (runs_plain rfl) rfl rfl rfl ty43 rfl rfl rfl rfl ?_; clear hE hS a w; intro a w hE hS
   refine WL.nil ?_
   refine W.ret ?_
   refine finG (fn := Tryz.f119) (rs := [.cell 2 43]) (vs := [_]) hE rfl ⟨⟨_, rfl, .inl ⟨_, rfl, hS.seesAt 3 rfl, ty43⟩⟩, trivial⟩ ?_
   obtain rfl := Option.some.inj hr
   replace hS := hS.tail
   replace hS := hS.dropAt 2
   exact ⟨_, a118, c119, q117.length, cs122, s107, rfl, hle108, (RFareCond.fold ⟨_, _, rfl, h111⟩), h120, rfl, hS⟩
  replace hr := iteF hc97 hr
  refine W.skip ?_
  refine W.seq (W.region ?_)
  refine WL.lit hE hS (e := 9) (es := 1) (vs := [(0, .string (str [97, 108, 119, 97, 121, 115])), (1, .string (str [99, 97, 114, 100])), (2, .string (str [97, 103, 101])), (3, .string (str [116, 105, 109, 101])), (4, .string (str [107, 109])), (5, .string (str [99, 111, 117, 110, 116])), (6, .string (str [116, 111, 117, 99, 104])), (7, .string (str [98, 101, 103, 105, 110])), (8, .string (str [102, 105, 110, 105, 115, 104]))]) (cs := [.string (str [97, 108, 119, 97, 121, 115]), .string (str [99, 97, 114, 100]), .string (str [97, 103, 101]), .string (str [116, 105, 109, 101]), .string (str [107, 109]), .string (str [99, 111, 117, 110, 116]), .string (str [116, 111, 117, 99, 104]), .string (str [98, 101, 103, 105, 110]), .string (str [102, 105, 110, 105, 115, 104])]) (runs_plain rfl) rfl (by kernel_rfl) rfl ?_; clear hE hS a w; intro b134 a w hE hS
  replace hS := hS.ptVec (es := 1) (m := 9) rfl (by decide)
  have h136 : Ev 1 RS s [.string (str [97, 108, 119, 97, 121, 115]), .string (str [99, 97, 114, 100]), .string (str [97, 103, 101]), .string (str [116, 105, 109, 101]), .string (str [107, 109]), .string (str [99, 111, 117, 110, 116]), .string (str [116, 111, 117, 99, 104]), .string (str [98, 101, 103, 105, 110]), .string (str [102, 105, 110, 105, 115, 104])] [(str [97, 108, 119, 97, 121, 115]), (str [99, 97, 114, 100]), (str [97, 103, 101]), (str [116, 105, 109, 101]), (str [107, 109]), (str [99, 111, 117, 110, 116]), (str [116, 111, 117, 99, 104]), (str [98, 101, 103, 105, 110]), (str [102, 105, 110, 105, 115, 104])] := (Ev.cons (c1 := [.string (str [97, 108, 119, 97, 121, 115])]) rfl rfl (Ev.cons (c1 := [.string (str [99, 97, 114, 100])]) rfl rfl (Ev.cons (c1 := [.string (str [97, 103, 101])]) rfl rfl (Ev.cons (c1 := [.string (str [116, 105, 109, 101])]) rfl rfl (Ev.cons (c1 := [.string (str [107, 109])]) rfl rfl (Ev.cons (c1 := [.string (str [99, 111, 117, 110, 116])]) rfl rfl (Ev.cons (c1 := [.string (str [116, 111, 117, 99, 104])]) rfl rfl (Ev.cons (c1 := [.string (str [98, 101, 103, 105, 110])]) rfl rfl (Ev.cons (c1 := [.string (str [102, 105, 110, 105, 115, 104])]) rfl rfl (Ev.nil))))))))))
  have hF := hS.fixD RS.mono 0 rfl h136 (rfl); clear hS; obtain ⟨s137, hle138, hS, h139⟩ := hF
  replace h74 := Ev.mono RS.mono hle138 h74
  refine vp hS hE rfl rfl fun a hE => ?_
  refine WL.fnq hE (SlicesIndexLstring_ok hS h139 rfl (r := SlicesIndexLstring [(str [97, 108, 119, 97, 121, 115]), (str [99, 97, 114, 100]), (str [97, 103, 101]), (str [116, 105, 109, 101]), (str [107, 109]), (str [99, 111, 117, 110, 116]), (str [116, 111, 117, 99, 104]), (str [98, 101, 103, 105, 110]), (str [102, 105, 110, 105, 115, 104])] q68.1)) (runs_plain rfl) bd74 rfl rfl rfl ?_
  clear hE hS; rintro e w ⟨rfl, hS⟩; refine ⟨_, rfl, ?_⟩; clear a; intro a hE
  refine vp hS hE rfl rfl fun a hE => WL.nil ?_
  refine W.seq ?_
  refine W.seq (W.region (v2 hS hE rfl rfl rfl rfl fun a hE => WL.nil ?_))
  refine W.cond hE rfl (fun hc140 => ?_) (fun hc140 => ?_)
  ·replace hr := iteT hc140 hr
   refine W.seq (W.region (vp hS hE rfl rfl fun a hE => ?_))
   refine vP hS hE (Gives.nilOk hE rfl) rfl fun a hE => ?_
   refine vP hS hE (Gives.fld hE rfl fl141_1) rfl fun a hE => ?_
   refine WL.storeI hE hS 0 rfl [.slice a70 q68.2.1.length c71, .bool true] (runs_plain rfl) rfl rfl rfl ty4 rfl rfl rfl rfl ?_; clear hE hS a w; intro a w hE hS
   refine WL.nil ?_
   refine W.seq (W.region (vP hS hE (Gives.build hE (vs := []) [vi 0, vi 0, vi 0, .slice none 0 0] rfl (by kernel_rfl)) rfl fun a hE => ?_))
   refine WL.storeI hE hS 2 rfl [vi 0, vi 0, vi 0, .slice none 0 0] (runs_plain rfl) rfl rfl rfl ty43 rfl rfl rfl rfl ?_; clear hE hS a w; intro a w hE hS
   refine WL.nil ?_
   refine W.ret ?_
   refine finG (fn := Tryz.f119) (rs := [.cell 2 43]) (vs := [_]) hE rfl ⟨⟨_, rfl, .inl ⟨_, rfl, hS.seesAt 2 rfl, ty43⟩⟩, trivial⟩ ?_
   obtain rfl := Option.some.inj hr
   replace hS := hS.dropAt 2
   exact ⟨_, a70, c71, q68.2.1.length, cs73, s137, rfl, hle138, (RFareCond.fold ⟨_, _, rfl, Sl.nil⟩), h74, rfl, hS⟩
  replace hr := iteF hc140 hr
  refine W.skip ?_
  refine W.seq (W.region (vp hS hE rfl rfl fun a hE => ?_))
  refine vP hS hE (Gives.build hE (vs := [(0, vi (SlicesIndexLstring [(str [97, 108, 119, 97, 121, 115]), (str [99, 97, 114, 100]), (str [97, 103, 101]), (str [116, 105, 109, 101]), (str [107, 109]), (str [99, 111, 117, 110, 116]), (str [116, 111, 117, 99, 104]), (str [98, 101, 103, 105, 110]), (str [102, 105, 110, 105, 115, 104])] q68.1))]) [vi (SlicesIndexLstring [(str [97, 108, 119, 97, 121, 115]), (str [99, 97, 114, 100]), (str [97, 103, 101]), (str [116, 105, 109, 101]), (str [107, 109]), (str [99, 111, 117, 110, 116]), (str [116, 111, 117, 99, 104]), (str [98, 101, 103, 105, 110]), (str [102, 105, 110, 105, 115, 104])] q68.1), vi 0, vi 0, .slice none 0 0] rfl (by kernel_rfl)) rfl fun a hE => ?_
  refine WL.alloc hE hS (runs_plain rfl) zr43 rfl ?_; clear hE hS a w; intro b141 a w hE hS
  refine WL.storeI hE hS 0 rfl [vi (SlicesIndexLstring [(str [97, 108, 119, 97, 121, 115]), (str [99, 97, 114, 100]), (str [97, 103, 101]), (str [116, 105, 109, 101]), (str [107, 109]), (str [99, 111, 117, 110, 116]), (str [116, 111, 117, 99, 104]), (str [98, 101, 103, 105, 110]), (str [102, 105, 110, 105, 115, 104])] q68.1), vi 0, vi 0, .slice none 0 0] (runs_plain rfl) rfl rfl rfl ty43 rfl rfl rfl rfl ?_; clear hE hS a w; intro a w hE hS
  refine WL.nil ?_
  refine W.seq ?_
  refine W.seq (W.region (vp hS hE rfl rfl fun a hE => ?_))
  refine WL.fnq hE (Fishref2numbersOf_ok hS  rfl (r := Fishref2numbersOf (SlicesIndexLstring [(str [97, 108, 119, 97, 121, 115]), (str [99, 97, 114, 100]), (str [97, 103, 101]), (str [116, 105, 109, 101]), (str [107, 109]), (str [99, 111, 117, 110, 116]), (str [116, 111, 117, 99, 104]), (str [98, 101, 103, 105, 110]), (str [102, 105, 110, 105, 115, 104])] q68.1))) (runs_plain rfl) bd47 rfl rfl rfl ?_
  clear hE hS; rintro e w ⟨rfl, hS⟩; refine ⟨_, rfl, ?_⟩; clear a; intro a hE
  refine vp hS hE rfl rfl fun a hE => WL.nil ?_
  obtain ⟨q154, hq153, hr⟩ := bindS hr
  refine W.cut (fun a w => ∃ (q159 : Int), ∃ (q160 : Int), ∃ (q161 : Int), ∃ (q162 : List ByteArray), ∃ (q169 : Bool), ∃ (a163 : Option Addr), ∃ (c164 : Nat), ∃ (n166 : Nat), ∃ (cs167 : List Value), (q159, q160, q161, q162, q169) = q154 ∧ Ev 1 RS s137 cs167 q162 ∧ q162.length = n166 ∧ Rep a 82 [(2, pp b67), (6, pp b141)] ∧ St w s137 (pc b141 #[vi (SlicesIndexLstring [(str [97, 108, 119, 97, 121, 115]), (str [99, 97, 114, 100]), (str [97, 103, 101]), (str [116, 105, 109, 101]), (str [107, 109]), (str [99, 111, 117, 110, 116]), (str [116, 111, 117, 99, 104]), (str [98, 101, 103, 105, 110]), (str [102, 105, 110, 105, 115, 104])] q68.1), vi q160, vi q161, .slice none 0 0] 43 :: pc pb0 #[.slice a163 n166 c164, .bool q169] 141 :: vecC 9 1 a163 c164 n166 cs167 :: pc b67 #[vi 0, vi 0, vi 0, .slice none 0 0] 43 :: R)) ?_ ?_
  ·refine W.block ?_
   refine W.loop (fun m a w => ∃ (n155 : Nat), ∃ (q159 : Int), ∃ (q160 : Int), ∃ (q161 : Int), ∃ (q162 : List ByteArray), ∃ (q169 : Bool), ∃ (a163 : Option Addr), ∃ (c164 : Nat), ∃ (n166 : Nat), ∃ (cs167 : List Value), n155 = m ∧ Fishref2Parserunit_v1.loop2 q68 n155 q159 q160 q161 q162 q169 = some q154 ∧ Ev 1 RS s137 cs167 q162 ∧ q162.length = n166 ∧ Rep a 82 [(0, pp pb0), (2, pp b67), (6, pp b141), (53, vi (Fishref2numbersOf (SlicesIndexLstring [(str [97, 108, 119, 97, 121, 115]), (str [99, 97, 114, 100]), (str [97, 103, 101]), (str [116, 105, 109, 101]), (str [107, 109]), (str [99, 111, 117, 110, 116]), (str [116, 111, 117, 99, 104]), (str [98, 101, 103, 105, 110]), (str [102, 105, 110, 105, 115, 104])] q68.1))), (54, vi q159)] ∧ St w s137 (pc b141 #[vi (SlicesIndexLstring [(str [97, 108, 119, 97, 121, 115]), (str [99, 97, 114, 100]), (str [97, 103, 101]), (str [116, 105, 109, 101]), (str [107, 109]), (str [99, 111, 117, 110, 116]), (str [116, 111, 117, 99, 104]), (str [98, 101, 103, 105, 110]), (str [102, 105, 110, 105, 115, 104])] q68.1), vi q160, vi q161, .slice none 0 0] 43 :: pc pb0 #[.slice a163 n166 c164, .bool q169] 141 :: vecC 9 1 a163 c164 n166 cs167 :: pc b67 #[vi 0, vi 0, vi 0, .slice none 0 0] 43 :: R)) (m := fu) ⟨fu, 0, 0, 0, q68.2.1, q68.2.2, a70, c71, q68.2.1.length, cs73, rfl, hq153, h74, rfl, hE.pick _ ⟨rfl, rfl, rfl, rfl, rfl, trivial⟩, hS⟩ ?_
   clear hE hS a w hq153; rintro m156 a w ⟨n155, q159, q160, q161, q162, q169, a163, c164, n166, cs167, rfl, hq153, h165, rfl, hE, hS⟩
   refine W.gen fun K170 hK170 => ?_
   rcases n155 with _ | n155
   ·rw [Fishref2Parserunit_v1.loop2] at hq153; exact absurd hq153 (by simp)
   rw [Fishref2Parserunit_v1.loop2] at hq153
   refine W.seq (W.region (vp hS hE rfl rfl fun a hE => WL.nil ?_))
   refine W.seq ?_
   refine W.cond hE rfl (fun hc171 => ?_) (fun hc171 => ?_)
   ·replace hq153 := iteT hc171 hq153
    refine W.skip ?_
    refine W.seq ?_
    refine W.block ?_
    refine W.seq (W.region (v2 hS hE rfl rfl rfl rfl fun a hE => WL.nil ?_))
    refine W.seq (W.region (vp hS hE rfl rfl fun a hE => ?_))
    obtain ⟨q172, hq173, hq153⟩ := bindS hq153
    replace hS := hS.front 2 rfl
    replace hS := hS.front 2 rfl
    have hc_ := Fishref2Parsernext_v1_ok (y0 := (Fishref2Parser.mk q162 q169)) hS h165 rfl hq173
    refine WL.fnq hE (hc_) (runs_plain rfl) bd131 rfl rfl rfl ?_
    clear hE hS hc_; rintro e w ⟨a174, c175, n176, cs177, rfl, h178, rfl, hS⟩; refine ⟨_, rfl, ?_⟩; clear a; intro a hE
    obtain ⟨q179, hq180, hq153⟩ := bindS hq153
    have hc_ := Fishref2plain_ok hS (TabG.mono hle138 hTab) hq180
    refine WL.fnq hE (hc_) (runs_plain rfl) bd50 rfl rfl rfl ?_
    clear hE hS hc_; rintro e w ⟨rfl, hS⟩; refine ⟨_, rfl, ?_⟩; clear a; intro a hE
    refine v2 hS hE rfl rfl rfl rfl fun a hE => ?_
    refine v2 hS hE rfl rfl rfl rfl fun a hE => ?_
    refine vp hS hE rfl rfl fun a hE => WL.nil ?_
    refine W.seq ?_
    obtain ⟨q182, hq181, hq153⟩ := bndS hq153
    refine W.cut (fun a w => ∃ (q185 : Bool), q185 = q182 ∧ Rep a 82 [(0, pp pb0), (2, pp b67), (6, pp b141), (7, vi q159), (8, vi q179.1), (53, vi (Fishref2numbersOf (SlicesIndexLstring [(str [97, 108, 119, 97, 121, 115]), (str [99, 97, 114, 100]), (str [97, 103, 101]), (str [116, 105, 109, 101]), (str [107, 109]), (str [99, 111, 117, 110, 116]), (str [116, 111, 117, 99, 104]), (str [98, 101, 103, 105, 110]), (str [102, 105, 110, 105, 115, 104])] q68.1))), (54, vi q159)] ∧ St w s137 (pc pb0 #[.slice a174 q172.2.1.length c175, .bool q185] 141 :: vecC 9 1 a174 c175 q172.2.1.length cs177 :: pc b141 #[vi (SlicesIndexLstring [(str [97, 108, 119, 97, 121, 115]), (str [99, 97, 114, 100]), (str [97, 103, 101]), (str [116, 105, 109, 101]), (str [107, 109]), (str [99, 111, 117, 110, 116]), (str [116, 111, 117, 99, 104]), (str [98, 101, 103, 105, 110]), (str [102, 105, 110, 105, 115, 104])] q68.1), vi q160, vi q161, .slice none 0 0] 43 :: pc b67 #[vi 0, vi 0, vi 0, .slice none 0 0] 43 :: R)) ?_ ?_
    ·refine W.gen fun K186 hK186 => ?_
     refine W.region ?_
     refine v2 hS hE rfl rfl rfl rfl fun a hE => ?_
     refine vP hS hE (Gives.nilOk hE rfl) rfl fun a hE => ?_
     refine vP hS hE (Gives.fld hE rfl fl141_1) rfl fun a hE => ?_
     refine vP hS hE (Gives.loadB hE 0 rfl rfl rfl ty4) rfl fun a hE => ?_
     refine vp hS hE rfl rfl fun a hE => ?_
     rcases Bool.eq_false_or_eq_true q172.2.2 with hg187 | hg187
     ·replace hq181 := iteT hg187 hq181
      refine nO hE rfl rfl rfl (by rw [hg187]; decide) rfl fun a hE => ?_
      refine nO hE rfl rfl rfl (by rw [hg187]; decide) rfl fun a hE => ?_
      refine vP hS hE (Gives.pickT hE rfl hg187 rfl) rfl fun a hE => ?_
      refine vP hS hE (Gives.nilOk hE rfl) rfl fun a hE => ?_
      refine vP hS hE (Gives.fld hE rfl fl141_1) rfl fun a hE => ?_
      refine WL.storeI hE hS 0 rfl [.slice a174 q172.2.1.length c175, .bool true] (runs_plain rfl) rfl rfl rfl ty4 rfl rfl rfl rfl ?_; clear hE hS a w; intro a w hE hS
      refine WL.nil ?_
      subst hK186
      exact ⟨true, hq181, hE.pick _ ⟨rfl, rfl, rfl, rfl, rfl, rfl, rfl, trivial⟩, hS⟩
     replace hq181 := iteF hg187 hq181
     refine WL.vS hS hE (runs_if hE rfl rfl rfl hg187) (Gives.p hE rfl) rfl fun a hE => ?_
     refine WL.vS hS hE (runs_if hE rfl rfl rfl hg187) (Gives.p hE rfl) rfl fun a hE => ?_
     refine vP hS hE (Gives.pickF hE rfl hg187 rfl) rfl fun a hE => ?_
     refine vP hS hE (Gives.nilOk hE rfl) rfl fun a hE => ?_
     refine vP hS hE (Gives.fld hE rfl fl141_1) rfl fun a hE => ?_
     refine WL.storeI hE hS 0 rfl [.slice a174 q172.2.1.length c175, .bool !q179.2] (runs_plain rfl) rfl rfl rfl ty4 rfl rfl rfl rfl ?_; clear hE hS a w; intro a w hE hS
     refine WL.nil ?_
     subst hK186
     exact ⟨!q179.2, hq181, hE.pick _ ⟨rfl, rfl, rfl, rfl, rfl, rfl, rfl, trivial⟩, hS⟩
    clear hE hS a w; rintro a w ⟨q185, rfl, hE, hS⟩
    refine W.seq (W.region (v2 hS hE rfl rfl rfl rfl fun a hE => WL.nil ?_))
    obtain ⟨q189, hq188, hq153⟩ := bndS hq153
    refine W.cut (fun a w => ∃ (q192 : Int), ∃ (q193 : Int), (q192, q193) = q189 ∧ Rep a 82 [(0, pp pb0), (2, pp b67), (6, pp b141), (53, vi (Fishref2numbersOf (SlicesIndexLstring [(str [97, 108, 119, 97, 121, 115]), (str [99, 97, 114, 100]), (str [97, 103, 101]), (str [116, 105, 109, 101]), (str [107, 109]), (str [99, 111, 117, 110, 116]), (str [116, 111, 117, 99, 104]), (str [98, 101, 103, 105, 110]), (str [102, 105, 110, 105, 115, 104])] q68.1))), (54, vi q159)] ∧ St w s137 (pc pb0 #[.slice a174 q172.2.1.length c175, .bool q185] 141 :: vecC 9 1 a174 c175 q172.2.1.length cs177 :: pc b141 #[vi (SlicesIndexLstring [(str [97, 108, 119, 97, 121, 115]), (str [99, 97, 114, 100]), (str [97, 103, 101]), (str [116, 105, 109, 101]), (str [107, 109]), (str [99, 111, 117, 110, 116]), (str [116, 111, 117, 99, 104]), (str [98, 101, 103, 105, 110]), (str [102, 105, 110, 105, 115, 104])] q68.1), vi q192, vi q193, .slice none 0 0] 43 :: pc b67 #[vi 0, vi 0, vi 0, .slice none 0 0] 43 :: R)) ?_ ?_
    ·refine W.gen fun K194 hK194 => ?_
     refine W.cond hE rfl (fun hc195 => ?_) (fun hc195 => ?_)
     ·replace hq188 := iteT hc195 hq188
      refine W.region ?_
      refine vp hS hE rfl rfl fun a hE => ?_
      refine vP hS hE (Gives.fld hE rfl fl43_1) rfl fun a hE => ?_
      refine WL.storeI hE hS 2 rfl [vi (SlicesIndexLstring [(str [97, 108, 119, 97, 121, 115]), (str [99, 97, 114, 100]), (str [97, 103, 101]), (str [116, 105, 109, 101]), (str [107, 109]), (str [99, 111, 117, 110, 116]), (str [116, 111, 117, 99, 104]), (str [98, 101, 103, 105, 110]), (str [102, 105, 110, 105, 115, 104])] q68.1), vi q179.1, vi q161, .slice none 0 0] (runs_plain rfl) rfl rfl rfl ty3 rfl rfl rfl rfl ?_; clear hE hS a w; intro a w hE hS
      refine WL.nil ?_
      subst hK194
      exact ⟨q179.1, q161, hq188, hE.pick _ ⟨rfl, rfl, rfl, rfl, rfl, trivial⟩, hS⟩
     replace hq188 := iteF hc195 hq188
     refine W.region ?_
     refine vp hS hE rfl rfl fun a hE => ?_
     refine vP hS hE (Gives.fld hE rfl fl43_2) rfl fun a hE => ?_
     refine WL.storeI hE hS 2 rfl [vi (SlicesIndexLstring [(str [97, 108, 119, 97, 121, 115]), (str [99, 97, 114, 100]), (str [97, 103, 101]), (str [116, 105, 109, 101]), (str [107, 109]), (str [99, 111, 117, 110, 116]), (str [116, 111, 117, 99, 104]), (str [98, 101, 103, 105, 110]), (str [102, 105, 110, 105, 115, 104])] q68.1), vi q160, vi q179.1, .slice none 0 0] (runs_plain rfl) rfl rfl rfl ty3 rfl rfl rfl rfl ?_; clear hE hS a w; intro a w hE hS
     refine WL.nil ?_
     subst hK194
     exact ⟨q160, q179.1, hq188, hE.pick _ ⟨rfl, rfl, rfl, rfl, rfl, trivial⟩, hS⟩
    clear hE hS a w; rintro a w ⟨q192, q193, rfl, hE, hS⟩
    dsimp only at hq153
    refine W.region ?_
    refine v2 hS hE rfl rfl rfl rfl fun a hE => WL.nil ?_
    replace hS := hS.front 3 rfl
    replace hS := hS.front 2 rfl
    replace hS := hS.front 2 rfl
    replace hS := hS.front 3 rfl
    subst hK170
    exact ⟨n155, Nat.lt_succ_self _, n155, (w64 (q159 + 1)), q192, q193, q172.2.1, q185, a174, c175, q172.2.1.length, cs177, rfl, hq153, h178, rfl, hE.pick _ ⟨rfl, rfl, rfl, rfl, rfl, trivial⟩, hS⟩
   replace hq153 := iteF hc171 hq153
   subst hK170
   refine W.exit rfl ?_
   exact ⟨q159, q160, q161, q162, q169, a163, c164, q162.length, cs167, Option.some.inj hq153, h165, rfl, hE.pick _ ⟨rfl, rfl, trivial⟩, hS⟩
  clear hE hS a w; rintro a w ⟨q159, q160, q161, q162, q169, a163, c164, n166, cs167, rfl, h165, rfl, hE, hS⟩
  dsimp only at hr
  refine W.seq (W.region (vP hS hE (Gives.loadBA hE 0 rfl rfl ty43) rfl fun a hE => ?_))
  refine WL.storeI hE hS 3 rfl [vi (SlicesIndexLstring [(str [97, 108, 119, 97, 121, 115]), (str [99, 97, 114, 100]), (str [97, 103, 101]), (str [116, 105, 109, 101]), (str [107, 109]), (str [99, 111, 117, 110, 116]), (str [116, 111, 117, 99, 104]), (str [98, 101, 103, 105, 110]), (str [102, 105, 110, 105, 115, 104])] q68.1), vi q160, vi q161, .slice none 0 0] (runs_plain rfl) rfl rfl rfl ty43 rfl rfl rfl rfl ?_; clear hE hS a w; intro a w hE hS
  refine WL.nil ?_
  refine W.ret ?_
  refine finG (fn := Tryz.f119) (rs := [.cell 2 43]) (vs := [_]) hE rfl ⟨⟨_, rfl, .inl ⟨_, rfl, hS.seesAt 3 rfl, ty43⟩⟩, trivial⟩ ?_
  obtain rfl := Option.some.inj hr
  replace hS := hS.tail
  replace hS := hS.dropAt 2
  exact ⟨_, a163, c164, q162.length, cs167, s137, rfl, hle138, (RFareCond.fold ⟨_, _, rfl, Sl.nil⟩), h165, rfl, hS⟩
set_option maxHeartbeats 8000000 in
theorem Fishref2kidText_ok  {self_Fishref2CondText : FareCond → Option ByteArray} (ih_Fishref2CondText : ∀ {w : World} {s : Sg} {R : List HP} {x0 : FareCond} {a0_0 : Option Addr} {c0_0 : Nat} (_hS : St w s (R)) (_hTab : TabX s) (_h0_0 : Sl 4 RFareCond s a0_0 c0_0 x0.Kids) {r : ByteArray} (_hr : self_Fishref2CondText x0 = some r), Calls Tryz.prog 21 [.agg (List.toArray [vi x0.Kind, vi x0.A, vi x0.B, .slice a0_0 x0.Kids.length c0_0])].toArray w (fun e w => e = .returned (.string r) ∧ St w s (R))) {w : World} {s : Sg} {R : List HP} {x0 : FareCond} {a0_0 : Option Addr} {c0_0 : Nat} {x1 : FareCond} {a1_0 : Option Addr} {c1_0 : Nat} (hS : St w s (R)) (hTab : TabX s) (_h0_0 : Sl 4 RFareCond s a0_0 c0_0 x0.Kids) (h1_0 : Sl 4 RFareCond s a1_0 c1_0 x1.Kids) {r : ByteArray} (hr : Fishref2kidText self_Fishref2CondText x0 x1 = some r) :
  Calls Tryz.prog 45 [.agg (List.toArray [vi x0.Kind, vi x0.A, vi x0.B, .slice a0_0 x0.Kids.length c0_0]), .agg (List.toArray [vi x1.Kind, vi x1.A, vi x1.B, .slice a1_0 x1.Kids.length c1_0])].toArray w (fun e w => e = .returned (.string r) ∧ St w s (R)) := by
 refine enter Tryz.func45 rfl rfl rfl fun a hE => ?_
 rw [Fishref2kidText] at hr
 refine W.seq (W.region ?_)
 refine WL.box hE hS (runs_plain rfl) rfl rfl rfl ?_; clear hE hS a w; intro b51 a w hE hS
 refine WL.box hE hS (runs_plain rfl) rfl rfl rfl ?_; clear hE hS a w; intro b52 a w hE hS
 refine vp hS hE rfl rfl fun a hE => WL.nil ?_
 refine W.seq (W.region (vP hS hE (Gives.loadBA hE 0 rfl rfl ty43) rfl fun a hE => ?_))
 obtain ⟨q53, hq54, hr⟩ := bindS hr
 have hc_ := ih_Fishref2CondText hS (TabG.mono (Sg.Le.refl _) hTab) h1_0 hq54
 refine WL.fnq hE (hc_) (runs_plain rfl) bd21 rfl rfl rfl ?_
 clear hE hS hc_; rintro e w ⟨rfl, hS⟩; refine ⟨_, rfl, ?_⟩; clear a; intro a hE
 refine vp hS hE rfl rfl fun a hE => WL.nil ?_
 refine W.seq ?_
 refine W.seq ?_
 obtain ⟨q56, hq55, hr⟩ := bndS hr
 refine W.cut (fun a w => ∃ (q59 : Bool), q59 = q56 ∧ Rep a 25 [(5, .string q53), (20, .bool q59)] ∧ St w s (pc b52 #[vi x1.Kind, vi x1.A, vi x1.B, .slice a1_0 x1.Kids.length c1_0] 43 :: pc b51 #[vi x0.Kind, vi x0.A, vi x0.B, .slice a0_0 x0.Kids.length c0_0] 43 :: R)) ?_ ?_
 ·refine W.gen fun K60 hK60 => ?_
  refine W.region ?_
  refine vP hS hE (Gives.fld hE rfl fl43_0) rfl fun a hE => ?_
  refine vP hS hE (Gives.loadB hE 0 rfl rfl rfl ty3) rfl fun a hE => ?_
  refine v2 hS hE rfl rfl rfl rfl fun a hE => ?_
  rcases Bool.eq_false_or_eq_true (x1.Kind == 11) with hg61 | hg61
  ·replace hq55 := iteT hg61 hq55
   refine nO hE rfl rfl rfl (by rw [hg61]; decide) rfl fun a hE => ?_
   refine nO hE rfl rfl rfl (by rw [hg61]; decide) rfl fun a hE => ?_
   refine nO hE rfl rfl rfl (by rw [hg61]; decide) rfl fun a hE => ?_
   refine nO hE rfl rfl rfl (by rw [hg61]; decide) rfl fun a hE => ?_
   refine WL.no hE (runs_undef hE rfl rfl rfl) rfl fun a hE => ?_
   refine WL.no hE (runs_undef hE rfl rfl rfl) rfl fun a hE => ?_
   refine WL.no hE (runs_undef hE rfl rfl rfl) rfl fun a hE => ?_
   refine nO hE rfl rfl rfl (by rw [hg61]; decide) rfl fun a hE => ?_
   refine vP hS hE (Gives.pickT hE rfl hg61 rfl) rfl fun a hE => WL.nil ?_
   subst hK60
   exact ⟨true, hq55, hE.pick _ ⟨rfl, rfl, trivial⟩, hS⟩
  replace hq55 := iteF hg61 hq55
  refine WL.vS hS hE (runs_if hE rfl rfl rfl hg61) (Gives.fld hE rfl fl43_0) rfl fun a hE => ?_
  refine WL.vS hS hE (runs_if hE rfl rfl rfl hg61) (Gives.loadB hE 0 rfl rfl rfl ty3) rfl fun a hE => ?_
  refine WL.vS hS hE (runs_if hE rfl rfl rfl hg61) (Gives.p hE rfl) rfl fun a hE => ?_
  refine WL.vS hS hE (runs_if hE rfl rfl rfl hg61) (Gives.p hE rfl) rfl fun a hE => ?_
  rcases Bool.eq_false_or_eq_true (x1.Kind == 10) with hg62 | hg62
  ·replace hq55 := iteT hg62 hq55
   refine WL.vS hS hE (runs_if hE rfl rfl rfl hg62) (Gives.fld hE rfl fl43_0) rfl fun a hE => ?_
   refine WL.vS hS hE (runs_if hE rfl rfl rfl hg62) (Gives.loadB hE 1 rfl rfl rfl ty3) rfl fun a hE => ?_
   refine WL.vS hS hE (runs_if hE rfl rfl rfl hg62) (Gives.p hE rfl) rfl fun a hE => ?_
   refine WL.vS hS hE (runs_if hE rfl rfl rfl hg61) (Gives.pickT hE rfl hg62 rfl) rfl fun a hE => ?_
   refine vP hS hE (Gives.pickF hE rfl hg61 rfl) rfl fun a hE => WL.nil ?_
   subst hK60
   exact ⟨(x0.Kind != 11), hq55, hE.pick _ ⟨rfl, rfl, trivial⟩, hS⟩
  replace hq55 := iteF hg62 hq55
  refine nO hE rfl rfl rfl (by rw [hg62]; decide) rfl fun a hE => ?_
  refine nO hE rfl rfl rfl (by rw [hg62]; decide) rfl fun a hE => ?_
  refine nO hE rfl rfl rfl (by rw [hg62]; decide) rfl fun a hE => ?_
  refine WL.vS hS hE (runs_if hE rfl rfl rfl hg61) (Gives.pickF hE rfl hg62 rfl) rfl fun a hE => ?_
  refine vP hS hE (Gives.pickF hE rfl hg61 rfl) rfl fun a hE => WL.nil ?_
  subst hK60
  exact ⟨false, hq55, hE.pick _ ⟨rfl, rfl, trivial⟩, hS⟩
 clear hE hS a w; rintro a w ⟨q59, rfl, hE, hS⟩
 refine W.cond hE rfl (fun hc63 => ?_) (fun hc63 => ?_)
 ·replace hr := iteT hc63 hr
  refine W.seq (W.region (vp hS hE rfl rfl fun a hE => ?_))
  obtain ⟨x64, hx65, hr⟩ := bindS hr
  refine vP hS hE (Gives.catS hE rfl rfl hx65) rfl fun a hE => ?_
  obtain ⟨x66, hx67, hr⟩ := bindS hr
  refine vP hS hE (Gives.catS hE rfl rfl hx67) rfl fun a hE => ?_
  refine vp hS hE rfl rfl fun a hE => WL.nil ?_
  refine W.ret ?_
  refine finG (fn := Tryz.f45) (rs := [.tmp 4]) (vs := [_]) hE rfl ⟨rfl, trivial⟩ ?_
  obtain rfl := Option.some.inj hr
  replace hS := hS.tail
  replace hS := hS.tail
  exact ⟨rfl, hS⟩
 replace hr := iteF hc63 hr
 refine W.skip ?_
 refine W.seq (W.region (v2 hS hE rfl rfl rfl rfl fun a hE => WL.nil ?_))
 refine W.ret ?_
 refine finG (fn := Tryz.f45) (rs := [.tmp 4]) (vs := [_]) hE rfl ⟨rfl, trivial⟩ ?_
 obtain rfl := Option.some.inj hr
 replace hS := hS.tail
 replace hS := hS.tail
 exact ⟨rfl, hS⟩
set_option maxHeartbeats 8000000 in
theorem Fishref2CondText_ok : ∀ {fu : Nat} {w : World} {s : Sg} {R : List HP} {x0 : FareCond} {a0_0 : Option Addr} {c0_0 : Nat} (_hS : St w s (R)) (_hTab : TabX s) (_h0_0 : Sl 4 RFareCond s a0_0 c0_0 x0.Kids) {r : ByteArray} (_hr : Fishref2CondText fu x0 = some r),
  Calls Tryz.prog 21 [.agg (List.toArray [vi x0.Kind, vi x0.A, vi x0.B, .slice a0_0 x0.Kids.length c0_0])].toArray w (fun e w => e = .returned (.string r) ∧ St w s (R)) := by
 intro fu
 induction fu with
 | zero => intro w s R x0 a0_0 c0_0 hS hTab h0_0 r hr; rw [Fishref2CondText] at hr; exact absurd hr (by simp)
 | succ fu ih_Fishref2CondText =>
  intro w s R x0 a0_0 c0_0 hS hTab h0_0 r hr
  rw [Fishref2CondText] at hr
  generalize Fishref2CondText fu = self_Fishref2CondText at hr ih_Fishref2CondText
  refine enter Tryz.func21 rfl rfl rfl fun a hE => ?_
  refine W.seq (W.region ?_)
  refine WL.box hE hS (runs_plain rfl) rfl rfl rfl ?_; clear hE hS a w; intro b51 a w hE hS
  refine vp hS hE rfl rfl fun a hE => WL.nil ?_
  refine W.seq (W.region ?_)
  refine WL.lit hE hS (e := 9) (es := 1) (vs := [(0, .string (str [97, 108, 119, 97, 121, 115])), (1, .string (str [99, 97, 114, 100])), (2, .string (str [97, 103, 101])), (3, .string (str [116, 105, 109, 101])), (4, .string (str [107, 109])), (5, .string (str [99, 111, 117, 110, 116])), (6, .string (str [116, 111, 117, 99, 104])), (7, .string (str [98, 101, 103, 105, 110])), (8, .string (str [102, 105, 110, 105, 115, 104]))]) (cs := [.string (str [97, 108, 119, 97, 121, 115]), .string (str [99, 97, 114, 100]), .string (str [97, 103, 101]), .string (str [116, 105, 109, 101]), .string (str [107, 109]), .string (str [99, 111, 117, 110, 116]), .string (str [116, 111, 117, 99, 104]), .string (str [98, 101, 103, 105, 110]), .string (str [102, 105, 110, 105, 115, 104])]) (runs_plain rfl) rfl (by kernel_rfl) rfl ?_; clear hE hS a w; intro b52 a w hE hS
  replace hS := hS.ptVec (es := 1) (m := 9) rfl (by decide)
  have h54 : Ev 1 RS s [.string (str [97, 108, 119, 97, 121, 115]), .string (str [99, 97, 114, 100]), .string (str [97, 103, 101]), .string (str [116, 105, 109, 101]), .string (str [107, 109]), .string (str [99, 111, 117, 110, 116]), .string (str [116, 111, 117, 99, 104]), .string (str [98, 101, 103, 105, 110]), .string (str [102, 105, 110, 105, 115, 104])] [(str [97, 108, 119, 97, 121, 115]), (str [99, 97, 114, 100]), (str [97, 103, 101]), (str [116, 105, 109, 101]), (str [107, 109]), (str [99, 111, 117, 110, 116]), (str [116, 111, 117, 99, 104]), (str [98, 101, 103, 105, 110]), (str [102, 105, 110, 105, 115, 104])] := (Ev.cons (c1 := [.string (str [97, 108, 119, 97, 121, 115])]) rfl rfl (Ev.cons (c1 := [.string (str [99, 97, 114, 100])]) rfl rfl (Ev.cons (c1 := [.string (str [97, 103, 101])]) rfl rfl (Ev.cons (c1 := [.string (str [116, 105, 109, 101])]) rfl rfl (Ev.cons (c1 := [.string (str [107, 109])]) rfl rfl (Ev.cons (c1 := [.string (str [99, 111, 117, 110, 116])]) rfl rfl (Ev.cons (c1 := [.string (str [116, 111, 117, 99, 104])]) rfl rfl (Ev.cons (c1 := [.string (str [98, 101, 103, 105, 110])]) rfl rfl (Ev.cons (c1 := [.string (str [102, 105, 110, 105, 115, 104])]) rfl rfl (Ev.nil))))))))))
  have hF := hS.fixD RS.mono 0 rfl h54 (rfl); clear hS; obtain ⟨s55, hle56, hS, h57⟩ := hF
  replace h0_0 := Sl.mono RFareCond.mono hle56 h0_0
  refine vp hS hE rfl rfl fun a hE => WL.nil ?_
  refine W.seq ?_
  refine W.seq (W.region (vP hS hE (Gives.fld hE rfl fl43_0) rfl fun a hE => ?_))
  refine vP hS hE (Gives.loadB hE 0 rfl rfl rfl ty3) rfl fun a hE => WL.nil ?_
  refine W.block ?_
  refine W.seq (W.region (v2 hS hE rfl rfl rfl rfl fun a hE => WL.nil ?_))
  obtain ⟨q59, hq58, hr⟩ := bindS hr
  refine W.cut (fun a w => .next () = q59 ∧ Rep a 69 [(1, pp b51), (3, .slice (some ⟨b52, 0, none⟩) 9 9)] ∧ St w s55 (pc b51 #[vi x0.Kind, vi x0.A, vi x0.B, .slice a0_0 x0.Kids.length c0_0] 43 :: R)) ?_ ?_
  ·refine W.gen fun K62 hK62 => ?_
   refine W.cond hE rfl (fun hc63 => ?_) (fun hc63 => ?_)
   ·replace hq58 := iteT hc63 hq58
    refine W.seq ?_
    refine W.regionQ (C := fun w => St w s55 (pc b51 #[vi x0.Kind, vi x0.A, vi x0.B, .slice a0_0 x0.Kids.length c0_0] 43 :: R)) mixed (by kernel_rfl) hS.drew ?_
    refine qP hE (Gives.loadBA hE 0 rfl rfl ty43) rfl fun a hE => ?_
    refine qP hE (Gives.fld hE rfl fl43_3) rfl fun a hE => ?_
    refine qP hE (Gives.loadB hE 0 rfl rfl rfl ty41) rfl fun a hE => ?_
    obtain ⟨x64, hx65, hq58⟩ := bindS hq58
    obtain ⟨hi66, hlt67, hy68⟩ := gx_some hx65
    obtain ⟨cs69, hl70, hR71, hat72⟩ := h0_0.at hy68
    obtain ⟨a73, c74, rfl, h75⟩ := hR71.unf
    refine qP hE (Gives.idx hE ((0 : Int)).toNat rfl rfl sl41 hi66 hlt67 (h0_0.aok hlt67)) rfl fun a hE => ?_
    refine qP hE (Gives.loadA hE rfl (fun w h => hat72 w _ h) ty43) rfl fun a hE => ?_
    obtain ⟨q76, hq77, hq58⟩ := bindS hq58
    refine QL.fnq hE (fun w hS => Fishref2kidText_ok @ih_Fishref2CondText hS (TabG.mono hle56 hTab) h0_0 h75 hq77) (runs_plain rfl) bd45 rfl rfl rfl fun a hE => ?_
    obtain ⟨x78, hx79, hq58⟩ := bindS hq58
    refine qP hE (Gives.catS hE rfl rfl hx79) rfl fun a hE => ?_
    refine qP hE (Gives.p hE rfl) rfl fun a hE => ?_
    refine QL.nil ?_; clear hS w; intro w hS
    refine W.ret ?_
    subst hK62
    rw [← Option.some.inj hq58] at hr
    dsimp only at hr
    refine finG (fn := Tryz.f21) (rs := [.tmp 2]) (vs := [_]) hE rfl ⟨rfl, trivial⟩ ?_
    obtain rfl := Option.some.inj hr
    replace hS := hS.tail
    exact ⟨rfl, (hS.down hle56)⟩
   replace hq58 := iteF hc63 hq58
   refine W.seq ?_
   refine W.seq (W.region (v2 hS hE rfl rfl rfl rfl fun a hE => WL.nil ?_))
   obtain ⟨q81, hq80, hq58⟩ := bndS hq58
   refine W.cut (fun a w => ∃ (q84 : Bool), q84 = q81 ∧ Rep a 69 [(1, pp b51), (3, .slice (some ⟨b52, 0, none⟩) 9 9), (22, .bool q84)] ∧ St w s55 (pc b51 #[vi x0.Kind, vi x0.A, vi x0.B, .slice a0_0 x0.Kids.length c0_0] 43 :: R)) ?_ ?_
   ·refine W.gen fun K85 hK85 => ?_
    refine W.cond hE rfl (fun hc86 => ?_) (fun hc86 => ?_)
    ·replace hq80 := iteT hc86 hq80
     refine W.skip ?_
     subst hK85
     exact ⟨(x0.Kind == 10), hq80, hE.pick _ ⟨rfl, rfl, rfl, trivial⟩, hS⟩
    replace hq80 := iteF hc86 hq80
    refine W.region ?_
    refine v2 hS hE rfl rfl rfl rfl fun a hE => WL.nil ?_
    subst hK85
    exact ⟨(x0.Kind == 11), hq80, hE.pick _ ⟨rfl, rfl, rfl, trivial⟩, hS⟩
   clear hE hS a w; rintro a w ⟨q84, rfl, hE, hS⟩
   refine W.cond hE rfl (fun hc87 => ?_) (fun hc87 => ?_)
   ·replace hq58 := iteT hc87 hq58
    refine W.seq (W.region (vp hS hE rfl rfl fun a hE => WL.nil ?_))
    refine W.seq ?_
    refine W.seq (W.region (vP hS hE (Gives.fld hE rfl fl43_0) rfl fun a hE => ?_))
    refine vP hS hE (Gives.loadB hE 0 rfl rfl rfl ty3) rfl fun a hE => ?_
    refine vp hS hE rfl rfl fun a hE => WL.nil ?_
    obtain ⟨q89, hq88, hq58⟩ := bndS hq58
    refine W.cut (fun a w => ∃ (q92 : ByteArray), q92 = q89 ∧ Rep a 69 [(1, pp b51), (4, .string q92)] ∧ St w s55 (pc b51 #[vi x0.Kind, vi x0.A, vi x0.B, .slice a0_0 x0.Kids.length c0_0] 43 :: R)) ?_ ?_
    ·refine W.gen fun K93 hK93 => ?_
     refine W.cond hE rfl (fun hc94 => ?_) (fun hc94 => ?_)
     ·replace hq88 := iteT hc94 hq88
      refine W.region ?_
      refine vp hS hE rfl rfl fun a hE => WL.nil ?_
      subst hK93
      exact ⟨(str [32, 111, 114, 32]), hq88, hE.pick _ ⟨rfl, rfl, trivial⟩, hS⟩
     replace hq88 := iteF hc94 hq88
     refine W.skip ?_
     subst hK93
     exact ⟨(str [32, 97, 110, 100, 32]), hq88, hE.pick _ ⟨rfl, rfl, trivial⟩, hS⟩
    clear hE hS a w; rintro a w ⟨q92, rfl, hE, hS⟩
    refine W.seq (W.region ?_)
    replace hS := hS.vecNil 9 1
    refine vp hS hE rfl rfl fun a hE => WL.nil ?_
    refine W.seq ?_
    refine W.seq (W.region (vP hS hE (Gives.fld hE rfl fl43_3) rfl fun a hE => ?_))
    refine vP hS hE (Gives.loadB hE 1 rfl rfl rfl ty41) rfl fun a hE => ?_
    refine vP hS hE (Gives.len hE rfl sl41) rfl fun a hE => ?_
    refine vp hS hE rfl rfl fun a hE => WL.nil ?_
    obtain ⟨q97, hq96, hq58⟩ := bindS hq58
    refine W.cut (fun a w => ∃ (q107 : List ByteArray), ∃ (a108 : Option Addr), ∃ (c109 : Nat), ∃ (n111 : Nat), ∃ (cs112 : List Value), q107 = q97 ∧ Ev 1 RS s55 cs112 q107 ∧ q107.length = n111 ∧ Rep a 69 [(4, .string q92), (5, .slice a108 n111 c109)] ∧ St w s55 (vecC 9 1 a108 c109 n111 cs112 :: pc b51 #[vi x0.Kind, vi x0.A, vi x0.B, .slice a0_0 x0.Kids.length c0_0] 43 :: R)) ?_ ?_
    ·refine W.block ?_
     refine W.loop (fun m a w => ∃ (rest100 : List FareCond) (k98 : Nat), ∃ (q107 : List ByteArray), ∃ (a108 : Option Addr), ∃ (c109 : Nat), ∃ (n111 : Nat), ∃ (cs112 : List Value), rest100.length = m ∧ x0.Kids.drop k98 = rest100 ∧ Fishref2CondText.loop1 x0 self_Fishref2CondText rest100 q107 = some q97 ∧ Ev 1 RS s55 cs112 q107 ∧ q107.length = n111 ∧ Rep a 69 [(1, pp b51), (4, .string q92), (5, .slice a108 n111 c109), (29, .slice a0_0 x0.Kids.length c0_0), (30, vi ((x0.Kids).length : Int)), (31, vi ((k98 : Nat) : Int))] ∧ St w s55 (vecC 9 1 a108 c109 n111 cs112 :: pc b51 #[vi x0.Kind, vi x0.A, vi x0.B, .slice a0_0 x0.Kids.length c0_0] 43 :: R)) (m := x0.Kids.length) ⟨x0.Kids, 0, [], none, 0, 0, [], rfl, rfl, hq96, (Ev.nil), (rfl), hE.pick _ ⟨rfl, rfl, rfl, rfl, rfl, rfl, trivial⟩, hS⟩ ?_
     clear hE hS a w hq96; rintro m104 a w ⟨rest100, k98, q107, a108, c109, n111, cs112, rfl, hd101, hq96, h110, rfl, hE, hS⟩
     refine W.gen fun K114 hK114 => ?_
     rcases rest100 with _ | ⟨x99, rest100⟩
     ·have hlt102 := drop_nil hd101
      refine W.seq (W.region (vp hS hE rfl rfl fun a hE => WL.nil ?_))
      refine W.seq ?_
      refine W.condF hE rfl (decide_eq_false (by omega)) ?_
      subst hK114
      refine W.exit rfl ?_
      exact ⟨q107, a108, c109, q107.length, cs112, Option.some.inj hq96, h110, rfl, hE.pick _ ⟨rfl, rfl, trivial⟩, hS⟩
     obtain ⟨hlt102, hx103, hd101⟩ := drop_cons hd101
     rw [Fishref2CondText.loop1] at hq96
     refine W.seq (W.region (vp hS hE rfl rfl fun a hE => WL.nil ?_))
     refine W.seq ?_
     refine W.condT hE rfl (decide_eq_true (by omega)) ?_
     refine W.skip ?_
     refine W.seq ?_
     refine W.block ?_
     refine W.seq (W.region ?_)
     obtain ⟨cs115, hl116, hR117, hat118⟩ := h0_0.at hx103
     obtain ⟨a119, c120, rfl, h121⟩ := hR117.unf
     refine vP hS hE (Gives.idx hE k98 rfl rfl sl41 rfl hlt102 (h0_0.aok hlt102)) rfl fun a hE => ?_
     refine vP hS hE (Gives.loadA hE rfl (fun w h => hat118 w _ h) ty43) rfl fun a hE => ?_
     refine WL.alloc hE hS (runs_plain rfl) zr43 rfl ?_; clear hE hS a w; intro b122 a w hE hS
     refine WL.storeI hE hS 0 rfl [vi x99.Kind, vi x99.A, vi x99.B, .slice a119 x99.Kids.length c120] (runs_plain rfl) rfl rfl rfl ty43 rfl rfl rfl rfl ?_; clear hE hS a w; intro a w hE hS
     refine WL.nil ?_
     refine W.region ?_
     refine vp hS hE rfl rfl fun a hE => ?_
     refine vP hS hE (Gives.loadBA hE 2 rfl rfl ty43) rfl fun a hE => ?_
     refine vP hS hE (Gives.loadBA hE 0 rfl rfl ty43) rfl fun a hE => ?_
     obtain ⟨q123, hq124, hq96⟩ := bindS hq96
     have hc_ := Fishref2kidText_ok @ih_Fishref2CondText hS (TabG.mono hle56 hTab) h0_0 h121 hq124
     refine WL.fnq hE (hc_) (runs_plain rfl) bd45 rfl rfl rfl ?_
     clear hE hS hc_; rintro e w ⟨rfl, hS⟩; refine ⟨_, rfl, ?_⟩; clear a; intro a hE
     refine WL.lit hE hS (e := 9) (es := 1) (vs := [(0, .string q123)]) (cs := [.string q123]) (runs_plain rfl) rfl (by kernel_rfl) rfl ?_; clear hE hS a w; intro b125 a w hE hS
     obtain ⟨x126, hx127, hq96⟩ := bindS hq96
     refine WL.appD hE hS 1 (m := 1) (runs_plain rfl) rfl rfl rfl ap59 rfl h110 rfl (xs := [q123]) (Ev.cons (c1 := [.string q123]) rfl rfl (Ev.nil)) rfl rfl hx127 rfl ?_; clear hE hS a w; intro a128 c129 cs130 a w h131 hE hS
     refine vp hS hE rfl rfl fun a hE => WL.nil ?_
     refine W.region ?_
     refine vP hS hE (Gives.inc hE rfl (by have := h0_0.small; omega)) rfl fun a hE => ?_
     refine vp hS hE rfl rfl fun a hE => WL.nil ?_
     replace hS := hS.tail
     subst hK114
     exact ⟨rest100.length, Nat.lt_succ_self _, rest100, k98 + 1, x126, a128, c129, x126.length, cs130, rfl, hd101, hq96, h131, (rfl), hE.pick _ ⟨rfl, rfl, rfl, rfl, rfl, rfl, trivial⟩, hS⟩
    clear hE hS a w; rintro a w ⟨q107, a108, c109, n111, cs112, rfl, h110, rfl, hE, hS⟩
    refine W.seq (W.region (v2 hS hE rfl rfl rfl rfl fun a hE => ?_))
    have hF := hS.fixD RS.mono 0 rfl h110 rfl; clear hS; obtain ⟨s134, hle135, hS, h136⟩ := hF
    replace h0_0 := Sl.mono RFareCond.mono hle135 h0_0
    obtain ⟨q132, hq133, hq58⟩ := bindS hq58
    refine WL.fnq hE (join_ok hS h136 hq133) (runs_plain rfl) bd46 rfl rfl rfl ?_
    clear hE hS; rintro e w ⟨rfl, hS⟩; refine ⟨_, rfl, ?_⟩; clear a; intro a hE
    refine vp hS hE rfl rfl fun a hE => WL.nil ?_
    refine W.ret ?_
    subst hK62
    rw [← Option.some.inj hq58] at hr
    dsimp only at hr
    refine finG (fn := Tryz.f21) (rs := [.tmp 2]) (vs := [_]) hE rfl ⟨rfl, trivial⟩ ?_
    obtain rfl := Option.some.inj hr
    replace hS := hS.tail
    exact ⟨rfl, (hS.down (Sg.Le.trans hle56 hle135))⟩
   replace hq58 := iteF hc87 hq58
   refine W.skip ?_
   subst hK62
   exact ⟨Option.some.inj hq58, hE.pick _ ⟨rfl, rfl, trivial⟩, hS⟩
  clear hE hS a w; rintro a w ⟨rfl, hE, hS⟩
  dsimp only at hr
  refine W.seq (W.region (vp hS hE rfl rfl fun a hE => ?_))
  refine vP hS hE (Gives.fld hE rfl fl43_0) rfl fun a hE => ?_
  refine vP hS hE (Gives.loadB hE 0 rfl rfl rfl ty3) rfl fun a hE => ?_
  obtain ⟨x137, hx138, hr⟩ := bindS hr
  obtain ⟨hi139, hlt140, hy141⟩ := gx_some hx138
  obtain ⟨cs142, hl143, hR144, hat145⟩ := h57.at hy141
  subst hR144
  refine vP hS hE (Gives.idx hE (x0.Kind).toNat rfl rfl sl59 hi139 hlt140 (h57.aok hlt140)) rfl fun a hE => ?_
  refine vP hS hE (Gives.load1 hE rfl (fun w h => hat145 w _ h) ty9) rfl fun a hE => ?_
  refine vp hS hE rfl rfl fun a hE => WL.nil ?_
  refine W.seq ?_
  refine W.seq (W.region (vP hS hE (Gives.fld hE rfl fl43_0) rfl fun a hE => ?_))
  refine vP hS hE (Gives.loadB hE 0 rfl rfl rfl ty3) rfl fun a hE => ?_
  refine WL.fnq hE (Fishref2numbersOf_ok hS  rfl (r := Fishref2numbersOf x0.Kind)) (runs_plain rfl) bd47 rfl rfl rfl ?_
  clear hE hS; rintro e w ⟨rfl, hS⟩; refine ⟨_, rfl, ?_⟩; clear a; intro a hE
  refine vp hS hE rfl rfl fun a hE => WL.nil ?_
  obtain ⟨q158, hq157, hr⟩ := bindS hr
  refine W.cut (fun a w => ∃ (q163 : ByteArray), ∃ (q164 : Int), (q163, q164) = q158 ∧ Rep a 69 [(8, .string q163)] ∧ St w s55 (pc b51 #[vi x0.Kind, vi x0.A, vi x0.B, .slice a0_0 x0.Kids.length c0_0] 43 :: R)) ?_ ?_
  ·refine W.block ?_
   refine W.loop (fun m a w => ∃ (n159 : Nat), ∃ (q163 : ByteArray), ∃ (q164 : Int), n159 = m ∧ Fishref2CondText.loop3 x0 n159 q163 q164 = some q158 ∧ Rep a 69 [(1, pp b51), (8, .string q163), (52, vi (Fishref2numbersOf x0.Kind)), (53, vi q164)] ∧ St w s55 (pc b51 #[vi x0.Kind, vi x0.A, vi x0.B, .slice a0_0 x0.Kids.length c0_0] 43 :: R)) (m := fu) ⟨fu, x137, 0, rfl, hq157, hE.pick _ ⟨rfl, rfl, rfl, rfl, trivial⟩, hS⟩ ?_
   clear hE hS a w hq157; rintro m160 a w ⟨n159, q163, q164, rfl, hq157, hE, hS⟩
   refine W.gen fun K165 hK165 => ?_
   rcases n159 with _ | n159
   ·rw [Fishref2CondText.loop3] at hq157; exact absurd hq157 (by simp)
   rw [Fishref2CondText.loop3] at hq157
   refine W.seq (W.region (vp hS hE rfl rfl fun a hE => WL.nil ?_))
   refine W.seq ?_
   refine W.cond hE rfl (fun hc166 => ?_) (fun hc166 => ?_)
   ·replace hq157 := iteT hc166 hq157
    refine W.skip ?_
    refine W.seq ?_
    refine W.block ?_
    refine W.seq (W.region (v2 hS hE rfl rfl rfl rfl fun a hE => WL.nil ?_))
    refine W.region ?_
    refine vp hS hE rfl rfl fun a hE => ?_
    refine vP hS hE (Gives.fld hE rfl fl43_1) rfl fun a hE => ?_
    refine vP hS hE (Gives.loadB hE 0 rfl rfl rfl ty3) rfl fun a hE => ?_
    refine vP hS hE (Gives.fld hE rfl fl43_2) rfl fun a hE => ?_
    refine vP hS hE (Gives.loadB hE 0 rfl rfl rfl ty3) rfl fun a hE => ?_
    refine vP hS hE (Gives.build hE (vs := [(0, vi x0.A), (1, vi x0.B)]) [vi x0.A, vi x0.B] rfl (by kernel_rfl)) rfl fun a hE => ?_
    refine vp hS hE rfl rfl fun a hE => ?_
    obtain ⟨x167, hx168, hq157⟩ := bindS hq157
    obtain ⟨hi169, hlt170, hy171⟩ := gx_some hx168
    refine vP hS hE (Gives.indexMi hE (f := (Value.int .i64)) (l := [x0.A, x0.B]) ar96 rfl rfl rfl rfl hi169 hy171) rfl fun a hE => ?_
    obtain ⟨q172, hq173, hq157⟩ := bindS hq157
    refine WL.fnq hE (itoa_ok hS (TabG.mono hle56 hTab).tab hq173) (runs_plain rfl) bd20 rfl rfl rfl ?_
    clear hE hS; rintro e w ⟨rfl, hS⟩; refine ⟨_, rfl, ?_⟩; clear a; intro a hE
    obtain ⟨x174, hx175, hq157⟩ := bindS hq157
    refine vP hS hE (Gives.catS hE rfl rfl hx175) rfl fun a hE => ?_
    obtain ⟨x176, hx177, hq157⟩ := bindS hq157
    refine vP hS hE (Gives.catS hE rfl rfl hx177) rfl fun a hE => ?_
    refine vp hS hE rfl rfl fun a hE => WL.nil ?_
    refine W.region ?_
    refine v2 hS hE rfl rfl rfl rfl fun a hE => WL.nil ?_
    subst hK165
    exact ⟨n159, Nat.lt_succ_self _, n159, x176, (w64 (q164 + 1)), rfl, hq157, hE.pick _ ⟨rfl, rfl, rfl, rfl, trivial⟩, hS⟩
   replace hq157 := iteF hc166 hq157
   subst hK165
   refine W.exit rfl ?_
   exact ⟨q163, q164, Option.some.inj hq157, hE.pick _ ⟨rfl, trivial⟩, hS⟩
  clear hE hS a w; rintro a w ⟨q163, q164, rfl, hE, hS⟩
  dsimp only at hr
  refine W.seq (W.region (v2 hS hE rfl rfl rfl rfl fun a hE => WL.nil ?_))
  refine W.ret ?_
  refine finG (fn := Tryz.f21) (rs := [.tmp 2]) (vs := [_]) hE rfl ⟨rfl, trivial⟩ ?_
  obtain rfl := Option.some.inj hr
  replace hS := hS.tail
  exact ⟨rfl, (hS.down hle56)⟩
set_option maxHeartbeats 8000000 in
theorem Fishref2condOf_ok {fu : Nat}  {w : World} {s : Sg} {R : List HP} {x0 : ByteArray} (hS : St w s (R)) (hTab : TabX s) {r : FareCond × Bool} (hr : Fishref2condOf fu x0 = some r) :
  Calls Tryz.prog 73 [.string x0].toArray w (fun e w => ∃ (cs0 : List Value) (t : Sg), e = .returned (.tuple #[.agg cs0.toArray, .bool r.2]) ∧ s.Le t ∧ RFareCond t cs0 r.1 ∧ St w t (R)) := by
 refine enter Tryz.func73 rfl rfl rfl fun a hE => ?_
 rw [Fishref2condOf] at hr
 refine W.seq (W.region ?_)
 refine WL.alloc hE hS (runs_plain rfl) zr43 rfl ?_; clear hE hS a w; intro b51 a w hE hS
 refine vp hS hE rfl rfl fun a hE => WL.nil ?_
 refine W.seq (W.region (vp hS hE rfl rfl fun a hE => ?_))
 obtain ⟨q52, hq53, hr⟩ := bindS hr
 have hc_ := Fishref2tokens_ok hS (TabG.mono (Sg.Le.refl _) hTab) hq53
 refine WL.fnq hE (hc_) (runs_plain rfl) bd95 rfl rfl rfl ?_
 clear hE hS hc_; rintro e w ⟨a54, c55, n56, cs57, s60, rfl, hle61, h58, rfl, hS⟩; refine ⟨_, rfl, ?_⟩; clear a; intro a hE
 refine vP hS hE (Gives.build hE (vs := [(0, .slice a54 q52.length c55)]) [.slice a54 q52.length c55, .bool false] rfl (by kernel_rfl)) rfl fun a hE => ?_
 refine WL.box hE hS (runs_plain rfl) rfl rfl rfl ?_; clear hE hS a w; intro b62 a w hE hS
 refine vp hS hE rfl rfl fun a hE => WL.nil ?_
 refine W.seq (W.region (vp hS hE rfl rfl fun a hE => ?_))
 obtain ⟨q63, hq64, hr⟩ := bindS hr
 have hc_ := Fishref2Parserwhole_v2_ok (y0 := (Fishref2Parser.mk q52 false)) (@Fishref2Parserunit_v1_ok fu) hS (TabG.mono hle61 hTab) h58 rfl hq64
 refine WL.fnq hE (hc_) (runs_plain rfl) bd96 rfl rfl rfl ?_
 clear hE hS hc_; rintro e w ⟨cs65, a67, c68, n69, cs70, s72, rfl, hle73, h66, h71, rfl, hS⟩; refine ⟨_, rfl, ?_⟩; clear a; intro a hE
 replace h58 := Ev.mono RS.mono hle73 h58
 obtain ⟨a74, c75, rfl, h76⟩ := h66.unf
 refine WL.alloc hE hS (runs_plain rfl) zr43 rfl ?_; clear hE hS a w; intro b77 a w hE hS
 refine WL.storeI hE hS 0 rfl [vi q63.1.Kind, vi q63.1.A, vi q63.1.B, .slice a74 q63.1.Kids.length c75] (runs_plain rfl) rfl rfl rfl ty43 rfl rfl rfl rfl ?_; clear hE hS a w; intro a w hE hS
 refine WL.nil ?_
 refine W.seq ?_
 obtain ⟨q79, hq78, hr⟩ := bindS hr
 refine W.cut (fun a w => ∃ (q82 : Bool), ∃ (q83 : Int), ∃ (q84 : Int), ∃ (q85 : Int), ∃ (q86 : List FareCond), ∃ (a87 : Option Addr), ∃ (c88 : Nat), (q82, q83, q84, q85, q86) = q79 ∧ Sl 4 RFareCond s72 a87 c88 q86 ∧ Rep a 32 [(2, pp b51), (3, .bool q82)] ∧ St w s72 (pc b77 #[vi q63.1.Kind, vi q63.1.A, vi q63.1.B, .slice a74 q63.1.Kids.length c75] 43 :: pc b62 #[.slice a67 q63.2.1.length c68, .bool q63.2.2] 141 :: vecC 9 1 a67 c68 q63.2.1.length cs70 :: pc b51 #[vi q83, vi q84, vi q85, .slice a87 q86.length c88] 43 :: R)) ?_ ?_
 ·refine W.gen fun K90 hK90 => ?_
  refine W.gen fun K91 hK91 => ?_
  refine rE hS [] [3] [0, 1, 2, 3, 4, 5, 6, 7, 8, 9, 10, 11, 12, 13, 14, 15, 16, 17, 18, 19, 21] [0, 1, 2, 3, 4, 5, 6, 7, 8, 9, 10, 11, 12, 13, 14, 15, 16, 17, 18, 19, 20, 21] mixed ?_
  replace hS := hS.drew
  refine tT (i := 0) true rfl hE rfl (by kernel_rfl) (Gives.loadBA hE 0 rfl rfl ty43) rfl hS (hS.dropAt 3) fun a hE => ?_
  refine tP (i := 1) hE rfl (by kernel_rfl) (Gives.p hE rfl) rfl hS (hS.dropAt 3) fun a hE => ?_
  refine tT (i := 2) false rfl hE rfl (by kernel_rfl) (Gives.nilOk hE rfl) rfl hS (hS.dropAt 3) fun a hE => ?_
  refine tP (i := 3) hE rfl (by kernel_rfl) (Gives.fld hE rfl fl141_1) rfl hS (hS.dropAt 3) fun a hE => ?_
  refine tT (i := 4) false rfl hE rfl (by kernel_rfl) (Gives.loadB hE 1 rfl rfl rfl ty4) rfl hS (hS.dropAt 3) fun a hE => ?_
  refine tP (i := 5) hE rfl (by kernel_rfl) (Gives.p hE rfl) rfl hS (hS.dropAt 3) fun a hE => ?_
  refine tP (i := 6) hE rfl (by kernel_rfl) (Gives.p hE rfl) rfl hS (hS.dropAt 3) fun a hE => ?_
  rcases Bool.eq_false_or_eq_true !q63.2.2 with hg92 | hg92
  ·replace hq78 := iteT hg92 hq78
   refine Rg.takeP (i := 7) hE rfl (by kernel_rfl) (runs_if hE rfl rfl rfl hg92) (Gives.p hE rfl) rfl (tw_sel (fun _ => hS) (fun _ => (hS.dropAt 3))) fun a hE => ?_
   refine Rg.take (i := 8) false rfl hE rfl (by kernel_rfl) (runs_if hE rfl rfl rfl hg92) (Gives.nilOk hE rfl) rfl (tw_sel (fun _ => hS) (fun _ => (hS.dropAt 3))) fun a hE => ?_
   refine Rg.takeP (i := 9) hE rfl (by kernel_rfl) (runs_if hE rfl rfl rfl hg92) (Gives.fld hE rfl fl141_0) rfl (tw_sel (fun _ => hS) (fun _ => (hS.dropAt 3))) fun a hE => ?_
   refine Rg.take (i := 10) false rfl hE rfl (by kernel_rfl) (runs_if hE rfl rfl rfl hg92) (Gives.loadB hE 1 rfl rfl rfl ty59) rfl (tw_sel (fun _ => hS) (fun _ => (hS.dropAt 3))) fun a hE => ?_
   refine Rg.takeP (i := 11) hE rfl (by kernel_rfl) (runs_if hE rfl rfl rfl hg92) (Gives.len hE rfl sl59) rfl (tw_sel (fun _ => hS) (fun _ => (hS.dropAt 3))) fun a hE => ?_
   refine Rg.takeP (i := 12) hE rfl (by kernel_rfl) (runs_if hE rfl rfl rfl hg92) (Gives.p hE rfl) rfl (tw_sel (fun _ => hS) (fun _ => (hS.dropAt 3))) fun a hE => ?_
   refine tP (i := 13) hE rfl (by kernel_rfl) (Gives.pickT hE rfl hg92 rfl) rfl hS (hS.dropAt 3) fun a hE => ?_
   refine tP (i := 14) hE rfl (by kernel_rfl) (Gives.p hE rfl) rfl hS (hS.dropAt 3) fun a hE => ?_
   rcases Bool.eq_false_or_eq_true (((q63.2.1.length : Nat) : Int) == 0) with hg93 | hg93
   ·replace hq78 := iteT hg93 hq78
    refine Rg.take (i := 15) false rfl hE rfl (by kernel_rfl) (runs_if hE rfl rfl rfl hg93) (Gives.loadBA hE 0 rfl rfl ty43) rfl (tw_sel (fun _ => hS) (fun _ => (hS.dropAt 3))) fun a hE => ?_
    refine Rg.takeP (i := 17) hE rfl (by kernel_rfl) (runs_if hE rfl rfl rfl hg93) (Gives.p hE rfl) rfl (tw_sel (fun _ => hS) (fun _ => (hS.dropAt 3))) fun a hE => ?_
    refine Rg.one (i := 16) true true rfl (by kernel_rfl) (by kernel_rfl) (by kernel_rfl) ?_
    obtain ⟨q94, hq95, hq78⟩ := bindS hq78
    have hc_ := Fishref2CondText_ok hS (TabG.mono (Sg.Le.trans hle61 hle73) hTab) h76 hq95
    refine WL.fnq hE (hc_) (runs_if hE rfl rfl rfl hg93) bd21 rfl rfl rfl ?_
    clear hE hS hc_; rintro e w ⟨rfl, hS⟩; refine ⟨_, rfl, ?_⟩; clear a; intro a hE
    refine WL.nil ?_
    refine ⟨⟨fun _ => hS, fun _ => (hS.dropAt 3)⟩, ?_⟩
    refine Rg.takeP (i := 18) hE rfl (by kernel_rfl) (runs_if hE rfl rfl rfl hg93) (Gives.eqSt hE rfl rfl) rfl (tw_sel (fun _ => hS) (fun _ => (hS.dropAt 3))) fun a hE => ?_
    refine tP (i := 19) hE rfl (by kernel_rfl) (Gives.pickT hE rfl hg93 rfl) rfl hS (hS.dropAt 3) fun a hE => ?_
    refine Rg.one (i := 20) false true rfl (by kernel_rfl) (by kernel_rfl) (by kernel_rfl) ?_
    refine WL.storeI hE hS 3 rfl [vi q63.1.Kind, vi q63.1.A, vi q63.1.B, .slice a74 q63.1.Kids.length c75] (runs_plain rfl) rfl rfl rfl ty43 rfl rfl rfl rfl ?_; clear hE hS a w; intro a w hE hS
    refine WL.nil ?_
    refine ⟨⟨fun h => absurd h (by decide), fun _ => (hS.dropAt 3)⟩, ?_⟩
    refine Rg.takeP (i := 21) hE rfl (by kernel_rfl) (runs_plain rfl) (Gives.p hE rfl) rfl (tw_sel (fun h => absurd h (by decide)) (fun _ => (hS.dropAt 3))) fun a hE => ?_
    refine Rg.done (by kernel_rfl) ?_
    subst hK91
    subst hK90
    exact ⟨(seq q94 x0), q63.1.Kind, q63.1.A, q63.1.B, q63.1.Kids, a74, c75, Option.some.inj hq78, h76, hE.pick _ ⟨rfl, rfl, trivial⟩, hS⟩
   replace hq78 := iteF hg93 hq78
   refine Rg.no (i := 15) hE rfl (by kernel_rfl) (runs_not hE rfl rfl rfl (by rw [hg93]; decide)) rfl (tw_sel (fun _ => hS) (fun _ => (hS.dropAt 3))) fun a hE => ?_
   refine Rg.no (i := 17) hE rfl (by kernel_rfl) (runs_not hE rfl rfl rfl (by rw [hg93]; decide)) rfl (tw_sel (fun _ => hS) (fun _ => (hS.dropAt 3))) fun a hE => ?_
   refine Rg.one (i := 16) true true rfl (by kernel_rfl) (by kernel_rfl) (by kernel_rfl) ?_
   refine nO hE rfl rfl rfl (by rw [hg93]; decide) rfl fun a hE => WL.nil ?_
   refine ⟨⟨fun _ => hS, fun _ => (hS.dropAt 3)⟩, ?_⟩
   refine Rg.no (i := 18) hE rfl (by kernel_rfl) (runs_not hE rfl rfl rfl (by rw [hg93]; decide)) rfl (tw_sel (fun _ => hS) (fun _ => (hS.dropAt 3))) fun a hE => ?_
   refine tP (i := 19) hE rfl (by kernel_rfl) (Gives.pickF hE rfl hg93 rfl) rfl hS (hS.dropAt 3) fun a hE => ?_
   refine Rg.one (i := 20) false true rfl (by kernel_rfl) (by kernel_rfl) (by kernel_rfl) ?_
   refine WL.storeI hE hS 3 rfl [vi q63.1.Kind, vi q63.1.A, vi q63.1.B, .slice a74 q63.1.Kids.length c75] (runs_plain rfl) rfl rfl rfl ty43 rfl rfl rfl rfl ?_; clear hE hS a w; intro a w hE hS
   refine WL.nil ?_
   refine ⟨⟨fun h => absurd h (by decide), fun _ => (hS.dropAt 3)⟩, ?_⟩
   refine Rg.takeP (i := 21) hE rfl (by kernel_rfl) (runs_plain rfl) (Gives.p hE rfl) rfl (tw_sel (fun h => absurd h (by decide)) (fun _ => (hS.dropAt 3))) fun a hE => ?_
   refine Rg.done (by kernel_rfl) ?_
   subst hK91
   subst hK90
   exact ⟨false, q63.1.Kind, q63.1.A, q63.1.B, q63.1.Kids, a74, c75, Option.some.inj hq78, h76, hE.pick _ ⟨rfl, rfl, trivial⟩, hS⟩
  replace hq78 := iteF hg92 hq78
  refine Rg.no (i := 7) hE rfl (by kernel_rfl) (runs_not hE rfl rfl rfl (by rw [hg92]; decide)) rfl (tw_sel (fun _ => hS) (fun _ => (hS.dropAt 3))) fun a hE => ?_
  refine Rg.no (i := 8) hE rfl (by kernel_rfl) (runs_not hE rfl rfl rfl (by rw [hg92]; decide)) rfl (tw_sel (fun _ => hS) (fun _ => (hS.dropAt 3))) fun a hE => ?_
  refine Rg.no (i := 9) hE rfl (by kernel_rfl) (runs_not hE rfl rfl rfl (by rw [hg92]; decide)) rfl (tw_sel (fun _ => hS) (fun _ => (hS.dropAt 3))) fun a hE => ?_
  refine Rg.no (i := 10) hE rfl (by kernel_rfl) (runs_not hE rfl rfl rfl (by rw [hg92]; decide)) rfl (tw_sel (fun _ => hS) (fun _ => (hS.dropAt 3))) fun a hE => ?_
  refine Rg.no (i := 11) hE rfl (by kernel_rfl) (runs_not hE rfl rfl rfl (by rw [hg92]; decide)) rfl (tw_sel (fun _ => hS) (fun _ => (hS.dropAt 3))) fun a hE => ?_
  refine Rg.no (i := 12) hE rfl (by kernel_rfl) (runs_not hE rfl rfl rfl (by rw [hg92]; decide)) rfl (tw_sel (fun _ => hS) (fun _ => (hS.dropAt 3))) fun a hE => ?_
  refine tP (i := 13) hE rfl (by kernel_rfl) (Gives.pickF hE rfl hg92 rfl) rfl hS (hS.dropAt 3) fun a hE => ?_
  refine tP (i := 14) hE rfl (by kernel_rfl) (Gives.p hE rfl) rfl hS (hS.dropAt 3) fun a hE => ?_
  refine Rg.no (i := 15) hE rfl (by kernel_rfl) (runs_not hE rfl rfl rfl (by decide)) rfl (tw_sel (fun _ => hS) (fun _ => (hS.dropAt 3))) fun a hE => ?_
  refine Rg.no (i := 17) hE rfl (by kernel_rfl) (runs_not hE rfl rfl rfl (by decide)) rfl (tw_sel (fun _ => hS) (fun _ => (hS.dropAt 3))) fun a hE => ?_
  refine Rg.one (i := 16) true true rfl (by kernel_rfl) (by kernel_rfl) (by kernel_rfl) ?_
  refine nO hE rfl rfl rfl (by decide) rfl fun a hE => WL.nil ?_
  refine ⟨⟨fun _ => hS, fun _ => (hS.dropAt 3)⟩, ?_⟩
  refine Rg.no (i := 18) hE rfl (by kernel_rfl) (runs_not hE rfl rfl rfl (by decide)) rfl (tw_sel (fun _ => hS) (fun _ => (hS.dropAt 3))) fun a hE => ?_
  refine tP (i := 19) hE rfl (by kernel_rfl) (Gives.pickF hE rfl rfl rfl) rfl hS (hS.dropAt 3) fun a hE => ?_
  refine Rg.one (i := 20) false true rfl (by kernel_rfl) (by kernel_rfl) (by kernel_rfl) ?_
  refine WL.storeI hE hS 3 rfl [vi q63.1.Kind, vi q63.1.A, vi q63.1.B, .slice a74 q63.1.Kids.length c75] (runs_plain rfl) rfl rfl rfl ty43 rfl rfl rfl rfl ?_; clear hE hS a w; intro a w hE hS
  refine WL.nil ?_
  refine ⟨⟨fun h => absurd h (by decide), fun _ => (hS.dropAt 3)⟩, ?_⟩
  refine Rg.takeP (i := 21) hE rfl (by kernel_rfl) (runs_plain rfl) (Gives.p hE rfl) rfl (tw_sel (fun h => absurd h (by decide)) (fun _ => (hS.dropAt 3))) fun a hE => ?_
  refine Rg.done (by kernel_rfl) ?_
  subst hK91
  subst hK90
  exact ⟨false, q63.1.Kind, q63.1.A, q63.1.B, q63.1.Kids, a74, c75, Option.some.inj hq78, h76, hE.pick _ ⟨rfl, rfl, trivial⟩, hS⟩
 clear hE hS a w; rintro a w ⟨q82, q83, q84, q85, q86, a87, c88, rfl, h89, hE, hS⟩
 dsimp only at hr
 refine W.ret ?_
 refine finG (fn := Tryz.f73) (rs := [.cell 2 43, .tmp 3]) (vs := [_, _]) hE rfl ⟨⟨_, rfl, .inl ⟨_, rfl, hS.seesAt 3 rfl, ty43⟩⟩, rfl, trivial⟩ ?_
 obtain rfl := Option.some.inj hr
 replace hS := hS.tail
 replace hS := hS.tail
 replace hS := hS.tail
 replace hS := hS.tail
 exact ⟨_, s72, rfl, (Sg.Le.trans hle61 hle73), (RFareCond.fold ⟨_, _, rfl, h89⟩), hS⟩
set_option maxHeartbeats 8000000 in
theorem Fishref2ruleOf_ok {fu : Nat}  {w : World} {s : Sg} {R : List HP} {x0 : ByteArray} (hS : St w s (R)) (hTab : TabX s) {r : FareRule × Bool} (hr : Fishref2ruleOf fu x0 = some r) :
  Calls Tryz.prog 51 [.string x0].toArray w (fun e w => ∃ (cs0 : List Value) (t : Sg), e = .returned (.tuple #[.agg cs0.toArray, .bool r.2]) ∧ s.Le t ∧ RFareRule t cs0 r.1 ∧ St w t (R)) := by
 refine enter Tryz.func51 rfl rfl rfl fun a hE => ?_
 rw [Fishref2ruleOf] at hr
 refine W.seq (W.region ?_)
 refine WL.alloc hE hS (runs_plain rfl) zr45 rfl ?_; clear hE hS a w; intro b51 a w hE hS
 refine vp hS hE rfl rfl fun a hE => WL.nil ?_
 refine W.seq (W.region (vp hS hE rfl rfl fun a hE => ?_))
 obtain ⟨q52, hq53, hr⟩ := bindS hr
 refine WL.fnq hE (cut_ok hS (TabG.mono (Sg.Le.refl _) hTab) hq53) (runs_plain rfl) bd72 rfl rfl rfl ?_
 clear hE hS; rintro e w ⟨rfl, hS⟩; refine ⟨_, rfl, ?_⟩; clear a; intro a hE
 refine v2 hS hE rfl rfl rfl rfl fun a hE => ?_
 refine v2 hS hE rfl rfl rfl rfl fun a hE => ?_
 refine v2 hS hE rfl rfl rfl rfl fun a hE => ?_
 refine vp hS hE rfl rfl fun a hE => WL.nil ?_
 refine W.seq ?_
 refine W.seq (W.region (v2 hS hE rfl rfl rfl rfl fun a hE => WL.nil ?_))
 refine W.cond hE rfl (fun hc54 => ?_) (fun hc54 => ?_)
 ·replace hr := iteT hc54 hr
  refine W.seq (W.region (vP hS hE (Gives.build hE (vs := []) [vi 0, vi 0, vi 0, .slice none 0 0, vi 0, vi 0, .bool false] rfl (by kernel_rfl)) rfl fun a hE => ?_))
  refine WL.storeI hE hS 0 rfl [vi 0, vi 0, vi 0, .slice none 0 0, vi 0, vi 0, .bool false] (runs_plain rfl) rfl rfl rfl ty45 rfl rfl rfl rfl ?_; clear hE hS a w; intro a w hE hS
  refine vp hS hE rfl rfl fun a hE => WL.nil ?_
  refine W.ret ?_
  refine finG (fn := Tryz.f51) (rs := [.cell 2 45, .tmp 3]) (vs := [_, _]) hE rfl ⟨⟨_, rfl, .inl ⟨_, rfl, hS.seesAt 0 rfl, ty45⟩⟩, rfl, trivial⟩ ?_
  obtain rfl := Option.some.inj hr
  replace hS := hS.tail
  exact ⟨_, s, rfl, (Sg.Le.refl _), ⟨_, _, rfl, Sl.nil⟩, hS⟩
 replace hr := iteF hc54 hr
 refine W.skip ?_
 refine W.seq (W.region (vp hS hE rfl rfl fun a hE => ?_))
 obtain ⟨q55, hq56, hr⟩ := bindS hr
 have hc_ := Fishref2condOf_ok hS (TabG.mono (Sg.Le.refl _) hTab) hq56
 refine WL.fnq hE (hc_) (runs_plain rfl) bd73 rfl rfl rfl ?_
 clear hE hS hc_; rintro e w ⟨cs57, s59, rfl, hle60, h58, hS⟩; refine ⟨_, rfl, ?_⟩; clear a; intro a hE
 obtain ⟨a61, c62, rfl, h63⟩ := h58.unf
 refine v2 hS hE rfl rfl rfl rfl fun a hE => ?_
 refine vp hS hE rfl rfl fun a hE => ?_
 refine WL.alloc hE hS (runs_plain rfl) zr43 rfl ?_; clear hE hS a w; intro b64 a w hE hS
 refine WL.storeI hE hS 0 rfl [vi q55.1.Kind, vi q55.1.A, vi q55.1.B, .slice a61 q55.1.Kids.length c62] (runs_plain rfl) rfl rfl rfl ty43 rfl rfl rfl rfl ?_; clear hE hS a w; intro a w hE hS
 refine vp hS hE rfl rfl fun a hE => WL.nil ?_
 refine W.seq (W.region (vp hS hE rfl rfl fun a hE => ?_))
 obtain ⟨q65, hq66, hr⟩ := bindS hr
 refine WL.fnq hE (split_ok hS (TabG.mono hle60 hTab) hq66) (runs_plain rfl) bd38 rfl rfl rfl ?_
 clear hE hS; rintro e w ⟨b67, cs68, rfl, h69, hS⟩; refine ⟨_, rfl, ?_⟩; clear a; intro a hE
 refine vp hS hE rfl rfl fun a hE => WL.nil ?_
 refine W.seq ?_
 refine W.seq ?_
 obtain ⟨q72, hq71, hr⟩ := bindS hr
 refine W.cut (fun a w => ∃ (q75 : Bool), q75 = q72 ∧ Rep a 76 [(2, pp b51), (7, pp b64), (9, .slice (some ⟨b67, 0, none⟩) q65.length q65.length), (50, .bool q75)] ∧ St w s59 (vecC 9 1 (some ⟨b67, 0, none⟩) q65.length q65.length cs68 :: pc b64 #[vi q55.1.Kind, vi q55.1.A, vi q55.1.B, .slice a61 q55.1.Kids.length c62] 43 :: pc b51 #[vi 0, vi 0, vi 0, .slice none 0 0, vi 0, vi 0, .bool false] 45 :: R)) ?_ ?_
 ·refine W.gen fun K76 hK76 => ?_
  refine W.region ?_
  refine v2 hS hE rfl rfl rfl rfl fun a hE => ?_
  refine vp hS hE rfl rfl fun a hE => ?_
  rcases Bool.eq_false_or_eq_true !q55.2 with hg77 | hg77
  ·replace hq71 := iteT hg77 hq71
   refine nO hE rfl rfl rfl (by rw [hg77]; decide) rfl fun a hE => ?_
   refine nO hE rfl rfl rfl (by rw [hg77]; decide) rfl fun a hE => ?_
   refine nO hE rfl rfl rfl (by rw [hg77]; decide) rfl fun a hE => ?_
   refine vP hS hE (Gives.pickT hE rfl hg77 rfl) rfl fun a hE => ?_
   refine vp hS hE rfl rfl fun a hE => ?_
   refine nO hE rfl rfl rfl (by decide) rfl fun a hE => ?_
   refine nO hE rfl rfl rfl (by decide) rfl fun a hE => ?_
   refine nO hE rfl rfl rfl (by decide) rfl fun a hE => ?_
   refine vP hS hE (Gives.pickT hE rfl rfl rfl) rfl fun a hE => ?_
   refine vp hS hE rfl rfl fun a hE => ?_
   refine nO hE rfl rfl rfl (by decide) rfl fun a hE => ?_
   refine nO hE rfl rfl rfl (by decide) rfl fun a hE => ?_
   refine nO hE rfl rfl rfl (by decide) rfl fun a hE => ?_
   refine nO hE rfl rfl rfl (by decide) rfl fun a hE => ?_
   refine WL.no hE (runs_undef hE rfl rfl rfl) rfl fun a hE => ?_
   refine WL.no hE (runs_undef hE rfl rfl rfl) rfl fun a hE => ?_
   refine WL.no hE (runs_undef hE rfl rfl rfl) rfl fun a hE => ?_
   refine WL.no hE (runs_undef hE rfl rfl rfl) rfl fun a hE => ?_
   refine nO hE rfl rfl rfl (by decide) rfl fun a hE => ?_
   refine vP hS hE (Gives.pickT hE rfl rfl rfl) rfl fun a hE => WL.nil ?_
   subst hK76
   exact ⟨true, Option.some.inj hq71, hE.pick _ ⟨rfl, rfl, rfl, rfl, trivial⟩, hS⟩
  replace hq71 := iteF hg77 hq71
  refine WL.vS hS hE (runs_if hE rfl rfl rfl hg77) (Gives.p hE rfl) rfl fun a hE => ?_
  refine WL.vS hS hE (runs_if hE rfl rfl rfl hg77) (Gives.len hE rfl sl59) rfl fun a hE => ?_
  refine WL.vS hS hE (runs_if hE rfl rfl rfl hg77) (Gives.p hE rfl) rfl fun a hE => ?_
  refine vP hS hE (Gives.pickF hE rfl hg77 rfl) rfl fun a hE => ?_
  refine vp hS hE rfl rfl fun a hE => ?_
  rcases Bool.eq_false_or_eq_true (decide (((q65.length : Nat) : Int) < 2)) with hg78 | hg78
  ·replace hq71 := iteT hg78 hq71
   refine nO hE rfl rfl rfl (by rw [hg78]; decide) rfl fun a hE => ?_
   refine nO hE rfl rfl rfl (by rw [hg78]; decide) rfl fun a hE => ?_
   refine nO hE rfl rfl rfl (by rw [hg78]; decide) rfl fun a hE => ?_
   refine vP hS hE (Gives.pickT hE rfl hg78 rfl) rfl fun a hE => ?_
   refine vp hS hE rfl rfl fun a hE => ?_
   refine nO hE rfl rfl rfl (by decide) rfl fun a hE => ?_
   refine nO hE rfl rfl rfl (by decide) rfl fun a hE => ?_
   refine nO hE rfl rfl rfl (by decide) rfl fun a hE => ?_
   refine nO hE rfl rfl rfl (by decide) rfl fun a hE => ?_
   refine WL.no hE (runs_undef hE rfl rfl rfl) rfl fun a hE => ?_
   refine WL.no hE (runs_undef hE rfl rfl rfl) rfl fun a hE => ?_
   refine WL.no hE (runs_undef hE rfl rfl rfl) rfl fun a hE => ?_
   refine WL.no hE (runs_undef hE rfl rfl rfl) rfl fun a hE => ?_
   refine nO hE rfl rfl rfl (by decide) rfl fun a hE => ?_
   refine vP hS hE (Gives.pickT hE rfl rfl rfl) rfl fun a hE => WL.nil ?_
   subst hK76
   exact ⟨true, Option.some.inj hq71, hE.pick _ ⟨rfl, rfl, rfl, rfl, trivial⟩, hS⟩
  replace hq71 := iteF hg78 hq71
  refine WL.vS hS hE (runs_if hE rfl rfl rfl hg78) (Gives.p hE rfl) rfl fun a hE => ?_
  refine WL.vS hS hE (runs_if hE rfl rfl rfl hg78) (Gives.len hE rfl sl59) rfl fun a hE => ?_
  refine WL.vS hS hE (runs_if hE rfl rfl rfl hg78) (Gives.p hE rfl) rfl fun a hE => ?_
  refine vP hS hE (Gives.pickF hE rfl hg78 rfl) rfl fun a hE => ?_
  refine vp hS hE rfl rfl fun a hE => ?_
  rcases Bool.eq_false_or_eq_true (decide (((q65.length : Nat) : Int) > 3)) with hg79 | hg79
  ·replace hq71 := iteT hg79 hq71
   refine nO hE rfl rfl rfl (by rw [hg79]; decide) rfl fun a hE => ?_
   refine nO hE rfl rfl rfl (by rw [hg79]; decide) rfl fun a hE => ?_
   refine nO hE rfl rfl rfl (by rw [hg79]; decide) rfl fun a hE => ?_
   refine nO hE rfl rfl rfl (by rw [hg79]; decide) rfl fun a hE => ?_
   refine WL.no hE (runs_undef hE rfl rfl rfl) rfl fun a hE => ?_
   refine WL.no hE (runs_undef hE rfl rfl rfl) rfl fun a hE => ?_
   refine WL.no hE (runs_undef hE rfl rfl rfl) rfl fun a hE => ?_
   refine WL.no hE (runs_undef hE rfl rfl rfl) rfl fun a hE => ?_
   refine nO hE rfl rfl rfl (by rw [hg79]; decide) rfl fun a hE => ?_
   refine vP hS hE (Gives.pickT hE rfl hg79 rfl) rfl fun a hE => WL.nil ?_
   subst hK76
   exact ⟨true, Option.some.inj hq71, hE.pick _ ⟨rfl, rfl, rfl, rfl, trivial⟩, hS⟩
  replace hq71 := iteF hg79 hq71
  refine WL.vS hS hE (runs_if hE rfl rfl rfl hg79) (Gives.p hE rfl) rfl fun a hE => ?_
  refine WL.vS hS hE (runs_if hE rfl rfl rfl hg79) (Gives.len hE rfl sl59) rfl fun a hE => ?_
  refine WL.vS hS hE (runs_if hE rfl rfl rfl hg79) (Gives.p hE rfl) rfl fun a hE => ?_
  refine WL.vS hS hE (runs_if hE rfl rfl rfl hg79) (Gives.p hE rfl) rfl fun a hE => ?_
  rcases Bool.eq_false_or_eq_true (((q65.length : Nat) : Int) == 3) with hg80 | hg80
  ·replace hq71 := iteT hg80 hq71
   refine WL.vS hS hE (runs_if hE rfl rfl rfl hg80) (Gives.p hE rfl) rfl fun a hE => ?_
   obtain ⟨x81, hx82, hq71⟩ := bindS hq71
   obtain ⟨hi83, hlt84, hy85⟩ := gx_some hx82
   obtain ⟨vs86, hl87, hR88, hd89, hget90⟩ := h69.at hy85
   subst hR88
   refine WL.vS hS hE (runs_if hE rfl rfl rfl hg80) (Gives.idx hE (((2 : Int)).toNat) rfl rfl sl59 hi83 (by omega) (hS.vecAok 0 rfl (by omega : ((2 : Int)).toNat < q65.length))) rfl fun a hE => ?_
   refine WL.vS hS hE (runs_if hE rfl rfl rfl hg80) (Gives.load1 hE rfl (fun w h => St.vecSees h 0 rfl (((2 : Int)).toNat * 1) _ hget90) ty9) rfl fun a hE => ?_
   refine WL.vS hS hE (runs_if hE rfl rfl rfl hg80) (Gives.neSt hE rfl rfl) rfl fun a hE => ?_
   refine WL.vS hS hE (runs_if hE rfl rfl rfl hg79) (Gives.pickT hE rfl hg80 rfl) rfl fun a hE => ?_
   refine vP hS hE (Gives.pickF hE rfl hg79 rfl) rfl fun a hE => WL.nil ?_
   subst hK76
   exact ⟨!(seq x81 (str [115, 116, 111, 112])), Option.some.inj hq71, hE.pick _ ⟨rfl, rfl, rfl, rfl, trivial⟩, hS⟩
  replace hq71 := iteF hg80 hq71
  refine nO hE rfl rfl rfl (by rw [hg80]; decide) rfl fun a hE => ?_
  refine nO hE rfl rfl rfl (by rw [hg80]; decide) rfl fun a hE => ?_
  refine nO hE rfl rfl rfl (by rw [hg80]; decide) rfl fun a hE => ?_
  refine nO hE rfl rfl rfl (by rw [hg80]; decide) rfl fun a hE => ?_
  refine WL.vS hS hE (runs_if hE rfl rfl rfl hg79) (Gives.pickF hE rfl hg80 rfl) rfl fun a hE => ?_
  refine vP hS hE (Gives.pickF hE rfl hg79 rfl) rfl fun a hE => WL.nil ?_
  subst hK76
  exact ⟨false, Option.some.inj hq71, hE.pick _ ⟨rfl, rfl, rfl, rfl, trivial⟩, hS⟩
 clear hE hS a w; rintro a w ⟨q75, rfl, hE, hS⟩
 refine W.cond hE rfl (fun hc91 => ?_) (fun hc91 => ?_)
 ·replace hr := iteT hc91 hr
  refine W.seq (W.region (vP hS hE (Gives.build hE (vs := []) [vi 0, vi 0, vi 0, .slice none 0 0, vi 0, vi 0, .bool false] rfl (by kernel_rfl)) rfl fun a hE => ?_))
  refine WL.storeI hE hS 2 rfl [vi 0, vi 0, vi 0, .slice none 0 0, vi 0, vi 0, .bool false] (runs_plain rfl) rfl rfl rfl ty45 rfl rfl rfl rfl ?_; clear hE hS a w; intro a w hE hS
  refine vp hS hE rfl rfl fun a hE => WL.nil ?_
  refine W.ret ?_
  refine finG (fn := Tryz.f51) (rs := [.cell 2 45, .tmp 3]) (vs := [_, _]) hE rfl ⟨⟨_, rfl, .inl ⟨_, rfl, hS.seesAt 2 rfl, ty45⟩⟩, rfl, trivial⟩ ?_
  obtain rfl := Option.some.inj hr
  replace hS := hS.tail
  replace hS := hS.tail
  replace hS := hS.tail
  exact ⟨_, s59, rfl, hle60, ⟨_, _, rfl, Sl.nil⟩, hS⟩
 replace hr := iteF hc91 hr
 refine W.skip ?_
 refine W.seq (W.region ?_)
 refine WL.lit hE hS (e := 9) (es := 1) (vs := [(0, .string (str [])), (1, .string (str [112, 101, 114, 99, 101, 110, 116])), (2, .string (str [109, 105, 110, 117, 115])), (3, .string (str [112, 108, 117, 115])), (4, .string (str [102, 105, 120])), (5, .string (str [97, 116, 109, 111, 115, 116])), (6, .string (str [97, 116, 108, 101, 97, 115, 116]))]) (cs := [.string (str []), .string (str [112, 101, 114, 99, 101, 110, 116]), .string (str [109, 105, 110, 117, 115]), .string (str [112, 108, 117, 115]), .string (str [102, 105, 120]), .string (str [97, 116, 109, 111, 115, 116]), .string (str [97, 116, 108, 101, 97, 115, 116])]) (runs_plain rfl) rfl (by kernel_rfl) rfl ?_; clear hE hS a w; intro b92 a w hE hS
 replace hS := hS.ptVec (es := 1) (m := 7) rfl (by decide)
 have h94 : Ev 1 RS s59 [.string (str []), .string (str [112, 101, 114, 99, 101, 110, 116]), .string (str [109, 105, 110, 117, 115]), .string (str [112, 108, 117, 115]), .string (str [102, 105, 120]), .string (str [97, 116, 109, 111, 115, 116]), .string (str [97, 116, 108, 101, 97, 115, 116])] [(str []), (str [112, 101, 114, 99, 101, 110, 116]), (str [109, 105, 110, 117, 115]), (str [112, 108, 117, 115]), (str [102, 105, 120]), (str [97, 116, 109, 111, 115, 116]), (str [97, 116, 108, 101, 97, 115, 116])] := (Ev.cons (c1 := [.string (str [])]) rfl rfl (Ev.cons (c1 := [.string (str [112, 101, 114, 99, 101, 110, 116])]) rfl rfl (Ev.cons (c1 := [.string (str [109, 105, 110, 117, 115])]) rfl rfl (Ev.cons (c1 := [.string (str [112, 108, 117, 115])]) rfl rfl (Ev.cons (c1 := [.string (str [102, 105, 120])]) rfl rfl (Ev.cons (c1 := [.string (str [97, 116, 109, 111, 115, 116])]) rfl rfl (Ev.cons (c1 := [.string (str [97, 116, 108, 101, 97, 115, 116])]) rfl rfl (Ev.nil))))))))
 have hF := hS.fixD RS.mono 0 rfl h94 (rfl); clear hS; obtain ⟨s95, hle96, hS, h97⟩ := hF
 replace h69 := Ev.mono RS.mono hle96 h69
 replace h63 := Sl.mono RFareCond.mono hle96 h63
 refine vp hS hE rfl rfl fun a hE => ?_
 obtain ⟨x98, hx99, hr⟩ := bindS hr
 obtain ⟨hi100, hlt101, hy102⟩ := gx_some hx99
 obtain ⟨vs103, hl104, hR105, hd106, hget107⟩ := h69.at hy102
 subst hR105
 refine vP hS hE (Gives.idx hE (((0 : Int)).toNat) rfl rfl sl59 hi100 (by omega) (hS.vecAok 0 rfl (by omega : ((0 : Int)).toNat < q65.length))) rfl fun a hE => ?_
 refine vP hS hE (Gives.load1 hE rfl (fun w h => St.vecSees h 0 rfl (((0 : Int)).toNat * 1) _ hget107) ty9) rfl fun a hE => ?_
 refine WL.fnq hE (SlicesIndexLstring_ok hS h97 rfl (r := SlicesIndexLstring [(str []), (str [112, 101, 114, 99, 101, 110, 116]), (str [109, 105, 110, 117, 115]), (str [112, 108, 117, 115]), (str [102, 105, 120]), (str [97, 116, 109, 111, 115, 116]), (str [97, 116, 108, 101, 97, 115, 116])] x98)) (runs_plain rfl) bd74 rfl rfl rfl ?_
 clear hE hS; rintro e w ⟨rfl, hS⟩; refine ⟨_, rfl, ?_⟩; clear a; intro a hE
 refine vp hS hE rfl rfl fun a hE => WL.nil ?_
 refine W.seq (W.region (vp hS hE rfl rfl fun a hE => ?_))
 obtain ⟨x108, hx109, hr⟩ := bindS hr
 obtain ⟨hi110, hlt111, hy112⟩ := gx_some hx109
 obtain ⟨vs113, hl114, hR115, hd116, hget117⟩ := h69.at hy112
 subst hR115
 refine vP hS hE (Gives.idx hE (((1 : Int)).toNat) rfl rfl sl59 hi110 (by omega) (hS.vecAok 0 rfl (by omega : ((1 : Int)).toNat < q65.length))) rfl fun a hE => ?_
 refine vP hS hE (Gives.load1 hE rfl (fun w h => St.vecSees h 0 rfl (((1 : Int)).toNat * 1) _ hget117) ty9) rfl fun a hE => ?_
 obtain ⟨q118, hq119, hr⟩ := bindS hr
 have hc_ := Fishref2plain_ok hS (TabG.mono (Sg.Le.trans hle60 hle96) hTab) hq119
 refine WL.fnq hE (hc_) (runs_plain rfl) bd50 rfl rfl rfl ?_
 clear hE hS hc_; rintro e w ⟨rfl, hS⟩; refine ⟨_, rfl, ?_⟩; clear a; intro a hE
 refine v2 hS hE rfl rfl rfl rfl fun a hE => ?_
 refine v2 hS hE rfl rfl rfl rfl fun a hE => ?_
 refine vp hS hE rfl rfl fun a hE => WL.nil ?_
 refine W.seq ?_
 obtain ⟨q121, hq120, hr⟩ := bndS hr
 refine W.cut (fun a w => ∃ (q124 : Bool), ∃ (q125 : Int), ∃ (q126 : Int), ∃ (q127 : Int), ∃ (q128 : List FareCond), ∃ (q132 : Int), ∃ (q133 : Int), ∃ (q134 : Bool), ∃ (a129 : Option Addr), ∃ (c130 : Nat), (q124, q125, q126, q127, q128, q132, q133, q134) = q121 ∧ Sl 4 RFareCond s95 a129 c130 q128 ∧ Rep a 76 [(2, pp b51), (3, .bool q124)] ∧ St w s95 (pc b64 #[vi q55.1.Kind, vi q55.1.A, vi q55.1.B, .slice a61 q55.1.Kids.length c62] 43 :: pc b51 #[vi q125, vi q126, vi q127, .slice a129 q128.length c130, vi q132, vi q133, .bool q134] 45 :: R)) ?_ ?_
 ·refine W.gen fun K135 hK135 => ?_
  refine W.region ?_
  refine vP hS hE (Gives.loadBA hE 1 rfl rfl ty43) rfl fun a hE => ?_
  refine v2 hS hE rfl rfl rfl rfl fun a hE => ?_
  refine vp hS hE rfl rfl fun a hE => ?_
  refine vP hS hE (Gives.len hE rfl sl59) rfl fun a hE => ?_
  refine vp hS hE rfl rfl fun a hE => ?_
  refine vP hS hE (Gives.build hE (vs := [(0, .agg (List.toArray [vi q55.1.Kind, vi q55.1.A, vi q55.1.B, .slice a61 q55.1.Kids.length c62])), (1, vi (SlicesIndexLstring [(str []), (str [112, 101, 114, 99, 101, 110, 116]), (str [109, 105, 110, 117, 115]), (str [112, 108, 117, 115]), (str [102, 105, 120]), (str [97, 116, 109, 111, 115, 116]), (str [97, 116, 108, 101, 97, 115, 116])] x98)), (2, vi q118.1), (3, .bool (((q65.length : Nat) : Int) == 3))]) [vi q55.1.Kind, vi q55.1.A, vi q55.1.B, .slice a61 q55.1.Kids.length c62, vi (SlicesIndexLstring [(str []), (str [112, 101, 114, 99, 101, 110, 116]), (str [109, 105, 110, 117, 115]), (str [112, 108, 117, 115]), (str [102, 105, 120]), (str [97, 116, 109, 111, 115, 116]), (str [97, 116, 108, 101, 97, 115, 116])] x98), vi q118.1, .bool (((q65.length : Nat) : Int) == 3)] rfl (by kernel_rfl)) rfl fun a hE => ?_
  refine v2 hS hE rfl rfl rfl rfl fun a hE => ?_
  rcases Bool.eq_false_or_eq_true q118.2 with hg136 | hg136
  ·replace hq120 := iteT hg136 hq120
   refine WL.vS hS hE (runs_if hE rfl rfl rfl hg136) (Gives.p hE rfl) rfl fun a hE => ?_
   refine WL.vS hS hE (runs_if hE rfl rfl rfl hg136) (Gives.p hE rfl) rfl fun a hE => ?_
   refine vP hS hE (Gives.pickT hE rfl hg136 rfl) rfl fun a hE => ?_
   refine WL.storeI hE hS 2 rfl [vi q55.1.Kind, vi q55.1.A, vi q55.1.B, .slice a61 q55.1.Kids.length c62, vi (SlicesIndexLstring [(str []), (str [112, 101, 114, 99, 101, 110, 116]), (str [109, 105, 110, 117, 115]), (str [112, 108, 117, 115]), (str [102, 105, 120]), (str [97, 116, 109, 111, 115, 116]), (str [97, 116, 108, 101, 97, 115, 116])] x98), vi q118.1, .bool (((q65.length : Nat) : Int) == 3)] (runs_plain rfl) rfl rfl rfl ty45 rfl rfl rfl rfl ?_; clear hE hS a w; intro a w hE hS
   refine vp hS hE rfl rfl fun a hE => WL.nil ?_
   replace hS := hS.tail
   subst hK135
   exact ⟨decide ((SlicesIndexLstring [(str []), (str [112, 101, 114, 99, 101, 110, 116]), (str [109, 105, 110, 117, 115]), (str [112, 108, 117, 115]), (str [102, 105, 120]), (str [97, 116, 109, 111, 115, 116]), (str [97, 116, 108, 101, 97, 115, 116])] x98) > 0), q55.1.Kind, q55.1.A, q55.1.B, q55.1.Kids, (SlicesIndexLstring [(str []), (str [112, 101, 114, 99, 101, 110, 116]), (str [109, 105, 110, 117, 115]), (str [112, 108, 117, 115]), (str [102, 105, 120]), (str [97, 116, 109, 111, 115, 116]), (str [97, 116, 108, 101, 97, 115, 116])] x98), q118.1, (((q65.length : Nat) : Int) == 3), a61, c62, hq120, h63, hE.pick _ ⟨rfl, rfl, trivial⟩, hS⟩
  replace hq120 := iteF hg136 hq120
  refine nO hE rfl rfl rfl (by rw [hg136]; decide) rfl fun a hE => ?_
  refine nO hE rfl rfl rfl (by rw [hg136]; decide) rfl fun a hE => ?_
  refine vP hS hE (Gives.pickF hE rfl hg136 rfl) rfl fun a hE => ?_
  refine WL.storeI hE hS 2 rfl [vi q55.1.Kind, vi q55.1.A, vi q55.1.B, .slice a61 q55.1.Kids.length c62, vi (SlicesIndexLstring [(str []), (str [112, 101, 114, 99, 101, 110, 116]), (str [109, 105, 110, 117, 115]), (str [112, 108, 117, 115]), (str [102, 105, 120]), (str [97, 116, 109, 111, 115, 116]), (str [97, 116, 108, 101, 97, 115, 116])] x98), vi q118.1, .bool (((q65.length : Nat) : Int) == 3)] (runs_plain rfl) rfl rfl rfl ty45 rfl rfl rfl rfl ?_; clear hE hS a w; intro a w hE hS
  refine vp hS hE rfl rfl fun a hE => WL.nil ?_
  replace hS := hS.tail
  subst hK135
  exact ⟨false, q55.1.Kind, q55.1.A, q55.1.B, q55.1.Kids, (SlicesIndexLstring [(str []), (str [112, 101, 114, 99, 101, 110, 116]), (str [109, 105, 110, 117, 115]), (str [112, 108, 117, 115]), (str [102, 105, 120]), (str [97, 116, 109, 111, 115, 116]), (str [97, 116, 108, 101, 97, 115, 116])] x98), q118.1, (((q65.length : Nat) : Int) == 3), a61, c62, hq120, h63, hE.pick _ ⟨rfl, rfl, trivial⟩, hS⟩
 clear hE hS a w; rintro a w ⟨q124, q125, q126, q127, q128, q132, q133, q134, a129, c130, rfl, h131, hE, hS⟩
 dsimp only at hr
 refine W.ret ?_
 refine finG (fn := Tryz.f51) (rs := [.cell 2 45, .tmp 3]) (vs := [_, _]) hE rfl ⟨⟨_, rfl, .inl ⟨_, rfl, hS.seesAt 1 rfl, ty45⟩⟩, rfl, trivial⟩ ?_
 obtain rfl := Option.some.inj hr
 replace hS := hS.tail
 replace hS := hS.tail
 exact ⟨_, s95, rfl, (Sg.Le.trans hle60 hle96), ⟨_, _, rfl, h131⟩, hS⟩
set_option maxHeartbeats 8000000 in
theorem Fishref2tariffOf_ok {fu : Nat}  {w : World} {s : Sg} {R : List HP} {x0 : ByteArray} (hS : St w s (R)) (hTab : TabX s) {r : FareTariff × Bool} (hr : Fishref2tariffOf fu x0 = some r) :
  Calls Tryz.prog 26 [.string x0].toArray w (fun e w => ∃ (cs0 : List Value) (t : Sg), e = .returned (.tuple #[.agg cs0.toArray, .bool r.2]) ∧ s.Le t ∧ RFareTariff t cs0 r.1 ∧ St w t (R)) := by
 refine enter Tryz.func26 rfl rfl rfl fun a hE => ?_
 rw [Fishref2tariffOf] at hr
 refine W.seq (W.region ?_)
 refine WL.alloc hE hS (runs_plain rfl) zr25 rfl ?_; clear hE hS a w; intro b51 a w hE hS
 refine vp hS hE rfl rfl fun a hE => WL.nil ?_
 refine W.seq (W.region (vp hS hE rfl rfl fun a hE => ?_))
 obtain ⟨q52, hq53, hr⟩ := bindS hr
 refine WL.fnq hE (cuts_ok hS hq53) (runs_plain rfl) bd37 rfl rfl rfl ?_
 clear hE hS; rintro e w ⟨rfl, hS⟩; refine ⟨_, rfl, ?_⟩; clear a; intro a hE
 refine v2 hS hE rfl rfl rfl rfl fun a hE => ?_
 refine v2 hS hE rfl rfl rfl rfl fun a hE => ?_
 refine vp hS hE rfl rfl fun a hE => WL.nil ?_
 refine W.seq (W.region (vp hS hE rfl rfl fun a hE => ?_))
 obtain ⟨q54, hq55, hr⟩ := bindS hr
 refine WL.fnq hE (split_ok hS (TabG.mono (Sg.Le.refl _) hTab) hq55) (runs_plain rfl) bd38 rfl rfl rfl ?_
 clear hE hS; rintro e w ⟨b56, cs57, rfl, h58, hS⟩; refine ⟨_, rfl, ?_⟩; clear a; intro a hE
 refine vp hS hE rfl rfl fun a hE => WL.nil ?_
 refine W.seq ?_
 refine W.seq ?_
 obtain ⟨q61, hq60, hr⟩ := bindS hr
 refine W.cut (fun a w => ∃ (q64 : Bool), q64 = q61 ∧ Rep a 141 [(2, pp b51), (6, .slice (some ⟨b56, 0, none⟩) q54.length q54.length), (38, .bool q64)] ∧ St w s (vecC 9 1 (some ⟨b56, 0, none⟩) q54.length q54.length cs57 :: pc b51 #[.bool false, .slice none 0 0, vi 0, .slice none 0 0] 25 :: R)) ?_ ?_
 ·refine W.gen fun K65 hK65 => ?_
  refine W.region ?_
  refine v2 hS hE rfl rfl rfl rfl fun a hE => ?_
  refine vp hS hE rfl rfl fun a hE => ?_
  rcases Bool.eq_false_or_eq_true !q52.2 with hg66 | hg66
  ·replace hq60 := iteT hg66 hq60
   refine nO hE rfl rfl rfl (by rw [hg66]; decide) rfl fun a hE => ?_
   refine nO hE rfl rfl rfl (by rw [hg66]; decide) rfl fun a hE => ?_
   refine nO hE rfl rfl rfl (by rw [hg66]; decide) rfl fun a hE => ?_
   refine nO hE rfl rfl rfl (by rw [hg66]; decide) rfl fun a hE => ?_
   refine nO hE rfl rfl rfl (by rw [hg66]; decide) rfl fun a hE => ?_
   refine WL.no hE (runs_undef hE rfl rfl rfl) rfl fun a hE => ?_
   refine WL.no hE (runs_undef hE rfl rfl rfl) rfl fun a hE => ?_
   refine WL.no hE (runs_undef hE rfl rfl rfl) rfl fun a hE => ?_
   refine WL.no hE (runs_undef hE rfl rfl rfl) rfl fun a hE => ?_
   refine nO hE rfl rfl rfl (by rw [hg66]; decide) rfl fun a hE => ?_
   refine vP hS hE (Gives.pickT hE rfl hg66 rfl) rfl fun a hE => WL.nil ?_
   subst hK65
   exact ⟨true, Option.some.inj hq60, hE.pick _ ⟨rfl, rfl, rfl, trivial⟩, hS⟩
  replace hq60 := iteF hg66 hq60
  refine WL.vS hS hE (runs_if hE rfl rfl rfl hg66) (Gives.p hE rfl) rfl fun a hE => ?_
  obtain ⟨x67, hx68, hq60⟩ := bindS hq60
  obtain ⟨hi69, hlt70, hy71⟩ := gx_some hx68
  obtain ⟨vs72, hl73, hR74, hd75, hget76⟩ := h58.at hy71
  subst hR74
  refine WL.vS hS hE (runs_if hE rfl rfl rfl hg66) (Gives.idx hE (((0 : Int)).toNat) rfl rfl sl59 hi69 (by omega) (hS.vecAok 0 rfl (by omega : ((0 : Int)).toNat < q54.length))) rfl fun a hE => ?_
  refine WL.vS hS hE (runs_if hE rfl rfl rfl hg66) (Gives.load1 hE rfl (fun w h => St.vecSees h 0 rfl (((0 : Int)).toNat * 1) _ hget76) ty9) rfl fun a hE => ?_
  refine WL.vS hS hE (runs_if hE rfl rfl rfl hg66) (Gives.neSt hE rfl rfl) rfl fun a hE => ?_
  refine WL.vS hS hE (runs_if hE rfl rfl rfl hg66) (Gives.p hE rfl) rfl fun a hE => ?_
  rcases Bool.eq_false_or_eq_true (!(seq x67 (str [122, 111, 110, 101, 115]))) with hg77 | hg77
  ·replace hq60 := iteT hg77 hq60
   refine WL.vS hS hE (runs_if hE rfl rfl rfl hg77) (Gives.p hE rfl) rfl fun a hE => ?_
   obtain ⟨x78, hx79, hq60⟩ := bindS hq60
   obtain ⟨hi80, hlt81, hy82⟩ := gx_some hx79
   obtain ⟨vs83, hl84, hR85, hd86, hget87⟩ := h58.at hy82
   subst hR85
   refine WL.vS hS hE (runs_if hE rfl rfl rfl hg77) (Gives.idx hE (((0 : Int)).toNat) rfl rfl sl59 hi80 (by omega) (hS.vecAok 0 rfl (by omega : ((0 : Int)).toNat < q54.length))) rfl fun a hE => ?_
   refine WL.vS hS hE (runs_if hE rfl rfl rfl hg77) (Gives.load1 hE rfl (fun w h => St.vecSees h 0 rfl (((0 : Int)).toNat * 1) _ hget87) ty9) rfl fun a hE => ?_
   refine WL.vS hS hE (runs_if hE rfl rfl rfl hg77) (Gives.neSt hE rfl rfl) rfl fun a hE => ?_
   refine WL.vS hS hE (runs_if hE rfl rfl rfl hg66) (Gives.pickT hE rfl hg77 rfl) rfl fun a hE => ?_
   refine vP hS hE (Gives.pickF hE rfl hg66 rfl) rfl fun a hE => WL.nil ?_
   subst hK65
   exact ⟨!(seq x78 (str [107, 109])), Option.some.inj hq60, hE.pick _ ⟨rfl, rfl, rfl, trivial⟩, hS⟩
  replace hq60 := iteF hg77 hq60
  refine nO hE rfl rfl rfl (by rw [hg77]; decide) rfl fun a hE => ?_
  refine nO hE rfl rfl rfl (by rw [hg77]; decide) rfl fun a hE => ?_
  refine nO hE rfl rfl rfl (by rw [hg77]; decide) rfl fun a hE => ?_
  refine nO hE rfl rfl rfl (by rw [hg77]; decide) rfl fun a hE => ?_
  refine WL.vS hS hE (runs_if hE rfl rfl rfl hg66) (Gives.pickF hE rfl hg77 rfl) rfl fun a hE => ?_
  refine vP hS hE (Gives.pickF hE rfl hg66 rfl) rfl fun a hE => WL.nil ?_
  subst hK65
  exact ⟨false, Option.some.inj hq60, hE.pick _ ⟨rfl, rfl, rfl, trivial⟩, hS⟩
 clear hE hS a w; rintro a w ⟨q64, rfl, hE, hS⟩
 refine W.cond hE rfl (fun hc88 => ?_) (fun hc88 => ?_)
 ·replace hr := iteT hc88 hr
  refine W.seq (W.region (vP hS hE (Gives.build hE (vs := []) [.bool false, .slice none 0 0, vi 0, .slice none 0 0] rfl (by kernel_rfl)) rfl fun a hE => ?_))
  refine WL.storeI hE hS 1 rfl [.bool false, .slice none 0 0, vi 0, .slice none 0 0] (runs_plain rfl) rfl rfl rfl ty25 rfl rfl rfl rfl ?_; clear hE hS a w; intro a w hE hS
  refine vp hS hE rfl rfl fun a hE => WL.nil ?_
  refine W.ret ?_
  refine finG (fn := Tryz.f26) (rs := [.cell 2 25, .tmp 3]) (vs := [_, _]) hE rfl ⟨⟨_, rfl, .inl ⟨_, rfl, hS.seesAt 1 rfl, ty25⟩⟩, rfl, trivial⟩ ?_
  obtain rfl := Option.some.inj hr
  replace hS := hS.tail
  replace hS := hS.tail
  exact ⟨_, s, rfl, (Sg.Le.refl _), ⟨_, _, _, _, rfl, Sl.nil, Sl.nil⟩, hS⟩
 replace hr := iteF hc88 hr
 refine W.skip ?_
 refine W.seq (W.region (vp hS hE rfl rfl fun a hE => ?_))
 obtain ⟨x89, hx90, hr⟩ := bindS hr
 obtain ⟨hi91, hlt92, hy93⟩ := gx_some hx90
 obtain ⟨vs94, hl95, hR96, hd97, hget98⟩ := h58.at hy93
 subst hR96
 refine vP hS hE (Gives.idx hE (((0 : Int)).toNat) rfl rfl sl59 hi91 (by omega) (hS.vecAok 0 rfl (by omega : ((0 : Int)).toNat < q54.length))) rfl fun a hE => ?_
 refine vP hS hE (Gives.load1 hE rfl (fun w h => St.vecSees h 0 rfl (((0 : Int)).toNat * 1) _ hget98) ty9) rfl fun a hE => ?_
 refine vP hS hE (Gives.eqSt hE rfl rfl) rfl fun a hE => ?_
 refine vP hS hE (Gives.build hE (vs := [(0, .bool (seq x89 (str [107, 109])))]) [.bool (seq x89 (str [107, 109])), .slice none 0 0, vi 0, .slice none 0 0] rfl (by kernel_rfl)) rfl fun a hE => ?_
 refine WL.alloc hE hS (runs_plain rfl) zr25 rfl ?_; clear hE hS a w; intro b99 a w hE hS
 refine WL.storeI hE hS 0 rfl [.bool (seq x89 (str [107, 109])), .slice none 0 0, vi 0, .slice none 0 0] (runs_plain rfl) rfl rfl rfl ty25 rfl rfl rfl rfl ?_; clear hE hS a w; intro a w hE hS
 refine WL.nil ?_
 refine W.seq (W.region (vp hS hE rfl rfl fun a hE => ?_))
 have hF := hS.fixD RS.mono 1 rfl h58 (rfl); clear hS; obtain ⟨s100, hle101, hS, h102⟩ := hF
 obtain ⟨x103, hx104, hr⟩ := bindS hr
 obtain ⟨a105, c106, heq107, h108⟩ := h102.cut hx104
 obtain ⟨h109, h110, h111, _⟩ := cutl_some hx104
 refine vP hS hE (Gives.slL hE sl59 rfl rfl h109 (by omega) (by simpa using heq107)) rfl fun a hE => ?_
 refine vp hS hE rfl rfl fun a hE => WL.nil ?_
 refine W.seq ?_
 replace hS := hS.vecNil 40 2
 obtain ⟨q114, hq113, hr⟩ := bindS hr
 refine W.cut (fun a w => ∃ (q119 : List ByteArray), ∃ (q123 : Bool), ∃ (q124 : List FareBand), ∃ (q128 : Int), ∃ (q129 : List FareRule), ∃ (q133 : List FareBand), ∃ (a120 : Option Addr), ∃ (c121 : Nat), ∃ (a125 : Option Addr), ∃ (c126 : Nat), ∃ (a130 : Option Addr), ∃ (c131 : Nat), ∃ (a134 : Option Addr), ∃ (c135 : Nat), ∃ (n137 : Nat), ∃ (cs138 : List Value), (.next (q119, q123, q124, q128, q129, q133)) = q114 ∧ Sl 1 RS s100 a120 c121 q119 ∧ Sl 2 RFareBand s100 a125 c126 q124 ∧ Sl 7 RFareRule s100 a130 c131 q129 ∧ Ev 2 RFareBand s100 cs138 q133 ∧ q133.length = n137 ∧ Rep a 141 [(2, pp b51), (6, .slice a120 q119.length c121), (7, pp b99)] ∧ St w s100 (vecC 40 2 a134 c135 n137 cs138 :: pc b99 #[.bool (seq x89 (str [107, 109])), .slice a134 n137 c135, vi 0, .slice none 0 0] 25 :: pc b51 #[.bool q123, .slice a125 q124.length c126, vi q128, .slice a130 q129.length c131] 25 :: R)) ?_ ?_
 ·refine W.block ?_
  refine W.loop (fun m a w => ∃ (n115 : Nat), ∃ (q119 : List ByteArray), ∃ (q123 : Bool), ∃ (q124 : List FareBand), ∃ (q128 : Int), ∃ (q129 : List FareRule), ∃ (q133 : List FareBand), ∃ (a120 : Option Addr), ∃ (c121 : Nat), ∃ (a125 : Option Addr), ∃ (c126 : Nat), ∃ (a130 : Option Addr), ∃ (c131 : Nat), ∃ (a134 : Option Addr), ∃ (c135 : Nat), ∃ (n137 : Nat), ∃ (cs138 : List Value), n115 = m ∧ Fishref2tariffOf.loop1 n115 q119 q123 q124 q128 q129 q133 = some q114 ∧ Sl 1 RS s100 a120 c121 q119 ∧ Sl 2 RFareBand s100 a125 c126 q124 ∧ Sl 7 RFareRule s100 a130 c131 q129 ∧ Ev 2 RFareBand s100 cs138 q133 ∧ q133.length = n137 ∧ Rep a 141 [(2, pp b51), (6, .slice a120 q119.length c121), (7, pp b99)] ∧ St w s100 (vecC 40 2 a134 c135 n137 cs138 :: pc b99 #[.bool (seq x89 (str [107, 109])), .slice a134 n137 c135, vi 0, .slice none 0 0] 25 :: pc b51 #[.bool q123, .slice a125 q124.length c126, vi q128, .slice a130 q129.length c131] 25 :: R)) (m := fu) ⟨fu, x103, false, [], 0, [], [], a105, c106, none, 0, none, 0, none, 0, 0, [], rfl, hq113, h108, Sl.nil, Sl.nil, (Ev.nil), (rfl), hE.pick _ ⟨rfl, rfl, rfl, trivial⟩, hS⟩ ?_
  clear hE hS a w hq113; rintro m116 a w ⟨n115, q119, q123, q124, q128, q129, q133, a120, c121, a125, c126, a130, c131, a134, c135, n137, cs138, rfl, hq113, h122, h127, h132, h136, rfl, hE, hS⟩
  refine W.gen fun K140 hK140 => ?_
  rcases n115 with _ | n115
  ·rw [Fishref2tariffOf.loop1] at hq113; exact absurd hq113 (by simp)
  rw [Fishref2tariffOf.loop1] at hq113
  refine W.seq ?_
  refine W.seq ?_
  obtain ⟨q142, hq141, hq113⟩ := bindS hq113
  refine W.cut (fun a w => ∃ (q145 : Bool), q145 = q142 ∧ Rep a 141 [(2, pp b51), (6, .slice a120 q119.length c121), (7, pp b99), (55, .bool q145)] ∧ St w s100 (vecC 40 2 a134 c135 q133.length cs138 :: pc b99 #[.bool (seq x89 (str [107, 109])), .slice a134 q133.length c135, vi 0, .slice none 0 0] 25 :: pc b51 #[.bool q123, .slice a125 q124.length c126, vi q128, .slice a130 q129.length c131] 25 :: R)) ?_ ?_
  ·refine W.gen fun K146 hK146 => ?_
   refine W.region ?_
   refine vp hS hE rfl rfl fun a hE => ?_
   refine vP hS hE (Gives.len hE rfl sl59) rfl fun a hE => ?_
   refine v2 hS hE rfl rfl rfl rfl fun a hE => ?_
   rcases Bool.eq_false_or_eq_true (decide (((q119).length : Int) > 0)) with hg147 | hg147
   ·replace hq141 := iteT hg147 hq141
    refine WL.vS hS hE (runs_if hE rfl rfl rfl hg147) (Gives.p hE rfl) rfl fun a hE => ?_
    obtain ⟨x148, hx149, hq141⟩ := bindS hq141
    obtain ⟨hi150, hlt151, hy152⟩ := gx_some hx149
    obtain ⟨cs153, hl154, hR155, hat156⟩ := h122.at hy152
    subst hR155
    refine WL.vS hS hE (runs_if hE rfl rfl rfl hg147) (Gives.idx hE ((0 : Int)).toNat rfl rfl sl59 hi150 hlt151 (h122.aok hlt151)) rfl fun a hE => ?_
    refine WL.vS hS hE (runs_if hE rfl rfl rfl hg147) (Gives.load1 hE rfl (fun w h => hat156 w _ h) ty9) rfl fun a hE => ?_
    refine WL.fnq hE (hasp_ok hS) (runs_if hE rfl rfl rfl hg147) bd49 rfl rfl rfl ?_
    clear hE hS; rintro e w ⟨rfl, hS⟩; refine ⟨_, rfl, ?_⟩; clear a; intro a hE
    refine vP hS hE (Gives.pickT hE rfl hg147 rfl) rfl fun a hE => WL.nil ?_
    subst hK146
    exact ⟨(haspq x148 (str [98, 97, 110, 100, 32])), Option.some.inj hq141, hE.pick _ ⟨rfl, rfl, rfl, rfl, trivial⟩, hS⟩
   replace hq141 := iteF hg147 hq141
   refine nO hE rfl rfl rfl (by rw [hg147]; decide) rfl fun a hE => ?_
   refine nO hE rfl rfl rfl (by rw [hg147]; decide) rfl fun a hE => ?_
   refine nO hE rfl rfl rfl (by rw [hg147]; decide) rfl fun a hE => ?_
   refine nO hE rfl rfl rfl (by rw [hg147]; decide) rfl fun a hE => ?_
   refine vP hS hE (Gives.pickF hE rfl hg147 rfl) rfl fun a hE => WL.nil ?_
   subst hK146
   exact ⟨false, Option.some.inj hq141, hE.pick _ ⟨rfl, rfl, rfl, rfl, trivial⟩, hS⟩
  clear hE hS a w; rintro a w ⟨q145, rfl, hE, hS⟩
  refine W.cond hE rfl (fun hc157 => ?_) (fun hc157 => ?_)
  ·replace hq113 := iteT hc157 hq113
   refine W.skip ?_
   refine W.block ?_
   refine W.seq (W.region (vp hS hE rfl rfl fun a hE => ?_))
   obtain ⟨x158, hx159, hq113⟩ := bindS hq113
   obtain ⟨hi160, hlt161, hy162⟩ := gx_some hx159
   obtain ⟨cs163, hl164, hR165, hat166⟩ := h122.at hy162
   subst hR165
   refine vP hS hE (Gives.idx hE ((0 : Int)).toNat rfl rfl sl59 hi160 hlt161 (h122.aok hlt161)) rfl fun a hE => ?_
   refine vP hS hE (Gives.load1 hE rfl (fun w h => hat166 w _ h) ty9) rfl fun a hE => ?_
   obtain ⟨q167, hq168, hq113⟩ := bindS hq113
   refine WL.fnq hE (split_ok hS (TabG.mono hle101 hTab) hq168) (runs_plain rfl) bd38 rfl rfl rfl ?_
   clear hE hS; rintro e w ⟨b169, cs170, rfl, h171, hS⟩; refine ⟨_, rfl, ?_⟩; clear a; intro a hE
   refine vp hS hE rfl rfl fun a hE => WL.nil ?_
   refine W.seq ?_
   refine W.seq (W.region (vp hS hE rfl rfl fun a hE => ?_))
   refine vP hS hE (Gives.len hE rfl sl59) rfl fun a hE => ?_
   refine vp hS hE rfl rfl fun a hE => WL.nil ?_
   refine W.cond hE rfl (fun hc173 => ?_) (fun hc173 => ?_)
   ·replace hq113 := iteT hc173 hq113
    refine W.seq (W.region (vP hS hE (Gives.build hE (vs := []) [.bool false, .slice none 0 0, vi 0, .slice none 0 0] rfl (by kernel_rfl)) rfl fun a hE => ?_))
    refine WL.storeI hE hS 3 rfl [.bool false, .slice none 0 0, vi 0, .slice none 0 0] (runs_plain rfl) rfl rfl rfl ty25 rfl rfl rfl rfl ?_; clear hE hS a w; intro a w hE hS
    refine vp hS hE rfl rfl fun a hE => WL.nil ?_
    refine W.ret ?_
    subst hK140
    rw [← Option.some.inj hq113] at hr
    dsimp only at hr
    refine finG (fn := Tryz.f26) (rs := [.cell 2 25, .tmp 3]) (vs := [_, _]) hE rfl ⟨⟨_, rfl, .inl ⟨_, rfl, hS.seesAt 3 rfl, ty25⟩⟩, rfl, trivial⟩ ?_
    obtain rfl := Option.some.inj hr
    replace hS := hS.tail
    replace hS := hS.tail
    replace hS := hS.tail
    replace hS := hS.tail
    exact ⟨_, s100, rfl, hle101, ⟨_, _, _, _, rfl, Sl.nil, Sl.nil⟩, hS⟩
   replace hq113 := iteF hc173 hq113
   refine W.skip ?_
   refine W.seq (W.region (vp hS hE rfl rfl fun a hE => ?_))
   obtain ⟨x174, hx175, hq113⟩ := bindS hq113
   obtain ⟨hi176, hlt177, hy178⟩ := gx_some hx175
   obtain ⟨vs179, hl180, hR181, hd182, hget183⟩ := h171.at hy178
   subst hR181
   refine vP hS hE (Gives.idx hE (((1 : Int)).toNat) rfl rfl sl59 hi176 (by omega) (hS.vecAok 0 rfl (by omega : ((1 : Int)).toNat < q167.length))) rfl fun a hE => ?_
   refine vP hS hE (Gives.load1 hE rfl (fun w h => St.vecSees h 0 rfl (((1 : Int)).toNat * 1) _ hget183) ty9) rfl fun a hE => ?_
   obtain ⟨q184, hq185, hq113⟩ := bindS hq113
   have hc_ := Fishref2plain_ok hS (TabG.mono hle101 hTab) hq185
   refine WL.fnq hE (hc_) (runs_plain rfl) bd50 rfl rfl rfl ?_
   clear hE hS hc_; rintro e w ⟨rfl, hS⟩; refine ⟨_, rfl, ?_⟩; clear a; intro a hE
   refine v2 hS hE rfl rfl rfl rfl fun a hE => ?_
   refine v2 hS hE rfl rfl rfl rfl fun a hE => ?_
   refine vp hS hE rfl rfl fun a hE => WL.nil ?_
   refine W.seq (W.region (vp hS hE rfl rfl fun a hE => ?_))
   obtain ⟨x186, hx187, hq113⟩ := bindS hq113
   obtain ⟨hi188, hlt189, hy190⟩ := gx_some hx187
   obtain ⟨vs191, hl192, hR193, hd194, hget195⟩ := h171.at hy190
   subst hR193
   refine vP hS hE (Gives.idx hE (((2 : Int)).toNat) rfl rfl sl59 hi188 (by omega) (hS.vecAok 0 rfl (by omega : ((2 : Int)).toNat < q167.length))) rfl fun a hE => ?_
   refine vP hS hE (Gives.load1 hE rfl (fun w h => St.vecSees h 0 rfl (((2 : Int)).toNat * 1) _ hget195) ty9) rfl fun a hE => ?_
   obtain ⟨q196, hq197, hq113⟩ := bindS hq113
   have hc_ := Fishref2plain_ok hS (TabG.mono hle101 hTab) hq197
   refine WL.fnq hE (hc_) (runs_plain rfl) bd50 rfl rfl rfl ?_
   clear hE hS hc_; rintro e w ⟨rfl, hS⟩; refine ⟨_, rfl, ?_⟩; clear a; intro a hE
   refine v2 hS hE rfl rfl rfl rfl fun a hE => ?_
   refine v2 hS hE rfl rfl rfl rfl fun a hE => ?_
   refine vp hS hE rfl rfl fun a hE => WL.nil ?_
   refine W.seq ?_
   refine W.seq ?_
   obtain ⟨q199, hq198, hq113⟩ := bndS hq113
   refine W.cut (fun a w => ∃ (q202 : Bool), q202 = q199 ∧ Rep a 141 [(2, pp b51), (6, .slice a120 q119.length c121), (7, pp b99), (9, vi q184.1), (11, vi q196.1), (83, .bool q202)] ∧ St w s100 (vecC 40 2 a134 c135 q133.length cs138 :: pc b99 #[.bool (seq x89 (str [107, 109])), .slice a134 q133.length c135, vi 0, .slice none 0 0] 25 :: pc b51 #[.bool q123, .slice a125 q124.length c126, vi q128, .slice a130 q129.length c131] 25 :: R)) ?_ ?_
   ·refine W.gen fun K203 hK203 => ?_
    refine W.region ?_
    refine v2 hS hE rfl rfl rfl rfl fun a hE => ?_
    refine vp hS hE rfl rfl fun a hE => ?_
    rcases Bool.eq_false_or_eq_true !q184.2 with hg204 | hg204
    ·replace hq198 := iteT hg204 hq198
     refine nO hE rfl rfl rfl (by rw [hg204]; decide) rfl fun a hE => ?_
     refine nO hE rfl rfl rfl (by rw [hg204]; decide) rfl fun a hE => ?_
     refine vP hS hE (Gives.pickT hE rfl hg204 rfl) rfl fun a hE => WL.nil ?_
     replace hS := hS.tail
     subst hK203
     exact ⟨true, hq198, hE.pick _ ⟨rfl, rfl, rfl, rfl, rfl, rfl, trivial⟩, hS⟩
    replace hq198 := iteF hg204 hq198
    refine WL.vS hS hE (runs_if hE rfl rfl rfl hg204) (Gives.p hE rfl) rfl fun a hE => ?_
    refine WL.vS hS hE (runs_if hE rfl rfl rfl hg204) (Gives.p hE rfl) rfl fun a hE => ?_
    refine vP hS hE (Gives.pickF hE rfl hg204 rfl) rfl fun a hE => WL.nil ?_
    replace hS := hS.tail
    subst hK203
    exact ⟨!q196.2, hq198, hE.pick _ ⟨rfl, rfl, rfl, rfl, rfl, rfl, trivial⟩, hS⟩
   clear hE hS a w; rintro a w ⟨q202, rfl, hE, hS⟩
   refine W.cond hE rfl (fun hc205 => ?_) (fun hc205 => ?_)
   ·replace hq113 := iteT hc205 hq113
    refine W.seq (W.region (vP hS hE (Gives.build hE (vs := []) [.bool false, .slice none 0 0, vi 0, .slice none 0 0] rfl (by kernel_rfl)) rfl fun a hE => ?_))
    refine WL.storeI hE hS 2 rfl [.bool false, .slice none 0 0, vi 0, .slice none 0 0] (runs_plain rfl) rfl rfl rfl ty25 rfl rfl rfl rfl ?_; clear hE hS a w; intro a w hE hS
    refine vp hS hE rfl rfl fun a hE => WL.nil ?_
    refine W.ret ?_
    subst hK140
    rw [← Option.some.inj hq113] at hr
    dsimp only at hr
    refine finG (fn := Tryz.f26) (rs := [.cell 2 25, .tmp 3]) (vs := [_, _]) hE rfl ⟨⟨_, rfl, .inl ⟨_, rfl, hS.seesAt 2 rfl, ty25⟩⟩, rfl, trivial⟩ ?_
    obtain rfl := Option.some.inj hr
    replace hS := hS.tail
    replace hS := hS.tail
    replace hS := hS.tail
    exact ⟨_, s100, rfl, hle101, ⟨_, _, _, _, rfl, Sl.nil, Sl.nil⟩, hS⟩
   replace hq113 := iteF hc205 hq113
   refine W.skip ?_
   refine W.seq (W.region (vP hS hE (Gives.fld hE rfl fl25_1) rfl fun a hE => ?_))
   refine vP hS hE (Gives.loadB hE 1 rfl rfl rfl ty22) rfl fun a hE => ?_
   refine v2 hS hE rfl rfl rfl rfl fun a hE => ?_
   refine vP hS hE (Gives.build hE (vs := [(0, vi q184.1), (1, vi q196.1)]) [vi q184.1, vi q196.1] rfl (by kernel_rfl)) rfl fun a hE => ?_
   refine WL.lit hE hS (e := 40) (es := 2) (vs := [(0, .agg (List.toArray [vi q184.1, vi q196.1]))]) (cs := [vi q184.1, vi q196.1]) (runs_plain rfl) rfl (by kernel_rfl) rfl ?_; clear hE hS a w; intro b206 a w hE hS
   obtain ⟨x207, hx208, hq113⟩ := bindS hq113
   refine WL.appD hE hS 0 (m := 1) (runs_plain rfl) rfl rfl rfl ap22 rfl h136 rfl (xs := [(FareBand.mk q184.1 q196.1)]) (Ev.cons (c1 := [vi q184.1, vi q196.1]) rfl rfl (Ev.nil)) rfl rfl hx208 rfl ?_; clear hE hS a w; intro a209 c210 cs211 a w h212 hE hS
   refine vP hS hE (Gives.fld hE rfl fl25_1) rfl fun a hE => ?_
   refine WL.storeI hE hS 1 rfl [.bool (seq x89 (str [107, 109])), .slice a209 x207.length c210, vi 0, .slice none 0 0] (runs_plain rfl) rfl rfl rfl ty22 rfl rfl rfl rfl ?_; clear hE hS a w; intro a w hE hS
   refine WL.nil ?_
   refine W.region ?_
   refine vp hS hE rfl rfl fun a hE => ?_
   obtain ⟨x213, hx214, hq113⟩ := bindS hq113
   obtain ⟨a215, c216, heq217, h218⟩ := h122.cut hx214
   obtain ⟨h219, h220, h221, _⟩ := cutl_some hx214
   refine vP hS hE (Gives.slL hE sl59 rfl rfl h219 (by omega) (by simpa using heq217)) rfl fun a hE => ?_
   refine vp hS hE rfl rfl fun a hE => WL.nil ?_
   subst hK140
   exact ⟨n115, Nat.lt_succ_self _, n115, x213, q123, q124, q128, q129, x207, a215, c216, a125, c126, a130, c131, a209, c210, x207.length, cs211, rfl, hq113, h218, h127, h132, h212, (rfl), hE.pick _ ⟨rfl, rfl, rfl, trivial⟩, hS⟩
  replace hq113 := iteF hc157 hq113
  subst hK140
  refine W.exit rfl ?_
  exact ⟨q119, q123, q124, q128, q129, q133, a120, c121, a125, c126, a130, c131, a134, c135, q133.length, cs138, Option.some.inj hq113, h122, h127, h132, h136, rfl, hE.pick _ ⟨rfl, rfl, rfl, trivial⟩, hS⟩
 clear hE hS a w; rintro a w ⟨q119, q123, q124, q128, q129, q133, a120, c121, a125, c126, a130, c131, a134, c135, n137, cs138, rfl, h122, h127, h132, h136, rfl, hE, hS⟩
 dsimp only at hr
 refine W.seq ?_
 refine W.seq ?_
 obtain ⟨q223, hq222, hr⟩ := bindS hr
 refine W.cut (fun a w => ∃ (q226 : Bool), q226 = q223 ∧ Rep a 141 [(2, pp b51), (6, .slice a120 q119.length c121), (7, pp b99), (104, .bool q226)] ∧ St w s100 (vecC 40 2 a134 c135 q133.length cs138 :: pc b99 #[.bool (seq x89 (str [107, 109])), .slice a134 q133.length c135, vi 0, .slice none 0 0] 25 :: pc b51 #[.bool q123, .slice a125 q124.length c126, vi q128, .slice a130 q129.length c131] 25 :: R)) ?_ ?_
 ·refine W.gen fun K227 hK227 => ?_
  refine W.region ?_
  refine vp hS hE rfl rfl fun a hE => ?_
  refine vP hS hE (Gives.len hE rfl sl59) rfl fun a hE => ?_
  refine v2 hS hE rfl rfl rfl rfl fun a hE => ?_
  rcases Bool.eq_false_or_eq_true (((q119).length : Int) == 0) with hg228 | hg228
  ·replace hq222 := iteT hg228 hq222
   refine nO hE rfl rfl rfl (by rw [hg228]; decide) rfl fun a hE => ?_
   refine nO hE rfl rfl rfl (by rw [hg228]; decide) rfl fun a hE => ?_
   refine nO hE rfl rfl rfl (by rw [hg228]; decide) rfl fun a hE => ?_
   refine nO hE rfl rfl rfl (by rw [hg228]; decide) rfl fun a hE => ?_
   refine nO hE rfl rfl rfl (by rw [hg228]; decide) rfl fun a hE => ?_
   refine vP hS hE (Gives.pickT hE rfl hg228 rfl) rfl fun a hE => WL.nil ?_
   subst hK227
   exact ⟨true, Option.some.inj hq222, hE.pick _ ⟨rfl, rfl, rfl, rfl, trivial⟩, hS⟩
  replace hq222 := iteF hg228 hq222
  refine WL.vS hS hE (runs_if hE rfl rfl rfl hg228) (Gives.p hE rfl) rfl fun a hE => ?_
  obtain ⟨x229, hx230, hq222⟩ := bindS hq222
  obtain ⟨hi231, hlt232, hy233⟩ := gx_some hx230
  obtain ⟨cs234, hl235, hR236, hat237⟩ := h122.at hy233
  subst hR236
  refine WL.vS hS hE (runs_if hE rfl rfl rfl hg228) (Gives.idx hE ((0 : Int)).toNat rfl rfl sl59 hi231 hlt232 (h122.aok hlt232)) rfl fun a hE => ?_
  refine WL.vS hS hE (runs_if hE rfl rfl rfl hg228) (Gives.load1 hE rfl (fun w h => hat237 w _ h) ty9) rfl fun a hE => ?_
  refine WL.fnq hE (hasp_ok hS) (runs_if hE rfl rfl rfl hg228) bd49 rfl rfl rfl ?_
  clear hE hS; rintro e w ⟨rfl, hS⟩; refine ⟨_, rfl, ?_⟩; clear a; intro a hE
  refine WL.vS hS hE (runs_if hE rfl rfl rfl hg228) (Gives.p hE rfl) rfl fun a hE => ?_
  refine vP hS hE (Gives.pickF hE rfl hg228 rfl) rfl fun a hE => WL.nil ?_
  subst hK227
  exact ⟨!(haspq x229 (str [114, 111, 117, 110, 100, 32])), Option.some.inj hq222, hE.pick _ ⟨rfl, rfl, rfl, rfl, trivial⟩, hS⟩
 clear hE hS a w; rintro a w ⟨q226, rfl, hE, hS⟩
 refine W.cond hE rfl (fun hc238 => ?_) (fun hc238 => ?_)
 ·replace hr := iteT hc238 hr
  refine W.seq (W.region (vP hS hE (Gives.build hE (vs := []) [.bool false, .slice none 0 0, vi 0, .slice none 0 0] rfl (by kernel_rfl)) rfl fun a hE => ?_))
  refine WL.storeI hE hS 2 rfl [.bool false, .slice none 0 0, vi 0, .slice none 0 0] (runs_plain rfl) rfl rfl rfl ty25 rfl rfl rfl rfl ?_; clear hE hS a w; intro a w hE hS
  refine vp hS hE rfl rfl fun a hE => WL.nil ?_
  refine W.ret ?_
  refine finG (fn := Tryz.f26) (rs := [.cell 2 25, .tmp 3]) (vs := [_, _]) hE rfl ⟨⟨_, rfl, .inl ⟨_, rfl, hS.seesAt 2 rfl, ty25⟩⟩, rfl, trivial⟩ ?_
  obtain rfl := Option.some.inj hr
  replace hS := hS.tail
  replace hS := hS.tail
  replace hS := hS.tail
  exact ⟨_, s100, rfl, hle101, ⟨_, _, _, _, rfl, Sl.nil, Sl.nil⟩, hS⟩
 replace hr := iteF hc238 hr
 refine W.skip ?_
 refine W.seq (W.region (vp hS hE rfl rfl fun a hE => WL.nil ?_))
 refine W.seq ?_
 refine W.seq (W.region (vp hS hE rfl rfl fun a hE => ?_))
 obtain ⟨x239, hx240, hr⟩ := bindS hr
 obtain ⟨hi241, hlt242, hy243⟩ := gx_some hx240
 obtain ⟨cs244, hl245, hR246, hat247⟩ := h122.at hy243
 subst hR246
 refine vP hS hE (Gives.idx hE ((0 : Int)).toNat rfl rfl sl59 hi241 hlt242 (h122.aok hlt242)) rfl fun a hE => ?_
 refine vP hS hE (Gives.load1 hE rfl (fun w h => hat247 w _ h) ty9) rfl fun a hE => ?_
 obtain ⟨x248, hx249, hr⟩ := bindS hr
 refine vP hS hE (Gives.cutSL hE st9 rfl rfl hx249) rfl fun a hE => ?_
 obtain ⟨q250, hq251, hr⟩ := bindS hr
 have hc_ := Fishref2plain_ok hS (TabG.mono hle101 hTab) hq251
 refine WL.fnq hE (hc_) (runs_plain rfl) bd50 rfl rfl rfl ?_
 clear hE hS hc_; rintro e w ⟨rfl, hS⟩; refine ⟨_, rfl, ?_⟩; clear a; intro a hE
 refine v2 hS hE rfl rfl rfl rfl fun a hE => ?_
 refine vp hS hE rfl rfl fun a hE => ?_
 refine vP hS hE (Gives.fld hE rfl fl25_2) rfl fun a hE => ?_
 refine WL.storeI hE hS 1 rfl [.bool (seq x89 (str [107, 109])), .slice a134 q133.length c135, vi q250.1, .slice none 0 0] (runs_plain rfl) rfl rfl rfl ty3 rfl rfl rfl rfl ?_; clear hE hS a w; intro a w hE hS
 refine vp hS hE rfl rfl fun a hE => WL.nil ?_
 refine W.seq (W.region (v2 hS hE rfl rfl rfl rfl fun a hE => WL.nil ?_))
 refine W.cond hE rfl (fun hc252 => ?_) (fun hc252 => ?_)
 ·replace hr := iteT hc252 hr
  refine W.seq (W.region (vP hS hE (Gives.build hE (vs := []) [.bool false, .slice none 0 0, vi 0, .slice none 0 0] rfl (by kernel_rfl)) rfl fun a hE => ?_))
  refine WL.storeI hE hS 2 rfl [.bool false, .slice none 0 0, vi 0, .slice none 0 0] (runs_plain rfl) rfl rfl rfl ty25 rfl rfl rfl rfl ?_; clear hE hS a w; intro a w hE hS
  refine vp hS hE rfl rfl fun a hE => WL.nil ?_
  refine W.ret ?_
  refine finG (fn := Tryz.f26) (rs := [.cell 2 25, .tmp 3]) (vs := [_, _]) hE rfl ⟨⟨_, rfl, .inl ⟨_, rfl, hS.seesAt 2 rfl, ty25⟩⟩, rfl, trivial⟩ ?_
  obtain rfl := Option.some.inj hr
  replace hS := hS.tail
  replace hS := hS.tail
  replace hS := hS.tail
  exact ⟨_, s100, rfl, hle101, ⟨_, _, _, _, rfl, Sl.nil, Sl.nil⟩, hS⟩
 replace hr := iteF hc252 hr
 refine W.skip ?_
 refine W.seq ?_
 refine W.seq (W.region (vp hS hE rfl rfl fun a hE => ?_))
 obtain ⟨x253, hx254, hr⟩ := bindS hr
 obtain ⟨a255, c256, heq257, h258⟩ := h122.cut hx254
 obtain ⟨h259, h260, h261, _⟩ := cutl_some hx254
 refine vP hS hE (Gives.slL hE sl59 rfl rfl h259 (by omega) (by simpa using heq257)) rfl fun a hE => ?_
 refine vP hS hE (Gives.len hE rfl sl59) rfl fun a hE => ?_
 refine vp hS hE rfl rfl fun a hE => WL.nil ?_
 replace hS := hS.vecNil 45 7
 obtain ⟨q264, hq263, hr⟩ := bindS hr
 refine W.cut (fun a w => ∃ (q274 : Bool), ∃ (q275 : List FareBand), ∃ (q279 : Int), ∃ (q280 : List FareRule), ∃ (q284 : List FareRule), ∃ (a276 : Option Addr), ∃ (c277 : Nat), ∃ (a281 : Option Addr), ∃ (c282 : Nat), ∃ (a285 : Option Addr), ∃ (c286 : Nat), ∃ (n288 : Nat), ∃ (cs289 : List Value), ∃ (s272 : Sg), s100.Le s272 ∧ (.next (q274, q275, q279, q280, q284)) = q264 ∧ Sl 2 RFareBand s272 a276 c277 q275 ∧ Sl 7 RFareRule s272 a281 c282 q280 ∧ Ev 7 RFareRule s272 cs289 q284 ∧ q284.length = n288 ∧ Rep a 141 [(2, pp b51), (7, pp b99)] ∧ St w s272 (vecC 45 7 a285 c286 n288 cs289 :: vecC 40 2 a134 c135 q133.length cs138 :: pc b99 #[.bool (seq x89 (str [107, 109])), .slice a134 q133.length c135, vi q250.1, .slice a285 n288 c286] 25 :: pc b51 #[.bool q274, .slice a276 q275.length c277, vi q279, .slice a281 q280.length c282] 25 :: R)) ?_ ?_
 ·refine W.block ?_
  refine W.loop (fun m a w => ∃ (rest267 : List ByteArray) (k265 : Nat), ∃ (q274 : Bool), ∃ (q275 : List FareBand), ∃ (q279 : Int), ∃ (q280 : List FareRule), ∃ (q284 : List FareRule), ∃ (a276 : Option Addr), ∃ (c277 : Nat), ∃ (a281 : Option Addr), ∃ (c282 : Nat), ∃ (a285 : Option Addr), ∃ (c286 : Nat), ∃ (n288 : Nat), ∃ (cs289 : List Value), ∃ (s272 : Sg), rest267.length = m ∧ x253.drop k265 = rest267 ∧ s100.Le s272 ∧ Fishref2tariffOf.loop2 fu rest267 q274 q275 q279 q280 q284 = some q264 ∧ Sl 2 RFareBand s272 a276 c277 q275 ∧ Sl 7 RFareRule s272 a281 c282 q280 ∧ Ev 7 RFareRule s272 cs289 q284 ∧ q284.length = n288 ∧ Rep a 141 [(2, pp b51), (7, pp b99), (119, .slice a255 x253.length c256), (120, vi ((x253).length : Int)), (121, vi ((k265 : Nat) : Int))] ∧ St w s272 (vecC 45 7 a285 c286 n288 cs289 :: vecC 40 2 a134 c135 q133.length cs138 :: pc b99 #[.bool (seq x89 (str [107, 109])), .slice a134 q133.length c135, vi q250.1, .slice a285 n288 c286] 25 :: pc b51 #[.bool q274, .slice a276 q275.length c277, vi q279, .slice a281 q280.length c282] 25 :: R)) (m := x253.length) ⟨x253, 0, q123, q124, q128, q129, [], a125, c126, a130, c131, none, 0, 0, [], s100, rfl, rfl, (Sg.Le.refl _), hq263, h127, h132, (Ev.nil), (rfl), hE.pick _ ⟨rfl, rfl, rfl, rfl, rfl, trivial⟩, hS⟩ ?_
  clear hE hS a w hq263; rintro m271 a w ⟨rest267, k265, q274, q275, q279, q280, q284, a276, c277, a281, c282, a285, c286, n288, cs289, s272, rfl, hd268, hle273, hq263, h278, h283, h287, rfl, hE, hS⟩
  refine W.gen fun K291 hK291 => ?_
  replace h122 := Sl.mono RS.mono hle273 h122
  replace h258 := Sl.mono RS.mono hle273 h258
  replace h136 := Ev.mono RFareBand.mono hle273 h136
  replace h127 := Sl.mono RFareBand.mono hle273 h127
  replace h132 := Sl.mono RFareRule.mono hle273 h132
  rcases rest267 with _ | ⟨x266, rest267⟩
  ·have hlt269 := drop_nil hd268
   refine W.seq (W.region (vp hS hE rfl rfl fun a hE => WL.nil ?_))
   refine W.seq ?_
   refine W.condF hE rfl (decide_eq_false (by omega)) ?_
   subst hK291
   refine W.exit rfl ?_
   exact ⟨q274, q275, q279, q280, q284, a276, c277, a281, c282, a285, c286, q284.length, cs289, s272, hle273, Option.some.inj hq263, h278, h283, h287, rfl, hE.pick _ ⟨rfl, rfl, trivial⟩, hS⟩
  obtain ⟨hlt269, hx270, hd268⟩ := drop_cons hd268
  rw [Fishref2tariffOf.loop2] at hq263
  refine W.seq (W.region (vp hS hE rfl rfl fun a hE => WL.nil ?_))
  refine W.seq ?_
  refine W.condT hE rfl (decide_eq_true (by omega)) ?_
  refine W.skip ?_
  refine W.seq ?_
  refine W.block ?_
  refine W.seq (W.region ?_)
  obtain ⟨cs292, hl293, hR294, hat295⟩ := h258.at hx270
  subst hR294
  refine vP hS hE (Gives.idx hE k265 rfl rfl sl59 rfl hlt269 (h258.aok hlt269)) rfl fun a hE => ?_
  refine vP hS hE (Gives.load1 hE rfl (fun w h => hat295 w _ h) ty9) rfl fun a hE => ?_
  refine vp hS hE rfl rfl fun a hE => WL.nil ?_
  refine W.seq (W.region (vp hS hE rfl rfl fun a hE => ?_))
  obtain ⟨q296, hq297, hq263⟩ := bindS hq263
  have hc_ := Fishref2ruleOf_ok hS (TabG.mono (Sg.Le.trans hle101 hle273) hTab) hq297
  refine WL.fnq hE (hc_) (runs_plain rfl) bd51 rfl rfl rfl ?_
  clear hE hS hc_; rintro e w ⟨cs298, s300, rfl, hle301, h299, hS⟩; refine ⟨_, rfl, ?_⟩; clear a; intro a hE
  replace h258 := Sl.mono RS.mono hle301 h258
  replace h287 := Ev.mono RFareRule.mono hle301 h287
  replace h136 := Ev.mono RFareBand.mono hle301 h136
  replace h278 := Sl.mono RFareBand.mono hle301 h278
  replace h283 := Sl.mono RFareRule.mono hle301 h283
  obtain ⟨a302, c303, rfl, h304⟩ := h299
  refine v2 hS hE rfl rfl rfl rfl fun a hE => ?_
  refine vp hS hE rfl rfl fun a hE => ?_
  refine WL.alloc hE hS (runs_plain rfl) zr45 rfl ?_; clear hE hS a w; intro b305 a w hE hS
  refine WL.storeI hE hS 0 rfl [vi q296.1.If.Kind, vi q296.1.If.A, vi q296.1.If.B, .slice a302 q296.1.If.Kids.length c303, vi q296.1.Do, vi q296.1.N, .bool q296.1.Stop] (runs_plain rfl) rfl rfl rfl ty45 rfl rfl rfl rfl ?_; clear hE hS a w; intro a w hE hS
  refine vp hS hE rfl rfl fun a hE => WL.nil ?_
  refine W.seq ?_
  refine W.seq (W.region (v2 hS hE rfl rfl rfl rfl fun a hE => WL.nil ?_))
  refine W.cond hE rfl (fun hc306 => ?_) (fun hc306 => ?_)
  ·replace hq263 := iteT hc306 hq263
   refine W.seq (W.region (vP hS hE (Gives.build hE (vs := []) [.bool false, .slice none 0 0, vi 0, .slice none 0 0] rfl (by kernel_rfl)) rfl fun a hE => ?_))
   refine WL.storeI hE hS 4 rfl [.bool false, .slice none 0 0, vi 0, .slice none 0 0] (runs_plain rfl) rfl rfl rfl ty25 rfl rfl rfl rfl ?_; clear hE hS a w; intro a w hE hS
   refine vp hS hE rfl rfl fun a hE => WL.nil ?_
   refine W.ret ?_
   subst hK291
   rw [← Option.some.inj hq263] at hr
   dsimp only at hr
   refine finG (fn := Tryz.f26) (rs := [.cell 2 25, .tmp 3]) (vs := [_, _]) hE rfl ⟨⟨_, rfl, .inl ⟨_, rfl, hS.seesAt 4 rfl, ty25⟩⟩, rfl, trivial⟩ ?_
   obtain rfl := Option.some.inj hr
   replace hS := hS.tail
   replace hS := hS.tail
   replace hS := hS.tail
   replace hS := hS.tail
   replace hS := hS.tail
   exact ⟨_, s300, rfl, (Sg.Le.trans (Sg.Le.trans hle101 hle273) hle301), ⟨_, _, _, _, rfl, Sl.nil, Sl.nil⟩, hS⟩
  replace hq263 := iteF hc306 hq263
  refine W.skip ?_
  refine W.region ?_
  refine vP hS hE (Gives.fld hE rfl fl25_3) rfl fun a hE => ?_
  refine vP hS hE (Gives.loadB hE 3 rfl rfl rfl ty23) rfl fun a hE => ?_
  refine vP hS hE (Gives.loadBA hE 0 rfl rfl ty45) rfl fun a hE => ?_
  refine WL.lit hE hS (e := 45) (es := 7) (vs := [(0, .agg (List.toArray [vi q296.1.If.Kind, vi q296.1.If.A, vi q296.1.If.B, .slice a302 q296.1.If.Kids.length c303, vi q296.1.Do, vi q296.1.N, .bool q296.1.Stop]))]) (cs := [vi q296.1.If.Kind, vi q296.1.If.A, vi q296.1.If.B, .slice a302 q296.1.If.Kids.length c303, vi q296.1.Do, vi q296.1.N, .bool q296.1.Stop]) (runs_plain rfl) rfl (by kernel_rfl) rfl ?_; clear hE hS a w; intro b307 a w hE hS
  obtain ⟨x308, hx309, hq263⟩ := bindS hq263
  refine WL.appD hE hS 1 (m := 1) (runs_plain rfl) rfl rfl rfl ap23 rfl h287 rfl (xs := [q296.1]) (Ev.cons (c1 := [vi q296.1.If.Kind, vi q296.1.If.A, vi q296.1.If.B, .slice a302 q296.1.If.Kids.length c303, vi q296.1.Do, vi q296.1.N, .bool q296.1.Stop]) ⟨_, _, rfl, h304⟩ rfl (Ev.nil)) rfl rfl hx309 rfl ?_; clear hE hS a w; intro a310 c311 cs312 a w h313 hE hS
  refine vP hS hE (Gives.fld hE rfl fl25_3) rfl fun a hE => ?_
  refine WL.storeI hE hS 3 rfl [.bool (seq x89 (str [107, 109])), .slice a134 q133.length c135, vi q250.1, .slice a310 x308.length c311] (runs_plain rfl) rfl rfl rfl ty23 rfl rfl rfl rfl ?_; clear hE hS a w; intro a w hE hS
  refine WL.nil ?_
  refine W.region ?_
  refine vP hS hE (Gives.inc hE rfl (by have := h258.small; omega)) rfl fun a hE => ?_
  refine vp hS hE rfl rfl fun a hE => WL.nil ?_
  replace hS := hS.tail
  subst hK291
  exact ⟨rest267.length, Nat.lt_succ_self _, rest267, k265 + 1, q274, q275, q279, q280, x308, a276, c277, a281, c282, a310, c311, x308.length, cs312, s300, rfl, hd268, (Sg.Le.trans hle273 hle301), hq263, h278, h283, h313, (rfl), hE.pick _ ⟨rfl, rfl, rfl, rfl, rfl, trivial⟩, hS⟩
 clear hE hS a w; rintro a w ⟨q274, q275, q279, q280, q284, a276, c277, a281, c282, a285, c286, n288, cs289, s272, hle273, rfl, h278, h283, h287, rfl, hE, hS⟩
 dsimp only at hr
 replace h122 := Sl.mono RS.mono hle273 h122
 replace h258 := Sl.mono RS.mono hle273 h258
 replace h136 := Ev.mono RFareBand.mono hle273 h136
 replace h127 := Sl.mono RFareBand.mono hle273 h127
 replace h132 := Sl.mono RFareRule.mono hle273 h132
 refine W.seq (W.region (vP hS hE (Gives.loadBA hE 2 rfl rfl ty25) rfl fun a hE => ?_))
 refine WL.storeI hE hS 3 rfl [.bool (seq x89 (str [107, 109])), .slice a134 q133.length c135, vi q250.1, .slice a285 q284.length c286] (runs_plain rfl) rfl rfl rfl ty25 rfl rfl rfl rfl ?_; clear hE hS a w; intro a w hE hS
 refine vp hS hE rfl rfl fun a hE => WL.nil ?_
 refine W.ret ?_
 have hF := hS.fixD RFareBand.mono 1 rfl h136 rfl; clear hS; obtain ⟨s314, hle315, hS, h316⟩ := hF
 replace h287 := Ev.mono RFareRule.mono hle315 h287
 have hF := hS.fixD RFareRule.mono 0 rfl h287 rfl; clear hS; obtain ⟨s317, hle318, hS, h319⟩ := hF
 replace h316 := Sl.mono RFareBand.mono hle318 h316
 refine finG (fn := Tryz.f26) (rs := [.cell 2 25, .tmp 3]) (vs := [_, _]) hE rfl ⟨⟨_, rfl, .inl ⟨_, rfl, hS.seesAt 1 rfl, ty25⟩⟩, rfl, trivial⟩ ?_
 obtain rfl := Option.some.inj hr
 replace hS := hS.tail
 replace hS := hS.tail
 exact ⟨_, s317, rfl, (Sg.Le.trans (Sg.Le.trans (Sg.Le.trans hle101 hle273) hle315) hle318), ⟨_, _, _, _, rfl, h316, h319⟩, hS⟩
set_option maxHeartbeats 8000000 in
theorem Fishref2within_ok  {w : World} {s : Sg} {R : List HP} {x0 : Int} {x1 : Int} {x2 : Int} (hS : St w s (R))  {r : Bool} (hr : Fishref2within x0 x1 x2 = r) :
  Calls Tryz.prog 14 [vi x0, vi x1, vi x2].toArray w (fun e w => e = .returned (.bool r) ∧ St w s (R)) := by
 refine enter Tryz.func14 rfl rfl rfl fun a hE => ?_
 rw [Fishref2within] at hr
 refine W.seq (W.region (vp hS hE rfl rfl fun a hE => WL.nil ?_))
 refine W.seq ?_
 obtain ⟨q52, hq51, hr⟩ := bndS hr
 refine W.cut (fun a w => ∃ (q55 : Bool), q55 = q52 ∧ Rep a 15 [(6, .bool q55)] ∧ St w s (R)) ?_ ?_
 ·refine W.gen fun K56 hK56 => ?_
  refine W.region ?_
  refine v2 hS hE rfl rfl rfl rfl fun a hE => ?_
  refine v2 hS hE rfl rfl rfl rfl fun a hE => ?_
  rcases Bool.eq_false_or_eq_true (decide (x0 ≥ x1)) with hg57 | hg57
  ·replace hq51 := iteT hg57 hq51
   refine WL.vS hS hE (runs_if hE rfl rfl rfl hg57) (Gives.p hE rfl) rfl fun a hE => ?_
   refine WL.vS hS hE (runs_if hE rfl rfl rfl hg57) (Gives.p hE rfl) rfl fun a hE => ?_
   refine WL.vS hS hE (runs_if hE rfl rfl rfl hg57) (Gives.p hE rfl) rfl fun a hE => ?_
   refine vP hS hE (Gives.pickT hE rfl hg57 rfl) rfl fun a hE => ?_
   refine vp hS hE rfl rfl fun a hE => WL.nil ?_
   subst hK56
   exact ⟨decide (x0 ≤ x2), hq51, hE.pick _ ⟨rfl, trivial⟩, hS⟩
  replace hq51 := iteF hg57 hq51
  refine nO hE rfl rfl rfl (by rw [hg57]; decide) rfl fun a hE => ?_
  refine nO hE rfl rfl rfl (by rw [hg57]; decide) rfl fun a hE => ?_
  refine nO hE rfl rfl rfl (by rw [hg57]; decide) rfl fun a hE => ?_
  refine vP hS hE (Gives.pickF hE rfl hg57 rfl) rfl fun a hE => ?_
  refine vp hS hE rfl rfl fun a hE => WL.nil ?_
  subst hK56
  exact ⟨false, hq51, hE.pick _ ⟨rfl, trivial⟩, hS⟩
 clear hE hS a w; rintro a w ⟨q55, rfl, hE, hS⟩
 refine W.ret ?_
 refine finG (fn := Tryz.f14) (rs := [.tmp 6]) (vs := [_]) hE rfl ⟨rfl, trivial⟩ ?_
 subst hr
 exact ⟨rfl, hS⟩
set_option maxHeartbeats 8000000 in
theorem Fishref2shape_v1_ok : ∀ {fu : Nat} {w : World} {s : Sg} {R : List HP} {pb0 : Nat} {x0 : FareCond} {a0_0 : Option Addr} {c0_0 : Nat} {y0 : Int} (_hS : St w s (pc pb0 #[vi y0] 3 :: R)) (_h0_0 : Sl 4 RFareCond s a0_0 c0_0 x0.Kids) {r : Int × Int} (_hr : Fishref2shape_v1 fu x0 y0 = some r),
  Calls Tryz.prog 33 [.agg (List.toArray [vi x0.Kind, vi x0.A, vi x0.B, .slice a0_0 x0.Kids.length c0_0]), pp pb0].toArray w (fun e w => e = .returned (vi r.1) ∧ St w s (pc pb0 #[vi r.2] 3 :: R)) := by
 intro fu
 induction fu with
 | zero => intro w s R pb0 x0 a0_0 c0_0 y0 hS h0_0 r hr; rw [Fishref2shape_v1] at hr; exact absurd hr (by simp)
 | succ fu ih_Fishref2shape_v1 =>
  intro w s R pb0 x0 a0_0 c0_0 y0 hS h0_0 r hr
  rw [Fishref2shape_v1] at hr
  generalize Fishref2shape_v1 fu = self_Fishref2shape_v1 at hr ih_Fishref2shape_v1
  refine enter Tryz.func33 rfl rfl rfl fun a hE => ?_
  refine W.seq (W.region ?_)
  refine WL.box hE hS (runs_plain rfl) rfl rfl rfl ?_; clear hE hS a w; intro b52 a w hE hS
  refine vp hS hE rfl rfl fun a hE => WL.nil ?_
  refine W.seq (W.region (vp hS hE rfl rfl fun a hE => ?_))
  refine vP hS hE (Gives.nilOk hE rfl) rfl fun a hE => ?_
  refine vP hS hE (Gives.loadB hE 1 rfl rfl rfl ty3) rfl fun a hE => ?_
  refine vp hS hE rfl rfl fun a hE => ?_
  refine vP hS hE (Gives.nilOk hE rfl) rfl fun a hE => ?_
  refine WL.storeI hE hS 1 rfl [vi (w64 (y0 - 1))] (runs_plain rfl) rfl rfl rfl ty3 rfl rfl rfl rfl ?_; clear hE hS a w; intro a w hE hS
  refine WL.nil ?_
  refine W.seq ?_
  refine W.seq (W.region (vp hS hE rfl rfl fun a hE => ?_))
  refine vP hS hE (Gives.nilOk hE rfl) rfl fun a hE => ?_
  refine vP hS hE (Gives.loadB hE 1 rfl rfl rfl ty3) rfl fun a hE => ?_
  refine vp hS hE rfl rfl fun a hE => WL.nil ?_
  refine W.cond hE rfl (fun hc53 => ?_) (fun hc53 => ?_)
  ·replace hr := iteT hc53 hr
   refine W.seq (W.region (vp hS hE rfl rfl fun a hE => WL.nil ?_))
   refine W.ret ?_
   refine finG (fn := Tryz.f33) (rs := [.tmp 4]) (vs := [_]) hE rfl ⟨rfl, trivial⟩ ?_
   obtain rfl := Option.some.inj hr
   replace hS := hS.tail
   exact ⟨rfl, hS⟩
  replace hr := iteF hc53 hr
  refine W.skip ?_
  refine W.seq ?_
  refine W.seq (W.region (vP hS hE (Gives.fld hE rfl fl43_3) rfl fun a hE => ?_))
  refine vP hS hE (Gives.loadB hE 0 rfl rfl rfl ty41) rfl fun a hE => ?_
  refine vP hS hE (Gives.len hE rfl sl41) rfl fun a hE => ?_
  refine vp hS hE rfl rfl fun a hE => WL.nil ?_
  obtain ⟨q55, hq54, hr⟩ := bindS hr
  refine W.cut (fun a w => ∃ (q65 : Int), ∃ (q66 : Int), (q65, q66) = q55 ∧ Rep a 35 [(4, vi q65)] ∧ St w s (pc b52 #[vi x0.Kind, vi x0.A, vi x0.B, .slice a0_0 x0.Kids.length c0_0] 43 :: pc pb0 #[vi q66] 3 :: R)) ?_ ?_
  ·refine W.block ?_
   refine W.loop (fun m a w => ∃ (rest58 : List FareCond) (k56 : Nat), ∃ (q65 : Int), ∃ (q66 : Int), rest58.length = m ∧ x0.Kids.drop k56 = rest58 ∧ Fishref2shape_v1.loop1 self_Fishref2shape_v1 rest58 q65 q66 = some q55 ∧ Rep a 35 [(1, pp pb0), (4, vi q65), (17, .slice a0_0 x0.Kids.length c0_0), (18, vi ((x0.Kids).length : Int)), (19, vi ((k56 : Nat) : Int))] ∧ St w s (pc b52 #[vi x0.Kind, vi x0.A, vi x0.B, .slice a0_0 x0.Kids.length c0_0] 43 :: pc pb0 #[vi q66] 3 :: R)) (m := x0.Kids.length) ⟨x0.Kids, 0, 0, (w64 (y0 - 1)), rfl, rfl, hq54, hE.pick _ ⟨rfl, rfl, rfl, rfl, rfl, trivial⟩, hS⟩ ?_
   clear hE hS a w hq54; rintro m62 a w ⟨rest58, k56, q65, q66, rfl, hd59, hq54, hE, hS⟩
   refine W.gen fun K67 hK67 => ?_
   rcases rest58 with _ | ⟨x57, rest58⟩
   ·have hlt60 := drop_nil hd59
    refine W.seq (W.region (vp hS hE rfl rfl fun a hE => WL.nil ?_))
    refine W.seq ?_
    refine W.condF hE rfl (decide_eq_false (by omega)) ?_
    subst hK67
    refine W.exit rfl ?_
    exact ⟨q65, q66, Option.some.inj hq54, hE.pick _ ⟨rfl, trivial⟩, hS⟩
   obtain ⟨hlt60, hx61, hd59⟩ := drop_cons hd59
   rw [Fishref2shape_v1.loop1] at hq54
   refine W.seq (W.region (vp hS hE rfl rfl fun a hE => WL.nil ?_))
   refine W.seq ?_
   refine W.condT hE rfl (decide_eq_true (by omega)) ?_
   refine W.skip ?_
   refine W.seq ?_
   refine W.block ?_
   refine W.seq (W.region ?_)
   obtain ⟨cs68, hl69, hR70, hat71⟩ := h0_0.at hx61
   obtain ⟨a72, c73, rfl, h74⟩ := hR70.unf
   refine vP hS hE (Gives.idx hE k56 rfl rfl sl41 rfl hlt60 (h0_0.aok hlt60)) rfl fun a hE => ?_
   refine vP hS hE (Gives.loadA hE rfl (fun w h => hat71 w _ h) ty43) rfl fun a hE => ?_
   refine WL.alloc hE hS (runs_plain rfl) zr43 rfl ?_; clear hE hS a w; intro b75 a w hE hS
   refine WL.storeI hE hS 0 rfl [vi x57.Kind, vi x57.A, vi x57.B, .slice a72 x57.Kids.length c73] (runs_plain rfl) rfl rfl rfl ty43 rfl rfl rfl rfl ?_; clear hE hS a w; intro a w hE hS
   refine WL.nil ?_
   refine W.seq (W.region (vp hS hE rfl rfl fun a hE => ?_))
   refine vP hS hE (Gives.loadBA hE 0 rfl rfl ty43) rfl fun a hE => ?_
   refine vp hS hE rfl rfl fun a hE => ?_
   obtain ⟨q76, hq77, hq54⟩ := bindS hq54
   replace hS := hS.front 2 rfl
   have hc_ := ih_Fishref2shape_v1 hS h74 hq77
   refine WL.fnq hE (hc_) (runs_plain rfl) bd33 rfl rfl rfl ?_
   clear hE hS hc_; rintro e w ⟨rfl, hS⟩; refine ⟨_, rfl, ?_⟩; clear a; intro a hE
   refine vP hS hE (Gives.max2 hE rfl rfl) rfl fun a hE => ?_
   refine vp hS hE rfl rfl fun a hE => WL.nil ?_
   refine W.seq (W.region (vp hS hE rfl rfl fun a hE => ?_))
   refine vP hS hE (Gives.nilOk hE rfl) rfl fun a hE => ?_
   refine vP hS hE (Gives.loadB hE 0 rfl rfl rfl ty3) rfl fun a hE => ?_
   refine vp hS hE rfl rfl fun a hE => WL.nil ?_
   refine W.cond hE rfl (fun hc78 => ?_) (fun hc78 => ?_)
   ·replace hq54 := iteT hc78 hq54
    subst hK67
    refine W.exit rfl ?_
    replace hS := hS.dropAt 1
    replace hS := hS.front 1 rfl
    exact ⟨mx q65 q76.1, q76.2, Option.some.inj hq54, hE.pick _ ⟨rfl, trivial⟩, hS⟩
   replace hq54 := iteF hc78 hq54
   refine W.skip ?_
   refine W.region ?_
   refine vP hS hE (Gives.inc hE rfl (by have := h0_0.small; omega)) rfl fun a hE => ?_
   refine vp hS hE rfl rfl fun a hE => WL.nil ?_
   replace hS := hS.dropAt 1
   replace hS := hS.front 1 rfl
   subst hK67
   exact ⟨rest58.length, Nat.lt_succ_self _, rest58, k56 + 1, (mx q65 q76.1), q76.2, rfl, hd59, hq54, hE.pick _ ⟨rfl, rfl, rfl, rfl, rfl, trivial⟩, hS⟩
  clear hE hS a w; rintro a w ⟨q65, q66, rfl, hE, hS⟩
  dsimp only at hr
  refine W.seq (W.region (v2 hS hE rfl rfl rfl rfl fun a hE => ?_))
  refine vp hS hE rfl rfl fun a hE => WL.nil ?_
  refine W.ret ?_
  refine finG (fn := Tryz.f33) (rs := [.tmp 4]) (vs := [_]) hE rfl ⟨rfl, trivial⟩ ?_
  obtain rfl := Option.some.inj hr
  replace hS := hS.tail
  exact ⟨rfl, hS⟩
set_option maxHeartbeats 8000000 in
theorem Fishref2nodeFault_ok : ∀ {fu : Nat} {w : World} {s : Sg} {R : List HP} {x0 : FareCond} {a0_0 : Option Addr} {c0_0 : Nat} (_hS : St w s (R)) (_h0_0 : Sl 4 RFareCond s a0_0 c0_0 x0.Kids) {r : Int} (_hr : Fishref2nodeFault fu x0 = some r),
  Calls Tryz.prog 34 [.agg (List.toArray [vi x0.Kind, vi x0.A, vi x0.B, .slice a0_0 x0.Kids.length c0_0])].toArray w (fun e w => e = .returned (vi r) ∧ St w s (R)) := by
 intro fu
 induction fu with
 | zero => intro w s R x0 a0_0 c0_0 hS h0_0 r hr; rw [Fishref2nodeFault] at hr; exact absurd hr (by simp)
 | succ fu ih_Fishref2nodeFault =>
  intro w s R x0 a0_0 c0_0 hS h0_0 r hr
  rw [Fishref2nodeFault] at hr
  generalize Fishref2nodeFault fu = self_Fishref2nodeFault at hr ih_Fishref2nodeFault
  refine enter Tryz.func34 rfl rfl rfl fun a hE => ?_
  refine W.seq (W.region ?_)
  refine WL.box hE hS (runs_plain rfl) rfl rfl rfl ?_; clear hE hS a w; intro b51 a w hE hS
  refine vp hS hE rfl rfl fun a hE => WL.nil ?_
  refine W.seq ?_
  refine W.seq (W.region (vP hS hE (Gives.fld hE rfl fl43_0) rfl fun a hE => ?_))
  refine vP hS hE (Gives.loadB hE 0 rfl rfl rfl ty3) rfl fun a hE => ?_
  refine WL.fnq hE (Fishref2within_ok hS  rfl (r := Fishref2within x0.Kind 0 11)) (runs_plain rfl) bd14 rfl rfl rfl ?_
  clear hE hS; rintro e w ⟨rfl, hS⟩; refine ⟨_, rfl, ?_⟩; clear a; intro a hE
  refine vp hS hE rfl rfl fun a hE => WL.nil ?_
  refine W.cond hE rfl (fun hc52 => ?_) (fun hc52 => ?_)
  ·replace hr := iteT hc52 hr
   refine W.seq (W.region (vp hS hE rfl rfl fun a hE => WL.nil ?_))
   refine W.ret ?_
   refine finG (fn := Tryz.f34) (rs := [.tmp 2]) (vs := [_]) hE rfl ⟨rfl, trivial⟩ ?_
   obtain rfl := Option.some.inj hr
   replace hS := hS.tail
   exact ⟨rfl, hS⟩
  replace hr := iteF hc52 hr
  refine W.skip ?_
  refine W.seq ?_
  refine W.seq ?_
  obtain ⟨q54, hq53, hr⟩ := bndS hr
  refine W.cut (fun a w => ∃ (q57 : Bool), q57 = q54 ∧ Rep a 81 [(1, pp b51), (21, .bool q57)] ∧ St w s (pc b51 #[vi x0.Kind, vi x0.A, vi x0.B, .slice a0_0 x0.Kids.length c0_0] 43 :: R)) ?_ ?_
  ·refine W.gen fun K58 hK58 => ?_
   refine W.region ?_
   refine vP hS hE (Gives.fld hE rfl fl43_1) rfl fun a hE => ?_
   refine vP hS hE (Gives.loadB hE 0 rfl rfl rfl ty3) rfl fun a hE => ?_
   refine WL.fnq hE (Fishref2within_ok hS  rfl (r := Fishref2within x0.A 0 28800)) (runs_plain rfl) bd14 rfl rfl rfl ?_
   clear hE hS; rintro e w ⟨rfl, hS⟩; refine ⟨_, rfl, ?_⟩; clear a; intro a hE
   refine v2 hS hE rfl rfl rfl rfl fun a hE => ?_
   rcases Bool.eq_false_or_eq_true (!(Fishref2within x0.A 0 28800)) with hg59 | hg59
   ·replace hq53 := iteT hg59 hq53
    refine nO hE rfl rfl rfl (by rw [hg59]; decide) rfl fun a hE => ?_
    refine nO hE rfl rfl rfl (by rw [hg59]; decide) rfl fun a hE => ?_
    refine nO hE rfl rfl rfl (by rw [hg59]; decide) rfl fun a hE => ?_
    refine nO hE rfl rfl rfl (by rw [hg59]; decide) rfl fun a hE => ?_
    refine vP hS hE (Gives.pickT hE rfl hg59 rfl) rfl fun a hE => WL.nil ?_
    subst hK58
    exact ⟨true, hq53, hE.pick _ ⟨rfl, rfl, trivial⟩, hS⟩
   replace hq53 := iteF hg59 hq53
   refine WL.vS hS hE (runs_if hE rfl rfl rfl hg59) (Gives.fld hE rfl fl43_2) rfl fun a hE => ?_
   refine WL.vS hS hE (runs_if hE rfl rfl rfl hg59) (Gives.loadB hE 0 rfl rfl rfl ty3) rfl fun a hE => ?_
   refine WL.fnq hE (Fishref2within_ok hS  rfl (r := Fishref2within x0.B 0 28800)) (runs_if hE rfl rfl rfl hg59) bd14 rfl rfl rfl ?_
   clear hE hS; rintro e w ⟨rfl, hS⟩; refine ⟨_, rfl, ?_⟩; clear a; intro a hE
   refine WL.vS hS hE (runs_if hE rfl rfl rfl hg59) (Gives.p hE rfl) rfl fun a hE => ?_
   refine vP hS hE (Gives.pickF hE rfl hg59 rfl) rfl fun a hE => WL.nil ?_
   subst hK58
   exact ⟨!(Fishref2within x0.B 0 28800), hq53, hE.pick _ ⟨rfl, rfl, trivial⟩, hS⟩
  clear hE hS a w; rintro a w ⟨q57, rfl, hE, hS⟩
  refine W.cond hE rfl (fun hc60 => ?_) (fun hc60 => ?_)
  ·replace hr := iteT hc60 hr
   refine W.seq (W.region (vp hS hE rfl rfl fun a hE => WL.nil ?_))
   refine W.ret ?_
   refine finG (fn := Tryz.f34) (rs := [.tmp 2]) (vs := [_]) hE rfl ⟨rfl, trivial⟩ ?_
   obtain rfl := Option.some.inj hr
   replace hS := hS.tail
   exact ⟨rfl, hS⟩
  replace hr := iteF hc60 hr
  refine W.skip ?_
  refine W.seq (W.region (vP hS hE (Gives.fld hE rfl fl43_0) rfl fun a hE => ?_))
  refine vP hS hE (Gives.loadB hE 0 rfl rfl rfl ty3) rfl fun a hE => ?_
  refine WL.fnq hE (Fishref2numbersOf_ok hS  rfl (r := Fishref2numbersOf x0.Kind)) (runs_plain rfl) bd47 rfl rfl rfl ?_
  clear hE hS; rintro e w ⟨rfl, hS⟩; refine ⟨_, rfl, ?_⟩; clear a; intro a hE
  refine vp hS hE rfl rfl fun a hE => WL.nil ?_
  refine W.seq ?_
  refine W.seq ?_
  obtain ⟨q62, hq61, hr⟩ := bndS hr
  refine W.cut (fun a w => ∃ (q65 : Bool), q65 = q62 ∧ Rep a 81 [(1, pp b51), (51, .bool q65)] ∧ St w s (pc b51 #[vi x0.Kind, vi x0.A, vi x0.B, .slice a0_0 x0.Kids.length c0_0] 43 :: R)) ?_ ?_
  ·refine W.gen fun K66 hK66 => ?_
   refine W.region ?_
   refine v2 hS hE rfl rfl rfl rfl fun a hE => ?_
   refine vp hS hE rfl rfl fun a hE => ?_
   rcases Bool.eq_false_or_eq_true (decide ((Fishref2numbersOf x0.Kind) < 1)) with hg67 | hg67
   ·replace hq61 := iteT hg67 hq61
    refine WL.vS hS hE (runs_if hE rfl rfl rfl hg67) (Gives.fld hE rfl fl43_1) rfl fun a hE => ?_
    refine WL.vS hS hE (runs_if hE rfl rfl rfl hg67) (Gives.loadB hE 0 rfl rfl rfl ty3) rfl fun a hE => ?_
    refine WL.vS hS hE (runs_if hE rfl rfl rfl hg67) (Gives.p hE rfl) rfl fun a hE => ?_
    refine vP hS hE (Gives.pickT hE rfl hg67 rfl) rfl fun a hE => ?_
    refine vp hS hE rfl rfl fun a hE => ?_
    rcases Bool.eq_false_or_eq_true (x0.A != 0) with hg68 | hg68
    ·replace hq61 := iteT hg68 hq61
     refine nO hE rfl rfl rfl (by rw [hg68]; decide) rfl fun a hE => ?_
     refine nO hE rfl rfl rfl (by rw [hg68]; decide) rfl fun a hE => ?_
     refine nO hE rfl rfl rfl (by rw [hg68]; decide) rfl fun a hE => ?_
     refine WL.no hE (runs_undef hE rfl rfl rfl) rfl fun a hE => ?_
     refine WL.no hE (runs_undef hE rfl rfl rfl) rfl fun a hE => ?_
     refine WL.no hE (runs_undef hE rfl rfl rfl) rfl fun a hE => ?_
     refine nO hE rfl rfl rfl (by rw [hg68]; decide) rfl fun a hE => ?_
     refine vP hS hE (Gives.pickT hE rfl hg68 rfl) rfl fun a hE => ?_
     refine vp hS hE rfl rfl fun a hE => ?_
     refine nO hE rfl rfl rfl (by decide) rfl fun a hE => ?_
     refine nO hE rfl rfl rfl (by decide) rfl fun a hE => ?_
     refine nO hE rfl rfl rfl (by decide) rfl fun a hE => ?_
     refine WL.no hE (runs_undef hE rfl rfl rfl) rfl fun a hE => ?_
     refine WL.no hE (runs_undef hE rfl rfl rfl) rfl fun a hE => ?_
     refine WL.no hE (runs_undef hE rfl rfl rfl) rfl fun a hE => ?_
     refine WL.no hE (runs_undef hE rfl rfl rfl) rfl fun a hE => ?_
     refine WL.no hE (runs_undef hE rfl rfl rfl) rfl fun a hE => ?_
     refine nO hE rfl rfl rfl (by decide) rfl fun a hE => ?_
     refine vP hS hE (Gives.pickT hE rfl rfl rfl) rfl fun a hE => WL.nil ?_
     subst hK66
     exact ⟨true, hq61, hE.pick _ ⟨rfl, rfl, trivial⟩, hS⟩
    replace hq61 := iteF hg68 hq61
    refine WL.vS hS hE (runs_if hE rfl rfl rfl hg68) (Gives.p hE rfl) rfl fun a hE => ?_
    refine WL.vS hS hE (runs_if hE rfl rfl rfl hg68) (Gives.p hE rfl) rfl fun a hE => ?_
    refine WL.vS hS hE (runs_if hE rfl rfl rfl hg68) (Gives.p hE rfl) rfl fun a hE => ?_
    rcases Bool.eq_false_or_eq_true (decide ((Fishref2numbersOf x0.Kind) < 2)) with hg69 | hg69
    ·replace hq61 := iteT hg69 hq61
     refine WL.vS hS hE (runs_if hE rfl rfl rfl hg69) (Gives.fld hE rfl fl43_2) rfl fun a hE => ?_
     refine WL.vS hS hE (runs_if hE rfl rfl rfl hg69) (Gives.loadB hE 0 rfl rfl rfl ty3) rfl fun a hE => ?_
     refine WL.vS hS hE (runs_if hE rfl rfl rfl hg69) (Gives.p hE rfl) rfl fun a hE => ?_
     refine WL.vS hS hE (runs_if hE rfl rfl rfl hg68) (Gives.pickT hE rfl hg69 rfl) rfl fun a hE => ?_
     refine vP hS hE (Gives.pickF hE rfl hg68 rfl) rfl fun a hE => ?_
     refine vp hS hE rfl rfl fun a hE => ?_
     rcases Bool.eq_false_or_eq_true (x0.B != 0) with hg70 | hg70
     ·replace hq61 := iteT hg70 hq61
      refine nO hE rfl rfl rfl (by rw [hg70]; decide) rfl fun a hE => ?_
      refine nO hE rfl rfl rfl (by rw [hg70]; decide) rfl fun a hE => ?_
      refine nO hE rfl rfl rfl (by rw [hg70]; decide) rfl fun a hE => ?_
      refine WL.no hE (runs_undef hE rfl rfl rfl) rfl fun a hE => ?_
      refine WL.no hE (runs_undef hE rfl rfl rfl) rfl fun a hE => ?_
      refine WL.no hE (runs_undef hE rfl rfl rfl) rfl fun a hE => ?_
      refine WL.no hE (runs_undef hE rfl rfl rfl) rfl fun a hE => ?_
      refine WL.no hE (runs_undef hE rfl rfl rfl) rfl fun a hE => ?_
      refine nO hE rfl rfl rfl (by rw [hg70]; decide) rfl fun a hE => ?_
      refine vP hS hE (Gives.pickT hE rfl hg70 rfl) rfl fun a hE => WL.nil ?_
      subst hK66
      exact ⟨true, hq61, hE.pick _ ⟨rfl, rfl, trivial⟩, hS⟩
     replace hq61 := iteF hg70 hq61
     refine WL.vS hS hE (runs_if hE rfl rfl rfl hg70) (Gives.p hE rfl) rfl fun a hE => ?_
     refine WL.vS hS hE (runs_if hE rfl rfl rfl hg70) (Gives.p hE rfl) rfl fun a hE => ?_
     refine WL.vS hS hE (runs_if hE rfl rfl rfl hg70) (Gives.p hE rfl) rfl fun a hE => ?_
     rcases Bool.eq_false_or_eq_true ((Fishref2numbersOf x0.Kind) == 2) with hg71 | hg71
     ·replace hq61 := iteT hg71 hq61
      refine WL.vS hS hE (runs_if hE rfl rfl rfl hg71) (Gives.fld hE rfl fl43_1) rfl fun a hE => ?_
      refine WL.vS hS hE (runs_if hE rfl rfl rfl hg71) (Gives.loadB hE 0 rfl rfl rfl ty3) rfl fun a hE => ?_
      refine WL.vS hS hE (runs_if hE rfl rfl rfl hg71) (Gives.fld hE rfl fl43_2) rfl fun a hE => ?_
      refine WL.vS hS hE (runs_if hE rfl rfl rfl hg71) (Gives.loadB hE 0 rfl rfl rfl ty3) rfl fun a hE => ?_
      refine WL.vS hS hE (runs_if hE rfl rfl rfl hg71) (Gives.p hE rfl) rfl fun a hE => ?_
      refine WL.vS hS hE (runs_if hE rfl rfl rfl hg70) (Gives.pickT hE rfl hg71 rfl) rfl fun a hE => ?_
      refine vP hS hE (Gives.pickF hE rfl hg70 rfl) rfl fun a hE => WL.nil ?_
      subst hK66
      exact ⟨decide (x0.A > x0.B), hq61, hE.pick _ ⟨rfl, rfl, trivial⟩, hS⟩
     replace hq61 := iteF hg71 hq61
     refine nO hE rfl rfl rfl (by rw [hg71]; decide) rfl fun a hE => ?_
     refine nO hE rfl rfl rfl (by rw [hg71]; decide) rfl fun a hE => ?_
     refine nO hE rfl rfl rfl (by rw [hg71]; decide) rfl fun a hE => ?_
     refine nO hE rfl rfl rfl (by rw [hg71]; decide) rfl fun a hE => ?_
     refine nO hE rfl rfl rfl (by rw [hg71]; decide) rfl fun a hE => ?_
     refine WL.vS hS hE (runs_if hE rfl rfl rfl hg70) (Gives.pickF hE rfl hg71 rfl) rfl fun a hE => ?_
     refine vP hS hE (Gives.pickF hE rfl hg70 rfl) rfl fun a hE => WL.nil ?_
     subst hK66
     exact ⟨false, hq61, hE.pick _ ⟨rfl, rfl, trivial⟩, hS⟩
    replace hq61 := iteF hg69 hq61
    refine nO hE rfl rfl rfl (by rw [hg69]; decide) rfl fun a hE => ?_
    refine nO hE rfl rfl rfl (by rw [hg69]; decide) rfl fun a hE => ?_
    refine nO hE rfl rfl rfl (by rw [hg69]; decide) rfl fun a hE => ?_
    refine WL.vS hS hE (runs_if hE rfl rfl rfl hg68) (Gives.pickF hE rfl hg69 rfl) rfl fun a hE => ?_
    refine vP hS hE (Gives.pickF hE rfl hg68 rfl) rfl fun a hE => ?_
    refine vp hS hE rfl rfl fun a hE => ?_
    refine WL.vS hS hE (runs_if hE rfl rfl rfl rfl) (Gives.p hE rfl) rfl fun a hE => ?_
    refine WL.vS hS hE (runs_if hE rfl rfl rfl rfl) (Gives.p hE rfl) rfl fun a hE => ?_
    refine WL.vS hS hE (runs_if hE rfl rfl rfl rfl) (Gives.p hE rfl) rfl fun a hE => ?_
    rcases Bool.eq_false_or_eq_true ((Fishref2numbersOf x0.Kind) == 2) with hg72 | hg72
    ·replace hq61 := iteT hg72 hq61
     refine WL.vS hS hE (runs_if hE rfl rfl rfl hg72) (Gives.fld hE rfl fl43_1) rfl fun a hE => ?_
     refine WL.vS hS hE (runs_if hE rfl rfl rfl hg72) (Gives.loadB hE 0 rfl rfl rfl ty3) rfl fun a hE => ?_
     refine WL.vS hS hE (runs_if hE rfl rfl rfl hg72) (Gives.fld hE rfl fl43_2) rfl fun a hE => ?_
     refine WL.vS hS hE (runs_if hE rfl rfl rfl hg72) (Gives.loadB hE 0 rfl rfl rfl ty3) rfl fun a hE => ?_
     refine WL.vS hS hE (runs_if hE rfl rfl rfl hg72) (Gives.p hE rfl) rfl fun a hE => ?_
     refine WL.vS hS hE (runs_if hE rfl rfl rfl rfl) (Gives.pickT hE rfl hg72 rfl) rfl fun a hE => ?_
     refine vP hS hE (Gives.pickF hE rfl rfl rfl) rfl fun a hE => WL.nil ?_
     subst hK66
     exact ⟨decide (x0.A > x0.B), hq61, hE.pick _ ⟨rfl, rfl, trivial⟩, hS⟩
    replace hq61 := iteF hg72 hq61
    refine nO hE rfl rfl rfl (by rw [hg72]; decide) rfl fun a hE => ?_
    refine nO hE rfl rfl rfl (by rw [hg72]; decide) rfl fun a hE => ?_
    refine nO hE rfl rfl rfl (by rw [hg72]; decide) rfl fun a hE => ?_
    refine nO hE rfl rfl rfl (by rw [hg72]; decide) rfl fun a hE => ?_
    refine nO hE rfl rfl rfl (by rw [hg72]; decide) rfl fun a hE => ?_
    refine WL.vS hS hE (runs_if hE rfl rfl rfl rfl) (Gives.pickF hE rfl hg72 rfl) rfl fun a hE => ?_
    refine vP hS hE (Gives.pickF hE rfl rfl rfl) rfl fun a hE => WL.nil ?_
    subst hK66
    exact ⟨false, hq61, hE.pick _ ⟨rfl, rfl, trivial⟩, hS⟩
   replace hq61 := iteF hg67 hq61
   refine nO hE rfl rfl rfl (by rw [hg67]; decide) rfl fun a hE => ?_
   refine nO hE rfl rfl rfl (by rw [hg67]; decide) rfl fun a hE => ?_
   refine nO hE rfl rfl rfl (by rw [hg67]; decide) rfl fun a hE => ?_
   refine vP hS hE (Gives.pickF hE rfl hg67 rfl) rfl fun a hE => ?_
   refine vp hS hE rfl rfl fun a hE => ?_
   refine WL.vS hS hE (runs_if hE rfl rfl rfl rfl) (Gives.p hE rfl) rfl fun a hE => ?_
   refine WL.vS hS hE (runs_if hE rfl rfl rfl rfl) (Gives.p hE rfl) rfl fun a hE => ?_
   refine WL.vS hS hE (runs_if hE rfl rfl rfl rfl) (Gives.p hE rfl) rfl fun a hE => ?_
   rcases Bool.eq_false_or_eq_true (decide ((Fishref2numbersOf x0.Kind) < 2)) with hg73 | hg73
   ·replace hq61 := iteT hg73 hq61
    refine WL.vS hS hE (runs_if hE rfl rfl rfl hg73) (Gives.fld hE rfl fl43_2) rfl fun a hE => ?_
    refine WL.vS hS hE (runs_if hE rfl rfl rfl hg73) (Gives.loadB hE 0 rfl rfl rfl ty3) rfl fun a hE => ?_
    refine WL.vS hS hE (runs_if hE rfl rfl rfl hg73) (Gives.p hE rfl) rfl fun a hE => ?_
    refine WL.vS hS hE (runs_if hE rfl rfl rfl rfl) (Gives.pickT hE rfl hg73 rfl) rfl fun a hE => ?_
    refine vP hS hE (Gives.pickF hE rfl rfl rfl) rfl fun a hE => ?_
    refine vp hS hE rfl rfl fun a hE => ?_
    rcases Bool.eq_false_or_eq_true (x0.B != 0) with hg74 | hg74
    ·replace hq61 := iteT hg74 hq61
     refine nO hE rfl rfl rfl (by rw [hg74]; decide) rfl fun a hE => ?_
     refine nO hE rfl rfl rfl (by rw [hg74]; decide) rfl fun a hE => ?_
     refine nO hE rfl rfl rfl (by rw [hg74]; decide) rfl fun a hE => ?_
     refine WL.no hE (runs_undef hE rfl rfl rfl) rfl fun a hE => ?_
     refine WL.no hE (runs_undef hE rfl rfl rfl) rfl fun a hE => ?_
     refine WL.no hE (runs_undef hE rfl rfl rfl) rfl fun a hE => ?_
     refine WL.no hE (runs_undef hE rfl rfl rfl) rfl fun a hE => ?_
     refine WL.no hE (runs_undef hE rfl rfl rfl) rfl fun a hE => ?_
     refine nO hE rfl rfl rfl (by rw [hg74]; decide) rfl fun a hE => ?_
     refine vP hS hE (Gives.pickT hE rfl hg74 rfl) rfl fun a hE => WL.nil ?_
     subst hK66
     exact ⟨true, hq61, hE.pick _ ⟨rfl, rfl, trivial⟩, hS⟩
    replace hq61 := iteF hg74 hq61
    refine WL.vS hS hE (runs_if hE rfl rfl rfl hg74) (Gives.p hE rfl) rfl fun a hE => ?_
    refine WL.vS hS hE (runs_if hE rfl rfl rfl hg74) (Gives.p hE rfl) rfl fun a hE => ?_
    refine WL.vS hS hE (runs_if hE rfl rfl rfl hg74) (Gives.p hE rfl) rfl fun a hE => ?_
    rcases Bool.eq_false_or_eq_true ((Fishref2numbersOf x0.Kind) == 2) with hg75 | hg75
    ·replace hq61 := iteT hg75 hq61
     refine WL.vS hS hE (runs_if hE rfl rfl rfl hg75) (Gives.fld hE rfl fl43_1) rfl fun a hE => ?_
     refine WL.vS hS hE (runs_if hE rfl rfl rfl hg75) (Gives.loadB hE 0 rfl rfl rfl ty3) rfl fun a hE => ?_
     refine WL.vS hS hE (runs_if hE rfl rfl rfl hg75) (Gives.fld hE rfl fl43_2) rfl fun a hE => ?_
     refine WL.vS hS hE (runs_if hE rfl rfl rfl hg75) (Gives.loadB hE 0 rfl rfl rfl ty3) rfl fun a hE => ?_
     refine WL.vS hS hE (runs_if hE rfl rfl rfl hg75) (Gives.p hE rfl) rfl fun a hE => ?_
     refine WL.vS hS hE (runs_if hE rfl rfl rfl hg74) (Gives.pickT hE rfl hg75 rfl) rfl fun a hE => ?_
     refine vP hS hE (Gives.pickF hE rfl hg74 rfl) rfl fun a hE => WL.nil ?_
     subst hK66
     exact ⟨decide (x0.A > x0.B), hq61, hE.pick _ ⟨rfl, rfl, trivial⟩, hS⟩
    replace hq61 := iteF hg75 hq61
    refine nO hE rfl rfl rfl (by rw [hg75]; decide) rfl fun a hE => ?_
    refine nO hE rfl rfl rfl (by rw [hg75]; decide) rfl fun a hE => ?_
    refine nO hE rfl rfl rfl (by rw [hg75]; decide) rfl fun a hE => ?_
    refine nO hE rfl rfl rfl (by rw [hg75]; decide) rfl fun a hE => ?_
    refine nO hE rfl rfl rfl (by rw [hg75]; decide) rfl fun a hE => ?_
    refine WL.vS hS hE (runs_if hE rfl rfl rfl hg74) (Gives.pickF hE rfl hg75 rfl) rfl fun a hE => ?_
    refine vP hS hE (Gives.pickF hE rfl hg74 rfl) rfl fun a hE => WL.nil ?_
    subst hK66
    exact ⟨false, hq61, hE.pick _ ⟨rfl, rfl, trivial⟩, hS⟩
   replace hq61 := iteF hg73 hq61
   refine nO hE rfl rfl rfl (by rw [hg73]; decide) rfl fun a hE => ?_
   refine nO hE rfl rfl rfl (by rw [hg73]; decide) rfl fun a hE => ?_
   refine nO hE rfl rfl rfl (by rw [hg73]; decide) rfl fun a hE => ?_
   refine WL.vS hS hE (runs_if hE rfl rfl rfl rfl) (Gives.pickF hE rfl hg73 rfl) rfl fun a hE => ?_
   refine vP hS hE (Gives.pickF hE rfl rfl rfl) rfl fun a hE => ?_
   refine vp hS hE rfl rfl fun a hE => ?_
   refine WL.vS hS hE (runs_if hE rfl rfl rfl rfl) (Gives.p hE rfl) rfl fun a hE => ?_
   refine WL.vS hS hE (runs_if hE rfl rfl rfl rfl) (Gives.p hE rfl) rfl fun a hE => ?_
   refine WL.vS hS hE (runs_if hE rfl rfl rfl rfl) (Gives.p hE rfl) rfl fun a hE => ?_
   rcases Bool.eq_false_or_eq_true ((Fishref2numbersOf x0.Kind) == 2) with hg76 | hg76
   ·replace hq61 := iteT hg76 hq61
    refine WL.vS hS hE (runs_if hE rfl rfl rfl hg76) (Gives.fld hE rfl fl43_1) rfl fun a hE => ?_
    refine WL.vS hS hE (runs_if hE rfl rfl rfl hg76) (Gives.loadB hE 0 rfl rfl rfl ty3) rfl fun a hE => ?_
    refine WL.vS hS hE (runs_if hE rfl rfl rfl hg76) (Gives.fld hE rfl fl43_2) rfl fun a hE => ?_
    refine WL.vS hS hE (runs_if hE rfl rfl rfl hg76) (Gives.loadB hE 0 rfl rfl rfl ty3) rfl fun a hE => ?_
    refine WL.vS hS hE (runs_if hE rfl rfl rfl hg76) (Gives.p hE rfl) rfl fun a hE => ?_
    refine WL.vS hS hE (runs_if hE rfl rfl rfl rfl) (Gives.pickT hE rfl hg76 rfl) rfl fun a hE => ?_
    refine vP hS hE (Gives.pickF hE rfl rfl rfl) rfl fun a hE => WL.nil ?_
    subst hK66
    exact ⟨decide (x0.A > x0.B), hq61, hE.pick _ ⟨rfl, rfl, trivial⟩, hS⟩
   replace hq61 := iteF hg76 hq61
   refine nO hE rfl rfl rfl (by rw [hg76]; decide) rfl fun a hE => ?_
   refine nO hE rfl rfl rfl (by rw [hg76]; decide) rfl fun a hE => ?_
   refine nO hE rfl rfl rfl (by rw [hg76]; decide) rfl fun a hE => ?_
   refine nO hE rfl rfl rfl (by rw [hg76]; decide) rfl fun a hE => ?_
   refine nO hE rfl rfl rfl (by rw [hg76]; decide) rfl fun a hE => ?_
   refine WL.vS hS hE (runs_if hE rfl rfl rfl rfl) (Gives.pickF hE rfl hg76 rfl) rfl fun a hE => ?_
   refine vP hS hE (Gives.pickF hE rfl rfl rfl) rfl fun a hE => WL.nil ?_
   subst hK66
   exact ⟨false, hq61, hE.pick _ ⟨rfl, rfl, trivial⟩, hS⟩
  clear hE hS a w; rintro a w ⟨q65, rfl, hE, hS⟩
  refine W.cond hE rfl (fun hc77 => ?_) (fun hc77 => ?_)
  ·replace hr := iteT hc77 hr
   refine W.seq (W.region (vp hS hE rfl rfl fun a hE => WL.nil ?_))
   refine W.ret ?_
   refine finG (fn := Tryz.f34) (rs := [.tmp 2]) (vs := [_]) hE rfl ⟨rfl, trivial⟩ ?_
   obtain rfl := Option.some.inj hr
   replace hS := hS.tail
   exact ⟨rfl, hS⟩
  replace hr := iteF hc77 hr
  refine W.skip ?_
  refine W.seq (W.region (vP hS hE (Gives.fld hE rfl fl43_3) rfl fun a hE => ?_))
  refine vP hS hE (Gives.loadB hE 0 rfl rfl rfl ty41) rfl fun a hE => ?_
  refine vP hS hE (Gives.len hE rfl sl41) rfl fun a hE => ?_
  refine vp hS hE rfl rfl fun a hE => WL.nil ?_
  refine W.seq ?_
  refine W.seq (W.region (vP hS hE (Gives.fld hE rfl fl43_0) rfl fun a hE => ?_))
  refine vP hS hE (Gives.loadB hE 0 rfl rfl rfl ty3) rfl fun a hE => WL.nil ?_
  refine W.block ?_
  refine W.seq (W.region (v2 hS hE rfl rfl rfl rfl fun a hE => WL.nil ?_))
  refine W.cond hE rfl (fun hc78 => ?_) (fun hc78 => ?_)
  ·replace hr := iteT hc78 hr
   refine W.seq (W.region (v2 hS hE rfl rfl rfl rfl fun a hE => WL.nil ?_))
   refine W.cond hE rfl (fun hc79 => ?_) (fun hc79 => ?_)
   ·replace hr := iteT hc79 hr
    refine W.seq (W.region (vp hS hE rfl rfl fun a hE => WL.nil ?_))
    refine W.ret ?_
    refine finG (fn := Tryz.f34) (rs := [.tmp 2]) (vs := [_]) hE rfl ⟨rfl, trivial⟩ ?_
    obtain rfl := Option.some.inj hr
    replace hS := hS.tail
    exact ⟨rfl, hS⟩
   replace hr := iteF hc79 hr
   refine W.skip ?_
   refine W.seq ?_
   refine W.seq (W.region (vP hS hE (Gives.fld hE rfl fl43_3) rfl fun a hE => ?_))
   refine vP hS hE (Gives.loadB hE 0 rfl rfl rfl ty41) rfl fun a hE => ?_
   refine vP hS hE (Gives.len hE rfl sl41) rfl fun a hE => ?_
   refine vp hS hE rfl rfl fun a hE => WL.nil ?_
   obtain ⟨q81, hq80, hr⟩ := bindS hr
   refine W.cut (fun a w => (.next ()) = q81 ∧ Rep a 81 [] ∧ St w s (pc b51 #[vi x0.Kind, vi x0.A, vi x0.B, .slice a0_0 x0.Kids.length c0_0] 43 :: R)) ?_ ?_
   ·refine W.block ?_
    refine W.loop (fun m a w => ∃ (rest84 : List FareCond) (k82 : Nat), rest84.length = m ∧ x0.Kids.drop k82 = rest84 ∧ Fishref2nodeFault.loop1 self_Fishref2nodeFault rest84 = some q81 ∧ Rep a 81 [(69, .slice a0_0 x0.Kids.length c0_0), (70, vi ((x0.Kids).length : Int)), (71, vi ((k82 : Nat) : Int))] ∧ St w s (pc b51 #[vi x0.Kind, vi x0.A, vi x0.B, .slice a0_0 x0.Kids.length c0_0] 43 :: R)) (m := x0.Kids.length) ⟨x0.Kids, 0, rfl, rfl, hq80, hE.pick _ ⟨rfl, rfl, rfl, trivial⟩, hS⟩ ?_
    clear hE hS a w hq80; rintro m88 a w ⟨rest84, k82, rfl, hd85, hq80, hE, hS⟩
    refine W.gen fun K91 hK91 => ?_
    rcases rest84 with _ | ⟨x83, rest84⟩
    ·have hlt86 := drop_nil hd85
     refine W.seq (W.region (vp hS hE rfl rfl fun a hE => WL.nil ?_))
     refine W.seq ?_
     refine W.condF hE rfl (decide_eq_false (by omega)) ?_
     subst hK91
     refine W.exit rfl ?_
     exact ⟨Option.some.inj hq80, hE.pick _ trivial, hS⟩
    obtain ⟨hlt86, hx87, hd85⟩ := drop_cons hd85
    rw [Fishref2nodeFault.loop1] at hq80
    refine W.seq (W.region (vp hS hE rfl rfl fun a hE => WL.nil ?_))
    refine W.seq ?_
    refine W.condT hE rfl (decide_eq_true (by omega)) ?_
    refine W.skip ?_
    refine W.seq ?_
    refine W.block ?_
    refine W.seq (W.region ?_)
    obtain ⟨cs92, hl93, hR94, hat95⟩ := h0_0.at hx87
    obtain ⟨a96, c97, rfl, h98⟩ := hR94.unf
    refine vP hS hE (Gives.idx hE k82 rfl rfl sl41 rfl hlt86 (h0_0.aok hlt86)) rfl fun a hE => ?_
    refine vP hS hE (Gives.loadA hE rfl (fun w h => hat95 w _ h) ty43) rfl fun a hE => ?_
    refine WL.alloc hE hS (runs_plain rfl) zr43 rfl ?_; clear hE hS a w; intro b99 a w hE hS
    refine WL.storeI hE hS 0 rfl [vi x83.Kind, vi x83.A, vi x83.B, .slice a96 x83.Kids.length c97] (runs_plain rfl) rfl rfl rfl ty43 rfl rfl rfl rfl ?_; clear hE hS a w; intro a w hE hS
    refine WL.nil ?_
    refine W.seq (W.region (vP hS hE (Gives.loadBA hE 0 rfl rfl ty43) rfl fun a hE => ?_))
    obtain ⟨q100, hq101, hq80⟩ := bindS hq80
    have hc_ := ih_Fishref2nodeFault hS h98 hq101
    refine WL.fnq hE (hc_) (runs_plain rfl) bd34 rfl rfl rfl ?_
    clear hE hS hc_; rintro e w ⟨rfl, hS⟩; refine ⟨_, rfl, ?_⟩; clear a; intro a hE
    refine vp hS hE rfl rfl fun a hE => WL.nil ?_
    refine W.seq (W.region (v2 hS hE rfl rfl rfl rfl fun a hE => WL.nil ?_))
    refine W.cond hE rfl (fun hc102 => ?_) (fun hc102 => ?_)
    ·replace hq80 := iteT hc102 hq80
     refine W.seq (W.region (v2 hS hE rfl rfl rfl rfl fun a hE => WL.nil ?_))
     refine W.ret ?_
     subst hK91
     rw [← Option.some.inj hq80] at hr
     dsimp only at hr
     refine finG (fn := Tryz.f34) (rs := [.tmp 2]) (vs := [_]) hE rfl ⟨rfl, trivial⟩ ?_
     obtain rfl := Option.some.inj hr
     replace hS := hS.tail
     replace hS := hS.tail
     exact ⟨rfl, hS⟩
    replace hq80 := iteF hc102 hq80
    refine W.skip ?_
    refine W.region ?_
    refine vP hS hE (Gives.inc hE rfl (by have := h0_0.small; omega)) rfl fun a hE => ?_
    refine vp hS hE rfl rfl fun a hE => WL.nil ?_
    replace hS := hS.tail
    subst hK91
    exact ⟨rest84.length, Nat.lt_succ_self _, rest84, k82 + 1, rfl, hd85, hq80, hE.pick _ ⟨rfl, rfl, rfl, trivial⟩, hS⟩
   clear hE hS a w; rintro a w ⟨rfl, hE, hS⟩
   dsimp only at hr
   refine W.seq (W.region (vp hS hE rfl rfl fun a hE => WL.nil ?_))
   refine W.ret ?_
   refine finG (fn := Tryz.f34) (rs := [.tmp 2]) (vs := [_]) hE rfl ⟨rfl, trivial⟩ ?_
   obtain rfl := Option.some.inj hr
   replace hS := hS.tail
   exact ⟨rfl, hS⟩
  replace hr := iteF hc78 hr
  refine W.seq ?_
  refine W.seq (W.region (v2 hS hE rfl rfl rfl rfl fun a hE => WL.nil ?_))
  obtain ⟨q104, hq103, hr⟩ := bndS hr
  refine W.cut (fun a w => ∃ (q107 : Bool), q107 = q104 ∧ Rep a 81 [(1, pp b51), (4, vi ((x0.Kids).length : Int)), (63, .bool q107)] ∧ St w s (pc b51 #[vi x0.Kind, vi x0.A, vi x0.B, .slice a0_0 x0.Kids.length c0_0] 43 :: R)) ?_ ?_
  ·refine W.gen fun K108 hK108 => ?_
   refine W.cond hE rfl (fun hc109 => ?_) (fun hc109 => ?_)
   ·replace hq103 := iteT hc109 hq103
    refine W.skip ?_
    subst hK108
    exact ⟨(x0.Kind == 10), hq103, hE.pick _ ⟨rfl, rfl, rfl, trivial⟩, hS⟩
   replace hq103 := iteF hc109 hq103
   refine W.region ?_
   refine v2 hS hE rfl rfl rfl rfl fun a hE => WL.nil ?_
   subst hK108
   exact ⟨(x0.Kind == 11), hq103, hE.pick _ ⟨rfl, rfl, rfl, trivial⟩, hS⟩
  clear hE hS a w; rintro a w ⟨q107, rfl, hE, hS⟩
  refine W.cond hE rfl (fun hc110 => ?_) (fun hc110 => ?_)
  ·replace hr := iteT hc110 hr
   refine W.seq (W.region (v2 hS hE rfl rfl rfl rfl fun a hE => WL.nil ?_))
   refine W.cond hE rfl (fun hc111 => ?_) (fun hc111 => ?_)
   ·replace hr := iteT hc111 hr
    refine W.seq (W.region (vp hS hE rfl rfl fun a hE => WL.nil ?_))
    refine W.ret ?_
    refine finG (fn := Tryz.f34) (rs := [.tmp 2]) (vs := [_]) hE rfl ⟨rfl, trivial⟩ ?_
    obtain rfl := Option.some.inj hr
    replace hS := hS.tail
    exact ⟨rfl, hS⟩
   replace hr := iteF hc111 hr
   refine W.skip ?_
   refine W.seq ?_
   refine W.seq (W.region (vP hS hE (Gives.fld hE rfl fl43_3) rfl fun a hE => ?_))
   refine vP hS hE (Gives.loadB hE 0 rfl rfl rfl ty41) rfl fun a hE => ?_
   refine vP hS hE (Gives.len hE rfl sl41) rfl fun a hE => ?_
   refine vp hS hE rfl rfl fun a hE => WL.nil ?_
   obtain ⟨q113, hq112, hr⟩ := bindS hr
   refine W.cut (fun a w => (.next ()) = q113 ∧ Rep a 81 [] ∧ St w s (pc b51 #[vi x0.Kind, vi x0.A, vi x0.B, .slice a0_0 x0.Kids.length c0_0] 43 :: R)) ?_ ?_
   ·refine W.block ?_
    refine W.loop (fun m a w => ∃ (rest116 : List FareCond) (k114 : Nat), rest116.length = m ∧ x0.Kids.drop k114 = rest116 ∧ Fishref2nodeFault.loop2 self_Fishref2nodeFault rest116 = some q113 ∧ Rep a 81 [(69, .slice a0_0 x0.Kids.length c0_0), (70, vi ((x0.Kids).length : Int)), (71, vi ((k114 : Nat) : Int))] ∧ St w s (pc b51 #[vi x0.Kind, vi x0.A, vi x0.B, .slice a0_0 x0.Kids.length c0_0] 43 :: R)) (m := x0.Kids.length) ⟨x0.Kids, 0, rfl, rfl, hq112, hE.pick _ ⟨rfl, rfl, rfl, trivial⟩, hS⟩ ?_
    clear hE hS a w hq112; rintro m120 a w ⟨rest116, k114, rfl, hd117, hq112, hE, hS⟩
    refine W.gen fun K123 hK123 => ?_
    rcases rest116 with _ | ⟨x115, rest116⟩
    ·have hlt118 := drop_nil hd117
     refine W.seq (W.region (vp hS hE rfl rfl fun a hE => WL.nil ?_))
     refine W.seq ?_
     refine W.condF hE rfl (decide_eq_false (by omega)) ?_
     subst hK123
     refine W.exit rfl ?_
     exact ⟨Option.some.inj hq112, hE.pick _ trivial, hS⟩
    obtain ⟨hlt118, hx119, hd117⟩ := drop_cons hd117
    rw [Fishref2nodeFault.loop2] at hq112
    refine W.seq (W.region (vp hS hE rfl rfl fun a hE => WL.nil ?_))
    refine W.seq ?_
    refine W.condT hE rfl (decide_eq_true (by omega)) ?_
    refine W.skip ?_
    refine W.seq ?_
    refine W.block ?_
    refine W.seq (W.region ?_)
    obtain ⟨cs124, hl125, hR126, hat127⟩ := h0_0.at hx119
    obtain ⟨a128, c129, rfl, h130⟩ := hR126.unf
    refine vP hS hE (Gives.idx hE k114 rfl rfl sl41 rfl hlt118 (h0_0.aok hlt118)) rfl fun a hE => ?_
    refine vP hS hE (Gives.loadA hE rfl (fun w h => hat127 w _ h) ty43) rfl fun a hE => ?_
    refine WL.alloc hE hS (runs_plain rfl) zr43 rfl ?_; clear hE hS a w; intro b131 a w hE hS
    refine WL.storeI hE hS 0 rfl [vi x115.Kind, vi x115.A, vi x115.B, .slice a128 x115.Kids.length c129] (runs_plain rfl) rfl rfl rfl ty43 rfl rfl rfl rfl ?_; clear hE hS a w; intro a w hE hS
    refine WL.nil ?_
    refine W.seq (W.region (vP hS hE (Gives.loadBA hE 0 rfl rfl ty43) rfl fun a hE => ?_))
    obtain ⟨q132, hq133, hq112⟩ := bindS hq112
    have hc_ := ih_Fishref2nodeFault hS h130 hq133
    refine WL.fnq hE (hc_) (runs_plain rfl) bd34 rfl rfl rfl ?_
    clear hE hS hc_; rintro e w ⟨rfl, hS⟩; refine ⟨_, rfl, ?_⟩; clear a; intro a hE
    refine vp hS hE rfl rfl fun a hE => WL.nil ?_
    refine W.seq (W.region (v2 hS hE rfl rfl rfl rfl fun a hE => WL.nil ?_))
    refine W.cond hE rfl (fun hc134 => ?_) (fun hc134 => ?_)
    ·replace hq112 := iteT hc134 hq112
     refine W.seq (W.region (v2 hS hE rfl rfl rfl rfl fun a hE => WL.nil ?_))
     refine W.ret ?_
     subst hK123
     rw [← Option.some.inj hq112] at hr
     dsimp only at hr
     refine finG (fn := Tryz.f34) (rs := [.tmp 2]) (vs := [_]) hE rfl ⟨rfl, trivial⟩ ?_
     obtain rfl := Option.some.inj hr
     replace hS := hS.tail
     replace hS := hS.tail
     exact ⟨rfl, hS⟩
    replace hq112 := iteF hc134 hq112
    refine W.skip ?_
    refine W.region ?_
    refine vP hS hE (Gives.inc hE rfl (by have := h0_0.small; omega)) rfl fun a hE => ?_
    refine vp hS hE rfl rfl fun a hE => WL.nil ?_
    replace hS := hS.tail
    subst hK123
    exact ⟨rest116.length, Nat.lt_succ_self _, rest116, k114 + 1, rfl, hd117, hq112, hE.pick _ ⟨rfl, rfl, rfl, trivial⟩, hS⟩
   clear hE hS a w; rintro a w ⟨rfl, hE, hS⟩
   dsimp only at hr
   refine W.seq (W.region (vp hS hE rfl rfl fun a hE => WL.nil ?_))
   refine W.ret ?_
   refine finG (fn := Tryz.f34) (rs := [.tmp 2]) (vs := [_]) hE rfl ⟨rfl, trivial⟩ ?_
   obtain rfl := Option.some.inj hr
   replace hS := hS.tail
   exact ⟨rfl, hS⟩
  replace hr := iteF hc110 hr
  refine W.seq (W.region (v2 hS hE rfl rfl rfl rfl fun a hE => WL.nil ?_))
  refine W.cond hE rfl (fun hc135 => ?_) (fun hc135 => ?_)
  ·replace hr := iteT hc135 hr
   refine W.seq (W.region (vp hS hE rfl rfl fun a hE => WL.nil ?_))
   refine W.ret ?_
   refine finG (fn := Tryz.f34) (rs := [.tmp 2]) (vs := [_]) hE rfl ⟨rfl, trivial⟩ ?_
   obtain rfl := Option.some.inj hr
   replace hS := hS.tail
   exact ⟨rfl, hS⟩
  replace hr := iteF hc135 hr
  refine W.skip ?_
  refine W.seq ?_
  refine W.seq (W.region (vP hS hE (Gives.fld hE rfl fl43_3) rfl fun a hE => ?_))
  refine vP hS hE (Gives.loadB hE 0 rfl rfl rfl ty41) rfl fun a hE => ?_
  refine vP hS hE (Gives.len hE rfl sl41) rfl fun a hE => ?_
  refine vp hS hE rfl rfl fun a hE => WL.nil ?_
  obtain ⟨q137, hq136, hr⟩ := bindS hr
  refine W.cut (fun a w => (.next ()) = q137 ∧ Rep a 81 [] ∧ St w s (pc b51 #[vi x0.Kind, vi x0.A, vi x0.B, .slice a0_0 x0.Kids.length c0_0] 43 :: R)) ?_ ?_
  ·refine W.block ?_
   refine W.loop (fun m a w => ∃ (rest140 : List FareCond) (k138 : Nat), rest140.length = m ∧ x0.Kids.drop k138 = rest140 ∧ Fishref2nodeFault.loop3 self_Fishref2nodeFault rest140 = some q137 ∧ Rep a 81 [(69, .slice a0_0 x0.Kids.length c0_0), (70, vi ((x0.Kids).length : Int)), (71, vi ((k138 : Nat) : Int))] ∧ St w s (pc b51 #[vi x0.Kind, vi x0.A, vi x0.B, .slice a0_0 x0.Kids.length c0_0] 43 :: R)) (m := x0.Kids.length) ⟨x0.Kids, 0, rfl, rfl, hq136, hE.pick _ ⟨rfl, rfl, rfl, trivial⟩, hS⟩ ?_
   clear hE hS a w hq136; rintro m144 a w ⟨rest140, k138, rfl, hd141, hq136, hE, hS⟩
   refine W.gen fun K147 hK147 => ?_
   rcases rest140 with _ | ⟨x139, rest140⟩
   ·have hlt142 := drop_nil hd141
    refine W.seq (W.region (vp hS hE rfl rfl fun a hE => WL.nil ?_))
    refine W.seq ?_
    refine W.condF hE rfl (decide_eq_false (by omega)) ?_
    subst hK147
    refine W.exit rfl ?_
    exact ⟨Option.some.inj hq136, hE.pick _ trivial, hS⟩
   obtain ⟨hlt142, hx143, hd141⟩ := drop_cons hd141
   rw [Fishref2nodeFault.loop3] at hq136
   refine W.seq (W.region (vp hS hE rfl rfl fun a hE => WL.nil ?_))
   refine W.seq ?_
   refine W.condT hE rfl (decide_eq_true (by omega)) ?_
   refine W.skip ?_
   refine W.seq ?_
   refine W.block ?_
   refine W.seq (W.region ?_)
   obtain ⟨cs148, hl149, hR150, hat151⟩ := h0_0.at hx143
   obtain ⟨a152, c153, rfl, h154⟩ := hR150.unf
   refine vP hS hE (Gives.idx hE k138 rfl rfl sl41 rfl hlt142 (h0_0.aok hlt142)) rfl fun a hE => ?_
   refine vP hS hE (Gives.loadA hE rfl (fun w h => hat151 w _ h) ty43) rfl fun a hE => ?_
   refine WL.alloc hE hS (runs_plain rfl) zr43 rfl ?_; clear hE hS a w; intro b155 a w hE hS
   refine WL.storeI hE hS 0 rfl [vi x139.Kind, vi x139.A, vi x139.B, .slice a152 x139.Kids.length c153] (runs_plain rfl) rfl rfl rfl ty43 rfl rfl rfl rfl ?_; clear hE hS a w; intro a w hE hS
   refine WL.nil ?_
   refine W.seq (W.region (vP hS hE (Gives.loadBA hE 0 rfl rfl ty43) rfl fun a hE => ?_))
   obtain ⟨q156, hq157, hq136⟩ := bindS hq136
   have hc_ := ih_Fishref2nodeFault hS h154 hq157
   refine WL.fnq hE (hc_) (runs_plain rfl) bd34 rfl rfl rfl ?_
   clear hE hS hc_; rintro e w ⟨rfl, hS⟩; refine ⟨_, rfl, ?_⟩; clear a; intro a hE
   refine vp hS hE rfl rfl fun a hE => WL.nil ?_
   refine W.seq (W.region (v2 hS hE rfl rfl rfl rfl fun a hE => WL.nil ?_))
   refine W.cond hE rfl (fun hc158 => ?_) (fun hc158 => ?_)
   ·replace hq136 := iteT hc158 hq136
    refine W.seq (W.region (v2 hS hE rfl rfl rfl rfl fun a hE => WL.nil ?_))
    refine W.ret ?_
    subst hK147
    rw [← Option.some.inj hq136] at hr
    dsimp only at hr
    refine finG (fn := Tryz.f34) (rs := [.tmp 2]) (vs := [_]) hE rfl ⟨rfl, trivial⟩ ?_
    obtain rfl := Option.some.inj hr
    replace hS := hS.tail
    replace hS := hS.tail
    exact ⟨rfl, hS⟩
   replace hq136 := iteF hc158 hq136
   refine W.skip ?_
   refine W.region ?_
   refine vP hS hE (Gives.inc hE rfl (by have := h0_0.small; omega)) rfl fun a hE => ?_
   refine vp hS hE rfl rfl fun a hE => WL.nil ?_
   replace hS := hS.tail
   subst hK147
   exact ⟨rest140.length, Nat.lt_succ_self _, rest140, k138 + 1, rfl, hd141, hq136, hE.pick _ ⟨rfl, rfl, rfl, trivial⟩, hS⟩
  clear hE hS a w; rintro a w ⟨rfl, hE, hS⟩
  dsimp only at hr
  refine W.seq (W.region (vp hS hE rfl rfl fun a hE => WL.nil ?_))
  refine W.ret ?_
  refine finG (fn := Tryz.f34) (rs := [.tmp 2]) (vs := [_]) hE rfl ⟨rfl, trivial⟩ ?_
  obtain rfl := Option.some.inj hr
  replace hS := hS.tail
  exact ⟨rfl, hS⟩
set_option maxHeartbeats 8000000 in
theorem Fishref2CondFault_ok {fu : Nat}  {w : World} {s : Sg} {R : List HP} {x0 : FareCond} {a0_0 : Option Addr} {c0_0 : Nat} (hS : St w s (R)) (h0_0 : Sl 4 RFareCond s a0_0 c0_0 x0.Kids) {r : Int} (hr : Fishref2CondFault fu x0 = some r) :
  Calls Tryz.prog 15 [.agg (List.toArray [vi x0.Kind, vi x0.A, vi x0.B, .slice a0_0 x0.Kids.length c0_0])].toArray w (fun e w => e = .returned (vi r) ∧ St w s (R)) := by
 refine enter Tryz.func15 rfl rfl rfl fun a hE => ?_
 rw [Fishref2CondFault] at hr
 refine W.seq (W.region ?_)
 refine WL.box hE hS (runs_plain rfl) rfl rfl rfl ?_; clear hE hS a w; intro b51 a w hE hS
 refine vp hS hE rfl rfl fun a hE => WL.nil ?_
 refine W.seq (W.region ?_)
 refine WL.alloc hE hS (runs_plain rfl) zr3 rfl ?_; clear hE hS a w; intro b52 a w hE hS
 refine WL.storeI hE hS 0 rfl [vi 40] (runs_plain rfl) rfl rfl rfl ty3 rfl rfl rfl rfl ?_; clear hE hS a w; intro a w hE hS
 refine WL.nil ?_
 refine W.seq ?_
 refine W.seq (W.region (vP hS hE (Gives.loadBA hE 1 rfl rfl ty43) rfl fun a hE => ?_))
 obtain ⟨q53, hq54, hr⟩ := bindS hr
 have hc_ := Fishref2shape_v1_ok hS h0_0 hq54
 refine WL.fnq hE (hc_) (runs_plain rfl) bd33 rfl rfl rfl ?_
 clear hE hS hc_; rintro e w ⟨rfl, hS⟩; refine ⟨_, rfl, ?_⟩; clear a; intro a hE
 refine vp hS hE rfl rfl fun a hE => WL.nil ?_
 refine W.seq ?_
 obtain ⟨q56, hq55, hr⟩ := bndS hr
 refine W.cut (fun a w => ∃ (q59 : Bool), q59 = q56 ∧ Rep a 15 [(1, pp b51), (12, .bool q59)] ∧ St w s (pc b52 #[vi q53.2] 3 :: pc b51 #[vi x0.Kind, vi x0.A, vi x0.B, .slice a0_0 x0.Kids.length c0_0] 43 :: R)) ?_ ?_
 ·refine W.gen fun K60 hK60 => ?_
  refine W.region ?_
  refine vP hS hE (Gives.loadB hE 0 rfl rfl rfl ty3) rfl fun a hE => ?_
  refine v2 hS hE rfl rfl rfl rfl fun a hE => ?_
  rcases Bool.eq_false_or_eq_true (decide (q53.2 < 0)) with hg61 | hg61
  ·replace hq55 := iteT hg61 hq55
   refine nO hE rfl rfl rfl (by rw [hg61]; decide) rfl fun a hE => ?_
   refine nO hE rfl rfl rfl (by rw [hg61]; decide) rfl fun a hE => ?_
   refine vP hS hE (Gives.pickT hE rfl hg61 rfl) rfl fun a hE => WL.nil ?_
   subst hK60
   exact ⟨true, hq55, hE.pick _ ⟨rfl, rfl, trivial⟩, hS⟩
  replace hq55 := iteF hg61 hq55
  refine WL.vS hS hE (runs_if hE rfl rfl rfl hg61) (Gives.p hE rfl) rfl fun a hE => ?_
  refine WL.vS hS hE (runs_if hE rfl rfl rfl hg61) (Gives.p hE rfl) rfl fun a hE => ?_
  refine vP hS hE (Gives.pickF hE rfl hg61 rfl) rfl fun a hE => WL.nil ?_
  subst hK60
  exact ⟨decide (q53.1 > 6), hq55, hE.pick _ ⟨rfl, rfl, trivial⟩, hS⟩
 clear hE hS a w; rintro a w ⟨q59, rfl, hE, hS⟩
 refine W.cond hE rfl (fun hc62 => ?_) (fun hc62 => ?_)
 ·replace hr := iteT hc62 hr
  refine W.seq (W.region (vp hS hE rfl rfl fun a hE => WL.nil ?_))
  refine W.ret ?_
  refine finG (fn := Tryz.f15) (rs := [.tmp 2]) (vs := [_]) hE rfl ⟨rfl, trivial⟩ ?_
  obtain rfl := Option.some.inj hr
  replace hS := hS.tail
  replace hS := hS.tail
  exact ⟨rfl, hS⟩
 replace hr := iteF hc62 hr
 refine W.skip ?_
 refine W.seq (W.region (vP hS hE (Gives.loadBA hE 1 rfl rfl ty43) rfl fun a hE => ?_))
 obtain ⟨q63, hq64, hr⟩ := bindS hr
 have hc_ := Fishref2nodeFault_ok hS h0_0 hq64
 refine WL.fnq hE (hc_) (runs_plain rfl) bd34 rfl rfl rfl ?_
 clear hE hS hc_; rintro e w ⟨rfl, hS⟩; refine ⟨_, rfl, ?_⟩; clear a; intro a hE
 refine vp hS hE rfl rfl fun a hE => WL.nil ?_
 refine W.ret ?_
 refine finG (fn := Tryz.f15) (rs := [.tmp 2]) (vs := [_]) hE rfl ⟨rfl, trivial⟩ ?_
 obtain rfl := Option.some.inj hr
 replace hS := hS.tail
 replace hS := hS.tail
 exact ⟨rfl, hS⟩
set_option maxHeartbeats 8000000 in
theorem Fishref2TariffFault_ok {fu : Nat}  {w : World} {s : Sg} {R : List HP} {x0 : FareTariff} {a0_0 : Option Addr} {c0_0 : Nat} {a0_1 : Option Addr} {c0_1 : Nat} (hS : St w s (R)) (h0_0 : Sl 2 RFareBand s a0_0 c0_0 x0.Bands) (h0_1 : Sl 7 RFareRule s a0_1 c0_1 x0.Rules) {r : Int} (hr : Fishref2TariffFault fu x0 = some r) :
  Calls Tryz.prog 6 [.agg (List.toArray [.bool x0.ByKm, .slice a0_0 x0.Bands.length c0_0, vi x0.Round, .slice a0_1 x0.Rules.length c0_1])].toArray w (fun e w => e = .returned (vi r) ∧ St w s (R)) := by
 refine enter Tryz.func6 rfl rfl rfl fun a hE => ?_
 rw [Fishref2TariffFault] at hr
 refine W.seq (W.region ?_)
 refine WL.box hE hS (runs_plain rfl) rfl rfl rfl ?_; clear hE hS a w; intro b51 a w hE hS
 refine vp hS hE rfl rfl fun a hE => WL.nil ?_
 refine W.seq ?_
 refine W.seq ?_
 obtain ⟨q53, hq52, hr⟩ := bndS hr
 refine W.cut (fun a w => ∃ (q56 : Bool), q56 = q53 ∧ Rep a 95 [(1, pp b51), (19, .bool q56)] ∧ St w s (pc b51 #[.bool x0.ByKm, .slice a0_0 x0.Bands.length c0_0, vi x0.Round, .slice a0_1 x0.Rules.length c0_1] 25 :: R)) ?_ ?_
 ·refine W.gen fun K57 hK57 => ?_
  refine W.region ?_
  refine vP hS hE (Gives.fld hE rfl fl25_1) rfl fun a hE => ?_
  refine vP hS hE (Gives.loadB hE 0 rfl rfl rfl ty22) rfl fun a hE => ?_
  refine vP hS hE (Gives.len hE rfl sl22) rfl fun a hE => ?_
  refine WL.fnq hE (Fishref2within_ok hS  rfl (r := Fishref2within ((x0.Bands).length : Int) 1 8)) (runs_plain rfl) bd14 rfl rfl rfl ?_
  clear hE hS; rintro e w ⟨rfl, hS⟩; refine ⟨_, rfl, ?_⟩; clear a; intro a hE
  refine v2 hS hE rfl rfl rfl rfl fun a hE => ?_
  rcases Bool.eq_false_or_eq_true (!(Fishref2within ((x0.Bands).length : Int) 1 8)) with hg58 | hg58
  ·replace hq52 := iteT hg58 hq52
   refine nO hE rfl rfl rfl (by rw [hg58]; decide) rfl fun a hE => ?_
   refine nO hE rfl rfl rfl (by rw [hg58]; decide) rfl fun a hE => ?_
   refine nO hE rfl rfl rfl (by rw [hg58]; decide) rfl fun a hE => ?_
   refine nO hE rfl rfl rfl (by rw [hg58]; decide) rfl fun a hE => ?_
   refine vP hS hE (Gives.pickT hE rfl hg58 rfl) rfl fun a hE => WL.nil ?_
   subst hK57
   exact ⟨true, hq52, hE.pick _ ⟨rfl, rfl, trivial⟩, hS⟩
  replace hq52 := iteF hg58 hq52
  refine WL.vS hS hE (runs_if hE rfl rfl rfl hg58) (Gives.fld hE rfl fl25_3) rfl fun a hE => ?_
  refine WL.vS hS hE (runs_if hE rfl rfl rfl hg58) (Gives.loadB hE 0 rfl rfl rfl ty23) rfl fun a hE => ?_
  refine WL.vS hS hE (runs_if hE rfl rfl rfl hg58) (Gives.len hE rfl sl23) rfl fun a hE => ?_
  refine WL.vS hS hE (runs_if hE rfl rfl rfl hg58) (Gives.p hE rfl) rfl fun a hE => ?_
  refine vP hS hE (Gives.pickF hE rfl hg58 rfl) rfl fun a hE => WL.nil ?_
  subst hK57
  exact ⟨decide (((x0.Rules).length : Int) > 20), hq52, hE.pick _ ⟨rfl, rfl, trivial⟩, hS⟩
 clear hE hS a w; rintro a w ⟨q56, rfl, hE, hS⟩
 refine W.cond hE rfl (fun hc59 => ?_) (fun hc59 => ?_)
 ·replace hr := iteT hc59 hr
  refine W.seq (W.region (vp hS hE rfl rfl fun a hE => WL.nil ?_))
  refine W.ret ?_
  refine finG (fn := Tryz.f6) (rs := [.tmp 2]) (vs := [_]) hE rfl ⟨rfl, trivial⟩ ?_
  obtain rfl := Option.some.inj hr
  replace hS := hS.tail
  exact ⟨rfl, hS⟩
 replace hr := iteF hc59 hr
 refine W.skip ?_
 refine W.seq ?_
 refine W.seq (W.region (vP hS hE (Gives.fld hE rfl fl25_1) rfl fun a hE => ?_))
 refine vP hS hE (Gives.loadB hE 0 rfl rfl rfl ty22) rfl fun a hE => ?_
 refine vP hS hE (Gives.len hE rfl sl22) rfl fun a hE => ?_
 refine vp hS hE rfl rfl fun a hE => WL.nil ?_
 obtain ⟨q61, hq60, hr⟩ := bindS hr
 refine W.cut (fun a w => (.next ()) = q61 ∧ Rep a 95 [(1, pp b51)] ∧ St w s (pc b51 #[.bool x0.ByKm, .slice a0_0 x0.Bands.length c0_0, vi x0.Round, .slice a0_1 x0.Rules.length c0_1] 25 :: R)) ?_ ?_
 ·refine W.block ?_
  refine W.loop (fun m a w => ∃ (rest64 : List FareBand) (k62 : Nat), rest64.length = m ∧ x0.Bands.drop k62 = rest64 ∧ Fishref2TariffFault.loop1 x0 rest64 k62 = some q61 ∧ Rep a 95 [(1, pp b51), (21, .slice a0_0 x0.Bands.length c0_0), (22, vi ((x0.Bands).length : Int)), (23, vi ((k62 : Nat) : Int))] ∧ St w s (pc b51 #[.bool x0.ByKm, .slice a0_0 x0.Bands.length c0_0, vi x0.Round, .slice a0_1 x0.Rules.length c0_1] 25 :: R)) (m := x0.Bands.length) ⟨x0.Bands, 0, rfl, rfl, hq60, hE.pick _ ⟨rfl, rfl, rfl, rfl, trivial⟩, hS⟩ ?_
  clear hE hS a w hq60; rintro m68 a w ⟨rest64, k62, rfl, hd65, hq60, hE, hS⟩
  refine W.gen fun K71 hK71 => ?_
  rcases rest64 with _ | ⟨x63, rest64⟩
  ·have hlt66 := drop_nil hd65
   refine W.seq (W.region (vp hS hE rfl rfl fun a hE => WL.nil ?_))
   refine W.seq ?_
   refine W.condF hE rfl (decide_eq_false (by omega)) ?_
   subst hK71
   refine W.exit rfl ?_
   exact ⟨Option.some.inj hq60, hE.pick _ ⟨rfl, trivial⟩, hS⟩
  obtain ⟨hlt66, hx67, hd65⟩ := drop_cons hd65
  rw [Fishref2TariffFault.loop1] at hq60
  refine W.seq (W.region (vp hS hE rfl rfl fun a hE => WL.nil ?_))
  refine W.seq ?_
  refine W.condT hE rfl (decide_eq_true (by omega)) ?_
  refine W.skip ?_
  refine W.seq ?_
  refine W.block ?_
  refine W.seq (W.region (vp hS hE rfl rfl fun a hE => ?_))
  obtain ⟨cs72, hl73, hR74, hat75⟩ := h0_0.at hx67
  subst hR74
  refine vP hS hE (Gives.idx hE k62 rfl rfl sl22 rfl hlt66 (h0_0.aok hlt66)) rfl fun a hE => ?_
  refine vP hS hE (Gives.loadA hE rfl (fun w h => hat75 w _ h) ty40) rfl fun a hE => ?_
  refine WL.alloc hE hS (runs_plain rfl) zr40 rfl ?_; clear hE hS a w; intro b76 a w hE hS
  refine vp hS hE rfl rfl fun a hE => ?_
  refine WL.storeI hE hS 0 rfl (FareBand.cells x63) (runs_plain rfl) rfl rfl rfl ty40 rfl rfl rfl rfl ?_; clear hE hS a w; intro a w hE hS
  refine WL.nil ?_
  refine W.seq ?_
  refine W.seq ?_
  obtain ⟨q78, hq77, hq60⟩ := bndS hq60
  refine W.cut (fun a w => ∃ (q81 : Bool), q81 = q78 ∧ Rep a 95 [(1, pp b51), (3, vi ((k62 : Nat) : Int)), (4, pp b76), (21, .slice a0_0 x0.Bands.length c0_0), (22, vi ((x0.Bands).length : Int)), (23, vi ((k62 : Nat) : Int)), (37, .bool q81)] ∧ St w s (pc b76 (FareBand.cells x63).toArray 40 :: pc b51 #[.bool x0.ByKm, .slice a0_0 x0.Bands.length c0_0, vi x0.Round, .slice a0_1 x0.Rules.length c0_1] 25 :: R)) ?_ ?_
  ·refine W.gen fun K82 hK82 => ?_
   refine W.region ?_
   refine vP hS hE (Gives.fld hE rfl fl40_0) rfl fun a hE => ?_
   refine vP hS hE (Gives.loadB hE 0 rfl rfl rfl ty3) rfl fun a hE => ?_
   refine WL.fnq hE (Fishref2within_ok hS  rfl (r := Fishref2within x63.Upto 1 1000)) (runs_plain rfl) bd14 rfl rfl rfl ?_
   clear hE hS; rintro e w ⟨rfl, hS⟩; refine ⟨_, rfl, ?_⟩; clear a; intro a hE
   refine v2 hS hE rfl rfl rfl rfl fun a hE => ?_
   rcases Bool.eq_false_or_eq_true (!(Fishref2within x63.Upto 1 1000)) with hg83 | hg83
   ·replace hq77 := iteT hg83 hq77
    refine nO hE rfl rfl rfl (by rw [hg83]; decide) rfl fun a hE => ?_
    refine nO hE rfl rfl rfl (by rw [hg83]; decide) rfl fun a hE => ?_
    refine nO hE rfl rfl rfl (by rw [hg83]; decide) rfl fun a hE => ?_
    refine nO hE rfl rfl rfl (by rw [hg83]; decide) rfl fun a hE => ?_
    refine vP hS hE (Gives.pickT hE rfl hg83 rfl) rfl fun a hE => WL.nil ?_
    subst hK82
    exact ⟨true, hq77, hE.pick _ ⟨rfl, rfl, rfl, rfl, rfl, rfl, rfl, trivial⟩, hS⟩
   replace hq77 := iteF hg83 hq77
   refine WL.vS hS hE (runs_if hE rfl rfl rfl hg83) (Gives.fld hE rfl fl40_1) rfl fun a hE => ?_
   refine WL.vS hS hE (runs_if hE rfl rfl rfl hg83) (Gives.loadB hE 0 rfl rfl rfl ty3) rfl fun a hE => ?_
   refine WL.fnq hE (Fishref2within_ok hS  rfl (r := Fishref2within x63.Price 0 100000)) (runs_if hE rfl rfl rfl hg83) bd14 rfl rfl rfl ?_
   clear hE hS; rintro e w ⟨rfl, hS⟩; refine ⟨_, rfl, ?_⟩; clear a; intro a hE
   refine WL.vS hS hE (runs_if hE rfl rfl rfl hg83) (Gives.p hE rfl) rfl fun a hE => ?_
   refine vP hS hE (Gives.pickF hE rfl hg83 rfl) rfl fun a hE => WL.nil ?_
   subst hK82
   exact ⟨!(Fishref2within x63.Price 0 100000), hq77, hE.pick _ ⟨rfl, rfl, rfl, rfl, rfl, rfl, rfl, trivial⟩, hS⟩
  clear hE hS a w; rintro a w ⟨q81, rfl, hE, hS⟩
  refine W.cond hE rfl (fun hc84 => ?_) (fun hc84 => ?_)
  ·replace hq60 := iteT hc84 hq60
   refine W.seq (W.region (vp hS hE rfl rfl fun a hE => WL.nil ?_))
   refine W.ret ?_
   subst hK71
   rw [← Option.some.inj hq60] at hr
   dsimp only at hr
   refine finG (fn := Tryz.f6) (rs := [.tmp 2]) (vs := [_]) hE rfl ⟨rfl, trivial⟩ ?_
   obtain rfl := Option.some.inj hr
   replace hS := hS.tail
   replace hS := hS.tail
   exact ⟨rfl, hS⟩
  replace hq60 := iteF hc84 hq60
  refine W.skip ?_
  refine W.seq ?_
  obtain ⟨q86, hq85, hq60⟩ := bindS hq60
  refine W.cut (fun a w => ∃ (q89 : Bool), q89 = q86 ∧ Rep a 95 [(1, pp b51), (21, .slice a0_0 x0.Bands.length c0_0), (22, vi ((x0.Bands).length : Int)), (23, vi ((k62 : Nat) : Int)), (63, .bool q89)] ∧ St w s (pc b76 (FareBand.cells x63).toArray 40 :: pc b51 #[.bool x0.ByKm, .slice a0_0 x0.Bands.length c0_0, vi x0.Round, .slice a0_1 x0.Rules.length c0_1] 25 :: R)) ?_ ?_
  ·refine W.gen fun K90 hK90 => ?_
   refine W.regionQ (C := fun w => St w s (pc b76 (FareBand.cells x63).toArray 40 :: pc b51 #[.bool x0.ByKm, .slice a0_0 x0.Bands.length c0_0, vi x0.Round, .slice a0_1 x0.Rules.length c0_1] 25 :: R)) mixed (by kernel_rfl) hS.drew ?_
   refine qP hE (Gives.p hE rfl) rfl fun a hE => ?_
   refine qP hE (Gives.p hE rfl) rfl fun a hE => ?_
   refine qP hE (Gives.p hE rfl) rfl fun a hE => ?_
   rcases Bool.eq_false_or_eq_true (decide (((k62 : Nat) : Int) > 0)) with hg91 | hg91
   ·replace hq85 := iteT hg91 hq85
    refine QL.v hE (runs_if hE rfl rfl rfl hg91) (Gives.fld hE rfl fl40_0) rfl fun a hE => ?_
    refine QL.v hE (runs_if hE rfl rfl rfl hg91) (Gives.loadB hE 0 rfl rfl rfl ty3) rfl fun a hE => ?_
    refine QL.v hE (runs_if hE rfl rfl rfl hg91) (Gives.fld hE rfl fl25_1) rfl fun a hE => ?_
    refine QL.v hE (runs_if hE rfl rfl rfl hg91) (Gives.loadB hE 1 rfl rfl rfl ty22) rfl fun a hE => ?_
    refine QL.v hE (runs_if hE rfl rfl rfl hg91) (Gives.p hE rfl) rfl fun a hE => ?_
    refine QL.v hE (runs_if hE rfl rfl rfl hg91) (Gives.p hE rfl) rfl fun a hE => ?_
    obtain ⟨x92, hx93, hq85⟩ := bindS hq85
    obtain ⟨hi94, hlt95, hy96⟩ := gx_some hx93
    obtain ⟨cs97, hl98, hR99, hat100⟩ := h0_0.at hy96
    subst hR99
    refine QL.v hE (runs_if hE rfl rfl rfl hg91) (Gives.idx hE (w64 (((k62 : Nat) : Int) - 1)).toNat rfl rfl sl22 hi94 hlt95 (h0_0.aok hlt95)) rfl fun a hE => ?_
    refine QL.v hE (runs_if hE rfl rfl rfl hg91) (Gives.fld hE rfl fl40_0) rfl fun a hE => ?_
    refine QL.v hE (runs_if hE rfl rfl rfl hg91) (Gives.load1 hE rfl (fun w h => (hat100 w _ h).one rfl) ty3) rfl fun a hE => ?_
    refine QL.v hE (runs_if hE rfl rfl rfl hg91) (Gives.p hE rfl) rfl fun a hE => ?_
    refine QL.v hE (runs_if hE rfl rfl rfl hg91) (Gives.p hE rfl) rfl fun a hE => ?_
    rcases Bool.eq_false_or_eq_true (decide (x63.Upto ≤ x92.Upto)) with hg101 | hg101
    ·replace hq85 := iteT hg101 hq85
     refine QL.no hE (runs_not hE rfl rfl rfl (by rw [hg101]; decide)) rfl fun a hE => ?_
     refine QL.no hE (runs_not hE rfl rfl rfl (by rw [hg101]; decide)) rfl fun a hE => ?_
     refine QL.no hE (runs_not hE rfl rfl rfl (by rw [hg101]; decide)) rfl fun a hE => ?_
     refine QL.no hE (runs_not hE rfl rfl rfl (by rw [hg101]; decide)) rfl fun a hE => ?_
     refine QL.no hE (runs_not hE rfl rfl rfl (by rw [hg101]; decide)) rfl fun a hE => ?_
     refine QL.no hE (runs_not hE rfl rfl rfl (by rw [hg101]; decide)) rfl fun a hE => ?_
     refine QL.no hE (runs_not hE rfl rfl rfl (by rw [hg101]; decide)) rfl fun a hE => ?_
     refine QL.no hE (runs_not hE rfl rfl rfl (by rw [hg101]; decide)) rfl fun a hE => ?_
     refine QL.no hE (runs_not hE rfl rfl rfl (by rw [hg101]; decide)) rfl fun a hE => ?_
     refine QL.no hE (runs_not hE rfl rfl rfl (by rw [hg101]; decide)) rfl fun a hE => ?_
     refine QL.v hE (runs_if hE rfl rfl rfl hg91) (Gives.pickT hE rfl hg101 rfl) rfl fun a hE => ?_
     refine qP hE (Gives.pickT hE rfl hg91 rfl) rfl fun a hE => ?_
     refine QL.nil ?_; clear hS w; intro w hS
     subst hK90
     exact ⟨true, Option.some.inj hq85, hE.pick _ ⟨rfl, rfl, rfl, rfl, rfl, trivial⟩, hS⟩
    replace hq85 := iteF hg101 hq85
    refine QL.v hE (runs_if hE rfl rfl rfl hg101) (Gives.fld hE rfl fl40_1) rfl fun a hE => ?_
    refine QL.v hE (runs_if hE rfl rfl rfl hg101) (Gives.loadB hE 0 rfl rfl rfl ty3) rfl fun a hE => ?_
    refine QL.v hE (runs_if hE rfl rfl rfl hg101) (Gives.fld hE rfl fl25_1) rfl fun a hE => ?_
    refine QL.v hE (runs_if hE rfl rfl rfl hg101) (Gives.loadB hE 1 rfl rfl rfl ty22) rfl fun a hE => ?_
    refine QL.v hE (runs_if hE rfl rfl rfl hg101) (Gives.p hE rfl) rfl fun a hE => ?_
    refine QL.v hE (runs_if hE rfl rfl rfl hg101) (Gives.p hE rfl) rfl fun a hE => ?_
    obtain ⟨x102, hx103, hq85⟩ := bindS hq85
    obtain ⟨hi104, hlt105, hy106⟩ := gx_some hx103
    obtain ⟨cs107, hl108, hR109, hat110⟩ := h0_0.at hy106
    subst hR109
    refine QL.v hE (runs_if hE rfl rfl rfl hg101) (Gives.idx hE (w64 (((k62 : Nat) : Int) - 1)).toNat rfl rfl sl22 hi104 hlt105 (h0_0.aok hlt105)) rfl fun a hE => ?_
    refine QL.v hE (runs_if hE rfl rfl rfl hg101) (Gives.fld hE rfl fl40_1) rfl fun a hE => ?_
    refine QL.v hE (runs_if hE rfl rfl rfl hg101) (Gives.load1 hE rfl (fun w h => (hat110 w _ h).one rfl) ty3) rfl fun a hE => ?_
    refine QL.v hE (runs_if hE rfl rfl rfl hg101) (Gives.p hE rfl) rfl fun a hE => ?_
    refine QL.v hE (runs_if hE rfl rfl rfl hg91) (Gives.pickF hE rfl hg101 rfl) rfl fun a hE => ?_
    refine qP hE (Gives.pickT hE rfl hg91 rfl) rfl fun a hE => ?_
    refine QL.nil ?_; clear hS w; intro w hS
    subst hK90
    exact ⟨decide (x63.Price < x102.Price), Option.some.inj hq85, hE.pick _ ⟨rfl, rfl, rfl, rfl, rfl, trivial⟩, hS⟩
   replace hq85 := iteF hg91 hq85
   refine QL.no hE (runs_not hE rfl rfl rfl (by rw [hg91]; decide)) rfl fun a hE => ?_
   refine QL.no hE (runs_not hE rfl rfl rfl (by rw [hg91]; decide)) rfl fun a hE => ?_
   refine QL.no hE (runs_not hE rfl rfl rfl (by rw [hg91]; decide)) rfl fun a hE => ?_
   refine QL.no hE (runs_not hE rfl rfl rfl (by rw [hg91]; decide)) rfl fun a hE => ?_
   refine QL.no hE (runs_not hE rfl rfl rfl (by rw [hg91]; decide)) rfl fun a hE => ?_
   refine QL.no hE (runs_not hE rfl rfl rfl (by rw [hg91]; decide)) rfl fun a hE => ?_
   refine QL.no hE (runs_not hE rfl rfl rfl (by rw [hg91]; decide)) rfl fun a hE => ?_
   refine QL.no hE (runs_not hE rfl rfl rfl (by rw [hg91]; decide)) rfl fun a hE => ?_
   refine QL.no hE (runs_not hE rfl rfl rfl (by rw [hg91]; decide)) rfl fun a hE => ?_
   refine QL.no hE (runs_not hE rfl rfl rfl (by rw [hg91]; decide)) rfl fun a hE => ?_
   refine QL.no hE (runs_not hE rfl rfl rfl (by rw [hg91]; decide)) rfl fun a hE => ?_
   refine QL.no hE (runs_undef hE rfl rfl rfl) rfl fun a hE => ?_
   refine QL.no hE (runs_undef hE rfl rfl rfl) rfl fun a hE => ?_
   refine QL.no hE (runs_undef hE rfl rfl rfl) rfl fun a hE => ?_
   refine QL.no hE (runs_undef hE rfl rfl rfl) rfl fun a hE => ?_
   refine QL.no hE (runs_undef hE rfl rfl rfl) rfl fun a hE => ?_
   refine QL.no hE (runs_undef hE rfl rfl rfl) rfl fun a hE => ?_
   refine QL.no hE (runs_undef hE rfl rfl rfl) rfl fun a hE => ?_
   refine QL.no hE (runs_undef hE rfl rfl rfl) rfl fun a hE => ?_
   refine QL.no hE (runs_undef hE rfl rfl rfl) rfl fun a hE => ?_
   refine QL.no hE (runs_undef hE rfl rfl rfl) rfl fun a hE => ?_
   refine QL.no hE (runs_not hE rfl rfl rfl (by rw [hg91]; decide)) rfl fun a hE => ?_
   refine qP hE (Gives.pickF hE rfl hg91 rfl) rfl fun a hE => ?_
   refine QL.nil ?_; clear hS w; intro w hS
   subst hK90
   exact ⟨false, Option.some.inj hq85, hE.pick _ ⟨rfl, rfl, rfl, rfl, rfl, trivial⟩, hS⟩
  clear hE hS a w; rintro a w ⟨q89, rfl, hE, hS⟩
  refine W.cond hE rfl (fun hc111 => ?_) (fun hc111 => ?_)
  ·replace hq60 := iteT hc111 hq60
   refine W.seq (W.region (vp hS hE rfl rfl fun a hE => WL.nil ?_))
   refine W.ret ?_
   subst hK71
   rw [← Option.some.inj hq60] at hr
   dsimp only at hr
   refine finG (fn := Tryz.f6) (rs := [.tmp 2]) (vs := [_]) hE rfl ⟨rfl, trivial⟩ ?_
   obtain rfl := Option.some.inj hr
   replace hS := hS.tail
   replace hS := hS.tail
   exact ⟨rfl, hS⟩
  replace hq60 := iteF hc111 hq60
  refine W.skip ?_
  refine W.region ?_
  refine vP hS hE (Gives.inc hE rfl (by have := h0_0.small; omega)) rfl fun a hE => ?_
  refine vp hS hE rfl rfl fun a hE => WL.nil ?_
  replace hS := hS.tail
  subst hK71
  exact ⟨rest64.length, Nat.lt_succ_self _, rest64, k62 + 1, rfl, hd65, hq60, hE.pick _ ⟨rfl, rfl, rfl, rfl, trivial⟩, hS⟩
 clear hE hS a w; rintro a w ⟨rfl, hE, hS⟩
 dsimp only at hr
 refine W.seq ?_
 refine W.seq (W.region (vP hS hE (Gives.fld hE rfl fl25_2) rfl fun a hE => ?_))
 refine vP hS hE (Gives.loadB hE 0 rfl rfl rfl ty3) rfl fun a hE => ?_
 refine WL.fnq hE (Fishref2within_ok hS  rfl (r := Fishref2within x0.Round 1 100)) (runs_plain rfl) bd14 rfl rfl rfl ?_
 clear hE hS; rintro e w ⟨rfl, hS⟩; refine ⟨_, rfl, ?_⟩; clear a; intro a hE
 refine vp hS hE rfl rfl fun a hE => WL.nil ?_
 refine W.cond hE rfl (fun hc112 => ?_) (fun hc112 => ?_)
 ·replace hr := iteT hc112 hr
  refine W.seq (W.region (vp hS hE rfl rfl fun a hE => WL.nil ?_))
  refine W.ret ?_
  refine finG (fn := Tryz.f6) (rs := [.tmp 2]) (vs := [_]) hE rfl ⟨rfl, trivial⟩ ?_
  obtain rfl := Option.some.inj hr
  replace hS := hS.tail
  exact ⟨rfl, hS⟩
 replace hr := iteF hc112 hr
 refine W.skip ?_
 refine W.seq ?_
 refine W.seq (W.region (vP hS hE (Gives.fld hE rfl fl25_3) rfl fun a hE => ?_))
 refine vP hS hE (Gives.loadB hE 0 rfl rfl rfl ty23) rfl fun a hE => ?_
 refine vP hS hE (Gives.len hE rfl sl23) rfl fun a hE => ?_
 refine vp hS hE rfl rfl fun a hE => WL.nil ?_
 obtain ⟨q114, hq113, hr⟩ := bindS hr
 refine W.cut (fun a w => (.next ()) = q114 ∧ Rep a 95 [] ∧ St w s (pc b51 #[.bool x0.ByKm, .slice a0_0 x0.Bands.length c0_0, vi x0.Round, .slice a0_1 x0.Rules.length c0_1] 25 :: R)) ?_ ?_
 ·refine W.block ?_
  refine W.loop (fun m a w => ∃ (rest117 : List FareRule) (k115 : Nat), rest117.length = m ∧ x0.Rules.drop k115 = rest117 ∧ Fishref2TariffFault.loop2 fu rest117 = some q114 ∧ Rep a 95 [(70, .slice a0_1 x0.Rules.length c0_1), (71, vi ((x0.Rules).length : Int)), (72, vi ((k115 : Nat) : Int))] ∧ St w s (pc b51 #[.bool x0.ByKm, .slice a0_0 x0.Bands.length c0_0, vi x0.Round, .slice a0_1 x0.Rules.length c0_1] 25 :: R)) (m := x0.Rules.length) ⟨x0.Rules, 0, rfl, rfl, hq113, hE.pick _ ⟨rfl, rfl, rfl, trivial⟩, hS⟩ ?_
  clear hE hS a w hq113; rintro m121 a w ⟨rest117, k115, rfl, hd118, hq113, hE, hS⟩
  refine W.gen fun K124 hK124 => ?_
  rcases rest117 with _ | ⟨x116, rest117⟩
  ·have hlt119 := drop_nil hd118
   refine W.seq (W.region (vp hS hE rfl rfl fun a hE => WL.nil ?_))
   refine W.seq ?_
   refine W.condF hE rfl (decide_eq_false (by omega)) ?_
   subst hK124
   refine W.exit rfl ?_
   exact ⟨Option.some.inj hq113, hE.pick _ trivial, hS⟩
  obtain ⟨hlt119, hx120, hd118⟩ := drop_cons hd118
  rw [Fishref2TariffFault.loop2] at hq113
  refine W.seq (W.region (vp hS hE rfl rfl fun a hE => WL.nil ?_))
  refine W.seq ?_
  refine W.condT hE rfl (decide_eq_true (by omega)) ?_
  refine W.skip ?_
  refine W.seq ?_
  refine W.block ?_
  refine W.seq (W.region ?_)
  obtain ⟨cs125, hl126, hR127, hat128⟩ := h0_1.at hx120
  obtain ⟨a129, c130, rfl, h131⟩ := hR127
  refine vP hS hE (Gives.idx hE k115 rfl rfl sl23 rfl hlt119 (h0_1.aok hlt119)) rfl fun a hE => ?_
  refine vP hS hE (Gives.loadA hE rfl (fun w h => hat128 w _ h) ty45) rfl fun a hE => ?_
  refine WL.alloc hE hS (runs_plain rfl) zr45 rfl ?_; clear hE hS a w; intro b132 a w hE hS
  refine WL.storeI hE hS 0 rfl [vi x116.If.Kind, vi x116.If.A, vi x116.If.B, .slice a129 x116.If.Kids.length c130, vi x116.Do, vi x116.N, .bool x116.Stop] (runs_plain rfl) rfl rfl rfl ty45 rfl rfl rfl rfl ?_; clear hE hS a w; intro a w hE hS
  refine WL.nil ?_
  refine W.seq ?_
  refine W.seq (W.region (vP hS hE (Gives.fld hE rfl fl45_0) rfl fun a hE => ?_))
  refine vP hS hE (Gives.loadA (cs := [vi x116.If.Kind, vi x116.If.A, vi x116.If.B, .slice a129 x116.If.Kids.length c130]) hE rfl (fun w h => (St.seesAt h 0 rfl).part 0 4) ty43) rfl fun a hE => ?_
  obtain ⟨q133, hq134, hq113⟩ := bindS hq113
  have hc_ := Fishref2CondFault_ok hS h131 hq134
  refine WL.fnq hE (hc_) (runs_plain rfl) bd15 rfl rfl rfl ?_
  clear hE hS hc_; rintro e w ⟨rfl, hS⟩; refine ⟨_, rfl, ?_⟩; clear a; intro a hE
  refine vp hS hE rfl rfl fun a hE => WL.nil ?_
  refine W.seq (W.region (v2 hS hE rfl rfl rfl rfl fun a hE => WL.nil ?_))
  refine W.cond hE rfl (fun hc135 => ?_) (fun hc135 => ?_)
  ·replace hq113 := iteT hc135 hq113
   refine W.seq (W.region (v2 hS hE rfl rfl rfl rfl fun a hE => WL.nil ?_))
   refine W.ret ?_
   subst hK124
   rw [← Option.some.inj hq113] at hr
   dsimp only at hr
   refine finG (fn := Tryz.f6) (rs := [.tmp 2]) (vs := [_]) hE rfl ⟨rfl, trivial⟩ ?_
   obtain rfl := Option.some.inj hr
   replace hS := hS.tail
   replace hS := hS.tail
   exact ⟨rfl, hS⟩
  replace hq113 := iteF hc135 hq113
  refine W.skip ?_
  refine W.seq ?_
  refine W.seq (W.region (vP hS hE (Gives.fld hE rfl fl45_1) rfl fun a hE => ?_))
  refine vP hS hE (Gives.loadB hE 0 rfl rfl rfl ty3) rfl fun a hE => ?_
  refine WL.fnq hE (Fishref2within_ok hS  rfl (r := Fishref2within x116.Do 1 6)) (runs_plain rfl) bd14 rfl rfl rfl ?_
  clear hE hS; rintro e w ⟨rfl, hS⟩; refine ⟨_, rfl, ?_⟩; clear a; intro a hE
  refine vp hS hE rfl rfl fun a hE => WL.nil ?_
  refine W.cond hE rfl (fun hc136 => ?_) (fun hc136 => ?_)
  ·replace hq113 := iteT hc136 hq113
   refine W.seq (W.region (vp hS hE rfl rfl fun a hE => WL.nil ?_))
   refine W.ret ?_
   subst hK124
   rw [← Option.some.inj hq113] at hr
   dsimp only at hr
   refine finG (fn := Tryz.f6) (rs := [.tmp 2]) (vs := [_]) hE rfl ⟨rfl, trivial⟩ ?_
   obtain rfl := Option.some.inj hr
   replace hS := hS.tail
   replace hS := hS.tail
   exact ⟨rfl, hS⟩
  replace hq113 := iteF hc136 hq113
  refine W.skip ?_
  refine W.seq (W.region (vp hS hE rfl rfl fun a hE => WL.nil ?_))
  refine W.seq ?_
  refine W.seq (W.region (vP hS hE (Gives.fld hE rfl fl45_1) rfl fun a hE => ?_))
  refine vP hS hE (Gives.loadB hE 0 rfl rfl rfl ty3) rfl fun a hE => ?_
  refine vp hS hE rfl rfl fun a hE => WL.nil ?_
  obtain ⟨q138, hq137, hq113⟩ := bndS hq113
  refine W.cut (fun a w => ∃ (q141 : Int), q141 = q138 ∧ Rep a 95 [(6, pp b132), (8, vi q141), (70, .slice a0_1 x0.Rules.length c0_1), (71, vi ((x0.Rules).length : Int)), (72, vi ((k115 : Nat) : Int))] ∧ St w s (pc b132 #[vi x116.If.Kind, vi x116.If.A, vi x116.If.B, .slice a129 x116.If.Kids.length c130, vi x116.Do, vi x116.N, .bool x116.Stop] 45 :: pc b51 #[.bool x0.ByKm, .slice a0_0 x0.Bands.length c0_0, vi x0.Round, .slice a0_1 x0.Rules.length c0_1] 25 :: R)) ?_ ?_
  ·refine W.gen fun K142 hK142 => ?_
   refine W.cond hE rfl (fun hc143 => ?_) (fun hc143 => ?_)
   ·replace hq137 := iteT hc143 hq137
    refine W.region ?_
    refine vp hS hE rfl rfl fun a hE => WL.nil ?_
    subst hK142
    exact ⟨200, hq137, hE.pick _ ⟨rfl, rfl, rfl, rfl, rfl, trivial⟩, hS⟩
   replace hq137 := iteF hc143 hq137
   refine W.skip ?_
   subst hK142
   exact ⟨100000, hq137, hE.pick _ ⟨rfl, rfl, rfl, rfl, rfl, trivial⟩, hS⟩
  clear hE hS a w; rintro a w ⟨q141, rfl, hE, hS⟩
  refine W.seq (W.region (vP hS hE (Gives.fld hE rfl fl45_2) rfl fun a hE => ?_))
  refine vP hS hE (Gives.loadB hE 0 rfl rfl rfl ty3) rfl fun a hE => ?_
  refine vp hS hE rfl rfl fun a hE => ?_
  refine WL.fnq hE (Fishref2within_ok hS  rfl (r := Fishref2within x116.N 0 q141)) (runs_plain rfl) bd14 rfl rfl rfl ?_
  clear hE hS; rintro e w ⟨rfl, hS⟩; refine ⟨_, rfl, ?_⟩; clear a; intro a hE
  refine vp hS hE rfl rfl fun a hE => WL.nil ?_
  refine W.cond hE rfl (fun hc144 => ?_) (fun hc144 => ?_)
  ·replace hq113 := iteT hc144 hq113
   refine W.seq (W.region (vp hS hE rfl rfl fun a hE => WL.nil ?_))
   refine W.ret ?_
   subst hK124
   rw [← Option.some.inj hq113] at hr
   dsimp only at hr
   refine finG (fn := Tryz.f6) (rs := [.tmp 2]) (vs := [_]) hE rfl ⟨rfl, trivial⟩ ?_
   obtain rfl := Option.some.inj hr
   replace hS := hS.tail
   replace hS := hS.tail
   exact ⟨rfl, hS⟩
  replace hq113 := iteF hc144 hq113
  refine W.skip ?_
  refine W.region ?_
  refine vP hS hE (Gives.inc hE rfl (by have := h0_1.small; omega)) rfl fun a hE => ?_
  refine vp hS hE rfl rfl fun a hE => WL.nil ?_
  replace hS := hS.tail
  subst hK124
  exact ⟨rest117.length, Nat.lt_succ_self _, rest117, k115 + 1, rfl, hd118, hq113, hE.pick _ ⟨rfl, rfl, rfl, trivial⟩, hS⟩
 clear hE hS a w; rintro a w ⟨rfl, hE, hS⟩
 dsimp only at hr
 refine W.seq (W.region (vp hS hE rfl rfl fun a hE => WL.nil ?_))
 refine W.ret ?_
 refine finG (fn := Tryz.f6) (rs := [.tmp 2]) (vs := [_]) hE rfl ⟨rfl, trivial⟩ ?_
 obtain rfl := Option.some.inj hr
 replace hS := hS.tail
 exact ⟨rfl, hS⟩
end Go.Proofs.YtfdifpegldailaaGreatDoor
