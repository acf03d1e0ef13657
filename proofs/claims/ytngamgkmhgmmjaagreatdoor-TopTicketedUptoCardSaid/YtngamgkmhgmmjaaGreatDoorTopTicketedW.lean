/- The walks of the functions that TopTicketed reaches: each call comes to what its mirror says. The conditions are those of each contract. -/
import Derived.Test.YtngamgkmhgmmjaaGreatDoorProg
import Derived.Test.YtngamgkmhgmmjaaGreatDoorTopTicketedM
import Derived.Test.YtngamgkmhgmmjaaGreatDoorFpAllT
import Derived.Test.YtngamgkmhgmmjaaGreatDoorTopTicketedS
import Derived.Test.YtngamgkmhgmmjaaGreatDoorFpErr
import Derived.Test.YtngamgkmhgmmjaaGreatDoorFpFld
import Derived.Test.YtngamgkmhgmmjaaGreatDoorFpPan
import Derived.Test.YtngamgkmhgmmjaaGreatDoorTopTicketedW3
set_option maxRecDepth 10000
namespace Go.Proofs.YtngamgkmhgmmjaaGreatDoor
open Go Go.Fp
set_option maxHeartbeats 8000000 in
theorem FareOpen_ok {fu : Nat}  {w : World} {s : Sg} {R : List HP} {x0 : FareKey} {x1 : ByteArray} (hS : St w s (R)) (hTab : TabX s) {r : FareTicket × Int} (hr : FareOpen fu x0 x1 = some r) :
  Calls Tryz.prog 33 [.agg (FareKey.cells x0).toArray, .string x1].toArray w (fun e w => ∃ (cs0 : List Value) (t : Sg), e = .returned (.tuple #[.agg cs0.toArray, .int .i64 r.2]) ∧ s.Le t ∧ RFareTicket t cs0 r.1 ∧ St w t (R)) := by
 refine enter Tryz.func33 rfl rfl rfl fun a hE => ?_
 rw [FareOpen] at hr
 refine W.seq (W.region ?_)
 refine WL.box hE hS (runs_plain rfl) rfl rfl rfl ?_; clear hE hS a w; intro b51 a w hE hS
 refine WL.alloc hE hS (runs_plain rfl) zr62 rfl ?_; clear hE hS a w; intro b52 a w hE hS
 refine vP hS hE (Gives.p hE rfl) rfl ?_; clear hE a; intro a hE
 refine WL.nil ?_
 refine W.seq ?_
 refine W.seq (W.region ?_)
 refine vP hS hE (Gives.loadBA hE 1 rfl rfl ty56) rfl ?_; clear hE a; intro a hE
 refine WL.fnq hE (FareKeycheck_ok hS  rfl (r := FareKeycheck x0 false)) (runs_plain rfl) bd29 rfl rfl rfl ?_
 clear hE hS; rintro e w ⟨rfl, hS⟩; refine ⟨_, rfl, ?_⟩; clear a; intro a hE
 refine vP hS hE (Gives.p hE rfl) rfl ?_; clear hE a; intro a hE
 refine WL.nil ?_
 refine W.seq (W.region ?_)
 refine vP hS hE (Gives.p hE rfl) rfl ?_; clear hE a; intro a hE
 refine vP hS hE (Gives.p hE rfl) rfl ?_; clear hE a; intro a hE
 refine WL.nil ?_
 refine W.cond hE rfl (fun hc53 => ?_) (fun hc53 => ?_)
 ·replace hr := iteT hc53 hr
  refine W.seq (W.region ?_)
  refine vP hS hE (Gives.build hE (vs := []) [.int .i64 0, .int .i64 0, .int .i64 0, .int .i64 0, .int .i64 0, .slice none 0 0] rfl (by kernel_rfl)) rfl ?_; clear hE a; intro a hE
  refine vP hS hE (Gives.p hE rfl) rfl ?_; clear hE a; intro a hE
  refine WL.storeI hE hS 0 rfl [.int .i64 0, .int .i64 0, .int .i64 0, .int .i64 0, .int .i64 0, .slice none 0 0] (runs_plain rfl) rfl rfl rfl ty62 rfl rfl rfl rfl ?_; clear hE hS a w; intro a w hE hS
  refine vP hS hE (Gives.p hE rfl) rfl ?_; clear hE a; intro a hE
  refine WL.nil ?_
  refine W.ret ?_
  refine finG (fn := Tryz.f33) (rs := [.cell 4 62, .tmp 5]) (vs := [_, _]) hE rfl ⟨⟨_, rfl, .inl ⟨_, rfl, hS.seesAt 0 rfl, ty62⟩⟩, rfl, trivial⟩ ?_
  obtain rfl := Option.some.inj hr
  replace hS := hS.tail
  replace hS := hS.tail
  exact ⟨_, s, rfl, (Sg.Le.refl _), ⟨_, _, rfl, Sl.nil⟩, hS⟩
 ·replace hr := iteF hc53 hr
  refine W.skip ?_
  refine W.seq ?_
  refine W.seq (W.region ?_)
  refine vP hS hE (Gives.p hE rfl) rfl ?_; clear hE a; intro a hE
  refine vP hS hE (Gives.lenS hE rfl st9) rfl ?_; clear hE a; intro a hE
  refine vP hS hE (Gives.p hE rfl) rfl ?_; clear hE a; intro a hE
  refine WL.nil ?_
  refine W.cond hE rfl (fun hc54 => ?_) (fun hc54 => ?_)
  ·replace hr := iteT hc54 hr
   refine W.seq (W.region ?_)
   refine vP hS hE (Gives.build hE (vs := []) [.int .i64 0, .int .i64 0, .int .i64 0, .int .i64 0, .int .i64 0, .slice none 0 0] rfl (by kernel_rfl)) rfl ?_; clear hE a; intro a hE
   refine WL.storeI hE hS 0 rfl [.int .i64 0, .int .i64 0, .int .i64 0, .int .i64 0, .int .i64 0, .slice none 0 0] (runs_plain rfl) rfl rfl rfl ty62 rfl rfl rfl rfl ?_; clear hE hS a w; intro a w hE hS
   refine vP hS hE (Gives.p hE rfl) rfl ?_; clear hE a; intro a hE
   refine WL.nil ?_
   refine W.ret ?_
   refine finG (fn := Tryz.f33) (rs := [.cell 4 62, .tmp 5]) (vs := [_, _]) hE rfl ⟨⟨_, rfl, .inl ⟨_, rfl, hS.seesAt 0 rfl, ty62⟩⟩, rfl, trivial⟩ ?_
   obtain rfl := Option.some.inj hr
   replace hS := hS.tail
   replace hS := hS.tail
   exact ⟨_, s, rfl, (Sg.Le.refl _), ⟨_, _, rfl, Sl.nil⟩, hS⟩
  ·replace hr := iteF hc54 hr
   refine W.skip ?_
   refine W.seq (W.region ?_)
   refine vP hS hE (Gives.p hE rfl) rfl ?_; clear hE a; intro a hE
   obtain ⟨q55, hq56, hr⟩ := bindS hr
   have hc_ := Fareopen_ok hS (TabG.mono (Sg.Le.refl _) hTab) hq56
   refine WL.fnq hE (hc_) (runs_plain rfl) bd50 rfl rfl rfl ?_
   clear hE hS hc_; rintro e w ⟨a57, c58, n59, cs60, s63, rfl, hle64, h61, rfl, hS⟩; refine ⟨_, rfl, ?_⟩; clear a; intro a hE
   refine vP hS hE (Gives.p hE rfl) rfl ?_; clear hE a; intro a hE
   refine vP hS hE (Gives.p hE rfl) rfl ?_; clear hE a; intro a hE
   refine vP hS hE (Gives.p hE rfl) rfl ?_; clear hE a; intro a hE
   refine vP hS hE (Gives.p hE rfl) rfl ?_; clear hE a; intro a hE
   refine vP hS hE (Gives.p hE rfl) rfl ?_; clear hE a; intro a hE
   refine vP hS hE (Gives.p hE rfl) rfl ?_; clear hE a; intro a hE
   refine vP hS hE (Gives.p hE rfl) rfl ?_; clear hE a; intro a hE
   refine WL.nil ?_
   refine W.seq ?_
   refine W.seq (W.region ?_)
   refine vP hS hE (Gives.p hE rfl) rfl ?_; clear hE a; intro a hE
   refine vP hS hE (Gives.p hE rfl) rfl ?_; clear hE a; intro a hE
   refine WL.nil ?_
   refine W.cond hE rfl (fun hc65 => ?_) (fun hc65 => ?_)
   ·replace hr := iteT hc65 hr
    refine W.seq (W.region ?_)
    refine vP hS hE (Gives.build hE (vs := []) [.int .i64 0, .int .i64 0, .int .i64 0, .int .i64 0, .int .i64 0, .slice none 0 0] rfl (by kernel_rfl)) rfl ?_; clear hE a; intro a hE
    refine WL.storeI hE hS 1 rfl [.int .i64 0, .int .i64 0, .int .i64 0, .int .i64 0, .int .i64 0, .slice none 0 0] (runs_plain rfl) rfl rfl rfl ty62 rfl rfl rfl rfl ?_; clear hE hS a w; intro a w hE hS
    refine vP hS hE (Gives.p hE rfl) rfl ?_; clear hE a; intro a hE
    refine WL.nil ?_
    refine W.ret ?_
    refine finG (fn := Tryz.f33) (rs := [.cell 4 62, .tmp 5]) (vs := [_, _]) hE rfl ⟨⟨_, rfl, .inl ⟨_, rfl, hS.seesAt 1 rfl, ty62⟩⟩, rfl, trivial⟩ ?_
    obtain rfl := Option.some.inj hr
    replace hS := hS.tail
    replace hS := hS.tail
    replace hS := hS.tail
    exact ⟨_, s63, rfl, hle64, ⟨_, _, rfl, Sl.nil⟩, hS⟩
   ·replace hr := iteF hc65 hr
    refine W.skip ?_
    refine W.seq ?_
    refine W.seq ?_
    refine W.regionQ (C := fun w => St w s63 (vecC 3 1 a57 c58 q55.1.length cs60 :: pt b52 (.cells #[.int .i64 0, .int .i64 0, .int .i64 0, .int .i64 0, .int .i64 0, .slice none 0 0] 62 (0, 0)) :: pt b51 (.cells (FareKey.cells x0).toArray 56 (0, 0)) :: R)) mixed (by kernel_rfl) hS.drew ?_
    refine qP hE (Gives.loadBA hE 2 rfl rfl ty56) rfl ?_; clear hE a; intro a hE
    refine qP hE (Gives.p hE rfl) rfl ?_; clear hE a; intro a hE
    refine qP hE (Gives.p hE rfl) rfl ?_; clear hE a; intro a hE
    obtain ⟨q66, hq67, hr⟩ := bindS hr
    refine QL.fnq hE (fun w hS => StringsLastIndexByte_ok hS  hq67) (runs_plain rfl) bd52 rfl rfl rfl ?_; clear hE a; intro a hE
    refine qP hE (Gives.p hE rfl) rfl ?_; clear hE a; intro a hE
    obtain ⟨x68, hx69, hr⟩ := bindS hr
    refine qP hE (Gives.cutSH hE st9 rfl rfl hx69) rfl ?_; clear hE a; intro a hE
    refine qP hE (Gives.p hE rfl) rfl ?_; clear hE a; intro a hE
    obtain ⟨q70, hq71, hr⟩ := bindS hr
    refine QL.fnq hE (fun w hS => FareVerify_ok hS  hq71) (runs_plain rfl) bd51 rfl rfl rfl ?_; clear hE a; intro a hE
    refine qP hE (Gives.p hE rfl) rfl ?_; clear hE a; intro a hE
    refine qP hE (Gives.p hE rfl) rfl ?_; clear hE a; intro a hE
    refine qP hE (Gives.p hE rfl) rfl ?_; clear hE a; intro a hE
    refine qP hE (Gives.p hE rfl) rfl ?_; clear hE a; intro a hE
    refine qP hE (Gives.p hE rfl) rfl ?_; clear hE a; intro a hE
    refine QL.nil ?_; clear hS w; intro w hS
    refine W.seq (W.region ?_)
    refine vP hS hE (Gives.p hE rfl) rfl ?_; clear hE a; intro a hE
    refine vP hS hE (Gives.p hE rfl) rfl ?_; clear hE a; intro a hE
    refine WL.nil ?_
    refine W.cond hE rfl (fun hc72 => ?_) (fun hc72 => ?_)
    ·replace hr := iteT hc72 hr
     refine W.seq (W.region ?_)
     refine vP hS hE (Gives.build hE (vs := []) [.int .i64 0, .int .i64 0, .int .i64 0, .int .i64 0, .int .i64 0, .slice none 0 0] rfl (by kernel_rfl)) rfl ?_; clear hE a; intro a hE
     refine WL.storeI hE hS 1 rfl [.int .i64 0, .int .i64 0, .int .i64 0, .int .i64 0, .int .i64 0, .slice none 0 0] (runs_plain rfl) rfl rfl rfl ty62 rfl rfl rfl rfl ?_; clear hE hS a w; intro a w hE hS
     refine vP hS hE (Gives.p hE rfl) rfl ?_; clear hE a; intro a hE
     refine WL.nil ?_
     refine W.ret ?_
     refine finG (fn := Tryz.f33) (rs := [.cell 4 62, .tmp 5]) (vs := [_, _]) hE rfl ⟨⟨_, rfl, .inl ⟨_, rfl, hS.seesAt 1 rfl, ty62⟩⟩, rfl, trivial⟩ ?_
     obtain rfl := Option.some.inj hr
     replace hS := hS.tail
     replace hS := hS.tail
     replace hS := hS.tail
     exact ⟨_, s63, rfl, hle64, ⟨_, _, rfl, Sl.nil⟩, hS⟩
    ·replace hr := iteF hc72 hr
     refine W.skip ?_
     refine W.seq ?_
     have hF := hS.fixD RI.mono 0 rfl h61 rfl; clear hS; obtain ⟨s73, hle74, hS, h75⟩ := hF
     refine W.gen fun K76 hK76 => ?_
     refine W.regionE (sel (fun w => St w s73 (pt b52 (.cells #[.int .i64 0, .int .i64 0, .int .i64 0, .int .i64 0, .int .i64 0, .slice none 0 0] 62 (0, 0)) :: pt b51 (.cells (FareKey.cells x0).toArray 56 (0, 0)) :: R)) (fun w => St w s73 (pt b52 (.cells #[.int .i64 0, .int .i64 0, .int .i64 0, .int .i64 0, .int .i64 0, .slice none 0 0] 62 (0, 0)) :: pt b51 (.cells (FareKey.cells x0).toArray 56 (0, 0)) :: R))) (fun b i => cond b ([0, 1, 2, 3, 4, 5, 6, 7, 8, 9, 10, 11, 12, 13, 14, 15, 16, 17, 18, 19].contains i) ([0, 1, 2, 3, 4, 5, 6, 7, 8, 9, 10, 11, 12, 13, 14, 15, 16, 17, 18, 19].contains i)) mixed ?_
     replace hS := hS.drew
     refine Rg.takeP (i := 0) hE rfl (by kernel_rfl) (runs_plain rfl) (Gives.p hE rfl) rfl (tw_sel (fun _ => hS) (fun _ => hS)) ?_; clear hE a; intro a hE
     obtain ⟨x77, hx78, hr⟩ := bindS hr
     obtain ⟨hi79, hlt80, hy81⟩ := gx_some hx78
     obtain ⟨cs82, hl83, hR84, hat85⟩ := h75.at hy81
     subst hR84
     refine Rg.takeP (i := 1) hE rfl (by kernel_rfl) (runs_plain rfl) (Gives.idx hE ((0 : Int)).toNat rfl rfl sl37 hi79 hlt80 (h75.aok hlt80)) rfl (tw_sel (fun _ => hS) (fun _ => hS)) ?_; clear hE a; intro a hE
     have hT := tw_sel (A := fun w => St w s73 _) (B := fun w => St w s73 _) (w := _) (x := true) (y := true) (fun _ => hS) (fun _ => hS)
     have hF := hS; replace hS := hS
     refine Rg.take (i := 2) true rfl hE rfl (by kernel_rfl) (runs_plain rfl) (Gives.load1 hE rfl (fun w h => hat85 w _ h) ty3) rfl hT ?_; clear hE a; intro a hE
     replace hS := hF; clear hF hT
     refine Rg.takeP (i := 3) hE rfl (by kernel_rfl) (runs_plain rfl) (Gives.p hE rfl) rfl (tw_sel (fun _ => hS) (fun _ => hS)) ?_; clear hE a; intro a hE
     obtain ⟨x86, hx87, hr⟩ := bindS hr
     obtain ⟨hi88, hlt89, hy90⟩ := gx_some hx87
     obtain ⟨cs91, hl92, hR93, hat94⟩ := h75.at hy90
     subst hR93
     refine Rg.takeP (i := 4) hE rfl (by kernel_rfl) (runs_plain rfl) (Gives.idx hE ((1 : Int)).toNat rfl rfl sl37 hi88 hlt89 (h75.aok hlt89)) rfl (tw_sel (fun _ => hS) (fun _ => hS)) ?_; clear hE a; intro a hE
     have hT := tw_sel (A := fun w => St w s73 _) (B := fun w => St w s73 _) (w := _) (x := true) (y := true) (fun _ => hS) (fun _ => hS)
     have hF := hS; replace hS := hS
     refine Rg.take (i := 5) true rfl hE rfl (by kernel_rfl) (runs_plain rfl) (Gives.load1 hE rfl (fun w h => hat94 w _ h) ty3) rfl hT ?_; clear hE a; intro a hE
     replace hS := hF; clear hF hT
     refine Rg.takeP (i := 6) hE rfl (by kernel_rfl) (runs_plain rfl) (Gives.p hE rfl) rfl (tw_sel (fun _ => hS) (fun _ => hS)) ?_; clear hE a; intro a hE
     obtain ⟨x95, hx96, hr⟩ := bindS hr
     obtain ⟨hi97, hlt98, hy99⟩ := gx_some hx96
     obtain ⟨cs100, hl101, hR102, hat103⟩ := h75.at hy99
     subst hR102
     refine Rg.takeP (i := 7) hE rfl (by kernel_rfl) (runs_plain rfl) (Gives.idx hE ((2 : Int)).toNat rfl rfl sl37 hi97 hlt98 (h75.aok hlt98)) rfl (tw_sel (fun _ => hS) (fun _ => hS)) ?_; clear hE a; intro a hE
     have hT := tw_sel (A := fun w => St w s73 _) (B := fun w => St w s73 _) (w := _) (x := true) (y := true) (fun _ => hS) (fun _ => hS)
     have hF := hS; replace hS := hS
     refine Rg.take (i := 8) true rfl hE rfl (by kernel_rfl) (runs_plain rfl) (Gives.load1 hE rfl (fun w h => hat103 w _ h) ty3) rfl hT ?_; clear hE a; intro a hE
     replace hS := hF; clear hF hT
     refine Rg.takeP (i := 9) hE rfl (by kernel_rfl) (runs_plain rfl) (Gives.p hE rfl) rfl (tw_sel (fun _ => hS) (fun _ => hS)) ?_; clear hE a; intro a hE
     obtain ⟨x104, hx105, hr⟩ := bindS hr
     obtain ⟨hi106, hlt107, hy108⟩ := gx_some hx105
     obtain ⟨cs109, hl110, hR111, hat112⟩ := h75.at hy108
     subst hR111
     refine Rg.takeP (i := 10) hE rfl (by kernel_rfl) (runs_plain rfl) (Gives.idx hE ((3 : Int)).toNat rfl rfl sl37 hi106 hlt107 (h75.aok hlt107)) rfl (tw_sel (fun _ => hS) (fun _ => hS)) ?_; clear hE a; intro a hE
     have hT := tw_sel (A := fun w => St w s73 _) (B := fun w => St w s73 _) (w := _) (x := true) (y := true) (fun _ => hS) (fun _ => hS)
     have hF := hS; replace hS := hS
     refine Rg.take (i := 11) true rfl hE rfl (by kernel_rfl) (runs_plain rfl) (Gives.load1 hE rfl (fun w h => hat112 w _ h) ty3) rfl hT ?_; clear hE a; intro a hE
     replace hS := hF; clear hF hT
     refine Rg.takeP (i := 12) hE rfl (by kernel_rfl) (runs_plain rfl) (Gives.p hE rfl) rfl (tw_sel (fun _ => hS) (fun _ => hS)) ?_; clear hE a; intro a hE
     obtain ⟨x113, hx114, hr⟩ := bindS hr
     obtain ⟨hi115, hlt116, hy117⟩ := gx_some hx114
     obtain ⟨cs118, hl119, hR120, hat121⟩ := h75.at hy117
     subst hR120
     refine Rg.takeP (i := 13) hE rfl (by kernel_rfl) (runs_plain rfl) (Gives.idx hE ((4 : Int)).toNat rfl rfl sl37 hi115 hlt116 (h75.aok hlt116)) rfl (tw_sel (fun _ => hS) (fun _ => hS)) ?_; clear hE a; intro a hE
     have hT := tw_sel (A := fun w => St w s73 _) (B := fun w => St w s73 _) (w := _) (x := true) (y := true) (fun _ => hS) (fun _ => hS)
     have hF := hS; replace hS := hS
     refine Rg.take (i := 14) true rfl hE rfl (by kernel_rfl) (runs_plain rfl) (Gives.load1 hE rfl (fun w h => hat121 w _ h) ty3) rfl hT ?_; clear hE a; intro a hE
     replace hS := hF; clear hF hT
     refine Rg.takeP (i := 15) hE rfl (by kernel_rfl) (runs_plain rfl) (Gives.p hE rfl) rfl (tw_sel (fun _ => hS) (fun _ => hS)) ?_; clear hE a; intro a hE
     have hT := tw_sel (A := fun w => St w s73 _) (B := fun w => St w s73 _) (w := _) (x := true) (y := true) (fun _ => hS) (fun _ => hS)
     have hF := hS; replace hS := hS
     obtain ⟨x122, hx123, hr⟩ := bindS hr
     obtain ⟨a124, c125, heq126, h127⟩ := h75.cut hx123
     obtain ⟨h128, h129, h130, _⟩ := cutl_some hx123
     refine Rg.take (i := 16) true rfl hE rfl (by kernel_rfl) (runs_plain rfl) (Gives.slL hE sl37 rfl rfl h128 (by omega) (by simpa using heq126)) rfl hT ?_; clear hE a; intro a hE
     replace hS := hF; clear hF hT
     refine Rg.takeP (i := 17) hE rfl (by kernel_rfl) (runs_plain rfl) (Gives.build hE (vs := [(0, .int .i64 x77), (1, .int .i64 x86), (2, .int .i64 x95), (3, .int .i64 x104), (4, .int .i64 x113), (5, .slice a124 x122.length c125)]) [.int .i64 x77, .int .i64 x86, .int .i64 x95, .int .i64 x104, .int .i64 x113, .slice a124 x122.length c125] rfl (by kernel_rfl)) rfl (tw_sel (fun _ => hS) (fun _ => hS)) ?_; clear hE a; intro a hE
     refine Rg.one (i := 18) true true rfl (by kernel_rfl) (by kernel_rfl) (by kernel_rfl) ?_
     refine WL.alloc hE hS (runs_plain rfl) zr62 rfl ?_; clear hE hS a w; intro b131 a w hE hS
     refine WL.nil ?_
     refine ⟨⟨fun _ => (hS.tail), fun _ => (hS.tail)⟩, ?_⟩
     refine Rg.one (i := 19) true true rfl (by kernel_rfl) (by kernel_rfl) (by kernel_rfl) ?_
     refine WL.storeI hE hS 0 rfl [.int .i64 x77, .int .i64 x86, .int .i64 x95, .int .i64 x104, .int .i64 x113, .slice a124 x122.length c125] (runs_plain rfl) rfl rfl rfl ty62 rfl rfl rfl rfl ?_; clear hE hS a w; intro a w hE hS
     refine WL.nil ?_
     refine ⟨⟨fun _ => (hS.tail), fun _ => (hS.tail)⟩, ?_⟩
     refine Rg.done (by kernel_rfl) ?_
     subst hK76
     refine W.seq ?_
     refine W.seq (W.region ?_)
     refine vP hS hE (Gives.loadBA hE 0 rfl rfl ty62) rfl ?_; clear hE a; intro a hE
     obtain ⟨q132, hq133, hr⟩ := bindS hr
     have hc_ := FareTicketcheck_ok (x0 := (FareTicket.mk x77 x86 x95 x104 x113 x122)) hS h127 hq133
     refine WL.fnq hE (hc_) (runs_plain rfl) bd30 rfl rfl rfl ?_
     clear hE hS hc_; rintro e w ⟨rfl, hS⟩; refine ⟨_, rfl, ?_⟩; clear a; intro a hE
     refine vP hS hE (Gives.p hE rfl) rfl ?_; clear hE a; intro a hE
     refine WL.nil ?_
     refine W.seq (W.region ?_)
     refine vP hS hE (Gives.p hE rfl) rfl ?_; clear hE a; intro a hE
     refine vP hS hE (Gives.p hE rfl) rfl ?_; clear hE a; intro a hE
     refine WL.nil ?_
     refine W.cond hE rfl (fun hc134 => ?_) (fun hc134 => ?_)
     ·replace hr := iteT hc134 hr
      refine W.seq (W.region ?_)
      refine vP hS hE (Gives.build hE (vs := []) [.int .i64 0, .int .i64 0, .int .i64 0, .int .i64 0, .int .i64 0, .slice none 0 0] rfl (by kernel_rfl)) rfl ?_; clear hE a; intro a hE
      refine vP hS hE (Gives.p hE rfl) rfl ?_; clear hE a; intro a hE
      refine WL.storeI hE hS 1 rfl [.int .i64 0, .int .i64 0, .int .i64 0, .int .i64 0, .int .i64 0, .slice none 0 0] (runs_plain rfl) rfl rfl rfl ty62 rfl rfl rfl rfl ?_; clear hE hS a w; intro a w hE hS
      refine vP hS hE (Gives.p hE rfl) rfl ?_; clear hE a; intro a hE
      refine WL.nil ?_
      refine W.ret ?_
      refine finG (fn := Tryz.f33) (rs := [.cell 4 62, .tmp 5]) (vs := [_, _]) hE rfl ⟨⟨_, rfl, .inl ⟨_, rfl, hS.seesAt 1 rfl, ty62⟩⟩, rfl, trivial⟩ ?_
      obtain rfl := Option.some.inj hr
      replace hS := hS.tail
      replace hS := hS.tail
      replace hS := hS.tail
      exact ⟨_, s73, rfl, (Sg.Le.trans hle64 hle74), ⟨_, _, rfl, Sl.nil⟩, hS⟩
     ·replace hr := iteF hc134 hr
      refine W.skip ?_
      refine W.seq (W.region ?_)
      refine vP hS hE (Gives.loadBA hE 0 rfl rfl ty62) rfl ?_; clear hE a; intro a hE
      refine WL.storeI hE hS 1 rfl [.int .i64 x77, .int .i64 x86, .int .i64 x95, .int .i64 x104, .int .i64 x113, .slice a124 x122.length c125] (runs_plain rfl) rfl rfl rfl ty62 rfl rfl rfl rfl ?_; clear hE hS a w; intro a w hE hS
      refine vP hS hE (Gives.p hE rfl) rfl ?_; clear hE a; intro a hE
      refine WL.nil ?_
      refine W.ret ?_
      refine finG (fn := Tryz.f33) (rs := [.cell 4 62, .tmp 5]) (vs := [_, _]) hE rfl ⟨⟨_, rfl, .inl ⟨_, rfl, hS.seesAt 1 rfl, ty62⟩⟩, rfl, trivial⟩ ?_
      obtain rfl := Option.some.inj hr
      replace hS := hS.tail
      replace hS := hS.tail
      replace hS := hS.tail
      exact ⟨_, s73, rfl, (Sg.Le.trans hle64 hle74), ⟨_, _, rfl, h127⟩, hS⟩
set_option maxHeartbeats 8000000 in
theorem FareAccept_ok {fu : Nat}  {w : World} {s : Sg} {R : List HP} {x0 : FareKey} {x1 : ByteArray} {x2 : Int} {x3 : Int} {x4 : Int} {x5 : List Int} {a5 : Option Addr} {c5 : Nat} (hS : St w s (R)) (hTab : TabX s) (h5 : Sl 1 (RI .i64) s a5 c5 x5) {r : Int} (hr : FareAccept fu x0 x1 x2 x3 x4 x5 = some r) :
  Calls Tryz.prog 15 [.agg (FareKey.cells x0).toArray, .string x1, .int .i64 x2, .int .i64 x3, .int .i64 x4, .slice a5 x5.length c5].toArray w (fun e w => e = .returned (.int .i64 r) ∧ St w s (R)) := by
 refine enter Tryz.func15 rfl rfl rfl fun a hE => ?_
 rw [FareAccept] at hr
 refine W.seq (W.region ?_)
 refine WL.box hE hS (runs_plain rfl) rfl rfl rfl ?_; clear hE hS a w; intro b51 a w hE hS
 refine vP hS hE (Gives.p hE rfl) rfl ?_; clear hE a; intro a hE
 refine WL.nil ?_
 refine W.seq (W.region ?_)
 refine vP hS hE (Gives.loadBA hE 0 rfl rfl ty56) rfl ?_; clear hE a; intro a hE
 refine vP hS hE (Gives.p hE rfl) rfl ?_; clear hE a; intro a hE
 obtain ⟨q52, hq53, hr⟩ := bindS hr
 have hc_ := FareOpen_ok hS (TabG.mono (Sg.Le.refl _) hTab) hq53
 refine WL.fnq hE (hc_) (runs_plain rfl) bd33 rfl rfl rfl ?_
 clear hE hS hc_; rintro e w ⟨cs54, s56, rfl, hle57, h55, hS⟩; refine ⟨_, rfl, ?_⟩; clear a; intro a hE
 replace h5 := Sl.mono RI.mono hle57 h5
 obtain ⟨a58, c59, rfl, h60⟩ := h55
 refine vP hS hE (Gives.p hE rfl) rfl ?_; clear hE a; intro a hE
 refine vP hS hE (Gives.p hE rfl) rfl ?_; clear hE a; intro a hE
 refine vP hS hE (Gives.p hE rfl) rfl ?_; clear hE a; intro a hE
 refine WL.alloc hE hS (runs_plain rfl) zr62 rfl ?_; clear hE hS a w; intro b61 a w hE hS
 refine WL.storeI hE hS 0 rfl [.int .i64 q52.1.No, .int .i64 q52.1.Day, .int .i64 q52.1.Start, .int .i64 q52.1.End, .int .i64 q52.1.Price, .slice a58 q52.1.Zones.length c59] (runs_plain rfl) rfl rfl rfl ty62 rfl rfl rfl rfl ?_; clear hE hS a w; intro a w hE hS
 refine vP hS hE (Gives.p hE rfl) rfl ?_; clear hE a; intro a hE
 refine WL.nil ?_
 refine W.seq ?_
 refine W.block ?_
 refine W.seq (W.region ?_)
 refine vP hS hE (Gives.p hE rfl) rfl ?_; clear hE a; intro a hE
 refine vP hS hE (Gives.p hE rfl) rfl ?_; clear hE a; intro a hE
 refine vP hS hE (Gives.p hE rfl) rfl ?_; clear hE a; intro a hE
 refine WL.nil ?_
 refine W.cond hE rfl (fun hc62 => ?_) (fun hc62 => ?_)
 ·replace hr := iteT hc62 hr
  refine W.seq (W.region ?_)
  refine vP hS hE (Gives.p hE rfl) rfl ?_; clear hE a; intro a hE
  refine vP hS hE (Gives.p hE rfl) rfl ?_; clear hE a; intro a hE
  refine WL.nil ?_
  refine W.ret ?_
  refine finG (fn := Tryz.f15) (rs := [.tmp 12]) (vs := [_]) hE rfl ⟨rfl, trivial⟩ ?_
  obtain rfl := Option.some.inj hr
  replace hS := hS.tail
  replace hS := hS.tail
  exact ⟨rfl, (hS.down hle57)⟩
 ·replace hr := iteF hc62 hr
  refine W.seq ?_
  obtain ⟨q64, hq63, hr⟩ := bndS hr
  refine W.cut (fun a w => ∃ (q67 : Bool), q67 = q64 ∧ Rep a 50 [(4, .int .i64 x4), (5, .slice a5 x5.length c5), (13, .pointer (some ⟨b61, 0, none⟩)), (25, .bool q67)] ∧ St w s56 (pt b61 (.cells #[.int .i64 q52.1.No, .int .i64 q52.1.Day, .int .i64 q52.1.Start, .int .i64 q52.1.End, .int .i64 q52.1.Price, .slice a58 q52.1.Zones.length c59] 62 (0, 0)) :: pt b51 (.cells (FareKey.cells x0).toArray 56 (0, 0)) :: R)) ?_ ?_
  ·refine W.gen fun K68 hK68 => ?_
   refine W.region ?_
   refine vP hS hE (Gives.fld hE rfl fl62_1) rfl ?_; clear hE a; intro a hE
   refine vP hS hE (Gives.loadB hE 0 rfl rfl rfl ty3) rfl ?_; clear hE a; intro a hE
   refine vP hS hE (Gives.p hE rfl) rfl ?_; clear hE a; intro a hE
   refine vP hS hE (Gives.p hE rfl) rfl ?_; clear hE a; intro a hE
   refine vP hS hE (Gives.p hE rfl) rfl ?_; clear hE a; intro a hE
   rcases Bool.eq_false_or_eq_true (q52.1.Day != x2) with hg69 | hg69
   ·replace hq63 := iteT hg69 hq63
    refine WL.no hE (runs_not hE rfl rfl rfl (by rw [hg69]; decide)) rfl ?_; clear hE a; intro a hE
    refine WL.no hE (runs_not hE rfl rfl rfl (by rw [hg69]; decide)) rfl ?_; clear hE a; intro a hE
    refine WL.no hE (runs_not hE rfl rfl rfl (by rw [hg69]; decide)) rfl ?_; clear hE a; intro a hE
    refine WL.no hE (runs_not hE rfl rfl rfl (by rw [hg69]; decide)) rfl ?_; clear hE a; intro a hE
    refine WL.no hE (runs_not hE rfl rfl rfl (by rw [hg69]; decide)) rfl ?_; clear hE a; intro a hE
    refine WL.no hE (runs_not hE rfl rfl rfl (by rw [hg69]; decide)) rfl ?_; clear hE a; intro a hE
    refine WL.no hE (runs_not hE rfl rfl rfl (by rw [hg69]; decide)) rfl ?_; clear hE a; intro a hE
    refine vP hS hE (Gives.pickT hE rfl hg69 rfl) rfl ?_; clear hE a; intro a hE
    refine vP hS hE (Gives.p hE rfl) rfl ?_; clear hE a; intro a hE
    refine WL.nil ?_
    subst hK68
    exact ⟨true, hq63, hE.pick _ ⟨rfl, rfl, rfl, rfl, trivial⟩, hS⟩
   ·replace hq63 := iteF hg69 hq63
    refine WL.vS hS hE (runs_if hE rfl rfl rfl hg69) (Gives.p hE rfl) rfl ?_; clear hE a; intro a hE
    refine WL.vS hS hE (runs_if hE rfl rfl rfl hg69) (Gives.fld hE rfl fl62_2) rfl ?_; clear hE a; intro a hE
    refine WL.vS hS hE (runs_if hE rfl rfl rfl hg69) (Gives.loadB hE 0 rfl rfl rfl ty3) rfl ?_; clear hE a; intro a hE
    refine WL.vS hS hE (runs_if hE rfl rfl rfl hg69) (Gives.fld hE rfl fl62_3) rfl ?_; clear hE a; intro a hE
    refine WL.vS hS hE (runs_if hE rfl rfl rfl hg69) (Gives.loadB hE 0 rfl rfl rfl ty3) rfl ?_; clear hE a; intro a hE
    refine WL.fnq hE (Farewithin_ok hS  rfl (r := Farewithin x3 q52.1.Start q52.1.End)) (runs_if hE rfl rfl rfl hg69) bd26 rfl rfl rfl ?_
    clear hE hS; rintro e w ⟨rfl, hS⟩; refine ⟨_, rfl, ?_⟩; clear a; intro a hE
    refine WL.vS hS hE (runs_if hE rfl rfl rfl hg69) (Gives.p hE rfl) rfl ?_; clear hE a; intro a hE
    refine vP hS hE (Gives.pickF hE rfl hg69 rfl) rfl ?_; clear hE a; intro a hE
    refine vP hS hE (Gives.p hE rfl) rfl ?_; clear hE a; intro a hE
    refine WL.nil ?_
    subst hK68
    exact ⟨!(Farewithin x3 q52.1.Start q52.1.End), hq63, hE.pick _ ⟨rfl, rfl, rfl, rfl, trivial⟩, hS⟩
  ·clear hE hS a w; rintro a w ⟨q67, rfl, hE, hS⟩
   refine W.cond hE rfl (fun hc70 => ?_) (fun hc70 => ?_)
   ·replace hr := iteT hc70 hr
    refine W.seq (W.region ?_)
    refine vP hS hE (Gives.p hE rfl) rfl ?_; clear hE a; intro a hE
    refine WL.nil ?_
    refine W.ret ?_
    refine finG (fn := Tryz.f15) (rs := [.tmp 12]) (vs := [_]) hE rfl ⟨rfl, trivial⟩ ?_
    obtain rfl := Option.some.inj hr
    replace hS := hS.tail
    replace hS := hS.tail
    exact ⟨rfl, (hS.down hle57)⟩
   ·replace hr := iteF hc70 hr
    refine W.seq (W.region ?_)
    refine vP hS hE (Gives.fld hE rfl fl62_5) rfl ?_; clear hE a; intro a hE
    refine vP hS hE (Gives.loadB hE 0 rfl rfl rfl ty37) rfl ?_; clear hE a; intro a hE
    refine vP hS hE (Gives.p hE rfl) rfl ?_; clear hE a; intro a hE
    refine WL.fnq hE (SlicesContainsLint_ok hS h60 rfl (r := SlicesContainsLint q52.1.Zones x4)) (runs_plain rfl) bd16 rfl rfl rfl ?_
    clear hE hS; rintro e w ⟨rfl, hS⟩; refine ⟨_, rfl, ?_⟩; clear a; intro a hE
    refine vP hS hE (Gives.p hE rfl) rfl ?_; clear hE a; intro a hE
    refine vP hS hE (Gives.p hE rfl) rfl ?_; clear hE a; intro a hE
    refine WL.nil ?_
    refine W.cond hE rfl (fun hc71 => ?_) (fun hc71 => ?_)
    ·replace hr := iteT hc71 hr
     refine W.seq (W.region ?_)
     refine vP hS hE (Gives.p hE rfl) rfl ?_; clear hE a; intro a hE
     refine WL.nil ?_
     refine W.ret ?_
     refine finG (fn := Tryz.f15) (rs := [.tmp 12]) (vs := [_]) hE rfl ⟨rfl, trivial⟩ ?_
     obtain rfl := Option.some.inj hr
     replace hS := hS.tail
     replace hS := hS.tail
     exact ⟨rfl, (hS.down hle57)⟩
    ·replace hr := iteF hc71 hr
     refine W.seq (W.region ?_)
     refine vP hS hE (Gives.p hE rfl) rfl ?_; clear hE a; intro a hE
     refine vP hS hE (Gives.fld hE rfl fl62_0) rfl ?_; clear hE a; intro a hE
     refine vP hS hE (Gives.loadB hE 0 rfl rfl rfl ty3) rfl ?_; clear hE a; intro a hE
     refine WL.fnq hE (SlicesContainsLint_ok hS h5 rfl (r := SlicesContainsLint x5 q52.1.No)) (runs_plain rfl) bd16 rfl rfl rfl ?_
     clear hE hS; rintro e w ⟨rfl, hS⟩; refine ⟨_, rfl, ?_⟩; clear a; intro a hE
     refine vP hS hE (Gives.p hE rfl) rfl ?_; clear hE a; intro a hE
     refine WL.nil ?_
     refine W.cond hE rfl (fun hc72 => ?_) (fun hc72 => ?_)
     ·replace hr := iteT hc72 hr
      refine W.seq (W.region ?_)
      refine vP hS hE (Gives.p hE rfl) rfl ?_; clear hE a; intro a hE
      refine WL.nil ?_
      refine W.ret ?_
      refine finG (fn := Tryz.f15) (rs := [.tmp 12]) (vs := [_]) hE rfl ⟨rfl, trivial⟩ ?_
      obtain rfl := Option.some.inj hr
      replace hS := hS.tail
      replace hS := hS.tail
      exact ⟨rfl, (hS.down hle57)⟩
     ·replace hr := iteF hc72 hr
      refine W.skip ?_
      refine W.seq (W.region ?_)
      refine vP hS hE (Gives.p hE rfl) rfl ?_; clear hE a; intro a hE
      refine WL.nil ?_
      refine W.ret ?_
      refine finG (fn := Tryz.f15) (rs := [.tmp 12]) (vs := [_]) hE rfl ⟨rfl, trivial⟩ ?_
      obtain rfl := Option.some.inj hr
      replace hS := hS.tail
      replace hS := hS.tail
      exact ⟨rfl, (hS.down hle57)⟩
set_option maxHeartbeats 8000000 in
theorem FishtopTopTicketed_ok {fu : Nat}  {w : World} {s : Sg} {R : List HP} {x0 : ApiDay} {a0_0 : Option Addr} {c0_0 : Nat} {a0_1 : Option Addr} {c0_1 : Nat} {x1 : GuideJourney} {a1_0 : Option Addr} {c1_0 : Nat} {x2 : FareTariff} {a2_0 : Option Addr} {c2_0 : Nat} {a2_1 : Option Addr} {c2_1 : Nat} {x3 : Int} {x4 : Int} {x5 : Int} {x6 : Int} {x7 : Int} (hS : St w s (R)) (hTab : TabX s) (h0_0 : Sl 4 RApiTrain s a0_0 c0_0 x0.Trains) (h0_1 : Sl 1 (RL 1 (RI .i64)) s a0_1 c0_1 x0.Turns) (h1_0 : Sl 3 RGuideRide s a1_0 c1_0 x1.Rides) (h2_0 : Sl 2 RFareBand s a2_0 c2_0 x2.Bands) (h2_1 : Sl 7 RFareRule s a2_1 c2_1 x2.Rules) {r : Bool} (hr : FishtopTopTicketed fu x0 x1 x2 x3 x4 x5 x6 x7 = some r) :
  Calls Tryz.prog 3 [.agg (List.toArray [.slice a0_0 x0.Trains.length c0_0, .slice a0_1 x0.Turns.length c0_1]), .agg (List.toArray [.slice a1_0 x1.Rides.length c1_0]), .agg (List.toArray [.bool x2.ByKm, .slice a2_0 x2.Bands.length c2_0, .int .i64 x2.Round, .slice a2_1 x2.Rules.length c2_1]), .int .i64 x3, .int .i64 x4, .int .i64 x5, .int .i64 x6, .int .i64 x7].toArray w (fun e w => e = .returned (.bool r) ∧ St w s (R)) := by
 refine enter Tryz.func3 rfl rfl rfl fun a hE => ?_
 rw [FishtopTopTicketed] at hr
 refine W.seq (W.region ?_)
 refine WL.box hE hS (runs_plain rfl) rfl rfl rfl ?_; clear hE hS a w; intro b51 a w hE hS
 refine WL.box hE hS (runs_plain rfl) rfl rfl rfl ?_; clear hE hS a w; intro b52 a w hE hS
 refine WL.box hE hS (runs_plain rfl) rfl rfl rfl ?_; clear hE hS a w; intro b53 a w hE hS
 refine vP hS hE (Gives.p hE rfl) rfl ?_; clear hE a; intro a hE
 refine WL.nil ?_
 refine W.seq ?_
 refine W.seq (W.region ?_)
 obtain ⟨q54, hq55, hr⟩ := bindS hr
 have hc_ := FishtopawakeGuide_ok hS (TabG.mono (Sg.Le.refl _) hTab) hq55
 refine WL.fnq hE (hc_) (runs_plain rfl) bd4 rfl rfl rfl ?_
 clear hE hS hc_; rintro e w ⟨rfl, hS⟩; refine ⟨_, rfl, ?_⟩; clear a; intro a hE
 refine vP hS hE (Gives.p hE rfl) rfl ?_; clear hE a; intro a hE
 refine WL.nil ?_
 refine W.cond hE rfl (fun hc56 => ?_) (fun hc56 => ?_)
 ·replace hr := iteT hc56 hr
  refine W.seq (W.region ?_)
  refine vP hS hE (Gives.p hE rfl) rfl ?_; clear hE a; intro a hE
  refine WL.nil ?_
  refine W.ret ?_
  refine finG (fn := Tryz.f3) (rs := [.tmp 16]) (vs := [_]) hE rfl ⟨rfl, trivial⟩ ?_
  obtain rfl := Option.some.inj hr
  replace hS := hS.tail
  replace hS := hS.tail
  replace hS := hS.tail
  exact ⟨rfl, hS⟩
 ·replace hr := iteF hc56 hr
  refine W.skip ?_
  refine W.seq ?_
  refine W.seq ?_
  obtain ⟨q58, hq57, hr⟩ := bindS hr
  refine W.cut (fun a w => ∃ (q61 : Bool), q61 = q58 ∧ Rep a 267 [(3, .int .i64 x3), (4, .int .i64 x4), (5, .int .i64 x5), (6, .int .i64 x6), (7, .int .i64 x7), (8, .pointer (some ⟨b51, 0, none⟩)), (9, .pointer (some ⟨b52, 0, none⟩)), (10, .pointer (some ⟨b53, 0, none⟩)), (47, .bool q61)] ∧ St w s (pt b53 (.cells #[.bool x2.ByKm, .slice a2_0 x2.Bands.length c2_0, .int .i64 x2.Round, .slice a2_1 x2.Rules.length c2_1] 32 (0, 0)) :: pt b52 (.cells #[.slice a1_0 x1.Rides.length c1_0] 28 (0, 0)) :: pt b51 (.cells #[.slice a0_0 x0.Trains.length c0_0, .slice a0_1 x0.Turns.length c0_1] 25 (0, 0)) :: R)) ?_ ?_
  ·refine W.gen fun K62 hK62 => ?_
   refine W.region ?_
   refine vP hS hE (Gives.loadBA hE 2 rfl rfl ty25) rfl ?_; clear hE a; intro a hE
   obtain ⟨q63, hq64, hq57⟩ := bindS hq57
   have hc_ := Fishref2GuideFault_ok hS h0_0 h0_1 hq64
   refine WL.fnq hE (hc_) (runs_plain rfl) bd5 rfl rfl rfl ?_
   clear hE hS hc_; rintro e w ⟨rfl, hS⟩; refine ⟨_, rfl, ?_⟩; clear a; intro a hE
   refine vP hS hE (Gives.p hE rfl) rfl ?_; clear hE a; intro a hE
   refine vP hS hE (Gives.p hE rfl) rfl ?_; clear hE a; intro a hE
   rcases Bool.eq_false_or_eq_true (q63 != 0) with hg65 | hg65
   ·replace hq57 := iteT hg65 hq57
    refine WL.no hE (runs_not hE rfl rfl rfl (by rw [hg65]; decide)) rfl ?_; clear hE a; intro a hE
    refine WL.no hE (runs_not hE rfl rfl rfl (by rw [hg65]; decide)) rfl ?_; clear hE a; intro a hE
    refine WL.no hE (runs_not hE rfl rfl rfl (by rw [hg65]; decide)) rfl ?_; clear hE a; intro a hE
    refine WL.no hE (runs_not hE rfl rfl rfl (by rw [hg65]; decide)) rfl ?_; clear hE a; intro a hE
    refine vP hS hE (Gives.pickT hE rfl hg65 rfl) rfl ?_; clear hE a; intro a hE
    refine WL.nil ?_
    subst hK62
    exact ⟨true, Option.some.inj hq57, hE.pick _ ⟨rfl, rfl, rfl, rfl, rfl, rfl, rfl, rfl, rfl, trivial⟩, hS⟩
   ·replace hq57 := iteF hg65 hq57
    refine WL.vS hS hE (runs_if hE rfl rfl rfl hg65) (Gives.loadBA hE 2 rfl rfl ty25) rfl ?_; clear hE a; intro a hE
    refine WL.vS hS hE (runs_if hE rfl rfl rfl hg65) (Gives.loadBA hE 1 rfl rfl ty28) rfl ?_; clear hE a; intro a hE
    obtain ⟨q66, hq67, hq57⟩ := bindS hq57
    have hc_ := Fishref2JourneyFault_ok hS h0_0 h0_1 h1_0 hq67
    refine WL.fnq hE (hc_) (runs_if hE rfl rfl rfl hg65) bd6 rfl rfl rfl ?_
    clear hE hS hc_; rintro e w ⟨rfl, hS⟩; refine ⟨_, rfl, ?_⟩; clear a; intro a hE
    refine WL.vS hS hE (runs_if hE rfl rfl rfl hg65) (Gives.p hE rfl) rfl ?_; clear hE a; intro a hE
    refine vP hS hE (Gives.pickF hE rfl hg65 rfl) rfl ?_; clear hE a; intro a hE
    refine WL.nil ?_
    subst hK62
    exact ⟨(q66 != 0), Option.some.inj hq57, hE.pick _ ⟨rfl, rfl, rfl, rfl, rfl, rfl, rfl, rfl, rfl, trivial⟩, hS⟩
  ·clear hE hS a w; rintro a w ⟨q61, rfl, hE, hS⟩
   refine W.cond hE rfl (fun hc68 => ?_) (fun hc68 => ?_)
   ·replace hr := iteT hc68 hr
    refine W.seq (W.region ?_)
    refine vP hS hE (Gives.p hE rfl) rfl ?_; clear hE a; intro a hE
    refine WL.nil ?_
    refine W.ret ?_
    refine finG (fn := Tryz.f3) (rs := [.tmp 16]) (vs := [_]) hE rfl ⟨rfl, trivial⟩ ?_
    obtain rfl := Option.some.inj hr
    replace hS := hS.tail
    replace hS := hS.tail
    replace hS := hS.tail
    exact ⟨rfl, hS⟩
   ·replace hr := iteF hc68 hr
    refine W.skip ?_
    refine W.seq (W.region ?_)
    replace hS := hS.vecNil 3 1
    refine vP hS hE (Gives.p hE rfl) rfl ?_; clear hE a; intro a hE
    refine vP hS hE (Gives.p hE rfl) rfl ?_; clear hE a; intro a hE
    refine WL.nil ?_
    refine W.seq ?_
    refine W.seq (W.region ?_)
    refine vP hS hE (Gives.fld hE rfl fl28_0) rfl ?_; clear hE a; intro a hE
    refine vP hS hE (Gives.loadB hE 2 rfl rfl rfl ty26) rfl ?_; clear hE a; intro a hE
    refine vP hS hE (Gives.len hE rfl sl26) rfl ?_; clear hE a; intro a hE
    refine vP hS hE (Gives.p hE rfl) rfl ?_; clear hE a; intro a hE
    refine WL.nil ?_
    obtain ⟨q71, hq70, hr⟩ := bindS hr
    refine W.cut (fun a w => ∃ (q81 : List Int), ∃ (a82 : Option Addr), ∃ (c83 : Nat), ∃ (n85 : Nat), ∃ (cs86 : List Value), q81 = q71 ∧ Ev 1 (RI .i64) s cs86 q81 ∧ q81.length = n85 ∧ Rep a 267 [(3, .int .i64 x3), (4, .int .i64 x4), (5, .int .i64 x5), (6, .int .i64 x6), (7, .int .i64 x7), (8, .pointer (some ⟨b51, 0, none⟩)), (9, .pointer (some ⟨b52, 0, none⟩)), (10, .pointer (some ⟨b53, 0, none⟩)), (17, .slice a82 n85 c83)] ∧ St w s (vecC 3 1 a82 c83 n85 cs86 :: pt b53 (.cells #[.bool x2.ByKm, .slice a2_0 x2.Bands.length c2_0, .int .i64 x2.Round, .slice a2_1 x2.Rules.length c2_1] 32 (0, 0)) :: pt b52 (.cells #[.slice a1_0 x1.Rides.length c1_0] 28 (0, 0)) :: pt b51 (.cells #[.slice a0_0 x0.Trains.length c0_0, .slice a0_1 x0.Turns.length c0_1] 25 (0, 0)) :: R)) ?_ ?_
    ·refine W.block ?_
     refine W.loop (fun m a w => ∃ (rest74 : List GuideRide) (k72 : Nat), ∃ (q81 : List Int), ∃ (a82 : Option Addr), ∃ (c83 : Nat), ∃ (n85 : Nat), ∃ (cs86 : List Value), rest74.length = m ∧ x1.Rides.drop k72 = rest74 ∧ FishtopTopTicketed.loop1 x0 rest74 q81 = some q71 ∧ Ev 1 (RI .i64) s cs86 q81 ∧ q81.length = n85 ∧ Rep a 267 [(3, .int .i64 x3), (4, .int .i64 x4), (5, .int .i64 x5), (6, .int .i64 x6), (7, .int .i64 x7), (8, .pointer (some ⟨b51, 0, none⟩)), (9, .pointer (some ⟨b52, 0, none⟩)), (10, .pointer (some ⟨b53, 0, none⟩)), (17, .slice a82 n85 c83), (49, .slice a1_0 x1.Rides.length c1_0), (50, .int .i64 ((x1.Rides).length : Int)), (51, .int .i64 ((k72 : Nat) : Int))] ∧ St w s (vecC 3 1 a82 c83 n85 cs86 :: pt b53 (.cells #[.bool x2.ByKm, .slice a2_0 x2.Bands.length c2_0, .int .i64 x2.Round, .slice a2_1 x2.Rules.length c2_1] 32 (0, 0)) :: pt b52 (.cells #[.slice a1_0 x1.Rides.length c1_0] 28 (0, 0)) :: pt b51 (.cells #[.slice a0_0 x0.Trains.length c0_0, .slice a0_1 x0.Turns.length c0_1] 25 (0, 0)) :: R)) (m := x1.Rides.length) ⟨x1.Rides, 0, [], none, 0, 0, [], rfl, rfl, hq70, (Ev.nil), (rfl), hE.pick _ ⟨rfl, rfl, rfl, rfl, rfl, rfl, rfl, rfl, rfl, rfl, rfl, rfl, trivial⟩, hS⟩ ?_
     clear hE hS a w hq70; rintro m78 a w ⟨rest74, k72, q81, a82, c83, n85, cs86, rfl, hd75, hq70, h84, rfl, hE, hS⟩
     refine W.gen fun K88 hK88 => ?_
     rcases rest74 with _ | ⟨x73, rest74⟩
     ·have hlt76 := drop_nil hd75
      refine W.seq (W.region ?_)
      refine vP hS hE (Gives.p hE rfl) rfl ?_; clear hE a; intro a hE
      refine WL.nil ?_
      refine W.seq ?_
      refine W.condF hE rfl (decide_eq_false (by omega)) ?_
      subst hK88
      refine W.exit rfl ?_
      exact ⟨q81, a82, c83, q81.length, cs86, Option.some.inj hq70, h84, rfl, hE.pick _ ⟨rfl, rfl, rfl, rfl, rfl, rfl, rfl, rfl, rfl, trivial⟩, hS⟩
     ·obtain ⟨hlt76, hx77, hd75⟩ := drop_cons hd75
      rw [FishtopTopTicketed.loop1] at hq70
      refine W.seq (W.region ?_)
      refine vP hS hE (Gives.p hE rfl) rfl ?_; clear hE a; intro a hE
      refine WL.nil ?_
      refine W.seq ?_
      refine W.condT hE rfl (decide_eq_true (by omega)) ?_
      refine W.skip ?_
      refine W.seq ?_
      refine W.block ?_
      refine W.seq (W.region ?_)
      obtain ⟨cs89, hl90, hR91, hat92⟩ := h1_0.at hx77
      subst hR91
      refine vP hS hE (Gives.idx hE k72 rfl rfl sl26 rfl hlt76 (h1_0.aok hlt76)) rfl ?_; clear hE a; intro a hE
      refine vP hS hE (Gives.loadA hE rfl (fun w h => hat92 w _ h) ty39) rfl ?_; clear hE a; intro a hE
      refine WL.alloc hE hS (runs_plain rfl) zr39 rfl ?_; clear hE hS a w; intro b93 a w hE hS
      refine WL.storeI hE hS 0 rfl (GuideRide.cells x73) (runs_plain rfl) rfl rfl rfl ty39 rfl rfl rfl rfl ?_; clear hE hS a w; intro a w hE hS
      refine WL.nil ?_
      refine W.seq ?_
      refine W.regionQ (C := fun w => St w s (pt b93 (.cells (GuideRide.cells x73).toArray 39 (0, 0)) :: vecC 3 1 a82 c83 q81.length cs86 :: pt b53 (.cells #[.bool x2.ByKm, .slice a2_0 x2.Bands.length c2_0, .int .i64 x2.Round, .slice a2_1 x2.Rules.length c2_1] 32 (0, 0)) :: pt b52 (.cells #[.slice a1_0 x1.Rides.length c1_0] 28 (0, 0)) :: pt b51 (.cells #[.slice a0_0 x0.Trains.length c0_0, .slice a0_1 x0.Turns.length c0_1] 25 (0, 0)) :: R)) mixed (by kernel_rfl) hS.drew ?_
      refine qP hE (Gives.fld hE rfl fl25_0) rfl ?_; clear hE a; intro a hE
      refine qP hE (Gives.loadB hE 4 rfl rfl rfl ty22) rfl ?_; clear hE a; intro a hE
      refine qP hE (Gives.fld hE rfl fl39_0) rfl ?_; clear hE a; intro a hE
      refine qP hE (Gives.loadB hE 0 rfl rfl rfl ty3) rfl ?_; clear hE a; intro a hE
      obtain ⟨x94, hx95, hq70⟩ := bindS hq70
      obtain ⟨hi96, hlt97, hy98⟩ := gx_some hx95
      obtain ⟨cs99, hl100, hR101, hat102⟩ := h0_0.at hy98
      obtain ⟨a103, c104, a106, c107, rfl, h105, h108⟩ := hR101
      refine qP hE (Gives.idx hE (x73.Train).toNat rfl rfl sl22 hi96 hlt97 (h0_0.aok hlt97)) rfl ?_; clear hE a; intro a hE
      refine qP hE (Gives.fld hE rfl fl42_2) rfl ?_; clear hE a; intro a hE
      refine qP hE (Gives.load1 hE rfl (fun w h => (hat102 w _ h).one rfl) ty40) rfl ?_; clear hE a; intro a hE
      refine qP hE (Gives.fld hE rfl fl39_1) rfl ?_; clear hE a; intro a hE
      refine qP hE (Gives.loadB hE 0 rfl rfl rfl ty3) rfl ?_; clear hE a; intro a hE
      refine qP hE (Gives.fld hE rfl fl39_2) rfl ?_; clear hE a; intro a hE
      refine qP hE (Gives.loadB hE 0 rfl rfl rfl ty3) rfl ?_; clear hE a; intro a hE
      refine qP hE (Gives.p hE rfl) rfl ?_; clear hE a; intro a hE
      obtain ⟨x109, hx110, hq70⟩ := bindS hq70
      obtain ⟨a111, c112, heq113, h114⟩ := h105.cut hx110
      obtain ⟨h115, h116, h117, _⟩ := cutl_some hx110
      refine qP hE (Gives.slLH hE sl40 rfl rfl rfl h115 h116 (Int.le_trans h117 (by have := h105.len; omega)) heq113) rfl ?_; clear hE a; intro a hE
      refine qP hE (Gives.len hE rfl sl40) rfl ?_; clear hE a; intro a hE
      refine qP hE (Gives.p hE rfl) rfl ?_; clear hE a; intro a hE
      refine QL.nil ?_; clear hS w; intro w hS
      obtain ⟨q119, hq118, hq70⟩ := bindS hq70
      refine W.cut (fun a w => ∃ (q129 : List Int), ∃ (a130 : Option Addr), ∃ (c131 : Nat), ∃ (n133 : Nat), ∃ (cs134 : List Value), q129 = q119 ∧ Ev 1 (RI .i64) s cs134 q129 ∧ q129.length = n133 ∧ Rep a 267 [(3, .int .i64 x3), (4, .int .i64 x4), (5, .int .i64 x5), (6, .int .i64 x6), (7, .int .i64 x7), (8, .pointer (some ⟨b51, 0, none⟩)), (9, .pointer (some ⟨b52, 0, none⟩)), (10, .pointer (some ⟨b53, 0, none⟩)), (17, .slice a130 n133 c131), (49, .slice a1_0 x1.Rides.length c1_0), (50, .int .i64 ((x1.Rides).length : Int)), (51, .int .i64 ((k72 : Nat) : Int))] ∧ St w s (pt b93 (.cells (GuideRide.cells x73).toArray 39 (0, 0)) :: vecC 3 1 a130 c131 n133 cs134 :: pt b53 (.cells #[.bool x2.ByKm, .slice a2_0 x2.Bands.length c2_0, .int .i64 x2.Round, .slice a2_1 x2.Rules.length c2_1] 32 (0, 0)) :: pt b52 (.cells #[.slice a1_0 x1.Rides.length c1_0] 28 (0, 0)) :: pt b51 (.cells #[.slice a0_0 x0.Trains.length c0_0, .slice a0_1 x0.Turns.length c0_1] 25 (0, 0)) :: R)) ?_ ?_
      ·refine W.block ?_
       refine W.loop (fun m a w => ∃ (rest122 : List ApiStop) (k120 : Nat), ∃ (q129 : List Int), ∃ (a130 : Option Addr), ∃ (c131 : Nat), ∃ (n133 : Nat), ∃ (cs134 : List Value), rest122.length = m ∧ x109.drop k120 = rest122 ∧ FishtopTopTicketed.loop2 rest122 q129 = some q119 ∧ Ev 1 (RI .i64) s cs134 q129 ∧ q129.length = n133 ∧ Rep a 267 [(3, .int .i64 x3), (4, .int .i64 x4), (5, .int .i64 x5), (6, .int .i64 x6), (7, .int .i64 x7), (8, .pointer (some ⟨b51, 0, none⟩)), (9, .pointer (some ⟨b52, 0, none⟩)), (10, .pointer (some ⟨b53, 0, none⟩)), (17, .slice a130 n133 c131), (49, .slice a1_0 x1.Rides.length c1_0), (50, .int .i64 ((x1.Rides).length : Int)), (51, .int .i64 ((k72 : Nat) : Int)), (67, .slice a111 x109.length c112), (68, .int .i64 ((x109).length : Int)), (69, .int .i64 ((k120 : Nat) : Int))] ∧ St w s (pt b93 (.cells (GuideRide.cells x73).toArray 39 (0, 0)) :: vecC 3 1 a130 c131 n133 cs134 :: pt b53 (.cells #[.bool x2.ByKm, .slice a2_0 x2.Bands.length c2_0, .int .i64 x2.Round, .slice a2_1 x2.Rules.length c2_1] 32 (0, 0)) :: pt b52 (.cells #[.slice a1_0 x1.Rides.length c1_0] 28 (0, 0)) :: pt b51 (.cells #[.slice a0_0 x0.Trains.length c0_0, .slice a0_1 x0.Turns.length c0_1] 25 (0, 0)) :: R)) (m := x109.length) ⟨x109, 0, q81, a82, c83, q81.length, cs86, rfl, rfl, hq118, h84, rfl, hE.pick _ ⟨rfl, rfl, rfl, rfl, rfl, rfl, rfl, rfl, rfl, rfl, rfl, rfl, rfl, rfl, rfl, trivial⟩, hS⟩ ?_
       clear hE hS a w hq118; rintro m126 a w ⟨rest122, k120, q129, a130, c131, n133, cs134, rfl, hd123, hq118, h132, rfl, hE, hS⟩
       refine W.gen fun K136 hK136 => ?_
       rcases rest122 with _ | ⟨x121, rest122⟩
       ·have hlt124 := drop_nil hd123
        refine W.seq (W.region ?_)
        refine vP hS hE (Gives.p hE rfl) rfl ?_; clear hE a; intro a hE
        refine WL.nil ?_
        refine W.seq ?_
        refine W.condF hE rfl (decide_eq_false (by omega)) ?_
        subst hK136
        refine W.exit rfl ?_
        exact ⟨q129, a130, c131, q129.length, cs134, Option.some.inj hq118, h132, rfl, hE.pick _ ⟨rfl, rfl, rfl, rfl, rfl, rfl, rfl, rfl, rfl, rfl, rfl, rfl, trivial⟩, hS⟩
       ·obtain ⟨hlt124, hx125, hd123⟩ := drop_cons hd123
        rw [FishtopTopTicketed.loop2] at hq118
        refine W.seq (W.region ?_)
        refine vP hS hE (Gives.p hE rfl) rfl ?_; clear hE a; intro a hE
        refine WL.nil ?_
        refine W.seq ?_
        refine W.condT hE rfl (decide_eq_true (by omega)) ?_
        refine W.skip ?_
        refine W.seq ?_
        refine W.block ?_
        refine W.seq (W.region ?_)
        obtain ⟨cs137, hl138, hR139, hat140⟩ := h114.at hx125
        subst hR139
        refine vP hS hE (Gives.idx hE k120 rfl rfl sl40 rfl hlt124 (h114.aok hlt124)) rfl ?_; clear hE a; intro a hE
        refine vP hS hE (Gives.loadA hE rfl (fun w h => hat140 w _ h) ty44) rfl ?_; clear hE a; intro a hE
        refine WL.alloc hE hS (runs_plain rfl) zr44 rfl ?_; clear hE hS a w; intro b141 a w hE hS
        refine WL.storeI hE hS 0 rfl (ApiStop.cells x121) (runs_plain rfl) rfl rfl rfl ty44 rfl rfl rfl rfl ?_; clear hE hS a w; intro a w hE hS
        refine WL.nil ?_
        refine W.seq ?_
        obtain ⟨q143, hq142, hq118⟩ := bindS hq118
        refine W.cut (fun a w => ∃ (q146 : Bool), q146 = q143 ∧ Rep a 267 [(3, .int .i64 x3), (4, .int .i64 x4), (5, .int .i64 x5), (6, .int .i64 x6), (7, .int .i64 x7), (8, .pointer (some ⟨b51, 0, none⟩)), (9, .pointer (some ⟨b52, 0, none⟩)), (10, .pointer (some ⟨b53, 0, none⟩)), (17, .slice a130 q129.length c131), (22, .pointer (some ⟨b141, 0, none⟩)), (49, .slice a1_0 x1.Rides.length c1_0), (50, .int .i64 ((x1.Rides).length : Int)), (51, .int .i64 ((k72 : Nat) : Int)), (67, .slice a111 x109.length c112), (68, .int .i64 ((x109).length : Int)), (69, .int .i64 ((k120 : Nat) : Int)), (86, .bool q146)] ∧ St w s (pt b141 (.cells (ApiStop.cells x121).toArray 44 (0, 0)) :: pt b93 (.cells (GuideRide.cells x73).toArray 39 (0, 0)) :: vecC 3 1 a130 c131 q129.length cs134 :: pt b53 (.cells #[.bool x2.ByKm, .slice a2_0 x2.Bands.length c2_0, .int .i64 x2.Round, .slice a2_1 x2.Rules.length c2_1] 32 (0, 0)) :: pt b52 (.cells #[.slice a1_0 x1.Rides.length c1_0] 28 (0, 0)) :: pt b51 (.cells #[.slice a0_0 x0.Trains.length c0_0, .slice a0_1 x0.Turns.length c0_1] 25 (0, 0)) :: R)) ?_ ?_
        ·refine W.gen fun K147 hK147 => ?_
         refine W.regionQ (C := fun w => St w s (pt b141 (.cells (ApiStop.cells x121).toArray 44 (0, 0)) :: pt b93 (.cells (GuideRide.cells x73).toArray 39 (0, 0)) :: vecC 3 1 a130 c131 q129.length cs134 :: pt b53 (.cells #[.bool x2.ByKm, .slice a2_0 x2.Bands.length c2_0, .int .i64 x2.Round, .slice a2_1 x2.Rules.length c2_1] 32 (0, 0)) :: pt b52 (.cells #[.slice a1_0 x1.Rides.length c1_0] 28 (0, 0)) :: pt b51 (.cells #[.slice a0_0 x0.Trains.length c0_0, .slice a0_1 x0.Turns.length c0_1] 25 (0, 0)) :: R)) mixed (by kernel_rfl) hS.drew ?_
         refine qP hE (Gives.p hE rfl) rfl ?_; clear hE a; intro a hE
         refine qP hE (Gives.len hE rfl sl37) rfl ?_; clear hE a; intro a hE
         refine qP hE (Gives.p hE rfl) rfl ?_; clear hE a; intro a hE
         refine qP hE (Gives.p hE rfl) rfl ?_; clear hE a; intro a hE
         rcases Bool.eq_false_or_eq_true (((q129.length : Nat) : Int) == 0) with hg148 | hg148
         ·replace hq142 := iteT hg148 hq142
          refine QL.no hE (runs_not hE rfl rfl rfl (by rw [hg148]; decide)) rfl ?_; clear hE a; intro a hE
          refine QL.no hE (runs_not hE rfl rfl rfl (by rw [hg148]; decide)) rfl ?_; clear hE a; intro a hE
          refine QL.no hE (runs_not hE rfl rfl rfl (by rw [hg148]; decide)) rfl ?_; clear hE a; intro a hE
          refine QL.no hE (runs_not hE rfl rfl rfl (by rw [hg148]; decide)) rfl ?_; clear hE a; intro a hE
          refine QL.no hE (runs_not hE rfl rfl rfl (by rw [hg148]; decide)) rfl ?_; clear hE a; intro a hE
          refine QL.no hE (runs_not hE rfl rfl rfl (by rw [hg148]; decide)) rfl ?_; clear hE a; intro a hE
          refine QL.no hE (runs_not hE rfl rfl rfl (by rw [hg148]; decide)) rfl ?_; clear hE a; intro a hE
          refine QL.no hE (runs_not hE rfl rfl rfl (by rw [hg148]; decide)) rfl ?_; clear hE a; intro a hE
          refine QL.no hE (runs_not hE rfl rfl rfl (by rw [hg148]; decide)) rfl ?_; clear hE a; intro a hE
          refine qP hE (Gives.pickT hE rfl hg148 rfl) rfl ?_; clear hE a; intro a hE
          refine QL.nil ?_; clear hS w; intro w hS
          subst hK147
          exact ⟨true, Option.some.inj hq142, hE.pick _ ⟨rfl, rfl, rfl, rfl, rfl, rfl, rfl, rfl, rfl, rfl, rfl, rfl, rfl, rfl, rfl, rfl, rfl, trivial⟩, hS⟩
         ·replace hq142 := iteF hg148 hq142
          refine QL.v hE (runs_if hE rfl rfl rfl hg148) (Gives.p hE rfl) rfl ?_; clear hE a; intro a hE
          refine QL.v hE (runs_if hE rfl rfl rfl hg148) (Gives.p hE rfl) rfl ?_; clear hE a; intro a hE
          refine QL.v hE (runs_if hE rfl rfl rfl hg148) (Gives.len hE rfl sl37) rfl ?_; clear hE a; intro a hE
          refine QL.v hE (runs_if hE rfl rfl rfl hg148) (Gives.p hE rfl) rfl ?_; clear hE a; intro a hE
          obtain ⟨x149, hx150, hq142⟩ := bindS hq142
          obtain ⟨hi151, hlt152, hy153⟩ := gx_some hx150
          obtain ⟨vs154, hl155, hR156, hd157, hget158⟩ := h132.at hy153
          subst hR156
          refine QL.v hE (runs_if hE rfl rfl rfl hg148) (Gives.idx hE ((w64 (((q129.length : Nat) : Int) - 1)).toNat) rfl rfl sl37 hi151 (by omega) (hS.vecAok 2 rfl (by omega : (w64 (((q129.length : Nat) : Int) - 1)).toNat < q129.length))) rfl ?_; clear hE a; intro a hE
          refine QL.v hE (runs_if hE rfl rfl rfl hg148) (Gives.load1 hE rfl (fun w h => St.vecSees h 2 rfl ((w64 (((q129.length : Nat) : Int) - 1)).toNat * 1) _ hget158) ty3) rfl ?_; clear hE a; intro a hE
          refine QL.v hE (runs_if hE rfl rfl rfl hg148) (Gives.fld hE rfl fl44_0) rfl ?_; clear hE a; intro a hE
          refine QL.v hE (runs_if hE rfl rfl rfl hg148) (Gives.loadB hE 0 rfl rfl rfl ty3) rfl ?_; clear hE a; intro a hE
          refine QL.v hE (runs_if hE rfl rfl rfl hg148) (Gives.p hE rfl) rfl ?_; clear hE a; intro a hE
          refine qP hE (Gives.pickF hE rfl hg148 rfl) rfl ?_; clear hE a; intro a hE
          refine QL.nil ?_; clear hS w; intro w hS
          subst hK147
          exact ⟨(x149 != x121.Station), Option.some.inj hq142, hE.pick _ ⟨rfl, rfl, rfl, rfl, rfl, rfl, rfl, rfl, rfl, rfl, rfl, rfl, rfl, rfl, rfl, rfl, rfl, trivial⟩, hS⟩
        ·clear hE hS a w; rintro a w ⟨q146, rfl, hE, hS⟩
         obtain ⟨q160, hq159, hq118⟩ := bindS hq118
         refine W.cut (fun a w => ∃ (q163 : List Int), ∃ (a164 : Option Addr), ∃ (c165 : Nat), ∃ (n167 : Nat), ∃ (cs168 : List Value), q163 = q160 ∧ Ev 1 (RI .i64) s cs168 q163 ∧ q163.length = n167 ∧ Rep a 267 [(3, .int .i64 x3), (4, .int .i64 x4), (5, .int .i64 x5), (6, .int .i64 x6), (7, .int .i64 x7), (8, .pointer (some ⟨b51, 0, none⟩)), (9, .pointer (some ⟨b52, 0, none⟩)), (10, .pointer (some ⟨b53, 0, none⟩)), (17, .slice a164 n167 c165), (49, .slice a1_0 x1.Rides.length c1_0), (50, .int .i64 ((x1.Rides).length : Int)), (51, .int .i64 ((k72 : Nat) : Int)), (67, .slice a111 x109.length c112), (68, .int .i64 ((x109).length : Int)), (69, .int .i64 ((k120 : Nat) : Int))] ∧ St w s (pt b141 (.cells (ApiStop.cells x121).toArray 44 (0, 0)) :: pt b93 (.cells (GuideRide.cells x73).toArray 39 (0, 0)) :: vecC 3 1 a164 c165 n167 cs168 :: pt b53 (.cells #[.bool x2.ByKm, .slice a2_0 x2.Bands.length c2_0, .int .i64 x2.Round, .slice a2_1 x2.Rules.length c2_1] 32 (0, 0)) :: pt b52 (.cells #[.slice a1_0 x1.Rides.length c1_0] 28 (0, 0)) :: pt b51 (.cells #[.slice a0_0 x0.Trains.length c0_0, .slice a0_1 x0.Turns.length c0_1] 25 (0, 0)) :: R)) ?_ ?_
         ·refine W.gen fun K170 hK170 => ?_
          refine W.cond hE rfl (fun hc171 => ?_) (fun hc171 => ?_)
          ·replace hq159 := iteT hc171 hq159
           refine W.region ?_
           refine vP hS hE (Gives.p hE rfl) rfl ?_; clear hE a; intro a hE
           refine vP hS hE (Gives.fld hE rfl fl44_0) rfl ?_; clear hE a; intro a hE
           refine vP hS hE (Gives.loadB hE 0 rfl rfl rfl ty3) rfl ?_; clear hE a; intro a hE
           refine WL.lit hE hS (e := 3) (es := 1) (vs := [(0, .int .i64 x121.Station)]) (cs := [.int .i64 x121.Station]) (runs_plain rfl) rfl (by kernel_rfl) rfl ?_; clear hE hS a w; intro b172 a w hE hS
           obtain ⟨x173, hx174, hq159⟩ := bindS hq159
           refine WL.appD hE hS 2 (m := 1) (runs_plain rfl) rfl rfl rfl ap37 rfl h132 rfl (xs := [x121.Station]) (Ev.cons (c1 := [.int .i64 x121.Station]) rfl rfl (Ev.nil)) rfl rfl hx174 rfl ?_; clear hE hS a w; intro a175 c176 cs177 a w h178 hE hS
           refine vP hS hE (Gives.p hE rfl) rfl ?_; clear hE a; intro a hE
           refine WL.nil ?_
           subst hK170
           exact ⟨x173, a175, c176, x173.length, cs177, Option.some.inj hq159, h178, (rfl), hE.pick _ ⟨rfl, rfl, rfl, rfl, rfl, rfl, rfl, rfl, rfl, rfl, rfl, rfl, rfl, rfl, rfl, trivial⟩, hS⟩
          ·replace hq159 := iteF hc171 hq159
           refine W.skip ?_
           subst hK170
           exact ⟨q129, a130, c131, q129.length, cs134, Option.some.inj hq159, h132, rfl, hE.pick _ ⟨rfl, rfl, rfl, rfl, rfl, rfl, rfl, rfl, rfl, rfl, rfl, rfl, rfl, rfl, rfl, trivial⟩, hS⟩
         ·clear hE hS a w; rintro a w ⟨q163, a164, c165, n167, cs168, rfl, h166, rfl, hE, hS⟩
          refine W.region ?_
          refine vP hS hE (Gives.inc hE rfl (by have := h114.small; omega)) rfl ?_; clear hE a; intro a hE
          refine vP hS hE (Gives.p hE rfl) rfl ?_; clear hE a; intro a hE
          refine WL.nil ?_
          replace hS := hS.tail
          subst hK136
          exact ⟨rest122.length, Nat.lt_succ_self _, rest122, k120 + 1, q163, a164, c165, q163.length, cs168, rfl, hd123, hq118, h166, rfl, hE.pick _ ⟨rfl, rfl, rfl, rfl, rfl, rfl, rfl, rfl, rfl, rfl, rfl, rfl, rfl, rfl, rfl, trivial⟩, hS⟩
      ·clear hE hS a w; rintro a w ⟨q129, a130, c131, n133, cs134, rfl, h132, rfl, hE, hS⟩
       refine W.region ?_
       refine vP hS hE (Gives.inc hE rfl (by have := h1_0.small; omega)) rfl ?_; clear hE a; intro a hE
       refine vP hS hE (Gives.p hE rfl) rfl ?_; clear hE a; intro a hE
       refine WL.nil ?_
       replace hS := hS.tail
       subst hK88
       exact ⟨rest74.length, Nat.lt_succ_self _, rest74, k72 + 1, q129, a130, c131, q129.length, cs134, rfl, hd75, hq70, h132, rfl, hE.pick _ ⟨rfl, rfl, rfl, rfl, rfl, rfl, rfl, rfl, rfl, rfl, rfl, rfl, trivial⟩, hS⟩
    ·clear hE hS a w; rintro a w ⟨q81, a82, c83, n85, cs86, rfl, h84, rfl, hE, hS⟩
     refine W.seq (W.region ?_)
     refine vP hS hE (Gives.p hE rfl) rfl ?_; clear hE a; intro a hE
     have hF := hS.fixD RI.mono 0 rfl h84 rfl; clear hS; obtain ⟨s179, hle180, hS, h181⟩ := hF
     replace h2_0 := Sl.mono RFareBand.mono hle180 h2_0
     replace h2_1 := Sl.mono RFareRule.mono hle180 h2_1
     replace h1_0 := Sl.mono RGuideRide.mono hle180 h1_0
     replace h0_0 := Sl.mono RApiTrain.mono hle180 h0_0
     replace h0_1 := Sl.mono (RL.mono RI.mono) hle180 h0_1
     refine WL.fnq hE (itVals_ok hS) (runs_plain rfl) bd9 rfl rfl rfl ?_
     clear hE hS; rintro e w ⟨b182, rfl, hS⟩; refine ⟨_, rfl, ?_⟩; clear a; intro a hE
     obtain ⟨q183, hq184, hr⟩ := bindS hr
     have hc_ := SlicesSortedint_v1_ok hS h181 hq184
     refine WL.fnq hE (hc_) (runs_plain rfl) bd8 rfl rfl rfl ?_
     clear hE hS hc_; rintro e w ⟨a185, c186, n187, cs188, rfl, h189, rfl, hS⟩; refine ⟨_, rfl, ?_⟩; clear a; intro a hE
     refine WL.fnq hE (itCompact_ok hS h189 rfl) (runs_plain rfl) bd7 rfl rfl rfl ?_
     clear hE hS; rintro e w ⟨_, cs192, rfl, h193, rfl, hS⟩; refine ⟨_, rfl, ?_⟩; clear a; intro a hE
     obtain ⟨q194, hq195, hr⟩ := bndS hr
     rw [hq195] at h193 hS hE
     refine vP hS hE (Gives.p hE rfl) rfl ?_; clear hE a; intro a hE
     refine WL.nil ?_
     refine W.seq ?_
     refine W.seq (W.region ?_)
     refine vP hS hE (Gives.p hE rfl) rfl ?_; clear hE a; intro a hE
     refine vP hS hE (Gives.len hE rfl sl37) rfl ?_; clear hE a; intro a hE
     refine vP hS hE (Gives.p hE rfl) rfl ?_; clear hE a; intro a hE
     refine WL.nil ?_
     refine W.cond hE rfl (fun hc198 => ?_) (fun hc198 => ?_)
     ·replace hr := iteT hc198 hr
      refine W.seq (W.region ?_)
      refine vP hS hE (Gives.p hE rfl) rfl ?_; clear hE a; intro a hE
      refine WL.nil ?_
      refine W.ret ?_
      refine finG (fn := Tryz.f3) (rs := [.tmp 16]) (vs := [_]) hE rfl ⟨rfl, trivial⟩ ?_
      obtain rfl := Option.some.inj hr
      replace hS := hS.tail
      replace hS := hS.tail
      replace hS := hS.tail
      replace hS := hS.tail
      replace hS := hS.tail
      exact ⟨rfl, (hS.down hle180)⟩
     ·replace hr := iteF hc198 hr
      refine W.skip ?_
      refine W.seq ?_
      refine W.gen fun K199 hK199 => ?_
      refine W.regionE (sel (fun w => St w s179 (vecC 3 1 a185 c186 q194.length cs192 :: pt b182 (.cells #[.slice a82 q81.length c83] 37 (0, 0)) :: pt b53 (.cells #[.bool x2.ByKm, .slice a2_0 x2.Bands.length c2_0, .int .i64 x2.Round, .slice a2_1 x2.Rules.length c2_1] 32 (0, 0)) :: pt b52 (.cells #[.slice a1_0 x1.Rides.length c1_0] 28 (0, 0)) :: pt b51 (.cells #[.slice a0_0 x0.Trains.length c0_0, .slice a0_1 x0.Turns.length c0_1] 25 (0, 0)) :: R)) (fun w => St w s179 (vecC 3 1 a185 c186 q194.length cs192 :: pt b182 (.cells #[.slice a82 q81.length c83] 37 (0, 0)) :: pt b53 (.cells #[.bool x2.ByKm, .slice a2_0 x2.Bands.length c2_0, .int .i64 x2.Round, .slice a2_1 x2.Rules.length c2_1] 32 (0, 0)) :: pt b52 (.cells #[.slice a1_0 x1.Rides.length c1_0] 28 (0, 0)) :: pt b51 (.cells #[.slice a0_0 x0.Trains.length c0_0, .slice a0_1 x0.Turns.length c0_1] 25 (0, 0)) :: R))) (fun b i => cond b ([0, 1, 2, 3, 4, 5, 6, 7, 8, 9, 10, 11, 12, 13, 14, 15, 16].contains i) ([0, 1, 2, 3, 4, 5, 6, 7, 8, 9, 10, 11, 12, 13, 14, 15, 16].contains i)) mixed ?_
      replace hS := hS.drew
      have hT := tw_sel (A := fun w => St w s179 _) (B := fun w => St w s179 _) (w := _) (x := true) (y := true) (fun _ => hS) (fun _ => hS)
      have hF := hS; replace hS := hS
      refine Rg.take (i := 0) true rfl hE rfl (by kernel_rfl) (runs_plain rfl) (Gives.loadBA hE 2 rfl rfl ty32) rfl hT ?_; clear hE a; intro a hE
      replace hS := hF; clear hF hT
      have hT := tw_sel (A := fun w => St w s179 _) (B := fun w => St w s179 _) (w := _) (x := true) (y := true) (fun _ => hS) (fun _ => hS)
      have hF := hS; replace hS := hS
      refine Rg.take (i := 1) true rfl hE rfl (by kernel_rfl) (runs_plain rfl) (Gives.loadBA hE 4 rfl rfl ty25) rfl hT ?_; clear hE a; intro a hE
      replace hS := hF; clear hF hT
      have hT := tw_sel (A := fun w => St w s179 _) (B := fun w => St w s179 _) (w := _) (x := true) (y := true) (fun _ => hS) (fun _ => hS)
      have hF := hS; replace hS := hS
      refine Rg.take (i := 2) true rfl hE rfl (by kernel_rfl) (runs_plain rfl) (Gives.loadBA hE 3 rfl rfl ty28) rfl hT ?_; clear hE a; intro a hE
      replace hS := hF; clear hF hT
      refine Rg.takeP (i := 4) hE rfl (by kernel_rfl) (runs_plain rfl) (Gives.p hE rfl) rfl (tw_sel (fun _ => hS) (fun _ => hS)) ?_; clear hE a; intro a hE
      refine Rg.takeP (i := 5) hE rfl (by kernel_rfl) (runs_plain rfl) (Gives.len hE rfl sl37) rfl (tw_sel (fun _ => hS) (fun _ => hS)) ?_; clear hE a; intro a hE
      refine Rg.takeP (i := 6) hE rfl (by kernel_rfl) (runs_plain rfl) (Gives.p hE rfl) rfl (tw_sel (fun _ => hS) (fun _ => hS)) ?_; clear hE a; intro a hE
      refine Rg.takeP (i := 7) hE rfl (by kernel_rfl) (runs_plain rfl) (Gives.p hE rfl) rfl (tw_sel (fun _ => hS) (fun _ => hS)) ?_; clear hE a; intro a hE
      refine Rg.one (i := 3) true true rfl (by kernel_rfl) (by kernel_rfl) (by kernel_rfl) ?_
      obtain ⟨q200, hq201, hr⟩ := bindS hr
      have hc_ := Fishref2Leaves_ok hS h0_0 h0_1 h1_0 hq201
      refine WL.fnq hE (hc_) (runs_plain rfl) bd11 rfl rfl rfl ?_
      clear hE hS hc_; rintro e w ⟨rfl, hS⟩; refine ⟨_, rfl, ?_⟩; clear a; intro a hE
      refine WL.nil ?_
      refine ⟨⟨fun _ => hS, fun _ => hS⟩, ?_⟩
      refine Rg.takeP (i := 8) hE rfl (by kernel_rfl) (runs_plain rfl) (Gives.build hE (vs := [(1, .int .i64 q200), (2, .int .i64 ((q81).length : Int)), (3, .int .i64 x7), (5, .slice a82 q81.length c83)]) [.int .i64 0, .int .i64 q200, .int .i64 ((q81).length : Int), .int .i64 x7, .bool false, .slice a82 q81.length c83] rfl (by kernel_rfl)) rfl (tw_sel (fun _ => hS) (fun _ => hS)) ?_; clear hE a; intro a hE
      refine Rg.one (i := 9) true true rfl (by kernel_rfl) (by kernel_rfl) (by kernel_rfl) ?_
      obtain ⟨q202, hq203, hr⟩ := bindS hr
      have hc_ := FarePrice_ok (x1 := (FareTrip.mk 0 q200 ((q81).length : Int) x7 false q81)) hS h2_0 h2_1 h181 hq203
      refine WL.fnq hE (hc_) (runs_plain rfl) bd10 rfl rfl rfl ?_
      clear hE hS hc_; rintro e w ⟨a204, c205, n206, cs207, rfl, h208, rfl, hS⟩; refine ⟨_, rfl, ?_⟩; clear a; intro a hE
      refine WL.nil ?_
      refine ⟨⟨fun _ => (hS.tail), fun _ => (hS.tail)⟩, ?_⟩
      refine Rg.takeP (i := 10) hE rfl (by kernel_rfl) (runs_plain rfl) (Gives.p hE rfl) rfl (tw_sel (fun _ => (hS.tail)) (fun _ => (hS.tail))) ?_; clear hE a; intro a hE
      refine Rg.takeP (i := 11) hE rfl (by kernel_rfl) (runs_plain rfl) (Gives.p hE rfl) rfl (tw_sel (fun _ => (hS.tail)) (fun _ => (hS.tail))) ?_; clear hE a; intro a hE
      refine Rg.takeP (i := 12) hE rfl (by kernel_rfl) (runs_plain rfl) (Gives.p hE rfl) rfl (tw_sel (fun _ => (hS.tail)) (fun _ => (hS.tail))) ?_; clear hE a; intro a hE
      refine Rg.takeP (i := 13) hE rfl (by kernel_rfl) (runs_plain rfl) (Gives.p hE rfl) rfl (tw_sel (fun _ => (hS.tail)) (fun _ => (hS.tail))) ?_; clear hE a; intro a hE
      refine Rg.takeP (i := 14) hE rfl (by kernel_rfl) (runs_plain rfl) (Gives.p hE rfl) rfl (tw_sel (fun _ => (hS.tail)) (fun _ => (hS.tail))) ?_; clear hE a; intro a hE
      refine Rg.takeP (i := 15) hE rfl (by kernel_rfl) (runs_plain rfl) (Gives.p hE rfl) rfl (tw_sel (fun _ => (hS.tail)) (fun _ => (hS.tail))) ?_; clear hE a; intro a hE
      refine Rg.takeP (i := 16) hE rfl (by kernel_rfl) (runs_plain rfl) (Gives.p hE rfl) rfl (tw_sel (fun _ => (hS.tail)) (fun _ => (hS.tail))) ?_; clear hE a; intro a hE
      refine Rg.done (by kernel_rfl) ?_
      subst hK199
      refine W.seq ?_
      refine W.seq (W.region ?_)
      refine vP hS hE (Gives.p hE rfl) rfl ?_; clear hE a; intro a hE
      refine vP hS hE (Gives.p hE rfl) rfl ?_; clear hE a; intro a hE
      refine WL.nil ?_
      refine W.cond hE rfl (fun hc210 => ?_) (fun hc210 => ?_)
      ·replace hr := iteT hc210 hr
       refine W.seq (W.region ?_)
       refine vP hS hE (Gives.p hE rfl) rfl ?_; clear hE a; intro a hE
       refine vP hS hE (Gives.p hE rfl) rfl ?_; clear hE a; intro a hE
       refine vP hS hE (Gives.p hE rfl) rfl ?_; clear hE a; intro a hE
       refine WL.nil ?_
       refine W.ret ?_
       refine finG (fn := Tryz.f3) (rs := [.tmp 16]) (vs := [_]) hE rfl ⟨rfl, trivial⟩ ?_
       obtain rfl := Option.some.inj hr
       replace hS := hS.tail
       replace hS := hS.tail
       replace hS := hS.tail
       replace hS := hS.tail
       replace hS := hS.tail
       replace hS := hS.tail
       exact ⟨rfl, (hS.down hle180)⟩
      ·replace hr := iteF hc210 hr
       refine W.skip ?_
       refine W.seq (W.region ?_)
       refine vP hS hE (Gives.p hE rfl) rfl ?_; clear hE a; intro a hE
       refine vP hS hE (Gives.p hE rfl) rfl ?_; clear hE a; intro a hE
       refine vP hS hE (Gives.p hE rfl) rfl ?_; clear hE a; intro a hE
       obtain ⟨q211, hq212, hr⟩ := bindS hr
       have hc_ := FareMakeKey_ok hS  hq212
       refine WL.fnq hE (hc_) (runs_plain rfl) bd12 rfl rfl rfl ?_
       clear hE hS hc_; rintro e w ⟨cs213, s215, rfl, hle216, h214, hS⟩; refine ⟨_, rfl, ?_⟩; clear a; intro a hE
       replace h181 := Sl.mono RI.mono hle216 h181
       replace h2_0 := Sl.mono RFareBand.mono hle216 h2_0
       replace h2_1 := Sl.mono RFareRule.mono hle216 h2_1
       replace h0_0 := Sl.mono RApiTrain.mono hle216 h0_0
       replace h0_1 := Sl.mono (RL.mono RI.mono) hle216 h0_1
       replace h1_0 := Sl.mono RGuideRide.mono hle216 h1_0
       replace h208 := Ev.mono RI.mono hle216 h208
       replace h193 := Ev.mono RI.mono hle216 h193
       subst h214
       refine vP hS hE (Gives.p hE rfl) rfl ?_; clear hE a; intro a hE
       refine vP hS hE (Gives.p hE rfl) rfl ?_; clear hE a; intro a hE
       refine vP hS hE (Gives.p hE rfl) rfl ?_; clear hE a; intro a hE
       refine WL.alloc hE hS (runs_plain rfl) zr56 rfl ?_; clear hE hS a w; intro b217 a w hE hS
       refine WL.storeI hE hS 0 rfl (FareKey.cells q211.1) (runs_plain rfl) rfl rfl rfl ty56 rfl rfl rfl rfl ?_; clear hE hS a w; intro a w hE hS
       refine vP hS hE (Gives.p hE rfl) rfl ?_; clear hE a; intro a hE
       refine WL.nil ?_
       refine W.seq ?_
       refine W.seq (W.region ?_)
       refine vP hS hE (Gives.p hE rfl) rfl ?_; clear hE a; intro a hE
       refine vP hS hE (Gives.p hE rfl) rfl ?_; clear hE a; intro a hE
       refine WL.nil ?_
       refine W.cond hE rfl (fun hc218 => ?_) (fun hc218 => ?_)
       ·replace hr := iteT hc218 hr
        refine W.seq (W.region ?_)
        refine vP hS hE (Gives.loadBA hE 0 rfl rfl ty56) rfl ?_; clear hE a; intro a hE
        refine vP hS hE (Gives.build hE (vs := []) [.int .i64 0, .int .i64 0, .int .i64 0] rfl (by kernel_rfl)) rfl ?_; clear hE a; intro a hE
        refine vP hS hE (show Gives _ _ _ _ (Value.bool ((q211.1.N == 0) && ((q211.1.E == 0) && (q211.1.D == 0)))) from Gives.eqS hE [.i .i64, .i .i64, .i .i64] [.i .i64 q211.1.N, .i .i64 q211.1.E, .i .i64 q211.1.D] [.i .i64 0, .i .i64 0, .i .i64 0] rfl rfl se56 rfl rfl rfl rfl) rfl ?_; clear hE a; intro a hE
        refine vP hS hE (Gives.p hE rfl) rfl ?_; clear hE a; intro a hE
        refine WL.nil ?_
        refine W.ret ?_
        refine finG (fn := Tryz.f3) (rs := [.tmp 16]) (vs := [_]) hE rfl ⟨rfl, trivial⟩ ?_
        obtain rfl := Option.some.inj hr
        replace hS := hS.tail
        replace hS := hS.tail
        replace hS := hS.tail
        replace hS := hS.tail
        replace hS := hS.tail
        replace hS := hS.tail
        replace hS := hS.tail
        exact ⟨rfl, (hS.down (Sg.Le.trans hle180 hle216))⟩
       ·replace hr := iteF hc218 hr
        refine W.skip ?_
        refine W.seq ?_
        refine W.regionQ (C := fun w => St w s215 (pt b217 (.cells (FareKey.cells q211.1).toArray 56 (0, 0)) :: vecC 3 1 a204 c205 q202.2.1.length cs207 :: vecC 3 1 a185 c186 q194.length cs192 :: pt b182 (.cells #[.slice a82 q81.length c83] 37 (0, 0)) :: pt b53 (.cells #[.bool x2.ByKm, .slice a2_0 x2.Bands.length c2_0, .int .i64 x2.Round, .slice a2_1 x2.Rules.length c2_1] 32 (0, 0)) :: pt b52 (.cells #[.slice a1_0 x1.Rides.length c1_0] 28 (0, 0)) :: pt b51 (.cells #[.slice a0_0 x0.Trains.length c0_0, .slice a0_1 x0.Turns.length c0_1] 25 (0, 0)) :: R)) mixed (by kernel_rfl) hS.drew ?_
        refine qP hE (Gives.loadBA hE 0 rfl rfl ty56) rfl ?_; clear hE a; intro a hE
        refine qP hE (Gives.p hE rfl) rfl ?_; clear hE a; intro a hE
        refine qP hE (Gives.loadBA hE 6 rfl rfl ty25) rfl ?_; clear hE a; intro a hE
        refine qP hE (Gives.loadBA hE 5 rfl rfl ty28) rfl ?_; clear hE a; intro a hE
        obtain ⟨q219, hq220, hr⟩ := bindS hr
        refine QL.fnq hE (fun w hS => Fishref2Leaves_ok hS h0_0 h0_1 h1_0 hq220) (runs_plain rfl) bd11 rfl rfl rfl ?_; clear hE a; intro a hE
        refine qP hE (Gives.loadBA hE 6 rfl rfl ty25) rfl ?_; clear hE a; intro a hE
        refine qP hE (Gives.loadBA hE 5 rfl rfl ty28) rfl ?_; clear hE a; intro a hE
        obtain ⟨q221, hq222, hr⟩ := bindS hr
        refine QL.fnq hE (fun w hS => Fishref2Arrives_ok hS h0_0 h0_1 h1_0 hq222) (runs_plain rfl) bd14 rfl rfl rfl ?_; clear hE a; intro a hE
        refine qP hE (Gives.p hE rfl) rfl ?_; clear hE a; intro a hE
        refine qP hE (Gives.p hE rfl) rfl ?_; clear hE a; intro a hE
        refine qP hE (Gives.build hE (vs := [(0, .int .i64 x6), (1, .int .i64 3), (2, .int .i64 q219), (3, .int .i64 q221), (4, .int .i64 q202.1), (5, .slice a185 q194.length c186)]) [.int .i64 x6, .int .i64 3, .int .i64 q219, .int .i64 q221, .int .i64 q202.1, .slice a185 q194.length c186] rfl (by kernel_rfl)) rfl ?_; clear hE a; intro a hE
        obtain ⟨q223, hq224, hr⟩ := bindS hr
        refine QL.fnq hE (fun w hS => let ⟨t0_, hl0_, hS0_, hs0_, bk0_⟩ := hS.lendV RI.mono 2 rfl h193 (rfl); (FareIssue_ok (x1 := (FareTicket.mk x6 3 q219 q221 q202.1 q194)) hS0_ (TabG.mono hl0_ (TabG.mono (Sg.Le.trans hle180 hle216) hTab)) hs0_ hq224).mono fun _ _ ⟨he, hq⟩ => ⟨he, (St.unfront 2 rfl (bk0_ _ _ hq))⟩) (runs_plain rfl) bd13 rfl rfl rfl ?_; clear hE a; intro a hE
        refine qP hE (Gives.p hE rfl) rfl ?_; clear hE a; intro a hE
        refine qP hE (Gives.p hE rfl) rfl ?_; clear hE a; intro a hE
        refine qP hE (Gives.p hE rfl) rfl ?_; clear hE a; intro a hE
        refine qP hE (Gives.p hE rfl) rfl ?_; clear hE a; intro a hE
        refine qP hE (Gives.p hE rfl) rfl ?_; clear hE a; intro a hE
        refine QL.nil ?_; clear hS w; intro w hS
        refine W.seq ?_
        refine W.seq (W.region ?_)
        refine vP hS hE (Gives.p hE rfl) rfl ?_; clear hE a; intro a hE
        refine vP hS hE (Gives.p hE rfl) rfl ?_; clear hE a; intro a hE
        refine WL.nil ?_
        refine W.cond hE rfl (fun hc225 => ?_) (fun hc225 => ?_)
        ·replace hr := iteT hc225 hr
         refine W.seq ?_
         obtain ⟨q227, hq226, hr⟩ := bndS hr
         refine W.cut (fun a w => ∃ (q230 : Bool), q230 = q227 ∧ Rep a 267 [(16, .bool q230)] ∧ St w s215 (pt b217 (.cells (FareKey.cells q211.1).toArray 56 (0, 0)) :: pt b182 (.cells #[.slice a82 q81.length c83] 37 (0, 0)) :: pt b53 (.cells #[.bool x2.ByKm, .slice a2_0 x2.Bands.length c2_0, .int .i64 x2.Round, .slice a2_1 x2.Rules.length c2_1] 32 (0, 0)) :: pt b52 (.cells #[.slice a1_0 x1.Rides.length c1_0] 28 (0, 0)) :: pt b51 (.cells #[.slice a0_0 x0.Trains.length c0_0, .slice a0_1 x0.Turns.length c0_1] 25 (0, 0)) :: R)) ?_ ?_
         ·refine W.gen fun K231 hK231 => ?_
          refine W.region ?_
          refine vP hS hE (Gives.p hE rfl) rfl ?_; clear hE a; intro a hE
          refine vP hS hE (Gives.p hE rfl) rfl ?_; clear hE a; intro a hE
          refine vP hS hE (Gives.p hE rfl) rfl ?_; clear hE a; intro a hE
          rcases Bool.eq_false_or_eq_true (decide (x6 < 0)) with hg232 | hg232
          ·replace hq226 := iteT hg232 hq226
           refine WL.no hE (runs_not hE rfl rfl rfl (by rw [hg232]; decide)) rfl ?_; clear hE a; intro a hE
           refine WL.no hE (runs_not hE rfl rfl rfl (by rw [hg232]; decide)) rfl ?_; clear hE a; intro a hE
           refine vP hS hE (Gives.pickT hE rfl hg232 rfl) rfl ?_; clear hE a; intro a hE
           refine vP hS hE (Gives.p hE rfl) rfl ?_; clear hE a; intro a hE
           refine WL.no hE (runs_not hE rfl rfl rfl (by decide)) rfl ?_; clear hE a; intro a hE
           refine WL.no hE (runs_not hE rfl rfl rfl (by decide)) rfl ?_; clear hE a; intro a hE
           refine vP hS hE (Gives.pickT hE rfl rfl rfl) rfl ?_; clear hE a; intro a hE
           refine vP hS hE (Gives.p hE rfl) rfl ?_; clear hE a; intro a hE
           refine WL.nil ?_
           replace hS := hS.dropAt 1
           replace hS := hS.dropAt 1
           subst hK231
           exact ⟨true, hq226, hE.pick _ ⟨rfl, trivial⟩, hS⟩
          ·replace hq226 := iteF hg232 hq226
           refine WL.vS hS hE (runs_if hE rfl rfl rfl hg232) (Gives.p hE rfl) rfl ?_; clear hE a; intro a hE
           refine WL.vS hS hE (runs_if hE rfl rfl rfl hg232) (Gives.p hE rfl) rfl ?_; clear hE a; intro a hE
           refine vP hS hE (Gives.pickF hE rfl hg232 rfl) rfl ?_; clear hE a; intro a hE
           refine vP hS hE (Gives.p hE rfl) rfl ?_; clear hE a; intro a hE
           rcases Bool.eq_false_or_eq_true (decide (x6 > 999999)) with hg233 | hg233
           ·replace hq226 := iteT hg233 hq226
            refine WL.no hE (runs_not hE rfl rfl rfl (by rw [hg233]; decide)) rfl ?_; clear hE a; intro a hE
            refine WL.no hE (runs_not hE rfl rfl rfl (by rw [hg233]; decide)) rfl ?_; clear hE a; intro a hE
            refine vP hS hE (Gives.pickT hE rfl hg233 rfl) rfl ?_; clear hE a; intro a hE
            refine vP hS hE (Gives.p hE rfl) rfl ?_; clear hE a; intro a hE
            refine WL.nil ?_
            replace hS := hS.dropAt 1
            replace hS := hS.dropAt 1
            subst hK231
            exact ⟨true, hq226, hE.pick _ ⟨rfl, trivial⟩, hS⟩
           ·replace hq226 := iteF hg233 hq226
            refine WL.vS hS hE (runs_if hE rfl rfl rfl hg233) (Gives.p hE rfl) rfl ?_; clear hE a; intro a hE
            refine WL.vS hS hE (runs_if hE rfl rfl rfl hg233) (Gives.p hE rfl) rfl ?_; clear hE a; intro a hE
            refine vP hS hE (Gives.pickF hE rfl hg233 rfl) rfl ?_; clear hE a; intro a hE
            refine vP hS hE (Gives.p hE rfl) rfl ?_; clear hE a; intro a hE
            refine WL.nil ?_
            replace hS := hS.dropAt 1
            replace hS := hS.dropAt 1
            subst hK231
            exact ⟨decide (q202.1 > 100000), hq226, hE.pick _ ⟨rfl, trivial⟩, hS⟩
         ·clear hE hS a w; rintro a w ⟨q230, rfl, hE, hS⟩
          refine W.ret ?_
          refine finG (fn := Tryz.f3) (rs := [.tmp 16]) (vs := [_]) hE rfl ⟨rfl, trivial⟩ ?_
          obtain rfl := Option.some.inj hr
          replace hS := hS.tail
          replace hS := hS.tail
          replace hS := hS.tail
          replace hS := hS.tail
          replace hS := hS.tail
          exact ⟨rfl, (hS.down (Sg.Le.trans hle180 hle216))⟩
        ·replace hr := iteF hc225 hr
         refine W.skip ?_
         refine W.seq (W.region ?_)
         refine vP hS hE (Gives.fld hE rfl fl56_0) rfl ?_; clear hE a; intro a hE
         refine vP hS hE (Gives.loadB hE 0 rfl rfl rfl ty3) rfl ?_; clear hE a; intro a hE
         refine vP hS hE (Gives.fld hE rfl fl56_1) rfl ?_; clear hE a; intro a hE
         refine vP hS hE (Gives.loadB hE 0 rfl rfl rfl ty3) rfl ?_; clear hE a; intro a hE
         refine vP hS hE (Gives.build hE (vs := [(0, .int .i64 q211.1.N), (1, .int .i64 q211.1.E)]) [.int .i64 q211.1.N, .int .i64 q211.1.E, .int .i64 0] rfl (by kernel_rfl)) rfl ?_; clear hE a; intro a hE
         refine WL.alloc hE hS (runs_plain rfl) zr56 rfl ?_; clear hE hS a w; intro b234 a w hE hS
         refine WL.storeI hE hS 0 rfl [.int .i64 q211.1.N, .int .i64 q211.1.E, .int .i64 0] (runs_plain rfl) rfl rfl rfl ty56 rfl rfl rfl rfl ?_; clear hE hS a w; intro a w hE hS
         refine WL.nil ?_
         refine W.seq ?_
         refine W.seq (W.region ?_)
         refine vP hS hE (Gives.fld hE rfl fl28_0) rfl ?_; clear hE a; intro a hE
         refine vP hS hE (Gives.loadB hE 6 rfl rfl rfl ty26) rfl ?_; clear hE a; intro a hE
         refine vP hS hE (Gives.len hE rfl sl26) rfl ?_; clear hE a; intro a hE
         refine vP hS hE (Gives.p hE rfl) rfl ?_; clear hE a; intro a hE
         refine WL.nil ?_
         replace hS := hS.dropAt 2
         obtain ⟨q236, hq235, hr⟩ := bindS hr
         refine W.cut (fun a w => ∃ (s244 : Sg), s215.Le s244 ∧ (.next ()) = q236 ∧ Rep a 267 [(8, .pointer (some ⟨b51, 0, none⟩)), (9, .pointer (some ⟨b52, 0, none⟩)), (17, .slice a82 q81.length c83), (18, .slice a185 q194.length c186), (27, .string q223.1), (28, .pointer (some ⟨b234, 0, none⟩))] ∧ St w s244 (pt b234 (.cells #[.int .i64 q211.1.N, .int .i64 q211.1.E, .int .i64 0] 56 (0, 0)) :: pt b217 (.cells (FareKey.cells q211.1).toArray 56 (0, 0)) :: vecC 3 1 a185 c186 q194.length cs192 :: pt b182 (.cells #[.slice a82 q81.length c83] 37 (0, 0)) :: pt b53 (.cells #[.bool x2.ByKm, .slice a2_0 x2.Bands.length c2_0, .int .i64 x2.Round, .slice a2_1 x2.Rules.length c2_1] 32 (0, 0)) :: pt b52 (.cells #[.slice a1_0 x1.Rides.length c1_0] 28 (0, 0)) :: pt b51 (.cells #[.slice a0_0 x0.Trains.length c0_0, .slice a0_1 x0.Turns.length c0_1] 25 (0, 0)) :: R)) ?_ ?_
         ·refine W.block ?_
          refine W.loop (fun m a w => ∃ (rest239 : List GuideRide) (k237 : Nat), ∃ (s244 : Sg), rest239.length = m ∧ x1.Rides.drop k237 = rest239 ∧ s215.Le s244 ∧ FishtopTopTicketed.loop3 x0 x6 fu q211 q223 rest239 = some q236 ∧ Rep a 267 [(6, .int .i64 x6), (8, .pointer (some ⟨b51, 0, none⟩)), (9, .pointer (some ⟨b52, 0, none⟩)), (17, .slice a82 q81.length c83), (18, .slice a185 q194.length c186), (27, .string q223.1), (28, .pointer (some ⟨b234, 0, none⟩)), (164, .slice a1_0 x1.Rides.length c1_0), (165, .int .i64 ((x1.Rides).length : Int)), (166, .int .i64 ((k237 : Nat) : Int))] ∧ St w s244 (pt b234 (.cells #[.int .i64 q211.1.N, .int .i64 q211.1.E, .int .i64 0] 56 (0, 0)) :: pt b217 (.cells (FareKey.cells q211.1).toArray 56 (0, 0)) :: vecC 3 1 a185 c186 q194.length cs192 :: pt b182 (.cells #[.slice a82 q81.length c83] 37 (0, 0)) :: pt b53 (.cells #[.bool x2.ByKm, .slice a2_0 x2.Bands.length c2_0, .int .i64 x2.Round, .slice a2_1 x2.Rules.length c2_1] 32 (0, 0)) :: pt b52 (.cells #[.slice a1_0 x1.Rides.length c1_0] 28 (0, 0)) :: pt b51 (.cells #[.slice a0_0 x0.Trains.length c0_0, .slice a0_1 x0.Turns.length c0_1] 25 (0, 0)) :: R)) (m := x1.Rides.length) ⟨x1.Rides, 0, s215, rfl, rfl, (Sg.Le.refl _), hq235, hE.pick _ ⟨rfl, rfl, rfl, rfl, rfl, rfl, rfl, rfl, rfl, rfl, trivial⟩, hS⟩ ?_
          clear hE hS a w hq235; rintro m243 a w ⟨rest239, k237, s244, rfl, hd240, hle245, hq235, hE, hS⟩
          refine W.gen fun K246 hK246 => ?_
          replace h181 := Sl.mono RI.mono hle245 h181
          replace h2_0 := Sl.mono RFareBand.mono hle245 h2_0
          replace h2_1 := Sl.mono RFareRule.mono hle245 h2_1
          replace h0_0 := Sl.mono RApiTrain.mono hle245 h0_0
          replace h0_1 := Sl.mono (RL.mono RI.mono) hle245 h0_1
          replace h1_0 := Sl.mono RGuideRide.mono hle245 h1_0
          replace h193 := Ev.mono RI.mono hle245 h193
          rcases rest239 with _ | ⟨x238, rest239⟩
          ·have hlt241 := drop_nil hd240
           refine W.seq (W.region ?_)
           refine vP hS hE (Gives.p hE rfl) rfl ?_; clear hE a; intro a hE
           refine WL.nil ?_
           refine W.seq ?_
           refine W.condF hE rfl (decide_eq_false (by omega)) ?_
           subst hK246
           refine W.exit rfl ?_
           exact ⟨s244, hle245, Option.some.inj hq235, hE.pick _ ⟨rfl, rfl, rfl, rfl, rfl, rfl, trivial⟩, hS⟩
          ·obtain ⟨hlt241, hx242, hd240⟩ := drop_cons hd240
           rw [FishtopTopTicketed.loop3] at hq235
           refine W.seq (W.region ?_)
           refine vP hS hE (Gives.p hE rfl) rfl ?_; clear hE a; intro a hE
           refine WL.nil ?_
           refine W.seq ?_
           refine W.condT hE rfl (decide_eq_true (by omega)) ?_
           refine W.skip ?_
           refine W.seq ?_
           refine W.block ?_
           refine W.seq (W.region ?_)
           obtain ⟨cs247, hl248, hR249, hat250⟩ := h1_0.at hx242
           subst hR249
           refine vP hS hE (Gives.idx hE k237 rfl rfl sl26 rfl hlt241 (h1_0.aok hlt241)) rfl ?_; clear hE a; intro a hE
           refine vP hS hE (Gives.loadA hE rfl (fun w h => hat250 w _ h) ty39) rfl ?_; clear hE a; intro a hE
           refine WL.alloc hE hS (runs_plain rfl) zr39 rfl ?_; clear hE hS a w; intro b251 a w hE hS
           refine WL.storeI hE hS 0 rfl (GuideRide.cells x238) (runs_plain rfl) rfl rfl rfl ty39 rfl rfl rfl rfl ?_; clear hE hS a w; intro a w hE hS
           refine WL.nil ?_
           refine W.seq ?_
           refine W.regionQ (C := fun w => St w s244 (pt b251 (.cells (GuideRide.cells x238).toArray 39 (0, 0)) :: pt b234 (.cells #[.int .i64 q211.1.N, .int .i64 q211.1.E, .int .i64 0] 56 (0, 0)) :: pt b217 (.cells (FareKey.cells q211.1).toArray 56 (0, 0)) :: vecC 3 1 a185 c186 q194.length cs192 :: pt b182 (.cells #[.slice a82 q81.length c83] 37 (0, 0)) :: pt b53 (.cells #[.bool x2.ByKm, .slice a2_0 x2.Bands.length c2_0, .int .i64 x2.Round, .slice a2_1 x2.Rules.length c2_1] 32 (0, 0)) :: pt b52 (.cells #[.slice a1_0 x1.Rides.length c1_0] 28 (0, 0)) :: pt b51 (.cells #[.slice a0_0 x0.Trains.length c0_0, .slice a0_1 x0.Turns.length c0_1] 25 (0, 0)) :: R)) mixed (by kernel_rfl) hS.drew ?_
           refine qP hE (Gives.fld hE rfl fl25_0) rfl ?_; clear hE a; intro a hE
           refine qP hE (Gives.loadB hE 7 rfl rfl rfl ty22) rfl ?_; clear hE a; intro a hE
           refine qP hE (Gives.fld hE rfl fl39_0) rfl ?_; clear hE a; intro a hE
           refine qP hE (Gives.loadB hE 0 rfl rfl rfl ty3) rfl ?_; clear hE a; intro a hE
           obtain ⟨x252, hx253, hq235⟩ := bindS hq235
           obtain ⟨hi254, hlt255, hy256⟩ := gx_some hx253
           obtain ⟨cs257, hl258, hR259, hat260⟩ := h0_0.at hy256
           obtain ⟨a261, c262, a264, c265, rfl, h263, h266⟩ := hR259
           refine qP hE (Gives.idx hE (x238.Train).toNat rfl rfl sl22 hi254 hlt255 (h0_0.aok hlt255)) rfl ?_; clear hE a; intro a hE
           refine qP hE (Gives.fld hE rfl fl42_2) rfl ?_; clear hE a; intro a hE
           refine qP hE (Gives.load1 hE rfl (fun w h => (hat260 w _ h).one rfl) ty40) rfl ?_; clear hE a; intro a hE
           refine qP hE (Gives.fld hE rfl fl39_1) rfl ?_; clear hE a; intro a hE
           refine qP hE (Gives.loadB hE 0 rfl rfl rfl ty3) rfl ?_; clear hE a; intro a hE
           refine qP hE (Gives.fld hE rfl fl39_2) rfl ?_; clear hE a; intro a hE
           refine qP hE (Gives.loadB hE 0 rfl rfl rfl ty3) rfl ?_; clear hE a; intro a hE
           refine qP hE (Gives.p hE rfl) rfl ?_; clear hE a; intro a hE
           obtain ⟨x267, hx268, hq235⟩ := bindS hq235
           obtain ⟨a269, c270, heq271, h272⟩ := h263.cut hx268
           obtain ⟨h273, h274, h275, _⟩ := cutl_some hx268
           refine qP hE (Gives.slLH hE sl40 rfl rfl rfl h273 h274 (Int.le_trans h275 (by have := h263.len; omega)) heq271) rfl ?_; clear hE a; intro a hE
           refine qP hE (Gives.len hE rfl sl40) rfl ?_; clear hE a; intro a hE
           refine qP hE (Gives.p hE rfl) rfl ?_; clear hE a; intro a hE
           refine QL.nil ?_; clear hS w; intro w hS
           obtain ⟨q277, hq276, hq235⟩ := bindS hq235
           refine W.cut (fun a w => ∃ (s285 : Sg), s244.Le s285 ∧ (.next ()) = q277 ∧ Rep a 267 [(6, .int .i64 x6), (8, .pointer (some ⟨b51, 0, none⟩)), (9, .pointer (some ⟨b52, 0, none⟩)), (17, .slice a82 q81.length c83), (18, .slice a185 q194.length c186), (27, .string q223.1), (28, .pointer (some ⟨b234, 0, none⟩)), (164, .slice a1_0 x1.Rides.length c1_0), (165, .int .i64 ((x1.Rides).length : Int)), (166, .int .i64 ((k237 : Nat) : Int))] ∧ St w s285 (pt b251 (.cells (GuideRide.cells x238).toArray 39 (0, 0)) :: pt b234 (.cells #[.int .i64 q211.1.N, .int .i64 q211.1.E, .int .i64 0] 56 (0, 0)) :: pt b217 (.cells (FareKey.cells q211.1).toArray 56 (0, 0)) :: vecC 3 1 a185 c186 q194.length cs192 :: pt b182 (.cells #[.slice a82 q81.length c83] 37 (0, 0)) :: pt b53 (.cells #[.bool x2.ByKm, .slice a2_0 x2.Bands.length c2_0, .int .i64 x2.Round, .slice a2_1 x2.Rules.length c2_1] 32 (0, 0)) :: pt b52 (.cells #[.slice a1_0 x1.Rides.length c1_0] 28 (0, 0)) :: pt b51 (.cells #[.slice a0_0 x0.Trains.length c0_0, .slice a0_1 x0.Turns.length c0_1] 25 (0, 0)) :: R)) ?_ ?_
           ·refine W.block ?_
            refine W.loop (fun m a w => ∃ (rest280 : List ApiStop) (k278 : Nat), ∃ (s285 : Sg), rest280.length = m ∧ x267.drop k278 = rest280 ∧ s244.Le s285 ∧ FishtopTopTicketed.loop4 x6 fu q211 q223 rest280 k278 = some q277 ∧ Rep a 267 [(6, .int .i64 x6), (8, .pointer (some ⟨b51, 0, none⟩)), (9, .pointer (some ⟨b52, 0, none⟩)), (17, .slice a82 q81.length c83), (18, .slice a185 q194.length c186), (27, .string q223.1), (28, .pointer (some ⟨b234, 0, none⟩)), (164, .slice a1_0 x1.Rides.length c1_0), (165, .int .i64 ((x1.Rides).length : Int)), (166, .int .i64 ((k237 : Nat) : Int)), (182, .slice a269 x267.length c270), (183, .int .i64 ((x267).length : Int)), (184, .int .i64 ((k278 : Nat) : Int))] ∧ St w s285 (pt b251 (.cells (GuideRide.cells x238).toArray 39 (0, 0)) :: pt b234 (.cells #[.int .i64 q211.1.N, .int .i64 q211.1.E, .int .i64 0] 56 (0, 0)) :: pt b217 (.cells (FareKey.cells q211.1).toArray 56 (0, 0)) :: vecC 3 1 a185 c186 q194.length cs192 :: pt b182 (.cells #[.slice a82 q81.length c83] 37 (0, 0)) :: pt b53 (.cells #[.bool x2.ByKm, .slice a2_0 x2.Bands.length c2_0, .int .i64 x2.Round, .slice a2_1 x2.Rules.length c2_1] 32 (0, 0)) :: pt b52 (.cells #[.slice a1_0 x1.Rides.length c1_0] 28 (0, 0)) :: pt b51 (.cells #[.slice a0_0 x0.Trains.length c0_0, .slice a0_1 x0.Turns.length c0_1] 25 (0, 0)) :: R)) (m := x267.length) ⟨x267, 0, s244, rfl, rfl, (Sg.Le.refl _), hq276, hE.pick _ ⟨rfl, rfl, rfl, rfl, rfl, rfl, rfl, rfl, rfl, rfl, rfl, rfl, rfl, trivial⟩, hS⟩ ?_
            clear hE hS a w hq276; rintro m284 a w ⟨rest280, k278, s285, rfl, hd281, hle286, hq276, hE, hS⟩
            refine W.gen fun K287 hK287 => ?_
            replace h181 := Sl.mono RI.mono hle286 h181
            replace h1_0 := Sl.mono RGuideRide.mono hle286 h1_0
            replace h0_0 := Sl.mono RApiTrain.mono hle286 h0_0
            replace h263 := Sl.mono RApiStop.mono hle286 h263
            replace h272 := Sl.mono RApiStop.mono hle286 h272
            replace h193 := Ev.mono RI.mono hle286 h193
            replace h2_0 := Sl.mono RFareBand.mono hle286 h2_0
            replace h2_1 := Sl.mono RFareRule.mono hle286 h2_1
            replace h0_1 := Sl.mono (RL.mono RI.mono) hle286 h0_1
            rcases rest280 with _ | ⟨x279, rest280⟩
            ·have hlt282 := drop_nil hd281
             refine W.seq (W.region ?_)
             refine vP hS hE (Gives.p hE rfl) rfl ?_; clear hE a; intro a hE
             refine WL.nil ?_
             refine W.seq ?_
             refine W.condF hE rfl (decide_eq_false (by omega)) ?_
             subst hK287
             refine W.exit rfl ?_
             exact ⟨s285, hle286, Option.some.inj hq276, hE.pick _ ⟨rfl, rfl, rfl, rfl, rfl, rfl, rfl, rfl, rfl, rfl, trivial⟩, hS⟩
            ·obtain ⟨hlt282, hx283, hd281⟩ := drop_cons hd281
             rw [FishtopTopTicketed.loop4] at hq276
             refine W.seq (W.region ?_)
             refine vP hS hE (Gives.p hE rfl) rfl ?_; clear hE a; intro a hE
             refine WL.nil ?_
             refine W.seq ?_
             refine W.condT hE rfl (decide_eq_true (by omega)) ?_
             refine W.skip ?_
             refine W.seq ?_
             refine W.block ?_
             refine W.seq (W.region ?_)
             refine vP hS hE (Gives.p hE rfl) rfl ?_; clear hE a; intro a hE
             obtain ⟨cs288, hl289, hR290, hat291⟩ := h272.at hx283
             subst hR290
             refine vP hS hE (Gives.idx hE k278 rfl rfl sl40 rfl hlt282 (h272.aok hlt282)) rfl ?_; clear hE a; intro a hE
             refine vP hS hE (Gives.loadA hE rfl (fun w h => hat291 w _ h) ty44) rfl ?_; clear hE a; intro a hE
             refine WL.alloc hE hS (runs_plain rfl) zr44 rfl ?_; clear hE hS a w; intro b292 a w hE hS
             refine vP hS hE (Gives.p hE rfl) rfl ?_; clear hE a; intro a hE
             refine WL.storeI hE hS 0 rfl (ApiStop.cells x279) (runs_plain rfl) rfl rfl rfl ty44 rfl rfl rfl rfl ?_; clear hE hS a w; intro a w hE hS
             refine WL.nil ?_
             refine W.seq (W.region ?_)
             refine vP hS hE (Gives.fld hE rfl fl44_2) rfl ?_; clear hE a; intro a hE
             refine vP hS hE (Gives.loadB hE 0 rfl rfl rfl ty3) rfl ?_; clear hE a; intro a hE
             refine vP hS hE (Gives.p hE rfl) rfl ?_; clear hE a; intro a hE
             refine WL.nil ?_
             refine W.seq ?_
             refine W.seq (W.region ?_)
             refine vP hS hE (Gives.p hE rfl) rfl ?_; clear hE a; intro a hE
             refine vP hS hE (Gives.p hE rfl) rfl ?_; clear hE a; intro a hE
             refine WL.nil ?_
             obtain ⟨q294, hq293, hq276⟩ := bndS hq276
             refine W.cut (fun a w => ∃ (q297 : Int), q297 = q294 ∧ Rep a 267 [(6, .int .i64 x6), (8, .pointer (some ⟨b51, 0, none⟩)), (9, .pointer (some ⟨b52, 0, none⟩)), (17, .slice a82 q81.length c83), (18, .slice a185 q194.length c186), (27, .string q223.1), (28, .pointer (some ⟨b234, 0, none⟩)), (32, .pointer (some ⟨b292, 0, none⟩)), (33, .int .i64 q297), (164, .slice a1_0 x1.Rides.length c1_0), (165, .int .i64 ((x1.Rides).length : Int)), (166, .int .i64 ((k237 : Nat) : Int)), (182, .slice a269 x267.length c270), (183, .int .i64 ((x267).length : Int)), (184, .int .i64 ((k278 : Nat) : Int))] ∧ St w s285 (pt b292 (.cells (ApiStop.cells x279).toArray 44 (0, 0)) :: pt b251 (.cells (GuideRide.cells x238).toArray 39 (0, 0)) :: pt b234 (.cells #[.int .i64 q211.1.N, .int .i64 q211.1.E, .int .i64 0] 56 (0, 0)) :: pt b217 (.cells (FareKey.cells q211.1).toArray 56 (0, 0)) :: vecC 3 1 a185 c186 q194.length cs192 :: pt b182 (.cells #[.slice a82 q81.length c83] 37 (0, 0)) :: pt b53 (.cells #[.bool x2.ByKm, .slice a2_0 x2.Bands.length c2_0, .int .i64 x2.Round, .slice a2_1 x2.Rules.length c2_1] 32 (0, 0)) :: pt b52 (.cells #[.slice a1_0 x1.Rides.length c1_0] 28 (0, 0)) :: pt b51 (.cells #[.slice a0_0 x0.Trains.length c0_0, .slice a0_1 x0.Turns.length c0_1] 25 (0, 0)) :: R)) ?_ ?_
             ·refine W.gen fun K298 hK298 => ?_
              refine W.cond hE rfl (fun hc299 => ?_) (fun hc299 => ?_)
              ·replace hq293 := iteT hc299 hq293
               refine W.region ?_
               refine vP hS hE (Gives.fld hE rfl fl44_3) rfl ?_; clear hE a; intro a hE
               refine vP hS hE (Gives.loadB hE 0 rfl rfl rfl ty3) rfl ?_; clear hE a; intro a hE
               refine vP hS hE (Gives.p hE rfl) rfl ?_; clear hE a; intro a hE
               refine WL.nil ?_
               subst hK298
               exact ⟨x279.Dep, hq293, hE.pick _ ⟨rfl, rfl, rfl, rfl, rfl, rfl, rfl, rfl, rfl, rfl, rfl, rfl, rfl, rfl, rfl, trivial⟩, hS⟩
              ·replace hq293 := iteF hc299 hq293
               refine W.skip ?_
               subst hK298
               exact ⟨x279.Arr, hq293, hE.pick _ ⟨rfl, rfl, rfl, rfl, rfl, rfl, rfl, rfl, rfl, rfl, rfl, rfl, rfl, rfl, rfl, trivial⟩, hS⟩
             ·clear hE hS a w; rintro a w ⟨q297, rfl, hE, hS⟩
              refine W.seq ?_
              obtain ⟨q301, hq300, hq276⟩ := bindS hq276
              refine W.cut (fun a w => ∃ (q304 : Bool), ∃ (s302 : Sg), s285.Le s302 ∧ q304 = q301 ∧ Rep a 267 [(6, .int .i64 x6), (8, .pointer (some ⟨b51, 0, none⟩)), (9, .pointer (some ⟨b52, 0, none⟩)), (17, .slice a82 q81.length c83), (18, .slice a185 q194.length c186), (27, .string q223.1), (28, .pointer (some ⟨b234, 0, none⟩)), (164, .slice a1_0 x1.Rides.length c1_0), (165, .int .i64 ((x1.Rides).length : Int)), (166, .int .i64 ((k237 : Nat) : Int)), (182, .slice a269 x267.length c270), (183, .int .i64 ((x267).length : Int)), (184, .int .i64 ((k278 : Nat) : Int)), (224, .bool q304)] ∧ St w s302 (pt b292 (.cells (ApiStop.cells x279).toArray 44 (0, 0)) :: pt b251 (.cells (GuideRide.cells x238).toArray 39 (0, 0)) :: pt b234 (.cells #[.int .i64 q211.1.N, .int .i64 q211.1.E, .int .i64 0] 56 (0, 0)) :: pt b217 (.cells (FareKey.cells q211.1).toArray 56 (0, 0)) :: vecC 3 1 a185 c186 q194.length cs192 :: pt b182 (.cells #[.slice a82 q81.length c83] 37 (0, 0)) :: pt b53 (.cells #[.bool x2.ByKm, .slice a2_0 x2.Bands.length c2_0, .int .i64 x2.Round, .slice a2_1 x2.Rules.length c2_1] 32 (0, 0)) :: pt b52 (.cells #[.slice a1_0 x1.Rides.length c1_0] 28 (0, 0)) :: pt b51 (.cells #[.slice a0_0 x0.Trains.length c0_0, .slice a0_1 x0.Turns.length c0_1] 25 (0, 0)) :: R)) ?_ ?_
              ·refine W.gen fun K305 hK305 => ?_
               refine W.region ?_
               refine vP hS hE (Gives.loadBA hE 2 rfl rfl ty56) rfl ?_; clear hE a; intro a hE
               refine vP hS hE (Gives.p hE rfl) rfl ?_; clear hE a; intro a hE
               refine vP hS hE (Gives.p hE rfl) rfl ?_; clear hE a; intro a hE
               refine vP hS hE (Gives.fld hE rfl fl44_0) rfl ?_; clear hE a; intro a hE
               refine vP hS hE (Gives.loadB hE 0 rfl rfl rfl ty3) rfl ?_; clear hE a; intro a hE
               refine vP hS hE (Gives.p hE rfl) rfl ?_; clear hE a; intro a hE
               refine vP hS hE (Gives.p hE rfl) rfl ?_; clear hE a; intro a hE
               refine WL.lit hE hS (e := 3) (es := 1) (vs := [(0, .int .i64 (w64 (x6 + 1)))]) (cs := [.int .i64 (w64 (x6 + 1))]) (runs_plain rfl) rfl (by kernel_rfl) rfl ?_; clear hE hS a w; intro b306 a w hE hS
               replace hS := hS.ptVec (es := 1) (m := 1) rfl (by decide)
               have h308 : Ev 1 (RI .i64) s285 [.int .i64 (w64 (x6 + 1))] [w64 (x6 + 1)] := (Ev.cons (c1 := [.int .i64 (w64 (x6 + 1))]) rfl rfl (Ev.nil))
               have hF := hS.fixD RI.mono 0 rfl h308 (rfl); clear hS; obtain ⟨s309, hle310, hS, h311⟩ := hF
               replace h181 := Sl.mono RI.mono hle310 h181
               replace h1_0 := Sl.mono RGuideRide.mono hle310 h1_0
               replace h272 := Sl.mono RApiStop.mono hle310 h272
               replace h193 := Ev.mono RI.mono hle310 h193
               replace h2_0 := Sl.mono RFareBand.mono hle310 h2_0
               replace h2_1 := Sl.mono RFareRule.mono hle310 h2_1
               replace h0_0 := Sl.mono RApiTrain.mono hle310 h0_0
               replace h0_1 := Sl.mono (RL.mono RI.mono) hle310 h0_1
               obtain ⟨q312, hq313, hq300⟩ := bindS hq300
               have hc_ := FareAccept_ok hS (TabG.mono (Sg.Le.trans (Sg.Le.trans (Sg.Le.trans (Sg.Le.trans hle180 hle216) hle245) hle286) hle310) hTab) h311 hq313
               refine WL.fnq hE (hc_) (runs_plain rfl) bd15 rfl rfl rfl ?_
               clear hE hS hc_; rintro e w ⟨rfl, hS⟩; refine ⟨_, rfl, ?_⟩; clear a; intro a hE
               refine vP hS hE (Gives.p hE rfl) rfl ?_; clear hE a; intro a hE
               refine vP hS hE (Gives.p hE rfl) rfl ?_; clear hE a; intro a hE
               rcases Bool.eq_false_or_eq_true (q312 != 0) with hg314 | hg314
               ·replace hq300 := iteT hg314 hq300
                refine WL.no hE (runs_not hE rfl rfl rfl (by rw [hg314]; decide)) rfl ?_; clear hE a; intro a hE
                refine WL.no hE (runs_not hE rfl rfl rfl (by rw [hg314]; decide)) rfl ?_; clear hE a; intro a hE
                refine WL.no hE (runs_not hE rfl rfl rfl (by rw [hg314]; decide)) rfl ?_; clear hE a; intro a hE
                refine WL.no hE (runs_not hE rfl rfl rfl (by rw [hg314]; decide)) rfl ?_; clear hE a; intro a hE
                refine WL.no hE (runs_not hE rfl rfl rfl (by rw [hg314]; decide)) rfl ?_; clear hE a; intro a hE
                refine WL.no hE (runs_not hE rfl rfl rfl (by rw [hg314]; decide)) rfl ?_; clear hE a; intro a hE
                refine WL.no hE (runs_not hE rfl rfl rfl (by rw [hg314]; decide)) rfl ?_; clear hE a; intro a hE
                refine vP hS hE (Gives.pickT hE rfl hg314 rfl) rfl ?_; clear hE a; intro a hE
                refine vP hS hE (Gives.p hE rfl) rfl ?_; clear hE a; intro a hE
                refine WL.no hE (runs_not hE rfl rfl rfl (by decide)) rfl ?_; clear hE a; intro a hE
                refine WL.no hE (runs_not hE rfl rfl rfl (by decide)) rfl ?_; clear hE a; intro a hE
                refine WL.no hE (runs_not hE rfl rfl rfl (by decide)) rfl ?_; clear hE a; intro a hE
                refine WL.no hE (runs_not hE rfl rfl rfl (by decide)) rfl ?_; clear hE a; intro a hE
                refine WL.no hE (runs_not hE rfl rfl rfl (by decide)) rfl ?_; clear hE a; intro a hE
                refine WL.no hE (runs_not hE rfl rfl rfl (by decide)) rfl ?_; clear hE a; intro a hE
                refine WL.no hE (runs_not hE rfl rfl rfl (by decide)) rfl ?_; clear hE a; intro a hE
                refine WL.no hE (runs_not hE rfl rfl rfl (by decide)) rfl ?_; clear hE a; intro a hE
                refine WL.no hE (runs_not hE rfl rfl rfl (by decide)) rfl ?_; clear hE a; intro a hE
                refine vP hS hE (Gives.pickT hE rfl rfl rfl) rfl ?_; clear hE a; intro a hE
                refine WL.nil ?_
                subst hK305
                exact ⟨true, s309, hle310, Option.some.inj hq300, hE.pick _ ⟨rfl, rfl, rfl, rfl, rfl, rfl, rfl, rfl, rfl, rfl, rfl, rfl, rfl, rfl, trivial⟩, hS⟩
               ·replace hq300 := iteF hg314 hq300
                refine WL.vS hS hE (runs_if hE rfl rfl rfl hg314) (Gives.loadBA hE 2 rfl rfl ty56) rfl ?_; clear hE a; intro a hE
                refine WL.vS hS hE (runs_if hE rfl rfl rfl hg314) (Gives.p hE rfl) rfl ?_; clear hE a; intro a hE
                refine WL.vS hS hE (runs_if hE rfl rfl rfl hg314) (Gives.p hE rfl) rfl ?_; clear hE a; intro a hE
                refine WL.vS hS hE (runs_if hE rfl rfl rfl hg314) (Gives.fld hE rfl fl44_0) rfl ?_; clear hE a; intro a hE
                refine WL.vS hS hE (runs_if hE rfl rfl rfl hg314) (Gives.loadB hE 0 rfl rfl rfl ty3) rfl ?_; clear hE a; intro a hE
                obtain ⟨q315, hq316, hq300⟩ := bindS hq300
                have hc_ := FareAccept_ok hS (TabG.mono (Sg.Le.trans (Sg.Le.trans (Sg.Le.trans (Sg.Le.trans hle180 hle216) hle245) hle286) hle310) hTab) Sl.nil hq316
                refine WL.fnq hE (hc_) (runs_if hE rfl rfl rfl hg314) bd15 rfl rfl rfl ?_
                clear hE hS hc_; rintro e w ⟨rfl, hS⟩; refine ⟨_, rfl, ?_⟩; clear a; intro a hE
                refine WL.vS hS hE (runs_if hE rfl rfl rfl hg314) (Gives.p hE rfl) rfl ?_; clear hE a; intro a hE
                refine vP hS hE (Gives.pickF hE rfl hg314 rfl) rfl ?_; clear hE a; intro a hE
                refine vP hS hE (Gives.p hE rfl) rfl ?_; clear hE a; intro a hE
                rcases Bool.eq_false_or_eq_true (q315 != 13) with hg317 | hg317
                ·replace hq300 := iteT hg317 hq300
                 refine WL.no hE (runs_not hE rfl rfl rfl (by rw [hg317]; decide)) rfl ?_; clear hE a; intro a hE
                 refine WL.no hE (runs_not hE rfl rfl rfl (by rw [hg317]; decide)) rfl ?_; clear hE a; intro a hE
                 refine WL.no hE (runs_not hE rfl rfl rfl (by rw [hg317]; decide)) rfl ?_; clear hE a; intro a hE
                 refine WL.no hE (runs_not hE rfl rfl rfl (by rw [hg317]; decide)) rfl ?_; clear hE a; intro a hE
                 refine WL.no hE (runs_not hE rfl rfl rfl (by rw [hg317]; decide)) rfl ?_; clear hE a; intro a hE
                 refine WL.no hE (runs_not hE rfl rfl rfl (by rw [hg317]; decide)) rfl ?_; clear hE a; intro a hE
                 refine WL.no hE (runs_not hE rfl rfl rfl (by rw [hg317]; decide)) rfl ?_; clear hE a; intro a hE
                 refine WL.no hE (runs_not hE rfl rfl rfl (by rw [hg317]; decide)) rfl ?_; clear hE a; intro a hE
                 refine WL.no hE (runs_not hE rfl rfl rfl (by rw [hg317]; decide)) rfl ?_; clear hE a; intro a hE
                 refine vP hS hE (Gives.pickT hE rfl hg317 rfl) rfl ?_; clear hE a; intro a hE
                 refine WL.nil ?_
                 subst hK305
                 exact ⟨true, s309, hle310, Option.some.inj hq300, hE.pick _ ⟨rfl, rfl, rfl, rfl, rfl, rfl, rfl, rfl, rfl, rfl, rfl, rfl, rfl, rfl, trivial⟩, hS⟩
                ·replace hq300 := iteF hg317 hq300
                 refine WL.vS hS hE (runs_if hE rfl rfl rfl hg317) (Gives.loadBA hE 2 rfl rfl ty56) rfl ?_; clear hE a; intro a hE
                 refine WL.vS hS hE (runs_if hE rfl rfl rfl hg317) (Gives.p hE rfl) rfl ?_; clear hE a; intro a hE
                 refine WL.vS hS hE (runs_if hE rfl rfl rfl hg317) (Gives.p hE rfl) rfl ?_; clear hE a; intro a hE
                 refine WL.vS hS hE (runs_if hE rfl rfl rfl hg317) (Gives.fld hE rfl fl44_0) rfl ?_; clear hE a; intro a hE
                 refine WL.vS hS hE (runs_if hE rfl rfl rfl hg317) (Gives.loadB hE 0 rfl rfl rfl ty3) rfl ?_; clear hE a; intro a hE
                 refine WL.vS hS hE (runs_if hE rfl rfl rfl hg317) (Gives.p hE rfl) rfl ?_; clear hE a; intro a hE
                 refine WL.lit hE hS (e := 3) (es := 1) (vs := [(0, .int .i64 x6)]) (cs := [.int .i64 x6]) (runs_if hE rfl rfl rfl hg317) rfl (by kernel_rfl) rfl ?_; clear hE hS a w; intro b318 a w hE hS
                 replace hS := hS.ptVec (es := 1) (m := 1) rfl (by decide)
                 have h320 : Ev 1 (RI .i64) s309 [.int .i64 x6] [x6] := (Ev.cons (c1 := [.int .i64 x6]) rfl rfl (Ev.nil))
                 have hF := hS.fixD RI.mono 0 rfl h320 (rfl); clear hS; obtain ⟨s321, hle322, hS, h323⟩ := hF
                 replace h181 := Sl.mono RI.mono hle322 h181
                 replace h1_0 := Sl.mono RGuideRide.mono hle322 h1_0
                 replace h272 := Sl.mono RApiStop.mono hle322 h272
                 replace h311 := Sl.mono RI.mono hle322 h311
                 replace h193 := Ev.mono RI.mono hle322 h193
                 replace h2_0 := Sl.mono RFareBand.mono hle322 h2_0
                 replace h2_1 := Sl.mono RFareRule.mono hle322 h2_1
                 replace h0_0 := Sl.mono RApiTrain.mono hle322 h0_0
                 replace h0_1 := Sl.mono (RL.mono RI.mono) hle322 h0_1
                 obtain ⟨q324, hq325, hq300⟩ := bindS hq300
                 have hc_ := FareAccept_ok hS (TabG.mono (Sg.Le.trans (Sg.Le.trans (Sg.Le.trans (Sg.Le.trans (Sg.Le.trans hle180 hle216) hle245) hle286) hle310) hle322) hTab) h323 hq325
                 refine WL.fnq hE (hc_) (runs_if hE rfl rfl rfl hg317) bd15 rfl rfl rfl ?_
                 clear hE hS hc_; rintro e w ⟨rfl, hS⟩; refine ⟨_, rfl, ?_⟩; clear a; intro a hE
                 refine WL.vS hS hE (runs_if hE rfl rfl rfl hg317) (Gives.p hE rfl) rfl ?_; clear hE a; intro a hE
                 refine vP hS hE (Gives.pickF hE rfl hg317 rfl) rfl ?_; clear hE a; intro a hE
                 refine WL.nil ?_
                 subst hK305
                 exact ⟨(q324 != 7), s321, (Sg.Le.trans hle310 hle322), Option.some.inj hq300, hE.pick _ ⟨rfl, rfl, rfl, rfl, rfl, rfl, rfl, rfl, rfl, rfl, rfl, rfl, rfl, rfl, trivial⟩, hS⟩
              ·clear hE hS a w; rintro a w ⟨q304, s302, hle303, rfl, hE, hS⟩
               replace h181 := Sl.mono RI.mono hle303 h181
               replace h1_0 := Sl.mono RGuideRide.mono hle303 h1_0
               replace h272 := Sl.mono RApiStop.mono hle303 h272
               replace h193 := Ev.mono RI.mono hle303 h193
               replace h2_0 := Sl.mono RFareBand.mono hle303 h2_0
               replace h2_1 := Sl.mono RFareRule.mono hle303 h2_1
               replace h0_0 := Sl.mono RApiTrain.mono hle303 h0_0
               replace h0_1 := Sl.mono (RL.mono RI.mono) hle303 h0_1
               refine W.cond hE rfl (fun hc326 => ?_) (fun hc326 => ?_)
               ·replace hq276 := iteT hc326 hq276
                refine W.seq (W.region ?_)
                refine vP hS hE (Gives.p hE rfl) rfl ?_; clear hE a; intro a hE
                refine WL.nil ?_
                refine W.ret ?_
                subst hK287
                subst hK246
                rw [← Option.some.inj hq276] at hq235
                dsimp only at hq235
                rw [← Option.some.inj hq235] at hr
                dsimp only at hr
                refine finG (fn := Tryz.f3) (rs := [.tmp 16]) (vs := [_]) hE rfl ⟨rfl, trivial⟩ ?_
                obtain rfl := Option.some.inj hr
                replace hS := hS.tail
                replace hS := hS.tail
                replace hS := hS.tail
                replace hS := hS.tail
                replace hS := hS.tail
                replace hS := hS.tail
                replace hS := hS.tail
                replace hS := hS.tail
                replace hS := hS.tail
                exact ⟨rfl, (hS.down (Sg.Le.trans (Sg.Le.trans (Sg.Le.trans (Sg.Le.trans hle180 hle216) hle245) hle286) hle303))⟩
               ·replace hq276 := iteF hc326 hq276
                refine W.skip ?_
                refine W.region ?_
                refine vP hS hE (Gives.inc hE rfl (by have := h272.small; omega)) rfl ?_; clear hE a; intro a hE
                refine vP hS hE (Gives.p hE rfl) rfl ?_; clear hE a; intro a hE
                refine WL.nil ?_
                replace hS := hS.tail
                subst hK287
                exact ⟨rest280.length, Nat.lt_succ_self _, rest280, k278 + 1, s302, rfl, hd281, (Sg.Le.trans hle286 hle303), hq276, hE.pick _ ⟨rfl, rfl, rfl, rfl, rfl, rfl, rfl, rfl, rfl, rfl, rfl, rfl, rfl, trivial⟩, hS⟩
           ·clear hE hS a w; rintro a w ⟨s285, hle286, rfl, hE, hS⟩
            dsimp only at hq235
            replace h181 := Sl.mono RI.mono hle286 h181
            replace h1_0 := Sl.mono RGuideRide.mono hle286 h1_0
            replace h0_0 := Sl.mono RApiTrain.mono hle286 h0_0
            replace h263 := Sl.mono RApiStop.mono hle286 h263
            replace h272 := Sl.mono RApiStop.mono hle286 h272
            replace h193 := Ev.mono RI.mono hle286 h193
            replace h2_0 := Sl.mono RFareBand.mono hle286 h2_0
            replace h2_1 := Sl.mono RFareRule.mono hle286 h2_1
            replace h0_1 := Sl.mono (RL.mono RI.mono) hle286 h0_1
            refine W.region ?_
            refine vP hS hE (Gives.inc hE rfl (by have := h1_0.small; omega)) rfl ?_; clear hE a; intro a hE
            refine vP hS hE (Gives.p hE rfl) rfl ?_; clear hE a; intro a hE
            refine WL.nil ?_
            replace hS := hS.tail
            subst hK246
            exact ⟨rest239.length, Nat.lt_succ_self _, rest239, k237 + 1, s285, rfl, hd240, (Sg.Le.trans hle245 hle286), hq235, hE.pick _ ⟨rfl, rfl, rfl, rfl, rfl, rfl, rfl, rfl, rfl, rfl, trivial⟩, hS⟩
         ·clear hE hS a w; rintro a w ⟨s244, hle245, rfl, hE, hS⟩
          dsimp only at hr
          replace h181 := Sl.mono RI.mono hle245 h181
          replace h2_0 := Sl.mono RFareBand.mono hle245 h2_0
          replace h2_1 := Sl.mono RFareRule.mono hle245 h2_1
          replace h0_0 := Sl.mono RApiTrain.mono hle245 h0_0
          replace h0_1 := Sl.mono (RL.mono RI.mono) hle245 h0_1
          replace h1_0 := Sl.mono RGuideRide.mono hle245 h1_0
          replace h193 := Ev.mono RI.mono hle245 h193
          refine W.seq (W.region ?_)
          refine vP hS hE (Gives.p hE rfl) rfl ?_; clear hE a; intro a hE
          obtain ⟨x327, hx328, hr⟩ := bindS hr
          obtain ⟨hi329, hlt330, hy331⟩ := gx_some hx328
          obtain ⟨cs332, hl333, hR334, hat335⟩ := h181.at hy331
          subst hR334
          refine vP hS hE (Gives.idx hE ((0 : Int)).toNat rfl rfl sl37 hi329 hlt330 (h181.aok hlt330)) rfl ?_; clear hE a; intro a hE
          refine vP hS hE (Gives.load1 hE rfl (fun w h => hat335 w _ h) ty3) rfl ?_; clear hE a; intro a hE
          refine vP hS hE (Gives.p hE rfl) rfl ?_; clear hE a; intro a hE
          refine WL.nil ?_
          refine W.seq ?_
          refine W.seq ?_
          obtain ⟨q337, hq336, hr⟩ := bindS hr
          refine W.cut (fun a w => ∃ (q340 : Bool), q340 = q337 ∧ Rep a 267 [(8, .pointer (some ⟨b51, 0, none⟩)), (9, .pointer (some ⟨b52, 0, none⟩)), (18, .slice a185 q194.length c186), (27, .string q223.1), (28, .pointer (some ⟨b234, 0, none⟩)), (249, .bool q340)] ∧ St w s244 (pt b234 (.cells #[.int .i64 q211.1.N, .int .i64 q211.1.E, .int .i64 0] 56 (0, 0)) :: pt b217 (.cells (FareKey.cells q211.1).toArray 56 (0, 0)) :: vecC 3 1 a185 c186 q194.length cs192 :: pt b182 (.cells #[.slice a82 q81.length c83] 37 (0, 0)) :: pt b53 (.cells #[.bool x2.ByKm, .slice a2_0 x2.Bands.length c2_0, .int .i64 x2.Round, .slice a2_1 x2.Rules.length c2_1] 32 (0, 0)) :: pt b52 (.cells #[.slice a1_0 x1.Rides.length c1_0] 28 (0, 0)) :: pt b51 (.cells #[.slice a0_0 x0.Trains.length c0_0, .slice a0_1 x0.Turns.length c0_1] 25 (0, 0)) :: R)) ?_ ?_
          ·refine W.gen fun K341 hK341 => ?_
           refine W.regionQ (C := fun w => St w s244 (pt b234 (.cells #[.int .i64 q211.1.N, .int .i64 q211.1.E, .int .i64 0] 56 (0, 0)) :: pt b217 (.cells (FareKey.cells q211.1).toArray 56 (0, 0)) :: vecC 3 1 a185 c186 q194.length cs192 :: pt b182 (.cells #[.slice a82 q81.length c83] 37 (0, 0)) :: pt b53 (.cells #[.bool x2.ByKm, .slice a2_0 x2.Bands.length c2_0, .int .i64 x2.Round, .slice a2_1 x2.Rules.length c2_1] 32 (0, 0)) :: pt b52 (.cells #[.slice a1_0 x1.Rides.length c1_0] 28 (0, 0)) :: pt b51 (.cells #[.slice a0_0 x0.Trains.length c0_0, .slice a0_1 x0.Turns.length c0_1] 25 (0, 0)) :: R)) mixed (by kernel_rfl) hS.drew ?_
           refine qP hE (Gives.loadBA hE 0 rfl rfl ty56) rfl ?_; clear hE a; intro a hE
           refine qP hE (Gives.p hE rfl) rfl ?_; clear hE a; intro a hE
           refine qP hE (Gives.loadBA hE 6 rfl rfl ty25) rfl ?_; clear hE a; intro a hE
           refine qP hE (Gives.loadBA hE 5 rfl rfl ty28) rfl ?_; clear hE a; intro a hE
           obtain ⟨q342, hq343, hq336⟩ := bindS hq336
           refine QL.fnq hE (fun w hS => Fishref2Leaves_ok hS h0_0 h0_1 h1_0 hq343) (runs_plain rfl) bd11 rfl rfl rfl ?_; clear hE a; intro a hE
           refine qP hE (Gives.p hE rfl) rfl ?_; clear hE a; intro a hE
           refine qP hE (Gives.p hE rfl) rfl ?_; clear hE a; intro a hE
           obtain ⟨q344, hq345, hq336⟩ := bindS hq336
           refine QL.fnq hE (fun w hS => FareAccept_ok hS (TabG.mono (Sg.Le.trans (Sg.Le.trans hle180 hle216) hle245) hTab) Sl.nil hq345) (runs_plain rfl) bd15 rfl rfl rfl ?_; clear hE a; intro a hE
           refine qP hE (Gives.p hE rfl) rfl ?_; clear hE a; intro a hE
           refine qP hE (Gives.p hE rfl) rfl ?_; clear hE a; intro a hE
           rcases Bool.eq_false_or_eq_true (q344 != 13) with hg346 | hg346
           ·replace hq336 := iteT hg346 hq336
            refine QL.no hE (runs_not hE rfl rfl rfl (by rw [hg346]; decide)) rfl ?_; clear hE a; intro a hE
            refine QL.no hE (runs_not hE rfl rfl rfl (by rw [hg346]; decide)) rfl ?_; clear hE a; intro a hE
            refine QL.no hE (runs_not hE rfl rfl rfl (by rw [hg346]; decide)) rfl ?_; clear hE a; intro a hE
            refine QL.no hE (runs_not hE rfl rfl rfl (by rw [hg346]; decide)) rfl ?_; clear hE a; intro a hE
            refine QL.no hE (runs_not hE rfl rfl rfl (by rw [hg346]; decide)) rfl ?_; clear hE a; intro a hE
            refine QL.no hE (runs_not hE rfl rfl rfl (by rw [hg346]; decide)) rfl ?_; clear hE a; intro a hE
            refine QL.no hE (runs_not hE rfl rfl rfl (by rw [hg346]; decide)) rfl ?_; clear hE a; intro a hE
            refine QL.no hE (runs_not hE rfl rfl rfl (by rw [hg346]; decide)) rfl ?_; clear hE a; intro a hE
            refine QL.no hE (runs_not hE rfl rfl rfl (by rw [hg346]; decide)) rfl ?_; clear hE a; intro a hE
            refine qP hE (Gives.pickT hE rfl hg346 rfl) rfl ?_; clear hE a; intro a hE
            refine QL.nil ?_; clear hS w; intro w hS
            subst hK341
            exact ⟨true, Option.some.inj hq336, hE.pick _ ⟨rfl, rfl, rfl, rfl, rfl, rfl, trivial⟩, hS⟩
           ·replace hq336 := iteF hg346 hq336
            refine QL.v hE (runs_if hE rfl rfl rfl hg346) (Gives.loadBA hE 0 rfl rfl ty56) rfl ?_; clear hE a; intro a hE
            refine QL.v hE (runs_if hE rfl rfl rfl hg346) (Gives.p hE rfl) rfl ?_; clear hE a; intro a hE
            refine QL.v hE (runs_if hE rfl rfl rfl hg346) (Gives.loadBA hE 6 rfl rfl ty25) rfl ?_; clear hE a; intro a hE
            refine QL.v hE (runs_if hE rfl rfl rfl hg346) (Gives.loadBA hE 5 rfl rfl ty28) rfl ?_; clear hE a; intro a hE
            obtain ⟨q347, hq348, hq336⟩ := bindS hq336
            refine QL.fnq hE (fun w hS => Fishref2Arrives_ok hS h0_0 h0_1 h1_0 hq348) (runs_if hE rfl rfl rfl hg346) bd14 rfl rfl rfl ?_; clear hE a; intro a hE
            refine QL.v hE (runs_if hE rfl rfl rfl hg346) (Gives.p hE rfl) rfl ?_; clear hE a; intro a hE
            refine QL.v hE (runs_if hE rfl rfl rfl hg346) (Gives.p hE rfl) rfl ?_; clear hE a; intro a hE
            obtain ⟨q349, hq350, hq336⟩ := bindS hq336
            refine QL.fnq hE (fun w hS => FareAccept_ok hS (TabG.mono (Sg.Le.trans (Sg.Le.trans hle180 hle216) hle245) hTab) Sl.nil hq350) (runs_if hE rfl rfl rfl hg346) bd15 rfl rfl rfl ?_; clear hE a; intro a hE
            refine QL.v hE (runs_if hE rfl rfl rfl hg346) (Gives.p hE rfl) rfl ?_; clear hE a; intro a hE
            refine qP hE (Gives.pickF hE rfl hg346 rfl) rfl ?_; clear hE a; intro a hE
            refine QL.nil ?_; clear hS w; intro w hS
            subst hK341
            exact ⟨(q349 != 13), Option.some.inj hq336, hE.pick _ ⟨rfl, rfl, rfl, rfl, rfl, rfl, trivial⟩, hS⟩
          ·clear hE hS a w; rintro a w ⟨q340, rfl, hE, hS⟩
           refine W.cond hE rfl (fun hc351 => ?_) (fun hc351 => ?_)
           ·replace hr := iteT hc351 hr
            refine W.seq (W.region ?_)
            refine vP hS hE (Gives.p hE rfl) rfl ?_; clear hE a; intro a hE
            refine WL.nil ?_
            refine W.ret ?_
            refine finG (fn := Tryz.f3) (rs := [.tmp 16]) (vs := [_]) hE rfl ⟨rfl, trivial⟩ ?_
            obtain rfl := Option.some.inj hr
            replace hS := hS.tail
            replace hS := hS.tail
            replace hS := hS.tail
            replace hS := hS.tail
            replace hS := hS.tail
            replace hS := hS.tail
            replace hS := hS.tail
            exact ⟨rfl, (hS.down (Sg.Le.trans (Sg.Le.trans hle180 hle216) hle245))⟩
           ·replace hr := iteF hc351 hr
            refine W.skip ?_
            refine W.seq ?_
            refine W.seq (W.region ?_)
            refine vP hS hE (Gives.p hE rfl) rfl ?_; clear hE a; intro a hE
            refine WL.nil ?_
            obtain ⟨q353, hq352, hr⟩ := bindS hr
            refine W.cut (fun a w => (.next ()) = q353 ∧ Rep a 267 [] ∧ St w s244 (pt b234 (.cells #[.int .i64 q211.1.N, .int .i64 q211.1.E, .int .i64 0] 56 (0, 0)) :: pt b217 (.cells (FareKey.cells q211.1).toArray 56 (0, 0)) :: vecC 3 1 a185 c186 q194.length cs192 :: pt b182 (.cells #[.slice a82 q81.length c83] 37 (0, 0)) :: pt b53 (.cells #[.bool x2.ByKm, .slice a2_0 x2.Bands.length c2_0, .int .i64 x2.Round, .slice a2_1 x2.Rules.length c2_1] 32 (0, 0)) :: pt b52 (.cells #[.slice a1_0 x1.Rides.length c1_0] 28 (0, 0)) :: pt b51 (.cells #[.slice a0_0 x0.Trains.length c0_0, .slice a0_1 x0.Turns.length c0_1] 25 (0, 0)) :: R)) ?_ ?_
            ·refine W.block ?_
             refine W.loop (fun m a w => ∃ (rest356 : Nat) (k354 : Nat), rest356 = m ∧ k354 + rest356 = 20 ∧ FishtopTopTicketed.loop5 x0 x1 fu q194 q211 q223 rest356 k354 = some q353 ∧ Rep a 267 [(8, .pointer (some ⟨b51, 0, none⟩)), (9, .pointer (some ⟨b52, 0, none⟩)), (18, .slice a185 q194.length c186), (27, .string q223.1), (28, .pointer (some ⟨b234, 0, none⟩)), (250, .int .i64 ((k354 : Nat) : Int))] ∧ St w s244 (pt b234 (.cells #[.int .i64 q211.1.N, .int .i64 q211.1.E, .int .i64 0] 56 (0, 0)) :: pt b217 (.cells (FareKey.cells q211.1).toArray 56 (0, 0)) :: vecC 3 1 a185 c186 q194.length cs192 :: pt b182 (.cells #[.slice a82 q81.length c83] 37 (0, 0)) :: pt b53 (.cells #[.bool x2.ByKm, .slice a2_0 x2.Bands.length c2_0, .int .i64 x2.Round, .slice a2_1 x2.Rules.length c2_1] 32 (0, 0)) :: pt b52 (.cells #[.slice a1_0 x1.Rides.length c1_0] 28 (0, 0)) :: pt b51 (.cells #[.slice a0_0 x0.Trains.length c0_0, .slice a0_1 x0.Turns.length c0_1] 25 (0, 0)) :: R)) (m := 20) ⟨20, 0, rfl, by omega, hq352, hE.pick _ ⟨rfl, rfl, rfl, rfl, rfl, rfl, trivial⟩, hS⟩ ?_
             clear hE hS a w hq352; rintro m360 a w ⟨rest356, k354, rfl, hd357, hq352, hE, hS⟩
             refine W.gen fun K363 hK363 => ?_
             rcases rest356 with _ | rest356
             ·skip
              refine W.seq (W.region ?_)
              refine vP hS hE (Gives.p hE rfl) rfl ?_; clear hE a; intro a hE
              refine WL.nil ?_
              refine W.seq ?_
              refine W.condF hE rfl (decide_eq_false (by omega)) ?_
              subst hK363
              refine W.exit rfl ?_
              exact ⟨Option.some.inj hq352, hE.pick _ trivial, hS⟩
             ·have hlt358 : k354 < 20 := by omega
              rw [FishtopTopTicketed.loop5] at hq352
              refine W.seq (W.region ?_)
              refine vP hS hE (Gives.p hE rfl) rfl ?_; clear hE a; intro a hE
              refine WL.nil ?_
              refine W.seq ?_
              refine W.condT hE rfl (decide_eq_true (by omega)) ?_
              refine W.skip ?_
              refine W.seq ?_
              refine W.block ?_
              refine W.seq (W.region ?_)
              refine vP hS hE (Gives.p hE rfl) rfl ?_; clear hE a; intro a hE
              refine vP hS hE (Gives.p hE rfl) rfl ?_; clear hE a; intro a hE
              refine WL.nil ?_
              refine W.seq (W.region ?_)
              refine vP hS hE (Gives.p hE rfl) rfl ?_; clear hE a; intro a hE
              refine vP hS hE (Gives.p hE rfl) rfl ?_; clear hE a; intro a hE
              have hF := hS.lendV RI.mono 2 rfl h193 (rfl); clear hS; obtain ⟨t364, hle365, hS, hs366, bk367⟩ := hF
              refine WL.fnq hE (SlicesContainsLint_ok hS hs366 rfl (r := SlicesContainsLint q194 ((k354 : Nat) : Int))) (runs_plain rfl) bd16 rfl rfl rfl ?_
              clear hE hS; rintro e w ⟨rfl, hS⟩; refine ⟨_, rfl, ?_⟩; clear a; intro a hE
              replace hS := bk367 _ _ hS
              refine vP hS hE (Gives.p hE rfl) rfl ?_; clear hE a; intro a hE
              refine WL.nil ?_
              refine W.seq ?_
              refine W.regionQ (C := fun w => St w s244 (vecC 3 1 a185 c186 q194.length cs192 :: pt b234 (.cells #[.int .i64 q211.1.N, .int .i64 q211.1.E, .int .i64 0] 56 (0, 0)) :: pt b217 (.cells (FareKey.cells q211.1).toArray 56 (0, 0)) :: pt b182 (.cells #[.slice a82 q81.length c83] 37 (0, 0)) :: pt b53 (.cells #[.bool x2.ByKm, .slice a2_0 x2.Bands.length c2_0, .int .i64 x2.Round, .slice a2_1 x2.Rules.length c2_1] 32 (0, 0)) :: pt b52 (.cells #[.slice a1_0 x1.Rides.length c1_0] 28 (0, 0)) :: pt b51 (.cells #[.slice a0_0 x0.Trains.length c0_0, .slice a0_1 x0.Turns.length c0_1] 25 (0, 0)) :: R)) mixed (by kernel_rfl) hS.drew ?_
              refine qP hE (Gives.p hE rfl) rfl ?_; clear hE a; intro a hE
              refine qP hE (Gives.loadBA hE 1 rfl rfl ty56) rfl ?_; clear hE a; intro a hE
              refine qP hE (Gives.p hE rfl) rfl ?_; clear hE a; intro a hE
              refine qP hE (Gives.loadBA hE 6 rfl rfl ty25) rfl ?_; clear hE a; intro a hE
              refine qP hE (Gives.loadBA hE 5 rfl rfl ty28) rfl ?_; clear hE a; intro a hE
              obtain ⟨q368, hq369, hq352⟩ := bindS hq352
              refine QL.fnq hE (fun w hS => Fishref2Leaves_ok hS h0_0 h0_1 h1_0 hq369) (runs_plain rfl) bd11 rfl rfl rfl ?_; clear hE a; intro a hE
              refine qP hE (Gives.p hE rfl) rfl ?_; clear hE a; intro a hE
              obtain ⟨q370, hq371, hq352⟩ := bindS hq352
              refine QL.fnq hE (fun w hS => FareAccept_ok hS (TabG.mono (Sg.Le.trans (Sg.Le.trans hle180 hle216) hle245) hTab) Sl.nil hq371) (runs_plain rfl) bd15 rfl rfl rfl ?_; clear hE a; intro a hE
              refine qP hE (Gives.p hE rfl) rfl ?_; clear hE a; intro a hE
              refine qP hE (Gives.neB hE rfl rfl bl4) rfl ?_; clear hE a; intro a hE
              refine QL.nil ?_; clear hS w; intro w hS
              refine W.cond hE rfl (fun hc372 => ?_) (fun hc372 => ?_)
              ·replace hq352 := iteT hc372 hq352
               refine W.seq (W.region ?_)
               refine vP hS hE (Gives.p hE rfl) rfl ?_; clear hE a; intro a hE
               refine WL.nil ?_
               refine W.ret ?_
               subst hK363
               rw [← Option.some.inj hq352] at hr
               dsimp only at hr
               refine finG (fn := Tryz.f3) (rs := [.tmp 16]) (vs := [_]) hE rfl ⟨rfl, trivial⟩ ?_
               obtain rfl := Option.some.inj hr
               replace hS := hS.tail
               replace hS := hS.tail
               replace hS := hS.tail
               replace hS := hS.tail
               replace hS := hS.tail
               replace hS := hS.tail
               replace hS := hS.tail
               exact ⟨rfl, (hS.down (Sg.Le.trans (Sg.Le.trans hle180 hle216) hle245))⟩
              ·replace hq352 := iteF hc372 hq352
               refine W.skip ?_
               refine W.region ?_
               refine vP hS hE (Gives.inc hE rfl (by omega)) rfl ?_; clear hE a; intro a hE
               refine vP hS hE (Gives.p hE rfl) rfl ?_; clear hE a; intro a hE
               refine WL.nil ?_
               replace hS := hS.front 6 rfl
               replace hS := hS.front 6 rfl
               replace hS := hS.front 6 rfl
               replace hS := hS.front 6 rfl
               replace hS := hS.front 4 rfl
               replace hS := hS.front 6 rfl
               replace hS := hS.front 6 rfl
               subst hK363
               exact ⟨rest356, Nat.lt_succ_self _, rest356, k354 + 1, rfl, (by omega), hq352, hE.pick _ ⟨rfl, rfl, rfl, rfl, rfl, rfl, trivial⟩, hS⟩
            ·clear hE hS a w; rintro a w ⟨rfl, hE, hS⟩
             dsimp only at hr
             refine W.seq (W.region ?_)
             refine vP hS hE (Gives.p hE rfl) rfl ?_; clear hE a; intro a hE
             refine WL.nil ?_
             refine W.ret ?_
             refine finG (fn := Tryz.f3) (rs := [.tmp 16]) (vs := [_]) hE rfl ⟨rfl, trivial⟩ ?_
             obtain rfl := Option.some.inj hr
             replace hS := hS.tail
             replace hS := hS.tail
             replace hS := hS.tail
             replace hS := hS.tail
             replace hS := hS.tail
             replace hS := hS.tail
             replace hS := hS.tail
             exact ⟨rfl, (hS.down (Sg.Le.trans (Sg.Le.trans hle180 hle216) hle245))⟩
end Go.Proofs.YtngamgkmhgmmjaaGreatDoor
