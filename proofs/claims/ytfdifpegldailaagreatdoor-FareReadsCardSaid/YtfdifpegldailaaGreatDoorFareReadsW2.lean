/- The walks of the functions that FareReads reaches: each call comes to what its mirror says. The conditions are those of each contract. -/
import Derived.Test.YtfdifpegldailaaGreatDoorProg
import Derived.Test.YtfdifpegldailaaGreatDoorFpTight
import Derived.Test.YtfdifpegldailaaGreatDoorFareReadsM
import Derived.Test.YtfdifpegldailaaGreatDoorFpAllT
import Derived.Test.YtfdifpegldailaaGreatDoorFareReadsS
import Derived.Test.YtfdifpegldailaaGreatDoorFpDfr
import Derived.Test.YtfdifpegldailaaGreatDoorFpErr
import Derived.Test.YtfdifpegldailaaGreatDoorFpJoin
import Derived.Test.YtfdifpegldailaaGreatDoorFpKeyB
import Derived.Test.YtfdifpegldailaaGreatDoorFpMeth
import Derived.Test.YtfdifpegldailaaGreatDoorFpPan
import Derived.Test.YtfdifpegldailaaGreatDoorFpRf
import Derived.Test.YtfdifpegldailaaGreatDoorFpRfO
import Derived.Test.YtfdifpegldailaaGreatDoorFpRgP
import Derived.Test.YtfdifpegldailaaGreatDoorFpRgn
import Derived.Test.YtfdifpegldailaaGreatDoorFpRune
import Derived.Test.YtfdifpegldailaaGreatDoorFareReadsW1
set_option maxRecDepth 10000
namespace Go.Proofs.YtfdifpegldailaaGreatDoor
open Go Go.Fp
set_option maxHeartbeats 8000000 in
theorem Faretariff_ok {fu : Nat}  {w : World} {s : Sg} {R : List HP} {x0 : ByteArray} (hS : St w s (R)) (hTab : TabX s) {r : Option FareTariff} (hr : Faretariff fu x0 = some r) :
  Calls Tryz.prog 19 [.string x0].toArray w (fun e w => (r = none ∧ e = .panicked [{ v := .iface 54 (.agg #[]), recovered := false }] ∧ ∃ (t : Sg), s.Le t ∧ St w t R) ∨ (∃ rr, r = some rr ∧ ∃ (cs0 : List Value) (t : Sg), e = .returned (.agg cs0.toArray) ∧ s.Le t ∧ RFareTariff t cs0 rr ∧ St w t (R))) := by
 refine enter Tryz.func19 rfl rfl rfl fun a hE => ?_
 rw [Faretariff] at hr
 refine W.seq (W.region ?_)
 refine WL.alloc hE hS (runs_plain rfl) zr25 rfl ?_; clear hE hS a w; intro b51 a w hE hS
 refine WL.nil ?_
 refine W.seq (W.region (vp hS hE rfl rfl fun a hE => ?_))
 obtain ⟨q52, hq53, hr⟩ := bindS hr
 refine WL.fnq hE (cuts_ok hS hq53) (runs_plain rfl) bd37 rfl rfl rfl ?_
 clear hE hS; rintro e w ⟨rfl, hS⟩; refine ⟨_, rfl, ?_⟩; clear a; intro a hE
 refine v2 hS hE rfl rfl rfl rfl fun a hE => ?_
 refine v2 hS hE rfl rfl rfl rfl fun a hE => ?_
 refine vp hS hE rfl rfl fun a hE => WL.nil ?_
 refine W.seq ?_
 refine W.seq (W.region (v2 hS hE rfl rfl rfl rfl fun a hE => WL.nil ?_))
 refine W.cond hE rfl (fun hc54 => ?_) (fun hc54 => ?_)
 ·replace hr := iteT hc54 hr
  refine W.region ?_
  refine vP hS hE (Gives.build hE (vs := []) [] rfl (by kernel_rfl)) rfl fun a hE => ?_
  refine vP hS hE (Gives.iface hE rfl ifc54) rfl fun a hE => ?_
  refine WL.panic hE rfl (runs_plain rfl) fun a hE => ?_
  refine ⟨hE.defers.trans rfl, ?_⟩
  obtain rfl := Option.some.inj hr
  replace hS := hS.tail
  exact .inl ⟨rfl, rfl, s, (Sg.Le.refl _), hS⟩
 replace hr := iteF hc54 hr
 refine W.skip ?_
 refine W.seq (W.region ?_)
 refine WL.alloc hE hS (runs_plain rfl) zr25 rfl ?_; clear hE hS a w; intro b55 a w hE hS
 refine WL.nil ?_
 refine W.seq (W.region (vp hS hE rfl rfl fun a hE => WL.nil ?_))
 refine W.seq ?_
 refine W.seq (W.region (vp hS hE rfl rfl fun a hE => ?_))
 obtain ⟨q56, hq57, hr⟩ := bindS hr
 refine WL.fnq hE (split_ok hS (TabG.mono (Sg.Le.refl _) hTab) hq57) (runs_plain rfl) bd38 rfl rfl rfl ?_
 clear hE hS; rintro e w ⟨b58, cs59, rfl, h60, hS⟩; refine ⟨_, rfl, ?_⟩; clear a; intro a hE
 refine vP hS hE (Gives.len hE rfl sl59) rfl fun a hE => ?_
 refine vp hS hE rfl rfl fun a hE => WL.nil ?_
 replace hS := hS.vecNil 40 2
 replace hS := hS.vecNil 45 7
 have hb75 : q56.length ≤ 9223372036854775807 := by have := hS.vecCap 2 rfl; unfold maxLen at this; omega
 obtain ⟨q65, hq64, hr⟩ := bindS hr
 refine W.cut (fun a w => ∃ (q76 : Int), ∃ (q77 : Bool), ∃ (q78 : List FareBand), ∃ (q85 : Int), ∃ (q86 : List FareRule), ∃ (a79 : Option Addr), ∃ (c80 : Nat), ∃ (n82 : Nat), ∃ (cs83 : List Value), ∃ (a87 : Option Addr), ∃ (c88 : Nat), ∃ (n90 : Nat), ∃ (cs91 : List Value), ∃ (s73 : Sg), s.Le s73 ∧ (.next (q76, q77, q78, q85, q86)) = q65 ∧ Ev 2 RFareBand s73 cs83 q78 ∧ q78.length = n82 ∧ Ev 7 RFareRule s73 cs91 q86 ∧ q86.length = n90 ∧ Rep a 97 [(0, .string x0), (2, pp b51), (5, pp b55), (6, vi q76)] ∧ St w s73 (vecC 45 7 a87 c88 n90 cs91 :: vecC 40 2 a79 c80 n82 cs83 :: vecC 9 1 (some ⟨b58, 0, none⟩) q56.length q56.length cs59 :: pc b55 #[.bool q77, .slice a79 n82 c80, vi q85, .slice a87 n90 c88] 25 :: pc b51 #[.bool false, .slice none 0 0, vi 0, .slice none 0 0] 25 :: R)) ?_ ?_
 ·refine W.block ?_
  refine W.loop (fun m a w => ∃ (rest68 : Nat) (k66 : Nat), ∃ (q76 : Int), ∃ (q77 : Bool), ∃ (q78 : List FareBand), ∃ (q85 : Int), ∃ (q86 : List FareRule), ∃ (a79 : Option Addr), ∃ (c80 : Nat), ∃ (n82 : Nat), ∃ (cs83 : List Value), ∃ (a87 : Option Addr), ∃ (c88 : Nat), ∃ (n90 : Nat), ∃ (cs91 : List Value), ∃ (s73 : Sg), rest68 = m ∧ k66 + rest68 = q56.length ∧ s.Le s73 ∧ Faretariff.loop1 fu q56 rest68 k66 q76 q77 q78 q85 q86 = some q65 ∧ Ev 2 RFareBand s73 cs83 q78 ∧ q78.length = n82 ∧ Ev 7 RFareRule s73 cs91 q86 ∧ q86.length = n90 ∧ Rep a 97 [(0, .string x0), (2, pp b51), (5, pp b55), (6, vi q76), (20, .slice (some ⟨b58, 0, none⟩) q56.length q56.length), (21, vi ((q56.length : Nat) : Int)), (22, vi ((k66 : Nat) : Int))] ∧ St w s73 (vecC 45 7 a87 c88 n90 cs91 :: vecC 40 2 a79 c80 n82 cs83 :: vecC 9 1 (some ⟨b58, 0, none⟩) q56.length q56.length cs59 :: pc b55 #[.bool q77, .slice a79 n82 c80, vi q85, .slice a87 n90 c88] 25 :: pc b51 #[.bool false, .slice none 0 0, vi 0, .slice none 0 0] 25 :: R)) (m := q56.length) ⟨q56.length, 0, 0, false, [], 0, [], none, 0, 0, [], none, 0, 0, [], s, rfl, by omega, (Sg.Le.refl _), hq64, (Ev.nil), (rfl), (Ev.nil), (rfl), hE.pick _ ⟨rfl, rfl, rfl, rfl, rfl, rfl, rfl, trivial⟩, hS⟩ ?_
  clear hE hS a w hq64; rintro m72 a w ⟨rest68, k66, q76, q77, q78, q85, q86, a79, c80, n82, cs83, a87, c88, n90, cs91, s73, rfl, hd69, hle74, hq64, h81, rfl, h89, rfl, hE, hS⟩
  refine W.gen fun K93 hK93 => ?_
  replace h60 := Ev.mono RS.mono hle74 h60
  rcases rest68 with _ | rest68
  ·skip
   refine W.seq (W.region (vp hS hE rfl rfl fun a hE => WL.nil ?_))
   refine W.seq ?_
   refine W.condF hE rfl (decide_eq_false (by omega)) ?_
   subst hK93
   refine W.exit rfl ?_
   exact ⟨q76, q77, q78, q85, q86, a79, c80, q78.length, cs83, a87, c88, q86.length, cs91, s73, hle74, Option.some.inj hq64, h81, rfl, h89, rfl, hE.pick _ ⟨rfl, rfl, rfl, rfl, trivial⟩, hS⟩
  have hlt70 : k66 < q56.length := by omega
  rw [Faretariff.loop1] at hq64
  refine W.seq (W.region (vp hS hE rfl rfl fun a hE => WL.nil ?_))
  refine W.seq ?_
  refine W.condT hE rfl (decide_eq_true (by omega)) ?_
  refine W.skip ?_
  refine W.seq ?_
  refine W.block ?_
  refine W.seq (W.region ?_)
  obtain ⟨x94, hx95, hq64⟩ := bindS hq64
  obtain ⟨hi96, hlt97, hy98⟩ := gx_some hx95
  obtain ⟨vs99, hl100, hR101, hd102, hget103⟩ := h60.at hy98
  subst hR101
  refine vP hS hE (Gives.idx hE ((((k66 : Nat) : Int)).toNat) rfl rfl sl59 hi96 (by omega) (hS.vecAok 2 rfl (by omega : (((k66 : Nat) : Int)).toNat < q56.length))) rfl fun a hE => ?_
  refine vP hS hE (Gives.load1 hE rfl (fun w h => St.vecSees h 2 rfl ((((k66 : Nat) : Int)).toNat * 1) _ hget103) ty9) rfl fun a hE => ?_
  refine vp hS hE rfl rfl fun a hE => WL.nil ?_
  refine W.seq (W.region (vp hS hE rfl rfl fun a hE => ?_))
  obtain ⟨q104, hq105, hq64⟩ := bindS hq64
  have hc_ := Farewords_ok hS  hq105
  refine WL.fnq hE (hc_) (runs_plain rfl) bd39 rfl rfl rfl ?_
  clear hE hS hc_; rintro e w ⟨a106, c107, n108, cs109, rfl, h110, rfl, hS⟩; refine ⟨_, rfl, ?_⟩; clear a; intro a hE
  refine vP hS hE (Gives.build hE (vs := [(0, .slice a106 q104.length c107)]) [.slice a106 q104.length c107, vi 0] rfl (by kernel_rfl)) rfl fun a hE => ?_
  refine WL.box hE hS (runs_plain rfl) rfl rfl rfl ?_; clear hE hS a w; intro b112 a w hE hS
  refine vp hS hE rfl rfl fun a hE => WL.nil ?_
  refine W.seq ?_
  refine W.block ?_
  refine W.seq (W.region (v2 hS hE rfl rfl rfl rfl fun a hE => ?_))
  refine vp hS hE rfl rfl fun a hE => WL.nil ?_
  obtain ⟨q114, hq113, hq64⟩ := bindS hq64
  refine W.cut (fun a w => ∃ (q117 : Int), ∃ (q118 : Int), ∃ (q119 : Bool), ∃ (q120 : List FareBand), ∃ (q127 : Int), ∃ (q128 : List FareRule), ∃ (a121 : Option Addr), ∃ (c122 : Nat), ∃ (n124 : Nat), ∃ (cs125 : List Value), ∃ (a129 : Option Addr), ∃ (c130 : Nat), ∃ (n132 : Nat), ∃ (cs133 : List Value), ∃ (s115 : Sg), s73.Le s115 ∧ .next (q117, q118, q119, q120, q127, q128) = q114 ∧ Ev 2 RFareBand s115 cs125 q120 ∧ q120.length = n124 ∧ Ev 7 RFareRule s115 cs133 q128 ∧ q128.length = n132 ∧ Rep a 97 [(0, .string x0), (2, pp b51), (5, pp b55), (6, vi q117), (9, pp b112), (20, .slice (some ⟨b58, 0, none⟩) q56.length q56.length), (21, vi ((q56.length : Nat) : Int)), (22, vi ((k66 : Nat) : Int))] ∧ St w s115 (pc b112 #[.slice a106 q104.length c107, vi q118] 89 :: vecC 9 1 a106 c107 q104.length cs109 :: vecC 45 7 a129 c130 n132 cs133 :: vecC 40 2 a121 c122 n124 cs125 :: vecC 9 1 (some ⟨b58, 0, none⟩) q56.length q56.length cs59 :: pc b55 #[.bool q119, .slice a121 n124 c122, vi q127, .slice a129 n132 c130] 25 :: pc b51 #[.bool false, .slice none 0 0, vi 0, .slice none 0 0] 25 :: R)) ?_ ?_
  ·refine W.gen fun K135 hK135 => ?_
   refine W.cond hE rfl (fun hc136 => ?_) (fun hc136 => ?_)
   ·replace hq113 := iteT hc136 hq113
    refine W.seq (W.region (vp hS hE rfl rfl fun a hE => ?_))
    obtain ⟨q137, hq138, hq113⟩ := bindS hq113
    have hc_ := FareReadertake_v1_ok (y0 := (FareReader.mk q104 0)) hS h110 rfl hq138
    refine WL.fnq hE (hc_) (runs_plain rfl) bd40 rfl rfl rfl ?_
    clear hE hS hc_; rintro e w ⟨rfl, hS⟩; refine ⟨_, rfl, ?_⟩; clear a; intro a hE
    refine vP hS hE (Gives.fld hE rfl fl25_0) rfl fun a hE => ?_
    refine WL.storeI hE hS 5 rfl [.bool q137.1, .slice a79 q78.length c80, vi q85, .slice a87 q86.length c88] (runs_plain rfl) rfl rfl rfl ty4 rfl rfl rfl rfl ?_; clear hE hS a w; intro a w hE hS
    refine WL.nil ?_
    refine W.seq ?_
    refine W.seq (W.region (vP hS hE (Gives.fld hE rfl fl25_0) rfl fun a hE => ?_))
    refine vP hS hE (Gives.loadB hE 5 rfl rfl rfl ty4) rfl fun a hE => ?_
    refine vp hS hE rfl rfl fun a hE => WL.nil ?_
    refine W.cond hE rfl (fun hc139 => ?_) (fun hc139 => ?_)
    ·replace hq113 := iteT hc139 hq113
     refine W.region ?_
     refine vp hS hE rfl rfl fun a hE => ?_
     obtain ⟨q140, hq141, hq113⟩ := bindS hq113
     have hc_ := FareReadermust_v1_ok (y0 := (FareReader.mk q104 q137.2)) hS h110 rfl hq141
     refine WL.fnP hE (hc_) (runs_plain rfl) bd41 rfl rfl rfl ?_
     clear hE hS hc_; rintro e w (⟨hz143, rfl, t145, hle146, hS⟩ | ⟨rr142, hz144, rfl, hS⟩)
     ·refine .inr ⟨_, rfl, ?_⟩; clear a; intro a hE
      rw [hz143] at hq113; dsimp only at hq113
      replace hS := hS.down hle146
      subst hK135
      subst hK93
      rw [← Option.some.inj hq113] at hq64
      dsimp only at hq64
      rw [← Option.some.inj hq64] at hr
      dsimp only at hr
      refine ⟨hE.defers.trans rfl, ?_⟩
      obtain rfl := Option.some.inj hr
      replace hS := hS.tail
      replace hS := hS.tail
      replace hS := hS.tail
      replace hS := hS.tail
      replace hS := hS.tail
      exact .inl ⟨rfl, rfl, s73, hle74, hS⟩
     refine .inl ⟨_, rfl, ?_⟩; clear a; intro a hE
     rw [hz144] at hq113; dsimp only at hq113
     refine WL.nil ?_
     refine W.region ?_
     refine vp hS hE rfl rfl fun a hE => WL.nil ?_
     subst hK135
     exact ⟨1, rr142, q137.1, q78, q85, q86, a79, c80, q78.length, cs83, a87, c88, q86.length, cs91, s73, (Sg.Le.refl _), Option.some.inj hq113, h81, rfl, h89, rfl, hE.pick _ ⟨rfl, rfl, rfl, rfl, rfl, rfl, rfl, rfl, trivial⟩, hS⟩
    replace hq113 := iteF hc139 hq113
    refine W.skip ?_
    refine W.region ?_
    refine vp hS hE rfl rfl fun a hE => WL.nil ?_
    subst hK135
    exact ⟨1, q137.2, q137.1, q78, q85, q86, a79, c80, q78.length, cs83, a87, c88, q86.length, cs91, s73, (Sg.Le.refl _), Option.some.inj hq113, h81, rfl, h89, rfl, hE.pick _ ⟨rfl, rfl, rfl, rfl, rfl, rfl, rfl, rfl, trivial⟩, hS⟩
   replace hq113 := iteF hc136 hq113
   refine W.seq ?_
   obtain ⟨q148, hq147, hq113⟩ := bindS hq113
   refine W.cut (fun a w => ∃ (q151 : Bool), ∃ (q152 : Int), (q151, q152) = q148 ∧ Rep a 97 [(0, .string x0), (2, pp b51), (5, pp b55), (6, vi q76), (9, pp b112), (20, .slice (some ⟨b58, 0, none⟩) q56.length q56.length), (21, vi ((q56.length : Nat) : Int)), (22, vi ((k66 : Nat) : Int)), (48, .bool q151)] ∧ St w s73 (pc b112 #[.slice a106 q104.length c107, vi q152] 89 :: vecC 9 1 a106 c107 q104.length cs109 :: vecC 45 7 a87 c88 q86.length cs91 :: vecC 40 2 a79 c80 q78.length cs83 :: vecC 9 1 (some ⟨b58, 0, none⟩) q56.length q56.length cs59 :: pc b55 #[.bool q77, .slice a79 q78.length c80, vi q85, .slice a87 q86.length c88] 25 :: pc b51 #[.bool false, .slice none 0 0, vi 0, .slice none 0 0] 25 :: R)) ?_ ?_
   ·refine W.gen fun K153 hK153 => ?_
    refine W.region ?_
    refine v2 hS hE rfl rfl rfl rfl fun a hE => ?_
    refine vp hS hE rfl rfl fun a hE => ?_
    rcases Bool.eq_false_or_eq_true (q76 == 1) with hg154 | hg154
    ·replace hq147 := iteT hg154 hq147
     refine WL.vS hS hE (runs_if hE rfl rfl rfl hg154) (Gives.p hE rfl) rfl fun a hE => ?_
     obtain ⟨q155, hq156, hq147⟩ := bindS hq147
     have hc_ := FareReadertake_v1_ok (y0 := (FareReader.mk q104 0)) hS h110 rfl hq156
     refine WL.fnq hE (hc_) (runs_if hE rfl rfl rfl hg154) bd40 rfl rfl rfl ?_
     clear hE hS hc_; rintro e w ⟨rfl, hS⟩; refine ⟨_, rfl, ?_⟩; clear a; intro a hE
     refine vP hS hE (Gives.pickT hE rfl hg154 rfl) rfl fun a hE => ?_
     refine vp hS hE rfl rfl fun a hE => WL.nil ?_
     subst hK153
     exact ⟨q155.1, q155.2, Option.some.inj hq147, hE.pick _ ⟨rfl, rfl, rfl, rfl, rfl, rfl, rfl, rfl, rfl, trivial⟩, hS⟩
    replace hq147 := iteF hg154 hq147
    refine nO hE rfl rfl rfl (by rw [hg154]; decide) rfl fun a hE => ?_
    refine nO hE rfl rfl rfl (by rw [hg154]; decide) rfl fun a hE => ?_
    refine vP hS hE (Gives.pickF hE rfl hg154 rfl) rfl fun a hE => ?_
    refine vp hS hE rfl rfl fun a hE => WL.nil ?_
    subst hK153
    exact ⟨false, 0, Option.some.inj hq147, hE.pick _ ⟨rfl, rfl, rfl, rfl, rfl, rfl, rfl, rfl, rfl, trivial⟩, hS⟩
   clear hE hS a w; rintro a w ⟨q151, q152, rfl, hE, hS⟩
   dsimp only at hq113
   obtain ⟨q158, hq157, hq113⟩ := bindS hq113
   refine W.cut (fun a w => ∃ (q161 : Int), ∃ (q162 : Int), ∃ (q163 : List FareBand), ∃ (q170 : Int), ∃ (q171 : List FareRule), ∃ (a164 : Option Addr), ∃ (c165 : Nat), ∃ (n167 : Nat), ∃ (cs168 : List Value), ∃ (a172 : Option Addr), ∃ (c173 : Nat), ∃ (n175 : Nat), ∃ (cs176 : List Value), ∃ (s159 : Sg), s73.Le s159 ∧ .next (q161, q162, q163, q170, q171) = q158 ∧ Ev 2 RFareBand s159 cs168 q163 ∧ q163.length = n167 ∧ Ev 7 RFareRule s159 cs176 q171 ∧ q171.length = n175 ∧ Rep a 97 [(0, .string x0), (2, pp b51), (5, pp b55), (6, vi q161), (9, pp b112), (20, .slice (some ⟨b58, 0, none⟩) q56.length q56.length), (21, vi ((q56.length : Nat) : Int)), (22, vi ((k66 : Nat) : Int))] ∧ St w s159 (pc b112 #[.slice a106 q104.length c107, vi q162] 89 :: vecC 9 1 a106 c107 q104.length cs109 :: vecC 45 7 a172 c173 n175 cs176 :: vecC 40 2 a164 c165 n167 cs168 :: vecC 9 1 (some ⟨b58, 0, none⟩) q56.length q56.length cs59 :: pc b55 #[.bool q77, .slice a164 n167 c165, vi q170, .slice a172 n175 c173] 25 :: pc b51 #[.bool false, .slice none 0 0, vi 0, .slice none 0 0] 25 :: R)) ?_ ?_
   ·refine W.gen fun K178 hK178 => ?_
    refine W.cond hE rfl (fun hc179 => ?_) (fun hc179 => ?_)
    ·replace hq157 := iteT hc179 hq157
     refine W.gen fun K180 hK180 => ?_
     have hPF : PanF K180.pan := by subst hK180; subst hK178; subst hK135; subst hK93; rintro c (_ | d) v a w h <;> exact h
     refine rQ hS [] [0, 2] [0, 1, 2, 4, 6, 7, 9] [0, 1, 2, 3, 4, 5, 6, 7, 8, 9] mixed ?_
     replace hS := hS.drew
     refine Rq.takeP hPF (i := 0) hE rfl (by kernel_rfl) (runs_plain rfl) (Gives.fld hE rfl fl25_1) rfl (tw_sel (fun _ => hS) (fun _ => ((hS.tail).dropAt 2))) fun a hE => ?_
     refine Rq.take hPF (i := 1) false rfl hE rfl (by kernel_rfl) (runs_plain rfl) (Gives.loadB hE 3 rfl rfl rfl ty22) rfl (tw_sel (fun _ => hS) (fun _ => ((hS.tail).dropAt 2))) fun a hE => ?_
     refine Rq.takeP hPF (i := 2) hE rfl (by kernel_rfl) (runs_plain rfl) (Gives.p hE rfl) rfl (tw_sel (fun _ => hS) (fun _ => ((hS.tail).dropAt 2))) fun a hE => ?_
     refine Rq.takeP hPF (i := 4) hE rfl (by kernel_rfl) (runs_plain rfl) (Gives.p hE rfl) rfl (tw_sel (fun _ => hS) (fun _ => ((hS.tail).dropAt 2))) fun a hE => ?_
     refine Rq.one (i := 3) false true rfl (by kernel_rfl) (by kernel_rfl) (by kernel_rfl) ?_
     obtain ⟨q181, hq182, hq157⟩ := bindS hq157
     have hc_ := FareReadernumber_v1_ok (y0 := (FareReader.mk q104 q152)) hS (TabG.mono hle74 hTab) h110 rfl hq182
     refine WL.fnP hE (hc_) (runs_plain rfl) bd42 rfl rfl rfl ?_
     clear hE hS hc_; rintro e w (⟨hz184, rfl, t186, hle187, hS⟩ | ⟨rr183, hz185, rfl, hS⟩)
     ·refine .inr ⟨_, rfl, ?_⟩; clear a; intro a hE
      rw [hz184] at hq157; dsimp only at hq157
      replace hS := hS.down hle187
      subst hK180
      subst hK178
      subst hK135
      subst hK93
      rw [← Option.some.inj hq157] at hq113
      dsimp only at hq113
      rw [← Option.some.inj hq113] at hq64
      dsimp only at hq64
      rw [← Option.some.inj hq64] at hr
      dsimp only at hr
      refine ⟨hE.defers.trans rfl, ?_⟩
      obtain rfl := Option.some.inj hr
      replace hS := hS.tail
      replace hS := hS.tail
      replace hS := hS.tail
      replace hS := hS.tail
      replace hS := hS.tail
      exact .inl ⟨rfl, rfl, s73, hle74, hS⟩
     refine .inl ⟨_, rfl, ?_⟩; clear a; intro a hE
     rw [hz185] at hq157; dsimp only at hq157
     refine WL.nil ?_
     refine ⟨⟨fun h => absurd h (by decide), fun _ => ((hS.tail).dropAt 2)⟩, ?_⟩
     refine Rq.one (i := 5) false true rfl (by kernel_rfl) (by kernel_rfl) (by kernel_rfl) ?_
     obtain ⟨q188, hq189, hq157⟩ := bindS hq157
     have hc_ := FareReadernumber_v1_ok (y0 := (FareReader.mk q104 rr183.2)) hS (TabG.mono hle74 hTab) h110 rfl hq189
     refine WL.fnP hE (hc_) (runs_plain rfl) bd42 rfl rfl rfl ?_
     clear hE hS hc_; rintro e w (⟨hz191, rfl, t193, hle194, hS⟩ | ⟨rr190, hz192, rfl, hS⟩)
     ·refine .inr ⟨_, rfl, ?_⟩; clear a; intro a hE
      rw [hz191] at hq157; dsimp only at hq157
      replace hS := hS.down hle194
      subst hK180
      subst hK178
      subst hK135
      subst hK93
      rw [← Option.some.inj hq157] at hq113
      dsimp only at hq113
      rw [← Option.some.inj hq113] at hq64
      dsimp only at hq64
      rw [← Option.some.inj hq64] at hr
      dsimp only at hr
      refine ⟨hE.defers.trans rfl, ?_⟩
      obtain rfl := Option.some.inj hr
      replace hS := hS.tail
      replace hS := hS.tail
      replace hS := hS.tail
      replace hS := hS.tail
      replace hS := hS.tail
      exact .inl ⟨rfl, rfl, s73, hle74, hS⟩
     refine .inl ⟨_, rfl, ?_⟩; clear a; intro a hE
     rw [hz192] at hq157; dsimp only at hq157
     refine WL.nil ?_
     refine ⟨⟨fun h => absurd h (by decide), fun _ => ((hS.tail).dropAt 2)⟩, ?_⟩
     refine Rq.takeP hPF (i := 6) hE rfl (by kernel_rfl) (runs_plain rfl) (Gives.build hE (vs := [(0, vi rr183.1), (1, vi rr190.1)]) [vi rr183.1, vi rr190.1] rfl (by kernel_rfl)) rfl (tw_sel (fun h => absurd h (by decide)) (fun _ => ((hS.tail).dropAt 2))) fun a hE => ?_
     refine Rq.one (i := 7) false true rfl (by kernel_rfl) (by kernel_rfl) (by kernel_rfl) ?_
     refine WL.lit hE hS (e := 40) (es := 2) (vs := [(0, .agg (List.toArray [vi rr183.1, vi rr190.1]))]) (cs := [vi rr183.1, vi rr190.1]) (runs_plain rfl) rfl (by kernel_rfl) rfl ?_; clear hE hS a w; intro b195 a w hE hS
     refine WL.nil ?_
     refine ⟨⟨fun h => absurd h (by decide), fun _ => (((hS.tail).tail).dropAt 2)⟩, ?_⟩
     refine Rq.one (i := 8) false true rfl (by kernel_rfl) (by kernel_rfl) (by kernel_rfl) ?_
     obtain ⟨x196, hx197, hq157⟩ := bindS hq157
     refine WL.appD hE hS 3 (m := 1) (runs_plain rfl) rfl rfl rfl ap22 rfl h81 rfl (xs := [(FareBand.mk rr183.1 rr190.1)]) (Ev.cons (c1 := [vi rr183.1, vi rr190.1]) rfl rfl (Ev.nil)) rfl rfl hx197 rfl ?_; clear hE hS a w; intro a198 c199 cs200 a w h201 hE hS
     refine WL.nil ?_
     refine ⟨⟨fun h => absurd h (by decide), fun _ => ((hS.tail).dropAt 2)⟩, ?_⟩
     refine Rq.takeP hPF (i := 9) hE rfl (by kernel_rfl) (runs_plain rfl) (Gives.fld hE rfl fl25_1) rfl (tw_sel (fun h => absurd h (by decide)) (fun _ => ((hS.tail).dropAt 2))) fun a hE => ?_
     refine Rq.one (i := 10) false false rfl (by kernel_rfl) (by kernel_rfl) (by kernel_rfl) ?_
     refine WL.storeI hE hS 5 rfl [.bool q77, .slice a198 x196.length c199, vi q85, .slice a87 q86.length c88] (runs_plain rfl) rfl rfl rfl ty22 rfl rfl rfl rfl ?_; clear hE hS a w; intro a w hE hS
     refine WL.nil ?_
     refine ⟨⟨fun h => absurd h (by decide), fun h => absurd h (by decide)⟩, ?_⟩
     refine Rq.done (by kernel_rfl) ?_
     subst hK180
     subst hK178
     exact ⟨q76, rr190.2, x196, q85, q86, a198, c199, x196.length, cs200, a87, c88, q86.length, cs91, s73, (Sg.Le.refl _), Option.some.inj hq157, h201, (rfl), h89, rfl, hE.pick _ ⟨rfl, rfl, rfl, rfl, rfl, rfl, rfl, rfl, trivial⟩, hS⟩
    replace hq157 := iteF hc179 hq157
    refine W.seq (W.region (v2 hS hE rfl rfl rfl rfl fun a hE => ?_))
    refine vp hS hE rfl rfl fun a hE => WL.nil ?_
    obtain ⟨q203, hq202, hq157⟩ := bindS hq157
    refine W.cut (fun a w => ∃ (q206 : Int), ∃ (q207 : Int), ∃ (q208 : Int), ∃ (q209 : List FareRule), ∃ (a210 : Option Addr), ∃ (c211 : Nat), ∃ (n213 : Nat), ∃ (cs214 : List Value), ∃ (s204 : Sg), s73.Le s204 ∧ .next (q206, q207, q208, q209) = q203 ∧ Ev 7 RFareRule s204 cs214 q209 ∧ q209.length = n213 ∧ Rep a 97 [(0, .string x0), (2, pp b51), (5, pp b55), (6, vi q206), (9, pp b112), (20, .slice (some ⟨b58, 0, none⟩) q56.length q56.length), (21, vi ((q56.length : Nat) : Int)), (22, vi ((k66 : Nat) : Int))] ∧ St w s204 (pc b112 #[.slice a106 q104.length c107, vi q207] 89 :: vecC 9 1 a106 c107 q104.length cs109 :: vecC 45 7 a210 c211 n213 cs214 :: vecC 40 2 a79 c80 q78.length cs83 :: vecC 9 1 (some ⟨b58, 0, none⟩) q56.length q56.length cs59 :: pc b55 #[.bool q77, .slice a79 q78.length c80, vi q208, .slice a210 n213 c211] 25 :: pc b51 #[.bool false, .slice none 0 0, vi 0, .slice none 0 0] 25 :: R)) ?_ ?_
    ·refine W.gen fun K216 hK216 => ?_
     refine W.cond hE rfl (fun hc217 => ?_) (fun hc217 => ?_)
     ·replace hq202 := iteT hc217 hq202
      refine W.seq (W.region (vp hS hE rfl rfl fun a hE => ?_))
      obtain ⟨q218, hq219, hq202⟩ := bindS hq202
      have hc_ := FareReadermust_v1_ok (y0 := (FareReader.mk q104 q152)) hS h110 rfl hq219
      refine WL.fnP hE (hc_) (runs_plain rfl) bd41 rfl rfl rfl ?_
      clear hE hS hc_; rintro e w (⟨hz221, rfl, t223, hle224, hS⟩ | ⟨rr220, hz222, rfl, hS⟩)
      ·refine .inr ⟨_, rfl, ?_⟩; clear a; intro a hE
       rw [hz221] at hq202; dsimp only at hq202
       replace hS := hS.down hle224
       subst hK216
       subst hK178
       subst hK135
       subst hK93
       rw [← Option.some.inj hq202] at hq157
       dsimp only at hq157
       rw [← Option.some.inj hq157] at hq113
       dsimp only at hq113
       rw [← Option.some.inj hq113] at hq64
       dsimp only at hq64
       rw [← Option.some.inj hq64] at hr
       dsimp only at hr
       refine ⟨hE.defers.trans rfl, ?_⟩
       obtain rfl := Option.some.inj hr
       replace hS := hS.tail
       replace hS := hS.tail
       replace hS := hS.tail
       replace hS := hS.tail
       replace hS := hS.tail
       exact .inl ⟨rfl, rfl, s73, hle74, hS⟩
      refine .inl ⟨_, rfl, ?_⟩; clear a; intro a hE
      rw [hz222] at hq202; dsimp only at hq202
      refine WL.nil ?_
      refine W.seq (W.region (vp hS hE rfl rfl fun a hE => ?_))
      obtain ⟨q225, hq226, hq202⟩ := bindS hq202
      have hc_ := FareReadernumber_v1_ok (y0 := (FareReader.mk q104 rr220)) hS (TabG.mono hle74 hTab) h110 rfl hq226
      refine WL.fnP hE (hc_) (runs_plain rfl) bd42 rfl rfl rfl ?_
      clear hE hS hc_; rintro e w (⟨hz228, rfl, t230, hle231, hS⟩ | ⟨rr227, hz229, rfl, hS⟩)
      ·refine .inr ⟨_, rfl, ?_⟩; clear a; intro a hE
       rw [hz228] at hq202; dsimp only at hq202
       replace hS := hS.down hle231
       subst hK216
       subst hK178
       subst hK135
       subst hK93
       rw [← Option.some.inj hq202] at hq157
       dsimp only at hq157
       rw [← Option.some.inj hq157] at hq113
       dsimp only at hq113
       rw [← Option.some.inj hq113] at hq64
       dsimp only at hq64
       rw [← Option.some.inj hq64] at hr
       dsimp only at hr
       refine ⟨hE.defers.trans rfl, ?_⟩
       obtain rfl := Option.some.inj hr
       replace hS := hS.tail
       replace hS := hS.tail
       replace hS := hS.tail
       replace hS := hS.tail
       replace hS := hS.tail
       exact .inl ⟨rfl, rfl, s73, hle74, hS⟩
      refine .inl ⟨_, rfl, ?_⟩; clear a; intro a hE
      rw [hz229] at hq202; dsimp only at hq202
      refine vP hS hE (Gives.fld hE rfl fl25_2) rfl fun a hE => ?_
      refine WL.storeI hE hS 5 rfl [.bool q77, .slice a79 q78.length c80, vi rr227.1, .slice a87 q86.length c88] (runs_plain rfl) rfl rfl rfl ty3 rfl rfl rfl rfl ?_; clear hE hS a w; intro a w hE hS
      refine WL.nil ?_
      refine W.region ?_
      refine vp hS hE rfl rfl fun a hE => WL.nil ?_
      subst hK216
      exact ⟨2, rr227.2, rr227.1, q86, a87, c88, q86.length, cs91, s73, (Sg.Le.refl _), Option.some.inj hq202, h89, rfl, hE.pick _ ⟨rfl, rfl, rfl, rfl, rfl, rfl, rfl, rfl, trivial⟩, hS⟩
     replace hq202 := iteF hc217 hq202
     refine W.gen fun K232 hK232 => ?_
     have hPF : PanF K232.pan := by subst hK232; subst hK216; subst hK178; subst hK135; subst hK93; rintro c (_ | d) v a w h <;> exact h
     refine rQ hS [] [0, 1] [0, 1, 2, 4, 6] [0, 1, 2, 3, 4, 5, 6] mixed ?_
     replace hS := hS.drew
     refine Rq.takeP hPF (i := 0) hE rfl (by kernel_rfl) (runs_plain rfl) (Gives.fld hE rfl fl25_3) rfl (tw_sel (fun _ => hS) (fun _ => ((hS.tail).dropAt 1))) fun a hE => ?_
     refine Rq.take hPF (i := 1) false rfl hE rfl (by kernel_rfl) (runs_plain rfl) (Gives.loadB hE 3 rfl rfl rfl ty23) rfl (tw_sel (fun _ => hS) (fun _ => ((hS.tail).dropAt 1))) fun a hE => ?_
     refine Rq.takeP hPF (i := 2) hE rfl (by kernel_rfl) (runs_plain rfl) (Gives.p hE rfl) rfl (tw_sel (fun _ => hS) (fun _ => ((hS.tail).dropAt 1))) fun a hE => ?_
     refine Rq.one (i := 3) false true rfl (by kernel_rfl) (by kernel_rfl) (by kernel_rfl) ?_
     obtain ⟨q233, hq234, hq202⟩ := bindS hq202
     have hc_ := FareReaderrule_v1_ok (y0 := (FareReader.mk q104 q152)) hS (TabG.mono hle74 hTab) h110 rfl hq234
     refine WL.fnP hE (hc_) (runs_plain rfl) bd43 rfl rfl rfl ?_
     clear hE hS hc_; rintro e w (⟨hz236, rfl, t238, hle239, hS⟩ | ⟨rr235, hz237, cs240, s242, rfl, hle243, h241, hS⟩)
     ·refine .inr ⟨_, rfl, ?_⟩; clear a; intro a hE
      rw [hz236] at hq202; dsimp only at hq202
      replace hS := hS.down hle239
      subst hK232
      subst hK216
      subst hK178
      subst hK135
      subst hK93
      rw [← Option.some.inj hq202] at hq157
      dsimp only at hq157
      rw [← Option.some.inj hq157] at hq113
      dsimp only at hq113
      rw [← Option.some.inj hq113] at hq64
      dsimp only at hq64
      rw [← Option.some.inj hq64] at hr
      dsimp only at hr
      refine ⟨hE.defers.trans rfl, ?_⟩
      obtain rfl := Option.some.inj hr
      replace hS := hS.tail
      replace hS := hS.tail
      replace hS := hS.tail
      replace hS := hS.tail
      replace hS := hS.tail
      exact .inl ⟨rfl, rfl, s73, hle74, hS⟩
     refine .inl ⟨_, rfl, ?_⟩; clear a; intro a hE
     rw [hz237] at hq202; dsimp only at hq202
     replace h110 := Ev.mono RS.mono hle243 h110
     replace h89 := Ev.mono RFareRule.mono hle243 h89
     replace h81 := Ev.mono RFareBand.mono hle243 h81
     replace h60 := Ev.mono RS.mono hle243 h60
     obtain ⟨a244, c245, rfl, h246⟩ := h241
     refine WL.nil ?_
     refine ⟨⟨fun h => absurd h (by decide), fun _ => (St.down hle243 ((hS.tail).dropAt 1))⟩, ?_⟩
     refine Rq.one (i := 4) false true rfl (by kernel_rfl) (by kernel_rfl) (by kernel_rfl) ?_
     refine WL.lit hE hS (e := 45) (es := 7) (vs := [(0, .agg (List.toArray [vi rr235.1.If.Kind, vi rr235.1.If.A, vi rr235.1.If.B, .slice a244 rr235.1.If.Kids.length c245, vi rr235.1.Do, vi rr235.1.N, .bool rr235.1.Stop]))]) (cs := [vi rr235.1.If.Kind, vi rr235.1.If.A, vi rr235.1.If.B, .slice a244 rr235.1.If.Kids.length c245, vi rr235.1.Do, vi rr235.1.N, .bool rr235.1.Stop]) (runs_plain rfl) rfl (by kernel_rfl) rfl ?_; clear hE hS a w; intro b247 a w hE hS
     refine WL.nil ?_
     refine ⟨⟨fun h => absurd h (by decide), fun _ => (St.down hle243 (((hS.tail).tail).dropAt 1))⟩, ?_⟩
     refine Rq.one (i := 5) false true rfl (by kernel_rfl) (by kernel_rfl) (by kernel_rfl) ?_
     obtain ⟨x248, hx249, hq202⟩ := bindS hq202
     refine WL.appD hE hS 2 (m := 1) (runs_plain rfl) rfl rfl rfl ap23 rfl h89 rfl (xs := [rr235.1]) (Ev.cons (c1 := [vi rr235.1.If.Kind, vi rr235.1.If.A, vi rr235.1.If.B, .slice a244 rr235.1.If.Kids.length c245, vi rr235.1.Do, vi rr235.1.N, .bool rr235.1.Stop]) ⟨_, _, rfl, h246⟩ rfl (Ev.nil)) rfl rfl hx249 rfl ?_; clear hE hS a w; intro a250 c251 cs252 a w h253 hE hS
     refine WL.nil ?_
     refine ⟨⟨fun h => absurd h (by decide), fun _ => (St.down hle243 ((hS.tail).dropAt 1))⟩, ?_⟩
     refine Rq.takeP hPF (i := 6) hE rfl (by kernel_rfl) (runs_plain rfl) (Gives.fld hE rfl fl25_3) rfl (tw_sel (fun h => absurd h (by decide)) (fun _ => (St.down hle243 ((hS.tail).dropAt 1)))) fun a hE => ?_
     refine Rq.one (i := 7) false false rfl (by kernel_rfl) (by kernel_rfl) (by kernel_rfl) ?_
     refine WL.storeI hE hS 5 rfl [.bool q77, .slice a79 q78.length c80, vi q85, .slice a250 x248.length c251] (runs_plain rfl) rfl rfl rfl ty23 rfl rfl rfl rfl ?_; clear hE hS a w; intro a w hE hS
     refine WL.nil ?_
     refine ⟨⟨fun h => absurd h (by decide), fun h => absurd h (by decide)⟩, ?_⟩
     refine Rq.done (by kernel_rfl) ?_
     subst hK232
     subst hK216
     exact ⟨q76, rr235.2, q85, x248, a250, c251, x248.length, cs252, s242, hle243, Option.some.inj hq202, h253, (rfl), hE.pick _ ⟨rfl, rfl, rfl, rfl, rfl, rfl, rfl, rfl, trivial⟩, hS⟩
    clear hE hS a w; rintro a w ⟨q206, q207, q208, q209, a210, c211, n213, cs214, s204, hle205, rfl, h212, rfl, hE, hS⟩
    dsimp only at hq157
    replace h110 := Ev.mono RS.mono hle205 h110
    replace h89 := Ev.mono RFareRule.mono hle205 h89
    replace h81 := Ev.mono RFareBand.mono hle205 h81
    replace h60 := Ev.mono RS.mono hle205 h60
    subst hK178
    exact ⟨q206, q207, q78, q208, q209, a79, c80, q78.length, cs83, a210, c211, q209.length, cs214, s204, hle205, Option.some.inj hq157, h81, rfl, h212, rfl, hE.pick _ ⟨rfl, rfl, rfl, rfl, rfl, rfl, rfl, rfl, trivial⟩, hS⟩
   clear hE hS a w; rintro a w ⟨q161, q162, q163, q170, q171, a164, c165, n167, cs168, a172, c173, n175, cs176, s159, hle160, rfl, h166, rfl, h174, rfl, hE, hS⟩
   dsimp only at hq113
   replace h110 := Ev.mono RS.mono hle160 h110
   replace h89 := Ev.mono RFareRule.mono hle160 h89
   replace h81 := Ev.mono RFareBand.mono hle160 h81
   replace h60 := Ev.mono RS.mono hle160 h60
   subst hK135
   exact ⟨q161, q162, q77, q163, q170, q171, a164, c165, q163.length, cs168, a172, c173, q171.length, cs176, s159, hle160, Option.some.inj hq113, h166, rfl, h174, rfl, hE.pick _ ⟨rfl, rfl, rfl, rfl, rfl, rfl, rfl, rfl, trivial⟩, hS⟩
  clear hE hS a w; rintro a w ⟨q117, q118, q119, q120, q127, q128, a121, c122, n124, cs125, a129, c130, n132, cs133, s115, hle116, rfl, h123, rfl, h131, rfl, hE, hS⟩
  dsimp only at hq64
  replace h110 := Ev.mono RS.mono hle116 h110
  replace h89 := Ev.mono RFareRule.mono hle116 h89
  replace h81 := Ev.mono RFareBand.mono hle116 h81
  replace h60 := Ev.mono RS.mono hle116 h60
  refine W.seq ?_
  refine W.regionQ (C := fun w => St w s115 (pc b112 #[.slice a106 q104.length c107, vi q118] 89 :: vecC 9 1 a106 c107 q104.length cs109 :: vecC 45 7 a129 c130 q128.length cs133 :: vecC 40 2 a121 c122 q120.length cs125 :: vecC 9 1 (some ⟨b58, 0, none⟩) q56.length q56.length cs59 :: pc b55 #[.bool q119, .slice a121 q120.length c122, vi q127, .slice a129 q128.length c130] 25 :: pc b51 #[.bool false, .slice none 0 0, vi 0, .slice none 0 0] 25 :: R)) mixed (by kernel_rfl) hS.drew ?_
  refine qP hE (Gives.p hE rfl) rfl fun a hE => ?_
  refine qP hE (Gives.nilOk hE rfl) rfl fun a hE => ?_
  refine qP hE (Gives.fld hE rfl fl89_1) rfl fun a hE => ?_
  refine qP hE (Gives.loadB hE 0 rfl rfl rfl ty3) rfl fun a hE => ?_
  refine qP hE (Gives.p hE rfl) rfl fun a hE => ?_
  refine qP hE (Gives.nilOk hE rfl) rfl fun a hE => ?_
  refine qP hE (Gives.fld hE rfl fl89_0) rfl fun a hE => ?_
  refine qP hE (Gives.loadB hE 0 rfl rfl rfl ty59) rfl fun a hE => ?_
  refine qP hE (Gives.len hE rfl sl59) rfl fun a hE => ?_
  refine qP hE (Gives.p hE rfl) rfl fun a hE => ?_
  refine QL.nil ?_; clear hS w; intro w hS
  refine W.cond hE rfl (fun hc254 => ?_) (fun hc254 => ?_)
  ·replace hq64 := iteT hc254 hq64
   refine W.region ?_
   refine vP hS hE (Gives.build hE (vs := []) [] rfl (by kernel_rfl)) rfl fun a hE => ?_
   refine vP hS hE (Gives.iface hE rfl ifc54) rfl fun a hE => ?_
   refine WL.panic hE rfl (runs_plain rfl) fun a hE => ?_
   subst hK93
   rw [← Option.some.inj hq64] at hr
   dsimp only at hr
   refine ⟨hE.defers.trans rfl, ?_⟩
   obtain rfl := Option.some.inj hr
   replace hS := hS.tail
   replace hS := hS.tail
   replace hS := hS.tail
   replace hS := hS.tail
   replace hS := hS.tail
   replace hS := hS.tail
   replace hS := hS.tail
   exact .inl ⟨rfl, rfl, s115, (Sg.Le.trans hle74 hle116), hS⟩
  replace hq64 := iteF hc254 hq64
  refine W.skip ?_
  refine W.region ?_
  refine vP hS hE (Gives.inc hE rfl (by omega)) rfl fun a hE => ?_
  refine vp hS hE rfl rfl fun a hE => WL.nil ?_
  replace hS := hS.tail
  replace hS := hS.tail
  subst hK93
  exact ⟨rest68, Nat.lt_succ_self _, rest68, k66 + 1, q117, q119, q120, q127, q128, a121, c122, q120.length, cs125, a129, c130, q128.length, cs133, s115, rfl, (by omega), (Sg.Le.trans hle74 hle116), hq64, h123, rfl, h131, rfl, hE.pick _ ⟨rfl, rfl, rfl, rfl, rfl, rfl, rfl, trivial⟩, hS⟩
 clear hE hS a w; rintro a w ⟨q76, q77, q78, q85, q86, a79, c80, n82, cs83, a87, c88, n90, cs91, s73, hle74, rfl, h81, rfl, h89, rfl, hE, hS⟩
 dsimp only at hr
 replace h60 := Ev.mono RS.mono hle74 h60
 refine W.seq ?_
 refine W.seq ?_
 obtain ⟨q256, hq255, hr⟩ := bindS hr
 refine W.cut (fun a w => ∃ (q259 : Bool), q259 = q256 ∧ Rep a 97 [(2, pp b51), (5, pp b55), (93, .bool q259)] ∧ St w s73 (vecC 45 7 a87 c88 q86.length cs91 :: vecC 40 2 a79 c80 q78.length cs83 :: pc b55 #[.bool q77, .slice a79 q78.length c80, vi q85, .slice a87 q86.length c88] 25 :: pc b51 #[.bool false, .slice none 0 0, vi 0, .slice none 0 0] 25 :: R)) ?_ ?_
 ·refine W.gen fun K260 hK260 => ?_
  refine W.region ?_
  refine v2 hS hE rfl rfl rfl rfl fun a hE => ?_
  refine vp hS hE rfl rfl fun a hE => ?_
  rcases Bool.eq_false_or_eq_true (decide (q76 < 2)) with hg261 | hg261
  ·replace hq255 := iteT hg261 hq255
   refine nO hE rfl rfl rfl (by rw [hg261]; decide) rfl fun a hE => ?_
   refine nO hE rfl rfl rfl (by rw [hg261]; decide) rfl fun a hE => ?_
   refine nO hE rfl rfl rfl (by rw [hg261]; decide) rfl fun a hE => ?_
   refine nO hE rfl rfl rfl (by rw [hg261]; decide) rfl fun a hE => ?_
   refine vP hS hE (Gives.pickT hE rfl hg261 rfl) rfl fun a hE => WL.nil ?_
   replace hS := hS.dropAt 2
   subst hK260
   exact ⟨true, Option.some.inj hq255, hE.pick _ ⟨rfl, rfl, rfl, trivial⟩, hS⟩
  replace hq255 := iteF hg261 hq255
  refine WL.vS hS hE (runs_if hE rfl rfl rfl hg261) (Gives.loadBA hE 3 rfl rfl ty25) rfl fun a hE => ?_
  obtain ⟨q262, hq263, hq255⟩ := bindS hq255
  have hF := hS.lendV RFareBand.mono 1 rfl h81 rfl; clear hS; obtain ⟨t264, hle265, hS, hs266, bk267⟩ := hF
  have hF := hS.lendV RFareRule.mono 0 rfl (Ev.mono RFareRule.mono hle265 h89) rfl; clear hS; obtain ⟨t268, hle269, hS, hs270, bk271⟩ := hF
  have hc_ := FareTarifftext_ok (x0 := (FareTariff.mk q77 q78 q85 q86)) hS (TabG.mono hle269 (TabG.mono hle265 (TabG.mono hle74 hTab))) (Sl.mono RFareBand.mono hle269 hs266) hs270 hq263
  refine WL.fnq hE (hc_) (runs_if hE rfl rfl rfl hg261) bd13 rfl rfl rfl ?_
  clear hE hS hc_; rintro e w ⟨rfl, hS⟩; refine ⟨_, rfl, ?_⟩; clear a; intro a hE
  replace hS := bk271 _ _ hS
  replace hS := bk267 _ _ hS
  refine WL.vS hS hE (runs_if hE rfl rfl rfl hg261) (Gives.p hE rfl) rfl fun a hE => ?_
  refine WL.vS hS hE (runs_if hE rfl rfl rfl hg261) (Gives.neSt hE rfl rfl) rfl fun a hE => ?_
  refine vP hS hE (Gives.pickF hE rfl hg261 rfl) rfl fun a hE => WL.nil ?_
  replace hS := hS.dropAt 2
  replace hS := hS.front 3 rfl
  replace hS := hS.front 3 rfl
  replace hS := hS.front 2 rfl
  replace hS := hS.front 3 rfl
  subst hK260
  exact ⟨!(seq q262 x0), Option.some.inj hq255, hE.pick _ ⟨rfl, rfl, rfl, trivial⟩, hS⟩
 clear hE hS a w; rintro a w ⟨q259, rfl, hE, hS⟩
 refine W.cond hE rfl (fun hc272 => ?_) (fun hc272 => ?_)
 ·replace hr := iteT hc272 hr
  refine W.region ?_
  refine vP hS hE (Gives.build hE (vs := []) [] rfl (by kernel_rfl)) rfl fun a hE => ?_
  refine vP hS hE (Gives.iface hE rfl ifc54) rfl fun a hE => ?_
  refine WL.panic hE rfl (runs_plain rfl) fun a hE => ?_
  refine ⟨hE.defers.trans rfl, ?_⟩
  obtain rfl := Option.some.inj hr
  replace hS := hS.tail
  replace hS := hS.tail
  replace hS := hS.tail
  replace hS := hS.tail
  exact .inl ⟨rfl, rfl, s73, hle74, hS⟩
 replace hr := iteF hc272 hr
 refine W.skip ?_
 refine W.seq (W.region (vP hS hE (Gives.loadBA hE 2 rfl rfl ty25) rfl fun a hE => ?_))
 refine WL.storeI hE hS 3 rfl [.bool q77, .slice a79 q78.length c80, vi q85, .slice a87 q86.length c88] (runs_plain rfl) rfl rfl rfl ty25 rfl rfl rfl rfl ?_; clear hE hS a w; intro a w hE hS
 refine WL.nil ?_
 refine W.ret ?_
 have hF := hS.fixD RFareBand.mono 1 rfl h81 rfl; clear hS; obtain ⟨s273, hle274, hS, h275⟩ := hF
 replace h89 := Ev.mono RFareRule.mono hle274 h89
 have hF := hS.fixD RFareRule.mono 0 rfl h89 rfl; clear hS; obtain ⟨s276, hle277, hS, h278⟩ := hF
 replace h275 := Sl.mono RFareBand.mono hle277 h275
 refine finG (fn := Tryz.f19) (rs := [.cell 2 25]) (vs := [_]) hE rfl ⟨⟨_, rfl, .inl ⟨_, rfl, hS.seesAt 1 rfl, ty25⟩⟩, trivial⟩ ?_
 obtain rfl := Option.some.inj hr
 replace hS := hS.tail
 replace hS := hS.tail
 exact .inr ⟨_, rfl, ⟨_, s276, rfl, (Sg.Le.trans (Sg.Le.trans hle74 hle274) hle277), ⟨_, _, _, _, rfl, h275, h278⟩, hS⟩⟩
set_option maxHeartbeats 8000000 in
theorem Farewithin_ok  {w : World} {s : Sg} {R : List HP} {x0 : Int} {x1 : Int} {x2 : Int} (hS : St w s (R))  {r : Bool} (hr : Farewithin x0 x1 x2 = r) :
  Calls Tryz.prog 27 [vi x0, vi x1, vi x2].toArray w (fun e w => e = .returned (.bool r) ∧ St w s (R)) := by
 refine enter Tryz.func27 rfl rfl rfl fun a hE => ?_
 rw [Farewithin] at hr
 refine W.seq (W.region (vp hS hE rfl rfl fun a hE => WL.nil ?_))
 refine W.seq ?_
 obtain ⟨q52, hq51, hr⟩ := bndS hr
 refine W.cut (fun a w => ∃ (q55 : Bool), q55 = q52 ∧ Rep a 15 [(6, .bool q55)] ∧ St w s (R)) ?_ ?_
 ·refine W.gen fun K56 hK56 => ?_
  refine W.region ?_
  refine v2 hS hE rfl rfl rfl rfl fun a hE => ?_
  refine v2 hS hE rfl rfl rfl rfl fun a hE => ?_
  rcases Bool.eq_false_or_eq_true (decide (x0 ≥ x1)) with hg57 | hg57
  ·replace hq51 := iteT hg57 hq51
   refine WL.vS hS hE (runs_if hE rfl rfl rfl hg57) (Gives.p hE rfl) rfl fun a hE => ?_
   refine WL.vS hS hE (runs_if hE rfl rfl rfl hg57) (Gives.p hE rfl) rfl fun a hE => ?_
   refine WL.vS hS hE (runs_if hE rfl rfl rfl hg57) (Gives.p hE rfl) rfl fun a hE => ?_
   refine vP hS hE (Gives.pickT hE rfl hg57 rfl) rfl fun a hE => ?_
   refine vp hS hE rfl rfl fun a hE => WL.nil ?_
   subst hK56
   exact ⟨decide (x0 ≤ x2), hq51, hE.pick _ ⟨rfl, trivial⟩, hS⟩
  replace hq51 := iteF hg57 hq51
  refine nO hE rfl rfl rfl (by rw [hg57]; decide) rfl fun a hE => ?_
  refine nO hE rfl rfl rfl (by rw [hg57]; decide) rfl fun a hE => ?_
  refine nO hE rfl rfl rfl (by rw [hg57]; decide) rfl fun a hE => ?_
  refine vP hS hE (Gives.pickF hE rfl hg57 rfl) rfl fun a hE => ?_
  refine vp hS hE rfl rfl fun a hE => WL.nil ?_
  subst hK56
  exact ⟨false, hq51, hE.pick _ ⟨rfl, trivial⟩, hS⟩
 clear hE hS a w; rintro a w ⟨q55, rfl, hE, hS⟩
 refine W.ret ?_
 refine finG (fn := Tryz.f27) (rs := [.tmp 6]) (vs := [_]) hE rfl ⟨rfl, trivial⟩ ?_
 subst hr
 exact ⟨rfl, hS⟩
set_option maxHeartbeats 8000000 in
theorem FareCondsize_ok : ∀ {fu : Nat} {w : World} {s : Sg} {R : List HP} {x0 : FareCond} {a0_0 : Option Addr} {c0_0 : Nat} (_hS : St w s (R)) (_h0_0 : Sl 4 RFareCond s a0_0 c0_0 x0.Kids) {r : Int × Int} (_hr : FareCondsize fu x0 = some r),
  Calls Tryz.prog 52 [.agg (List.toArray [vi x0.Kind, vi x0.A, vi x0.B, .slice a0_0 x0.Kids.length c0_0])].toArray w (fun e w => e = .returned (.tuple #[vi r.1, vi r.2]) ∧ St w s (R)) := by
 intro fu
 induction fu with
 | zero => intro w s R x0 a0_0 c0_0 hS h0_0 r hr; rw [FareCondsize] at hr; exact absurd hr (by simp)
 | succ fu ih_FareCondsize =>
  intro w s R x0 a0_0 c0_0 hS h0_0 r hr
  rw [FareCondsize] at hr
  generalize FareCondsize fu = self_FareCondsize at hr ih_FareCondsize
  refine enter Tryz.func52 rfl rfl rfl fun a hE => ?_
  refine W.seq (W.region ?_)
  refine WL.box hE hS (runs_plain rfl) rfl rfl rfl ?_; clear hE hS a w; intro b51 a w hE hS
  refine v2 hS hE rfl rfl rfl rfl fun a hE => WL.nil ?_
  refine W.seq (W.region (vp hS hE rfl rfl fun a hE => WL.nil ?_))
  refine W.seq ?_
  refine W.seq (W.region (vP hS hE (Gives.fld hE rfl fl43_3) rfl fun a hE => ?_))
  refine vP hS hE (Gives.loadB hE 0 rfl rfl rfl ty41) rfl fun a hE => ?_
  refine vP hS hE (Gives.len hE rfl sl41) rfl fun a hE => ?_
  refine vp hS hE rfl rfl fun a hE => WL.nil ?_
  obtain ⟨q53, hq52, hr⟩ := bindS hr
  refine W.cut (fun a w => ∃ (q63 : Int), ∃ (q64 : Int), (q63, q64) = q53 ∧ Rep a 30 [(2, vi q63), (3, vi q64)] ∧ St w s (pc b51 #[vi x0.Kind, vi x0.A, vi x0.B, .slice a0_0 x0.Kids.length c0_0] 43 :: R)) ?_ ?_
  ·refine W.block ?_
   refine W.loop (fun m a w => ∃ (rest56 : List FareCond) (k54 : Nat), ∃ (q63 : Int), ∃ (q64 : Int), rest56.length = m ∧ x0.Kids.drop k54 = rest56 ∧ FareCondsize.loop1 self_FareCondsize rest56 q63 q64 = some q53 ∧ Rep a 30 [(2, vi q63), (3, vi q64), (9, .slice a0_0 x0.Kids.length c0_0), (10, vi ((x0.Kids).length : Int)), (11, vi ((k54 : Nat) : Int))] ∧ St w s (pc b51 #[vi x0.Kind, vi x0.A, vi x0.B, .slice a0_0 x0.Kids.length c0_0] 43 :: R)) (m := x0.Kids.length) ⟨x0.Kids, 0, 1, 0, rfl, rfl, hq52, hE.pick _ ⟨rfl, rfl, rfl, rfl, rfl, trivial⟩, hS⟩ ?_
   clear hE hS a w hq52; rintro m60 a w ⟨rest56, k54, q63, q64, rfl, hd57, hq52, hE, hS⟩
   refine W.gen fun K65 hK65 => ?_
   rcases rest56 with _ | ⟨x55, rest56⟩
   ·have hlt58 := drop_nil hd57
    refine W.seq (W.region (vp hS hE rfl rfl fun a hE => WL.nil ?_))
    refine W.seq ?_
    refine W.condF hE rfl (decide_eq_false (by omega)) ?_
    subst hK65
    refine W.exit rfl ?_
    exact ⟨q63, q64, Option.some.inj hq52, hE.pick _ ⟨rfl, rfl, trivial⟩, hS⟩
   obtain ⟨hlt58, hx59, hd57⟩ := drop_cons hd57
   rw [FareCondsize.loop1] at hq52
   refine W.seq (W.region (vp hS hE rfl rfl fun a hE => WL.nil ?_))
   refine W.seq ?_
   refine W.condT hE rfl (decide_eq_true (by omega)) ?_
   refine W.skip ?_
   refine W.seq ?_
   refine W.block ?_
   refine W.seq (W.region ?_)
   obtain ⟨cs66, hl67, hR68, hat69⟩ := h0_0.at hx59
   obtain ⟨a70, c71, rfl, h72⟩ := hR68.unf
   refine vP hS hE (Gives.idx hE k54 rfl rfl sl41 rfl hlt58 (h0_0.aok hlt58)) rfl fun a hE => ?_
   refine vP hS hE (Gives.loadA hE rfl (fun w h => hat69 w _ h) ty43) rfl fun a hE => ?_
   refine WL.alloc hE hS (runs_plain rfl) zr43 rfl ?_; clear hE hS a w; intro b73 a w hE hS
   refine WL.storeI hE hS 0 rfl [vi x55.Kind, vi x55.A, vi x55.B, .slice a70 x55.Kids.length c71] (runs_plain rfl) rfl rfl rfl ty43 rfl rfl rfl rfl ?_; clear hE hS a w; intro a w hE hS
   refine WL.nil ?_
   refine W.seq (W.region (vP hS hE (Gives.loadBA hE 0 rfl rfl ty43) rfl fun a hE => ?_))
   obtain ⟨q74, hq75, hq52⟩ := bindS hq52
   have hc_ := ih_FareCondsize hS h72 hq75
   refine WL.fnq hE (hc_) (runs_plain rfl) bd52 rfl rfl rfl ?_
   clear hE hS hc_; rintro e w ⟨rfl, hS⟩; refine ⟨_, rfl, ?_⟩; clear a; intro a hE
   refine v2 hS hE rfl rfl rfl rfl fun a hE => ?_
   refine v2 hS hE rfl rfl rfl rfl fun a hE => ?_
   refine vp hS hE rfl rfl fun a hE => WL.nil ?_
   refine W.seq (W.region (v2 hS hE rfl rfl rfl rfl fun a hE => ?_))
   refine v2 hS hE rfl rfl rfl rfl fun a hE => WL.nil ?_
   refine W.region ?_
   refine v2 hS hE rfl rfl rfl rfl fun a hE => ?_
   refine vP hS hE (Gives.max2 hE rfl rfl) rfl fun a hE => ?_
   refine vp hS hE rfl rfl fun a hE => WL.nil ?_
   refine W.region ?_
   refine vP hS hE (Gives.inc hE rfl (by have := h0_0.small; omega)) rfl fun a hE => ?_
   refine vp hS hE rfl rfl fun a hE => WL.nil ?_
   replace hS := hS.tail
   subst hK65
   exact ⟨rest56.length, Nat.lt_succ_self _, rest56, k54 + 1, (w64 (q63 + q74.1)), (mx q64 q74.2), rfl, hd57, hq52, hE.pick _ ⟨rfl, rfl, rfl, rfl, rfl, trivial⟩, hS⟩
  clear hE hS a w; rintro a w ⟨q63, q64, rfl, hE, hS⟩
  dsimp only at hr
  refine W.seq (W.region (v2 hS hE rfl rfl rfl rfl fun a hE => ?_))
  refine v2 hS hE rfl rfl rfl rfl fun a hE => ?_
  refine vp hS hE rfl rfl fun a hE => WL.nil ?_
  refine W.ret ?_
  refine finG (fn := Tryz.f52) (rs := [.tmp 2, .tmp 3]) (vs := [_, _]) hE rfl ⟨rfl, rfl, trivial⟩ ?_
  obtain rfl := Option.some.inj hr
  replace hS := hS.tail
  exact ⟨rfl, hS⟩
set_option maxHeartbeats 8000000 in
theorem FareCondnode_ok : ∀ {fu : Nat} {w : World} {s : Sg} {R : List HP} {x0 : FareCond} {a0_0 : Option Addr} {c0_0 : Nat} (_hS : St w s (R)) (_h0_0 : Sl 4 RFareCond s a0_0 c0_0 x0.Kids) {r : Int} (_hr : FareCondnode fu x0 = some r),
  Calls Tryz.prog 53 [.agg (List.toArray [vi x0.Kind, vi x0.A, vi x0.B, .slice a0_0 x0.Kids.length c0_0])].toArray w (fun e w => e = .returned (vi r) ∧ St w s (R)) := by
 intro fu
 induction fu with
 | zero => intro w s R x0 a0_0 c0_0 hS h0_0 r hr; rw [FareCondnode] at hr; exact absurd hr (by simp)
 | succ fu ih_FareCondnode =>
  intro w s R x0 a0_0 c0_0 hS h0_0 r hr
  rw [FareCondnode] at hr
  generalize FareCondnode fu = self_FareCondnode at hr ih_FareCondnode
  refine enter Tryz.func53 rfl rfl rfl fun a hE => ?_
  refine W.seq (W.region ?_)
  refine WL.box hE hS (runs_plain rfl) rfl rfl rfl ?_; clear hE hS a w; intro b51 a w hE hS
  refine vp hS hE rfl rfl fun a hE => WL.nil ?_
  refine W.seq (W.region (vP hS hE (Gives.fld hE rfl fl43_0) rfl fun a hE => ?_))
  refine vP hS hE (Gives.loadB hE 0 rfl rfl rfl ty3) rfl fun a hE => ?_
  refine WL.fnq hE (Farenumbers_ok hS  rfl (r := Farenumbers x0.Kind)) (runs_plain rfl) bd57 rfl rfl rfl ?_
  clear hE hS; rintro e w ⟨rfl, hS⟩; refine ⟨_, rfl, ?_⟩; clear a; intro a hE
  refine vp hS hE rfl rfl fun a hE => WL.nil ?_
  refine W.seq ?_
  refine W.block ?_
  refine W.seq (W.region (vP hS hE (Gives.fld hE rfl fl43_0) rfl fun a hE => ?_))
  refine vP hS hE (Gives.loadB hE 0 rfl rfl rfl ty3) rfl fun a hE => ?_
  refine WL.fnq hE (Farewithin_ok hS  rfl (r := Farewithin x0.Kind 0 11)) (runs_plain rfl) bd27 rfl rfl rfl ?_
  clear hE hS; rintro e w ⟨rfl, hS⟩; refine ⟨_, rfl, ?_⟩; clear a; intro a hE
  refine v2 hS hE rfl rfl rfl rfl fun a hE => WL.nil ?_
  refine W.cond hE rfl (fun hc52 => ?_) (fun hc52 => ?_)
  ·replace hr := iteT hc52 hr
   refine W.seq (W.region (vp hS hE rfl rfl fun a hE => WL.nil ?_))
   refine W.ret ?_
   refine finG (fn := Tryz.f53) (rs := [.tmp 2]) (vs := [_]) hE rfl ⟨rfl, trivial⟩ ?_
   obtain rfl := Option.some.inj hr
   replace hS := hS.tail
   exact ⟨rfl, hS⟩
  replace hr := iteF hc52 hr
  refine W.seq ?_
  obtain ⟨q54, hq53, hr⟩ := bndS hr
  refine W.cut (fun a w => ∃ (q57 : Bool), q57 = q54 ∧ Rep a 99 [(1, pp b51), (3, vi (Farenumbers x0.Kind)), (15, .bool q57)] ∧ St w s (pc b51 #[vi x0.Kind, vi x0.A, vi x0.B, .slice a0_0 x0.Kids.length c0_0] 43 :: R)) ?_ ?_
  ·refine W.gen fun K58 hK58 => ?_
   refine W.region ?_
   refine vP hS hE (Gives.fld hE rfl fl43_1) rfl fun a hE => ?_
   refine vP hS hE (Gives.loadB hE 0 rfl rfl rfl ty3) rfl fun a hE => ?_
   refine WL.fnq hE (Farewithin_ok hS  rfl (r := Farewithin x0.A 0 28800)) (runs_plain rfl) bd27 rfl rfl rfl ?_
   clear hE hS; rintro e w ⟨rfl, hS⟩; refine ⟨_, rfl, ?_⟩; clear a; intro a hE
   refine v2 hS hE rfl rfl rfl rfl fun a hE => ?_
   rcases Bool.eq_false_or_eq_true (!(Farewithin x0.A 0 28800)) with hg59 | hg59
   ·replace hq53 := iteT hg59 hq53
    refine nO hE rfl rfl rfl (by rw [hg59]; decide) rfl fun a hE => ?_
    refine nO hE rfl rfl rfl (by rw [hg59]; decide) rfl fun a hE => ?_
    refine nO hE rfl rfl rfl (by rw [hg59]; decide) rfl fun a hE => ?_
    refine nO hE rfl rfl rfl (by rw [hg59]; decide) rfl fun a hE => ?_
    refine vP hS hE (Gives.pickT hE rfl hg59 rfl) rfl fun a hE => ?_
    refine vp hS hE rfl rfl fun a hE => WL.nil ?_
    subst hK58
    exact ⟨true, hq53, hE.pick _ ⟨rfl, rfl, rfl, trivial⟩, hS⟩
   replace hq53 := iteF hg59 hq53
   refine WL.vS hS hE (runs_if hE rfl rfl rfl hg59) (Gives.fld hE rfl fl43_2) rfl fun a hE => ?_
   refine WL.vS hS hE (runs_if hE rfl rfl rfl hg59) (Gives.loadB hE 0 rfl rfl rfl ty3) rfl fun a hE => ?_
   refine WL.fnq hE (Farewithin_ok hS  rfl (r := Farewithin x0.B 0 28800)) (runs_if hE rfl rfl rfl hg59) bd27 rfl rfl rfl ?_
   clear hE hS; rintro e w ⟨rfl, hS⟩; refine ⟨_, rfl, ?_⟩; clear a; intro a hE
   refine WL.vS hS hE (runs_if hE rfl rfl rfl hg59) (Gives.p hE rfl) rfl fun a hE => ?_
   refine vP hS hE (Gives.pickF hE rfl hg59 rfl) rfl fun a hE => ?_
   refine vp hS hE rfl rfl fun a hE => WL.nil ?_
   subst hK58
   exact ⟨!(Farewithin x0.B 0 28800), hq53, hE.pick _ ⟨rfl, rfl, rfl, trivial⟩, hS⟩
  clear hE hS a w; rintro a w ⟨q57, rfl, hE, hS⟩
  refine W.cond hE rfl (fun hc60 => ?_) (fun hc60 => ?_)
  ·replace hr := iteT hc60 hr
   refine W.seq (W.region (vp hS hE rfl rfl fun a hE => WL.nil ?_))
   refine W.ret ?_
   refine finG (fn := Tryz.f53) (rs := [.tmp 2]) (vs := [_]) hE rfl ⟨rfl, trivial⟩ ?_
   obtain rfl := Option.some.inj hr
   replace hS := hS.tail
   exact ⟨rfl, hS⟩
  replace hr := iteF hc60 hr
  refine W.seq ?_
  obtain ⟨q62, hq61, hr⟩ := bndS hr
  refine W.cut (fun a w => ∃ (q65 : Bool), q65 = q62 ∧ Rep a 99 [(1, pp b51), (26, .bool q65)] ∧ St w s (pc b51 #[vi x0.Kind, vi x0.A, vi x0.B, .slice a0_0 x0.Kids.length c0_0] 43 :: R)) ?_ ?_
  ·refine W.gen fun K66 hK66 => ?_
   refine W.region ?_
   refine v2 hS hE rfl rfl rfl rfl fun a hE => ?_
   refine vp hS hE rfl rfl fun a hE => ?_
   rcases Bool.eq_false_or_eq_true (decide ((Farenumbers x0.Kind) < 1)) with hg67 | hg67
   ·replace hq61 := iteT hg67 hq61
    refine WL.vS hS hE (runs_if hE rfl rfl rfl hg67) (Gives.fld hE rfl fl43_1) rfl fun a hE => ?_
    refine WL.vS hS hE (runs_if hE rfl rfl rfl hg67) (Gives.loadB hE 0 rfl rfl rfl ty3) rfl fun a hE => ?_
    refine WL.vS hS hE (runs_if hE rfl rfl rfl hg67) (Gives.p hE rfl) rfl fun a hE => ?_
    refine vP hS hE (Gives.pickT hE rfl hg67 rfl) rfl fun a hE => ?_
    refine vp hS hE rfl rfl fun a hE => ?_
    rcases Bool.eq_false_or_eq_true (x0.A != 0) with hg68 | hg68
    ·replace hq61 := iteT hg68 hq61
     refine nO hE rfl rfl rfl (by rw [hg68]; decide) rfl fun a hE => ?_
     refine nO hE rfl rfl rfl (by rw [hg68]; decide) rfl fun a hE => ?_
     refine nO hE rfl rfl rfl (by rw [hg68]; decide) rfl fun a hE => ?_
     refine WL.no hE (runs_undef hE rfl rfl rfl) rfl fun a hE => ?_
     refine WL.no hE (runs_undef hE rfl rfl rfl) rfl fun a hE => ?_
     refine WL.no hE (runs_undef hE rfl rfl rfl) rfl fun a hE => ?_
     refine nO hE rfl rfl rfl (by rw [hg68]; decide) rfl fun a hE => ?_
     refine vP hS hE (Gives.pickT hE rfl hg68 rfl) rfl fun a hE => ?_
     refine vp hS hE rfl rfl fun a hE => ?_
     refine nO hE rfl rfl rfl (by decide) rfl fun a hE => ?_
     refine nO hE rfl rfl rfl (by decide) rfl fun a hE => ?_
     refine nO hE rfl rfl rfl (by decide) rfl fun a hE => ?_
     refine WL.no hE (runs_undef hE rfl rfl rfl) rfl fun a hE => ?_
     refine WL.no hE (runs_undef hE rfl rfl rfl) rfl fun a hE => ?_
     refine WL.no hE (runs_undef hE rfl rfl rfl) rfl fun a hE => ?_
     refine WL.no hE (runs_undef hE rfl rfl rfl) rfl fun a hE => ?_
     refine WL.no hE (runs_undef hE rfl rfl rfl) rfl fun a hE => ?_
     refine nO hE rfl rfl rfl (by decide) rfl fun a hE => ?_
     refine vP hS hE (Gives.pickT hE rfl rfl rfl) rfl fun a hE => ?_
     refine vp hS hE rfl rfl fun a hE => WL.nil ?_
     subst hK66
     exact ⟨true, hq61, hE.pick _ ⟨rfl, rfl, trivial⟩, hS⟩
    replace hq61 := iteF hg68 hq61
    refine WL.vS hS hE (runs_if hE rfl rfl rfl hg68) (Gives.p hE rfl) rfl fun a hE => ?_
    refine WL.vS hS hE (runs_if hE rfl rfl rfl hg68) (Gives.p hE rfl) rfl fun a hE => ?_
    refine WL.vS hS hE (runs_if hE rfl rfl rfl hg68) (Gives.p hE rfl) rfl fun a hE => ?_
    rcases Bool.eq_false_or_eq_true (decide ((Farenumbers x0.Kind) < 2)) with hg69 | hg69
    ·replace hq61 := iteT hg69 hq61
     refine WL.vS hS hE (runs_if hE rfl rfl rfl hg69) (Gives.fld hE rfl fl43_2) rfl fun a hE => ?_
     refine WL.vS hS hE (runs_if hE rfl rfl rfl hg69) (Gives.loadB hE 0 rfl rfl rfl ty3) rfl fun a hE => ?_
     refine WL.vS hS hE (runs_if hE rfl rfl rfl hg69) (Gives.p hE rfl) rfl fun a hE => ?_
     refine WL.vS hS hE (runs_if hE rfl rfl rfl hg68) (Gives.pickT hE rfl hg69 rfl) rfl fun a hE => ?_
     refine vP hS hE (Gives.pickF hE rfl hg68 rfl) rfl fun a hE => ?_
     refine vp hS hE rfl rfl fun a hE => ?_
     rcases Bool.eq_false_or_eq_true (x0.B != 0) with hg70 | hg70
     ·replace hq61 := iteT hg70 hq61
      refine nO hE rfl rfl rfl (by rw [hg70]; decide) rfl fun a hE => ?_
      refine nO hE rfl rfl rfl (by rw [hg70]; decide) rfl fun a hE => ?_
      refine nO hE rfl rfl rfl (by rw [hg70]; decide) rfl fun a hE => ?_
      refine WL.no hE (runs_undef hE rfl rfl rfl) rfl fun a hE => ?_
      refine WL.no hE (runs_undef hE rfl rfl rfl) rfl fun a hE => ?_
      refine WL.no hE (runs_undef hE rfl rfl rfl) rfl fun a hE => ?_
      refine WL.no hE (runs_undef hE rfl rfl rfl) rfl fun a hE => ?_
      refine WL.no hE (runs_undef hE rfl rfl rfl) rfl fun a hE => ?_
      refine nO hE rfl rfl rfl (by rw [hg70]; decide) rfl fun a hE => ?_
      refine vP hS hE (Gives.pickT hE rfl hg70 rfl) rfl fun a hE => ?_
      refine vp hS hE rfl rfl fun a hE => WL.nil ?_
      subst hK66
      exact ⟨true, hq61, hE.pick _ ⟨rfl, rfl, trivial⟩, hS⟩
     replace hq61 := iteF hg70 hq61
     refine WL.vS hS hE (runs_if hE rfl rfl rfl hg70) (Gives.p hE rfl) rfl fun a hE => ?_
     refine WL.vS hS hE (runs_if hE rfl rfl rfl hg70) (Gives.p hE rfl) rfl fun a hE => ?_
     refine WL.vS hS hE (runs_if hE rfl rfl rfl hg70) (Gives.p hE rfl) rfl fun a hE => ?_
     rcases Bool.eq_false_or_eq_true ((Farenumbers x0.Kind) == 2) with hg71 | hg71
     ·replace hq61 := iteT hg71 hq61
      refine WL.vS hS hE (runs_if hE rfl rfl rfl hg71) (Gives.fld hE rfl fl43_1) rfl fun a hE => ?_
      refine WL.vS hS hE (runs_if hE rfl rfl rfl hg71) (Gives.loadB hE 0 rfl rfl rfl ty3) rfl fun a hE => ?_
      refine WL.vS hS hE (runs_if hE rfl rfl rfl hg71) (Gives.fld hE rfl fl43_2) rfl fun a hE => ?_
      refine WL.vS hS hE (runs_if hE rfl rfl rfl hg71) (Gives.loadB hE 0 rfl rfl rfl ty3) rfl fun a hE => ?_
      refine WL.vS hS hE (runs_if hE rfl rfl rfl hg71) (Gives.p hE rfl) rfl fun a hE => ?_
      refine WL.vS hS hE (runs_if hE rfl rfl rfl hg70) (Gives.pickT hE rfl hg71 rfl) rfl fun a hE => ?_
      refine vP hS hE (Gives.pickF hE rfl hg70 rfl) rfl fun a hE => ?_
      refine vp hS hE rfl rfl fun a hE => WL.nil ?_
      subst hK66
      exact ⟨decide (x0.A > x0.B), hq61, hE.pick _ ⟨rfl, rfl, trivial⟩, hS⟩
     replace hq61 := iteF hg71 hq61
     refine nO hE rfl rfl rfl (by rw [hg71]; decide) rfl fun a hE => ?_
     refine nO hE rfl rfl rfl (by rw [hg71]; decide) rfl fun a hE => ?_
     refine nO hE rfl rfl rfl (by rw [hg71]; decide) rfl fun a hE => ?_
     refine nO hE rfl rfl rfl (by rw [hg71]; decide) rfl fun a hE => ?_
     refine nO hE rfl rfl rfl (by rw [hg71]; decide) rfl fun a hE => ?_
     refine WL.vS hS hE (runs_if hE rfl rfl rfl hg70) (Gives.pickF hE rfl hg71 rfl) rfl fun a hE => ?_
     refine vP hS hE (Gives.pickF hE rfl hg70 rfl) rfl fun a hE => ?_
     refine vp hS hE rfl rfl fun a hE => WL.nil ?_
     subst hK66
     exact ⟨false, hq61, hE.pick _ ⟨rfl, rfl, trivial⟩, hS⟩
    replace hq61 := iteF hg69 hq61
    refine nO hE rfl rfl rfl (by rw [hg69]; decide) rfl fun a hE => ?_
    refine nO hE rfl rfl rfl (by rw [hg69]; decide) rfl fun a hE => ?_
    refine nO hE rfl rfl rfl (by rw [hg69]; decide) rfl fun a hE => ?_
    refine WL.vS hS hE (runs_if hE rfl rfl rfl hg68) (Gives.pickF hE rfl hg69 rfl) rfl fun a hE => ?_
    refine vP hS hE (Gives.pickF hE rfl hg68 rfl) rfl fun a hE => ?_
    refine vp hS hE rfl rfl fun a hE => ?_
    refine WL.vS hS hE (runs_if hE rfl rfl rfl rfl) (Gives.p hE rfl) rfl fun a hE => ?_
    refine WL.vS hS hE (runs_if hE rfl rfl rfl rfl) (Gives.p hE rfl) rfl fun a hE => ?_
    refine WL.vS hS hE (runs_if hE rfl rfl rfl rfl) (Gives.p hE rfl) rfl fun a hE => ?_
    rcases Bool.eq_false_or_eq_true ((Farenumbers x0.Kind) == 2) with hg72 | hg72
    ·replace hq61 := iteT hg72 hq61
     refine WL.vS hS hE (runs_if hE rfl rfl rfl hg72) (Gives.fld hE rfl fl43_1) rfl fun a hE => ?_
     refine WL.vS hS hE (runs_if hE rfl rfl rfl hg72) (Gives.loadB hE 0 rfl rfl rfl ty3) rfl fun a hE => ?_
     refine WL.vS hS hE (runs_if hE rfl rfl rfl hg72) (Gives.fld hE rfl fl43_2) rfl fun a hE => ?_
     refine WL.vS hS hE (runs_if hE rfl rfl rfl hg72) (Gives.loadB hE 0 rfl rfl rfl ty3) rfl fun a hE => ?_
     refine WL.vS hS hE (runs_if hE rfl rfl rfl hg72) (Gives.p hE rfl) rfl fun a hE => ?_
     refine WL.vS hS hE (runs_if hE rfl rfl rfl rfl) (Gives.pickT hE rfl hg72 rfl) rfl fun a hE => ?_
     refine vP hS hE (Gives.pickF hE rfl rfl rfl) rfl fun a hE => ?_
     refine vp hS hE rfl rfl fun a hE => WL.nil ?_
     subst hK66
     exact ⟨decide (x0.A > x0.B), hq61, hE.pick _ ⟨rfl, rfl, trivial⟩, hS⟩
    replace hq61 := iteF hg72 hq61
    refine nO hE rfl rfl rfl (by rw [hg72]; decide) rfl fun a hE => ?_
    refine nO hE rfl rfl rfl (by rw [hg72]; decide) rfl fun a hE => ?_
    refine nO hE rfl rfl rfl (by rw [hg72]; decide) rfl fun a hE => ?_
    refine nO hE rfl rfl rfl (by rw [hg72]; decide) rfl fun a hE => ?_
    refine nO hE rfl rfl rfl (by rw [hg72]; decide) rfl fun a hE => ?_
    refine WL.vS hS hE (runs_if hE rfl rfl rfl rfl) (Gives.pickF hE rfl hg72 rfl) rfl fun a hE => ?_
    refine vP hS hE (Gives.pickF hE rfl rfl rfl) rfl fun a hE => ?_
    refine vp hS hE rfl rfl fun a hE => WL.nil ?_
    subst hK66
    exact ⟨false, hq61, hE.pick _ ⟨rfl, rfl, trivial⟩, hS⟩
   replace hq61 := iteF hg67 hq61
   refine nO hE rfl rfl rfl (by rw [hg67]; decide) rfl fun a hE => ?_
   refine nO hE rfl rfl rfl (by rw [hg67]; decide) rfl fun a hE => ?_
   refine nO hE rfl rfl rfl (by rw [hg67]; decide) rfl fun a hE => ?_
   refine vP hS hE (Gives.pickF hE rfl hg67 rfl) rfl fun a hE => ?_
   refine vp hS hE rfl rfl fun a hE => ?_
   refine WL.vS hS hE (runs_if hE rfl rfl rfl rfl) (Gives.p hE rfl) rfl fun a hE => ?_
   refine WL.vS hS hE (runs_if hE rfl rfl rfl rfl) (Gives.p hE rfl) rfl fun a hE => ?_
   refine WL.vS hS hE (runs_if hE rfl rfl rfl rfl) (Gives.p hE rfl) rfl fun a hE => ?_
   rcases Bool.eq_false_or_eq_true (decide ((Farenumbers x0.Kind) < 2)) with hg73 | hg73
   ·replace hq61 := iteT hg73 hq61
    refine WL.vS hS hE (runs_if hE rfl rfl rfl hg73) (Gives.fld hE rfl fl43_2) rfl fun a hE => ?_
    refine WL.vS hS hE (runs_if hE rfl rfl rfl hg73) (Gives.loadB hE 0 rfl rfl rfl ty3) rfl fun a hE => ?_
    refine WL.vS hS hE (runs_if hE rfl rfl rfl hg73) (Gives.p hE rfl) rfl fun a hE => ?_
    refine WL.vS hS hE (runs_if hE rfl rfl rfl rfl) (Gives.pickT hE rfl hg73 rfl) rfl fun a hE => ?_
    refine vP hS hE (Gives.pickF hE rfl rfl rfl) rfl fun a hE => ?_
    refine vp hS hE rfl rfl fun a hE => ?_
    rcases Bool.eq_false_or_eq_true (x0.B != 0) with hg74 | hg74
    ·replace hq61 := iteT hg74 hq61
     refine nO hE rfl rfl rfl (by rw [hg74]; decide) rfl fun a hE => ?_
     refine nO hE rfl rfl rfl (by rw [hg74]; decide) rfl fun a hE => ?_
     refine nO hE rfl rfl rfl (by rw [hg74]; decide) rfl fun a hE => ?_
     refine WL.no hE (runs_undef hE rfl rfl rfl) rfl fun a hE => ?_
     refine WL.no hE (runs_undef hE rfl rfl rfl) rfl fun a hE => ?_
     refine WL.no hE (runs_undef hE rfl rfl rfl) rfl fun a hE => ?_
     refine WL.no hE (runs_undef hE rfl rfl rfl) rfl fun a hE => ?_
     refine WL.no hE (runs_undef hE rfl rfl rfl) rfl fun a hE => ?_
     refine nO hE rfl rfl rfl (by rw [hg74]; decide) rfl fun a hE => ?_
     refine vP hS hE (Gives.pickT hE rfl hg74 rfl) rfl fun a hE => ?_
     refine vp hS hE rfl rfl fun a hE => WL.nil ?_
     subst hK66
     exact ⟨true, hq61, hE.pick _ ⟨rfl, rfl, trivial⟩, hS⟩
    replace hq61 := iteF hg74 hq61
    refine WL.vS hS hE (runs_if hE rfl rfl rfl hg74) (Gives.p hE rfl) rfl fun a hE => ?_
    refine WL.vS hS hE (runs_if hE rfl rfl rfl hg74) (Gives.p hE rfl) rfl fun a hE => ?_
    refine WL.vS hS hE (runs_if hE rfl rfl rfl hg74) (Gives.p hE rfl) rfl fun a hE => ?_
    rcases Bool.eq_false_or_eq_true ((Farenumbers x0.Kind) == 2) with hg75 | hg75
    ·replace hq61 := iteT hg75 hq61
     refine WL.vS hS hE (runs_if hE rfl rfl rfl hg75) (Gives.fld hE rfl fl43_1) rfl fun a hE => ?_
     refine WL.vS hS hE (runs_if hE rfl rfl rfl hg75) (Gives.loadB hE 0 rfl rfl rfl ty3) rfl fun a hE => ?_
     refine WL.vS hS hE (runs_if hE rfl rfl rfl hg75) (Gives.fld hE rfl fl43_2) rfl fun a hE => ?_
     refine WL.vS hS hE (runs_if hE rfl rfl rfl hg75) (Gives.loadB hE 0 rfl rfl rfl ty3) rfl fun a hE => ?_
     refine WL.vS hS hE (runs_if hE rfl rfl rfl hg75) (Gives.p hE rfl) rfl fun a hE => ?_
     refine WL.vS hS hE (runs_if hE rfl rfl rfl hg74) (Gives.pickT hE rfl hg75 rfl) rfl fun a hE => ?_
     refine vP hS hE (Gives.pickF hE rfl hg74 rfl) rfl fun a hE => ?_
     refine vp hS hE rfl rfl fun a hE => WL.nil ?_
     subst hK66
     exact ⟨decide (x0.A > x0.B), hq61, hE.pick _ ⟨rfl, rfl, trivial⟩, hS⟩
    replace hq61 := iteF hg75 hq61
    refine nO hE rfl rfl rfl (by rw [hg75]; decide) rfl fun a hE => ?_
    refine nO hE rfl rfl rfl (by rw [hg75]; decide) rfl fun a hE => ?_
    refine nO hE rfl rfl rfl (by rw [hg75]; decide) rfl fun a hE => ?_
    refine nO hE rfl rfl rfl (by rw [hg75]; decide) rfl fun a hE => ?_
    refine nO hE rfl rfl rfl (by rw [hg75]; decide) rfl fun a hE => ?_
    refine WL.vS hS hE (runs_if hE rfl rfl rfl hg74) (Gives.pickF hE rfl hg75 rfl) rfl fun a hE => ?_
    refine vP hS hE (Gives.pickF hE rfl hg74 rfl) rfl fun a hE => ?_
    refine vp hS hE rfl rfl fun a hE => WL.nil ?_
    subst hK66
    exact ⟨false, hq61, hE.pick _ ⟨rfl, rfl, trivial⟩, hS⟩
   replace hq61 := iteF hg73 hq61
   refine nO hE rfl rfl rfl (by rw [hg73]; decide) rfl fun a hE => ?_
   refine nO hE rfl rfl rfl (by rw [hg73]; decide) rfl fun a hE => ?_
   refine nO hE rfl rfl rfl (by rw [hg73]; decide) rfl fun a hE => ?_
   refine WL.vS hS hE (runs_if hE rfl rfl rfl rfl) (Gives.pickF hE rfl hg73 rfl) rfl fun a hE => ?_
   refine vP hS hE (Gives.pickF hE rfl rfl rfl) rfl fun a hE => ?_
   refine vp hS hE rfl rfl fun a hE => ?_
   refine WL.vS hS hE (runs_if hE rfl rfl rfl rfl) (Gives.p hE rfl) rfl fun a hE => ?_
   refine WL.vS hS hE (runs_if hE rfl rfl rfl rfl) (Gives.p hE rfl) rfl fun a hE => ?_
   refine WL.vS hS hE (runs_if hE rfl rfl rfl rfl) (Gives.p hE rfl) rfl fun a hE => ?_
   rcases Bool.eq_false_or_eq_true ((Farenumbers x0.Kind) == 2) with hg76 | hg76
   ·replace hq61 := iteT hg76 hq61
    refine WL.vS hS hE (runs_if hE rfl rfl rfl hg76) (Gives.fld hE rfl fl43_1) rfl fun a hE => ?_
    refine WL.vS hS hE (runs_if hE rfl rfl rfl hg76) (Gives.loadB hE 0 rfl rfl rfl ty3) rfl fun a hE => ?_
    refine WL.vS hS hE (runs_if hE rfl rfl rfl hg76) (Gives.fld hE rfl fl43_2) rfl fun a hE => ?_
    refine WL.vS hS hE (runs_if hE rfl rfl rfl hg76) (Gives.loadB hE 0 rfl rfl rfl ty3) rfl fun a hE => ?_
    refine WL.vS hS hE (runs_if hE rfl rfl rfl hg76) (Gives.p hE rfl) rfl fun a hE => ?_
    refine WL.vS hS hE (runs_if hE rfl rfl rfl rfl) (Gives.pickT hE rfl hg76 rfl) rfl fun a hE => ?_
    refine vP hS hE (Gives.pickF hE rfl rfl rfl) rfl fun a hE => ?_
    refine vp hS hE rfl rfl fun a hE => WL.nil ?_
    subst hK66
    exact ⟨decide (x0.A > x0.B), hq61, hE.pick _ ⟨rfl, rfl, trivial⟩, hS⟩
   replace hq61 := iteF hg76 hq61
   refine nO hE rfl rfl rfl (by rw [hg76]; decide) rfl fun a hE => ?_
   refine nO hE rfl rfl rfl (by rw [hg76]; decide) rfl fun a hE => ?_
   refine nO hE rfl rfl rfl (by rw [hg76]; decide) rfl fun a hE => ?_
   refine nO hE rfl rfl rfl (by rw [hg76]; decide) rfl fun a hE => ?_
   refine nO hE rfl rfl rfl (by rw [hg76]; decide) rfl fun a hE => ?_
   refine WL.vS hS hE (runs_if hE rfl rfl rfl rfl) (Gives.pickF hE rfl hg76 rfl) rfl fun a hE => ?_
   refine vP hS hE (Gives.pickF hE rfl rfl rfl) rfl fun a hE => ?_
   refine vp hS hE rfl rfl fun a hE => WL.nil ?_
   subst hK66
   exact ⟨false, hq61, hE.pick _ ⟨rfl, rfl, trivial⟩, hS⟩
  clear hE hS a w; rintro a w ⟨q65, rfl, hE, hS⟩
  refine W.cond hE rfl (fun hc77 => ?_) (fun hc77 => ?_)
  ·replace hr := iteT hc77 hr
   refine W.seq (W.region (vp hS hE rfl rfl fun a hE => WL.nil ?_))
   refine W.ret ?_
   refine finG (fn := Tryz.f53) (rs := [.tmp 2]) (vs := [_]) hE rfl ⟨rfl, trivial⟩ ?_
   obtain rfl := Option.some.inj hr
   replace hS := hS.tail
   exact ⟨rfl, hS⟩
  replace hr := iteF hc77 hr
  refine W.seq ?_
  obtain ⟨q79, hq78, hr⟩ := bndS hr
  refine W.cut (fun a w => ∃ (q82 : Bool), q82 = q79 ∧ Rep a 99 [(1, pp b51), (54, .bool q82)] ∧ St w s (pc b51 #[vi x0.Kind, vi x0.A, vi x0.B, .slice a0_0 x0.Kids.length c0_0] 43 :: R)) ?_ ?_
  ·refine W.gen fun K83 hK83 => ?_
   refine W.region ?_
   refine vP hS hE (Gives.fld hE rfl fl43_0) rfl fun a hE => ?_
   refine vP hS hE (Gives.loadB hE 0 rfl rfl rfl ty3) rfl fun a hE => ?_
   refine v2 hS hE rfl rfl rfl rfl fun a hE => ?_
   rcases Bool.eq_false_or_eq_true (x0.Kind == 9) with hg84 | hg84
   ·replace hq78 := iteT hg84 hq78
    refine WL.vS hS hE (runs_if hE rfl rfl rfl hg84) (Gives.fld hE rfl fl43_3) rfl fun a hE => ?_
    refine WL.vS hS hE (runs_if hE rfl rfl rfl hg84) (Gives.loadB hE 0 rfl rfl rfl ty41) rfl fun a hE => ?_
    refine WL.vS hS hE (runs_if hE rfl rfl rfl hg84) (Gives.len hE rfl sl41) rfl fun a hE => ?_
    refine WL.vS hS hE (runs_if hE rfl rfl rfl hg84) (Gives.p hE rfl) rfl fun a hE => ?_
    refine vP hS hE (Gives.pickT hE rfl hg84 rfl) rfl fun a hE => ?_
    refine vp hS hE rfl rfl fun a hE => ?_
    rcases Bool.eq_false_or_eq_true (((x0.Kids).length : Int) != 1) with hg85 | hg85
    ·replace hq78 := iteT hg85 hq78
     refine nO hE rfl rfl rfl (by rw [hg85]; decide) rfl fun a hE => ?_
     refine nO hE rfl rfl rfl (by rw [hg85]; decide) rfl fun a hE => ?_
     refine nO hE rfl rfl rfl (by rw [hg85]; decide) rfl fun a hE => ?_
     refine nO hE rfl rfl rfl (by rw [hg85]; decide) rfl fun a hE => ?_
     refine WL.no hE (runs_undef hE rfl rfl rfl) rfl fun a hE => ?_
     refine WL.no hE (runs_undef hE rfl rfl rfl) rfl fun a hE => ?_
     refine WL.no hE (runs_undef hE rfl rfl rfl) rfl fun a hE => ?_
     refine WL.no hE (runs_undef hE rfl rfl rfl) rfl fun a hE => ?_
     refine nO hE rfl rfl rfl (by rw [hg85]; decide) rfl fun a hE => ?_
     refine vP hS hE (Gives.pickT hE rfl hg85 rfl) rfl fun a hE => ?_
     refine vp hS hE rfl rfl fun a hE => ?_
     refine nO hE rfl rfl rfl (by decide) rfl fun a hE => ?_
     refine nO hE rfl rfl rfl (by decide) rfl fun a hE => ?_
     refine nO hE rfl rfl rfl (by decide) rfl fun a hE => ?_
     refine nO hE rfl rfl rfl (by decide) rfl fun a hE => ?_
     refine WL.no hE (runs_undef hE rfl rfl rfl) rfl fun a hE => ?_
     refine WL.no hE (runs_undef hE rfl rfl rfl) rfl fun a hE => ?_
     refine WL.no hE (runs_undef hE rfl rfl rfl) rfl fun a hE => ?_
     refine WL.no hE (runs_undef hE rfl rfl rfl) rfl fun a hE => ?_
     refine nO hE rfl rfl rfl (by decide) rfl fun a hE => ?_
     refine vP hS hE (Gives.pickT hE rfl rfl rfl) rfl fun a hE => ?_
     refine vp hS hE rfl rfl fun a hE => WL.nil ?_
     subst hK83
     exact ⟨true, hq78, hE.pick _ ⟨rfl, rfl, trivial⟩, hS⟩
    replace hq78 := iteF hg85 hq78
    refine WL.vS hS hE (runs_if hE rfl rfl rfl hg85) (Gives.fld hE rfl fl43_0) rfl fun a hE => ?_
    refine WL.vS hS hE (runs_if hE rfl rfl rfl hg85) (Gives.loadB hE 0 rfl rfl rfl ty3) rfl fun a hE => ?_
    refine WL.vS hS hE (runs_if hE rfl rfl rfl hg85) (Gives.p hE rfl) rfl fun a hE => ?_
    refine WL.vS hS hE (runs_if hE rfl rfl rfl hg85) (Gives.p hE rfl) rfl fun a hE => ?_
    rcases Bool.eq_false_or_eq_true (decide (x0.Kind > 9)) with hg86 | hg86
    ·replace hq78 := iteT hg86 hq78
     refine WL.vS hS hE (runs_if hE rfl rfl rfl hg86) (Gives.fld hE rfl fl43_3) rfl fun a hE => ?_
     refine WL.vS hS hE (runs_if hE rfl rfl rfl hg86) (Gives.loadB hE 0 rfl rfl rfl ty41) rfl fun a hE => ?_
     refine WL.vS hS hE (runs_if hE rfl rfl rfl hg86) (Gives.len hE rfl sl41) rfl fun a hE => ?_
     refine WL.vS hS hE (runs_if hE rfl rfl rfl hg86) (Gives.p hE rfl) rfl fun a hE => ?_
     refine WL.vS hS hE (runs_if hE rfl rfl rfl hg85) (Gives.pickT hE rfl hg86 rfl) rfl fun a hE => ?_
     refine vP hS hE (Gives.pickF hE rfl hg85 rfl) rfl fun a hE => ?_
     refine vp hS hE rfl rfl fun a hE => ?_
     rcases Bool.eq_false_or_eq_true (decide (((x0.Kids).length : Int) < 2)) with hg87 | hg87
     ·replace hq78 := iteT hg87 hq78
      refine nO hE rfl rfl rfl (by rw [hg87]; decide) rfl fun a hE => ?_
      refine nO hE rfl rfl rfl (by rw [hg87]; decide) rfl fun a hE => ?_
      refine nO hE rfl rfl rfl (by rw [hg87]; decide) rfl fun a hE => ?_
      refine nO hE rfl rfl rfl (by rw [hg87]; decide) rfl fun a hE => ?_
      refine WL.no hE (runs_undef hE rfl rfl rfl) rfl fun a hE => ?_
      refine WL.no hE (runs_undef hE rfl rfl rfl) rfl fun a hE => ?_
      refine WL.no hE (runs_undef hE rfl rfl rfl) rfl fun a hE => ?_
      refine WL.no hE (runs_undef hE rfl rfl rfl) rfl fun a hE => ?_
      refine nO hE rfl rfl rfl (by rw [hg87]; decide) rfl fun a hE => ?_
      refine vP hS hE (Gives.pickT hE rfl hg87 rfl) rfl fun a hE => ?_
      refine vp hS hE rfl rfl fun a hE => WL.nil ?_
      subst hK83
      exact ⟨true, hq78, hE.pick _ ⟨rfl, rfl, trivial⟩, hS⟩
     replace hq78 := iteF hg87 hq78
     refine WL.vS hS hE (runs_if hE rfl rfl rfl hg87) (Gives.fld hE rfl fl43_0) rfl fun a hE => ?_
     refine WL.vS hS hE (runs_if hE rfl rfl rfl hg87) (Gives.loadB hE 0 rfl rfl rfl ty3) rfl fun a hE => ?_
     refine WL.vS hS hE (runs_if hE rfl rfl rfl hg87) (Gives.p hE rfl) rfl fun a hE => ?_
     refine WL.vS hS hE (runs_if hE rfl rfl rfl hg87) (Gives.p hE rfl) rfl fun a hE => ?_
     rcases Bool.eq_false_or_eq_true (decide (x0.Kind < 9)) with hg88 | hg88
     ·replace hq78 := iteT hg88 hq78
      refine WL.vS hS hE (runs_if hE rfl rfl rfl hg88) (Gives.fld hE rfl fl43_3) rfl fun a hE => ?_
      refine WL.vS hS hE (runs_if hE rfl rfl rfl hg88) (Gives.loadB hE 0 rfl rfl rfl ty41) rfl fun a hE => ?_
      refine WL.vS hS hE (runs_if hE rfl rfl rfl hg88) (Gives.len hE rfl sl41) rfl fun a hE => ?_
      refine WL.vS hS hE (runs_if hE rfl rfl rfl hg88) (Gives.p hE rfl) rfl fun a hE => ?_
      refine WL.vS hS hE (runs_if hE rfl rfl rfl hg87) (Gives.pickT hE rfl hg88 rfl) rfl fun a hE => ?_
      refine vP hS hE (Gives.pickF hE rfl hg87 rfl) rfl fun a hE => ?_
      refine vp hS hE rfl rfl fun a hE => WL.nil ?_
      subst hK83
      exact ⟨decide (((x0.Kids).length : Int) > 0), hq78, hE.pick _ ⟨rfl, rfl, trivial⟩, hS⟩
     replace hq78 := iteF hg88 hq78
     refine nO hE rfl rfl rfl (by rw [hg88]; decide) rfl fun a hE => ?_
     refine nO hE rfl rfl rfl (by rw [hg88]; decide) rfl fun a hE => ?_
     refine nO hE rfl rfl rfl (by rw [hg88]; decide) rfl fun a hE => ?_
     refine nO hE rfl rfl rfl (by rw [hg88]; decide) rfl fun a hE => ?_
     refine WL.vS hS hE (runs_if hE rfl rfl rfl hg87) (Gives.pickF hE rfl hg88 rfl) rfl fun a hE => ?_
     refine vP hS hE (Gives.pickF hE rfl hg87 rfl) rfl fun a hE => ?_
     refine vp hS hE rfl rfl fun a hE => WL.nil ?_
     subst hK83
     exact ⟨false, hq78, hE.pick _ ⟨rfl, rfl, trivial⟩, hS⟩
    replace hq78 := iteF hg86 hq78
    refine nO hE rfl rfl rfl (by rw [hg86]; decide) rfl fun a hE => ?_
    refine nO hE rfl rfl rfl (by rw [hg86]; decide) rfl fun a hE => ?_
    refine nO hE rfl rfl rfl (by rw [hg86]; decide) rfl fun a hE => ?_
    refine nO hE rfl rfl rfl (by rw [hg86]; decide) rfl fun a hE => ?_
    refine WL.vS hS hE (runs_if hE rfl rfl rfl hg85) (Gives.pickF hE rfl hg86 rfl) rfl fun a hE => ?_
    refine vP hS hE (Gives.pickF hE rfl hg85 rfl) rfl fun a hE => ?_
    refine vp hS hE rfl rfl fun a hE => ?_
    refine WL.vS hS hE (runs_if hE rfl rfl rfl rfl) (Gives.fld hE rfl fl43_0) rfl fun a hE => ?_
    refine WL.vS hS hE (runs_if hE rfl rfl rfl rfl) (Gives.loadB hE 0 rfl rfl rfl ty3) rfl fun a hE => ?_
    refine WL.vS hS hE (runs_if hE rfl rfl rfl rfl) (Gives.p hE rfl) rfl fun a hE => ?_
    refine WL.vS hS hE (runs_if hE rfl rfl rfl rfl) (Gives.p hE rfl) rfl fun a hE => ?_
    rcases Bool.eq_false_or_eq_true (decide (x0.Kind < 9)) with hg89 | hg89
    ·replace hq78 := iteT hg89 hq78
     refine WL.vS hS hE (runs_if hE rfl rfl rfl hg89) (Gives.fld hE rfl fl43_3) rfl fun a hE => ?_
     refine WL.vS hS hE (runs_if hE rfl rfl rfl hg89) (Gives.loadB hE 0 rfl rfl rfl ty41) rfl fun a hE => ?_
     refine WL.vS hS hE (runs_if hE rfl rfl rfl hg89) (Gives.len hE rfl sl41) rfl fun a hE => ?_
     refine WL.vS hS hE (runs_if hE rfl rfl rfl hg89) (Gives.p hE rfl) rfl fun a hE => ?_
     refine WL.vS hS hE (runs_if hE rfl rfl rfl rfl) (Gives.pickT hE rfl hg89 rfl) rfl fun a hE => ?_
     refine vP hS hE (Gives.pickF hE rfl rfl rfl) rfl fun a hE => ?_
     refine vp hS hE rfl rfl fun a hE => WL.nil ?_
     subst hK83
     exact ⟨decide (((x0.Kids).length : Int) > 0), hq78, hE.pick _ ⟨rfl, rfl, trivial⟩, hS⟩
    replace hq78 := iteF hg89 hq78
    refine nO hE rfl rfl rfl (by rw [hg89]; decide) rfl fun a hE => ?_
    refine nO hE rfl rfl rfl (by rw [hg89]; decide) rfl fun a hE => ?_
    refine nO hE rfl rfl rfl (by rw [hg89]; decide) rfl fun a hE => ?_
    refine nO hE rfl rfl rfl (by rw [hg89]; decide) rfl fun a hE => ?_
    refine WL.vS hS hE (runs_if hE rfl rfl rfl rfl) (Gives.pickF hE rfl hg89 rfl) rfl fun a hE => ?_
    refine vP hS hE (Gives.pickF hE rfl rfl rfl) rfl fun a hE => ?_
    refine vp hS hE rfl rfl fun a hE => WL.nil ?_
    subst hK83
    exact ⟨false, hq78, hE.pick _ ⟨rfl, rfl, trivial⟩, hS⟩
   replace hq78 := iteF hg84 hq78
   refine nO hE rfl rfl rfl (by rw [hg84]; decide) rfl fun a hE => ?_
   refine nO hE rfl rfl rfl (by rw [hg84]; decide) rfl fun a hE => ?_
   refine nO hE rfl rfl rfl (by rw [hg84]; decide) rfl fun a hE => ?_
   refine nO hE rfl rfl rfl (by rw [hg84]; decide) rfl fun a hE => ?_
   refine vP hS hE (Gives.pickF hE rfl hg84 rfl) rfl fun a hE => ?_
   refine vp hS hE rfl rfl fun a hE => ?_
   refine WL.vS hS hE (runs_if hE rfl rfl rfl rfl) (Gives.fld hE rfl fl43_0) rfl fun a hE => ?_
   refine WL.vS hS hE (runs_if hE rfl rfl rfl rfl) (Gives.loadB hE 0 rfl rfl rfl ty3) rfl fun a hE => ?_
   refine WL.vS hS hE (runs_if hE rfl rfl rfl rfl) (Gives.p hE rfl) rfl fun a hE => ?_
   refine WL.vS hS hE (runs_if hE rfl rfl rfl rfl) (Gives.p hE rfl) rfl fun a hE => ?_
   rcases Bool.eq_false_or_eq_true (decide (x0.Kind > 9)) with hg90 | hg90
   ·replace hq78 := iteT hg90 hq78
    refine WL.vS hS hE (runs_if hE rfl rfl rfl hg90) (Gives.fld hE rfl fl43_3) rfl fun a hE => ?_
    refine WL.vS hS hE (runs_if hE rfl rfl rfl hg90) (Gives.loadB hE 0 rfl rfl rfl ty41) rfl fun a hE => ?_
    refine WL.vS hS hE (runs_if hE rfl rfl rfl hg90) (Gives.len hE rfl sl41) rfl fun a hE => ?_
    refine WL.vS hS hE (runs_if hE rfl rfl rfl hg90) (Gives.p hE rfl) rfl fun a hE => ?_
    refine WL.vS hS hE (runs_if hE rfl rfl rfl rfl) (Gives.pickT hE rfl hg90 rfl) rfl fun a hE => ?_
    refine vP hS hE (Gives.pickF hE rfl rfl rfl) rfl fun a hE => ?_
    refine vp hS hE rfl rfl fun a hE => ?_
    rcases Bool.eq_false_or_eq_true (decide (((x0.Kids).length : Int) < 2)) with hg91 | hg91
    ·replace hq78 := iteT hg91 hq78
     refine nO hE rfl rfl rfl (by rw [hg91]; decide) rfl fun a hE => ?_
     refine nO hE rfl rfl rfl (by rw [hg91]; decide) rfl fun a hE => ?_
     refine nO hE rfl rfl rfl (by rw [hg91]; decide) rfl fun a hE => ?_
     refine nO hE rfl rfl rfl (by rw [hg91]; decide) rfl fun a hE => ?_
     refine WL.no hE (runs_undef hE rfl rfl rfl) rfl fun a hE => ?_
     refine WL.no hE (runs_undef hE rfl rfl rfl) rfl fun a hE => ?_
     refine WL.no hE (runs_undef hE rfl rfl rfl) rfl fun a hE => ?_
     refine WL.no hE (runs_undef hE rfl rfl rfl) rfl fun a hE => ?_
     refine nO hE rfl rfl rfl (by rw [hg91]; decide) rfl fun a hE => ?_
     refine vP hS hE (Gives.pickT hE rfl hg91 rfl) rfl fun a hE => ?_
     refine vp hS hE rfl rfl fun a hE => WL.nil ?_
     subst hK83
     exact ⟨true, hq78, hE.pick _ ⟨rfl, rfl, trivial⟩, hS⟩
    replace hq78 := iteF hg91 hq78
    refine WL.vS hS hE (runs_if hE rfl rfl rfl hg91) (Gives.fld hE rfl fl43_0) rfl fun a hE => ?_
    refine WL.vS hS hE (runs_if hE rfl rfl rfl hg91) (Gives.loadB hE 0 rfl rfl rfl ty3) rfl fun a hE => ?_
    refine WL.vS hS hE (runs_if hE rfl rfl rfl hg91) (Gives.p hE rfl) rfl fun a hE => ?_
    refine WL.vS hS hE (runs_if hE rfl rfl rfl hg91) (Gives.p hE rfl) rfl fun a hE => ?_
    rcases Bool.eq_false_or_eq_true (decide (x0.Kind < 9)) with hg92 | hg92
    ·replace hq78 := iteT hg92 hq78
     refine WL.vS hS hE (runs_if hE rfl rfl rfl hg92) (Gives.fld hE rfl fl43_3) rfl fun a hE => ?_
     refine WL.vS hS hE (runs_if hE rfl rfl rfl hg92) (Gives.loadB hE 0 rfl rfl rfl ty41) rfl fun a hE => ?_
     refine WL.vS hS hE (runs_if hE rfl rfl rfl hg92) (Gives.len hE rfl sl41) rfl fun a hE => ?_
     refine WL.vS hS hE (runs_if hE rfl rfl rfl hg92) (Gives.p hE rfl) rfl fun a hE => ?_
     refine WL.vS hS hE (runs_if hE rfl rfl rfl hg91) (Gives.pickT hE rfl hg92 rfl) rfl fun a hE => ?_
     refine vP hS hE (Gives.pickF hE rfl hg91 rfl) rfl fun a hE => ?_
     refine vp hS hE rfl rfl fun a hE => WL.nil ?_
     subst hK83
     exact ⟨decide (((x0.Kids).length : Int) > 0), hq78, hE.pick _ ⟨rfl, rfl, trivial⟩, hS⟩
    replace hq78 := iteF hg92 hq78
    refine nO hE rfl rfl rfl (by rw [hg92]; decide) rfl fun a hE => ?_
    refine nO hE rfl rfl rfl (by rw [hg92]; decide) rfl fun a hE => ?_
    refine nO hE rfl rfl rfl (by rw [hg92]; decide) rfl fun a hE => ?_
    refine nO hE rfl rfl rfl (by rw [hg92]; decide) rfl fun a hE => ?_
    refine WL.vS hS hE (runs_if hE rfl rfl rfl hg91) (Gives.pickF hE rfl hg92 rfl) rfl fun a hE => ?_
    refine vP hS hE (Gives.pickF hE rfl hg91 rfl) rfl fun a hE => ?_
    refine vp hS hE rfl rfl fun a hE => WL.nil ?_
    subst hK83
    exact ⟨false, hq78, hE.pick _ ⟨rfl, rfl, trivial⟩, hS⟩
   replace hq78 := iteF hg90 hq78
   refine nO hE rfl rfl rfl (by rw [hg90]; decide) rfl fun a hE => ?_
   refine nO hE rfl rfl rfl (by rw [hg90]; decide) rfl fun a hE => ?_
   refine nO hE rfl rfl rfl (by rw [hg90]; decide) rfl fun a hE => ?_
   refine nO hE rfl rfl rfl (by rw [hg90]; decide) rfl fun a hE => ?_
   refine WL.vS hS hE (runs_if hE rfl rfl rfl rfl) (Gives.pickF hE rfl hg90 rfl) rfl fun a hE => ?_
   refine vP hS hE (Gives.pickF hE rfl rfl rfl) rfl fun a hE => ?_
   refine vp hS hE rfl rfl fun a hE => ?_
   refine WL.vS hS hE (runs_if hE rfl rfl rfl rfl) (Gives.fld hE rfl fl43_0) rfl fun a hE => ?_
   refine WL.vS hS hE (runs_if hE rfl rfl rfl rfl) (Gives.loadB hE 0 rfl rfl rfl ty3) rfl fun a hE => ?_
   refine WL.vS hS hE (runs_if hE rfl rfl rfl rfl) (Gives.p hE rfl) rfl fun a hE => ?_
   refine WL.vS hS hE (runs_if hE rfl rfl rfl rfl) (Gives.p hE rfl) rfl fun a hE => ?_
   rcases Bool.eq_false_or_eq_true (decide (x0.Kind < 9)) with hg93 | hg93
   ·replace hq78 := iteT hg93 hq78
    refine WL.vS hS hE (runs_if hE rfl rfl rfl hg93) (Gives.fld hE rfl fl43_3) rfl fun a hE => ?_
    refine WL.vS hS hE (runs_if hE rfl rfl rfl hg93) (Gives.loadB hE 0 rfl rfl rfl ty41) rfl fun a hE => ?_
    refine WL.vS hS hE (runs_if hE rfl rfl rfl hg93) (Gives.len hE rfl sl41) rfl fun a hE => ?_
    refine WL.vS hS hE (runs_if hE rfl rfl rfl hg93) (Gives.p hE rfl) rfl fun a hE => ?_
    refine WL.vS hS hE (runs_if hE rfl rfl rfl rfl) (Gives.pickT hE rfl hg93 rfl) rfl fun a hE => ?_
    refine vP hS hE (Gives.pickF hE rfl rfl rfl) rfl fun a hE => ?_
    refine vp hS hE rfl rfl fun a hE => WL.nil ?_
    subst hK83
    exact ⟨decide (((x0.Kids).length : Int) > 0), hq78, hE.pick _ ⟨rfl, rfl, trivial⟩, hS⟩
   replace hq78 := iteF hg93 hq78
   refine nO hE rfl rfl rfl (by rw [hg93]; decide) rfl fun a hE => ?_
   refine nO hE rfl rfl rfl (by rw [hg93]; decide) rfl fun a hE => ?_
   refine nO hE rfl rfl rfl (by rw [hg93]; decide) rfl fun a hE => ?_
   refine nO hE rfl rfl rfl (by rw [hg93]; decide) rfl fun a hE => ?_
   refine WL.vS hS hE (runs_if hE rfl rfl rfl rfl) (Gives.pickF hE rfl hg93 rfl) rfl fun a hE => ?_
   refine vP hS hE (Gives.pickF hE rfl rfl rfl) rfl fun a hE => ?_
   refine vp hS hE rfl rfl fun a hE => WL.nil ?_
   subst hK83
   exact ⟨false, hq78, hE.pick _ ⟨rfl, rfl, trivial⟩, hS⟩
  clear hE hS a w; rintro a w ⟨q82, rfl, hE, hS⟩
  refine W.cond hE rfl (fun hc94 => ?_) (fun hc94 => ?_)
  ·replace hr := iteT hc94 hr
   refine W.seq (W.region (vp hS hE rfl rfl fun a hE => WL.nil ?_))
   refine W.ret ?_
   refine finG (fn := Tryz.f53) (rs := [.tmp 2]) (vs := [_]) hE rfl ⟨rfl, trivial⟩ ?_
   obtain rfl := Option.some.inj hr
   replace hS := hS.tail
   exact ⟨rfl, hS⟩
  replace hr := iteF hc94 hr
  refine W.skip ?_
  refine W.seq ?_
  refine W.seq (W.region (vP hS hE (Gives.fld hE rfl fl43_3) rfl fun a hE => ?_))
  refine vP hS hE (Gives.loadB hE 0 rfl rfl rfl ty41) rfl fun a hE => ?_
  refine vP hS hE (Gives.len hE rfl sl41) rfl fun a hE => ?_
  refine vp hS hE rfl rfl fun a hE => WL.nil ?_
  obtain ⟨q96, hq95, hr⟩ := bindS hr
  refine W.cut (fun a w => (.next ()) = q96 ∧ Rep a 99 [] ∧ St w s (pc b51 #[vi x0.Kind, vi x0.A, vi x0.B, .slice a0_0 x0.Kids.length c0_0] 43 :: R)) ?_ ?_
  ·refine W.block ?_
   refine W.loop (fun m a w => ∃ (rest99 : List FareCond) (k97 : Nat), rest99.length = m ∧ x0.Kids.drop k97 = rest99 ∧ FareCondnode.loop1 self_FareCondnode rest99 = some q96 ∧ Rep a 99 [(87, .slice a0_0 x0.Kids.length c0_0), (88, vi ((x0.Kids).length : Int)), (89, vi ((k97 : Nat) : Int))] ∧ St w s (pc b51 #[vi x0.Kind, vi x0.A, vi x0.B, .slice a0_0 x0.Kids.length c0_0] 43 :: R)) (m := x0.Kids.length) ⟨x0.Kids, 0, rfl, rfl, hq95, hE.pick _ ⟨rfl, rfl, rfl, trivial⟩, hS⟩ ?_
   clear hE hS a w hq95; rintro m103 a w ⟨rest99, k97, rfl, hd100, hq95, hE, hS⟩
   refine W.gen fun K106 hK106 => ?_
   rcases rest99 with _ | ⟨x98, rest99⟩
   ·have hlt101 := drop_nil hd100
    refine W.seq (W.region (vp hS hE rfl rfl fun a hE => WL.nil ?_))
    refine W.seq ?_
    refine W.condF hE rfl (decide_eq_false (by omega)) ?_
    subst hK106
    refine W.exit rfl ?_
    exact ⟨Option.some.inj hq95, hE.pick _ trivial, hS⟩
   obtain ⟨hlt101, hx102, hd100⟩ := drop_cons hd100
   rw [FareCondnode.loop1] at hq95
   refine W.seq (W.region (vp hS hE rfl rfl fun a hE => WL.nil ?_))
   refine W.seq ?_
   refine W.condT hE rfl (decide_eq_true (by omega)) ?_
   refine W.skip ?_
   refine W.seq ?_
   refine W.block ?_
   refine W.seq (W.region ?_)
   obtain ⟨cs107, hl108, hR109, hat110⟩ := h0_0.at hx102
   obtain ⟨a111, c112, rfl, h113⟩ := hR109.unf
   refine vP hS hE (Gives.idx hE k97 rfl rfl sl41 rfl hlt101 (h0_0.aok hlt101)) rfl fun a hE => ?_
   refine vP hS hE (Gives.loadA hE rfl (fun w h => hat110 w _ h) ty43) rfl fun a hE => ?_
   refine WL.alloc hE hS (runs_plain rfl) zr43 rfl ?_; clear hE hS a w; intro b114 a w hE hS
   refine WL.storeI hE hS 0 rfl [vi x98.Kind, vi x98.A, vi x98.B, .slice a111 x98.Kids.length c112] (runs_plain rfl) rfl rfl rfl ty43 rfl rfl rfl rfl ?_; clear hE hS a w; intro a w hE hS
   refine WL.nil ?_
   refine W.seq (W.region (vP hS hE (Gives.loadBA hE 0 rfl rfl ty43) rfl fun a hE => ?_))
   obtain ⟨q115, hq116, hq95⟩ := bindS hq95
   have hc_ := ih_FareCondnode hS h113 hq116
   refine WL.fnq hE (hc_) (runs_plain rfl) bd53 rfl rfl rfl ?_
   clear hE hS hc_; rintro e w ⟨rfl, hS⟩; refine ⟨_, rfl, ?_⟩; clear a; intro a hE
   refine vp hS hE rfl rfl fun a hE => WL.nil ?_
   refine W.seq (W.region (v2 hS hE rfl rfl rfl rfl fun a hE => WL.nil ?_))
   refine W.cond hE rfl (fun hc117 => ?_) (fun hc117 => ?_)
   ·replace hq95 := iteT hc117 hq95
    refine W.seq (W.region (v2 hS hE rfl rfl rfl rfl fun a hE => WL.nil ?_))
    refine W.ret ?_
    subst hK106
    rw [← Option.some.inj hq95] at hr
    dsimp only at hr
    refine finG (fn := Tryz.f53) (rs := [.tmp 2]) (vs := [_]) hE rfl ⟨rfl, trivial⟩ ?_
    obtain rfl := Option.some.inj hr
    replace hS := hS.tail
    replace hS := hS.tail
    exact ⟨rfl, hS⟩
   replace hq95 := iteF hc117 hq95
   refine W.skip ?_
   refine W.region ?_
   refine vP hS hE (Gives.inc hE rfl (by have := h0_0.small; omega)) rfl fun a hE => ?_
   refine vp hS hE rfl rfl fun a hE => WL.nil ?_
   replace hS := hS.tail
   subst hK106
   exact ⟨rest99.length, Nat.lt_succ_self _, rest99, k97 + 1, rfl, hd100, hq95, hE.pick _ ⟨rfl, rfl, rfl, trivial⟩, hS⟩
  clear hE hS a w; rintro a w ⟨rfl, hE, hS⟩
  dsimp only at hr
  refine W.seq (W.region (vp hS hE rfl rfl fun a hE => WL.nil ?_))
  refine W.ret ?_
  refine finG (fn := Tryz.f53) (rs := [.tmp 2]) (vs := [_]) hE rfl ⟨rfl, trivial⟩ ?_
  obtain rfl := Option.some.inj hr
  replace hS := hS.tail
  exact ⟨rfl, hS⟩
set_option maxHeartbeats 8000000 in
theorem FareCondcheck_ok {fu : Nat}  {w : World} {s : Sg} {R : List HP} {x0 : FareCond} {a0_0 : Option Addr} {c0_0 : Nat} (hS : St w s (R)) (h0_0 : Sl 4 RFareCond s a0_0 c0_0 x0.Kids) {r : Int} (hr : FareCondcheck fu x0 = some r) :
  Calls Tryz.prog 28 [.agg (List.toArray [vi x0.Kind, vi x0.A, vi x0.B, .slice a0_0 x0.Kids.length c0_0])].toArray w (fun e w => e = .returned (vi r) ∧ St w s (R)) := by
 refine enter Tryz.func28 rfl rfl rfl fun a hE => ?_
 rw [FareCondcheck] at hr
 refine W.seq (W.region ?_)
 refine WL.box hE hS (runs_plain rfl) rfl rfl rfl ?_; clear hE hS a w; intro b51 a w hE hS
 refine vp hS hE rfl rfl fun a hE => WL.nil ?_
 refine W.seq ?_
 refine W.seq (W.region (vP hS hE (Gives.loadBA hE 0 rfl rfl ty43) rfl fun a hE => ?_))
 obtain ⟨q52, hq53, hr⟩ := bindS hr
 have hc_ := FareCondsize_ok hS h0_0 hq53
 refine WL.fnq hE (hc_) (runs_plain rfl) bd52 rfl rfl rfl ?_
 clear hE hS hc_; rintro e w ⟨rfl, hS⟩; refine ⟨_, rfl, ?_⟩; clear a; intro a hE
 refine v2 hS hE rfl rfl rfl rfl fun a hE => ?_
 refine v2 hS hE rfl rfl rfl rfl fun a hE => ?_
 refine vp hS hE rfl rfl fun a hE => WL.nil ?_
 refine W.seq ?_
 obtain ⟨q55, hq54, hr⟩ := bndS hr
 refine W.cut (fun a w => ∃ (q58 : Bool), q58 = q55 ∧ Rep a 18 [(1, pp b51), (15, .bool q58)] ∧ St w s (pc b51 #[vi x0.Kind, vi x0.A, vi x0.B, .slice a0_0 x0.Kids.length c0_0] 43 :: R)) ?_ ?_
 ·refine W.gen fun K59 hK59 => ?_
  refine W.region ?_
  refine v2 hS hE rfl rfl rfl rfl fun a hE => ?_
  refine vp hS hE rfl rfl fun a hE => ?_
  rcases Bool.eq_false_or_eq_true (decide (q52.1 > 40)) with hg60 | hg60
  ·replace hq54 := iteT hg60 hq54
   refine nO hE rfl rfl rfl (by rw [hg60]; decide) rfl fun a hE => ?_
   refine nO hE rfl rfl rfl (by rw [hg60]; decide) rfl fun a hE => ?_
   refine vP hS hE (Gives.pickT hE rfl hg60 rfl) rfl fun a hE => WL.nil ?_
   subst hK59
   exact ⟨true, hq54, hE.pick _ ⟨rfl, rfl, trivial⟩, hS⟩
  replace hq54 := iteF hg60 hq54
  refine WL.vS hS hE (runs_if hE rfl rfl rfl hg60) (Gives.p hE rfl) rfl fun a hE => ?_
  refine WL.vS hS hE (runs_if hE rfl rfl rfl hg60) (Gives.p hE rfl) rfl fun a hE => ?_
  refine vP hS hE (Gives.pickF hE rfl hg60 rfl) rfl fun a hE => WL.nil ?_
  subst hK59
  exact ⟨decide (q52.2 > 6), hq54, hE.pick _ ⟨rfl, rfl, trivial⟩, hS⟩
 clear hE hS a w; rintro a w ⟨q58, rfl, hE, hS⟩
 refine W.cond hE rfl (fun hc61 => ?_) (fun hc61 => ?_)
 ·replace hr := iteT hc61 hr
  refine W.seq (W.region (vp hS hE rfl rfl fun a hE => WL.nil ?_))
  refine W.ret ?_
  refine finG (fn := Tryz.f28) (rs := [.tmp 2]) (vs := [_]) hE rfl ⟨rfl, trivial⟩ ?_
  obtain rfl := Option.some.inj hr
  replace hS := hS.tail
  exact ⟨rfl, hS⟩
 replace hr := iteF hc61 hr
 refine W.skip ?_
 refine W.seq (W.region (vP hS hE (Gives.loadBA hE 0 rfl rfl ty43) rfl fun a hE => ?_))
 obtain ⟨q62, hq63, hr⟩ := bindS hr
 have hc_ := FareCondnode_ok hS h0_0 hq63
 refine WL.fnq hE (hc_) (runs_plain rfl) bd53 rfl rfl rfl ?_
 clear hE hS hc_; rintro e w ⟨rfl, hS⟩; refine ⟨_, rfl, ?_⟩; clear a; intro a hE
 refine vp hS hE rfl rfl fun a hE => WL.nil ?_
 refine W.ret ?_
 refine finG (fn := Tryz.f28) (rs := [.tmp 2]) (vs := [_]) hE rfl ⟨rfl, trivial⟩ ?_
 obtain rfl := Option.some.inj hr
 replace hS := hS.tail
 exact ⟨rfl, hS⟩
set_option maxHeartbeats 8000000 in
theorem FareCheckTariff_ok {fu : Nat}  {w : World} {s : Sg} {R : List HP} {x0 : FareTariff} {a0_0 : Option Addr} {c0_0 : Nat} {a0_1 : Option Addr} {c0_1 : Nat} (hS : St w s (R)) (h0_0 : Sl 2 RFareBand s a0_0 c0_0 x0.Bands) (h0_1 : Sl 7 RFareRule s a0_1 c0_1 x0.Rules) {r : Int} (hr : FareCheckTariff fu x0 = some r) :
  Calls Tryz.prog 12 [.agg (List.toArray [.bool x0.ByKm, .slice a0_0 x0.Bands.length c0_0, vi x0.Round, .slice a0_1 x0.Rules.length c0_1])].toArray w (fun e w => e = .returned (vi r) ∧ St w s (R)) := by
 refine enter Tryz.func12 rfl rfl rfl fun a hE => ?_
 rw [FareCheckTariff] at hr
 refine W.seq (W.region ?_)
 refine WL.box hE hS (runs_plain rfl) rfl rfl rfl ?_; clear hE hS a w; intro b51 a w hE hS
 refine vp hS hE rfl rfl fun a hE => WL.nil ?_
 refine W.seq ?_
 refine W.seq ?_
 obtain ⟨q53, hq52, hr⟩ := bndS hr
 refine W.cut (fun a w => ∃ (q56 : Bool), q56 = q53 ∧ Rep a 97 [(1, pp b51), (19, .bool q56)] ∧ St w s (pc b51 #[.bool x0.ByKm, .slice a0_0 x0.Bands.length c0_0, vi x0.Round, .slice a0_1 x0.Rules.length c0_1] 25 :: R)) ?_ ?_
 ·refine W.gen fun K57 hK57 => ?_
  refine W.region ?_
  refine vP hS hE (Gives.fld hE rfl fl25_1) rfl fun a hE => ?_
  refine vP hS hE (Gives.loadB hE 0 rfl rfl rfl ty22) rfl fun a hE => ?_
  refine vP hS hE (Gives.len hE rfl sl22) rfl fun a hE => ?_
  refine WL.fnq hE (Farewithin_ok hS  rfl (r := Farewithin ((x0.Bands).length : Int) 1 8)) (runs_plain rfl) bd27 rfl rfl rfl ?_
  clear hE hS; rintro e w ⟨rfl, hS⟩; refine ⟨_, rfl, ?_⟩; clear a; intro a hE
  refine v2 hS hE rfl rfl rfl rfl fun a hE => ?_
  rcases Bool.eq_false_or_eq_true (!(Farewithin ((x0.Bands).length : Int) 1 8)) with hg58 | hg58
  ·replace hq52 := iteT hg58 hq52
   refine nO hE rfl rfl rfl (by rw [hg58]; decide) rfl fun a hE => ?_
   refine nO hE rfl rfl rfl (by rw [hg58]; decide) rfl fun a hE => ?_
   refine nO hE rfl rfl rfl (by rw [hg58]; decide) rfl fun a hE => ?_
   refine nO hE rfl rfl rfl (by rw [hg58]; decide) rfl fun a hE => ?_
   refine vP hS hE (Gives.pickT hE rfl hg58 rfl) rfl fun a hE => WL.nil ?_
   subst hK57
   exact ⟨true, hq52, hE.pick _ ⟨rfl, rfl, trivial⟩, hS⟩
  replace hq52 := iteF hg58 hq52
  refine WL.vS hS hE (runs_if hE rfl rfl rfl hg58) (Gives.fld hE rfl fl25_3) rfl fun a hE => ?_
  refine WL.vS hS hE (runs_if hE rfl rfl rfl hg58) (Gives.loadB hE 0 rfl rfl rfl ty23) rfl fun a hE => ?_
  refine WL.vS hS hE (runs_if hE rfl rfl rfl hg58) (Gives.len hE rfl sl23) rfl fun a hE => ?_
  refine WL.vS hS hE (runs_if hE rfl rfl rfl hg58) (Gives.p hE rfl) rfl fun a hE => ?_
  refine vP hS hE (Gives.pickF hE rfl hg58 rfl) rfl fun a hE => WL.nil ?_
  subst hK57
  exact ⟨decide (((x0.Rules).length : Int) > 20), hq52, hE.pick _ ⟨rfl, rfl, trivial⟩, hS⟩
 clear hE hS a w; rintro a w ⟨q56, rfl, hE, hS⟩
 refine W.cond hE rfl (fun hc59 => ?_) (fun hc59 => ?_)
 ·replace hr := iteT hc59 hr
  refine W.seq (W.region (vp hS hE rfl rfl fun a hE => WL.nil ?_))
  refine W.ret ?_
  refine finG (fn := Tryz.f12) (rs := [.tmp 2]) (vs := [_]) hE rfl ⟨rfl, trivial⟩ ?_
  obtain rfl := Option.some.inj hr
  replace hS := hS.tail
  exact ⟨rfl, hS⟩
 replace hr := iteF hc59 hr
 refine W.skip ?_
 refine W.seq ?_
 refine W.seq (W.region (vP hS hE (Gives.fld hE rfl fl25_1) rfl fun a hE => ?_))
 refine vP hS hE (Gives.loadB hE 0 rfl rfl rfl ty22) rfl fun a hE => ?_
 refine vP hS hE (Gives.len hE rfl sl22) rfl fun a hE => ?_
 refine vp hS hE rfl rfl fun a hE => WL.nil ?_
 obtain ⟨q61, hq60, hr⟩ := bindS hr
 refine W.cut (fun a w => (.next ()) = q61 ∧ Rep a 97 [(1, pp b51)] ∧ St w s (pc b51 #[.bool x0.ByKm, .slice a0_0 x0.Bands.length c0_0, vi x0.Round, .slice a0_1 x0.Rules.length c0_1] 25 :: R)) ?_ ?_
 ·refine W.block ?_
  refine W.loop (fun m a w => ∃ (rest64 : List FareBand) (k62 : Nat), rest64.length = m ∧ x0.Bands.drop k62 = rest64 ∧ FareCheckTariff.loop1 x0 rest64 k62 = some q61 ∧ Rep a 97 [(1, pp b51), (21, .slice a0_0 x0.Bands.length c0_0), (22, vi ((x0.Bands).length : Int)), (23, vi ((k62 : Nat) : Int))] ∧ St w s (pc b51 #[.bool x0.ByKm, .slice a0_0 x0.Bands.length c0_0, vi x0.Round, .slice a0_1 x0.Rules.length c0_1] 25 :: R)) (m := x0.Bands.length) ⟨x0.Bands, 0, rfl, rfl, hq60, hE.pick _ ⟨rfl, rfl, rfl, rfl, trivial⟩, hS⟩ ?_
  clear hE hS a w hq60; rintro m68 a w ⟨rest64, k62, rfl, hd65, hq60, hE, hS⟩
  refine W.gen fun K71 hK71 => ?_
  rcases rest64 with _ | ⟨x63, rest64⟩
  ·have hlt66 := drop_nil hd65
   refine W.seq (W.region (vp hS hE rfl rfl fun a hE => WL.nil ?_))
   refine W.seq ?_
   refine W.condF hE rfl (decide_eq_false (by omega)) ?_
   subst hK71
   refine W.exit rfl ?_
   exact ⟨Option.some.inj hq60, hE.pick _ ⟨rfl, trivial⟩, hS⟩
  obtain ⟨hlt66, hx67, hd65⟩ := drop_cons hd65
  rw [FareCheckTariff.loop1] at hq60
  refine W.seq (W.region (vp hS hE rfl rfl fun a hE => WL.nil ?_))
  refine W.seq ?_
  refine W.condT hE rfl (decide_eq_true (by omega)) ?_
  refine W.skip ?_
  refine W.seq ?_
  refine W.block ?_
  refine W.seq (W.region (vp hS hE rfl rfl fun a hE => ?_))
  obtain ⟨cs72, hl73, hR74, hat75⟩ := h0_0.at hx67
  subst hR74
  refine vP hS hE (Gives.idx hE k62 rfl rfl sl22 rfl hlt66 (h0_0.aok hlt66)) rfl fun a hE => ?_
  refine vP hS hE (Gives.loadA hE rfl (fun w h => hat75 w _ h) ty40) rfl fun a hE => ?_
  refine WL.alloc hE hS (runs_plain rfl) zr40 rfl ?_; clear hE hS a w; intro b76 a w hE hS
  refine vp hS hE rfl rfl fun a hE => ?_
  refine WL.storeI hE hS 0 rfl (FareBand.cells x63) (runs_plain rfl) rfl rfl rfl ty40 rfl rfl rfl rfl ?_; clear hE hS a w; intro a w hE hS
  refine WL.nil ?_
  refine W.seq ?_
  refine W.seq ?_
  obtain ⟨q78, hq77, hq60⟩ := bndS hq60
  refine W.cut (fun a w => ∃ (q81 : Bool), q81 = q78 ∧ Rep a 97 [(1, pp b51), (3, vi ((k62 : Nat) : Int)), (4, pp b76), (21, .slice a0_0 x0.Bands.length c0_0), (22, vi ((x0.Bands).length : Int)), (23, vi ((k62 : Nat) : Int)), (37, .bool q81)] ∧ St w s (pc b76 (FareBand.cells x63).toArray 40 :: pc b51 #[.bool x0.ByKm, .slice a0_0 x0.Bands.length c0_0, vi x0.Round, .slice a0_1 x0.Rules.length c0_1] 25 :: R)) ?_ ?_
  ·refine W.gen fun K82 hK82 => ?_
   refine W.region ?_
   refine vP hS hE (Gives.fld hE rfl fl40_0) rfl fun a hE => ?_
   refine vP hS hE (Gives.loadB hE 0 rfl rfl rfl ty3) rfl fun a hE => ?_
   refine WL.fnq hE (Farewithin_ok hS  rfl (r := Farewithin x63.Upto 1 1000)) (runs_plain rfl) bd27 rfl rfl rfl ?_
   clear hE hS; rintro e w ⟨rfl, hS⟩; refine ⟨_, rfl, ?_⟩; clear a; intro a hE
   refine v2 hS hE rfl rfl rfl rfl fun a hE => ?_
   rcases Bool.eq_false_or_eq_true (!(Farewithin x63.Upto 1 1000)) with hg83 | hg83
   ·replace hq77 := iteT hg83 hq77
    refine nO hE rfl rfl rfl (by rw [hg83]; decide) rfl fun a hE => ?_
    refine nO hE rfl rfl rfl (by rw [hg83]; decide) rfl fun a hE => ?_
    refine nO hE rfl rfl rfl (by rw [hg83]; decide) rfl fun a hE => ?_
    refine nO hE rfl rfl rfl (by rw [hg83]; decide) rfl fun a hE => ?_
    refine vP hS hE (Gives.pickT hE rfl hg83 rfl) rfl fun a hE => WL.nil ?_
    subst hK82
    exact ⟨true, hq77, hE.pick _ ⟨rfl, rfl, rfl, rfl, rfl, rfl, rfl, trivial⟩, hS⟩
   replace hq77 := iteF hg83 hq77
   refine WL.vS hS hE (runs_if hE rfl rfl rfl hg83) (Gives.fld hE rfl fl40_1) rfl fun a hE => ?_
   refine WL.vS hS hE (runs_if hE rfl rfl rfl hg83) (Gives.loadB hE 0 rfl rfl rfl ty3) rfl fun a hE => ?_
   refine WL.fnq hE (Farewithin_ok hS  rfl (r := Farewithin x63.Price 0 100000)) (runs_if hE rfl rfl rfl hg83) bd27 rfl rfl rfl ?_
   clear hE hS; rintro e w ⟨rfl, hS⟩; refine ⟨_, rfl, ?_⟩; clear a; intro a hE
   refine WL.vS hS hE (runs_if hE rfl rfl rfl hg83) (Gives.p hE rfl) rfl fun a hE => ?_
   refine vP hS hE (Gives.pickF hE rfl hg83 rfl) rfl fun a hE => WL.nil ?_
   subst hK82
   exact ⟨!(Farewithin x63.Price 0 100000), hq77, hE.pick _ ⟨rfl, rfl, rfl, rfl, rfl, rfl, rfl, trivial⟩, hS⟩
  clear hE hS a w; rintro a w ⟨q81, rfl, hE, hS⟩
  refine W.cond hE rfl (fun hc84 => ?_) (fun hc84 => ?_)
  ·replace hq60 := iteT hc84 hq60
   refine W.seq (W.region (vp hS hE rfl rfl fun a hE => WL.nil ?_))
   refine W.ret ?_
   subst hK71
   rw [← Option.some.inj hq60] at hr
   dsimp only at hr
   refine finG (fn := Tryz.f12) (rs := [.tmp 2]) (vs := [_]) hE rfl ⟨rfl, trivial⟩ ?_
   obtain rfl := Option.some.inj hr
   replace hS := hS.tail
   replace hS := hS.tail
   exact ⟨rfl, hS⟩
  replace hq60 := iteF hc84 hq60
  refine W.skip ?_
  refine W.seq ?_
  obtain ⟨q86, hq85, hq60⟩ := bindS hq60
  refine W.cut (fun a w => ∃ (q89 : Bool), q89 = q86 ∧ Rep a 97 [(1, pp b51), (21, .slice a0_0 x0.Bands.length c0_0), (22, vi ((x0.Bands).length : Int)), (23, vi ((k62 : Nat) : Int)), (63, .bool q89)] ∧ St w s (pc b76 (FareBand.cells x63).toArray 40 :: pc b51 #[.bool x0.ByKm, .slice a0_0 x0.Bands.length c0_0, vi x0.Round, .slice a0_1 x0.Rules.length c0_1] 25 :: R)) ?_ ?_
  ·refine W.gen fun K90 hK90 => ?_
   refine W.regionQ (C := fun w => St w s (pc b76 (FareBand.cells x63).toArray 40 :: pc b51 #[.bool x0.ByKm, .slice a0_0 x0.Bands.length c0_0, vi x0.Round, .slice a0_1 x0.Rules.length c0_1] 25 :: R)) mixed (by kernel_rfl) hS.drew ?_
   refine qP hE (Gives.p hE rfl) rfl fun a hE => ?_
   refine qP hE (Gives.p hE rfl) rfl fun a hE => ?_
   refine qP hE (Gives.p hE rfl) rfl fun a hE => ?_
   rcases Bool.eq_false_or_eq_true (decide (((k62 : Nat) : Int) > 0)) with hg91 | hg91
   ·replace hq85 := iteT hg91 hq85
    refine QL.v hE (runs_if hE rfl rfl rfl hg91) (Gives.fld hE rfl fl40_0) rfl fun a hE => ?_
    refine QL.v hE (runs_if hE rfl rfl rfl hg91) (Gives.loadB hE 0 rfl rfl rfl ty3) rfl fun a hE => ?_
    refine QL.v hE (runs_if hE rfl rfl rfl hg91) (Gives.fld hE rfl fl25_1) rfl fun a hE => ?_
    refine QL.v hE (runs_if hE rfl rfl rfl hg91) (Gives.loadB hE 1 rfl rfl rfl ty22) rfl fun a hE => ?_
    refine QL.v hE (runs_if hE rfl rfl rfl hg91) (Gives.p hE rfl) rfl fun a hE => ?_
    refine QL.v hE (runs_if hE rfl rfl rfl hg91) (Gives.p hE rfl) rfl fun a hE => ?_
    obtain ⟨x92, hx93, hq85⟩ := bindS hq85
    obtain ⟨hi94, hlt95, hy96⟩ := gx_some hx93
    obtain ⟨cs97, hl98, hR99, hat100⟩ := h0_0.at hy96
    subst hR99
    refine QL.v hE (runs_if hE rfl rfl rfl hg91) (Gives.idx hE (w64 (((k62 : Nat) : Int) - 1)).toNat rfl rfl sl22 hi94 hlt95 (h0_0.aok hlt95)) rfl fun a hE => ?_
    refine QL.v hE (runs_if hE rfl rfl rfl hg91) (Gives.fld hE rfl fl40_0) rfl fun a hE => ?_
    refine QL.v hE (runs_if hE rfl rfl rfl hg91) (Gives.load1 hE rfl (fun w h => (hat100 w _ h).one rfl) ty3) rfl fun a hE => ?_
    refine QL.v hE (runs_if hE rfl rfl rfl hg91) (Gives.p hE rfl) rfl fun a hE => ?_
    refine QL.v hE (runs_if hE rfl rfl rfl hg91) (Gives.p hE rfl) rfl fun a hE => ?_
    rcases Bool.eq_false_or_eq_true (decide (x63.Upto ≤ x92.Upto)) with hg101 | hg101
    ·replace hq85 := iteT hg101 hq85
     refine QL.no hE (runs_not hE rfl rfl rfl (by rw [hg101]; decide)) rfl fun a hE => ?_
     refine QL.no hE (runs_not hE rfl rfl rfl (by rw [hg101]; decide)) rfl fun a hE => ?_
     refine QL.no hE (runs_not hE rfl rfl rfl (by rw [hg101]; decide)) rfl fun a hE => ?_
     refine QL.no hE (runs_not hE rfl rfl rfl (by rw [hg101]; decide)) rfl fun a hE => ?_
     refine QL.no hE (runs_not hE rfl rfl rfl (by rw [hg101]; decide)) rfl fun a hE => ?_
     refine QL.no hE (runs_not hE rfl rfl rfl (by rw [hg101]; decide)) rfl fun a hE => ?_
     refine QL.no hE (runs_not hE rfl rfl rfl (by rw [hg101]; decide)) rfl fun a hE => ?_
     refine QL.no hE (runs_not hE rfl rfl rfl (by rw [hg101]; decide)) rfl fun a hE => ?_
     refine QL.no hE (runs_not hE rfl rfl rfl (by rw [hg101]; decide)) rfl fun a hE => ?_
     refine QL.no hE (runs_not hE rfl rfl rfl (by rw [hg101]; decide)) rfl fun a hE => ?_
     refine QL.v hE (runs_if hE rfl rfl rfl hg91) (Gives.pickT hE rfl hg101 rfl) rfl fun a hE => ?_
     refine qP hE (Gives.pickT hE rfl hg91 rfl) rfl fun a hE => ?_
     refine QL.nil ?_; clear hS w; intro w hS
     subst hK90
     exact ⟨true, Option.some.inj hq85, hE.pick _ ⟨rfl, rfl, rfl, rfl, rfl, trivial⟩, hS⟩
    replace hq85 := iteF hg101 hq85
    refine QL.v hE (runs_if hE rfl rfl rfl hg101) (Gives.fld hE rfl fl40_1) rfl fun a hE => ?_
    refine QL.v hE (runs_if hE rfl rfl rfl hg101) (Gives.loadB hE 0 rfl rfl rfl ty3) rfl fun a hE => ?_
    refine QL.v hE (runs_if hE rfl rfl rfl hg101) (Gives.fld hE rfl fl25_1) rfl fun a hE => ?_
    refine QL.v hE (runs_if hE rfl rfl rfl hg101) (Gives.loadB hE 1 rfl rfl rfl ty22) rfl fun a hE => ?_
    refine QL.v hE (runs_if hE rfl rfl rfl hg101) (Gives.p hE rfl) rfl fun a hE => ?_
    refine QL.v hE (runs_if hE rfl rfl rfl hg101) (Gives.p hE rfl) rfl fun a hE => ?_
    obtain ⟨x102, hx103, hq85⟩ := bindS hq85
    obtain ⟨hi104, hlt105, hy106⟩ := gx_some hx103
    obtain ⟨cs107, hl108, hR109, hat110⟩ := h0_0.at hy106
    subst hR109
    refine QL.v hE (runs_if hE rfl rfl rfl hg101) (Gives.idx hE (w64 (((k62 : Nat) : Int) - 1)).toNat rfl rfl sl22 hi104 hlt105 (h0_0.aok hlt105)) rfl fun a hE => ?_
    refine QL.v hE (runs_if hE rfl rfl rfl hg101) (Gives.fld hE rfl fl40_1) rfl fun a hE => ?_
    refine QL.v hE (runs_if hE rfl rfl rfl hg101) (Gives.load1 hE rfl (fun w h => (hat110 w _ h).one rfl) ty3) rfl fun a hE => ?_
    refine QL.v hE (runs_if hE rfl rfl rfl hg101) (Gives.p hE rfl) rfl fun a hE => ?_
    refine QL.v hE (runs_if hE rfl rfl rfl hg91) (Gives.pickF hE rfl hg101 rfl) rfl fun a hE => ?_
    refine qP hE (Gives.pickT hE rfl hg91 rfl) rfl fun a hE => ?_
    refine QL.nil ?_; clear hS w; intro w hS
    subst hK90
    exact ⟨decide (x63.Price < x102.Price), Option.some.inj hq85, hE.pick _ ⟨rfl, rfl, rfl, rfl, rfl, trivial⟩, hS⟩
   replace hq85 := iteF hg91 hq85
   refine QL.no hE (runs_not hE rfl rfl rfl (by rw [hg91]; decide)) rfl fun a hE => ?_
   refine QL.no hE (runs_not hE rfl rfl rfl (by rw [hg91]; decide)) rfl fun a hE => ?_
   refine QL.no hE (runs_not hE rfl rfl rfl (by rw [hg91]; decide)) rfl fun a hE => ?_
   refine QL.no hE (runs_not hE rfl rfl rfl (by rw [hg91]; decide)) rfl fun a hE => ?_
   refine QL.no hE (runs_not hE rfl rfl rfl (by rw [hg91]; decide)) rfl fun a hE => ?_
   refine QL.no hE (runs_not hE rfl rfl rfl (by rw [hg91]; decide)) rfl fun a hE => ?_
   refine QL.no hE (runs_not hE rfl rfl rfl (by rw [hg91]; decide)) rfl fun a hE => ?_
   refine QL.no hE (runs_not hE rfl rfl rfl (by rw [hg91]; decide)) rfl fun a hE => ?_
   refine QL.no hE (runs_not hE rfl rfl rfl (by rw [hg91]; decide)) rfl fun a hE => ?_
   refine QL.no hE (runs_not hE rfl rfl rfl (by rw [hg91]; decide)) rfl fun a hE => ?_
   refine QL.no hE (runs_not hE rfl rfl rfl (by rw [hg91]; decide)) rfl fun a hE => ?_
   refine QL.no hE (runs_undef hE rfl rfl rfl) rfl fun a hE => ?_
   refine QL.no hE (runs_undef hE rfl rfl rfl) rfl fun a hE => ?_
   refine QL.no hE (runs_undef hE rfl rfl rfl) rfl fun a hE => ?_
   refine QL.no hE (runs_undef hE rfl rfl rfl) rfl fun a hE => ?_
   refine QL.no hE (runs_undef hE rfl rfl rfl) rfl fun a hE => ?_
   refine QL.no hE (runs_undef hE rfl rfl rfl) rfl fun a hE => ?_
   refine QL.no hE (runs_undef hE rfl rfl rfl) rfl fun a hE => ?_
   refine QL.no hE (runs_undef hE rfl rfl rfl) rfl fun a hE => ?_
   refine QL.no hE (runs_undef hE rfl rfl rfl) rfl fun a hE => ?_
   refine QL.no hE (runs_undef hE rfl rfl rfl) rfl fun a hE => ?_
   refine QL.no hE (runs_not hE rfl rfl rfl (by rw [hg91]; decide)) rfl fun a hE => ?_
   refine qP hE (Gives.pickF hE rfl hg91 rfl) rfl fun a hE => ?_
   refine QL.nil ?_; clear hS w; intro w hS
   subst hK90
   exact ⟨false, Option.some.inj hq85, hE.pick _ ⟨rfl, rfl, rfl, rfl, rfl, trivial⟩, hS⟩
  clear hE hS a w; rintro a w ⟨q89, rfl, hE, hS⟩
  refine W.cond hE rfl (fun hc111 => ?_) (fun hc111 => ?_)
  ·replace hq60 := iteT hc111 hq60
   refine W.seq (W.region (vp hS hE rfl rfl fun a hE => WL.nil ?_))
   refine W.ret ?_
   subst hK71
   rw [← Option.some.inj hq60] at hr
   dsimp only at hr
   refine finG (fn := Tryz.f12) (rs := [.tmp 2]) (vs := [_]) hE rfl ⟨rfl, trivial⟩ ?_
   obtain rfl := Option.some.inj hr
   replace hS := hS.tail
   replace hS := hS.tail
   exact ⟨rfl, hS⟩
  replace hq60 := iteF hc111 hq60
  refine W.skip ?_
  refine W.region ?_
  refine vP hS hE (Gives.inc hE rfl (by have := h0_0.small; omega)) rfl fun a hE => ?_
  refine vp hS hE rfl rfl fun a hE => WL.nil ?_
  replace hS := hS.tail
  subst hK71
  exact ⟨rest64.length, Nat.lt_succ_self _, rest64, k62 + 1, rfl, hd65, hq60, hE.pick _ ⟨rfl, rfl, rfl, rfl, trivial⟩, hS⟩
 clear hE hS a w; rintro a w ⟨rfl, hE, hS⟩
 dsimp only at hr
 refine W.seq ?_
 refine W.seq (W.region (vP hS hE (Gives.fld hE rfl fl25_2) rfl fun a hE => ?_))
 refine vP hS hE (Gives.loadB hE 0 rfl rfl rfl ty3) rfl fun a hE => ?_
 refine WL.fnq hE (Farewithin_ok hS  rfl (r := Farewithin x0.Round 1 100)) (runs_plain rfl) bd27 rfl rfl rfl ?_
 clear hE hS; rintro e w ⟨rfl, hS⟩; refine ⟨_, rfl, ?_⟩; clear a; intro a hE
 refine vp hS hE rfl rfl fun a hE => WL.nil ?_
 refine W.cond hE rfl (fun hc112 => ?_) (fun hc112 => ?_)
 ·replace hr := iteT hc112 hr
  refine W.seq (W.region (vp hS hE rfl rfl fun a hE => WL.nil ?_))
  refine W.ret ?_
  refine finG (fn := Tryz.f12) (rs := [.tmp 2]) (vs := [_]) hE rfl ⟨rfl, trivial⟩ ?_
  obtain rfl := Option.some.inj hr
  replace hS := hS.tail
  exact ⟨rfl, hS⟩
 replace hr := iteF hc112 hr
 refine W.skip ?_
 refine W.seq ?_
 refine W.seq (W.region (vP hS hE (Gives.fld hE rfl fl25_3) rfl fun a hE => ?_))
 refine vP hS hE (Gives.loadB hE 0 rfl rfl rfl ty23) rfl fun a hE => ?_
 refine vP hS hE (Gives.len hE rfl sl23) rfl fun a hE => ?_
 refine vp hS hE rfl rfl fun a hE => WL.nil ?_
 obtain ⟨q114, hq113, hr⟩ := bindS hr
 refine W.cut (fun a w => (.next ()) = q114 ∧ Rep a 97 [] ∧ St w s (pc b51 #[.bool x0.ByKm, .slice a0_0 x0.Bands.length c0_0, vi x0.Round, .slice a0_1 x0.Rules.length c0_1] 25 :: R)) ?_ ?_
 ·refine W.block ?_
  refine W.loop (fun m a w => ∃ (rest117 : List FareRule) (k115 : Nat), rest117.length = m ∧ x0.Rules.drop k115 = rest117 ∧ FareCheckTariff.loop2 fu rest117 = some q114 ∧ Rep a 97 [(70, .slice a0_1 x0.Rules.length c0_1), (71, vi ((x0.Rules).length : Int)), (72, vi ((k115 : Nat) : Int))] ∧ St w s (pc b51 #[.bool x0.ByKm, .slice a0_0 x0.Bands.length c0_0, vi x0.Round, .slice a0_1 x0.Rules.length c0_1] 25 :: R)) (m := x0.Rules.length) ⟨x0.Rules, 0, rfl, rfl, hq113, hE.pick _ ⟨rfl, rfl, rfl, trivial⟩, hS⟩ ?_
  clear hE hS a w hq113; rintro m121 a w ⟨rest117, k115, rfl, hd118, hq113, hE, hS⟩
  refine W.gen fun K124 hK124 => ?_
  rcases rest117 with _ | ⟨x116, rest117⟩
  ·have hlt119 := drop_nil hd118
   refine W.seq (W.region (vp hS hE rfl rfl fun a hE => WL.nil ?_))
   refine W.seq ?_
   refine W.condF hE rfl (decide_eq_false (by omega)) ?_
   subst hK124
   refine W.exit rfl ?_
   exact ⟨Option.some.inj hq113, hE.pick _ trivial, hS⟩
  obtain ⟨hlt119, hx120, hd118⟩ := drop_cons hd118
  rw [FareCheckTariff.loop2] at hq113
  refine W.seq (W.region (vp hS hE rfl rfl fun a hE => WL.nil ?_))
  refine W.seq ?_
  refine W.condT hE rfl (decide_eq_true (by omega)) ?_
  refine W.skip ?_
  refine W.seq ?_
  refine W.block ?_
  refine W.seq (W.region ?_)
  obtain ⟨cs125, hl126, hR127, hat128⟩ := h0_1.at hx120
  obtain ⟨a129, c130, rfl, h131⟩ := hR127
  refine vP hS hE (Gives.idx hE k115 rfl rfl sl23 rfl hlt119 (h0_1.aok hlt119)) rfl fun a hE => ?_
  refine vP hS hE (Gives.loadA hE rfl (fun w h => hat128 w _ h) ty45) rfl fun a hE => ?_
  refine WL.alloc hE hS (runs_plain rfl) zr45 rfl ?_; clear hE hS a w; intro b132 a w hE hS
  refine WL.storeI hE hS 0 rfl [vi x116.If.Kind, vi x116.If.A, vi x116.If.B, .slice a129 x116.If.Kids.length c130, vi x116.Do, vi x116.N, .bool x116.Stop] (runs_plain rfl) rfl rfl rfl ty45 rfl rfl rfl rfl ?_; clear hE hS a w; intro a w hE hS
  refine WL.nil ?_
  refine W.seq ?_
  refine W.seq (W.region (vP hS hE (Gives.fld hE rfl fl45_0) rfl fun a hE => ?_))
  refine vP hS hE (Gives.loadA (cs := [vi x116.If.Kind, vi x116.If.A, vi x116.If.B, .slice a129 x116.If.Kids.length c130]) hE rfl (fun w h => (St.seesAt h 0 rfl).part 0 4) ty43) rfl fun a hE => ?_
  obtain ⟨q133, hq134, hq113⟩ := bindS hq113
  have hc_ := FareCondcheck_ok hS h131 hq134
  refine WL.fnq hE (hc_) (runs_plain rfl) bd28 rfl rfl rfl ?_
  clear hE hS hc_; rintro e w ⟨rfl, hS⟩; refine ⟨_, rfl, ?_⟩; clear a; intro a hE
  refine vp hS hE rfl rfl fun a hE => WL.nil ?_
  refine W.seq (W.region (v2 hS hE rfl rfl rfl rfl fun a hE => WL.nil ?_))
  refine W.cond hE rfl (fun hc135 => ?_) (fun hc135 => ?_)
  ·replace hq113 := iteT hc135 hq113
   refine W.seq (W.region (v2 hS hE rfl rfl rfl rfl fun a hE => WL.nil ?_))
   refine W.ret ?_
   subst hK124
   rw [← Option.some.inj hq113] at hr
   dsimp only at hr
   refine finG (fn := Tryz.f12) (rs := [.tmp 2]) (vs := [_]) hE rfl ⟨rfl, trivial⟩ ?_
   obtain rfl := Option.some.inj hr
   replace hS := hS.tail
   replace hS := hS.tail
   exact ⟨rfl, hS⟩
  replace hq113 := iteF hc135 hq113
  refine W.skip ?_
  refine W.seq (W.region (vp hS hE rfl rfl fun a hE => WL.nil ?_))
  refine W.seq ?_
  refine W.seq (W.region (vP hS hE (Gives.fld hE rfl fl45_1) rfl fun a hE => ?_))
  refine vP hS hE (Gives.loadB hE 0 rfl rfl rfl ty3) rfl fun a hE => ?_
  refine vp hS hE rfl rfl fun a hE => WL.nil ?_
  obtain ⟨q137, hq136, hq113⟩ := bndS hq113
  refine W.cut (fun a w => ∃ (q140 : Int), q140 = q137 ∧ Rep a 97 [(6, pp b132), (8, vi q140), (70, .slice a0_1 x0.Rules.length c0_1), (71, vi ((x0.Rules).length : Int)), (72, vi ((k115 : Nat) : Int))] ∧ St w s (pc b132 #[vi x116.If.Kind, vi x116.If.A, vi x116.If.B, .slice a129 x116.If.Kids.length c130, vi x116.Do, vi x116.N, .bool x116.Stop] 45 :: pc b51 #[.bool x0.ByKm, .slice a0_0 x0.Bands.length c0_0, vi x0.Round, .slice a0_1 x0.Rules.length c0_1] 25 :: R)) ?_ ?_
  ·refine W.gen fun K141 hK141 => ?_
   refine W.cond hE rfl (fun hc142 => ?_) (fun hc142 => ?_)
   ·replace hq136 := iteT hc142 hq136
    refine W.region ?_
    refine vp hS hE rfl rfl fun a hE => WL.nil ?_
    subst hK141
    exact ⟨200, hq136, hE.pick _ ⟨rfl, rfl, rfl, rfl, rfl, trivial⟩, hS⟩
   replace hq136 := iteF hc142 hq136
   refine W.skip ?_
   subst hK141
   exact ⟨100000, hq136, hE.pick _ ⟨rfl, rfl, rfl, rfl, rfl, trivial⟩, hS⟩
  clear hE hS a w; rintro a w ⟨q140, rfl, hE, hS⟩
  refine W.block ?_
  refine W.seq (W.region (vP hS hE (Gives.fld hE rfl fl45_1) rfl fun a hE => ?_))
  refine vP hS hE (Gives.loadB hE 0 rfl rfl rfl ty3) rfl fun a hE => ?_
  refine WL.fnq hE (Farewithin_ok hS  rfl (r := Farewithin x116.Do 1 6)) (runs_plain rfl) bd27 rfl rfl rfl ?_
  clear hE hS; rintro e w ⟨rfl, hS⟩; refine ⟨_, rfl, ?_⟩; clear a; intro a hE
  refine v2 hS hE rfl rfl rfl rfl fun a hE => WL.nil ?_
  refine W.cond hE rfl (fun hc143 => ?_) (fun hc143 => ?_)
  ·replace hq113 := iteT hc143 hq113
   refine W.seq (W.region (vp hS hE rfl rfl fun a hE => WL.nil ?_))
   refine W.ret ?_
   subst hK124
   rw [← Option.some.inj hq113] at hr
   dsimp only at hr
   refine finG (fn := Tryz.f12) (rs := [.tmp 2]) (vs := [_]) hE rfl ⟨rfl, trivial⟩ ?_
   obtain rfl := Option.some.inj hr
   replace hS := hS.tail
   replace hS := hS.tail
   exact ⟨rfl, hS⟩
  replace hq113 := iteF hc143 hq113
  refine W.seq (W.region (vP hS hE (Gives.fld hE rfl fl45_2) rfl fun a hE => ?_))
  refine vP hS hE (Gives.loadB hE 0 rfl rfl rfl ty3) rfl fun a hE => ?_
  refine vp hS hE rfl rfl fun a hE => ?_
  refine WL.fnq hE (Farewithin_ok hS  rfl (r := Farewithin x116.N 0 q140)) (runs_plain rfl) bd27 rfl rfl rfl ?_
  clear hE hS; rintro e w ⟨rfl, hS⟩; refine ⟨_, rfl, ?_⟩; clear a; intro a hE
  refine v2 hS hE rfl rfl rfl rfl fun a hE => WL.nil ?_
  refine W.cond hE rfl (fun hc144 => ?_) (fun hc144 => ?_)
  ·replace hq113 := iteT hc144 hq113
   refine W.seq (W.region (vp hS hE rfl rfl fun a hE => WL.nil ?_))
   refine W.ret ?_
   subst hK124
   rw [← Option.some.inj hq113] at hr
   dsimp only at hr
   refine finG (fn := Tryz.f12) (rs := [.tmp 2]) (vs := [_]) hE rfl ⟨rfl, trivial⟩ ?_
   obtain rfl := Option.some.inj hr
   replace hS := hS.tail
   replace hS := hS.tail
   exact ⟨rfl, hS⟩
  replace hq113 := iteF hc144 hq113
  refine W.skip ?_
  refine W.region ?_
  refine vP hS hE (Gives.inc hE rfl (by have := h0_1.small; omega)) rfl fun a hE => ?_
  refine vp hS hE rfl rfl fun a hE => WL.nil ?_
  replace hS := hS.tail
  subst hK124
  exact ⟨rest117.length, Nat.lt_succ_self _, rest117, k115 + 1, rfl, hd118, hq113, hE.pick _ ⟨rfl, rfl, rfl, trivial⟩, hS⟩
 clear hE hS a w; rintro a w ⟨rfl, hE, hS⟩
 dsimp only at hr
 refine W.seq (W.region (vp hS hE rfl rfl fun a hE => WL.nil ?_))
 refine W.ret ?_
 refine finG (fn := Tryz.f12) (rs := [.tmp 2]) (vs := [_]) hE rfl ⟨rfl, trivial⟩ ?_
 obtain rfl := Option.some.inj hr
 replace hS := hS.tail
 exact ⟨rfl, hS⟩
set_option maxHeartbeats 8000000 in
theorem FareRead_ok {fu : Nat}  {w : World} {s : Sg} {R : List HP} {x0 : ByteArray} (hS : St w s (R)) (hTab : TabX s) {r : FareTariff × Int} (hr : FareRead fu x0 = some r) :
  Calls Tryz.prog 8 [.string x0].toArray w (fun e w => ∃ (cs0 : List Value) (t : Sg), e = .returned (.tuple #[.agg cs0.toArray, vi r.2]) ∧ s.Le t ∧ RFareTariff t cs0 r.1 ∧ St w t (R)) := by
 refine enterD Tryz.func8 rfl rfl rfl fun a hE => ?_
 rw [FareRead] at hr
 refine W.seq (W.region ?_)
 refine WL.alloc hE hS (runs_plain rfl) zr25 rfl ?_; clear hE hS a w; intro b51 a w hE hS
 refine WL.alloc hE hS (runs_plain rfl) zr26 rfl ?_; clear hE hS a w; intro b52 a w hE hS
 refine WL.nil ?_
 refine W.seq ?_
 refine W.seq (W.region (vp hS hE rfl rfl fun a hE => ?_))
 refine vP hS hE (Gives.lenS hE rfl st9) rfl fun a hE => ?_
 refine vp hS hE rfl rfl fun a hE => WL.nil ?_
 refine W.cond hE rfl (fun hc53 => ?_) (fun hc53 => ?_)
 ·replace hr := iteT hc53 hr
  refine W.seq (W.region (vP hS hE (Gives.build hE (vs := []) [.bool false, .slice none 0 0, vi 0, .slice none 0 0] rfl (by kernel_rfl)) rfl fun a hE => ?_))
  refine WL.storeI hE hS 1 rfl [.bool false, .slice none 0 0, vi 0, .slice none 0 0] (runs_plain rfl) rfl rfl rfl ty25 rfl rfl rfl rfl ?_; clear hE hS a w; intro a w hE hS
  refine WL.storeI hE hS 0 rfl [vi 4] (runs_plain rfl) rfl rfl rfl ty26 rfl rfl rfl rfl ?_; clear hE hS a w; intro a w hE hS
  refine WL.nil ?_
  refine W.ret ?_
  refine finGD (fn := Tryz.f8) (rs := [.cell 2 25, .cell 3 26]) (vs := [_, _]) hE rfl ⟨⟨_, rfl, .inl ⟨_, rfl, hS.seesAt 1 rfl, ty25⟩⟩, ⟨_, rfl, .inr ⟨hS.seesAt 0 rfl, ty26⟩⟩, trivial⟩ ?_
  obtain rfl := Option.some.inj hr
  replace hS := hS.tail
  replace hS := hS.tail
  exact ⟨_, s, rfl, (Sg.Le.refl _), ⟨_, _, _, _, rfl, Sl.nil, Sl.nil⟩, hS⟩
 replace hr := iteF hc53 hr
 refine W.skip ?_
 refine W.seq ?_
 refine W.regionD rfl ?_
 refine vP hS hE (Gives.mkfn hE (vs := [pp b51, pp b52]) rfl) rfl fun a hE => ?_
 refine WL.defer hE rfl (runs_plain rfl) rfl fun a hE => WL.nil ?_
 refine W.seq (W.region (vp hS hE rfl rfl fun a hE => ?_))
 obtain ⟨q54, hq55, hr⟩ := bindS hr
 have hc_ := Faretariff_ok hS (TabG.mono (Sg.Le.refl _) hTab) hq55
 refine WL.fnP hE (hc_) (runs_plain rfl) bd19 rfl rfl rfl ?_
 clear hE hS hc_; rintro e w (⟨hz57, rfl, t59, hle60, hS⟩ | ⟨rr56, hz58, cs61, s63, rfl, hle64, h62, hS⟩)
 ·refine .inr ⟨_, rfl, ?_⟩; clear a; intro a hE
  rw [hz57] at hr; dsimp only at hr
  replace hS := hS.down hle60
  replace hS := hS.front 1 rfl
  refine leavesG (fn := Tryz.f8) (rs := [.cell 2 25, .cell 3 26]) (vs := [.agg #[.bool false, .slice none 0 0, vi 0, .slice none 0 0], vi 10]) hE rfl (by simp) bd18 rfl (callsD_mono (oc2_pan_18 hS) ?_)
  rintro e u w2 ⟨rfl, rfl, hS⟩
  refine ⟨rfl, rfl, ⟨⟨_, rfl, .inl ⟨_, rfl, hS.seesAt 0 rfl, ty25⟩⟩, ⟨_, rfl, .inr ⟨hS.seesAt 1 rfl, ty26⟩⟩, trivial⟩, ?_⟩
  obtain rfl := Option.some.inj hr
  replace hS := hS.tail
  replace hS := hS.tail
  exact ⟨_, s, rfl, (Sg.Le.refl _), ⟨_, _, _, _, rfl, Sl.nil, Sl.nil⟩, hS⟩
 refine .inl ⟨_, rfl, ?_⟩; clear a; intro a hE
 rw [hz58] at hr; dsimp only at hr
 obtain ⟨a65, c66, a68, c69, rfl, h67, h70⟩ := h62
 refine WL.storeI hE hS 1 rfl [.bool rr56.ByKm, .slice a65 rr56.Bands.length c66, vi rr56.Round, .slice a68 rr56.Rules.length c69] (runs_plain rfl) rfl rfl rfl ty25 rfl rfl rfl rfl ?_; clear hE hS a w; intro a w hE hS
 refine WL.nil ?_
 refine W.seq ?_
 refine W.seq (W.region (vP hS hE (Gives.loadBA hE 1 rfl rfl ty25) rfl fun a hE => ?_))
 obtain ⟨q71, hq72, hr⟩ := bindS hr
 have hc_ := FareCheckTariff_ok hS h67 h70 hq72
 refine WL.fnq hE (hc_) (runs_plain rfl) bd12 rfl rfl rfl ?_
 clear hE hS hc_; rintro e w ⟨rfl, hS⟩; refine ⟨_, rfl, ?_⟩; clear a; intro a hE
 refine vp hS hE rfl rfl fun a hE => WL.nil ?_
 refine W.seq (W.region (v2 hS hE rfl rfl rfl rfl fun a hE => WL.nil ?_))
 refine W.cond hE rfl (fun hc73 => ?_) (fun hc73 => ?_)
 ·replace hr := iteT hc73 hr
  refine W.seq (W.region (vP hS hE (Gives.build hE (vs := []) [.bool false, .slice none 0 0, vi 0, .slice none 0 0] rfl (by kernel_rfl)) rfl fun a hE => ?_))
  refine vp hS hE rfl rfl fun a hE => ?_
  refine WL.storeI hE hS 1 rfl [.bool false, .slice none 0 0, vi 0, .slice none 0 0] (runs_plain rfl) rfl rfl rfl ty25 rfl rfl rfl rfl ?_; clear hE hS a w; intro a w hE hS
  refine WL.storeI hE hS 0 rfl [vi q71] (runs_plain rfl) rfl rfl rfl ty26 rfl rfl rfl rfl ?_; clear hE hS a w; intro a w hE hS
  refine WL.nil ?_
  refine W.ret ?_
  refine leavesG (fn := Tryz.f8) (rs := [.cell 2 25, .cell 3 26]) (vs := [.agg #[.bool false, .slice none 0 0, vi 0, .slice none 0 0], vi q71]) hE rfl (by simp) bd18 rfl (callsD_mono (oc2_ret_18 _ _ _) ?_)
  rintro e u w2 ⟨rfl, rfl, rfl⟩
  refine ⟨rfl, rfl, ⟨⟨_, rfl, .inl ⟨_, rfl, hS.seesAt 1 rfl, ty25⟩⟩, ⟨_, rfl, .inr ⟨hS.seesAt 0 rfl, ty26⟩⟩, trivial⟩, ?_⟩
  obtain rfl := Option.some.inj hr
  replace hS := hS.tail
  replace hS := hS.tail
  exact ⟨_, s63, rfl, hle64, ⟨_, _, _, _, rfl, Sl.nil, Sl.nil⟩, hS⟩
 replace hr := iteF hc73 hr
 refine W.skip ?_
 refine W.seq (W.region (vP hS hE (Gives.loadBA hE 1 rfl rfl ty25) rfl fun a hE => ?_))
 refine WL.storeI hE hS 1 rfl [.bool rr56.ByKm, .slice a65 rr56.Bands.length c66, vi rr56.Round, .slice a68 rr56.Rules.length c69] (runs_plain rfl) rfl rfl rfl ty25 rfl rfl rfl rfl ?_; clear hE hS a w; intro a w hE hS
 refine WL.storeI hE hS 0 rfl [vi 0] (runs_plain rfl) rfl rfl rfl ty26 rfl rfl rfl rfl ?_; clear hE hS a w; intro a w hE hS
 refine WL.nil ?_
 refine W.ret ?_
 refine leavesG (fn := Tryz.f8) (rs := [.cell 2 25, .cell 3 26]) (vs := [.agg #[.bool rr56.ByKm, .slice a65 rr56.Bands.length c66, vi rr56.Round, .slice a68 rr56.Rules.length c69], vi 0]) hE rfl (by simp) bd18 rfl (callsD_mono (oc2_ret_18 _ _ _) ?_)
 rintro e u w2 ⟨rfl, rfl, rfl⟩
 refine ⟨rfl, rfl, ⟨⟨_, rfl, .inl ⟨_, rfl, hS.seesAt 1 rfl, ty25⟩⟩, ⟨_, rfl, .inr ⟨hS.seesAt 0 rfl, ty26⟩⟩, trivial⟩, ?_⟩
 obtain rfl := Option.some.inj hr
 replace hS := hS.tail
 replace hS := hS.tail
 exact ⟨_, s63, rfl, hle64, ⟨_, _, _, _, rfl, h67, h70⟩, hS⟩
set_option maxHeartbeats 8000000 in
theorem Fishref2plain_ok  {w : World} {s : Sg} {R : List HP} {x0 : ByteArray} (hS : St w s (R)) (hTab : TabX s) {r : Int × Bool} (hr : Fishref2plain x0 = some r) :
  Calls Tryz.prog 50 [.string x0].toArray w (fun e w => e = .returned (.tuple #[vi r.1, .bool r.2]) ∧ St w s (R)) := by
 refine enter Tryz.func50 rfl rfl rfl fun a hE => ?_
 rw [Fishref2plain] at hr
 refine W.seq (W.region (v2 hS hE rfl rfl rfl rfl fun a hE => WL.nil ?_))
 refine W.seq (W.region (vp hS hE rfl rfl fun a hE => ?_))
 obtain ⟨q51, hq52, hr⟩ := bindS hr
 refine WL.fnq hE (atoi_ok hS (TabG.mono (Sg.Le.refl _) hTab) hq52) (runs_plain rfl) bd71 rfl rfl rfl ?_
 clear hE hS; rintro e w ⟨ev53, rfl, h54, hS⟩; refine ⟨_, rfl, ?_⟩; clear a; intro a hE
 refine v2 hS hE rfl rfl rfl rfl fun a hE => ?_
 refine v2 hS hE rfl rfl rfl rfl fun a hE => ?_
 refine vp hS hE rfl rfl fun a hE => WL.nil ?_
 refine W.seq ?_
 obtain ⟨q56, hq55, hr⟩ := bindS hr
 refine W.cut (fun a w => ∃ (q59 : Int), ∃ (q60 : Bool), (q59, q60) = q56 ∧ Rep a 24 [(2, vi q59), (3, .bool q60)] ∧ St w s (R)) ?_ ?_
 ·refine W.gen fun K61 hK61 => ?_
  refine W.region ?_
  refine v2 hS hE rfl rfl rfl rfl fun a hE => ?_
  refine vP hS hE (Gives.errNil hE if72 h54 rfl) rfl fun a hE => ?_
  refine vp hS hE rfl rfl fun a hE => ?_
  rcases Bool.eq_false_or_eq_true q51.2 with hg62 | hg62
  ·replace hq55 := iteT hg62 hq55
   refine WL.vS hS hE (runs_if hE rfl rfl rfl hg62) (Gives.p hE rfl) rfl fun a hE => ?_
   refine WL.vS hS hE (runs_if hE rfl rfl rfl hg62) (Gives.p hE rfl) rfl fun a hE => ?_
   refine vP hS hE (Gives.pickT hE rfl hg62 rfl) rfl fun a hE => ?_
   refine vp hS hE rfl rfl fun a hE => ?_
   rcases Bool.eq_false_or_eq_true (decide (q51.1 ≥ 0)) with hg63 | hg63
   ·replace hq55 := iteT hg63 hq55
    refine WL.vS hS hE (runs_if hE rfl rfl rfl hg63) (Gives.p hE rfl) rfl fun a hE => ?_
    obtain ⟨q64, hq65, hq55⟩ := bindS hq55
    refine WL.fnq hE (itoa_ok hS (TabG.mono (Sg.Le.refl _) hTab).tab hq65) (runs_if hE rfl rfl rfl hg63) bd20 rfl rfl rfl ?_
    clear hE hS; rintro e w ⟨rfl, hS⟩; refine ⟨_, rfl, ?_⟩; clear a; intro a hE
    refine WL.vS hS hE (runs_if hE rfl rfl rfl hg63) (Gives.p hE rfl) rfl fun a hE => ?_
    refine WL.vS hS hE (runs_if hE rfl rfl rfl hg63) (Gives.eqSt hE rfl rfl) rfl fun a hE => ?_
    refine vP hS hE (Gives.pickT hE rfl hg63 rfl) rfl fun a hE => ?_
    refine v2 hS hE rfl rfl rfl rfl fun a hE => WL.nil ?_
    subst hK61
    exact ⟨q51.1, (seq q64 x0), Option.some.inj hq55, hE.pick _ ⟨rfl, rfl, trivial⟩, hS⟩
   replace hq55 := iteF hg63 hq55
   refine nO hE rfl rfl rfl (by rw [hg63]; decide) rfl fun a hE => ?_
   refine nO hE rfl rfl rfl (by rw [hg63]; decide) rfl fun a hE => ?_
   refine nO hE rfl rfl rfl (by rw [hg63]; decide) rfl fun a hE => ?_
   refine nO hE rfl rfl rfl (by rw [hg63]; decide) rfl fun a hE => ?_
   refine vP hS hE (Gives.pickF hE rfl hg63 rfl) rfl fun a hE => ?_
   refine v2 hS hE rfl rfl rfl rfl fun a hE => WL.nil ?_
   subst hK61
   exact ⟨q51.1, false, Option.some.inj hq55, hE.pick _ ⟨rfl, rfl, trivial⟩, hS⟩
  replace hq55 := iteF hg62 hq55
  refine nO hE rfl rfl rfl (by rw [hg62]; decide) rfl fun a hE => ?_
  refine nO hE rfl rfl rfl (by rw [hg62]; decide) rfl fun a hE => ?_
  refine vP hS hE (Gives.pickF hE rfl hg62 rfl) rfl fun a hE => ?_
  refine vp hS hE rfl rfl fun a hE => ?_
  refine nO hE rfl rfl rfl (by decide) rfl fun a hE => ?_
  refine nO hE rfl rfl rfl (by decide) rfl fun a hE => ?_
  refine nO hE rfl rfl rfl (by decide) rfl fun a hE => ?_
  refine nO hE rfl rfl rfl (by decide) rfl fun a hE => ?_
  refine vP hS hE (Gives.pickF hE rfl rfl rfl) rfl fun a hE => ?_
  refine v2 hS hE rfl rfl rfl rfl fun a hE => WL.nil ?_
  subst hK61
  exact ⟨q51.1, false, Option.some.inj hq55, hE.pick _ ⟨rfl, rfl, trivial⟩, hS⟩
 clear hE hS a w; rintro a w ⟨q59, q60, rfl, hE, hS⟩
 dsimp only at hr
 refine W.ret ?_
 refine finG (fn := Tryz.f50) (rs := [.tmp 2, .tmp 3]) (vs := [_, _]) hE rfl ⟨rfl, rfl, trivial⟩ ?_
 obtain rfl := Option.some.inj hr
 exact ⟨rfl, hS⟩
set_option maxHeartbeats 8000000 in
theorem Fishref2tokens_ok {fu : Nat}  {w : World} {s : Sg} {R : List HP} {x0 : ByteArray} (hS : St w s (R)) (hTab : TabX s) {r : (List ByteArray)} (hr : Fishref2tokens fu x0 = some r) :
  Calls Tryz.prog 95 [.string x0].toArray w (fun e w => ∃ (a0 : Option Addr) (c0 n0 : Nat) (cs0 : List Value) (t : Sg), e = .returned (.slice a0 n0 c0) ∧ s.Le t ∧ Ev 1 RS t cs0 r ∧ r.length = n0 ∧ St w t (vecC 9 1 a0 c0 n0 cs0 :: R)) := by
 refine enter Tryz.func95 rfl rfl rfl fun a hE => ?_
 rw [Fishref2tokens] at hr
 refine W.seq (W.region (vp hS hE rfl rfl fun a hE => WL.nil ?_))
 refine W.seq (W.region ?_)
 refine WL.alloc hE hS (runs_plain rfl) zr59 rfl ?_; clear hE hS a w; intro b51 a w hE hS
 refine WL.nil ?_
 refine W.seq ?_
 refine W.seq (W.region (vp hS hE rfl rfl fun a hE => ?_))
 obtain ⟨q52, hq53, hr⟩ := bindS hr
 refine WL.fnq hE (sps_ok hS) (runs_plain rfl) bd115 rfl rfl rfl ?_
 clear hE hS; rintro e w ⟨b54, b55, b56, rfl, hS⟩; refine ⟨_, rfl, ?_⟩; clear a; intro a hE
 refine WL.nil ?_
 refine W.block ?_
 replace hS := hS.vecNil 9 1
 replace hS := hS.front 3 rfl
 replace hS := hS.front 3 rfl
 replace hS := hS.front 3 rfl
 obtain ⟨q59, hq58, hr⟩ := bindS hr
 refine W.cut (fun a w => ∃ (q71 : List ByteArray), ∃ (a72 : Option Addr), ∃ (c73 : Nat), ∃ (n75 : Nat), ∃ (cs76 : List Value), ∃ (D65 : Nat) (s69 : Sg), s.Le s69 ∧ q71 = q59 ∧ Ev 1 RS s69 cs76 q71 ∧ q71.length = n75 ∧ Rep a 37 [(3, pp b51), (4294967295, vi (D65 : Nat))] ∧ St w s69 (pt D65 (.deferred (some [])) :: vecC 9 1 a72 c73 n75 cs76 :: pc b51 #[.slice a72 n75 c73] 59 :: R)) ?_ ?_
 ·refine W.rangeFuncO (R := vecC 9 1 none 0 0 [] :: pc b51 #[.slice none 0 0] 59 :: R) (l := q52) (ps := [8]) [] [pc b54 #[Value.string (str [32])] 9, pc b55 #[Value.string x0] 9, pc b56 #[Value.int .i64 0] 3] rfl hE rfl hS rfl (spit_ok (TabG.mono (Sg.Le.refl _) hTab) hq53) bd136 (fun _ => rfl) rfl (fun pre62 s69 Q_ => ∃ (rest61 : List ByteArray), ∃ (q71 : List ByteArray), ∃ (a72 : Option Addr), ∃ (c73 : Nat), ∃ (n75 : Nat), ∃ (cs76 : List Value), q52 = pre62 ++ rest61 ∧ Fishref2tokens.loop1 fu rest61 q71 = some q59 ∧ s.Le s69 ∧ Ev 1 RS s69 cs76 q71 ∧ q71.length = n75 ∧ Q_ = vecC 9 1 a72 c73 n75 cs76 :: pc b51 #[.slice a72 n75 c73] 59 :: R) (fun _ _ _ => False) (fun _ _ _ h => (by obtain ⟨rest61, q71, a72, c73, n75, cs76, _, _, hle_, _⟩ := h; exact hle_)) ⟨q52, [], none, 0, 0, [], rfl, hq58, Sg.Le.refl _, (Ev.nil), (rfl), rfl⟩ (fun x60 (_ : Unit) => [(3, pp b51), (4, .string x60)]) (fun x60 (_ : Unit) => []) ?_ ?_ ?_ ?_
  ·intro x60 a w t68 R L66 hE hS
   refine W.region ?_
   refine vp hS hE rfl rfl fun a hE => WL.nil ?_
   exact ⟨(), hE.pick _ ⟨rfl, rfl, trivial⟩, hS⟩
  ·intro pre62 x60 _ s69 Q_ T_ L66 a w hpre_ hI_ hE hS
   obtain ⟨rest61, q71, a72, c73, n75, cs76, hl63, hq58, hle70, h74, rfl, rfl⟩ := hI_
   obtain ⟨rest61, rfl⟩ := pre_next hl63 hpre_
   rw [Fishref2tokens.loop1] at hq58
   replace hS : St w s69 (vecC 9 1 a72 c73 q71.length cs76 :: pc b51 #[.slice a72 q71.length c73] 59 :: (R ++ T_)) := hS
   generalize hT78 : R ++ T_ = R at hS
   refine W.gen fun K79 hK79 => ?_
   refine W.block ?_
   refine W.seq ?_
   obtain ⟨q81, hq80, hq58⟩ := bindS hq58
   refine W.cut (fun a w => ∃ (q86 : ByteArray), ∃ (q87 : List ByteArray), ∃ (a88 : Option Addr), ∃ (c89 : Nat), ∃ (n91 : Nat), ∃ (cs92 : List Value), (q86, q87) = q81 ∧ Ev 1 RS s69 cs92 q87 ∧ q87.length = n91 ∧ Rep a 37 [(3, pp b51), (4, .string q86)] ∧ St w s69 (vecC 9 1 a88 c89 n91 cs92 :: pc b51 #[.slice a88 n91 c89] 59 :: R)) ?_ ?_
   ·refine W.block ?_
    refine W.loop (fun m a w => ∃ (n82 : Nat), ∃ (q86 : ByteArray), ∃ (q87 : List ByteArray), ∃ (a88 : Option Addr), ∃ (c89 : Nat), ∃ (n91 : Nat), ∃ (cs92 : List Value), n82 = m ∧ Fishref2tokens.loop2 n82 q86 q87 = some q81 ∧ Ev 1 RS s69 cs92 q87 ∧ q87.length = n91 ∧ Rep a 37 [(3, pp b51), (4, .string q86)] ∧ St w s69 (vecC 9 1 a88 c89 n91 cs92 :: pc b51 #[.slice a88 n91 c89] 59 :: R)) (m := fu) ⟨fu, x60, q71, a72, c73, q71.length, cs76, rfl, hq80, h74, rfl, hE.pick _ ⟨rfl, rfl, trivial⟩, hS⟩ ?_
    clear hE hS a w hq80; rintro m83 a w ⟨n82, q86, q87, a88, c89, n91, cs92, rfl, hq80, h90, rfl, hE, hS⟩
    refine W.gen fun K94 hK94 => ?_
    rcases n82 with _ | n82
    ·rw [Fishref2tokens.loop2] at hq80; exact absurd hq80 (by simp)
    rw [Fishref2tokens.loop2] at hq80
    refine W.seq ?_
    refine W.seq (W.region (vp hS hE rfl rfl fun a hE => ?_))
    refine WL.fnq hE (hasp_ok hS) (runs_plain rfl) bd49 rfl rfl rfl ?_
    clear hE hS; rintro e w ⟨rfl, hS⟩; refine ⟨_, rfl, ?_⟩; clear a; intro a hE
    refine WL.nil ?_
    refine W.cond hE rfl (fun hc95 => ?_) (fun hc95 => ?_)
    ·replace hq80 := iteT hc95 hq80
     refine W.skip ?_
     refine W.block ?_
     refine W.gen fun K96 hK96 => ?_
     refine rE hS [] [0] [0, 1, 3, 4, 6] [0, 1, 2, 3, 4, 6] mixed ?_
     replace hS := hS.drew
     refine tT (i := 0) true rfl hE rfl (by kernel_rfl) (Gives.loadB hE 1 rfl rfl rfl ty59) rfl hS (hS.tail) fun a hE => ?_
     refine tP (i := 3) hE rfl (by kernel_rfl) (Gives.p hE rfl) rfl hS (hS.tail) fun a hE => ?_
     obtain ⟨x98, hx99, hq80⟩ := bindS hq80
     obtain ⟨x104, hx105, hq80⟩ := bindS hq80
     suffices key : ∀ cs102 a100 c101 (a : Act) (w : World), Ev 1 RS s69 cs102 x98 → Rep a 37 [(3, pp b51), (4, .string x104)] → St w s69 (vecC 9 1 a100 c101 x98.length cs102 :: pc b51 #[.slice a100 x98.length c101] 59 :: R) → K96.nor a w by
      refine Rg.many 1 [4] (by kernel_rfl) ⟨?_, ?_, trivial⟩
      ·refine Br.mk (i := 1) true true rfl (by kernel_rfl) (by kernel_rfl) ?_
       refine WL.lit hE hS (e := 9) (es := 1) (vs := [(0, .string (str [40]))]) (cs := [.string (str [40])]) (runs_plain rfl) rfl (by kernel_rfl) rfl ?_; clear hE hS a w; intro b97 a w hE hS
       refine WL.nil ?_
       refine ⟨⟨fun _ => (hS.tail), fun _ => ((hS.tail).tail)⟩, ?_⟩
       refine Rg.many 2 [4] (by kernel_rfl) ⟨?_, ?_, trivial⟩
       ·refine Br.mk (i := 2) false true rfl (by kernel_rfl) (by kernel_rfl) ?_
        refine WL.appD hE hS 0 (m := 1) (runs_plain rfl) rfl rfl rfl ap59 rfl h90 rfl (xs := [(str [40])]) (Ev.cons (c1 := [.string (str [40])]) rfl rfl (Ev.nil)) rfl rfl hx99 rfl ?_; clear hE hS a w; intro a100 c101 cs102 a w h103 hE hS
        refine WL.nil ?_
        refine ⟨⟨fun h => absurd h (by decide), fun _ => (hS.tail)⟩, ?_⟩
        refine Rg.many 4 [5] (by kernel_rfl) ⟨?_, ?_, trivial⟩
        ·refine Br.mk (i := 4) false true rfl (by kernel_rfl) (by kernel_rfl) ?_
         refine vP hS hE (Gives.cutSL hE st9 rfl rfl hx105) rfl fun a hE => WL.nil ?_
         refine ⟨⟨fun h => absurd h (by decide), fun _ => (hS.tail)⟩, ?_⟩
         refine Rg.one (i := 5) false false rfl (by kernel_rfl) (by kernel_rfl) (by kernel_rfl) ?_
         refine WL.storeI hE hS 1 rfl [.slice a100 x98.length c101] (runs_plain rfl) rfl rfl rfl ty59 rfl rfl rfl rfl ?_; clear hE hS a w; intro a w hE hS
         refine WL.nil ?_
         refine ⟨⟨fun h => absurd h (by decide), fun h => absurd h (by decide)⟩, ?_⟩
         refine Rg.takeP (i := 6) hE rfl (by kernel_rfl) (runs_plain rfl) (Gives.p hE rfl) rfl (tw_sel (fun h => absurd h (by decide)) (fun h => absurd h (by decide))) fun a hE => ?_
         refine Rg.done (by kernel_rfl) ?_
         exact key _ _ _ _ _ h103 (hE.pick _ ⟨rfl, rfl, trivial⟩) hS
        refine Br.mk (i := 5) false false rfl (by kernel_rfl) (by kernel_rfl) ?_
        refine WL.storeI hE hS 1 rfl [.slice a100 x98.length c101] (runs_plain rfl) rfl rfl rfl ty59 rfl rfl rfl rfl ?_; clear hE hS a w; intro a w hE hS
        refine WL.nil ?_
        refine ⟨⟨fun h => absurd h (by decide), fun h => absurd h (by decide)⟩, ?_⟩
        refine Rg.one (i := 4) false false rfl (by kernel_rfl) (by kernel_rfl) (by kernel_rfl) ?_
        refine vP hS hE (Gives.cutSL hE st9 rfl rfl hx105) rfl fun a hE => WL.nil ?_
        refine ⟨⟨fun h => absurd h (by decide), fun h => absurd h (by decide)⟩, ?_⟩
        refine Rg.takeP (i := 6) hE rfl (by kernel_rfl) (runs_plain rfl) (Gives.p hE rfl) rfl (tw_sel (fun h => absurd h (by decide)) (fun h => absurd h (by decide))) fun a hE => ?_
        refine Rg.done (by kernel_rfl) ?_
        exact key _ _ _ _ _ h103 (hE.pick _ ⟨rfl, rfl, trivial⟩) hS
       refine Br.mk (i := 4) true true rfl (by kernel_rfl) (by kernel_rfl) ?_
       refine vP hS hE (Gives.cutSL hE st9 rfl rfl hx105) rfl fun a hE => WL.nil ?_
       refine ⟨⟨fun _ => (hS.tail), fun _ => ((hS.tail).tail)⟩, ?_⟩
       refine Rg.one (i := 2) false true rfl (by kernel_rfl) (by kernel_rfl) (by kernel_rfl) ?_
       refine WL.appD hE hS 0 (m := 1) (runs_plain rfl) rfl rfl rfl ap59 rfl h90 rfl (xs := [(str [40])]) (Ev.cons (c1 := [.string (str [40])]) rfl rfl (Ev.nil)) rfl rfl hx99 rfl ?_; clear hE hS a w; intro a100 c101 cs102 a w h103 hE hS
       refine WL.nil ?_
       refine ⟨⟨fun h => absurd h (by decide), fun _ => (hS.tail)⟩, ?_⟩
       refine Rg.one (i := 5) false false rfl (by kernel_rfl) (by kernel_rfl) (by kernel_rfl) ?_
       refine WL.storeI hE hS 1 rfl [.slice a100 x98.length c101] (runs_plain rfl) rfl rfl rfl ty59 rfl rfl rfl rfl ?_; clear hE hS a w; intro a w hE hS
       refine WL.nil ?_
       refine ⟨⟨fun h => absurd h (by decide), fun h => absurd h (by decide)⟩, ?_⟩
       refine Rg.takeP (i := 6) hE rfl (by kernel_rfl) (runs_plain rfl) (Gives.p hE rfl) rfl (tw_sel (fun h => absurd h (by decide)) (fun h => absurd h (by decide))) fun a hE => ?_
       refine Rg.done (by kernel_rfl) ?_
       exact key _ _ _ _ _ h103 (hE.pick _ ⟨rfl, rfl, trivial⟩) hS
      refine Br.mk (i := 4) true true rfl (by kernel_rfl) (by kernel_rfl) ?_
      refine vP hS hE (Gives.cutSL hE st9 rfl rfl hx105) rfl fun a hE => WL.nil ?_
      refine ⟨⟨fun _ => hS, fun _ => (hS.tail)⟩, ?_⟩
      refine Rg.one (i := 1) true true rfl (by kernel_rfl) (by kernel_rfl) (by kernel_rfl) ?_
      refine WL.lit hE hS (e := 9) (es := 1) (vs := [(0, .string (str [40]))]) (cs := [.string (str [40])]) (runs_plain rfl) rfl (by kernel_rfl) rfl ?_; clear hE hS a w; intro b97 a w hE hS
      refine WL.nil ?_
      refine ⟨⟨fun _ => (hS.tail), fun _ => ((hS.tail).tail)⟩, ?_⟩
      refine Rg.one (i := 2) false true rfl (by kernel_rfl) (by kernel_rfl) (by kernel_rfl) ?_
      refine WL.appD hE hS 0 (m := 1) (runs_plain rfl) rfl rfl rfl ap59 rfl h90 rfl (xs := [(str [40])]) (Ev.cons (c1 := [.string (str [40])]) rfl rfl (Ev.nil)) rfl rfl hx99 rfl ?_; clear hE hS a w; intro a100 c101 cs102 a w h103 hE hS
      refine WL.nil ?_
      refine ⟨⟨fun h => absurd h (by decide), fun _ => (hS.tail)⟩, ?_⟩
      refine Rg.one (i := 5) false false rfl (by kernel_rfl) (by kernel_rfl) (by kernel_rfl) ?_
      refine WL.storeI hE hS 1 rfl [.slice a100 x98.length c101] (runs_plain rfl) rfl rfl rfl ty59 rfl rfl rfl rfl ?_; clear hE hS a w; intro a w hE hS
      refine WL.nil ?_
      refine ⟨⟨fun h => absurd h (by decide), fun h => absurd h (by decide)⟩, ?_⟩
      refine Rg.takeP (i := 6) hE rfl (by kernel_rfl) (runs_plain rfl) (Gives.p hE rfl) rfl (tw_sel (fun h => absurd h (by decide)) (fun h => absurd h (by decide))) fun a hE => ?_
      refine Rg.done (by kernel_rfl) ?_
      exact key _ _ _ _ _ h103 (hE.pick _ ⟨rfl, rfl, trivial⟩) hS
     clear hE hS a w; intro cs102 a100 c101 a w h103 hE hS
     subst hK96
     subst hK94
     exact ⟨n82, Nat.lt_succ_self _, n82, x104, x98, a100, c101, x98.length, cs102, rfl, hq80, h103, (rfl), hE.pick _ ⟨rfl, rfl, trivial⟩, hS⟩
    replace hq80 := iteF hc95 hq80
    subst hK94
    refine W.exit rfl ?_
    exact ⟨q86, q87, a88, c89, q87.length, cs92, Option.some.inj hq80, h90, rfl, hE.pick _ ⟨rfl, rfl, trivial⟩, hS⟩
   clear hE hS a w; rintro a w ⟨q86, q87, a88, c89, n91, cs92, rfl, h90, rfl, hE, hS⟩
   dsimp only at hq58
   refine W.seq (W.region (vp hS hE rfl rfl fun a hE => WL.nil ?_))
   refine W.seq ?_
   obtain ⟨q108, hq107, hq58⟩ := bindS hq58
   refine W.cut (fun a w => ∃ (q113 : ByteArray), ∃ (q114 : Int), (q113, q114) = q108 ∧ Rep a 37 [(3, pp b51), (4, .string q113), (5, vi q114)] ∧ St w s69 (vecC 9 1 a88 c89 q87.length cs92 :: pc b51 #[.slice a88 q87.length c89] 59 :: R)) ?_ ?_
   ·refine W.block ?_
    refine W.loop (fun m a w => ∃ (n109 : Nat), ∃ (q113 : ByteArray), ∃ (q114 : Int), n109 = m ∧ Fishref2tokens.loop3 n109 q113 q114 = some q108 ∧ Rep a 37 [(3, pp b51), (4, .string q113), (5, vi q114)] ∧ St w s69 (vecC 9 1 a88 c89 q87.length cs92 :: pc b51 #[.slice a88 q87.length c89] 59 :: R)) (m := fu) ⟨fu, q86, 0, rfl, hq107, hE.pick _ ⟨rfl, rfl, rfl, trivial⟩, hS⟩ ?_
    clear hE hS a w hq107; rintro m110 a w ⟨n109, q113, q114, rfl, hq107, hE, hS⟩
    refine W.gen fun K115 hK115 => ?_
    rcases n109 with _ | n109
    ·rw [Fishref2tokens.loop3] at hq107; exact absurd hq107 (by simp)
    rw [Fishref2tokens.loop3] at hq107
    refine W.seq ?_
    refine W.seq (W.region (vp hS hE rfl rfl fun a hE => ?_))
    obtain ⟨q116, hq117, hq107⟩ := bindS hq107
    refine WL.fnq hE (hass_ok hS hq117) (runs_plain rfl) bd116 rfl rfl rfl ?_
    clear hE hS; rintro e w ⟨rfl, hS⟩; refine ⟨_, rfl, ?_⟩; clear a; intro a hE
    refine WL.nil ?_
    refine W.cond hE rfl (fun hc118 => ?_) (fun hc118 => ?_)
    ·replace hq107 := iteT hc118 hq107
     refine W.skip ?_
     refine W.block ?_
     refine W.regionQ (C := fun w => St w s69 (vecC 9 1 a88 c89 q87.length cs92 :: pc b51 #[.slice a88 q87.length c89] 59 :: R)) mixed (by kernel_rfl) hS.drew ?_
     refine qP hE (Gives.p hE rfl) rfl fun a hE => ?_
     refine qP hE (Gives.p hE rfl) rfl fun a hE => ?_
     refine qP hE (Gives.p hE rfl) rfl fun a hE => ?_
     refine qP hE (Gives.p hE rfl) rfl fun a hE => ?_
     refine qP hE (Gives.lenS hE rfl st9) rfl fun a hE => ?_
     refine qP hE (Gives.p hE rfl) rfl fun a hE => ?_
     obtain ⟨x119, hx120, hq107⟩ := bindS hq107
     refine qP hE (Gives.cutSH hE st9 rfl rfl hx120) rfl fun a hE => ?_
     refine qP hE (Gives.p hE rfl) rfl fun a hE => ?_
     refine qP hE (Gives.p hE rfl) rfl fun a hE => ?_
     refine QL.nil ?_; clear hS w; intro w hS
     subst hK115
     exact ⟨n109, Nat.lt_succ_self _, n109, x119, (w64 (q114 + 1)), rfl, hq107, hE.pick _ ⟨rfl, rfl, rfl, trivial⟩, hS⟩
    replace hq107 := iteF hc118 hq107
    subst hK115
    refine W.exit rfl ?_
    exact ⟨q113, q114, Option.some.inj hq107, hE.pick _ ⟨rfl, rfl, rfl, trivial⟩, hS⟩
   clear hE hS a w; rintro a w ⟨q113, q114, rfl, hE, hS⟩
   dsimp only at hq58
   refine W.seq (W.region (vP hS hE (Gives.loadB hE 1 rfl rfl rfl ty59) rfl fun a hE => ?_))
   refine vp hS hE rfl rfl fun a hE => ?_
   refine WL.lit hE hS (e := 9) (es := 1) (vs := [(0, .string q113)]) (cs := [.string q113]) (runs_plain rfl) rfl (by kernel_rfl) rfl ?_; clear hE hS a w; intro b121 a w hE hS
   obtain ⟨x122, hx123, hq58⟩ := bindS hq58
   refine WL.appD hE hS 0 (m := 1) (runs_plain rfl) rfl rfl rfl ap59 rfl h90 rfl (xs := [q113]) (Ev.cons (c1 := [.string q113]) rfl rfl (Ev.nil)) rfl rfl hx123 rfl ?_; clear hE hS a w; intro a124 c125 cs126 a w h127 hE hS
   refine WL.storeI hE hS 1 rfl [.slice a124 x122.length c125] (runs_plain rfl) rfl rfl rfl ty59 rfl rfl rfl rfl ?_; clear hE hS a w; intro a w hE hS
   refine WL.nil ?_
   refine W.seq (W.region (v2 hS hE rfl rfl rfl rfl fun a hE => WL.nil ?_))
   obtain ⟨q140, hq139, hq58⟩ := bindS hq58
   refine W.cut (fun a w => ∃ (q145 : Int), ∃ (q146 : List ByteArray), ∃ (a147 : Option Addr), ∃ (c148 : Nat), ∃ (n150 : Nat), ∃ (cs151 : List Value), (q145, q146) = q140 ∧ Ev 1 RS s69 cs151 q146 ∧ q146.length = n150 ∧ Rep a 37 [] ∧ St w s69 (vecC 9 1 a147 c148 n150 cs151 :: pc b51 #[.slice a147 n150 c148] 59 :: R)) ?_ ?_
   ·refine W.block ?_
    refine W.loop (fun m a w => ∃ (n141 : Nat), ∃ (q145 : Int), ∃ (q146 : List ByteArray), ∃ (a147 : Option Addr), ∃ (c148 : Nat), ∃ (n150 : Nat), ∃ (cs151 : List Value), n141 = m ∧ Fishref2tokens.loop5 q114 n141 q145 q146 = some q140 ∧ Ev 1 RS s69 cs151 q146 ∧ q146.length = n150 ∧ Rep a 37 [(3, pp b51), (29, vi q114), (30, vi q145)] ∧ St w s69 (vecC 9 1 a147 c148 n150 cs151 :: pc b51 #[.slice a147 n150 c148] 59 :: R)) (m := fu) ⟨fu, 0, x122, a124, c125, x122.length, cs126, rfl, hq139, h127, (rfl), hE.pick _ ⟨rfl, rfl, rfl, trivial⟩, hS⟩ ?_
    clear hE hS a w hq139; rintro m142 a w ⟨n141, q145, q146, a147, c148, n150, cs151, rfl, hq139, h149, rfl, hE, hS⟩
    refine W.gen fun K153 hK153 => ?_
    rcases n141 with _ | n141
    ·rw [Fishref2tokens.loop5] at hq139; exact absurd hq139 (by simp)
    rw [Fishref2tokens.loop5] at hq139
    refine W.seq (W.region (vp hS hE rfl rfl fun a hE => WL.nil ?_))
    refine W.seq ?_
    refine W.cond hE rfl (fun hc154 => ?_) (fun hc154 => ?_)
    ·replace hq139 := iteT hc154 hq139
     refine W.skip ?_
     refine W.seq ?_
     refine W.block ?_
     refine W.region ?_
     refine vP hS hE (Gives.loadB hE 1 rfl rfl rfl ty59) rfl fun a hE => ?_
     refine WL.lit hE hS (e := 9) (es := 1) (vs := [(0, .string (str [41]))]) (cs := [.string (str [41])]) (runs_plain rfl) rfl (by kernel_rfl) rfl ?_; clear hE hS a w; intro b155 a w hE hS
     obtain ⟨x156, hx157, hq139⟩ := bindS hq139
     refine WL.appD hE hS 0 (m := 1) (runs_plain rfl) rfl rfl rfl ap59 rfl h149 rfl (xs := [(str [41])]) (Ev.cons (c1 := [.string (str [41])]) rfl rfl (Ev.nil)) rfl rfl hx157 rfl ?_; clear hE hS a w; intro a158 c159 cs160 a w h161 hE hS
     refine WL.storeI hE hS 1 rfl [.slice a158 x156.length c159] (runs_plain rfl) rfl rfl rfl ty59 rfl rfl rfl rfl ?_; clear hE hS a w; intro a w hE hS
     refine WL.nil ?_
     refine W.region ?_
     refine v2 hS hE rfl rfl rfl rfl fun a hE => WL.nil ?_
     subst hK153
     exact ⟨n141, Nat.lt_succ_self _, n141, (w64 (q145 + 1)), x156, a158, c159, x156.length, cs160, rfl, hq139, h161, (rfl), hE.pick _ ⟨rfl, rfl, rfl, trivial⟩, hS⟩
    replace hq139 := iteF hc154 hq139
    subst hK153
    refine W.exit rfl ?_
    exact ⟨q145, q146, a147, c148, q146.length, cs151, Option.some.inj hq139, h149, rfl, hE.pick _ trivial, hS⟩
   clear hE hS a w; rintro a w ⟨q145, q146, a147, c148, n150, cs151, rfl, h149, rfl, hE, hS⟩
   dsimp only at hq58
   subst hK79
   subst hT78
   exact ⟨s69, _, ⟨rest61, q146, a147, c148, q146.length, cs151, hl63.trans (by simp), hq58, hle70, h149, rfl, rfl⟩, hS⟩
  ·intro s69 Q_ D65 a w hI_ hE hS
   obtain ⟨rest61, q71, a72, c73, n75, cs76, hl63, hq58, hle70, h74, rfl, rfl⟩ := hI_
   obtain rfl := pre_end hl63
   rw [Fishref2tokens.loop1] at hq58
   exact ⟨q71, _, _, _, _, D65, s69, hle70, Option.some.inj hq58, h74, rfl, hE.pick _ ⟨rfl, rfl, trivial⟩, hS⟩
  exact fun _ _ _ _ _ _ _ h => h.elim
 clear hE hS a w; rintro a w ⟨q71, a72, c73, n75, cs76, D65, s69, hle70, rfl, h74, rfl, hE, hS⟩
 refine W.seq (W.region (vP hS hE (Gives.loadB hE 2 rfl rfl rfl ty59) rfl fun a hE => ?_))
 refine vp hS hE rfl rfl fun a hE => WL.nil ?_
 refine W.ret ?_
 refine finGM (fn := Tryz.f95) (rs := [.tmp 2]) (vs := [.slice a72 q71.length c73]) hE hS 0 rfl rfl ?_
 clear hS; intro w hS
 refine ⟨⟨rfl, trivial⟩, ?_⟩
 obtain rfl := Option.some.inj hr
 replace hS := hS.dropAt 1
 exact ⟨a72, c73, q71.length, cs76, s69, rfl, hle70, h74, rfl, hS⟩
set_option maxHeartbeats 8000000 in
theorem Fishref2Parsernext_v1_ok  {w : World} {s : Sg} {R : List HP} {pb0 : Nat} {y0 : Fishref2Parser} {a_v0 : Option Addr} {c_v0 n_v0 : Nat} {cs_v0 : List Value} (hS : St w s (pc pb0 #[.slice a_v0 n_v0 c_v0, .bool y0.bad] 141 :: vecC 9 1 a_v0 c_v0 n_v0 cs_v0 :: R)) (h_v0 : Ev 1 RS s cs_v0 y0.l) (hn_v0 : y0.l.length = n_v0) {r : ByteArray × (List ByteArray) × Bool} (hr : Fishref2Parsernext_v1 y0 = some r) :
  Calls Tryz.prog 131 [pp pb0].toArray w (fun e w => ∃ (a52 : Option Addr) (c53 : Nat) (n55 : Nat) (cs56 : List Value), e = .returned (.string r.1) ∧ Ev 1 RS s cs56 r.2.1 ∧ r.2.1.length = n55 ∧ St w s (pc pb0 #[.slice a52 n55 c53, .bool r.2.2] 141 :: vecC 9 1 a52 c53 n55 cs56 :: R)) := by
 refine enter Tryz.func131 rfl rfl rfl fun a hE => ?_
 rw [Fishref2Parsernext_v1] at hr
 subst hn_v0
 refine W.seq (W.region (vp hS hE rfl rfl fun a hE => WL.nil ?_))
 refine W.seq ?_
 refine W.seq (W.region (vp hS hE rfl rfl fun a hE => ?_))
 refine vP hS hE (Gives.nilOk hE rfl) rfl fun a hE => ?_
 refine vP hS hE (Gives.fld hE rfl fl141_0) rfl fun a hE => ?_
 refine vP hS hE (Gives.loadB hE 0 rfl rfl rfl ty59) rfl fun a hE => ?_
 refine vP hS hE (Gives.len hE rfl sl59) rfl fun a hE => ?_
 refine vp hS hE rfl rfl fun a hE => WL.nil ?_
 refine W.cond hE rfl (fun hc59 => ?_) (fun hc59 => ?_)
 ·replace hr := iteT hc59 hr
  refine W.seq (W.region (vp hS hE rfl rfl fun a hE => ?_))
  refine vP hS hE (Gives.nilOk hE rfl) rfl fun a hE => ?_
  refine vP hS hE (Gives.fld hE rfl fl141_1) rfl fun a hE => ?_
  refine WL.storeI hE hS 0 rfl [.slice a_v0 y0.l.length c_v0, .bool true] (runs_plain rfl) rfl rfl rfl ty4 rfl rfl rfl rfl ?_; clear hE hS a w; intro a w hE hS
  refine WL.nil ?_
  refine W.seq (W.region (vp hS hE rfl rfl fun a hE => WL.nil ?_))
  refine W.ret ?_
  refine finG (fn := Tryz.f131) (rs := [.tmp 2]) (vs := [_]) hE rfl ⟨rfl, trivial⟩ ?_
  obtain rfl := Option.some.inj hr
  exact ⟨a_v0, c_v0, y0.l.length, cs_v0, rfl, h_v0, (rfl), hS⟩
 replace hr := iteF hc59 hr
 refine W.skip ?_
 refine W.seq (W.region (vp hS hE rfl rfl fun a hE => ?_))
 refine vP hS hE (Gives.nilOk hE rfl) rfl fun a hE => ?_
 refine vP hS hE (Gives.fld hE rfl fl141_0) rfl fun a hE => ?_
 refine vP hS hE (Gives.loadB hE 0 rfl rfl rfl ty59) rfl fun a hE => ?_
 obtain ⟨x60, hx61, hr⟩ := bindS hr
 obtain ⟨hi62, hlt63, hy64⟩ := gx_some hx61
 obtain ⟨vs65, hl66, hR67, hd68, hget69⟩ := h_v0.at hy64
 subst hR67
 refine vP hS hE (Gives.idx hE (((0 : Int)).toNat) rfl rfl sl59 hi62 (by omega) (hS.vecAok 1 rfl (by omega : ((0 : Int)).toNat < y0.l.length))) rfl fun a hE => ?_
 refine vP hS hE (Gives.load1 hE rfl (fun w h => St.vecSees h 1 rfl (((0 : Int)).toNat * 1) _ hget69) ty9) rfl fun a hE => ?_
 refine vp hS hE rfl rfl fun a hE => WL.nil ?_
 refine W.seq (W.region (v2 hS hE rfl rfl rfl rfl fun a hE => ?_))
 refine vP hS hE (Gives.nilOk hE rfl) rfl fun a hE => ?_
 refine vP hS hE (Gives.fld hE rfl fl141_0) rfl fun a hE => ?_
 refine vP hS hE (Gives.loadB hE 0 rfl rfl rfl ty59) rfl fun a hE => ?_
 obtain ⟨x70, hx71, hr⟩ := bindS hr
 obtain ⟨h72, h73, _, h74, _, _⟩ := cutl_some hx71
 have h76 := (hS.vecCap 1 rfl).1
 have h75 : x70 = y0.l.drop ((1 : Int)).toNat := by rw [h74]; simp
 have h77 : Ev 1 RS s (cs_v0.drop (((1 : Int)).toNat * 1)) x70 := by rw [h75]; exact h_v0.drop _
 have hn78 : x70.length = (y0.l.length - ((1 : Int)).toNat) := by rw [h75, List.length_drop]
 replace hS := hS.vecDrop 1 rfl (k := ((1 : Int)).toNat) (by omega)
 refine vP hS hE (Gives.slL hE sl59 rfl rfl h72 (by omega) (cutA_sliced _ _ _ _ _)) rfl fun a hE => ?_
 refine vP hS hE (Gives.nilOk hE rfl) rfl fun a hE => ?_
 refine vP hS hE (Gives.fld hE rfl fl141_0) rfl fun a hE => ?_
 refine WL.storeI hE hS 0 rfl [.slice (cutA a_v0 c_v0 ((1 : Int)).toNat 1) (y0.l.length - ((1 : Int)).toNat) (c_v0 - ((1 : Int)).toNat), .bool y0.bad] (runs_plain rfl) rfl rfl rfl ty59 rfl rfl rfl rfl ?_; clear hE hS a w; intro a w hE hS
 refine WL.nil ?_
 refine W.seq (W.region (v2 hS hE rfl rfl rfl rfl fun a hE => WL.nil ?_))
 refine W.ret ?_
 refine finG (fn := Tryz.f131) (rs := [.tmp 2]) (vs := [_]) hE rfl ⟨rfl, trivial⟩ ?_
 obtain rfl := Option.some.inj hr
 exact ⟨(cutA a_v0 c_v0 ((1 : Int)).toNat 1), (c_v0 - ((1 : Int)).toNat), (y0.l.length - ((1 : Int)).toNat), (cs_v0.drop (((1 : Int)).toNat * 1)), rfl, h77, hn78, hS⟩
set_option maxHeartbeats 8000000 in
theorem SlicesIndexLstring_ok  {w : World} {s : Sg} {R : List HP} {x0 : List ByteArray} {a0 : Option Addr} {c0 : Nat} {x1 : ByteArray} (hS : St w s (R)) (h0 : Sl 1 RS s a0 c0 x0) {r : Int} (hr : SlicesIndexLstring x0 x1 = r) :
  Calls Tryz.prog 74 [.slice a0 x0.length c0, .string x1].toArray w (fun e w => e = .returned (vi r) ∧ St w s (R)) := by
 refine enter Tryz.func74 rfl rfl rfl fun a hE => ?_
 rw [SlicesIndexLstring] at hr
 refine W.seq (W.region (vp hS hE rfl rfl fun a hE => WL.nil ?_))
 refine W.seq ?_
 refine W.seq (W.region (vp hS hE rfl rfl fun a hE => ?_))
 refine vP hS hE (Gives.len hE rfl sl59) rfl fun a hE => ?_
 refine vp hS hE rfl rfl fun a hE => WL.nil ?_
 obtain ⟨q52, hq51, hr⟩ := bndS hr
 refine W.cut (fun a w => (.next ()) = q52 ∧ Rep a 19 [] ∧ St w s (R)) ?_ ?_
 ·refine W.block ?_
  refine W.loop (fun m a w => ∃ (rest55 : List ByteArray) (k53 : Nat), rest55.length = m ∧ x0.drop k53 = rest55 ∧ SlicesIndexLstring.loop1 x1 rest55 k53 = q52 ∧ Rep a 19 [(0, .slice a0 x0.length c0), (1, .string x1), (7, vi ((x0).length : Int)), (8, vi ((k53 : Nat) : Int))] ∧ St w s (R)) (m := x0.length) ⟨x0, 0, rfl, rfl, hq51, hE.pick _ ⟨rfl, rfl, rfl, rfl, trivial⟩, hS⟩ ?_
  clear hE hS a w hq51; rintro m59 a w ⟨rest55, k53, rfl, hd56, hq51, hE, hS⟩
  refine W.gen fun K62 hK62 => ?_
  rcases rest55 with _ | ⟨x54, rest55⟩
  ·have hlt57 := drop_nil hd56
   refine W.seq (W.region (vp hS hE rfl rfl fun a hE => WL.nil ?_))
   refine W.seq ?_
   refine W.condF hE rfl (decide_eq_false (by omega)) ?_
   subst hK62
   refine W.exit rfl ?_
   exact ⟨hq51, hE.pick _ trivial, hS⟩
  obtain ⟨hlt57, hx58, hd56⟩ := drop_cons hd56
  rw [SlicesIndexLstring.loop1] at hq51
  refine W.seq (W.region (vp hS hE rfl rfl fun a hE => WL.nil ?_))
  refine W.seq ?_
  refine W.condT hE rfl (decide_eq_true (by omega)) ?_
  refine W.skip ?_
  refine W.seq ?_
  refine W.block ?_
  refine W.seq (W.region (v2 hS hE rfl rfl rfl rfl fun a hE => WL.nil ?_))
  refine W.seq (W.region (v2 hS hE rfl rfl rfl rfl fun a hE => ?_))
  refine vp hS hE rfl rfl fun a hE => ?_
  obtain ⟨cs63, hl64, hR65, hat66⟩ := h0.at hx58
  subst hR65
  refine vP hS hE (Gives.idx hE k53 rfl rfl sl59 rfl hlt57 (h0.aok hlt57)) rfl fun a hE => ?_
  refine vP hS hE (Gives.load1 hE rfl (fun w h => hat66 w _ h) ty9) rfl fun a hE => ?_
  refine vP hS hE (Gives.eqSt hE rfl rfl) rfl fun a hE => WL.nil ?_
  refine W.cond hE rfl (fun hc67 => ?_) (fun hc67 => ?_)
  ·replace hq51 := iteT hc67 hq51
   refine W.seq (W.region (v2 hS hE rfl rfl rfl rfl fun a hE => WL.nil ?_))
   refine W.ret ?_
   subst hK62
   rw [← hq51] at hr
   dsimp only at hr
   refine finG (fn := Tryz.f74) (rs := [.tmp 4]) (vs := [_]) hE rfl ⟨rfl, trivial⟩ ?_
   subst hr
   exact ⟨rfl, hS⟩
  replace hq51 := iteF hc67 hq51
  refine W.skip ?_
  refine W.region ?_
  refine vP hS hE (Gives.inc hE rfl (by have := h0.small; omega)) rfl fun a hE => ?_
  refine vp hS hE rfl rfl fun a hE => WL.nil ?_
  subst hK62
  exact ⟨rest55.length, Nat.lt_succ_self _, rest55, k53 + 1, rfl, hd56, hq51, hE.pick _ ⟨rfl, rfl, rfl, rfl, trivial⟩, hS⟩
 clear hE hS a w; rintro a w ⟨rfl, hE, hS⟩
 dsimp only at hr
 refine W.seq (W.region (vp hS hE rfl rfl fun a hE => WL.nil ?_))
 refine W.ret ?_
 refine finG (fn := Tryz.f74) (rs := [.tmp 4]) (vs := [_]) hE rfl ⟨rfl, trivial⟩ ?_
 subst hr
 exact ⟨rfl, hS⟩
set_option maxHeartbeats 8000000 in
theorem Fishref2numbersOf_ok  {w : World} {s : Sg} {R : List HP} {x0 : Int} (hS : St w s (R))  {r : Int} (hr : Fishref2numbersOf x0 = r) :
  Calls Tryz.prog 47 [vi x0].toArray w (fun e w => e = .returned (vi r) ∧ St w s (R)) := by
 refine enter Tryz.func47 rfl rfl rfl fun a hE => ?_
 rw [Fishref2numbersOf] at hr
 refine W.seq (W.region (vp hS hE rfl rfl fun a hE => WL.nil ?_))
 refine W.seq ?_
 refine W.seq (W.region (vp hS hE rfl rfl fun a hE => WL.nil ?_))
 refine W.block ?_
 refine W.seq ?_
 refine W.seq (W.region (v2 hS hE rfl rfl rfl rfl fun a hE => WL.nil ?_))
 obtain ⟨q52, hq51, hr⟩ := bndS hr
 refine W.cut (fun a w => ∃ (q55 : Bool), q55 = q52 ∧ Rep a 13 [(3, vi x0), (4, .bool q55)] ∧ St w s (R)) ?_ ?_
 ·refine W.gen fun K56 hK56 => ?_
  refine W.cond hE rfl (fun hc57 => ?_) (fun hc57 => ?_)
  ·replace hq51 := iteT hc57 hq51
   refine W.skip ?_
   subst hK56
   exact ⟨(x0 == 2), hq51, hE.pick _ ⟨rfl, rfl, trivial⟩, hS⟩
  replace hq51 := iteF hc57 hq51
  refine W.seq (W.region (v2 hS hE rfl rfl rfl rfl fun a hE => WL.nil ?_))
  obtain ⟨q59, hq58, hq51⟩ := bndS hq51
  refine W.cut (fun a w => ∃ (q62 : Bool), q62 = q59 ∧ Rep a 13 [(3, vi x0), (4, .bool q62)] ∧ St w s (R)) ?_ ?_
  ·refine W.gen fun K63 hK63 => ?_
   refine W.cond hE rfl (fun hc64 => ?_) (fun hc64 => ?_)
   ·replace hq58 := iteT hc64 hq58
    refine W.skip ?_
    subst hK63
    exact ⟨(x0 == 3), hq58, hE.pick _ ⟨rfl, rfl, trivial⟩, hS⟩
   replace hq58 := iteF hc64 hq58
   refine W.seq (W.region (v2 hS hE rfl rfl rfl rfl fun a hE => WL.nil ?_))
   obtain ⟨q66, hq65, hq58⟩ := bndS hq58
   refine W.cut (fun a w => ∃ (q69 : Bool), q69 = q66 ∧ Rep a 13 [(3, vi x0), (4, .bool q69)] ∧ St w s (R)) ?_ ?_
   ·refine W.gen fun K70 hK70 => ?_
    refine W.cond hE rfl (fun hc71 => ?_) (fun hc71 => ?_)
    ·replace hq65 := iteT hc71 hq65
     refine W.skip ?_
     subst hK70
     exact ⟨(x0 == 4), hq65, hE.pick _ ⟨rfl, rfl, trivial⟩, hS⟩
    replace hq65 := iteF hc71 hq65
    refine W.region ?_
    refine v2 hS hE rfl rfl rfl rfl fun a hE => WL.nil ?_
    subst hK70
    exact ⟨(x0 == 5), hq65, hE.pick _ ⟨rfl, rfl, trivial⟩, hS⟩
   clear hE hS a w; rintro a w ⟨q69, rfl, hE, hS⟩
   subst hK63
   exact ⟨q69, hq58, hE.pick _ ⟨rfl, rfl, trivial⟩, hS⟩
  clear hE hS a w; rintro a w ⟨q62, rfl, hE, hS⟩
  subst hK56
  exact ⟨q62, hq51, hE.pick _ ⟨rfl, rfl, trivial⟩, hS⟩
 clear hE hS a w; rintro a w ⟨q55, rfl, hE, hS⟩
 refine W.cond hE rfl (fun hc72 => ?_) (fun hc72 => ?_)
 ·replace hr := iteT hc72 hr
  refine W.seq (W.region (vp hS hE rfl rfl fun a hE => WL.nil ?_))
  refine W.ret ?_
  refine finG (fn := Tryz.f47) (rs := [.tmp 2]) (vs := [_]) hE rfl ⟨rfl, trivial⟩ ?_
  subst hr
  exact ⟨rfl, hS⟩
 replace hr := iteF hc72 hr
 refine W.seq ?_
 refine W.seq (W.region (v2 hS hE rfl rfl rfl rfl fun a hE => WL.nil ?_))
 obtain ⟨q74, hq73, hr⟩ := bndS hr
 refine W.cut (fun a w => ∃ (q77 : Bool), q77 = q74 ∧ Rep a 13 [(9, .bool q77)] ∧ St w s (R)) ?_ ?_
 ·refine W.gen fun K78 hK78 => ?_
  refine W.cond hE rfl (fun hc79 => ?_) (fun hc79 => ?_)
  ·replace hq73 := iteT hc79 hq73
   refine W.skip ?_
   subst hK78
   exact ⟨(x0 == 6), hq73, hE.pick _ ⟨rfl, trivial⟩, hS⟩
  replace hq73 := iteF hc79 hq73
  refine W.seq (W.region (v2 hS hE rfl rfl rfl rfl fun a hE => WL.nil ?_))
  obtain ⟨q81, hq80, hq73⟩ := bndS hq73
  refine W.cut (fun a w => ∃ (q84 : Bool), q84 = q81 ∧ Rep a 13 [(9, .bool q84)] ∧ St w s (R)) ?_ ?_
  ·refine W.gen fun K85 hK85 => ?_
   refine W.cond hE rfl (fun hc86 => ?_) (fun hc86 => ?_)
   ·replace hq80 := iteT hc86 hq80
    refine W.skip ?_
    subst hK85
    exact ⟨(x0 == 7), hq80, hE.pick _ ⟨rfl, trivial⟩, hS⟩
   replace hq80 := iteF hc86 hq80
   refine W.region ?_
   refine v2 hS hE rfl rfl rfl rfl fun a hE => WL.nil ?_
   subst hK85
   exact ⟨(x0 == 8), hq80, hE.pick _ ⟨rfl, trivial⟩, hS⟩
  clear hE hS a w; rintro a w ⟨q84, rfl, hE, hS⟩
  subst hK78
  exact ⟨q84, hq73, hE.pick _ ⟨rfl, trivial⟩, hS⟩
 clear hE hS a w; rintro a w ⟨q77, rfl, hE, hS⟩
 refine W.cond hE rfl (fun hc87 => ?_) (fun hc87 => ?_)
 ·replace hr := iteT hc87 hr
  refine W.seq (W.region (vp hS hE rfl rfl fun a hE => WL.nil ?_))
  refine W.ret ?_
  refine finG (fn := Tryz.f47) (rs := [.tmp 2]) (vs := [_]) hE rfl ⟨rfl, trivial⟩ ?_
  subst hr
  exact ⟨rfl, hS⟩
 replace hr := iteF hc87 hr
 refine W.skip ?_
 refine W.seq (W.region (vp hS hE rfl rfl fun a hE => WL.nil ?_))
 refine W.ret ?_
 refine finG (fn := Tryz.f47) (rs := [.tmp 2]) (vs := [_]) hE rfl ⟨rfl, trivial⟩ ?_
 subst hr
 exact ⟨rfl, hS⟩
set_option maxHeartbeats 8000000 in
theorem Fishref2Parserjoined_v4_ok {fu : Nat}  {self_Fishref2Parserunit_v1 : Fishref2Parser → Option (FareCond × (List ByteArray) × Bool)} (ih_Fishref2Parserunit_v1 : ∀ {w : World} {s : Sg} {R : List HP} {pb0 : Nat} {y0 : Fishref2Parser} {a_v0 : Option Addr} {c_v0 n_v0 : Nat} {cs_v0 : List Value} (_hS : St w s (pc pb0 #[.slice a_v0 n_v0 c_v0, .bool y0.bad] 141 :: vecC 9 1 a_v0 c_v0 n_v0 cs_v0 :: R)) (_hTab : TabX s) (_h_v0 : Ev 1 RS s cs_v0 y0.l) (_hn_v0 : y0.l.length = n_v0) {r : FareCond × (List ByteArray) × Bool} (_hr : self_Fishref2Parserunit_v1 y0 = some r), Calls Tryz.prog 119 [pp pb0].toArray w (fun e w => ∃ (cs0 : List Value) (a60 : Option Addr) (c61 : Nat) (n63 : Nat) (cs64 : List Value) (t : Sg), e = .returned (.agg cs0.toArray) ∧ s.Le t ∧ RFareCond t cs0 r.1 ∧ Ev 1 RS t cs64 r.2.1 ∧ r.2.1.length = n63 ∧ St w t (pc pb0 #[.slice a60 n63 c61, .bool r.2.2] 141 :: vecC 9 1 a60 c61 n63 cs64 :: R))) {w : World} {s : Sg} {R : List HP} {pb0 : Nat} {x1 : Int} {x2 : ByteArray} {y0 : Fishref2Parser} {a_v0 : Option Addr} {c_v0 n_v0 : Nat} {cs_v0 : List Value} (hS : St w s (pc pb0 #[.slice a_v0 n_v0 c_v0, .bool y0.bad] 141 :: vecC 9 1 a_v0 c_v0 n_v0 cs_v0 :: R)) (hTab : TabX s) (h_v0 : Ev 1 RS s cs_v0 y0.l) (hn_v0 : y0.l.length = n_v0) {r : FareCond × (List ByteArray) × Bool} (hr : Fishref2Parserjoined_v4 fu self_Fishref2Parserunit_v1 x1 x2 y0 = some r) :
  Calls Tryz.prog 117 [pp pb0, vi x1, .string x2, .func (.func 119) #[pp pb0] #[]].toArray w (fun e w => ∃ (cs0 : List Value) (a60 : Option Addr) (c61 : Nat) (n63 : Nat) (cs64 : List Value) (t : Sg), e = .returned (.agg cs0.toArray) ∧ s.Le t ∧ RFareCond t cs0 r.1 ∧ Ev 1 RS t cs64 r.2.1 ∧ r.2.1.length = n63 ∧ St w t (pc pb0 #[.slice a60 n63 c61, .bool r.2.2] 141 :: vecC 9 1 a60 c61 n63 cs64 :: R)) := by
 refine enter Tryz.func117 rfl rfl rfl fun a hE => ?_
 rw [Fishref2Parserjoined_v4] at hr
 subst hn_v0
 refine W.seq (W.region ?_)
 refine WL.alloc hE hS (runs_plain rfl) zr43 rfl ?_; clear hE hS a w; intro b67 a w hE hS
 refine WL.nil ?_
 refine W.seq (W.region (vp hS hE rfl rfl fun a hE => ?_))
 obtain ⟨q68, hq69, hr⟩ := bindS hr
 replace hS := hS.front 2 rfl
 replace hS := hS.front 2 rfl
 have hc_ := ih_Fishref2Parserunit_v1 (y0 := y0) hS (TabG.mono (Sg.Le.refl _) hTab) h_v0 (rfl) hq69
 refine WL.fnz hE (hc_) rfl (runs_plain rfl) bd119 rfl rfl rfl ?_
 clear hE hS hc_; rintro e w ⟨cs70, a72, c73, n74, cs75, s77, rfl, hle78, h71, h76, rfl, hS⟩; refine ⟨_, rfl, ?_⟩; clear a; intro a hE
 replace h_v0 := Ev.mono RS.mono hle78 h_v0
 obtain ⟨a79, c80, rfl, h81⟩ := h71.unf
 refine WL.lit hE hS (e := 43) (es := 4) (vs := [(0, .agg (List.toArray [vi q68.1.Kind, vi q68.1.A, vi q68.1.B, .slice a79 q68.1.Kids.length c80]))]) (cs := [vi q68.1.Kind, vi q68.1.A, vi q68.1.B, .slice a79 q68.1.Kids.length c80]) (runs_plain rfl) rfl (by kernel_rfl) rfl ?_; clear hE hS a w; intro b82 a w hE hS
 replace hS := hS.ptVec (es := 4) (m := 1) rfl (by decide)
 have h84 : Ev 4 RFareCond s77 [vi q68.1.Kind, vi q68.1.A, vi q68.1.B, .slice a79 q68.1.Kids.length c80] [q68.1] := (Ev.cons (c1 := [vi q68.1.Kind, vi q68.1.A, vi q68.1.B, .slice a79 q68.1.Kids.length c80]) (RFareCond.fold ⟨_, _, rfl, h81⟩) rfl (Ev.nil))
 refine vp hS hE rfl rfl fun a hE => WL.nil ?_
 refine W.seq ?_
 obtain ⟨q86, hq85, hr⟩ := bindS hr
 refine W.cut (fun a w => ∃ (q91 : List FareCond), ∃ (q98 : List ByteArray), ∃ (q105 : Bool), ∃ (a92 : Option Addr), ∃ (c93 : Nat), ∃ (n95 : Nat), ∃ (cs96 : List Value), ∃ (a99 : Option Addr), ∃ (c100 : Nat), ∃ (n102 : Nat), ∃ (cs103 : List Value), ∃ (s89 : Sg), s77.Le s89 ∧ (q91, q98, q105) = q86 ∧ Ev 4 RFareCond s89 cs96 q91 ∧ q91.length = n95 ∧ Ev 1 RS s89 cs103 q98 ∧ q98.length = n102 ∧ Rep a 52 [(1, vi x1), (8, pp b67), (9, .slice a92 n95 c93)] ∧ St w s89 (vecC 43 4 a92 c93 n95 cs96 :: pc pb0 #[.slice a99 n102 c100, .bool q105] 141 :: vecC 9 1 a99 c100 n102 cs103 :: pc b67 #[vi 0, vi 0, vi 0, .slice none 0 0] 43 :: R)) ?_ ?_
 ·refine W.block ?_
  refine W.loop (fun m a w => ∃ (n87 : Nat), ∃ (q91 : List FareCond), ∃ (q98 : List ByteArray), ∃ (q105 : Bool), ∃ (a92 : Option Addr), ∃ (c93 : Nat), ∃ (n95 : Nat), ∃ (cs96 : List Value), ∃ (a99 : Option Addr), ∃ (c100 : Nat), ∃ (n102 : Nat), ∃ (cs103 : List Value), ∃ (s89 : Sg), n87 = m ∧ s77.Le s89 ∧ Fishref2Parserjoined_v4.loop1 x2 self_Fishref2Parserunit_v1 n87 q91 q98 q105 = some q86 ∧ Ev 4 RFareCond s89 cs96 q91 ∧ q91.length = n95 ∧ Ev 1 RS s89 cs103 q98 ∧ q98.length = n102 ∧ Rep a 52 [(0, pp pb0), (1, vi x1), (2, .string x2), (3, .func (.func 119) #[pp pb0] #[]), (8, pp b67), (9, .slice a92 n95 c93)] ∧ St w s89 (vecC 43 4 a92 c93 n95 cs96 :: pc pb0 #[.slice a99 n102 c100, .bool q105] 141 :: vecC 9 1 a99 c100 n102 cs103 :: pc b67 #[vi 0, vi 0, vi 0, .slice none 0 0] 43 :: R)) (m := fu) ⟨fu, [q68.1], q68.2.1, q68.2.2, (some ⟨b82, 0, none⟩), 1, 1, [vi q68.1.Kind, vi q68.1.A, vi q68.1.B, .slice a79 q68.1.Kids.length c80], a72, c73, q68.2.1.length, cs75, s77, rfl, (Sg.Le.refl _), hq85, h84, (rfl), h76, rfl, hE.pick _ ⟨rfl, rfl, rfl, rfl, rfl, rfl, trivial⟩, hS⟩ ?_
  clear hE hS a w hq85; rintro m88 a w ⟨n87, q91, q98, q105, a92, c93, n95, cs96, a99, c100, n102, cs103, s89, rfl, hle90, hq85, h94, rfl, h101, rfl, hE, hS⟩
  refine W.gen fun K106 hK106 => ?_
  replace h81 := Sl.mono RFareCond.mono hle90 h81
  replace h84 := Ev.mono RFareCond.mono hle90 h84
  replace h76 := Ev.mono RS.mono hle90 h76
  rcases n87 with _ | n87
  ·rw [Fishref2Parserjoined_v4.loop1] at hq85; exact absurd hq85 (by simp)
  rw [Fishref2Parserjoined_v4.loop1] at hq85
  refine W.seq ?_
  refine W.seq ?_
  obtain ⟨q108, hq107, hq85⟩ := bindS hq85
  refine W.cut (fun a w => ∃ (q111 : Bool), q111 = q108 ∧ Rep a 52 [(0, pp pb0), (1, vi x1), (2, .string x2), (3, .func (.func 119) #[pp pb0] #[]), (8, pp b67), (9, .slice a92 q91.length c93), (35, .bool q111)] ∧ St w s89 (vecC 43 4 a92 c93 q91.length cs96 :: pc pb0 #[.slice a99 q98.length c100, .bool q105] 141 :: vecC 9 1 a99 c100 q98.length cs103 :: pc b67 #[vi 0, vi 0, vi 0, .slice none 0 0] 43 :: R)) ?_ ?_
  ·refine W.gen fun K112 hK112 => ?_
   refine W.region ?_
   refine vp hS hE rfl rfl fun a hE => ?_
   refine vP hS hE (Gives.nilOk hE rfl) rfl fun a hE => ?_
   refine vP hS hE (Gives.fld hE rfl fl141_1) rfl fun a hE => ?_
   refine vP hS hE (Gives.loadB hE 1 rfl rfl rfl ty4) rfl fun a hE => ?_
   refine v2 hS hE rfl rfl rfl rfl fun a hE => ?_
   rcases Bool.eq_false_or_eq_true !q105 with hg113 | hg113
   ·replace hq107 := iteT hg113 hq107
    refine WL.vS hS hE (runs_if hE rfl rfl rfl hg113) (Gives.p hE rfl) rfl fun a hE => ?_
    refine WL.vS hS hE (runs_if hE rfl rfl rfl hg113) (Gives.nilOk hE rfl) rfl fun a hE => ?_
    refine WL.vS hS hE (runs_if hE rfl rfl rfl hg113) (Gives.fld hE rfl fl141_0) rfl fun a hE => ?_
    refine WL.vS hS hE (runs_if hE rfl rfl rfl hg113) (Gives.loadB hE 1 rfl rfl rfl ty59) rfl fun a hE => ?_
    refine WL.vS hS hE (runs_if hE rfl rfl rfl hg113) (Gives.len hE rfl sl59) rfl fun a hE => ?_
    refine WL.vS hS hE (runs_if hE rfl rfl rfl hg113) (Gives.p hE rfl) rfl fun a hE => ?_
    refine vP hS hE (Gives.pickT hE rfl hg113 rfl) rfl fun a hE => ?_
    refine vp hS hE rfl rfl fun a hE => ?_
    rcases Bool.eq_false_or_eq_true (decide (((q98.length : Nat) : Int) > 0)) with hg114 | hg114
    ·replace hq107 := iteT hg114 hq107
     refine WL.vS hS hE (runs_if hE rfl rfl rfl hg114) (Gives.p hE rfl) rfl fun a hE => ?_
     refine WL.vS hS hE (runs_if hE rfl rfl rfl hg114) (Gives.nilOk hE rfl) rfl fun a hE => ?_
     refine WL.vS hS hE (runs_if hE rfl rfl rfl hg114) (Gives.fld hE rfl fl141_0) rfl fun a hE => ?_
     refine WL.vS hS hE (runs_if hE rfl rfl rfl hg114) (Gives.loadB hE 1 rfl rfl rfl ty59) rfl fun a hE => ?_
     obtain ⟨x115, hx116, hq107⟩ := bindS hq107
     obtain ⟨hi117, hlt118, hy119⟩ := gx_some hx116
     obtain ⟨vs120, hl121, hR122, hd123, hget124⟩ := h101.at hy119
     subst hR122
     refine WL.vS hS hE (runs_if hE rfl rfl rfl hg114) (Gives.idx hE (((0 : Int)).toNat) rfl rfl sl59 hi117 (by omega) (hS.vecAok 2 rfl (by omega : ((0 : Int)).toNat < q98.length))) rfl fun a hE => ?_
     refine WL.vS hS hE (runs_if hE rfl rfl rfl hg114) (Gives.load1 hE rfl (fun w h => St.vecSees h 2 rfl (((0 : Int)).toNat * 1) _ hget124) ty9) rfl fun a hE => ?_
     refine WL.vS hS hE (runs_if hE rfl rfl rfl hg114) (Gives.p hE rfl) rfl fun a hE => ?_
     refine WL.vS hS hE (runs_if hE rfl rfl rfl hg114) (Gives.eqSt hE rfl rfl) rfl fun a hE => ?_
     refine vP hS hE (Gives.pickT hE rfl hg114 rfl) rfl fun a hE => WL.nil ?_
     subst hK112
     exact ⟨(seq x115 x2), Option.some.inj hq107, hE.pick _ ⟨rfl, rfl, rfl, rfl, rfl, rfl, rfl, trivial⟩, hS⟩
    replace hq107 := iteF hg114 hq107
    refine nO hE rfl rfl rfl (by rw [hg114]; decide) rfl fun a hE => ?_
    refine nO hE rfl rfl rfl (by rw [hg114]; decide) rfl fun a hE => ?_
    refine nO hE rfl rfl rfl (by rw [hg114]; decide) rfl fun a hE => ?_
    refine nO hE rfl rfl rfl (by rw [hg114]; decide) rfl fun a hE => ?_
    refine nO hE rfl rfl rfl (by rw [hg114]; decide) rfl fun a hE => ?_
    refine nO hE rfl rfl rfl (by rw [hg114]; decide) rfl fun a hE => ?_
    refine nO hE rfl rfl rfl (by rw [hg114]; decide) rfl fun a hE => ?_
    refine nO hE rfl rfl rfl (by rw [hg114]; decide) rfl fun a hE => ?_
    refine vP hS hE (Gives.pickF hE rfl hg114 rfl) rfl fun a hE => WL.nil ?_
    subst hK112
    exact ⟨false, Option.some.inj hq107, hE.pick _ ⟨rfl, rfl, rfl, rfl, rfl, rfl, rfl, trivial⟩, hS⟩
   replace hq107 := iteF hg113 hq107
   refine nO hE rfl rfl rfl (by rw [hg113]; decide) rfl fun a hE => ?_
   refine nO hE rfl rfl rfl (by rw [hg113]; decide) rfl fun a hE => ?_
   refine nO hE rfl rfl rfl (by rw [hg113]; decide) rfl fun a hE => ?_
   refine nO hE rfl rfl rfl (by rw [hg113]; decide) rfl fun a hE => ?_
   refine nO hE rfl rfl rfl (by rw [hg113]; decide) rfl fun a hE => ?_
   refine nO hE rfl rfl rfl (by rw [hg113]; decide) rfl fun a hE => ?_
   refine vP hS hE (Gives.pickF hE rfl hg113 rfl) rfl fun a hE => ?_
   refine vp hS hE rfl rfl fun a hE => ?_
   refine nO hE rfl rfl rfl (by decide) rfl fun a hE => ?_
   refine nO hE rfl rfl rfl (by decide) rfl fun a hE => ?_
   refine nO hE rfl rfl rfl (by decide) rfl fun a hE => ?_
   refine nO hE rfl rfl rfl (by decide) rfl fun a hE => ?_
   refine nO hE rfl rfl rfl (by decide) rfl fun a hE => ?_
   refine nO hE rfl rfl rfl (by decide) rfl fun a hE => ?_
   refine nO hE rfl rfl rfl (by decide) rfl fun a hE => ?_
   refine nO hE rfl rfl rfl (by decide) rfl fun a hE => ?_
   refine vP hS hE (Gives.pickF hE rfl rfl rfl) rfl fun a hE => WL.nil ?_
   subst hK112
   exact ⟨false, Option.some.inj hq107, hE.pick _ ⟨rfl, rfl, rfl, rfl, rfl, rfl, rfl, trivial⟩, hS⟩
  clear hE hS a w; rintro a w ⟨q111, rfl, hE, hS⟩
  refine W.cond hE rfl (fun hc125 => ?_) (fun hc125 => ?_)
  ·replace hq85 := iteT hc125 hq85
   refine W.skip ?_
   refine W.block ?_
   refine W.seq (W.region (vp hS hE rfl rfl fun a hE => ?_))
   obtain ⟨q126, hq127, hq85⟩ := bindS hq85
   replace hS := hS.front 2 rfl
   replace hS := hS.front 2 rfl
   have hc_ := Fishref2Parsernext_v1_ok (y0 := (Fishref2Parser.mk q98 q105)) hS h101 rfl hq127
   refine WL.fnq hE (hc_) (runs_plain rfl) bd131 rfl rfl rfl ?_
   clear hE hS hc_; rintro e w ⟨a128, c129, n130, cs131, rfl, h132, rfl, hS⟩; refine ⟨_, rfl, ?_⟩; clear a; intro a hE
   refine WL.nil ?_
   refine W.region ?_
   refine v2 hS hE rfl rfl rfl rfl fun a hE => ?_
   obtain ⟨q133, hq134, hq85⟩ := bindS hq85
   have hc_ := ih_Fishref2Parserunit_v1 (y0 := (Fishref2Parser.mk q126.2.1 q126.2.2)) hS (TabG.mono (Sg.Le.trans hle78 hle90) hTab) h132 rfl hq134
   refine WL.fnz hE (hc_) rfl (runs_plain rfl) bd119 rfl rfl rfl ?_
   clear hE hS hc_; rintro e w ⟨cs135, a137, c138, n139, cs140, s142, rfl, hle143, h136, h141, rfl, hS⟩; refine ⟨_, rfl, ?_⟩; clear a; intro a hE
   replace h132 := Ev.mono RS.mono hle143 h132
   replace h94 := Ev.mono RFareCond.mono hle143 h94
   obtain ⟨a144, c145, rfl, h146⟩ := h136.unf
   refine WL.lit hE hS (e := 43) (es := 4) (vs := [(0, .agg (List.toArray [vi q133.1.Kind, vi q133.1.A, vi q133.1.B, .slice a144 q133.1.Kids.length c145]))]) (cs := [vi q133.1.Kind, vi q133.1.A, vi q133.1.B, .slice a144 q133.1.Kids.length c145]) (runs_plain rfl) rfl (by kernel_rfl) rfl ?_; clear hE hS a w; intro b147 a w hE hS
   obtain ⟨x148, hx149, hq85⟩ := bindS hq85
   refine WL.appD hE hS 2 (m := 1) (runs_plain rfl) rfl rfl rfl ap41 rfl h94 rfl (xs := [q133.1]) (Ev.cons (c1 := [vi q133.1.Kind, vi q133.1.A, vi q133.1.B, .slice a144 q133.1.Kids.length c145]) (RFareCond.fold ⟨_, _, rfl, h146⟩) rfl (Ev.nil)) rfl rfl hx149 rfl ?_; clear hE hS a w; intro a150 c151 cs152 a w h153 hE hS
   refine vp hS hE rfl rfl fun a hE => WL.nil ?_
   replace hS := hS.front 3 rfl
   replace hS := hS.front 2 rfl
   replace hS := hS.front 2 rfl
   replace hS := hS.front 3 rfl
   subst hK106
   exact ⟨n87, Nat.lt_succ_self _, n87, x148, q133.2.1, q133.2.2, a150, c151, x148.length, cs152, a137, c138, q133.2.1.length, cs140, s142, rfl, (Sg.Le.trans hle90 hle143), hq85, h153, (rfl), h141, rfl, hE.pick _ ⟨rfl, rfl, rfl, rfl, rfl, rfl, trivial⟩, hS⟩
  replace hq85 := iteF hc125 hq85
  subst hK106
  refine W.exit rfl ?_
  exact ⟨q91, q98, q105, a92, c93, q91.length, cs96, a99, c100, q98.length, cs103, s89, hle90, Option.some.inj hq85, h94, rfl, h101, rfl, hE.pick _ ⟨rfl, rfl, rfl, trivial⟩, hS⟩
 clear hE hS a w; rintro a w ⟨q91, q98, q105, a92, c93, n95, cs96, a99, c100, n102, cs103, s89, hle90, rfl, h94, rfl, h101, rfl, hE, hS⟩
 dsimp only at hr
 replace h81 := Sl.mono RFareCond.mono hle90 h81
 replace h84 := Ev.mono RFareCond.mono hle90 h84
 replace h76 := Ev.mono RS.mono hle90 h76
 refine W.seq ?_
 refine W.seq (W.region (vp hS hE rfl rfl fun a hE => ?_))
 refine vP hS hE (Gives.len hE rfl sl41) rfl fun a hE => ?_
 refine vp hS hE rfl rfl fun a hE => WL.nil ?_
 refine W.cond hE rfl (fun hc154 => ?_) (fun hc154 => ?_)
 ·replace hr := iteT hc154 hr
  refine W.seq (W.region (vp hS hE rfl rfl fun a hE => ?_))
  obtain ⟨x155, hx156, hr⟩ := bindS hr
  obtain ⟨hi157, hlt158, hy159⟩ := gx_some hx156
  obtain ⟨vs160, hl161, hR162, hd163, hget164⟩ := h94.at hy159
  obtain ⟨a165, c166, rfl, h167⟩ := hR162.unf
  refine vP hS hE (Gives.idx hE (((0 : Int)).toNat) rfl rfl sl41 hi157 (by omega) (hS.vecAok 0 rfl (by omega : ((0 : Int)).toNat < q91.length))) rfl fun a hE => ?_
  refine vP hS hE (Gives.loadA hE rfl (fun w h => St.vecSees h 0 rfl (((0 : Int)).toNat * 4) _ hget164) ty43) rfl fun a hE => ?_
  refine WL.storeI hE hS 3 rfl [vi x155.Kind, vi x155.A, vi x155.B, .slice a165 x155.Kids.length c166] (runs_plain rfl) rfl rfl rfl ty43 rfl rfl rfl rfl ?_; clear hE hS a w; intro a w hE hS
  refine WL.nil ?_
  refine W.ret ?_
  refine finG (fn := Tryz.f117) (rs := [.cell 8 43]) (vs := [_]) hE rfl ⟨⟨_, rfl, .inl ⟨_, rfl, hS.seesAt 3 rfl, ty43⟩⟩, trivial⟩ ?_
  obtain rfl := Option.some.inj hr
  replace hS := hS.tail
  replace hS := hS.dropAt 2
  exact ⟨_, a99, c100, q98.length, cs103, s89, rfl, (Sg.Le.trans hle78 hle90), (RFareCond.fold ⟨_, _, rfl, h167⟩), h101, rfl, hS⟩
 replace hr := iteF hc154 hr
 refine W.skip ?_
 refine W.seq (W.region (v2 hS hE rfl rfl rfl rfl fun a hE => ?_))
 refine vP hS hE (Gives.build hE (vs := [(0, vi x1), (3, .slice a92 q91.length c93)]) [vi x1, vi 0, vi 0, .slice a92 q91.length c93] rfl (by kernel_rfl)) rfl fun a hE => ?_
 refine WL.storeI hE hS 3 rfl [vi x1, vi 0, vi 0, .slice a92 q91.length c93] (runs_plain rfl) rfl rfl rfl ty43 rfl rfl rfl rfl ?_; clear hE hS a w; intro a w hE hS
 refine WL.nil ?_
 refine W.ret ?_
 have hF := hS.fixD RFareCond.mono 0 rfl h94 rfl; clear hS; obtain ⟨s168, hle169, hS, h170⟩ := hF
 replace h101 := Ev.mono RS.mono hle169 h101
 refine finG (fn := Tryz.f117) (rs := [.cell 8 43]) (vs := [_]) hE rfl ⟨⟨_, rfl, .inl ⟨_, rfl, hS.seesAt 2 rfl, ty43⟩⟩, trivial⟩ ?_
 obtain rfl := Option.some.inj hr
 replace hS := hS.dropAt 2
 exact ⟨_, a99, c100, q98.length, cs103, s168, rfl, (Sg.Le.trans (Sg.Le.trans hle78 hle90) hle169), (RFareCond.fold ⟨_, _, rfl, h170⟩), h101, rfl, hS⟩
set_option maxHeartbeats 8000000 in
theorem Fishref2Parserwhole_1_v2_ok {fu : Nat}  {self_Fishref2Parserunit_v1 : Fishref2Parser → Option (FareCond × (List ByteArray) × Bool)} (ih_Fishref2Parserunit_v1 : ∀ {w : World} {s : Sg} {R : List HP} {pb0 : Nat} {y0 : Fishref2Parser} {a_v0 : Option Addr} {c_v0 n_v0 : Nat} {cs_v0 : List Value} (_hS : St w s (pc pb0 #[.slice a_v0 n_v0 c_v0, .bool y0.bad] 141 :: vecC 9 1 a_v0 c_v0 n_v0 cs_v0 :: R)) (_hTab : TabX s) (_h_v0 : Ev 1 RS s cs_v0 y0.l) (_hn_v0 : y0.l.length = n_v0) {r : FareCond × (List ByteArray) × Bool} (_hr : self_Fishref2Parserunit_v1 y0 = some r), Calls Tryz.prog 119 [pp pb0].toArray w (fun e w => ∃ (cs0 : List Value) (a60 : Option Addr) (c61 : Nat) (n63 : Nat) (cs64 : List Value) (t : Sg), e = .returned (.agg cs0.toArray) ∧ s.Le t ∧ RFareCond t cs0 r.1 ∧ Ev 1 RS t cs64 r.2.1 ∧ r.2.1.length = n63 ∧ St w t (pc pb0 #[.slice a60 n63 c61, .bool r.2.2] 141 :: vecC 9 1 a60 c61 n63 cs64 :: R))) {w : World} {s : Sg} {R : List HP} {pb0 : Nat} {pb1 : Nat} {y1 : Fishref2Parser} {a_v0 : Option Addr} {c_v0 n_v0 : Nat} {cs_v0 : List Value} (hS : St w s (pc pb0 #[pp pb1] 139 :: pc pb1 #[.slice a_v0 n_v0 c_v0, .bool y1.bad] 141 :: vecC 9 1 a_v0 c_v0 n_v0 cs_v0 :: R)) (hTab : TabX s) (h_v0 : Ev 1 RS s cs_v0 y1.l) (hn_v0 : y1.l.length = n_v0) {r : FareCond × (List ByteArray) × Bool} (hr : Fishref2Parserwhole_1_v2 fu self_Fishref2Parserunit_v1 y1 = some r) :
  Calls Tryz.prog 118 [pp pb0].toArray w (fun e w => ∃ (cs0 : List Value) (a60 : Option Addr) (c61 : Nat) (n63 : Nat) (cs64 : List Value) (t : Sg), e = .returned (.agg cs0.toArray) ∧ s.Le t ∧ RFareCond t cs0 r.1 ∧ Ev 1 RS t cs64 r.2.1 ∧ r.2.1.length = n63 ∧ St w t (pc pb0 #[pp pb1] 139 :: pc pb1 #[.slice a60 n63 c61, .bool r.2.2] 141 :: vecC 9 1 a60 c61 n63 cs64 :: R)) := by
 refine enter Tryz.func118 rfl rfl rfl fun a hE => ?_
 rw [Fishref2Parserwhole_1_v2] at hr
 subst hn_v0
 refine W.seq (W.region ?_)
 refine WL.alloc hE hS (runs_plain rfl) zr43 rfl ?_; clear hE hS a w; intro b67 a w hE hS
 refine WL.nil ?_
 refine W.seq (W.region (vP hS hE (Gives.loadB hE 1 rfl rfl rfl ty139) rfl fun a hE => ?_))
 refine vP hS hE (Gives.loadB hE 1 rfl rfl rfl ty139) rfl fun a hE => ?_
 refine vP hS hE (Gives.mkmeth hE (vs := [pp pb1]) rfl) rfl fun a hE => ?_
 obtain ⟨q68, hq69, hr⟩ := bindS hr
 replace hS := hS.front 3 rfl
 replace hS := hS.front 3 rfl
 have hc_ := Fishref2Parserjoined_v4_ok (y0 := y1) @ih_Fishref2Parserunit_v1 hS (TabG.mono (Sg.Le.refl _) hTab) h_v0 (rfl) hq69
 refine WL.fnq hE (hc_) (runs_plain rfl) bd117 rfl rfl rfl ?_
 clear hE hS hc_; rintro e w ⟨cs70, a72, c73, n74, cs75, s77, rfl, hle78, h71, h76, rfl, hS⟩; refine ⟨_, rfl, ?_⟩; clear a; intro a hE
 replace h_v0 := Ev.mono RS.mono hle78 h_v0
 obtain ⟨a79, c80, rfl, h81⟩ := h71.unf
 refine WL.storeI hE hS 2 rfl [vi q68.1.Kind, vi q68.1.A, vi q68.1.B, .slice a79 q68.1.Kids.length c80] (runs_plain rfl) rfl rfl rfl ty43 rfl rfl rfl rfl ?_; clear hE hS a w; intro a w hE hS
 refine WL.nil ?_
 refine W.ret ?_
 refine finG (fn := Tryz.f118) (rs := [.cell 1 43]) (vs := [_]) hE rfl ⟨⟨_, rfl, .inl ⟨_, rfl, hS.seesAt 2 rfl, ty43⟩⟩, trivial⟩ ?_
 obtain rfl := Option.some.inj hr
 replace hS := hS.front 1 rfl
 replace hS := hS.front 1 rfl
 replace hS := hS.front 3 rfl
 replace hS := hS.dropAt 3
 exact ⟨_, a72, c73, q68.2.1.length, cs75, s77, rfl, hle78, (RFareCond.fold ⟨_, _, rfl, h81⟩), h76, rfl, hS⟩
set_option maxHeartbeats 8000000 in
theorem Fishref2Parserjoined_v3_ok {fu : Nat}  {self_Fishref2Parserunit_v1 : Fishref2Parser → Option (FareCond × (List ByteArray) × Bool)} (ih_Fishref2Parserunit_v1 : ∀ {w : World} {s : Sg} {R : List HP} {pb0 : Nat} {y0 : Fishref2Parser} {a_v0 : Option Addr} {c_v0 n_v0 : Nat} {cs_v0 : List Value} (_hS : St w s (pc pb0 #[.slice a_v0 n_v0 c_v0, .bool y0.bad] 141 :: vecC 9 1 a_v0 c_v0 n_v0 cs_v0 :: R)) (_hTab : TabX s) (_h_v0 : Ev 1 RS s cs_v0 y0.l) (_hn_v0 : y0.l.length = n_v0) {r : FareCond × (List ByteArray) × Bool} (_hr : self_Fishref2Parserunit_v1 y0 = some r), Calls Tryz.prog 119 [pp pb0].toArray w (fun e w => ∃ (cs0 : List Value) (a60 : Option Addr) (c61 : Nat) (n63 : Nat) (cs64 : List Value) (t : Sg), e = .returned (.agg cs0.toArray) ∧ s.Le t ∧ RFareCond t cs0 r.1 ∧ Ev 1 RS t cs64 r.2.1 ∧ r.2.1.length = n63 ∧ St w t (pc pb0 #[.slice a60 n63 c61, .bool r.2.2] 141 :: vecC 9 1 a60 c61 n63 cs64 :: R))) {w : World} {s : Sg} {R : List HP} {pb0 : Nat} {pb1 : Nat} {x1 : Int} {x2 : ByteArray} {y0 : Fishref2Parser} {a_v0 : Option Addr} {c_v0 n_v0 : Nat} {cs_v0 : List Value} (hS : St w s (pc pb0 #[.slice a_v0 n_v0 c_v0, .bool y0.bad] 141 :: pc pb1 #[pp pb0] 139 :: vecC 9 1 a_v0 c_v0 n_v0 cs_v0 :: R)) (hTab : TabX s) (h_v0 : Ev 1 RS s cs_v0 y0.l) (hn_v0 : y0.l.length = n_v0) {r : FareCond × (List ByteArray) × Bool} (hr : Fishref2Parserjoined_v3 fu self_Fishref2Parserunit_v1 x1 x2 y0 = some r) :
  Calls Tryz.prog 117 [pp pb0, vi x1, .string x2, .func (.func 118) #[] #[pp pb1]].toArray w (fun e w => ∃ (cs0 : List Value) (a60 : Option Addr) (c61 : Nat) (n63 : Nat) (cs64 : List Value) (t : Sg), e = .returned (.agg cs0.toArray) ∧ s.Le t ∧ RFareCond t cs0 r.1 ∧ Ev 1 RS t cs64 r.2.1 ∧ r.2.1.length = n63 ∧ St w t (pc pb0 #[.slice a60 n63 c61, .bool r.2.2] 141 :: pc pb1 #[pp pb0] 139 :: vecC 9 1 a60 c61 n63 cs64 :: R)) := by
 refine enter Tryz.func117 rfl rfl rfl fun a hE => ?_
 rw [Fishref2Parserjoined_v3] at hr
 subst hn_v0
 refine W.seq (W.region ?_)
 refine WL.alloc hE hS (runs_plain rfl) zr43 rfl ?_; clear hE hS a w; intro b67 a w hE hS
 refine WL.nil ?_
 refine W.seq (W.region (vp hS hE rfl rfl fun a hE => ?_))
 obtain ⟨q68, hq69, hr⟩ := bindS hr
 replace hS := hS.front 3 rfl
 replace hS := hS.front 2 rfl
 replace hS := hS.front 3 rfl
 have hc_ := Fishref2Parserwhole_1_v2_ok (y1 := y0) @ih_Fishref2Parserunit_v1 hS (TabG.mono (Sg.Le.refl _) hTab) h_v0 (rfl) hq69
 refine WL.fnw hE (hc_) rfl (runs_plain rfl) bd118 rfl rfl rfl ?_
 clear hE hS hc_; rintro e w ⟨cs70, a72, c73, n74, cs75, s77, rfl, hle78, h71, h76, rfl, hS⟩; refine ⟨_, rfl, ?_⟩; clear a; intro a hE
 replace h_v0 := Ev.mono RS.mono hle78 h_v0
 obtain ⟨a79, c80, rfl, h81⟩ := h71.unf
 refine WL.lit hE hS (e := 43) (es := 4) (vs := [(0, .agg (List.toArray [vi q68.1.Kind, vi q68.1.A, vi q68.1.B, .slice a79 q68.1.Kids.length c80]))]) (cs := [vi q68.1.Kind, vi q68.1.A, vi q68.1.B, .slice a79 q68.1.Kids.length c80]) (runs_plain rfl) rfl (by kernel_rfl) rfl ?_; clear hE hS a w; intro b82 a w hE hS
 replace hS := hS.ptVec (es := 4) (m := 1) rfl (by decide)
 have h84 : Ev 4 RFareCond s77 [vi q68.1.Kind, vi q68.1.A, vi q68.1.B, .slice a79 q68.1.Kids.length c80] [q68.1] := (Ev.cons (c1 := [vi q68.1.Kind, vi q68.1.A, vi q68.1.B, .slice a79 q68.1.Kids.length c80]) (RFareCond.fold ⟨_, _, rfl, h81⟩) rfl (Ev.nil))
 refine vp hS hE rfl rfl fun a hE => WL.nil ?_
 refine W.seq ?_
 obtain ⟨q86, hq85, hr⟩ := bindS hr
 refine W.cut (fun a w => ∃ (q91 : List FareCond), ∃ (q98 : List ByteArray), ∃ (q105 : Bool), ∃ (a92 : Option Addr), ∃ (c93 : Nat), ∃ (n95 : Nat), ∃ (cs96 : List Value), ∃ (a99 : Option Addr), ∃ (c100 : Nat), ∃ (n102 : Nat), ∃ (cs103 : List Value), ∃ (s89 : Sg), s77.Le s89 ∧ (q91, q98, q105) = q86 ∧ Ev 4 RFareCond s89 cs96 q91 ∧ q91.length = n95 ∧ Ev 1 RS s89 cs103 q98 ∧ q98.length = n102 ∧ Rep a 52 [(1, vi x1), (8, pp b67), (9, .slice a92 n95 c93)] ∧ St w s89 (vecC 43 4 a92 c93 n95 cs96 :: pc pb1 #[pp pb0] 139 :: pc pb0 #[.slice a99 n102 c100, .bool q105] 141 :: vecC 9 1 a99 c100 n102 cs103 :: pc b67 #[vi 0, vi 0, vi 0, .slice none 0 0] 43 :: R)) ?_ ?_
 ·refine W.block ?_
  refine W.loop (fun m a w => ∃ (n87 : Nat), ∃ (q91 : List FareCond), ∃ (q98 : List ByteArray), ∃ (q105 : Bool), ∃ (a92 : Option Addr), ∃ (c93 : Nat), ∃ (n95 : Nat), ∃ (cs96 : List Value), ∃ (a99 : Option Addr), ∃ (c100 : Nat), ∃ (n102 : Nat), ∃ (cs103 : List Value), ∃ (s89 : Sg), n87 = m ∧ s77.Le s89 ∧ Fishref2Parserjoined_v3.loop1 x2 fu self_Fishref2Parserunit_v1 n87 q91 q98 q105 = some q86 ∧ Ev 4 RFareCond s89 cs96 q91 ∧ q91.length = n95 ∧ Ev 1 RS s89 cs103 q98 ∧ q98.length = n102 ∧ Rep a 52 [(0, pp pb0), (1, vi x1), (2, .string x2), (3, .func (.func 118) #[] #[pp pb1]), (8, pp b67), (9, .slice a92 n95 c93)] ∧ St w s89 (vecC 43 4 a92 c93 n95 cs96 :: pc pb1 #[pp pb0] 139 :: pc pb0 #[.slice a99 n102 c100, .bool q105] 141 :: vecC 9 1 a99 c100 n102 cs103 :: pc b67 #[vi 0, vi 0, vi 0, .slice none 0 0] 43 :: R)) (m := fu) ⟨fu, [q68.1], q68.2.1, q68.2.2, (some ⟨b82, 0, none⟩), 1, 1, [vi q68.1.Kind, vi q68.1.A, vi q68.1.B, .slice a79 q68.1.Kids.length c80], a72, c73, q68.2.1.length, cs75, s77, rfl, (Sg.Le.refl _), hq85, h84, (rfl), h76, rfl, hE.pick _ ⟨rfl, rfl, rfl, rfl, rfl, rfl, trivial⟩, hS⟩ ?_
  clear hE hS a w hq85; rintro m88 a w ⟨n87, q91, q98, q105, a92, c93, n95, cs96, a99, c100, n102, cs103, s89, rfl, hle90, hq85, h94, rfl, h101, rfl, hE, hS⟩
  refine W.gen fun K106 hK106 => ?_
  replace h81 := Sl.mono RFareCond.mono hle90 h81
  replace h84 := Ev.mono RFareCond.mono hle90 h84
  replace h76 := Ev.mono RS.mono hle90 h76
  rcases n87 with _ | n87
  ·rw [Fishref2Parserjoined_v3.loop1] at hq85; exact absurd hq85 (by simp)
  rw [Fishref2Parserjoined_v3.loop1] at hq85
  refine W.seq ?_
  refine W.seq ?_
  obtain ⟨q108, hq107, hq85⟩ := bindS hq85
  refine W.cut (fun a w => ∃ (q111 : Bool), q111 = q108 ∧ Rep a 52 [(0, pp pb0), (1, vi x1), (2, .string x2), (3, .func (.func 118) #[] #[pp pb1]), (8, pp b67), (9, .slice a92 q91.length c93), (35, .bool q111)] ∧ St w s89 (vecC 43 4 a92 c93 q91.length cs96 :: pc pb1 #[pp pb0] 139 :: pc pb0 #[.slice a99 q98.length c100, .bool q105] 141 :: vecC 9 1 a99 c100 q98.length cs103 :: pc b67 #[vi 0, vi 0, vi 0, .slice none 0 0] 43 :: R)) ?_ ?_
  ·refine W.gen fun K112 hK112 => ?_
   refine W.region ?_
   refine vp hS hE rfl rfl fun a hE => ?_
   refine vP hS hE (Gives.nilOk hE rfl) rfl fun a hE => ?_
   refine vP hS hE (Gives.fld hE rfl fl141_1) rfl fun a hE => ?_
   refine vP hS hE (Gives.loadB hE 2 rfl rfl rfl ty4) rfl fun a hE => ?_
   refine v2 hS hE rfl rfl rfl rfl fun a hE => ?_
   rcases Bool.eq_false_or_eq_true !q105 with hg113 | hg113
   ·replace hq107 := iteT hg113 hq107
    refine WL.vS hS hE (runs_if hE rfl rfl rfl hg113) (Gives.p hE rfl) rfl fun a hE => ?_
    refine WL.vS hS hE (runs_if hE rfl rfl rfl hg113) (Gives.nilOk hE rfl) rfl fun a hE => ?_
    refine WL.vS hS hE (runs_if hE rfl rfl rfl hg113) (Gives.fld hE rfl fl141_0) rfl fun a hE => ?_
    refine WL.vS hS hE (runs_if hE rfl rfl rfl hg113) (Gives.loadB hE 2 rfl rfl rfl ty59) rfl fun a hE => ?_
    refine WL.vS hS hE (runs_if hE rfl rfl rfl hg113) (Gives.len hE rfl sl59) rfl fun a hE => ?_
    refine WL.vS hS hE (runs_if hE rfl rfl rfl hg113) (Gives.p hE rfl) rfl fun a hE => ?_
    refine vP hS hE (Gives.pickT hE rfl hg113 rfl) rfl fun a hE => ?_
    refine vp hS hE rfl rfl fun a hE => ?_
    rcases Bool.eq_false_or_eq_true (decide (((q98.length : Nat) : Int) > 0)) with hg114 | hg114
    ·replace hq107 := iteT hg114 hq107
     refine WL.vS hS hE (runs_if hE rfl rfl rfl hg114) (Gives.p hE rfl) rfl fun a hE => ?_
     refine WL.vS hS hE (runs_if hE rfl rfl rfl hg114) (Gives.nilOk hE rfl) rfl fun a hE => ?_
     refine WL.vS hS hE (runs_if hE rfl rfl rfl hg114) (Gives.fld hE rfl fl141_0) rfl fun a hE => ?_
     refine WL.vS hS hE (runs_if hE rfl rfl rfl hg114) (Gives.loadB hE 2 rfl rfl rfl ty59) rfl fun a hE => ?_
     obtain ⟨x115, hx116, hq107⟩ := bindS hq107
     obtain ⟨hi117, hlt118, hy119⟩ := gx_some hx116
     obtain ⟨vs120, hl121, hR122, hd123, hget124⟩ := h101.at hy119
     subst hR122
     refine WL.vS hS hE (runs_if hE rfl rfl rfl hg114) (Gives.idx hE (((0 : Int)).toNat) rfl rfl sl59 hi117 (by omega) (hS.vecAok 3 rfl (by omega : ((0 : Int)).toNat < q98.length))) rfl fun a hE => ?_
     refine WL.vS hS hE (runs_if hE rfl rfl rfl hg114) (Gives.load1 hE rfl (fun w h => St.vecSees h 3 rfl (((0 : Int)).toNat * 1) _ hget124) ty9) rfl fun a hE => ?_
     refine WL.vS hS hE (runs_if hE rfl rfl rfl hg114) (Gives.p hE rfl) rfl fun a hE => ?_
     refine WL.vS hS hE (runs_if hE rfl rfl rfl hg114) (Gives.eqSt hE rfl rfl) rfl fun a hE => ?_
     refine vP hS hE (Gives.pickT hE rfl hg114 rfl) rfl fun a hE => WL.nil ?_
     subst hK112
     exact ⟨(seq x115 x2), Option.some.inj hq107, hE.pick _ ⟨rfl, rfl, rfl, rfl, rfl, rfl, rfl, trivial⟩, hS⟩
    replace hq107 := iteF hg114 hq107
    refine nO hE rfl rfl rfl (by rw [hg114]; decide) rfl fun a hE => ?_
    refine nO hE rfl rfl rfl (by rw [hg114]; decide) rfl fun a hE => ?_
    refine nO hE rfl rfl rfl (by rw [hg114]; decide) rfl fun a hE => ?_
    refine nO hE rfl rfl rfl (by rw [hg114]; decide) rfl fun a hE => ?_
    refine nO hE rfl rfl rfl (by rw [hg114]; decide) rfl fun a hE => ?_
    refine nO hE rfl rfl rfl (by rw [hg114]; decide) rfl fun a hE => ?_
    refine nO hE rfl rfl rfl (by rw [hg114]; decide) rfl fun a hE => ?_
    refine nO hE rfl rfl rfl (by rw [hg114]; decide) rfl fun a hE => ?_
    refine vP hS hE (Gives.pickF hE rfl hg114 rfl) rfl fun a hE => WL.nil ?_
    subst hK112
    exact ⟨false, Option.some.inj hq107, hE.pick _ ⟨rfl, rfl, rfl, rfl, rfl, rfl, rfl, trivial⟩, hS⟩
   replace hq107 := iteF hg113 hq107
   refine nO hE rfl rfl rfl (by rw [hg113]; decide) rfl fun a hE => ?_
   refine nO hE rfl rfl rfl (by rw [hg113]; decide) rfl fun a hE => ?_
   refine nO hE rfl rfl rfl (by rw [hg113]; decide) rfl fun a hE => ?_
   refine nO hE rfl rfl rfl (by rw [hg113]; decide) rfl fun a hE => ?_
   refine nO hE rfl rfl rfl (by rw [hg113]; decide) rfl fun a hE => ?_
   refine nO hE rfl rfl rfl (by rw [hg113]; decide) rfl fun a hE => ?_
   refine vP hS hE (Gives.pickF hE rfl hg113 rfl) rfl fun a hE => ?_
   refine vp hS hE rfl rfl fun a hE => ?_
   refine nO hE rfl rfl rfl (by decide) rfl fun a hE => ?_
   refine nO hE rfl rfl rfl (by decide) rfl fun a hE => ?_
   refine nO hE rfl rfl rfl (by decide) rfl fun a hE => ?_
   refine nO hE rfl rfl rfl (by decide) rfl fun a hE => ?_
   refine nO hE rfl rfl rfl (by decide) rfl fun a hE => ?_
   refine nO hE rfl rfl rfl (by decide) rfl fun a hE => ?_
   refine nO hE rfl rfl rfl (by decide) rfl fun a hE => ?_
   refine nO hE rfl rfl rfl (by decide) rfl fun a hE => ?_
   refine vP hS hE (Gives.pickF hE rfl rfl rfl) rfl fun a hE => WL.nil ?_
   subst hK112
   exact ⟨false, Option.some.inj hq107, hE.pick _ ⟨rfl, rfl, rfl, rfl, rfl, rfl, rfl, trivial⟩, hS⟩
  clear hE hS a w; rintro a w ⟨q111, rfl, hE, hS⟩
  refine W.cond hE rfl (fun hc125 => ?_) (fun hc125 => ?_)
  ·replace hq85 := iteT hc125 hq85
   refine W.skip ?_
   refine W.block ?_
   refine W.seq (W.region (vp hS hE rfl rfl fun a hE => ?_))
   obtain ⟨q126, hq127, hq85⟩ := bindS hq85
   replace hS := hS.front 3 rfl
   replace hS := hS.front 3 rfl
   have hc_ := Fishref2Parsernext_v1_ok (y0 := (Fishref2Parser.mk q98 q105)) hS h101 rfl hq127
   refine WL.fnq hE (hc_) (runs_plain rfl) bd131 rfl rfl rfl ?_
   clear hE hS hc_; rintro e w ⟨a128, c129, n130, cs131, rfl, h132, rfl, hS⟩; refine ⟨_, rfl, ?_⟩; clear a; intro a hE
   refine WL.nil ?_
   refine W.region ?_
   refine v2 hS hE rfl rfl rfl rfl fun a hE => ?_
   obtain ⟨q133, hq134, hq85⟩ := bindS hq85
   replace hS := hS.front 1 rfl
   replace hS := hS.front 1 rfl
   replace hS := hS.front 3 rfl
   have hc_ := Fishref2Parserwhole_1_v2_ok (y1 := (Fishref2Parser.mk q126.2.1 q126.2.2)) @ih_Fishref2Parserunit_v1 hS (TabG.mono (Sg.Le.trans hle78 hle90) hTab) h132 rfl hq134
   refine WL.fnw hE (hc_) rfl (runs_plain rfl) bd118 rfl rfl rfl ?_
   clear hE hS hc_; rintro e w ⟨cs135, a137, c138, n139, cs140, s142, rfl, hle143, h136, h141, rfl, hS⟩; refine ⟨_, rfl, ?_⟩; clear a; intro a hE
   replace h132 := Ev.mono RS.mono hle143 h132
   replace h94 := Ev.mono RFareCond.mono hle143 h94
   obtain ⟨a144, c145, rfl, h146⟩ := h136.unf
   refine WL.lit hE hS (e := 43) (es := 4) (vs := [(0, .agg (List.toArray [vi q133.1.Kind, vi q133.1.A, vi q133.1.B, .slice a144 q133.1.Kids.length c145]))]) (cs := [vi q133.1.Kind, vi q133.1.A, vi q133.1.B, .slice a144 q133.1.Kids.length c145]) (runs_plain rfl) rfl (by kernel_rfl) rfl ?_; clear hE hS a w; intro b147 a w hE hS
   obtain ⟨x148, hx149, hq85⟩ := bindS hq85
   refine WL.appD hE hS 3 (m := 1) (runs_plain rfl) rfl rfl rfl ap41 rfl h94 rfl (xs := [q133.1]) (Ev.cons (c1 := [vi q133.1.Kind, vi q133.1.A, vi q133.1.B, .slice a144 q133.1.Kids.length c145]) (RFareCond.fold ⟨_, _, rfl, h146⟩) rfl (Ev.nil)) rfl rfl hx149 rfl ?_; clear hE hS a w; intro a150 c151 cs152 a w h153 hE hS
   refine vp hS hE rfl rfl fun a hE => WL.nil ?_
   replace hS := hS.front 4 rfl
   replace hS := hS.front 3 rfl
   replace hS := hS.front 3 rfl
   replace hS := hS.front 3 rfl
   replace hS := hS.front 4 rfl
   subst hK106
   exact ⟨n87, Nat.lt_succ_self _, n87, x148, q133.2.1, q133.2.2, a150, c151, x148.length, cs152, a137, c138, q133.2.1.length, cs140, s142, rfl, (Sg.Le.trans hle90 hle143), hq85, h153, (rfl), h141, rfl, hE.pick _ ⟨rfl, rfl, rfl, rfl, rfl, rfl, trivial⟩, hS⟩
  replace hq85 := iteF hc125 hq85
  subst hK106
  refine W.exit rfl ?_
  exact ⟨q91, q98, q105, a92, c93, q91.length, cs96, a99, c100, q98.length, cs103, s89, hle90, Option.some.inj hq85, h94, rfl, h101, rfl, hE.pick _ ⟨rfl, rfl, rfl, trivial⟩, hS⟩
 clear hE hS a w; rintro a w ⟨q91, q98, q105, a92, c93, n95, cs96, a99, c100, n102, cs103, s89, hle90, rfl, h94, rfl, h101, rfl, hE, hS⟩
 dsimp only at hr
 replace h81 := Sl.mono RFareCond.mono hle90 h81
 replace h84 := Ev.mono RFareCond.mono hle90 h84
 replace h76 := Ev.mono RS.mono hle90 h76
 refine W.seq ?_
 refine W.seq (W.region (vp hS hE rfl rfl fun a hE => ?_))
 refine vP hS hE (Gives.len hE rfl sl41) rfl fun a hE => ?_
 refine vp hS hE rfl rfl fun a hE => WL.nil ?_
 refine W.cond hE rfl (fun hc154 => ?_) (fun hc154 => ?_)
 ·replace hr := iteT hc154 hr
  refine W.seq (W.region (vp hS hE rfl rfl fun a hE => ?_))
  obtain ⟨x155, hx156, hr⟩ := bindS hr
  obtain ⟨hi157, hlt158, hy159⟩ := gx_some hx156
  obtain ⟨vs160, hl161, hR162, hd163, hget164⟩ := h94.at hy159
  obtain ⟨a165, c166, rfl, h167⟩ := hR162.unf
  refine vP hS hE (Gives.idx hE (((0 : Int)).toNat) rfl rfl sl41 hi157 (by omega) (hS.vecAok 0 rfl (by omega : ((0 : Int)).toNat < q91.length))) rfl fun a hE => ?_
  refine vP hS hE (Gives.loadA hE rfl (fun w h => St.vecSees h 0 rfl (((0 : Int)).toNat * 4) _ hget164) ty43) rfl fun a hE => ?_
  refine WL.storeI hE hS 4 rfl [vi x155.Kind, vi x155.A, vi x155.B, .slice a165 x155.Kids.length c166] (runs_plain rfl) rfl rfl rfl ty43 rfl rfl rfl rfl ?_; clear hE hS a w; intro a w hE hS
  refine WL.nil ?_
  refine W.ret ?_
  refine finG (fn := Tryz.f117) (rs := [.cell 8 43]) (vs := [_]) hE rfl ⟨⟨_, rfl, .inl ⟨_, rfl, hS.seesAt 4 rfl, ty43⟩⟩, trivial⟩ ?_
  obtain rfl := Option.some.inj hr
  replace hS := hS.front 3 rfl
  replace hS := hS.front 2 rfl
  replace hS := hS.front 3 rfl
  replace hS := hS.dropAt 3
  replace hS := hS.dropAt 3
  exact ⟨_, a99, c100, q98.length, cs103, s89, rfl, (Sg.Le.trans hle78 hle90), (RFareCond.fold ⟨_, _, rfl, h167⟩), h101, rfl, hS⟩
 replace hr := iteF hc154 hr
 refine W.skip ?_
 refine W.seq (W.region (v2 hS hE rfl rfl rfl rfl fun a hE => ?_))
 refine vP hS hE (Gives.build hE (vs := [(0, vi x1), (3, .slice a92 q91.length c93)]) [vi x1, vi 0, vi 0, .slice a92 q91.length c93] rfl (by kernel_rfl)) rfl fun a hE => ?_
 refine WL.storeI hE hS 4 rfl [vi x1, vi 0, vi 0, .slice a92 q91.length c93] (runs_plain rfl) rfl rfl rfl ty43 rfl rfl rfl rfl ?_; clear hE hS a w; intro a w hE hS
 refine WL.nil ?_
 refine W.ret ?_
 have hF := hS.fixD RFareCond.mono 0 rfl h94 rfl; clear hS; obtain ⟨s168, hle169, hS, h170⟩ := hF
 replace h101 := Ev.mono RS.mono hle169 h101
 refine finG (fn := Tryz.f117) (rs := [.cell 8 43]) (vs := [_]) hE rfl ⟨⟨_, rfl, .inl ⟨_, rfl, hS.seesAt 3 rfl, ty43⟩⟩, trivial⟩ ?_
 obtain rfl := Option.some.inj hr
 replace hS := hS.front 2 rfl
 replace hS := hS.front 1 rfl
 replace hS := hS.front 2 rfl
 replace hS := hS.dropAt 3
 exact ⟨_, a99, c100, q98.length, cs103, s168, rfl, (Sg.Le.trans (Sg.Le.trans hle78 hle90) hle169), (RFareCond.fold ⟨_, _, rfl, h170⟩), h101, rfl, hS⟩
set_option maxHeartbeats 8000000 in
theorem Fishref2Parserwhole_v2_ok {fu : Nat}  {self_Fishref2Parserunit_v1 : Fishref2Parser → Option (FareCond × (List ByteArray) × Bool)} (ih_Fishref2Parserunit_v1 : ∀ {w : World} {s : Sg} {R : List HP} {pb0 : Nat} {y0 : Fishref2Parser} {a_v0 : Option Addr} {c_v0 n_v0 : Nat} {cs_v0 : List Value} (_hS : St w s (pc pb0 #[.slice a_v0 n_v0 c_v0, .bool y0.bad] 141 :: vecC 9 1 a_v0 c_v0 n_v0 cs_v0 :: R)) (_hTab : TabX s) (_h_v0 : Ev 1 RS s cs_v0 y0.l) (_hn_v0 : y0.l.length = n_v0) {r : FareCond × (List ByteArray) × Bool} (_hr : self_Fishref2Parserunit_v1 y0 = some r), Calls Tryz.prog 119 [pp pb0].toArray w (fun e w => ∃ (cs0 : List Value) (a60 : Option Addr) (c61 : Nat) (n63 : Nat) (cs64 : List Value) (t : Sg), e = .returned (.agg cs0.toArray) ∧ s.Le t ∧ RFareCond t cs0 r.1 ∧ Ev 1 RS t cs64 r.2.1 ∧ r.2.1.length = n63 ∧ St w t (pc pb0 #[.slice a60 n63 c61, .bool r.2.2] 141 :: vecC 9 1 a60 c61 n63 cs64 :: R))) {w : World} {s : Sg} {R : List HP} {pb0 : Nat} {y0 : Fishref2Parser} {a_v0 : Option Addr} {c_v0 n_v0 : Nat} {cs_v0 : List Value} (hS : St w s (pc pb0 #[.slice a_v0 n_v0 c_v0, .bool y0.bad] 141 :: vecC 9 1 a_v0 c_v0 n_v0 cs_v0 :: R)) (hTab : TabX s) (h_v0 : Ev 1 RS s cs_v0 y0.l) (hn_v0 : y0.l.length = n_v0) {r : FareCond × (List ByteArray) × Bool} (hr : Fishref2Parserwhole_v2 fu self_Fishref2Parserunit_v1 y0 = some r) :
  Calls Tryz.prog 96 [pp pb0].toArray w (fun e w => ∃ (cs0 : List Value) (a60 : Option Addr) (c61 : Nat) (n63 : Nat) (cs64 : List Value) (t : Sg), e = .returned (.agg cs0.toArray) ∧ s.Le t ∧ RFareCond t cs0 r.1 ∧ Ev 1 RS t cs64 r.2.1 ∧ r.2.1.length = n63 ∧ St w t (pc pb0 #[.slice a60 n63 c61, .bool r.2.2] 141 :: vecC 9 1 a60 c61 n63 cs64 :: R)) := by
 refine enter Tryz.func96 rfl rfl rfl fun a hE => ?_
 rw [Fishref2Parserwhole_v2] at hr
 subst hn_v0
 refine W.seq (W.region ?_)
 refine WL.box hE hS (runs_plain rfl) rfl rfl rfl ?_; clear hE hS a w; intro b67 a w hE hS
 refine WL.alloc hE hS (runs_plain rfl) zr43 rfl ?_; clear hE hS a w; intro b68 a w hE hS
 refine WL.nil ?_
 refine W.seq (W.region (vP hS hE (Gives.loadB hE 1 rfl rfl rfl ty139) rfl fun a hE => ?_))
 refine vP hS hE (Gives.mkfn hE (vs := [pp b67]) rfl) rfl fun a hE => ?_
 obtain ⟨q69, hq70, hr⟩ := bindS hr
 replace hS := hS.front 3 rfl
 replace hS := hS.front 2 rfl
 replace hS := hS.front 3 rfl
 have hc_ := Fishref2Parserjoined_v3_ok (y0 := y0) @ih_Fishref2Parserunit_v1 hS (TabG.mono (Sg.Le.refl _) hTab) h_v0 (rfl) hq70
 refine WL.fnq hE (hc_) (runs_plain rfl) bd117 rfl rfl rfl ?_
 clear hE hS hc_; rintro e w ⟨cs71, a73, c74, n75, cs76, s78, rfl, hle79, h72, h77, rfl, hS⟩; refine ⟨_, rfl, ?_⟩; clear a; intro a hE
 replace h_v0 := Ev.mono RS.mono hle79 h_v0
 obtain ⟨a80, c81, rfl, h82⟩ := h72.unf
 refine WL.storeI hE hS 3 rfl [vi q69.1.Kind, vi q69.1.A, vi q69.1.B, .slice a80 q69.1.Kids.length c81] (runs_plain rfl) rfl rfl rfl ty43 rfl rfl rfl rfl ?_; clear hE hS a w; intro a w hE hS
 refine WL.nil ?_
 refine W.ret ?_
 refine finG (fn := Tryz.f96) (rs := [.cell 2 43]) (vs := [_]) hE rfl ⟨⟨_, rfl, .inl ⟨_, rfl, hS.seesAt 3 rfl, ty43⟩⟩, trivial⟩ ?_
 obtain rfl := Option.some.inj hr
 replace hS := hS.dropAt 1
 replace hS := hS.dropAt 2
 exact ⟨_, a73, c74, q69.2.1.length, cs76, s78, rfl, hle79, (RFareCond.fold ⟨_, _, rfl, h82⟩), h77, rfl, hS⟩
end Go.Proofs.YtfdifpegldailaaGreatDoor
