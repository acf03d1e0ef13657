/- The walks of the functions that GuideProfiles reaches: each call comes to what its mirror says. The conditions are those of each contract. -/
import Derived.Test.YtpcebngchmgckaaDoorProg
import Derived.Test.YtpcebngchmgckaaDoorFpTight
import Derived.Test.YtpcebngchmgckaaDoorGuideProfilesM
import Derived.Test.YtpcebngchmgckaaDoorFpAllX
import Derived.Test.YtpcebngchmgckaaDoorGuideProfilesS
import Derived.Test.YtpcebngchmgckaaDoorFpMapS
import Derived.Test.YtpcebngchmgckaaDoorFpFld
import Derived.Test.YtpcebngchmgckaaDoorFpMapG
import Derived.Test.YtpcebngchmgckaaDoorFpMapV
import Derived.Test.YtpcebngchmgckaaDoorFpMaps
import Derived.Test.YtpcebngchmgckaaDoorFpOrd
import Derived.Test.YtpcebngchmgckaaDoorFpRf
import Derived.Test.YtpcebngchmgckaaDoorFpRng
import Derived.Test.YtpcebngchmgckaaDoorGuideProfilesW1
set_option maxRecDepth 10000
namespace Go.Proofs.YtpcebngchmgckaaDoor
open Go Go.Fp
set_option maxHeartbeats 8000000 in
theorem CmpOrint_ok  {w : World} {s : Sg} {R : List HP} {x0 : List Int} {a0 : Option Addr} {c0 : Nat} (hS : St w s (R)) (h0 : Sl 1 (RI .i64) s a0 c0 x0) {r : Int} (hr : CmpOrint x0 = r) :
  Calls Tryd.prog 53 [.slice a0 x0.length c0].toArray w (fun e w => e = .returned (vi r) ∧ St w s (R)) := by
 refine enter Tryd.func53 rfl rfl rfl fun a hE => ?_
 rw [CmpOrint] at hr
 refine W.seq (W.region (vp hS hE rfl rfl fun a hE => WL.nil ?_))
 refine W.seq (W.region (vp hS hE rfl rfl fun a hE => WL.nil ?_))
 refine W.seq ?_
 refine W.seq (W.region (vp hS hE rfl rfl fun a hE => ?_))
 refine vP hS hE (Gives.len hE rfl sl45) rfl fun a hE => ?_
 refine vp hS hE rfl rfl fun a hE => WL.nil ?_
 obtain ⟨q52, hq51, hr⟩ := bndS hr
 refine W.cut (fun a w => (.next ()) = q52 ∧ Rep a 18 [(3, vi 0)] ∧ St w s (R)) ?_ ?_
 ·refine W.block ?_
  refine W.loop (fun m a w => ∃ (rest55 : List Int) (k53 : Nat), rest55.length = m ∧ x0.drop k53 = rest55 ∧ CmpOrint.loop1 rest55 = q52 ∧ Rep a 18 [(3, vi 0), (6, .slice a0 x0.length c0), (7, vi ((x0).length : Int)), (8, vi ((k53 : Nat) : Int))] ∧ St w s (R)) (m := x0.length) ⟨x0, 0, rfl, rfl, hq51, hE.pick _ ⟨rfl, rfl, rfl, rfl, trivial⟩, hS⟩ ?_
  clear hE hS a w hq51; rintro m59 a w ⟨rest55, k53, rfl, hd56, hq51, hE, hS⟩
  refine W.gen fun K62 hK62 => ?_
  rcases rest55 with _ | ⟨x54, rest55⟩
  ·have hlt57 := drop_nil hd56
   refine W.seq (W.region (vp hS hE rfl rfl fun a hE => WL.nil ?_))
   refine W.seq ?_
   refine W.condF hE rfl (decide_eq_false (by omega)) ?_
   subst hK62
   refine W.exit rfl ?_
   exact ⟨hq51, hE.pick _ ⟨rfl, trivial⟩, hS⟩
  obtain ⟨hlt57, hx58, hd56⟩ := drop_cons hd56
  rw [CmpOrint.loop1] at hq51
  refine W.seq (W.region (vp hS hE rfl rfl fun a hE => WL.nil ?_))
  refine W.seq ?_
  refine W.condT hE rfl (decide_eq_true (by omega)) ?_
  refine W.skip ?_
  refine W.seq ?_
  refine W.block ?_
  refine W.seq (W.region ?_)
  obtain ⟨cs63, hl64, hR65, hat66⟩ := h0.at hx58
  subst hR65
  refine vP hS hE (Gives.idx hE k53 rfl rfl sl45 rfl hlt57 (h0.aok hlt57)) rfl fun a hE => ?_
  refine vP hS hE (Gives.load1 hE rfl (fun w h => hat66 w _ h) ty3) rfl fun a hE => ?_
  refine vp hS hE rfl rfl fun a hE => WL.nil ?_
  refine W.seq (W.region (v2 hS hE rfl rfl rfl rfl fun a hE => ?_))
  refine vp hS hE rfl rfl fun a hE => WL.nil ?_
  refine W.cond hE rfl (fun hc67 => ?_) (fun hc67 => ?_)
  ·replace hq51 := iteT hc67 hq51
   refine W.seq (W.region (v2 hS hE rfl rfl rfl rfl fun a hE => WL.nil ?_))
   refine W.ret ?_
   subst hK62
   rw [← hq51] at hr
   dsimp only at hr
   refine finG (fn := Tryd.f53) (rs := [.tmp 2]) (vs := [_]) hE rfl ⟨rfl, trivial⟩ ?_
   subst hr
   exact ⟨rfl, hS⟩
  replace hq51 := iteF hc67 hq51
  refine W.skip ?_
  refine W.region ?_
  refine vP hS hE (Gives.inc hE rfl (by have := h0.small; omega)) rfl fun a hE => ?_
  refine vp hS hE rfl rfl fun a hE => WL.nil ?_
  subst hK62
  exact ⟨rest55.length, Nat.lt_succ_self _, rest55, k53 + 1, rfl, hd56, hq51, hE.pick _ ⟨rfl, rfl, rfl, rfl, trivial⟩, hS⟩
 clear hE hS a w; rintro a w ⟨rfl, hE, hS⟩
 dsimp only at hr
 refine W.seq (W.region (v2 hS hE rfl rfl rfl rfl fun a hE => WL.nil ?_))
 refine W.ret ?_
 refine finG (fn := Tryd.f53) (rs := [.tmp 2]) (vs := [_]) hE rfl ⟨rfl, trivial⟩ ?_
 subst hr
 exact ⟨rfl, hS⟩
set_option maxHeartbeats 8000000 in
theorem GuidecomparePoints_ok  {w : World} {s : Sg} {R : List HP} {x0 : GuidePoint} {x1 : GuidePoint} (hS : St w s (R))  {r : Int} (hr : GuidecomparePoints x0 x1 = r) :
  Calls Tryd.prog 100 [.agg (GuidePoint.cells x0).toArray, .agg (GuidePoint.cells x1).toArray].toArray w (fun e w => e = .returned (vi r) ∧ St w s (R)) := by
 refine enter Tryd.func100 rfl rfl rfl fun a hE => ?_
 rw [GuidecomparePoints] at hr
 refine W.seq (W.region ?_)
 refine WL.box hE hS (runs_plain rfl) rfl rfl rfl ?_; clear hE hS a w; intro b51 a w hE hS
 refine WL.box hE hS (runs_plain rfl) rfl rfl rfl ?_; clear hE hS a w; intro b52 a w hE hS
 refine vp hS hE rfl rfl fun a hE => WL.nil ?_
 refine W.seq ?_
 refine W.gen fun K53 hK53 => ?_
 refine W.regionE (dup (fun w => St w s (pc b52 (GuidePoint.cells x1).toArray 62 :: pc b51 (GuidePoint.cells x0).toArray 62 :: R))) (fun b i => cond b ([0, 1, 2, 3, 4, 5, 6, 7, 8, 9, 10, 11, 12, 13, 14, 15, 16, 17].contains i) ([0, 1, 2, 3, 4, 5, 6, 7, 8, 9, 10, 11, 12, 13, 14, 15, 16, 17].contains i)) mixed ?_
 replace hS := hS.drew
 refine tP (i := 0) hE rfl (by kernel_rfl) (Gives.fld hE rfl fl62_0) rfl hS hS fun a hE => ?_
 refine tT (i := 1) true rfl hE rfl (by kernel_rfl) (Gives.loadB hE 1 rfl rfl rfl ty3) rfl hS hS fun a hE => ?_
 refine tP (i := 2) hE rfl (by kernel_rfl) (Gives.fld hE rfl fl62_0) rfl hS hS fun a hE => ?_
 refine tT (i := 3) true rfl hE rfl (by kernel_rfl) (Gives.loadB hE 0 rfl rfl rfl ty3) rfl hS hS fun a hE => ?_
 refine tP (i := 5) hE rfl (by kernel_rfl) (Gives.fld hE rfl fl62_1) rfl hS hS fun a hE => ?_
 refine tT (i := 6) true rfl hE rfl (by kernel_rfl) (Gives.loadB hE 1 rfl rfl rfl ty3) rfl hS hS fun a hE => ?_
 refine tP (i := 7) hE rfl (by kernel_rfl) (Gives.fld hE rfl fl62_1) rfl hS hS fun a hE => ?_
 refine tT (i := 8) true rfl hE rfl (by kernel_rfl) (Gives.loadB hE 0 rfl rfl rfl ty3) rfl hS hS fun a hE => ?_
 refine tP (i := 10) hE rfl (by kernel_rfl) (Gives.fld hE rfl fl62_2) rfl hS hS fun a hE => ?_
 refine tT (i := 11) true rfl hE rfl (by kernel_rfl) (Gives.loadB hE 1 rfl rfl rfl ty3) rfl hS hS fun a hE => ?_
 refine tP (i := 12) hE rfl (by kernel_rfl) (Gives.fld hE rfl fl62_2) rfl hS hS fun a hE => ?_
 refine tT (i := 13) true rfl hE rfl (by kernel_rfl) (Gives.loadB hE 0 rfl rfl rfl ty3) rfl hS hS fun a hE => ?_
 refine Rg.one (i := 4) true true rfl (by kernel_rfl) (by kernel_rfl) (by kernel_rfl) ?_
 refine WL.fnq hE (CmpCompareint_ok hS  rfl (r := CmpCompareint x0.Dep x1.Dep)) (runs_plain rfl) bd54 rfl rfl rfl ?_
 clear hE hS; rintro e w ⟨rfl, hS⟩; refine ⟨_, rfl, ?_⟩; clear a; intro a hE
 refine WL.nil ?_
 refine ⟨⟨fun _ => hS, fun _ => hS⟩, ?_⟩
 refine Rg.one (i := 9) true true rfl (by kernel_rfl) (by kernel_rfl) (by kernel_rfl) ?_
 refine WL.fnq hE (CmpCompareint_ok hS  rfl (r := CmpCompareint x0.Arr x1.Arr)) (runs_plain rfl) bd54 rfl rfl rfl ?_
 clear hE hS; rintro e w ⟨rfl, hS⟩; refine ⟨_, rfl, ?_⟩; clear a; intro a hE
 refine WL.nil ?_
 refine ⟨⟨fun _ => hS, fun _ => hS⟩, ?_⟩
 refine Rg.one (i := 14) true true rfl (by kernel_rfl) (by kernel_rfl) (by kernel_rfl) ?_
 refine WL.fnq hE (CmpCompareint_ok hS  rfl (r := CmpCompareint x0.Rides x1.Rides)) (runs_plain rfl) bd54 rfl rfl rfl ?_
 clear hE hS; rintro e w ⟨rfl, hS⟩; refine ⟨_, rfl, ?_⟩; clear a; intro a hE
 refine WL.nil ?_
 refine ⟨⟨fun _ => hS, fun _ => hS⟩, ?_⟩
 refine Rg.one (i := 15) true true rfl (by kernel_rfl) (by kernel_rfl) (by kernel_rfl) ?_
 refine WL.lit hE hS (e := 3) (es := 1) (vs := [(0, vi (CmpCompareint x0.Dep x1.Dep)), (1, vi (CmpCompareint x0.Arr x1.Arr)), (2, vi (CmpCompareint x0.Rides x1.Rides))]) (cs := [vi (CmpCompareint x0.Dep x1.Dep), vi (CmpCompareint x0.Arr x1.Arr), vi (CmpCompareint x0.Rides x1.Rides)]) (runs_plain rfl) rfl (by kernel_rfl) rfl ?_; clear hE hS a w; intro b54 a w hE hS
 replace hS := hS.ptVec (es := 1) (m := 3) rfl (by decide)
 have h56 : Ev 1 (RI .i64) s [vi (CmpCompareint x0.Dep x1.Dep), vi (CmpCompareint x0.Arr x1.Arr), vi (CmpCompareint x0.Rides x1.Rides)] [(CmpCompareint x0.Dep x1.Dep), (CmpCompareint x0.Arr x1.Arr), (CmpCompareint x0.Rides x1.Rides)] := (Ev.cons (c1 := [vi (CmpCompareint x0.Dep x1.Dep)]) rfl rfl (Ev.cons (c1 := [vi (CmpCompareint x0.Arr x1.Arr)]) rfl rfl (Ev.cons (c1 := [vi (CmpCompareint x0.Rides x1.Rides)]) rfl rfl (Ev.nil))))
 have hF := hS.fixD RI.mono 0 rfl h56 (rfl); clear hS; obtain ⟨s57, hle58, hS, h59⟩ := hF
 refine WL.nil ?_
 refine ⟨⟨fun _ => (St.down hle58 hS), fun _ => (St.down hle58 hS)⟩, ?_⟩
 refine Rg.one (i := 16) true true rfl (by kernel_rfl) (by kernel_rfl) (by kernel_rfl) ?_
 refine WL.fnq hE (CmpOrint_ok hS h59 rfl (r := CmpOrint [(CmpCompareint x0.Dep x1.Dep), (CmpCompareint x0.Arr x1.Arr), (CmpCompareint x0.Rides x1.Rides)])) (runs_plain rfl) bd53 rfl rfl rfl ?_
 clear hE hS; rintro e w ⟨rfl, hS⟩; refine ⟨_, rfl, ?_⟩; clear a; intro a hE
 refine WL.nil ?_
 refine ⟨⟨fun _ => (St.down hle58 hS), fun _ => (St.down hle58 hS)⟩, ?_⟩
 refine tP (i := 17) hE rfl (by kernel_rfl) (Gives.p hE rfl) rfl (St.down hle58 hS) (St.down hle58 hS) fun a hE => ?_
 refine Rg.done (by kernel_rfl) ?_
 subst hK53
 refine W.ret ?_
 refine finG (fn := Tryd.f100) (rs := [.tmp 4]) (vs := [_]) hE rfl ⟨rfl, trivial⟩ ?_
 subst hr
 replace hS := hS.tail
 replace hS := hS.tail
 exact ⟨rfl, (hS.down hle58)⟩
set_option maxHeartbeats 8000000 in
theorem GuideNetpoints_ok  {w : World} {s : Sg} {R : List HP} {x0 : GuideNet} {a0_0 : Option Addr} {c0_0 : Nat} {a0_1 : Option Addr} {c0_1 : Nat} {x1 : Int} {x2 : Int} (hS : St w s (R)) (h0_0 : Sl 4 RApiTrain s a0_0 c0_0 x0.Day.Trains) (h0_1 : Sl 1 (RL 1 (RI .i64)) s a0_1 c0_1 x0.Day.Turns) {r : (List GuidePoint)} (hr : GuideNetpoints x0 x1 x2 = some r) :
  Calls Tryd.prog 49 [.agg [.slice a0_0 x0.Day.Trains.length c0_0, .slice a0_1 x0.Day.Turns.length c0_1, vi x0.least].toArray, vi x1, vi x2].toArray w (fun e w => ∃ (a0 : Option Addr) (c0 n0 : Nat) (cs0 : List Value) (t : Sg), e = .returned (.slice a0 n0 c0) ∧ s.Le t ∧ Ev 3 RGuidePoint t cs0 r ∧ r.length = n0 ∧ St w t (vecC 62 3 a0 c0 n0 cs0 :: R)) := by
 refine enter Tryd.func49 rfl rfl rfl fun a hE => ?_
 rw [GuideNetpoints] at hr
 replace hr := same_some hr; unfold GuideNetpoints.o at hr
 refine W.seq (W.region ?_)
 refine WL.box hE hS (runs_plain rfl) rfl rfl rfl ?_; clear hE hS a w; intro b51 a w hE hS
 refine vp hS hE rfl rfl fun a hE => WL.nil ?_
 refine W.seq (W.region ?_)
 refine WL.mkMap (fk := keyI.f) (fv := In.cell) hE hS (runs_plain rfl) rfl ?_; clear hE hS a w; intro b52 a w hE hS
 replace hS := hS.msNew (Te := 47) (es := 3)
 refine WL.alloc hE hS (runs_plain rfl) zr156 rfl ?_; clear hE hS a w; intro b53 a w hE hS
 refine WL.storeI hE hS 0 rfl [.map (some b52)] (runs_plain rfl) rfl rfl rfl ty156 rfl rfl rfl rfl ?_; clear hE hS a w; intro a w hE hS
 refine WL.nil ?_
 refine W.seq ?_
 refine W.seq (W.region (vP hS hE (Gives.loadBA hE 2 rfl rfl ty94) rfl fun a hE => ?_))
 refine vp hS hE rfl rfl fun a hE => ?_
 obtain ⟨q54, hq55, hr⟩ := AllO.bnd hr
 have hc_ := GuideNetrides_ok hS h0_0 h0_1 hq55
 refine WL.fnq hE (hc_) (runs_plain rfl) bd72 rfl rfl rfl ?_
 clear hE hS hc_; rintro e w ⟨lb56, s58, rfl, hle59, h57, hS⟩; refine ⟨_, rfl, ?_⟩; clear a; intro a hE
 replace h0_0 := Sl.mono RApiTrain.mono hle59 h0_0
 replace h0_1 := Sl.mono (RL.mono RI.mono) hle59 h0_1
 refine WL.nil ?_
 refine W.block ?_
 obtain ⟨q61, hq60, hr⟩ := AllO.bind hr
 refine W.cut (fun a w => ∃ (q73 : List (Int × (List GuideRide))), ∃ (l74 : List (Int × In)), ∃ (D67 : Nat) (s71 : Sg), s58.Le s71 ∧ q73 = q61 ∧ MEv 3 RGuideRide s71 l74 q73 ∧ Rep a 96 [(2, vi x2), (3, pp b51), (7, pp b53), (4294967295, vi (D67 : Nat))] ∧ St w s71 (pt D67 (.deferred (some [])) :: pc b53 #[.map (some b52)] 156 :: mapSC keyI.f 47 3 b52 l74 :: pc b51 #[.slice a0_0 x0.Day.Trains.length c0_0, .slice a0_1 x0.Day.Turns.length c0_1, vi x0.least] 94 :: R)) ?_ ?_
 ·refine W.rangeFunc (l := q54) (ps := [22]) [] rfl hE rfl hS rfl h57 bd113 (fun _ => rfl) rfl (fun pre64 s71 Q_ => ∃ (rest63 : List GuideRide), ∃ (q73 : List (Int × (List GuideRide))), ∃ (l74 : List (Int × In)), q54 = pre64 ++ rest63 ∧ GuideNetpoints.loop1 x0 rest63 q73 = some q61 ∧ s58.Le s71 ∧ MEv 3 RGuideRide s71 l74 q73 ∧ Q_ = pc b53 #[.map (some b52)] 156 :: mapSC keyI.f 47 3 b52 l74 :: pc b51 #[.slice a0_0 x0.Day.Trains.length c0_0, .slice a0_1 x0.Day.Turns.length c0_1, vi x0.least] 94 :: R) (fun _ _ _ => False) (fun _ _ _ h => (by obtain ⟨rest63, q73, l74, _, _, hle_, _⟩ := h; exact hle_)) ⟨q54, [], ([] : List (Int × In)), rfl, hq60, Sg.Le.refl _, (show MEv 3 RGuideRide s ([] : List (Int × In)) ([] : List (Int × List GuideRide)) from trivial), rfl⟩ (fun x62 (b76 : Nat) => [(3, pp b51), (7, pp b53), (8, pp b76)]) (fun x62 (b76 : Nat) => [pc b76 (GuideRide.cells x62).toArray 47]) ?_ ?_ ?_ ?_
  ·intro x62 a w t70 R L68 hE hS
   refine W.region ?_
   refine WL.alloc hE hS (runs_plain rfl) zr47 rfl ?_; clear hE hS a w; intro b76 a w hE hS
   refine WL.storeI hE hS 0 rfl (GuideRide.cells x62) (runs_plain rfl) rfl rfl rfl ty47 rfl rfl rfl rfl ?_; clear hE hS a w; intro a w hE hS
   refine WL.nil ?_
   exact ⟨b76, hE.pick _ ⟨rfl, rfl, rfl, trivial⟩, hS⟩
  ·intro pre64 x62 b76 s71 Q_ T_ L68 a w hpre_ hI_ hE hS
   obtain ⟨rest63, q73, l74, hl65, hq60, hle72, h75, rfl⟩ := hI_
   obtain ⟨rest63, rfl⟩ := pre_next hl65 hpre_
   rw [GuideNetpoints.loop1] at hq60
   replace hS : St w s71 (pc b76 (GuideRide.cells x62).toArray 47 :: pc b53 #[.map (some b52)] 156 :: mapSC keyI.f 47 3 b52 l74 :: pc b51 #[.slice a0_0 x0.Day.Trains.length c0_0, .slice a0_1 x0.Day.Turns.length c0_1, vi x0.least] 94 :: (R ++ T_)) := hS
   generalize hT77 : R ++ T_ = R at hS
   refine W.gen fun K78 hK78 => ?_
   replace h0_0 := Sl.mono RApiTrain.mono hle72 h0_0
   replace h0_1 := Sl.mono (RL.mono RI.mono) hle72 h0_1
   replace h57 := Iter.mono hle72 h57
   refine W.block ?_
   refine W.gen fun K79 hK79 => ?_
   refine W.regionE (sel (fun w => St w s71 (pc b76 (GuideRide.cells x62).toArray 47 :: pc b53 #[.map (some b52)] 156 :: mapSC keyI.f 47 3 b52 l74 :: pc b51 #[.slice a0_0 x0.Day.Trains.length c0_0, .slice a0_1 x0.Day.Turns.length c0_1, vi x0.least] 94 :: R)) (fun w => St w s71 (pc b76 (GuideRide.cells x62).toArray 47 :: pc b53 #[.map (some b52)] 156 :: pc b51 #[.slice a0_0 x0.Day.Trains.length c0_0, .slice a0_1 x0.Day.Turns.length c0_1, vi x0.least] 94 :: R))) (fun b i => cond b ([0, 1, 2, 3, 4, 5, 6, 7, 8, 9, 10, 11, 12].contains i) ([0, 1, 2, 3, 4, 5, 6, 7, 8, 9, 10, 11, 12, 13, 14].contains i)) mixed ?_
   replace hS := hS.drew
   have hT := tw_sel (A := fun w => St w s71 _) (B := fun w => St w s71 _) (w := _) (x := true) (y := true) (fun _ => hS) (fun _ => (hS.dropAt 2))
   have hF := hS; replace hS := (hS.dropAt 2)
   refine Rg.take (i := 0) false rfl hE rfl (by kernel_rfl) (runs_plain rfl) (Gives.loadB hE 1 rfl rfl rfl ty156) rfl hT fun a hE => ?_
   replace hS := hF; clear hF hT
   have hT := tw_sel (A := fun w => St w s71 _) (B := fun w => St w s71 _) (w := _) (x := true) (y := true) (fun _ => hS) (fun _ => (hS.dropAt 2))
   have hF := hS; replace hS := (hS.dropAt 2)
   refine Rg.take (i := 1) false rfl hE rfl (by kernel_rfl) (runs_plain rfl) (Gives.loadBA hE 2 rfl rfl ty94) rfl hT fun a hE => ?_
   replace hS := hF; clear hF hT
   have hT := tw_sel (A := fun w => St w s71 _) (B := fun w => St w s71 _) (w := _) (x := true) (y := true) (fun _ => hS) (fun _ => (hS.dropAt 2))
   have hF := hS; replace hS := (hS.dropAt 2)
   refine Rg.take (i := 2) false rfl hE rfl (by kernel_rfl) (runs_plain rfl) (Gives.loadBA hE 0 rfl rfl ty47) rfl hT fun a hE => ?_
   replace hS := hF; clear hF hT
   have hT := tw_sel (A := fun w => St w s71 _) (B := fun w => St w s71 _) (w := _) (x := true) (y := true) (fun _ => hS) (fun _ => (hS.dropAt 2))
   have hF := hS; replace hS := (hS.dropAt 2)
   refine Rg.take (i := 5) false rfl hE rfl (by kernel_rfl) (runs_plain rfl) (Gives.loadB hE 1 rfl rfl rfl ty156) rfl hT fun a hE => ?_
   replace hS := hF; clear hF hT
   have hT := tw_sel (A := fun w => St w s71 _) (B := fun w => St w s71 _) (w := _) (x := true) (y := true) (fun _ => hS) (fun _ => (hS.dropAt 2))
   have hF := hS; replace hS := (hS.dropAt 2)
   refine Rg.take (i := 6) false rfl hE rfl (by kernel_rfl) (runs_plain rfl) (Gives.loadBA hE 2 rfl rfl ty94) rfl hT fun a hE => ?_
   replace hS := hF; clear hF hT
   have hT := tw_sel (A := fun w => St w s71 _) (B := fun w => St w s71 _) (w := _) (x := true) (y := true) (fun _ => hS) (fun _ => (hS.dropAt 2))
   have hF := hS; replace hS := (hS.dropAt 2)
   refine Rg.take (i := 7) false rfl hE rfl (by kernel_rfl) (runs_plain rfl) (Gives.loadBA hE 0 rfl rfl ty47) rfl hT fun a hE => ?_
   replace hS := hF; clear hF hT
   have hT := tw_sel (A := fun w => St w s71 _) (B := fun w => St w s71 _) (w := _) (x := true) (y := true) (fun _ => hS) (fun _ => (hS.dropAt 2))
   have hF := hS; replace hS := (hS.dropAt 2)
   refine Rg.take (i := 11) false rfl hE rfl (by kernel_rfl) (runs_plain rfl) (Gives.loadBA hE 0 rfl rfl ty47) rfl hT fun a hE => ?_
   replace hS := hF; clear hF hT
   obtain ⟨q80, hq81, hq60⟩ := bindS hq60
   obtain ⟨q86, hq87, hq60⟩ := bindS hq60
   obtain rfl := Option.some.inj (hq81.symm.trans hq87)
   obtain ⟨x92, hx93, hq60⟩ := bndS hq60
   obtain ⟨x101, hx102, hq60⟩ := bindS hq60
   suffices key : ∀ s90 a103 c104 cs105 (a : Act) (w : World), s71.Le s90 → MEv 3 RGuideRide s90 (mput l74 q80.Dep ⟨a103, c104, x101.length, cs105⟩) (mput q73 q80.Dep x101) → Sl 4 RApiTrain s90 a0_0 c0_0 x0.Day.Trains → Sl 1 (RL 1 (RI .i64)) s90 a0_1 c0_1 x0.Day.Turns → Rep a 96 [] → St w s90 (pc b76 (GuideRide.cells x62).toArray 47 :: pc b53 #[.map (some b52)] 156 :: mapSC keyI.f 47 3 b52 (mput l74 q80.Dep ⟨a103, c104, x101.length, cs105⟩) :: pc b51 #[.slice a0_0 x0.Day.Trains.length c0_0, .slice a0_1 x0.Day.Turns.length c0_1, vi x0.least] 94 :: R) → K79.nor a w by
    refine Rg.many 3 [12] (by kernel_rfl) ⟨?_, ?_, trivial⟩
    ·refine Br.mk (i := 3) true true rfl (by kernel_rfl) (by kernel_rfl) ?_
     have hc_ := GuideNeton_ok hS h0_0 h0_1 hq81
     refine WL.fnq hE (hc_) (runs_plain rfl) bd99 rfl rfl rfl ?_
     clear hE hS hc_; rintro e w ⟨cs82, s84, rfl, hle85, h83, hS⟩; refine ⟨_, rfl, ?_⟩; clear a; intro a hE
     replace h0_0 := Sl.mono RApiTrain.mono hle85 h0_0
     replace h0_1 := Sl.mono (RL.mono RI.mono) hle85 h0_1
     replace h75 := MEv.mono RGuideRide.mono hle85 h75
     subst h83
     refine WL.nil ?_
     refine ⟨⟨fun _ => (St.down hle85 hS), fun _ => (St.down hle85 (hS.dropAt 2))⟩, ?_⟩
     refine tP (i := 4) hE rfl (by kernel_rfl) (Gives.field1 hE rfl fd106_3 ty3 rfl) rfl (St.down hle85 hS) (St.down hle85 (hS.dropAt 2)) fun a hE => ?_
     refine Rg.many 8 [12] (by kernel_rfl) ⟨?_, ?_, trivial⟩
     ·refine Br.mk (i := 8) true true rfl (by kernel_rfl) (by kernel_rfl) ?_
      have hc_ := GuideNeton_ok hS h0_0 h0_1 hq87
      refine WL.fnq hE (hc_) (runs_plain rfl) bd99 rfl rfl rfl ?_
      clear hE hS hc_; rintro e w ⟨cs88, s90, rfl, hle91, h89, hS⟩; refine ⟨_, rfl, ?_⟩; clear a; intro a hE
      replace h0_0 := Sl.mono RApiTrain.mono hle91 h0_0
      replace h0_1 := Sl.mono (RL.mono RI.mono) hle91 h0_1
      replace h75 := MEv.mono RGuideRide.mono hle91 h75
      subst h89
      refine WL.nil ?_
      refine ⟨⟨fun _ => (St.down (Sg.Le.trans hle85 hle91) hS), fun _ => (St.down (Sg.Le.trans hle85 hle91) (hS.dropAt 2))⟩, ?_⟩
      refine tP (i := 9) hE rfl (by kernel_rfl) (Gives.field1 hE rfl fd106_3 ty3 rfl) rfl (St.down (Sg.Le.trans hle85 hle91) hS) (St.down (Sg.Le.trans hle85 hle91) (hS.dropAt 2)) fun a hE => ?_
      have hT := tw_sel (A := fun w => St w s71 _) (B := fun w => St w s71 _) (w := _) (x := true) (y := true) (fun _ => (St.down (Sg.Le.trans hle85 hle91) hS)) (fun _ => (St.down (Sg.Le.trans hle85 hle91) (hS.dropAt 2)))
      have hF := hS; replace hS := (St.down (Sg.Le.trans hle85 hle91) hS)
      obtain ⟨a94, c95, cs96, e97, hev98⟩ := MEv.at h75 q80.Dep
      rw [hx93] at e97 hev98
      refine Rg.take (i := 10) true rfl hE rfl (by kernel_rfl) (runs_plain rfl) (Gives.msGet keyI hE 2 (k := q80.Dep) rfl rfl rfl mp156 zs26 e97) rfl hT fun a hE => ?_
      replace hS := hF; clear hF hT
      refine Rg.one (i := 12) true true rfl (by kernel_rfl) (by kernel_rfl) (by kernel_rfl) ?_
      refine WL.lit hE hS (e := 47) (es := 3) (vs := [(0, .agg (GuideRide.cells x62).toArray)]) (cs := [vi x62.Train, vi x62.On, vi x62.Off]) (runs_plain rfl) rfl (by kernel_rfl) rfl ?_; clear hE hS a w; intro b99 a w hE hS
      refine WL.nil ?_
      refine ⟨⟨fun _ => (St.down (Sg.Le.trans hle85 hle91) (hS.tail)), fun _ => (St.down (Sg.Le.trans hle85 hle91) ((hS.tail).dropAt 2))⟩, ?_⟩
      refine Rg.one (i := 13) false true rfl (by kernel_rfl) (by kernel_rfl) (by kernel_rfl) ?_
      replace hS := hS.msOpen 3 rfl e97
      replace hS : St w s90 (vecC 47 3 a94 c95 x92.length cs96 :: pc b99 #[vi x62.Train, vi x62.On, vi x62.Off] 47 :: pc b76 (GuideRide.cells x62).toArray 47 :: pc b53 #[.map (some b52)] 156 :: mapSH keyI.f 47 3 b52 l74 q80.Dep :: pc b51 #[.slice a0_0 x0.Day.Trains.length c0_0, .slice a0_1 x0.Day.Turns.length c0_1, vi x0.least] 94 :: R) := hS
      replace hS := hS.front 1 rfl
      refine WL.appD hE hS 0 (m := 1) (runs_plain rfl) rfl rfl rfl ap26 rfl hev98 (rfl) (xs := [x62]) (Ev.cons (c1 := [vi x62.Train, vi x62.On, vi x62.Off]) rfl rfl (Ev.nil)) rfl rfl hx102 rfl ?_; clear hE hS a w; intro a103 c104 cs105 a w h106 hE hS
      refine WL.nil ?_
      refine ⟨⟨fun h => absurd h (by decide), fun _ => (St.down (Sg.Le.trans hle85 hle91) ((hS.tail).dropAt 2))⟩, ?_⟩
      refine Rg.one (i := 14) false true rfl (by kernel_rfl) (by kernel_rfl) (by kernel_rfl) ?_
      refine WL.msSet keyI hE hS 2 (k := q80.Dep) (.inl rfl) (runs_plain rfl) rfl rfl rfl rfl mp156 rfl ?_; clear hE hS a w; intro a w hE hS
      refine WL.nil ?_
      refine ⟨⟨fun h => absurd h (by decide), fun _ => (St.down (Sg.Le.trans hle85 hle91) (hS.dropAt 2))⟩, ?_⟩
      refine Rg.done (by kernel_rfl) ?_
      exact key _ _ _ _ _ _ (Sg.Le.trans hle85 hle91) (MEv.put h106 (rfl) h75 q80.Dep) h0_0 h0_1 (hE.pick _ trivial) hS
     refine Br.mk (i := 12) true true rfl (by kernel_rfl) (by kernel_rfl) ?_
     refine WL.lit hE hS (e := 47) (es := 3) (vs := [(0, .agg (GuideRide.cells x62).toArray)]) (cs := [vi x62.Train, vi x62.On, vi x62.Off]) (runs_plain rfl) rfl (by kernel_rfl) rfl ?_; clear hE hS a w; intro b99 a w hE hS
     refine WL.nil ?_
     refine ⟨⟨fun _ => (St.down hle85 (hS.tail)), fun _ => (St.down hle85 ((hS.tail).dropAt 2))⟩, ?_⟩
     refine Rg.one (i := 8) true true rfl (by kernel_rfl) (by kernel_rfl) (by kernel_rfl) ?_
     have hc_ := GuideNeton_ok hS h0_0 h0_1 hq87
     refine WL.fnq hE (hc_) (runs_plain rfl) bd99 rfl rfl rfl ?_
     clear hE hS hc_; rintro e w ⟨cs88, s90, rfl, hle91, h89, hS⟩; refine ⟨_, rfl, ?_⟩; clear a; intro a hE
     replace h0_0 := Sl.mono RApiTrain.mono hle91 h0_0
     replace h0_1 := Sl.mono (RL.mono RI.mono) hle91 h0_1
     replace h75 := MEv.mono RGuideRide.mono hle91 h75
     subst h89
     refine WL.nil ?_
     refine ⟨⟨fun _ => (St.down (Sg.Le.trans hle85 hle91) (hS.tail)), fun _ => (St.down (Sg.Le.trans hle85 hle91) ((hS.tail).dropAt 2))⟩, ?_⟩
     refine tP (i := 9) hE rfl (by kernel_rfl) (Gives.field1 hE rfl fd106_3 ty3 rfl) rfl (St.down (Sg.Le.trans hle85 hle91) (hS.tail)) (St.down (Sg.Le.trans hle85 hle91) ((hS.tail).dropAt 2)) fun a hE => ?_
     have hT := tw_sel (A := fun w => St w s71 _) (B := fun w => St w s71 _) (w := _) (x := true) (y := true) (fun _ => (St.down (Sg.Le.trans hle85 hle91) (hS.tail))) (fun _ => (St.down (Sg.Le.trans hle85 hle91) ((hS.tail).dropAt 2)))
     have hF := hS; replace hS := (St.down (Sg.Le.trans hle85 hle91) (hS.tail))
     obtain ⟨a94, c95, cs96, e97, hev98⟩ := MEv.at h75 q80.Dep
     rw [hx93] at e97 hev98
     refine Rg.take (i := 10) true rfl hE rfl (by kernel_rfl) (runs_plain rfl) (Gives.msGet keyI hE 2 (k := q80.Dep) rfl rfl rfl mp156 zs26 e97) rfl hT fun a hE => ?_
     replace hS := hF; clear hF hT
     refine Rg.one (i := 13) false true rfl (by kernel_rfl) (by kernel_rfl) (by kernel_rfl) ?_
     replace hS := hS.msOpen 3 rfl e97
     replace hS : St w s90 (vecC 47 3 a94 c95 x92.length cs96 :: pc b99 #[vi x62.Train, vi x62.On, vi x62.Off] 47 :: pc b76 (GuideRide.cells x62).toArray 47 :: pc b53 #[.map (some b52)] 156 :: mapSH keyI.f 47 3 b52 l74 q80.Dep :: pc b51 #[.slice a0_0 x0.Day.Trains.length c0_0, .slice a0_1 x0.Day.Turns.length c0_1, vi x0.least] 94 :: R) := hS
     replace hS := hS.front 1 rfl
     refine WL.appD hE hS 0 (m := 1) (runs_plain rfl) rfl rfl rfl ap26 rfl hev98 (rfl) (xs := [x62]) (Ev.cons (c1 := [vi x62.Train, vi x62.On, vi x62.Off]) rfl rfl (Ev.nil)) rfl rfl hx102 rfl ?_; clear hE hS a w; intro a103 c104 cs105 a w h106 hE hS
     refine WL.nil ?_
     refine ⟨⟨fun h => absurd h (by decide), fun _ => (St.down (Sg.Le.trans hle85 hle91) ((hS.tail).dropAt 2))⟩, ?_⟩
     refine Rg.one (i := 14) false true rfl (by kernel_rfl) (by kernel_rfl) (by kernel_rfl) ?_
     refine WL.msSet keyI hE hS 2 (k := q80.Dep) (.inl rfl) (runs_plain rfl) rfl rfl rfl rfl mp156 rfl ?_; clear hE hS a w; intro a w hE hS
     refine WL.nil ?_
     refine ⟨⟨fun h => absurd h (by decide), fun _ => (St.down (Sg.Le.trans hle85 hle91) (hS.dropAt 2))⟩, ?_⟩
     refine Rg.done (by kernel_rfl) ?_
     exact key _ _ _ _ _ _ (Sg.Le.trans hle85 hle91) (MEv.put h106 (rfl) h75 q80.Dep) h0_0 h0_1 (hE.pick _ trivial) hS
    refine Br.mk (i := 12) true true rfl (by kernel_rfl) (by kernel_rfl) ?_
    refine WL.lit hE hS (e := 47) (es := 3) (vs := [(0, .agg (GuideRide.cells x62).toArray)]) (cs := [vi x62.Train, vi x62.On, vi x62.Off]) (runs_plain rfl) rfl (by kernel_rfl) rfl ?_; clear hE hS a w; intro b99 a w hE hS
    refine WL.nil ?_
    refine ⟨⟨fun _ => (hS.tail), fun _ => ((hS.tail).dropAt 2)⟩, ?_⟩
    refine Rg.one (i := 3) true true rfl (by kernel_rfl) (by kernel_rfl) (by kernel_rfl) ?_
    have hc_ := GuideNeton_ok hS h0_0 h0_1 hq81
    refine WL.fnq hE (hc_) (runs_plain rfl) bd99 rfl rfl rfl ?_
    clear hE hS hc_; rintro e w ⟨cs82, s84, rfl, hle85, h83, hS⟩; refine ⟨_, rfl, ?_⟩; clear a; intro a hE
    replace h0_0 := Sl.mono RApiTrain.mono hle85 h0_0
    replace h0_1 := Sl.mono (RL.mono RI.mono) hle85 h0_1
    replace h75 := MEv.mono RGuideRide.mono hle85 h75
    subst h83
    refine WL.nil ?_
    refine ⟨⟨fun _ => (St.down hle85 (hS.tail)), fun _ => (St.down hle85 ((hS.tail).dropAt 2))⟩, ?_⟩
    refine tP (i := 4) hE rfl (by kernel_rfl) (Gives.field1 hE rfl fd106_3 ty3 rfl) rfl (St.down hle85 (hS.tail)) (St.down hle85 ((hS.tail).dropAt 2)) fun a hE => ?_
    refine Rg.one (i := 8) true true rfl (by kernel_rfl) (by kernel_rfl) (by kernel_rfl) ?_
    have hc_ := GuideNeton_ok hS h0_0 h0_1 hq87
    refine WL.fnq hE (hc_) (runs_plain rfl) bd99 rfl rfl rfl ?_
    clear hE hS hc_; rintro e w ⟨cs88, s90, rfl, hle91, h89, hS⟩; refine ⟨_, rfl, ?_⟩; clear a; intro a hE
    replace h0_0 := Sl.mono RApiTrain.mono hle91 h0_0
    replace h0_1 := Sl.mono (RL.mono RI.mono) hle91 h0_1
    replace h75 := MEv.mono RGuideRide.mono hle91 h75
    subst h89
    refine WL.nil ?_
    refine ⟨⟨fun _ => (St.down (Sg.Le.trans hle85 hle91) (hS.tail)), fun _ => (St.down (Sg.Le.trans hle85 hle91) ((hS.tail).dropAt 2))⟩, ?_⟩
    refine tP (i := 9) hE rfl (by kernel_rfl) (Gives.field1 hE rfl fd106_3 ty3 rfl) rfl (St.down (Sg.Le.trans hle85 hle91) (hS.tail)) (St.down (Sg.Le.trans hle85 hle91) ((hS.tail).dropAt 2)) fun a hE => ?_
    have hT := tw_sel (A := fun w => St w s71 _) (B := fun w => St w s71 _) (w := _) (x := true) (y := true) (fun _ => (St.down (Sg.Le.trans hle85 hle91) (hS.tail))) (fun _ => (St.down (Sg.Le.trans hle85 hle91) ((hS.tail).dropAt 2)))
    have hF := hS; replace hS := (St.down (Sg.Le.trans hle85 hle91) (hS.tail))
    obtain ⟨a94, c95, cs96, e97, hev98⟩ := MEv.at h75 q80.Dep
    rw [hx93] at e97 hev98
    refine Rg.take (i := 10) true rfl hE rfl (by kernel_rfl) (runs_plain rfl) (Gives.msGet keyI hE 2 (k := q80.Dep) rfl rfl rfl mp156 zs26 e97) rfl hT fun a hE => ?_
    replace hS := hF; clear hF hT
    refine Rg.one (i := 13) false true rfl (by kernel_rfl) (by kernel_rfl) (by kernel_rfl) ?_
    replace hS := hS.msOpen 3 rfl e97
    replace hS : St w s90 (vecC 47 3 a94 c95 x92.length cs96 :: pc b99 #[vi x62.Train, vi x62.On, vi x62.Off] 47 :: pc b76 (GuideRide.cells x62).toArray 47 :: pc b53 #[.map (some b52)] 156 :: mapSH keyI.f 47 3 b52 l74 q80.Dep :: pc b51 #[.slice a0_0 x0.Day.Trains.length c0_0, .slice a0_1 x0.Day.Turns.length c0_1, vi x0.least] 94 :: R) := hS
    replace hS := hS.front 1 rfl
    refine WL.appD hE hS 0 (m := 1) (runs_plain rfl) rfl rfl rfl ap26 rfl hev98 (rfl) (xs := [x62]) (Ev.cons (c1 := [vi x62.Train, vi x62.On, vi x62.Off]) rfl rfl (Ev.nil)) rfl rfl hx102 rfl ?_; clear hE hS a w; intro a103 c104 cs105 a w h106 hE hS
    refine WL.nil ?_
    refine ⟨⟨fun h => absurd h (by decide), fun _ => (St.down (Sg.Le.trans hle85 hle91) ((hS.tail).dropAt 2))⟩, ?_⟩
    refine Rg.one (i := 14) false true rfl (by kernel_rfl) (by kernel_rfl) (by kernel_rfl) ?_
    refine WL.msSet keyI hE hS 2 (k := q80.Dep) (.inl rfl) (runs_plain rfl) rfl rfl rfl rfl mp156 rfl ?_; clear hE hS a w; intro a w hE hS
    refine WL.nil ?_
    refine ⟨⟨fun h => absurd h (by decide), fun _ => (St.down (Sg.Le.trans hle85 hle91) (hS.dropAt 2))⟩, ?_⟩
    refine Rg.done (by kernel_rfl) ?_
    exact key _ _ _ _ _ _ (Sg.Le.trans hle85 hle91) (MEv.put h106 (rfl) h75 q80.Dep) h0_0 h0_1 (hE.pick _ trivial) hS
   clear hE hS a w; intro s90 a103 c104 cs105 a w hle108 h107 h0_0 h0_1 hE hS
   subst hK79
   replace hS := hS.tail
   subst hK78
   subst hT77
   exact ⟨s90, _, ⟨rest63, (mput q73 q80.Dep x101), (mput l74 q80.Dep ⟨a103, c104, x101.length, cs105⟩), hl65.trans (by simp), hq60, (Sg.Le.trans hle72 hle108), h107, rfl⟩, hS⟩
  ·intro s71 Q_ D67 a w hI_ hE hS
   obtain ⟨rest63, q73, l74, hl65, hq60, hle72, h75, rfl⟩ := hI_
   obtain rfl := pre_end hl65
   rw [GuideNetpoints.loop1] at hq60
   exact ⟨q73, _, D67, s71, hle72, Option.some.inj hq60, h75, hE.pick _ ⟨rfl, rfl, rfl, rfl, trivial⟩, hS⟩
  exact fun _ _ _ _ _ _ _ h => h.elim
 clear hE hS a w; rintro a w ⟨q73, l74, D67, s71, hle72, rfl, h75, hE, hS⟩
 replace h0_0 := Sl.mono RApiTrain.mono hle72 h0_0
 replace h0_1 := Sl.mono (RL.mono RI.mono) hle72 h0_1
 replace h57 := Iter.mono hle72 h57
 refine W.seq (W.region ?_)
 refine WL.mkMap (fk := keyGuidePoint.f) (fv := Value.bool) hE hS (runs_plain rfl) rfl ?_; clear hE hS a w; intro b109 a w hE hS
 refine vp hS hE rfl rfl fun a hE => WL.nil ?_
 refine W.seq (W.region ?_)
 replace hS := hS.vecNil 62 3
 refine vp hS hE rfl rfl fun a hE => WL.nil ?_
 refine W.seq ?_
 refine W.seq (W.region (vP hS hE (Gives.loadB hE 3 rfl rfl rfl ty156) rfl fun a hE => ?_))
 have hF := hS.msFix RGuideRide.mono 4 rfl h75; clear hS; obtain ⟨s113, hle114, hS, h115⟩ := hF
 replace h0_0 := Sl.mono RApiTrain.mono hle114 h0_0
 replace h0_1 := Sl.mono (RL.mono RI.mono) hle114 h0_1
 refine WL.rangeI hE hS 4 rfl rfl um156 (runs_plain rfl) rfl ?_; clear hE hS a w; intro r112 a w hE hS
 refine WL.nil ?_
 obtain ⟨Q118, hO116, hr⟩ := AllO.bindP hr
 refine W.cut (fun a w => ∃ (q132 : List GuidePoint), ∃ (q139 : List (GuidePoint × Bool)), ∃ (a133 : Option Addr), ∃ (c134 : Nat), ∃ (n136 : Nat), ∃ (cs137 : List Value), ∃ (s120 : Sg), s113.Le s120 ∧ Q118 (q132, q139) ∧ Ev 3 RGuidePoint s120 cs137 q132 ∧ q132.length = n136 ∧ Rep a 96 [(10, .slice a133 n136 c134), (4294967295, vi (D67 : Nat))] ∧ St w s120 (vecC 62 3 a133 c134 n136 cs137 :: mapC keyGuidePoint.f Value.bool b109 q139 :: pt D67 (.deferred (some [])) :: pc b53 #[.map (some b52)] 156 :: mapC keyI.f In.cell b52 l74 :: pc b51 #[.slice a0_0 x0.Day.Trains.length c0_0, .slice a0_1 x0.Day.Turns.length c0_1, vi x0.least] 94 :: R)) ?_ ?_
 ·unfold GuideNetpoints.loop2 at hO116
  refine W.block ?_
  refine W.loop (fun m a w => ∃ (rest122 : List (Int × (List GuideRide))) (ix123 : List Nat) (nn124 : Nat), ∃ (q132 : List GuidePoint), ∃ (q139 : List (GuidePoint × Bool)), ∃ (a133 : Option Addr), ∃ (c134 : Nat), ∃ (n136 : Nat), ∃ (cs137 : List Value), ∃ (s120 : Sg), rest122.length = m ∧ rest122.Perm (remI ix123 q73) ∧ rest122.length ≤ nn124 ∧ s113.Le s120 ∧ AllO (rngO (fun x st => GuideNetpoints.loop2.step x0 x2 x.1 x.2 st.1 st.2) nn124 rest122 (q132, q139)) Q118 ∧ Ev 3 RGuidePoint s120 cs137 q132 ∧ q132.length = n136 ∧ Rep a 96 [(2, vi x2), (3, pp b51), (9, .map (some b109)), (10, .slice a133 n136 c134), (39, pp r112), (4294967295, vi (D67 : Nat))] ∧ St w s120 (vecC 62 3 a133 c134 n136 cs137 :: mapC keyGuidePoint.f Value.bool b109 q139 :: pt D67 (.deferred (some [])) :: pc b53 #[.map (some b52)] 156 :: iterI keyI.f In.cell b52 r112 l74 ix123 :: pc b51 #[.slice a0_0 x0.Day.Trains.length c0_0, .slice a0_1 x0.Day.Turns.length c0_1, vi x0.least] 94 :: R)) (m := (q73).length) ⟨q73, [], (q73).length, [], [], none, 0, 0, [], s113, rfl, by rw [remI_nil], Nat.le_refl _, (Sg.Le.refl _), hO116, (Ev.nil), (rfl), hE.pick _ ⟨rfl, rfl, rfl, rfl, rfl, rfl, trivial⟩, hS⟩ ?_
  clear hE hS a w hO116; rintro m119 a w ⟨rest122, ix123, nn124, q132, q139, a133, c134, n136, cs137, s120, rfl, hp125, hn126, hle121, hO116, h135, rfl, hE, hS⟩
  refine W.gen fun K140 hK140 => ?_
  replace h115 := MSl.mono RGuideRide.mono hle121 h115
  replace h0_0 := Sl.mono RApiTrain.mono hle121 h0_0
  replace h0_1 := Sl.mono (RL.mono RI.mono) hle121 h0_1
  refine W.seq (W.region ?_)
  refine WL.nextI hE hS 4 rfl rfl (runs_plain rfl) rfl ?_ ?_
  ·intro hall149; clear hE a; intro a hE
   replace hall149 := fun j hj => hall149 j (by rw [MSl.len h115]; exact hj)
   have hz151 := hp125; rw [remI_end hall149] at hz151; obtain rfl := hz151.eq_nil; replace hO116 := rngO_end hO116
   refine vp hS hE rfl rfl fun a hE => WL.nil ?_
   refine W.seq ?_
   refine W.condF hE rfl rfl ?_
   subst hK140
   refine W.exit rfl ?_
   replace hS := hS.iDone 4 rfl
   exact ⟨q132, q139, a133, c134, q132.length, cs137, s120, hle121, hO116, h135, rfl, hE.pick _ ⟨rfl, rfl, trivial⟩, hS⟩
  clear hE hS a w; intro j129 x128 a w hp130 hn131 hE hS
  obtain ⟨k127, a152, c153, n154, cs155⟩ := x128
  obtain ⟨x128, hy150, h156, hn157⟩ := MSl.at h115 hp130; dsimp only at hy150 h156 hn157; subst hn157
  obtain ⟨nn144, rest145, Q142, hp146, hn147, hlt148, hO141, hQ143⟩ := rngO_step hn126 (hp125.trans (remI_next hy150 hn131)) hO116
  (try dsimp only at hO141); unfold GuideNetpoints.loop2.step at hO141
  refine vp hS hE rfl rfl fun a hE => WL.nil ?_
  refine W.seq ?_
  refine W.condT hE rfl rfl ?_
  refine W.skip ?_
  refine W.block ?_
  refine W.seq (W.region (vP hS hE (show Gives _ _ _ _ (Value.tuple #[vi k127, .slice a152 x128.length c153]) from Gives.entryI (fk := keyI.f) (fv := In.cell) hE 4 (p := (k127, (⟨a152, c153, x128.length, cs155⟩ : In))) rfl hp130 rfl) rfl fun a hE => ?_))
  refine v2 hS hE rfl rfl rfl rfl fun a hE => ?_
  refine v2 hS hE rfl rfl rfl rfl fun a hE => WL.nil ?_
  refine W.seq (W.region (vP hS hE (Gives.loadBA hE 5 rfl rfl ty94) rfl fun a hE => ?_))
  refine vp hS hE rfl rfl fun a hE => ?_
  obtain ⟨q159, hq160, hO141⟩ := AllO.bind hO141
  have hc_ := GuideNetends_ok hS h0_0 h0_1 h156 hq160
  refine WL.fnq hE (hc_) (runs_plain rfl) bd70 rfl rfl rfl ?_
  clear hE hS hc_; rintro e w ⟨bs161, s164, rfl, hle165, h162, hS⟩; refine ⟨_, rfl, ?_⟩; clear a; intro a hE
  replace h156 := Sl.mono RGuideRide.mono hle165 h156
  replace h0_0 := Sl.mono RApiTrain.mono hle165 h0_0
  replace h0_1 := Sl.mono (RL.mono RI.mono) hle165 h0_1
  replace h135 := Ev.mono RGuidePoint.mono hle165 h135
  replace h115 := MSl.mono RGuideRide.mono hle165 h115
  refine vp hS hE rfl rfl fun a hE => WL.nil ?_
  obtain ⟨Q168, hO166, hO141⟩ := AllO.bindP hO141
  refine W.cut (fun a w => ∃ (q182 : List GuidePoint), ∃ (q189 : List (GuidePoint × Bool)), ∃ (a183 : Option Addr), ∃ (c184 : Nat), ∃ (n186 : Nat), ∃ (cs187 : List Value), Q168 (q182, q189) ∧ Ev 3 RGuidePoint s164 cs187 q182 ∧ q182.length = n186 ∧ Rep a 96 [(2, vi x2), (3, pp b51), (9, .map (some b109)), (10, .slice a183 n186 c184), (39, pp r112), (4294967295, vi (D67 : Nat))] ∧ St w s164 (mapsV keyGuidePlace.f Value.bool bs161 q159 :: vecC 62 3 a183 c184 n186 cs187 :: mapC keyGuidePoint.f Value.bool b109 q189 :: pt D67 (.deferred (some [])) :: pc b53 #[.map (some b52)] 156 :: iterI keyI.f In.cell b52 r112 l74 (ix123 ++ [j129]) :: pc b51 #[.slice a0_0 x0.Day.Trains.length c0_0, .slice a0_1 x0.Day.Turns.length c0_1, vi x0.least] 94 :: R)) ?_ ?_
  ·unfold GuideNetpoints.loop3 at hO166
   refine W.block ?_
   refine W.loop (fun m a w => ∃ (rest172 : Nat) (k177 : Nat), ∃ (q182 : List GuidePoint), ∃ (q189 : List (GuidePoint × Bool)), ∃ (a183 : Option Addr), ∃ (c184 : Nat), ∃ (n186 : Nat), ∃ (cs187 : List Value), rest172 = m ∧ k177 + rest172 = 4 ∧ AllO (cntO (fun x st => GuideNetpoints.loop3.step x0 x2 k127 q159 x st.1 st.2) rest172 k177 (q182, q189)) Q168 ∧ Ev 3 RGuidePoint s164 cs187 q182 ∧ q182.length = n186 ∧ Rep a 96 [(2, vi x2), (3, pp b51), (9, .map (some b109)), (10, .slice a183 n186 c184), (11, vi k127), (39, pp r112), (47, .agg (mcells 4 bs161).toArray), (48, vi ((k177 : Nat) : Int)), (4294967295, vi (D67 : Nat))] ∧ St w s164 (mapsV keyGuidePlace.f Value.bool bs161 q159 :: vecC 62 3 a183 c184 n186 cs187 :: mapC keyGuidePoint.f Value.bool b109 q189 :: pt D67 (.deferred (some [])) :: pc b53 #[.map (some b52)] 156 :: iterI keyI.f In.cell b52 r112 l74 (ix123 ++ [j129]) :: pc b51 #[.slice a0_0 x0.Day.Trains.length c0_0, .slice a0_1 x0.Day.Turns.length c0_1, vi x0.least] 94 :: R)) (m := 4) ⟨4, 0, q132, q139, a133, c134, q132.length, cs137, rfl, by omega, hO166, h135, rfl, hE.pick _ ⟨rfl, rfl, rfl, rfl, rfl, rfl, rfl, rfl, rfl, trivial⟩, hS⟩ ?_
   clear hE hS a w hO166; rintro m169 a w ⟨rest172, k177, q182, q189, a183, c184, n186, cs187, rfl, hp175, hO166, h185, rfl, hE, hS⟩
   refine W.gen fun K190 hK190 => ?_
   rcases rest172 with _ | rest172
   ·replace hO166 := cntO_end hO166
    refine W.seq (W.region (vp hS hE rfl rfl fun a hE => WL.nil ?_))
    refine W.seq ?_
    refine W.condF hE rfl (decide_eq_false (by omega)) ?_
    subst hK190
    refine W.exit rfl ?_
    exact ⟨q182, q189, a183, c184, q182.length, cs187, hO166, h185, rfl, hE.pick _ ⟨rfl, rfl, rfl, rfl, rfl, rfl, trivial⟩, hS⟩
   have hlt198 : k177 < 4 := by omega
   obtain ⟨Q192, hO191, hQ193⟩ := cntO_step hO166
   (try dsimp only at hO191); unfold GuideNetpoints.loop3.step at hO191
   refine W.seq (W.region (vp hS hE rfl rfl fun a hE => WL.nil ?_))
   refine W.seq ?_
   refine W.condT hE rfl (decide_eq_true (by omega)) ?_
   refine W.skip ?_
   refine W.seq ?_
   refine W.block ?_
   refine W.seq (W.region (vp hS hE rfl rfl fun a hE => ?_))
   obtain ⟨x199, hx200, hO191⟩ := AllO.bind hO191
   obtain ⟨hi201, hlt202, hy203⟩ := gx_some hx200
   obtain ⟨b204, hb205⟩ := hS.mapsAt 0 rfl hy203
   refine vP hS hE (show Gives _ _ _ _ (Value.map (some b204)) from Gives.indexMi hE (f := fun b => Value.map (some b)) (l := bs161) ar119 rfl rfl (mcells_all h162) h162 hi201 hb205) rfl fun a hE => ?_
   refine v2 hS hE rfl rfl rfl rfl fun a hE => WL.nil ?_
   refine W.seq (W.region (vp hS hE rfl rfl fun a hE => ?_))
   replace hS := hS.mapsTake 0 rfl hy203 hb205
   refine WL.rangeI hE hS 0 rfl rfl um118 (runs_plain rfl) rfl ?_; clear hE hS a w; intro r207 a w hE hS
   refine WL.nil ?_
   obtain ⟨Q210, hO208, hO191⟩ := AllO.bindP hO191
   refine W.cut (fun a w => ∃ (q224 : List GuidePoint), ∃ (q231 : List (GuidePoint × Bool)), ∃ (a225 : Option Addr), ∃ (c226 : Nat), ∃ (n228 : Nat), ∃ (cs229 : List Value), Q210 (q224, q231) ∧ Ev 3 RGuidePoint s164 cs229 q224 ∧ q224.length = n228 ∧ Rep a 96 [(2, vi x2), (3, pp b51), (9, .map (some b109)), (10, .slice a225 n228 c226), (11, vi k127), (39, pp r112), (47, .agg (mcells 4 bs161).toArray), (48, vi ((k177 : Nat) : Int)), (4294967295, vi (D67 : Nat))] ∧ St w s164 (mapsV keyGuidePlace.f Value.bool bs161 q159 :: vecC 62 3 a225 c226 n228 cs229 :: mapC keyGuidePoint.f Value.bool b109 q231 :: pt D67 (.deferred (some [])) :: pc b53 #[.map (some b52)] 156 :: iterI keyI.f In.cell b52 r112 l74 (ix123 ++ [j129]) :: pc b51 #[.slice a0_0 x0.Day.Trains.length c0_0, .slice a0_1 x0.Day.Turns.length c0_1, vi x0.least] 94 :: R)) ?_ ?_
   ·unfold GuideNetpoints.loop4 at hO208
    refine W.block ?_
    refine W.loop (fun m a w => ∃ (rest214 : List (GuidePlace × Bool)) (ix215 : List Nat) (nn216 : Nat), ∃ (q224 : List GuidePoint), ∃ (q231 : List (GuidePoint × Bool)), ∃ (a225 : Option Addr), ∃ (c226 : Nat), ∃ (n228 : Nat), ∃ (cs229 : List Value), rest214.length = m ∧ rest214.Perm (remI ix215 x199) ∧ rest214.length ≤ nn216 ∧ AllO (rngO (fun x st => GuideNetpoints.loop4.step x0 x2 k127 k177 x.1 x.2 st.1 st.2) nn216 rest214 (q224, q231)) Q210 ∧ Ev 3 RGuidePoint s164 cs229 q224 ∧ q224.length = n228 ∧ Rep a 96 [(2, vi x2), (3, pp b51), (9, .map (some b109)), (10, .slice a225 n228 c226), (11, vi k127), (13, vi ((k177 : Nat) : Int)), (39, pp r112), (47, .agg (mcells 4 bs161).toArray), (48, vi ((k177 : Nat) : Int)), (53, pp r207), (4294967295, vi (D67 : Nat))] ∧ St w s164 (iterI keyGuidePlace.f Value.bool b204 r207 x199 ix215 :: mapsV keyGuidePlace.f Value.bool (List.eraseIdx bs161 ((((k177 : Nat) : Int)).toNat)) (List.eraseIdx q159 ((((k177 : Nat) : Int)).toNat)) :: vecC 62 3 a225 c226 n228 cs229 :: mapC keyGuidePoint.f Value.bool b109 q231 :: pt D67 (.deferred (some [])) :: pc b53 #[.map (some b52)] 156 :: iterI keyI.f In.cell b52 r112 l74 (ix123 ++ [j129]) :: pc b51 #[.slice a0_0 x0.Day.Trains.length c0_0, .slice a0_1 x0.Day.Turns.length c0_1, vi x0.least] 94 :: R)) (m := (x199).length) ⟨x199, [], (x199).length, q182, q189, a183, c184, q182.length, cs187, rfl, by rw [remI_nil], Nat.le_refl _, hO208, h185, rfl, hE.pick _ ⟨rfl, rfl, rfl, rfl, rfl, rfl, rfl, rfl, rfl, rfl, rfl, trivial⟩, hS⟩ ?_
    clear hE hS a w hO208; rintro m211 a w ⟨rest214, ix215, nn216, q224, q231, a225, c226, n228, cs229, rfl, hp217, hn218, hO208, h227, rfl, hE, hS⟩
    refine W.gen fun K232 hK232 => ?_
    refine W.seq (W.region ?_)
    refine WL.nextI hE hS 0 rfl rfl (runs_plain rfl) rfl ?_ ?_
    ·intro hall241; clear hE a; intro a hE
     have hz243 := hp217; rw [remI_end hall241] at hz243; obtain rfl := hz243.eq_nil; replace hO208 := rngO_end hO208
     refine vp hS hE rfl rfl fun a hE => WL.nil ?_
     refine W.seq ?_
     refine W.condF hE rfl rfl ?_
     subst hK232
     refine W.exit rfl ?_
     replace hS := hS.iDone 0 rfl
     replace hS := St.mapsBack hS hy203 hb205
     exact ⟨q224, q231, a225, c226, q224.length, cs229, hO208, h227, rfl, hE.pick _ ⟨rfl, rfl, rfl, rfl, rfl, rfl, rfl, rfl, rfl, trivial⟩, hS⟩
    clear hE hS a w; intro j221 x220 a w hp222 hn223 hE hS
    obtain ⟨k219, x220⟩ := x220
    have hy242 := hp222
    obtain ⟨nn236, rest237, Q234, hp238, hn239, hlt240, hO233, hQ235⟩ := rngO_step hn218 (hp217.trans (remI_next hy242 hn223)) hO208
    (try dsimp only at hO233); unfold GuideNetpoints.loop4.step at hO233
    refine vp hS hE rfl rfl fun a hE => WL.nil ?_
    refine W.seq ?_
    refine W.condT hE rfl rfl ?_
    refine W.skip ?_
    refine W.block ?_
    refine W.seq (W.region (vP hS hE (show Gives _ _ _ _ (Value.tuple #[.agg (GuidePlace.cells k219).toArray, .bool x220]) from Gives.entryI (fk := keyGuidePlace.f) (fv := Value.bool) hE 0 (p := (k219, x220)) rfl hp222 rfl) rfl fun a hE => ?_))
    refine vp hS hE rfl rfl fun a hE => ?_
    refine WL.alloc hE hS (runs_plain rfl) zr126 rfl ?_; clear hE hS a w; intro b244 a w hE hS
    refine WL.storeI hE hS 0 rfl (GuidePlace.cells k219) (runs_plain rfl) rfl rfl rfl ty126 rfl rfl rfl rfl ?_; clear hE hS a w; intro a w hE hS
    refine WL.nil ?_
    refine W.seq ?_
    refine W.gen fun K245 hK245 => ?_
    refine W.regionE (dup (fun w => St w s164 (pc b244 (GuidePlace.cells k219).toArray 126 :: iterI keyGuidePlace.f Value.bool b204 r207 x199 (ix215 ++ [j221]) :: mapsV keyGuidePlace.f Value.bool (List.eraseIdx bs161 ((((k177 : Nat) : Int)).toNat)) (List.eraseIdx q159 ((((k177 : Nat) : Int)).toNat)) :: vecC 62 3 a225 c226 q224.length cs229 :: mapC keyGuidePoint.f Value.bool b109 q231 :: pt D67 (.deferred (some [])) :: pc b53 #[.map (some b52)] 156 :: iterI keyI.f In.cell b52 r112 l74 (ix123 ++ [j129]) :: pc b51 #[.slice a0_0 x0.Day.Trains.length c0_0, .slice a0_1 x0.Day.Turns.length c0_1, vi x0.least] 94 :: R))) (fun b i => cond b ([0, 1, 2, 3, 4, 5, 6, 7, 8, 9, 10, 11, 12, 13].contains i) ([0, 1, 2, 3, 4, 5, 6, 7, 8, 9, 10, 11, 12, 13].contains i)) mixed ?_
    replace hS := hS.drew
    refine tP (i := 0) hE rfl (by kernel_rfl) (Gives.fld hE rfl fl94_0) rfl hS hS fun a hE => ?_
    refine tP (i := 1) hE rfl (by kernel_rfl) (Gives.fld hE rfl fl25_0) rfl hS hS fun a hE => ?_
    refine tT (i := 2) true rfl hE rfl (by kernel_rfl) (Gives.loadB hE 8 rfl rfl rfl ty22) rfl hS hS fun a hE => ?_
    refine tP (i := 3) hE rfl (by kernel_rfl) (Gives.fld hE rfl fl126_0) rfl hS hS fun a hE => ?_
    refine tT (i := 4) true rfl hE rfl (by kernel_rfl) (Gives.loadB hE 0 rfl rfl rfl ty3) rfl hS hS fun a hE => ?_
    obtain ⟨x246, hx247, hO233⟩ := AllO.bind hO233
    obtain ⟨hi248, hlt249, hy250⟩ := gx_some hx247
    obtain ⟨cs251, hl252, hR253, hat254⟩ := h0_0.at hy250
    obtain ⟨a255, c256, a258, c259, rfl, h257, h260⟩ := hR253
    refine tP (i := 5) hE rfl (by kernel_rfl) (Gives.idx hE (k219.train).toNat rfl rfl sl22 hi248 hlt249 (h0_0.aok hlt249)) rfl hS hS fun a hE => ?_
    refine tP (i := 6) hE rfl (by kernel_rfl) (Gives.fld hE rfl fl44_2) rfl hS hS fun a hE => ?_
    refine tT (i := 7) true rfl hE rfl (by kernel_rfl) (Gives.load1 hE rfl (fun w h => (hat254 w _ h).one rfl) ty42) rfl hS hS fun a hE => ?_
    refine tP (i := 8) hE rfl (by kernel_rfl) (Gives.fld hE rfl fl126_1) rfl hS hS fun a hE => ?_
    refine tT (i := 9) true rfl hE rfl (by kernel_rfl) (Gives.loadB hE 0 rfl rfl rfl ty3) rfl hS hS fun a hE => ?_
    obtain ⟨x261, hx262, hO233⟩ := AllO.bind hO233
    obtain ⟨hi263, hlt264, hy265⟩ := gx_some hx262
    obtain ⟨cs266, hl267, hR268, hat269⟩ := h257.at hy265
    subst hR268
    refine tP (i := 10) hE rfl (by kernel_rfl) (Gives.idx hE (k219.off).toNat rfl rfl sl42 hi263 hlt264 (h257.aok hlt264)) rfl hS hS fun a hE => ?_
    refine tT (i := 11) true rfl hE rfl (by kernel_rfl) (Gives.loadA hE rfl (fun w h => hat269 w _ h) ty106) rfl hS hS fun a hE => ?_
    refine Rg.one (i := 12) true true rfl (by kernel_rfl) (by kernel_rfl) (by kernel_rfl) ?_
    refine WL.alloc hE hS (runs_plain rfl) zr106 rfl ?_; clear hE hS a w; intro b270 a w hE hS
    refine WL.nil ?_
    refine ⟨⟨fun _ => (hS.tail), fun _ => (hS.tail)⟩, ?_⟩
    refine Rg.one (i := 13) true true rfl (by kernel_rfl) (by kernel_rfl) (by kernel_rfl) ?_
    refine WL.storeI hE hS 0 rfl (ApiStop.cells x261) (runs_plain rfl) rfl rfl rfl ty106 rfl rfl rfl rfl ?_; clear hE hS a w; intro a w hE hS
    refine WL.nil ?_
    refine ⟨⟨fun _ => (hS.tail), fun _ => (hS.tail)⟩, ?_⟩
    refine Rg.done (by kernel_rfl) ?_
    subst hK245
    refine W.seq (W.region (vp hS hE rfl rfl fun a hE => ?_))
    refine vP hS hE (Gives.fld hE rfl fl106_2) rfl fun a hE => ?_
    refine vP hS hE (Gives.loadB hE 0 rfl rfl rfl ty3) rfl fun a hE => ?_
    refine vp hS hE rfl rfl fun a hE => ?_
    refine vP hS hE (Gives.inc hE rfl (by omega)) rfl fun a hE => ?_
    refine vP hS hE (Gives.build hE (vs := [(0, vi k127), (1, vi x261.Arr), (2, vi ((k177 + 1 : Nat) : Int))]) [vi k127, vi x261.Arr, vi ((k177 + 1 : Nat) : Int)] rfl (by kernel_rfl)) rfl fun a hE => ?_
    refine WL.alloc hE hS (runs_plain rfl) zr62 rfl ?_; clear hE hS a w; intro b271 a w hE hS
    refine WL.storeI hE hS 0 rfl [vi k127, vi x261.Arr, vi ((k177 + 1 : Nat) : Int)] (runs_plain rfl) rfl rfl rfl ty62 rfl rfl rfl rfl ?_; clear hE hS a w; intro a w hE hS
    refine WL.nil ?_
    refine W.seq ?_
    obtain ⟨q273, hq272, hO233⟩ := AllO.bnd hO233
    refine W.cut (fun a w => ∃ (q276 : Bool), q276 = q273 ∧ Rep a 96 [(2, vi x2), (3, pp b51), (9, .map (some b109)), (10, .slice a225 q224.length c226), (11, vi k127), (13, vi ((k177 : Nat) : Int)), (17, pp b271), (39, pp r112), (47, .agg (mcells 4 bs161).toArray), (48, vi ((k177 : Nat) : Int)), (53, pp r207), (85, .bool q276), (4294967295, vi (D67 : Nat))] ∧ St w s164 (pc b271 #[vi k127, vi x261.Arr, vi ((k177 + 1 : Nat) : Int)] 62 :: pc b270 (ApiStop.cells x261).toArray 106 :: pc b244 (GuidePlace.cells k219).toArray 126 :: iterI keyGuidePlace.f Value.bool b204 r207 x199 (ix215 ++ [j221]) :: mapsV keyGuidePlace.f Value.bool (List.eraseIdx bs161 ((((k177 : Nat) : Int)).toNat)) (List.eraseIdx q159 ((((k177 : Nat) : Int)).toNat)) :: vecC 62 3 a225 c226 q224.length cs229 :: mapC keyGuidePoint.f Value.bool b109 q231 :: pt D67 (.deferred (some [])) :: pc b53 #[.map (some b52)] 156 :: iterI keyI.f In.cell b52 r112 l74 (ix123 ++ [j129]) :: pc b51 #[.slice a0_0 x0.Day.Trains.length c0_0, .slice a0_1 x0.Day.Turns.length c0_1, vi x0.least] 94 :: R)) ?_ ?_
    ·refine W.gen fun K277 hK277 => ?_
     refine W.region ?_
     refine vP hS hE (Gives.fld hE rfl fl106_0) rfl fun a hE => ?_
     refine vP hS hE (Gives.loadB hE 1 rfl rfl rfl ty3) rfl fun a hE => ?_
     refine v2 hS hE rfl rfl rfl rfl fun a hE => ?_
     refine vp hS hE rfl rfl fun a hE => ?_
     rcases Bool.eq_false_or_eq_true (x261.Station == x2) with hg278 | hg278
     ·replace hq272 := iteT hg278 hq272
      refine WL.vS hS hE (runs_if hE rfl rfl rfl hg278) (Gives.p hE rfl) rfl fun a hE => ?_
      refine WL.vS hS hE (runs_if hE rfl rfl rfl hg278) (Gives.loadBA hE 0 rfl rfl ty62) rfl fun a hE => ?_
      refine WL.vS hS hE (runs_if hE rfl rfl rfl hg278) (Gives.mapGetS keyGuidePoint hE 6 (k := (GuidePoint.mk k127 x261.Arr ((k177 + 1 : Nat) : Int))) (z := false) rfl rfl rfl mp157 zm4) rfl fun a hE => ?_
      refine WL.vS hS hE (runs_if hE rfl rfl rfl hg278) (Gives.p hE rfl) rfl fun a hE => ?_
      refine vP hS hE (Gives.pickT hE rfl hg278 rfl) rfl fun a hE => WL.nil ?_
      subst hK277
      exact ⟨!((mget q231 (GuidePoint.mk k127 x261.Arr ((k177 + 1 : Nat) : Int))).getD false), hq272, hE.pick _ ⟨rfl, rfl, rfl, rfl, rfl, rfl, rfl, rfl, rfl, rfl, rfl, rfl, rfl, trivial⟩, hS⟩
     replace hq272 := iteF hg278 hq272
     refine nO hE rfl rfl rfl (by rw [hg278]; decide) rfl fun a hE => ?_
     refine nO hE rfl rfl rfl (by rw [hg278]; decide) rfl fun a hE => ?_
     refine nO hE rfl rfl rfl (by rw [hg278]; decide) rfl fun a hE => ?_
     refine nO hE rfl rfl rfl (by rw [hg278]; decide) rfl fun a hE => ?_
     refine vP hS hE (Gives.pickF hE rfl hg278 rfl) rfl fun a hE => WL.nil ?_
     subst hK277
     exact ⟨false, hq272, hE.pick _ ⟨rfl, rfl, rfl, rfl, rfl, rfl, rfl, rfl, rfl, rfl, rfl, rfl, rfl, trivial⟩, hS⟩
    clear hE hS a w; rintro a w ⟨q276, rfl, hE, hS⟩
    obtain ⟨q280, hq279, hO233⟩ := AllO.bind hO233
    refine W.cut (fun a w => ∃ (q283 : List GuidePoint), ∃ (q290 : List (GuidePoint × Bool)), ∃ (a284 : Option Addr), ∃ (c285 : Nat), ∃ (n287 : Nat), ∃ (cs288 : List Value), (q283, q290) = q280 ∧ Ev 3 RGuidePoint s164 cs288 q283 ∧ q283.length = n287 ∧ Rep a 96 [(2, vi x2), (3, pp b51), (9, .map (some b109)), (10, .slice a284 n287 c285), (11, vi k127), (13, vi ((k177 : Nat) : Int)), (39, pp r112), (47, .agg (mcells 4 bs161).toArray), (48, vi ((k177 : Nat) : Int)), (53, pp r207), (4294967295, vi (D67 : Nat))] ∧ St w s164 (pc b271 #[vi k127, vi x261.Arr, vi ((k177 + 1 : Nat) : Int)] 62 :: pc b270 (ApiStop.cells x261).toArray 106 :: pc b244 (GuidePlace.cells k219).toArray 126 :: iterI keyGuidePlace.f Value.bool b204 r207 x199 (ix215 ++ [j221]) :: mapsV keyGuidePlace.f Value.bool (List.eraseIdx bs161 ((((k177 : Nat) : Int)).toNat)) (List.eraseIdx q159 ((((k177 : Nat) : Int)).toNat)) :: vecC 62 3 a284 c285 n287 cs288 :: mapC keyGuidePoint.f Value.bool b109 q290 :: pt D67 (.deferred (some [])) :: pc b53 #[.map (some b52)] 156 :: iterI keyI.f In.cell b52 r112 l74 (ix123 ++ [j129]) :: pc b51 #[.slice a0_0 x0.Day.Trains.length c0_0, .slice a0_1 x0.Day.Turns.length c0_1, vi x0.least] 94 :: R)) ?_ ?_
    ·refine W.gen fun K291 hK291 => ?_
     refine W.cond hE rfl (fun hc292 => ?_) (fun hc292 => ?_)
     ·replace hq279 := iteT hc292 hq279
      refine W.seq (W.region (vp hS hE rfl rfl fun a hE => ?_))
      refine vP hS hE (Gives.loadBA hE 0 rfl rfl ty62) rfl fun a hE => ?_
      refine WL.mapSetS keyGuidePoint hE hS 6 (k := (GuidePoint.mk k127 x261.Arr ((k177 + 1 : Nat) : Int))) (v := true) (.inl rfl) (runs_plain rfl) rfl rfl rfl rfl mp157 rfl ?_; clear hE hS a w; intro a w hE hS
      refine WL.nil ?_
      refine W.region ?_
      refine vp hS hE rfl rfl fun a hE => ?_
      refine vP hS hE (Gives.loadBA hE 0 rfl rfl ty62) rfl fun a hE => ?_
      refine WL.lit hE hS (e := 62) (es := 3) (vs := [(0, .agg [vi k127, vi x261.Arr, vi ((k177 + 1 : Nat) : Int)].toArray)]) (cs := [vi k127, vi x261.Arr, vi ((k177 + 1 : Nat) : Int)]) (runs_plain rfl) rfl (by kernel_rfl) rfl ?_; clear hE hS a w; intro b293 a w hE hS
      obtain ⟨x294, hx295, hq279⟩ := bindS hq279
      refine WL.appD hE hS 5 (m := 1) (runs_plain rfl) rfl rfl rfl ap55 rfl h227 rfl (xs := [(GuidePoint.mk k127 x261.Arr ((k177 + 1 : Nat) : Int))]) (Ev.cons (c1 := [vi k127, vi x261.Arr, vi ((k177 + 1 : Nat) : Int)]) rfl rfl (Ev.nil)) rfl rfl hx295 rfl ?_; clear hE hS a w; intro a296 c297 cs298 a w h299 hE hS
      refine vp hS hE rfl rfl fun a hE => WL.nil ?_
      subst hK291
      exact ⟨x294, (mput q231 (GuidePoint.mk k127 x261.Arr ((k177 + 1 : Nat) : Int)) true), a296, c297, x294.length, cs298, Option.some.inj hq279, h299, (rfl), hE.pick _ ⟨rfl, rfl, rfl, rfl, rfl, rfl, rfl, rfl, rfl, rfl, rfl, trivial⟩, hS⟩
     replace hq279 := iteF hc292 hq279
     refine W.skip ?_
     subst hK291
     exact ⟨q224, q231, a225, c226, q224.length, cs229, Option.some.inj hq279, h227, rfl, hE.pick _ ⟨rfl, rfl, rfl, rfl, rfl, rfl, rfl, rfl, rfl, rfl, rfl, trivial⟩, hS⟩
    clear hE hS a w; rintro a w ⟨q283, q290, a284, c285, n287, cs288, rfl, h286, rfl, hE, hS⟩
    dsimp only at hO233
    replace hS := hS.tail
    replace hS := hS.tail
    replace hS := hS.tail
    subst hK232
    exact ⟨rest237.length, hlt240, rest237, ix215 ++ [j221], nn236, q283, q290, a284, c285, q283.length, cs288, rfl, hp238, hn239, hQ235 _ (AllO.done hO233), h286, rfl, hE.pick _ ⟨rfl, rfl, rfl, rfl, rfl, rfl, rfl, rfl, rfl, rfl, rfl, trivial⟩, hS⟩
   clear hE hS a w; rintro a w ⟨q224, q231, a225, c226, n228, cs229, hO208, h227, rfl, hE, hS⟩
   replace hO191 := hO191 _ hO208
   dsimp only at hO191
   refine W.region ?_
   refine vP hS hE (Gives.inc hE rfl (by omega)) rfl fun a hE => ?_
   refine vp hS hE rfl rfl fun a hE => WL.nil ?_
   subst hK190
   exact ⟨rest172, Nat.lt_succ_self _, rest172, k177 + 1, q224, q231, a225, c226, q224.length, cs229, rfl, by omega, hQ193 _ (AllO.done hO191), h227, rfl, hE.pick _ ⟨rfl, rfl, rfl, rfl, rfl, rfl, rfl, rfl, rfl, trivial⟩, hS⟩
  clear hE hS a w; rintro a w ⟨q182, q189, a183, c184, n186, cs187, hO166, h185, rfl, hE, hS⟩
  replace hO141 := hO141 _ hO166
  dsimp only at hO141
  replace hS := hS.tail
  subst hK140
  exact ⟨rest145.length, hlt148, rest145, ix123 ++ [j129], nn144, q182, q189, a183, c184, q182.length, cs187, s164, rfl, hp146, hn147, (Sg.Le.trans hle121 hle165), hQ143 _ (AllO.done hO141), h185, rfl, hE.pick _ ⟨rfl, rfl, rfl, rfl, rfl, rfl, trivial⟩, hS⟩
 clear hE hS a w; rintro a w ⟨q132, q139, a133, c134, n136, cs137, s120, hle121, hO116, h135, rfl, hE, hS⟩
 replace hr := hr _ hO116
 dsimp only at hr
 replace h115 := MSl.mono RGuideRide.mono hle121 h115
 replace h0_0 := Sl.mono RApiTrain.mono hle121 h0_0
 replace h0_1 := Sl.mono (RL.mono RI.mono) hle121 h0_1
 refine W.seq (W.region (vp hS hE rfl rfl fun a hE => ?_))
 obtain ⟨q303, hq304, hr⟩ := AllO.bind hr
 refine WL.fnq hE (itSortF80_100_ok hS h135 rfl hq304) (runs_plain rfl) bd80 rfl rfl rfl ?_
 clear hE hS; rintro e w ⟨cs301, rfl, h302, hn305, hS⟩; refine ⟨_, rfl, ?_⟩; clear a; intro a hE
 refine WL.nil ?_
 refine W.seq (W.region (v2 hS hE rfl rfl rfl rfl fun a hE => WL.nil ?_))
 refine W.ret ?_
 refine finGM (fn := Tryd.f49) (rs := [.tmp 6]) (vs := [.slice a133 q132.length c134]) hE hS 2 rfl rfl ?_
 clear hS; intro w hS
 refine ⟨⟨rfl, trivial⟩, ?_⟩
 obtain rfl := AllO.done hr
 replace hS := hS.dropAt 1
 replace hS := hS.dropAt 1
 replace hS := hS.dropAt 1
 replace hS := hS.dropAt 1
 exact ⟨a133, c134, q132.length, cs301, s120, rfl, (Sg.Le.trans (Sg.Le.trans (Sg.Le.trans hle59 hle72) hle114) hle121), h302, hn305, hS⟩
set_option maxHeartbeats 8000000 in
theorem GuideProfile_1_v1_ok  {w : World} {s : Sg} {R : List HP} {pb0 : Nat} {x0 : GuidePoint} {y0 : GuidePoint} (hS : St w s (pc pb0 #[vi y0.Dep, vi y0.Arr, vi y0.Rides] 62 :: R))  {r : Bool} (hr : GuideProfile_1_v1 x0 y0 = r) :
  Calls Tryd.prog 74 [.agg (GuidePoint.cells x0).toArray, pp pb0].toArray w (fun e w => e = .returned (.bool r) ∧ St w s (pc pb0 #[vi y0.Dep, vi y0.Arr, vi y0.Rides] 62 :: R)) := by
 refine enter Tryd.func74 rfl rfl rfl fun a hE => ?_
 rw [GuideProfile_1_v1] at hr
 refine W.seq (W.region ?_)
 refine WL.box hE hS (runs_plain rfl) rfl rfl rfl ?_; clear hE hS a w; intro b51 a w hE hS
 refine vp hS hE rfl rfl fun a hE => WL.nil ?_
 refine W.seq ?_
 obtain ⟨q53, hq52, hr⟩ := bndS hr
 refine W.cut (fun a w => ∃ (q56 : Bool), q56 = q53 ∧ Rep a 28 [(3, .bool q56)] ∧ St w s (pc b51 (GuidePoint.cells x0).toArray 62 :: pc pb0 #[vi y0.Dep, vi y0.Arr, vi y0.Rides] 62 :: R)) ?_ ?_
 ·refine W.gen fun K57 hK57 => ?_
  refine W.region ?_
  refine vP hS hE (Gives.loadBA hE 0 rfl rfl ty62) rfl fun a hE => ?_
  refine vP hS hE (Gives.loadBA hE 1 rfl rfl ty62) rfl fun a hE => ?_
  refine vP hS hE (show Gives _ _ _ _ (Value.bool (!((x0.Dep == y0.Dep) && ((x0.Arr == y0.Arr) && (x0.Rides == y0.Rides))))) from Gives.neS hE [.i .i64, .i .i64, .i .i64] [.i .i64 x0.Dep, .i .i64 x0.Arr, .i .i64 x0.Rides] [.i .i64 y0.Dep, .i .i64 y0.Arr, .i .i64 y0.Rides] rfl rfl se62 rfl rfl rfl rfl) rfl fun a hE => ?_
  refine vp hS hE rfl rfl fun a hE => ?_
  rcases Bool.eq_false_or_eq_true (!((x0.Dep == y0.Dep) && ((x0.Arr == y0.Arr) && (x0.Rides == y0.Rides)))) with hg58 | hg58
  ·replace hq52 := iteT hg58 hq52
   refine WL.vS hS hE (runs_if hE rfl rfl rfl hg58) (Gives.fld hE rfl fl62_0) rfl fun a hE => ?_
   refine WL.vS hS hE (runs_if hE rfl rfl rfl hg58) (Gives.loadB hE 0 rfl rfl rfl ty3) rfl fun a hE => ?_
   refine WL.vS hS hE (runs_if hE rfl rfl rfl hg58) (Gives.fld hE rfl fl62_0) rfl fun a hE => ?_
   refine WL.vS hS hE (runs_if hE rfl rfl rfl hg58) (Gives.loadB hE 1 rfl rfl rfl ty3) rfl fun a hE => ?_
   refine WL.vS hS hE (runs_if hE rfl rfl rfl hg58) (Gives.p hE rfl) rfl fun a hE => ?_
   refine vP hS hE (Gives.pickT hE rfl hg58 rfl) rfl fun a hE => ?_
   refine vp hS hE rfl rfl fun a hE => ?_
   rcases Bool.eq_false_or_eq_true (decide (x0.Dep ≥ y0.Dep)) with hg59 | hg59
   ·replace hq52 := iteT hg59 hq52
    refine WL.vS hS hE (runs_if hE rfl rfl rfl hg59) (Gives.fld hE rfl fl62_1) rfl fun a hE => ?_
    refine WL.vS hS hE (runs_if hE rfl rfl rfl hg59) (Gives.loadB hE 0 rfl rfl rfl ty3) rfl fun a hE => ?_
    refine WL.vS hS hE (runs_if hE rfl rfl rfl hg59) (Gives.fld hE rfl fl62_1) rfl fun a hE => ?_
    refine WL.vS hS hE (runs_if hE rfl rfl rfl hg59) (Gives.loadB hE 1 rfl rfl rfl ty3) rfl fun a hE => ?_
    refine WL.vS hS hE (runs_if hE rfl rfl rfl hg59) (Gives.p hE rfl) rfl fun a hE => ?_
    refine vP hS hE (Gives.pickT hE rfl hg59 rfl) rfl fun a hE => ?_
    refine vp hS hE rfl rfl fun a hE => ?_
    rcases Bool.eq_false_or_eq_true (decide (x0.Arr ≤ y0.Arr)) with hg60 | hg60
    ·replace hq52 := iteT hg60 hq52
     refine WL.vS hS hE (runs_if hE rfl rfl rfl hg60) (Gives.fld hE rfl fl62_2) rfl fun a hE => ?_
     refine WL.vS hS hE (runs_if hE rfl rfl rfl hg60) (Gives.loadB hE 0 rfl rfl rfl ty3) rfl fun a hE => ?_
     refine WL.vS hS hE (runs_if hE rfl rfl rfl hg60) (Gives.fld hE rfl fl62_2) rfl fun a hE => ?_
     refine WL.vS hS hE (runs_if hE rfl rfl rfl hg60) (Gives.loadB hE 1 rfl rfl rfl ty3) rfl fun a hE => ?_
     refine WL.vS hS hE (runs_if hE rfl rfl rfl hg60) (Gives.p hE rfl) rfl fun a hE => ?_
     refine vP hS hE (Gives.pickT hE rfl hg60 rfl) rfl fun a hE => ?_
     refine vp hS hE rfl rfl fun a hE => WL.nil ?_
     subst hK57
     exact ⟨decide (x0.Rides ≤ y0.Rides), hq52, hE.pick _ ⟨rfl, trivial⟩, hS⟩
    replace hq52 := iteF hg60 hq52
    refine nO hE rfl rfl rfl (by rw [hg60]; decide) rfl fun a hE => ?_
    refine nO hE rfl rfl rfl (by rw [hg60]; decide) rfl fun a hE => ?_
    refine nO hE rfl rfl rfl (by rw [hg60]; decide) rfl fun a hE => ?_
    refine nO hE rfl rfl rfl (by rw [hg60]; decide) rfl fun a hE => ?_
    refine nO hE rfl rfl rfl (by rw [hg60]; decide) rfl fun a hE => ?_
    refine vP hS hE (Gives.pickF hE rfl hg60 rfl) rfl fun a hE => ?_
    refine vp hS hE rfl rfl fun a hE => WL.nil ?_
    subst hK57
    exact ⟨false, hq52, hE.pick _ ⟨rfl, trivial⟩, hS⟩
   replace hq52 := iteF hg59 hq52
   refine nO hE rfl rfl rfl (by rw [hg59]; decide) rfl fun a hE => ?_
   refine nO hE rfl rfl rfl (by rw [hg59]; decide) rfl fun a hE => ?_
   refine nO hE rfl rfl rfl (by rw [hg59]; decide) rfl fun a hE => ?_
   refine nO hE rfl rfl rfl (by rw [hg59]; decide) rfl fun a hE => ?_
   refine nO hE rfl rfl rfl (by rw [hg59]; decide) rfl fun a hE => ?_
   refine vP hS hE (Gives.pickF hE rfl hg59 rfl) rfl fun a hE => ?_
   refine vp hS hE rfl rfl fun a hE => ?_
   refine nO hE rfl rfl rfl (by decide) rfl fun a hE => ?_
   refine nO hE rfl rfl rfl (by decide) rfl fun a hE => ?_
   refine nO hE rfl rfl rfl (by decide) rfl fun a hE => ?_
   refine nO hE rfl rfl rfl (by decide) rfl fun a hE => ?_
   refine nO hE rfl rfl rfl (by decide) rfl fun a hE => ?_
   refine vP hS hE (Gives.pickF hE rfl rfl rfl) rfl fun a hE => ?_
   refine vp hS hE rfl rfl fun a hE => WL.nil ?_
   subst hK57
   exact ⟨false, hq52, hE.pick _ ⟨rfl, trivial⟩, hS⟩
  replace hq52 := iteF hg58 hq52
  refine nO hE rfl rfl rfl (by rw [hg58]; decide) rfl fun a hE => ?_
  refine nO hE rfl rfl rfl (by rw [hg58]; decide) rfl fun a hE => ?_
  refine nO hE rfl rfl rfl (by rw [hg58]; decide) rfl fun a hE => ?_
  refine nO hE rfl rfl rfl (by rw [hg58]; decide) rfl fun a hE => ?_
  refine nO hE rfl rfl rfl (by rw [hg58]; decide) rfl fun a hE => ?_
  refine vP hS hE (Gives.pickF hE rfl hg58 rfl) rfl fun a hE => ?_
  refine vp hS hE rfl rfl fun a hE => ?_
  refine nO hE rfl rfl rfl (by decide) rfl fun a hE => ?_
  refine nO hE rfl rfl rfl (by decide) rfl fun a hE => ?_
  refine nO hE rfl rfl rfl (by decide) rfl fun a hE => ?_
  refine nO hE rfl rfl rfl (by decide) rfl fun a hE => ?_
  refine nO hE rfl rfl rfl (by decide) rfl fun a hE => ?_
  refine vP hS hE (Gives.pickF hE rfl rfl rfl) rfl fun a hE => ?_
  refine vp hS hE rfl rfl fun a hE => ?_
  refine nO hE rfl rfl rfl (by decide) rfl fun a hE => ?_
  refine nO hE rfl rfl rfl (by decide) rfl fun a hE => ?_
  refine nO hE rfl rfl rfl (by decide) rfl fun a hE => ?_
  refine nO hE rfl rfl rfl (by decide) rfl fun a hE => ?_
  refine nO hE rfl rfl rfl (by decide) rfl fun a hE => ?_
  refine vP hS hE (Gives.pickF hE rfl rfl rfl) rfl fun a hE => ?_
  refine vp hS hE rfl rfl fun a hE => WL.nil ?_
  subst hK57
  exact ⟨false, hq52, hE.pick _ ⟨rfl, trivial⟩, hS⟩
 clear hE hS a w; rintro a w ⟨q56, rfl, hE, hS⟩
 refine W.ret ?_
 refine finG (fn := Tryd.f74) (rs := [.tmp 3]) (vs := [_]) hE rfl ⟨rfl, trivial⟩ ?_
 subst hr
 replace hS := hS.tail
 exact ⟨rfl, hS⟩
set_option maxHeartbeats 8000000 in
theorem SlicesIndexFuncLguidePoint_v1_ok  {w : World} {s : Sg} {R : List HP} {pb0 : Nat} {x0 : List GuidePoint} {a0 : Option Addr} {c0 : Nat} {y0 : GuidePoint} (hS : St w s (pc pb0 #[vi y0.Dep, vi y0.Arr, vi y0.Rides] 62 :: R)) (h0 : Sl 3 RGuidePoint s a0 c0 x0) {r : Int} (hr : SlicesIndexFuncLguidePoint_v1 x0 y0 = r) :
  Calls Tryd.prog 98 [.slice a0 x0.length c0, .func (.func 74) #[] #[pp pb0]].toArray w (fun e w => e = .returned (vi r) ∧ St w s (pc pb0 #[vi y0.Dep, vi y0.Arr, vi y0.Rides] 62 :: R)) := by
 refine enter Tryd.func98 rfl rfl rfl fun a hE => ?_
 rw [SlicesIndexFuncLguidePoint_v1] at hr
 refine W.seq (W.region (vp hS hE rfl rfl fun a hE => WL.nil ?_))
 refine W.seq ?_
 refine W.seq (W.region (vp hS hE rfl rfl fun a hE => ?_))
 refine vP hS hE (Gives.len hE rfl sl55) rfl fun a hE => ?_
 refine vp hS hE rfl rfl fun a hE => WL.nil ?_
 obtain ⟨q52, hq51, hr⟩ := bndS hr
 refine W.cut (fun a w => (.next ()) = q52 ∧ Rep a 19 [] ∧ St w s (pc pb0 #[vi y0.Dep, vi y0.Arr, vi y0.Rides] 62 :: R)) ?_ ?_
 ·refine W.block ?_
  refine W.loop (fun m a w => ∃ (rest55 : List GuidePoint) (k53 : Nat), rest55.length = m ∧ x0.drop k53 = rest55 ∧ SlicesIndexFuncLguidePoint_v1.loop1 y0 rest55 k53 = q52 ∧ Rep a 19 [(0, .slice a0 x0.length c0), (1, .func (.func 74) #[] #[pp pb0]), (7, vi ((x0).length : Int)), (8, vi ((k53 : Nat) : Int))] ∧ St w s (pc pb0 #[vi y0.Dep, vi y0.Arr, vi y0.Rides] 62 :: R)) (m := x0.length) ⟨x0, 0, rfl, rfl, hq51, hE.pick _ ⟨rfl, rfl, rfl, rfl, trivial⟩, hS⟩ ?_
  clear hE hS a w hq51; rintro m59 a w ⟨rest55, k53, rfl, hd56, hq51, hE, hS⟩
  refine W.gen fun K62 hK62 => ?_
  rcases rest55 with _ | ⟨x54, rest55⟩
  ·have hlt57 := drop_nil hd56
   refine W.seq (W.region (vp hS hE rfl rfl fun a hE => WL.nil ?_))
   refine W.seq ?_
   refine W.condF hE rfl (decide_eq_false (by omega)) ?_
   subst hK62
   refine W.exit rfl ?_
   exact ⟨hq51, hE.pick _ trivial, hS⟩
  obtain ⟨hlt57, hx58, hd56⟩ := drop_cons hd56
  rw [SlicesIndexFuncLguidePoint_v1.loop1] at hq51
  refine W.seq (W.region (vp hS hE rfl rfl fun a hE => WL.nil ?_))
  refine W.seq ?_
  refine W.condT hE rfl (decide_eq_true (by omega)) ?_
  refine W.skip ?_
  refine W.seq ?_
  refine W.block ?_
  refine W.seq (W.region (v2 hS hE rfl rfl rfl rfl fun a hE => WL.nil ?_))
  refine W.seq (W.region (v2 hS hE rfl rfl rfl rfl fun a hE => ?_))
  refine vp hS hE rfl rfl fun a hE => ?_
  obtain ⟨cs63, hl64, hR65, hat66⟩ := h0.at hx58
  subst hR65
  refine vP hS hE (Gives.idx hE k53 rfl rfl sl55 rfl hlt57 (h0.aok hlt57)) rfl fun a hE => ?_
  refine vP hS hE (Gives.loadA hE rfl (fun w h => hat66 w _ h) ty62) rfl fun a hE => ?_
  refine WL.fnw hE (GuideProfile_1_v1_ok (y0 := y0) hS  rfl (r := GuideProfile_1_v1 x54 y0)) rfl (runs_plain rfl) bd74 rfl rfl rfl ?_
  clear hE hS; rintro e w ⟨rfl, hS⟩; refine ⟨_, rfl, ?_⟩; clear a; intro a hE
  refine WL.nil ?_
  refine W.cond hE rfl (fun hc67 => ?_) (fun hc67 => ?_)
  ·replace hq51 := iteT hc67 hq51
   refine W.seq (W.region (v2 hS hE rfl rfl rfl rfl fun a hE => WL.nil ?_))
   refine W.ret ?_
   subst hK62
   rw [← hq51] at hr
   dsimp only at hr
   refine finG (fn := Tryd.f98) (rs := [.tmp 4]) (vs := [_]) hE rfl ⟨rfl, trivial⟩ ?_
   subst hr
   exact ⟨rfl, hS⟩
  replace hq51 := iteF hc67 hq51
  refine W.skip ?_
  refine W.region ?_
  refine vP hS hE (Gives.inc hE rfl (by have := h0.small; omega)) rfl fun a hE => ?_
  refine vp hS hE rfl rfl fun a hE => WL.nil ?_
  subst hK62
  exact ⟨rest55.length, Nat.lt_succ_self _, rest55, k53 + 1, rfl, hd56, hq51, hE.pick _ ⟨rfl, rfl, rfl, rfl, trivial⟩, hS⟩
 clear hE hS a w; rintro a w ⟨rfl, hE, hS⟩
 dsimp only at hr
 refine W.seq (W.region (vp hS hE rfl rfl fun a hE => WL.nil ?_))
 refine W.ret ?_
 refine finG (fn := Tryd.f98) (rs := [.tmp 4]) (vs := [_]) hE rfl ⟨rfl, trivial⟩ ?_
 subst hr
 exact ⟨rfl, hS⟩
set_option maxHeartbeats 8000000 in
theorem SlicesContainsFuncLguidePoint_v1_ok  {w : World} {s : Sg} {R : List HP} {pb0 : Nat} {x0 : List GuidePoint} {a0 : Option Addr} {c0 : Nat} {y0 : GuidePoint} (hS : St w s (pc pb0 #[vi y0.Dep, vi y0.Arr, vi y0.Rides] 62 :: R)) (h0 : Sl 3 RGuidePoint s a0 c0 x0) {r : Bool} (hr : SlicesContainsFuncLguidePoint_v1 x0 y0 = r) :
  Calls Tryd.prog 73 [.slice a0 x0.length c0, .func (.func 74) #[] #[pp pb0]].toArray w (fun e w => e = .returned (.bool r) ∧ St w s (pc pb0 #[vi y0.Dep, vi y0.Arr, vi y0.Rides] 62 :: R)) := by
 refine enter Tryd.func73 rfl rfl rfl fun a hE => ?_
 rw [SlicesContainsFuncLguidePoint_v1] at hr
 refine W.seq (W.region (vp hS hE rfl rfl fun a hE => WL.nil ?_))
 refine W.seq (W.region (v2 hS hE rfl rfl rfl rfl fun a hE => ?_))
 refine WL.fnq hE (SlicesIndexFuncLguidePoint_v1_ok (y0 := y0) hS h0 rfl (r := SlicesIndexFuncLguidePoint_v1 x0 y0)) (runs_plain rfl) bd98 rfl rfl rfl ?_
 clear hE hS; rintro e w ⟨rfl, hS⟩; refine ⟨_, rfl, ?_⟩; clear a; intro a hE
 refine v2 hS hE rfl rfl rfl rfl fun a hE => WL.nil ?_
 refine W.ret ?_
 refine finG (fn := Tryd.f73) (rs := [.tmp 4]) (vs := [_]) hE rfl ⟨rfl, trivial⟩ ?_
 subst hr
 exact ⟨rfl, hS⟩
set_option maxHeartbeats 8000000 in
theorem GuideProfile_ok  {w : World} {s : Sg} {R : List HP} {x0 : ApiDay} {a0_0 : Option Addr} {c0_0 : Nat} {a0_1 : Option Addr} {c0_1 : Nat} {x1 : Int} {x2 : Int} {x3 : Int} (hS : St w s (R)) (hTab : TabS Tryd.prog s) (h0_0 : Sl 4 RApiTrain s a0_0 c0_0 x0.Trains) (h0_1 : Sl 1 (RL 1 (RI .i64)) s a0_1 c0_1 x0.Turns) {r : (List GuidePoint) × Int} (hr : GuideProfile x0 x1 x2 x3 = some r) :
  Calls Tryd.prog 25 [.agg [.slice a0_0 x0.Trains.length c0_0, .slice a0_1 x0.Turns.length c0_1].toArray, vi x1, vi x2, vi x3].toArray w (fun e w => ∃ (a0 : Option Addr) (c0 n0 : Nat) (cs0 : List Value) (t : Sg), e = .returned (.tuple #[.slice a0 n0 c0, vi r.2]) ∧ s.Le t ∧ Ev 3 RGuidePoint t cs0 r.1 ∧ r.1.length = n0 ∧ St w t (vecC 62 3 a0 c0 n0 cs0 :: R)) := by
 refine enter Tryd.func25 rfl rfl rfl fun a hE => ?_
 rw [GuideProfile] at hr
 refine W.seq (W.region ?_)
 refine WL.box hE hS (runs_plain rfl) rfl rfl rfl ?_; clear hE hS a w; intro b51 a w hE hS
 refine v2 hS hE rfl rfl rfl rfl fun a hE => WL.nil ?_
 refine W.seq ?_
 refine W.seq (W.region (vP hS hE (Gives.loadBA hE 0 rfl rfl ty25) rfl fun a hE => ?_))
 refine v2 hS hE rfl rfl rfl rfl fun a hE => ?_
 refine vp hS hE rfl rfl fun a hE => ?_
 obtain ⟨q52, hq53, hr⟩ := bindS hr
 have hc_ := Guidecheck_ok hS (TabS.mono (Sg.Le.refl _) hTab) h0_0 h0_1 Sl.nil hq53
 refine WL.fnq hE (hc_) (runs_plain rfl) bd46 rfl rfl rfl ?_
 clear hE hS hc_; rintro e w ⟨rfl, hS⟩; refine ⟨_, rfl, ?_⟩; clear a; intro a hE
 refine vp hS hE rfl rfl fun a hE => WL.nil ?_
 refine W.seq (W.region (v2 hS hE rfl rfl rfl rfl fun a hE => WL.nil ?_))
 refine W.cond hE rfl (fun hc54 => ?_) (fun hc54 => ?_)
 ·replace hr := iteT hc54 hr
  refine W.seq (W.region (v2 hS hE rfl rfl rfl rfl fun a hE => ?_))
  refine vp hS hE rfl rfl fun a hE => WL.nil ?_
  refine W.ret ?_
  replace hS := hS.vecNil 62 3
  refine finG (fn := Tryd.f25) (rs := [.tmp 8, .tmp 9]) (vs := [_, _]) hE rfl ⟨rfl, rfl, trivial⟩ ?_
  obtain rfl := Option.some.inj hr
  replace hS := hS.dropAt 1
  exact ⟨none, 0, 0, [], s, rfl, (Sg.Le.refl _), (Ev.nil), (rfl), hS⟩
 replace hr := iteF hc54 hr
 refine W.skip ?_
 refine W.seq (W.region (vP hS hE (Gives.loadBA hE 0 rfl rfl ty25) rfl fun a hE => ?_))
 refine vp hS hE rfl rfl fun a hE => ?_
 refine vP hS hE (Gives.build hE (vs := [(0, .agg [.slice a0_0 x0.Trains.length c0_0, .slice a0_1 x0.Turns.length c0_1].toArray), (1, vi x3)]) [.slice a0_0 x0.Trains.length c0_0, .slice a0_1 x0.Turns.length c0_1, vi x3] rfl (by kernel_rfl)) rfl fun a hE => ?_
 refine v2 hS hE rfl rfl rfl rfl fun a hE => ?_
 obtain ⟨q56, hq57, hr⟩ := bindS hr
 have hc_ := GuideNetpoints_ok hS h0_0 h0_1 hq57
 refine WL.fnq hE (hc_) (runs_plain rfl) bd49 rfl rfl rfl ?_
 clear hE hS hc_; rintro e w ⟨a58, c59, n60, cs61, s64, rfl, hle65, h62, rfl, hS⟩; refine ⟨_, rfl, ?_⟩; clear a; intro a hE
 replace h0_0 := Sl.mono RApiTrain.mono hle65 h0_0
 replace h0_1 := Sl.mono (RL.mono RI.mono) hle65 h0_1
 refine vp hS hE rfl rfl fun a hE => WL.nil ?_
 refine W.seq (W.region ?_)
 replace hS := hS.vecNil 62 3
 refine vp hS hE rfl rfl fun a hE => WL.nil ?_
 refine W.seq ?_
 refine W.seq (W.region (vp hS hE rfl rfl fun a hE => ?_))
 refine vP hS hE (Gives.len hE rfl sl55) rfl fun a hE => ?_
 refine vp hS hE rfl rfl fun a hE => WL.nil ?_
 have hb78 : q56.length ≤ 9223372036854775807 := by have := hS.vecCap 1 rfl; unfold maxLen at this; omega
 obtain ⟨q68, hq67, hr⟩ := bindS hr
 refine W.cut (fun a w => ∃ (q79 : List GuidePoint), ∃ (a80 : Option Addr), ∃ (c81 : Nat), ∃ (n83 : Nat), ∃ (cs84 : List Value), q79 = q68 ∧ Ev 3 RGuidePoint s64 cs84 q79 ∧ q79.length = n83 ∧ Rep a 47 [(12, .slice a80 n83 c81)] ∧ St w s64 (vecC 62 3 a80 c81 n83 cs84 :: vecC 62 3 a58 c59 q56.length cs61 :: pc b51 #[.slice a0_0 x0.Trains.length c0_0, .slice a0_1 x0.Turns.length c0_1] 25 :: R)) ?_ ?_
 ·refine W.block ?_
  refine W.loop (fun m a w => ∃ (rest71 : Nat) (k69 : Nat), ∃ (q79 : List GuidePoint), ∃ (a80 : Option Addr), ∃ (c81 : Nat), ∃ (n83 : Nat), ∃ (cs84 : List Value), rest71 = m ∧ k69 + rest71 = q56.length ∧ GuideProfile.loop1 q56 rest71 k69 q79 = some q68 ∧ Ev 3 RGuidePoint s64 cs84 q79 ∧ q79.length = n83 ∧ Rep a 47 [(11, .slice a58 q56.length c59), (12, .slice a80 n83 c81), (30, .slice a58 q56.length c59), (31, vi ((q56.length : Nat) : Int)), (32, vi ((k69 : Nat) : Int))] ∧ St w s64 (vecC 62 3 a80 c81 n83 cs84 :: vecC 62 3 a58 c59 q56.length cs61 :: pc b51 #[.slice a0_0 x0.Trains.length c0_0, .slice a0_1 x0.Turns.length c0_1] 25 :: R)) (m := q56.length) ⟨q56.length, 0, [], none, 0, 0, [], rfl, by omega, hq67, (Ev.nil), (rfl), hE.pick _ ⟨rfl, rfl, rfl, rfl, rfl, trivial⟩, hS⟩ ?_
  clear hE hS a w hq67; rintro m75 a w ⟨rest71, k69, q79, a80, c81, n83, cs84, rfl, hd72, hq67, h82, rfl, hE, hS⟩
  refine W.gen fun K86 hK86 => ?_
  rcases rest71 with _ | rest71
  ·skip
   refine W.seq (W.region (vp hS hE rfl rfl fun a hE => WL.nil ?_))
   refine W.seq ?_
   refine W.condF hE rfl (decide_eq_false (by omega)) ?_
   subst hK86
   refine W.exit rfl ?_
   exact ⟨q79, a80, c81, q79.length, cs84, Option.some.inj hq67, h82, rfl, hE.pick _ ⟨rfl, trivial⟩, hS⟩
  have hlt73 : k69 < q56.length := by omega
  rw [GuideProfile.loop1] at hq67
  refine W.seq (W.region (vp hS hE rfl rfl fun a hE => WL.nil ?_))
  refine W.seq ?_
  refine W.condT hE rfl (decide_eq_true (by omega)) ?_
  refine W.skip ?_
  refine W.seq ?_
  refine W.block ?_
  refine W.seq (W.region ?_)
  obtain ⟨x87, hx88, hq67⟩ := bindS hq67
  obtain ⟨hi89, hlt90, hy91⟩ := gx_some hx88
  obtain ⟨vs92, hl93, hR94, hd95, hget96⟩ := h62.at hy91
  subst hR94
  refine vP hS hE (Gives.idx hE ((((k69 : Nat) : Int)).toNat) rfl rfl sl55 hi89 (by omega) (hS.vecAok 1 rfl (by omega : (((k69 : Nat) : Int)).toNat < q56.length))) rfl fun a hE => ?_
  refine vP hS hE (Gives.loadA hE rfl (fun w h => St.vecSees h 1 rfl ((((k69 : Nat) : Int)).toNat * 3) _ hget96) ty62) rfl fun a hE => ?_
  refine WL.alloc hE hS (runs_plain rfl) zr62 rfl ?_; clear hE hS a w; intro b97 a w hE hS
  refine WL.storeI hE hS 0 rfl (GuidePoint.cells x87) (runs_plain rfl) rfl rfl rfl ty62 rfl rfl rfl rfl ?_; clear hE hS a w; intro a w hE hS
  refine WL.nil ?_
  refine W.seq (W.region (vp hS hE rfl rfl fun a hE => ?_))
  refine vP hS hE (Gives.mkfn hE (vs := [pp b97]) rfl) rfl fun a hE => ?_
  have hF := hS.lendV RGuidePoint.mono 2 rfl h62 rfl; clear hS; obtain ⟨t98, hle99, hS, hs100, bk101⟩ := hF
  refine WL.fnq hE (SlicesContainsFuncLguidePoint_v1_ok (y0 := x87) hS hs100 rfl (r := SlicesContainsFuncLguidePoint_v1 q56 x87)) (runs_plain rfl) bd73 rfl rfl rfl ?_
  clear hE hS; rintro e w ⟨rfl, hS⟩; refine ⟨_, rfl, ?_⟩; clear a; intro a hE
  replace hS := bk101 _ _ hS
  refine vp hS hE rfl rfl fun a hE => WL.nil ?_
  refine W.seq (W.region (v2 hS hE rfl rfl rfl rfl fun a hE => WL.nil ?_))
  obtain ⟨q103, hq102, hq67⟩ := bindS hq67
  refine W.cut (fun a w => ∃ (q106 : List GuidePoint), ∃ (a107 : Option Addr), ∃ (c108 : Nat), ∃ (n110 : Nat), ∃ (cs111 : List Value), q106 = q103 ∧ Ev 3 RGuidePoint s64 cs111 q106 ∧ q106.length = n110 ∧ Rep a 47 [(11, .slice a58 q56.length c59), (12, .slice a107 n110 c108), (30, .slice a58 q56.length c59), (31, vi ((q56.length : Nat) : Int)), (32, vi ((k69 : Nat) : Int))] ∧ St w s64 (vecC 62 3 a58 c59 q56.length cs61 :: pc b97 (GuidePoint.cells x87).toArray 62 :: vecC 62 3 a107 c108 n110 cs111 :: pc b51 #[.slice a0_0 x0.Trains.length c0_0, .slice a0_1 x0.Turns.length c0_1] 25 :: R)) ?_ ?_
  ·refine W.gen fun K113 hK113 => ?_
   refine W.cond hE rfl (fun hc114 => ?_) (fun hc114 => ?_)
   ·replace hq102 := iteT hc114 hq102
    refine W.region ?_
    refine vp hS hE rfl rfl fun a hE => ?_
    refine vP hS hE (Gives.loadBA hE 1 rfl rfl ty62) rfl fun a hE => ?_
    refine WL.lit hE hS (e := 62) (es := 3) (vs := [(0, .agg (GuidePoint.cells x87).toArray)]) (cs := [vi x87.Dep, vi x87.Arr, vi x87.Rides]) (runs_plain rfl) rfl (by kernel_rfl) rfl ?_; clear hE hS a w; intro b115 a w hE hS
    obtain ⟨x116, hx117, hq102⟩ := bindS hq102
    refine WL.appD hE hS 2 (m := 1) (runs_plain rfl) rfl rfl rfl ap55 rfl h82 rfl (xs := [x87]) (Ev.cons (c1 := [vi x87.Dep, vi x87.Arr, vi x87.Rides]) rfl rfl (Ev.nil)) rfl rfl hx117 rfl ?_; clear hE hS a w; intro a118 c119 cs120 a w h121 hE hS
    refine vp hS hE rfl rfl fun a hE => WL.nil ?_
    subst hK113
    exact ⟨x116, a118, c119, x116.length, cs120, Option.some.inj hq102, h121, (rfl), hE.pick _ ⟨rfl, rfl, rfl, rfl, rfl, trivial⟩, hS⟩
   replace hq102 := iteF hc114 hq102
   refine W.skip ?_
   subst hK113
   exact ⟨q79, a80, c81, q79.length, cs84, Option.some.inj hq102, h82, rfl, hE.pick _ ⟨rfl, rfl, rfl, rfl, rfl, trivial⟩, hS⟩
  clear hE hS a w; rintro a w ⟨q106, a107, c108, n110, cs111, rfl, h109, rfl, hE, hS⟩
  refine W.region ?_
  refine vP hS hE (Gives.inc hE rfl (by omega)) rfl fun a hE => ?_
  refine vp hS hE rfl rfl fun a hE => WL.nil ?_
  replace hS := hS.dropAt 1
  replace hS := hS.front 2 rfl
  replace hS := hS.front 1 rfl
  replace hS := hS.front 2 rfl
  subst hK86
  exact ⟨rest71, Nat.lt_succ_self _, rest71, k69 + 1, q106, a107, c108, q106.length, cs111, rfl, (by omega), hq67, h109, rfl, hE.pick _ ⟨rfl, rfl, rfl, rfl, rfl, trivial⟩, hS⟩
 clear hE hS a w; rintro a w ⟨q79, a80, c81, n83, cs84, rfl, h82, rfl, hE, hS⟩
 refine W.seq (W.region (v2 hS hE rfl rfl rfl rfl fun a hE => ?_))
 refine vp hS hE rfl rfl fun a hE => WL.nil ?_
 refine W.ret ?_
 refine finG (fn := Tryd.f25) (rs := [.tmp 8, .tmp 9]) (vs := [_, _]) hE rfl ⟨rfl, rfl, trivial⟩ ?_
 obtain rfl := Option.some.inj hr
 replace hS := hS.dropAt 1
 replace hS := hS.dropAt 1
 exact ⟨a80, c81, q79.length, cs84, s64, rfl, hle65, h82, rfl, hS⟩
set_option maxHeartbeats 8000000 in
theorem SlicesCloneLguideRide_ok  {w : World} {s : Sg} {R : List HP} {x0 : List GuideRide} {a0 : Option Addr} {c0 : Nat} (hS : St w s (R)) (h0 : Sl 3 RGuideRide s a0 c0 x0) {r : (List GuideRide)} (hr : SlicesCloneLguideRide x0 = some r) :
  Calls Tryd.prog 76 [.slice a0 x0.length c0].toArray w (fun e w => ∃ (a0 : Option Addr) (c0 n0 : Nat) (cs0 : List Value), e = .returned (.slice a0 n0 c0) ∧ Ev 3 RGuideRide s cs0 r ∧ r.length = n0 ∧ St w s (vecC 47 3 a0 c0 n0 cs0 :: R)) := by
 refine enter Tryd.func76 rfl rfl rfl fun a hE => ?_
 rw [SlicesCloneLguideRide] at hr
 refine W.seq (W.region (vp hS hE rfl rfl fun a hE => WL.nil ?_))
 refine W.seq ?_
 refine W.seq (W.region (vp hS hE rfl rfl fun a hE => ?_))
 refine vP hS hE (Gives.isNil hE rfl rfl isl26) rfl fun a hE => WL.nil ?_
 rcases a0 with _ | g51
 ·obtain rfl := h0.none_nil
  replace hr : some [] = _ := hr
  refine W.condT hE rfl rfl ?_
  refine W.seq (W.region (vp hS hE rfl rfl fun a hE => WL.nil ?_))
  refine W.ret ?_
  replace hS := hS.vecNil 47 3
  refine finG (fn := Tryd.f76) (rs := [.tmp 2]) (vs := [_]) hE rfl ⟨rfl, trivial⟩ ?_
  obtain rfl := Option.some.inj hr
  exact ⟨none, 0, 0, [], rfl, (Ev.nil), (rfl), hS⟩
 skip
 refine W.condF hE rfl rfl ?_
 refine W.skip ?_
 refine W.seq (W.region ?_)
 refine WL.lit hE hS (e := 47) (es := 3) (vs := []) (cs := []) (runs_plain rfl) rfl (by kernel_rfl) rfl ?_; clear hE hS a w; intro b53 a w hE hS
 replace hS := hS.ptVec (es := 3) (m := 0) rfl (by decide)
 have h55 : Ev 3 RGuideRide s [] [] := (Ev.nil)
 refine vp hS hE rfl rfl fun a hE => ?_
 obtain ⟨x56, hx57, hr⟩ := bindS hr
 refine WL.appS hE hS 0 (runs_plain rfl) rfl rfl (xs := x0) rfl rfl ap26 RGuideRide.one h55 (rfl) h0 hx57 rfl ?_; clear hE hS a w; intro a58 c59 cs60 a w h61 hE hS
 refine vp hS hE rfl rfl fun a hE => WL.nil ?_
 refine W.ret ?_
 refine finG (fn := Tryd.f76) (rs := [.tmp 2]) (vs := [_]) hE rfl ⟨rfl, trivial⟩ ?_
 obtain rfl := Option.some.inj hr
 exact ⟨a58, c59, x56.length, cs60, rfl, h61, (rfl), hS⟩
set_option maxHeartbeats 8000000 in
theorem GuideAll_1_v1_ok : ∀ {fu : Nat} {w : World} {s : Sg} {R : List HP} {pb0 : Nat} {pb1 : Nat} {pb2 : Nat} {pb3 : Nat} {pb4 : Nat} {pb5 : Nat} {x0 : List GuideRide} {a0 : Option Addr} {c0 : Nat} {x1 : List GuideRide} {lb1 : List Value} {y0 : List GuideJourney} {a_v0 : Option Addr} {c_v0 n_v0 : Nat} {cs_v0 : List Value} {y1 : Int} {y2 : GuideNet} {a_y2_0 : Option Addr} {c_y2_0 : Nat} {a_y2_1 : Option Addr} {c_y2_1 : Nat} {y3 : Int} {y4_0 : List (Ar3i64 × Bool)} {b_v1 : Nat} (_hS : St w s (pc pb0 #[.slice a_v0 n_v0 c_v0] 39 :: pc pb1 #[vi y1] 3 :: pc pb2 #[.slice a_y2_0 y2.Day.Trains.length c_y2_0, .slice a_y2_1 y2.Day.Turns.length c_y2_1, vi y2.least] 94 :: pc pb3 #[vi y3] 3 :: pc pb4 #[.map (some b_v1)] 128 :: pc pb5 #[.func (.func 75) #[] #[pp pb0, pp pb1, pp pb2, pp pb3, pp pb4, pp pb5]] 129 :: vecC 28 1 a_v0 c_v0 n_v0 cs_v0 :: mapC keyAr3i64.f Value.bool b_v1 y4_0 :: R)) (_h0 : Sl 3 RGuideRide s a0 c0 x0) (_h1 : Iter Tryd.prog 113 lb1 (fun x => [Value.agg (GuideRide.cells x).toArray]) s x1) (_h_v0 : Ev 1 RGuideJourney s cs_v0 y0) (_hn_v0 : y0.length = n_v0) (_h_y2_0 : Sl 4 RApiTrain s a_y2_0 c_y2_0 y2.Day.Trains) (_h_y2_1 : Sl 1 (RL 1 (RI .i64)) s a_y2_1 c_y2_1 y2.Day.Turns) {r : Bool × (List (Ar3i64 × Bool)) × (List GuideJourney)} (_hr : GuideAll_1_v1 fu x0 x1 y0 y1 y2 y3 y4_0 = some r),
  Calls Tryd.prog 75 [.slice a0 x0.length c0, .func (.func 113) #[] lb1.toArray, pp pb0, pp pb1, pp pb2, pp pb3, pp pb4, pp pb5].toArray w (fun e w => ∃ (a61 : Option Addr) (c62 : Nat) (n64 : Nat) (cs65 : List Value) (t : Sg), e = .returned (.bool r.1) ∧ s.Le t ∧ Ev 1 RGuideJourney t cs65 r.2.2 ∧ r.2.2.length = n64 ∧ St w t (pc pb0 #[.slice a61 n64 c62] 39 :: pc pb1 #[vi y1] 3 :: pc pb2 #[.slice a_y2_0 y2.Day.Trains.length c_y2_0, .slice a_y2_1 y2.Day.Turns.length c_y2_1, vi y2.least] 94 :: pc pb3 #[vi y3] 3 :: pc pb4 #[.map (some b_v1)] 128 :: pc pb5 #[.func (.func 75) #[] #[pp pb0, pp pb1, pp pb2, pp pb3, pp pb4, pp pb5]] 129 :: vecC 28 1 a61 c62 n64 cs65 :: mapC keyAr3i64.f Value.bool b_v1 r.2.1 :: R)) := by
 intro fu
 induction fu with
 | zero => intro w s R pb0 pb1 pb2 pb3 pb4 pb5 x0 a0 c0 x1 lb1 y0 a_v0 c_v0 n_v0 cs_v0 y1 y2 a_y2_0 c_y2_0 a_y2_1 c_y2_1 y3 y4_0 b_v1 hS h0 h1 h_v0 hn_v0 h_y2_0 h_y2_1 r hr; rw [GuideAll_1_v1] at hr; exact absurd hr (by simp)
 | succ fu ih_GuideAll_1_v1 =>
  intro w s R pb0 pb1 pb2 pb3 pb4 pb5 x0 a0 c0 x1 lb1 y0 a_v0 c_v0 n_v0 cs_v0 y1 y2 a_y2_0 c_y2_0 a_y2_1 c_y2_1 y3 y4_0 b_v1 hS h0 h1 h_v0 hn_v0 h_y2_0 h_y2_1 r hr
  rw [GuideAll_1_v1] at hr
  generalize GuideAll_1_v1 fu = self_GuideAll_1_v1 at hr ih_GuideAll_1_v1
  refine enter Tryd.func75 rfl rfl rfl fun a hE => ?_
  subst hn_v0
  refine W.seq (W.region ?_)
  refine WL.box hE hS (runs_plain rfl) rfl rfl rfl ?_; clear hE hS a w; intro b67 a w hE hS
  refine WL.alloc hE hS (runs_plain rfl) zr4 rfl ?_; clear hE hS a w; intro b68 a w hE hS
  refine WL.nil ?_
  refine W.seq (W.region ?_)
  refine WL.alloc hE hS (runs_plain rfl) zr4 rfl ?_; clear hE hS a w; intro b69 a w hE hS
  refine WL.storeI hE hS 0 rfl [.bool false] (runs_plain rfl) rfl rfl rfl ty4 rfl rfl rfl rfl ?_; clear hE hS a w; intro a w hE hS
  refine WL.nil ?_
  refine W.seq ?_
  refine W.seq (W.region (vp hS hE rfl rfl fun a hE => WL.nil ?_))
  refine W.block ?_
  obtain ⟨q71, hq70, hr⟩ := bindS hr
  refine W.cut (fun a w => ∃ (q83 : Bool), ∃ (q84 : Bool), ∃ (q85 : List (Ar3i64 × Bool)), ∃ (q86 : List GuideJourney), ∃ (a87 : Option Addr), ∃ (c88 : Nat), ∃ (n90 : Nat), ∃ (cs91 : List Value), ∃ (D77 : Nat) (s81 : Sg), s.Le s81 ∧ (.next (q83, q84, q85, q86)) = q71 ∧ Ev 1 RGuideJourney s81 cs91 q86 ∧ q86.length = n90 ∧ Rep a 61 [(10, pp b68), (11, pp b69), (4294967295, vi (D77 : Nat))] ∧ St w s81 (pt D77 (.deferred (some [])) :: pc b69 #[.bool q84] 4 :: pc b68 #[.bool q83] 4 :: pc b67 #[.slice a0 x0.length c0] 26 :: pc pb0 #[.slice a87 n90 c88] 39 :: pc pb1 #[vi y1] 3 :: pc pb2 #[.slice a_y2_0 y2.Day.Trains.length c_y2_0, .slice a_y2_1 y2.Day.Turns.length c_y2_1, vi y2.least] 94 :: pc pb3 #[vi y3] 3 :: pc pb4 #[.map (some b_v1)] 128 :: pc pb5 #[.func (.func 75) #[] #[pp pb0, pp pb1, pp pb2, pp pb3, pp pb4, pp pb5]] 129 :: vecC 28 1 a87 c88 n90 cs91 :: mapC keyAr3i64.f Value.bool b_v1 q85 :: R)) ?_ ?_
  ·refine W.rangeFunc (l := x1) (ps := [16]) [] rfl hE rfl hS rfl h1 bd113 (fun _ => rfl) rfl (fun pre74 s81 Q_ => ∃ (rest73 : List GuideRide), ∃ (q83 : Bool), ∃ (q84 : Bool), ∃ (q85 : List (Ar3i64 × Bool)), ∃ (q86 : List GuideJourney), ∃ (a87 : Option Addr), ∃ (c88 : Nat), ∃ (n90 : Nat), ∃ (cs91 : List Value), x1 = pre74 ++ rest73 ∧ GuideAll_1_v1.loop1 x0 y1 y2 y3 self_GuideAll_1_v1 rest73 q83 q84 q85 q86 = some q71 ∧ s.Le s81 ∧ Ev 1 RGuideJourney s81 cs91 q86 ∧ q86.length = n90 ∧ Q_ = pc b69 #[.bool q84] 4 :: pc b68 #[.bool q83] 4 :: pc b67 #[.slice a0 x0.length c0] 26 :: pc pb0 #[.slice a87 n90 c88] 39 :: pc pb1 #[vi y1] 3 :: pc pb2 #[.slice a_y2_0 y2.Day.Trains.length c_y2_0, .slice a_y2_1 y2.Day.Turns.length c_y2_1, vi y2.least] 94 :: pc pb3 #[vi y3] 3 :: pc pb4 #[.map (some b_v1)] 128 :: pc pb5 #[.func (.func 75) #[] #[pp pb0, pp pb1, pp pb2, pp pb3, pp pb4, pp pb5]] 129 :: vecC 28 1 a87 c88 n90 cs91 :: mapC keyAr3i64.f Value.bool b_v1 q85 :: R) (fun _ s81 Q_ => ∃ (q83 : Bool), ∃ (q84 : Bool), ∃ (q85 : List (Ar3i64 × Bool)), ∃ (q86 : List GuideJourney), ∃ (a87 : Option Addr), ∃ (c88 : Nat), ∃ (n90 : Nat), ∃ (cs91 : List Value), (.ret (q83, q84, q85, q86)) = q71 ∧ s.Le s81 ∧ Ev 1 RGuideJourney s81 cs91 q86 ∧ q86.length = n90 ∧ Q_ = pc b69 #[.bool q84] 4 :: pc b68 #[.bool q83] 4 :: pc b67 #[.slice a0 x0.length c0] 26 :: pc pb0 #[.slice a87 n90 c88] 39 :: pc pb1 #[vi y1] 3 :: pc pb2 #[.slice a_y2_0 y2.Day.Trains.length c_y2_0, .slice a_y2_1 y2.Day.Turns.length c_y2_1, vi y2.least] 94 :: pc pb3 #[vi y3] 3 :: pc pb4 #[.map (some b_v1)] 128 :: pc pb5 #[.func (.func 75) #[] #[pp pb0, pp pb1, pp pb2, pp pb3, pp pb4, pp pb5]] 129 :: vecC 28 1 a87 c88 n90 cs91 :: mapC keyAr3i64.f Value.bool b_v1 q85 :: R) (fun _ _ _ h => (by obtain ⟨rest73, q83, q84, q85, q86, a87, c88, n90, cs91, _, _, hle_, _⟩ := h; exact hle_)) ⟨x1, false, false, y4_0, y0, a_v0, c_v0, y0.length, cs_v0, rfl, hq70, Sg.Le.refl _, h_v0, (rfl), rfl⟩ (fun x72 (b93 : Nat) => [(2, pp pb0), (3, pp pb1), (4, pp pb2), (5, pp pb3), (6, pp pb4), (7, pp pb5), (8, pp b67), (10, pp b68), (11, pp b69), (12, pp b93)]) (fun x72 (b93 : Nat) => [pc b93 (GuideRide.cells x72).toArray 47]) ?_ ?_ ?_ ?_
   ·intro x72 a w t80 R L78 hE hS
    refine W.region ?_
    refine WL.alloc hE hS (runs_plain rfl) zr47 rfl ?_; clear hE hS a w; intro b93 a w hE hS
    refine WL.storeI hE hS 0 rfl (GuideRide.cells x72) (runs_plain rfl) rfl rfl rfl ty47 rfl rfl rfl rfl ?_; clear hE hS a w; intro a w hE hS
    refine WL.nil ?_
    exact ⟨b93, hE.pick _ ⟨rfl, rfl, rfl, rfl, rfl, rfl, rfl, rfl, rfl, rfl, trivial⟩, hS⟩
   ·intro pre74 x72 b93 s81 Q_ T_ L78 a w hpre_ hI_ hE hS
    obtain ⟨rest73, q83, q84, q85, q86, a87, c88, n90, cs91, hl75, hq70, hle82, h89, rfl, rfl⟩ := hI_
    obtain ⟨rest73, rfl⟩ := pre_next hl75 hpre_
    rw [GuideAll_1_v1.loop1] at hq70
    replace hS : St w s81 (pc b93 (GuideRide.cells x72).toArray 47 :: pc b69 #[.bool q84] 4 :: pc b68 #[.bool q83] 4 :: pc b67 #[.slice a0 x0.length c0] 26 :: pc pb0 #[.slice a87 q86.length c88] 39 :: pc pb1 #[vi y1] 3 :: pc pb2 #[.slice a_y2_0 y2.Day.Trains.length c_y2_0, .slice a_y2_1 y2.Day.Turns.length c_y2_1, vi y2.least] 94 :: pc pb3 #[vi y3] 3 :: pc pb4 #[.map (some b_v1)] 128 :: pc pb5 #[.func (.func 75) #[] #[pp pb0, pp pb1, pp pb2, pp pb3, pp pb4, pp pb5]] 129 :: vecC 28 1 a87 c88 q86.length cs91 :: mapC keyAr3i64.f Value.bool b_v1 q85 :: (R ++ T_)) := hS
    generalize hT94 : R ++ T_ = R at hS
    refine W.gen fun K95 hK95 => ?_
    replace h0 := Sl.mono RGuideRide.mono hle82 h0
    replace h1 := Iter.mono hle82 h1
    replace h_y2_0 := Sl.mono RApiTrain.mono hle82 h_y2_0
    replace h_y2_1 := Sl.mono (RL.mono RI.mono) hle82 h_y2_1
    replace h_v0 := Ev.mono RGuideJourney.mono hle82 h_v0
    refine W.block ?_
    refine W.seq ?_
    refine W.seq (W.region (vP hS hE (Gives.loadB hE 4 rfl rfl rfl ty39) rfl fun a hE => ?_))
    refine vP hS hE (Gives.len hE rfl sl39) rfl fun a hE => ?_
    refine vP hS hE (Gives.loadB hE 5 rfl rfl rfl ty3) rfl fun a hE => ?_
    refine vp hS hE rfl rfl fun a hE => WL.nil ?_
    refine W.cond hE rfl (fun hc96 => ?_) (fun hc96 => ?_)
    ·replace hq70 := iteT hc96 hq70
     refine W.seq (W.region ?_)
     refine WL.storeI hE hS 2 rfl [.bool true] (runs_plain rfl) rfl rfl rfl ty4 rfl rfl rfl rfl ?_; clear hE hS a w; intro a w hE hS
     refine WL.nil ?_
     refine W.ret ?_
     subst hK95
     replace hS := hS.tail
     subst hT94
     exact ⟨s81, _, ⟨true, q84, q85, q86, a87, c88, q86.length, cs91, Option.some.inj hq70, hle82, h89, rfl, rfl⟩, hS⟩
    replace hq70 := iteF hc96 hq70
    refine W.skip ?_
    refine W.seq ?_
    refine W.gen fun K97 hK97 => ?_
    refine W.regionE (dup (fun w => St w s81 (pc b93 (GuideRide.cells x72).toArray 47 :: pc b69 #[.bool q84] 4 :: pc b68 #[.bool q83] 4 :: pc b67 #[.slice a0 x0.length c0] 26 :: pc pb0 #[.slice a87 q86.length c88] 39 :: pc pb1 #[vi y1] 3 :: pc pb2 #[.slice a_y2_0 y2.Day.Trains.length c_y2_0, .slice a_y2_1 y2.Day.Turns.length c_y2_1, vi y2.least] 94 :: pc pb3 #[vi y3] 3 :: pc pb4 #[.map (some b_v1)] 128 :: pc pb5 #[.func (.func 75) #[] #[pp pb0, pp pb1, pp pb2, pp pb3, pp pb4, pp pb5]] 129 :: vecC 28 1 a87 c88 q86.length cs91 :: mapC keyAr3i64.f Value.bool b_v1 q85 :: R))) (fun b i => cond b ([0, 1, 2, 3, 4, 5].contains i) ([0, 1, 2, 3, 4, 5].contains i)) mixed ?_
    replace hS := hS.drew
    refine tT (i := 0) true rfl hE rfl (by kernel_rfl) (Gives.loadB hE 3 rfl rfl rfl ty26) rfl hS hS fun a hE => ?_
    have hT := tw_sel (A := fun w => St w s81 _) (B := fun w => St w s81 _) (w := _) (x := true) (y := true) (fun _ => hS) (fun _ => hS)
    have hF := hS; replace hS := hS
    refine Rg.take (i := 2) true rfl hE rfl (by kernel_rfl) (runs_plain rfl) (Gives.loadBA hE 0 rfl rfl ty47) rfl hT fun a hE => ?_
    replace hS := hF; clear hF hT
    obtain ⟨q98, hq99, hq70⟩ := bindS hq70
    obtain ⟨x107, hx108, hq70⟩ := bindS hq70
    suffices key : ∀ cs111 a109 c110 (a : Act) (w : World), Ev 3 RGuideRide s81 cs111 x107 → Sl 3 RGuideRide s81 a0 c0 x0 → Sl 4 RApiTrain s81 a_y2_0 c_y2_0 y2.Day.Trains → Sl 1 (RL 1 (RI .i64)) s81 a_y2_1 c_y2_1 y2.Day.Turns → Ev 1 RGuideJourney s81 cs91 q86 → Rep a 61 [(2, pp pb0), (4, pp pb2), (5, pp pb3), (6, pp pb4), (7, pp pb5), (11, pp b69), (12, pp b93), (13, .slice a109 x107.length c110)] → St w s81 (vecC 47 3 a109 c110 x107.length cs111 :: pc b93 (GuideRide.cells x72).toArray 47 :: pc b69 #[.bool q84] 4 :: pc b68 #[.bool q83] 4 :: pc b67 #[.slice a0 x0.length c0] 26 :: pc pb0 #[.slice a87 q86.length c88] 39 :: pc pb1 #[vi y1] 3 :: pc pb2 #[.slice a_y2_0 y2.Day.Trains.length c_y2_0, .slice a_y2_1 y2.Day.Turns.length c_y2_1, vi y2.least] 94 :: pc pb3 #[vi y3] 3 :: pc pb4 #[.map (some b_v1)] 128 :: pc pb5 #[.func (.func 75) #[] #[pp pb0, pp pb1, pp pb2, pp pb3, pp pb4, pp pb5]] 129 :: vecC 28 1 a87 c88 q86.length cs91 :: mapC keyAr3i64.f Value.bool b_v1 q85 :: R) → K97.nor a w by
     refine Rg.many 1 [3] (by kernel_rfl) ⟨?_, ?_, trivial⟩
     ·refine Br.mk (i := 1) true true rfl (by kernel_rfl) (by kernel_rfl) ?_
      have hc_ := SlicesCloneLguideRide_ok hS h0 hq99
      refine WL.fnq hE (hc_) (runs_plain rfl) bd76 rfl rfl rfl ?_
      clear hE hS hc_; rintro e w ⟨a100, c101, n102, cs103, rfl, h104, rfl, hS⟩; refine ⟨_, rfl, ?_⟩; clear a; intro a hE
      refine WL.nil ?_
      refine ⟨⟨fun _ => (hS.tail), fun _ => (hS.tail)⟩, ?_⟩
      refine Rg.one (i := 3) true true rfl (by kernel_rfl) (by kernel_rfl) (by kernel_rfl) ?_
      refine WL.lit hE hS (e := 47) (es := 3) (vs := [(0, .agg (GuideRide.cells x72).toArray)]) (cs := [vi x72.Train, vi x72.On, vi x72.Off]) (runs_plain rfl) rfl (by kernel_rfl) rfl ?_; clear hE hS a w; intro b106 a w hE hS
      refine WL.nil ?_
      refine ⟨⟨fun _ => ((hS.tail).tail), fun _ => ((hS.tail).tail)⟩, ?_⟩
      refine Rg.one (i := 4) true true rfl (by kernel_rfl) (by kernel_rfl) (by kernel_rfl) ?_
      refine WL.appD hE hS 0 (m := 1) (runs_plain rfl) rfl rfl rfl ap26 rfl h104 rfl (xs := [x72]) (Ev.cons (c1 := [vi x72.Train, vi x72.On, vi x72.Off]) rfl rfl (Ev.nil)) rfl rfl hx108 rfl ?_; clear hE hS a w; intro a109 c110 cs111 a w h112 hE hS
      refine WL.nil ?_
      refine ⟨⟨fun _ => (hS.tail), fun _ => (hS.tail)⟩, ?_⟩
      refine tP (i := 5) hE rfl (by kernel_rfl) (Gives.p hE rfl) rfl (hS.tail) (hS.tail) fun a hE => ?_
      refine Rg.done (by kernel_rfl) ?_
      exact key _ _ _ _ _ h112 h0 h_y2_0 h_y2_1 h89 (hE.pick _ ⟨rfl, rfl, rfl, rfl, rfl, rfl, rfl, rfl, trivial⟩) hS
     refine Br.mk (i := 3) true true rfl (by kernel_rfl) (by kernel_rfl) ?_
     refine WL.lit hE hS (e := 47) (es := 3) (vs := [(0, .agg (GuideRide.cells x72).toArray)]) (cs := [vi x72.Train, vi x72.On, vi x72.Off]) (runs_plain rfl) rfl (by kernel_rfl) rfl ?_; clear hE hS a w; intro b106 a w hE hS
     refine WL.nil ?_
     refine ⟨⟨fun _ => (hS.tail), fun _ => (hS.tail)⟩, ?_⟩
     refine Rg.one (i := 1) true true rfl (by kernel_rfl) (by kernel_rfl) (by kernel_rfl) ?_
     have hc_ := SlicesCloneLguideRide_ok hS h0 hq99
     refine WL.fnq hE (hc_) (runs_plain rfl) bd76 rfl rfl rfl ?_
     clear hE hS hc_; rintro e w ⟨a100, c101, n102, cs103, rfl, h104, rfl, hS⟩; refine ⟨_, rfl, ?_⟩; clear a; intro a hE
     refine WL.nil ?_
     refine ⟨⟨fun _ => ((hS.tail).tail), fun _ => ((hS.tail).tail)⟩, ?_⟩
     refine Rg.one (i := 4) true true rfl (by kernel_rfl) (by kernel_rfl) (by kernel_rfl) ?_
     replace hS := hS.front 1 rfl
     refine WL.appD hE hS 0 (m := 1) (runs_plain rfl) rfl rfl rfl ap26 rfl h104 rfl (xs := [x72]) (Ev.cons (c1 := [vi x72.Train, vi x72.On, vi x72.Off]) rfl rfl (Ev.nil)) rfl rfl hx108 rfl ?_; clear hE hS a w; intro a109 c110 cs111 a w h112 hE hS
     refine WL.nil ?_
     refine ⟨⟨fun _ => (hS.tail), fun _ => (hS.tail)⟩, ?_⟩
     refine tP (i := 5) hE rfl (by kernel_rfl) (Gives.p hE rfl) rfl (hS.tail) (hS.tail) fun a hE => ?_
     refine Rg.done (by kernel_rfl) ?_
     exact key _ _ _ _ _ h112 h0 h_y2_0 h_y2_1 h89 (hE.pick _ ⟨rfl, rfl, rfl, rfl, rfl, rfl, rfl, rfl, trivial⟩) hS
    clear hE hS a w; intro cs111 a109 c110 a w h112 h0 h_y2_0 h_y2_1 h89 hE hS
    subst hK97
    refine W.seq ?_
    refine W.seq ?_
    refine W.gen fun K114 hK114 => ?_
    refine W.regionE (dup (fun w => St w s81 (vecC 47 3 a109 c110 x107.length cs111 :: pc b93 (GuideRide.cells x72).toArray 47 :: pc b69 #[.bool q84] 4 :: pc b68 #[.bool q83] 4 :: pc b67 #[.slice a0 x0.length c0] 26 :: pc pb0 #[.slice a87 q86.length c88] 39 :: pc pb1 #[vi y1] 3 :: pc pb2 #[.slice a_y2_0 y2.Day.Trains.length c_y2_0, .slice a_y2_1 y2.Day.Turns.length c_y2_1, vi y2.least] 94 :: pc pb3 #[vi y3] 3 :: pc pb4 #[.map (some b_v1)] 128 :: pc pb5 #[.func (.func 75) #[] #[pp pb0, pp pb1, pp pb2, pp pb3, pp pb4, pp pb5]] 129 :: vecC 28 1 a87 c88 q86.length cs91 :: mapC keyAr3i64.f Value.bool b_v1 q85 :: R))) (fun b i => cond b ([0, 1, 2, 3, 4, 5].contains i) ([0, 1, 2, 3, 4, 5].contains i)) mixed ?_
    replace hS := hS.drew
    refine tT (i := 0) true rfl hE rfl (by kernel_rfl) (Gives.loadBA hE 7 rfl rfl ty94) rfl hS hS fun a hE => ?_
    have hT := tw_sel (A := fun w => St w s81 _) (B := fun w => St w s81 _) (w := _) (x := true) (y := true) (fun _ => hS) (fun _ => hS)
    have hF := hS; replace hS := hS
    refine Rg.take (i := 1) true rfl hE rfl (by kernel_rfl) (runs_plain rfl) (Gives.loadBA hE 1 rfl rfl ty47) rfl hT fun a hE => ?_
    replace hS := hF; clear hF hT
    refine tT (i := 4) true rfl hE rfl (by kernel_rfl) (Gives.loadB hE 8 rfl rfl rfl ty3) rfl hS hS fun a hE => ?_
    refine Rg.one (i := 2) true true rfl (by kernel_rfl) (by kernel_rfl) (by kernel_rfl) ?_
    obtain ⟨q115, hq116, hq70⟩ := bindS hq70
    have hc_ := GuideNetoff_ok hS h_y2_0 h_y2_1 hq116
    refine WL.fnq hE (hc_) (runs_plain rfl) bd77 rfl rfl rfl ?_
    clear hE hS hc_; rintro e w ⟨cs117, s119, rfl, hle120, h118, hS⟩; refine ⟨_, rfl, ?_⟩; clear a; intro a hE
    replace h_y2_0 := Sl.mono RApiTrain.mono hle120 h_y2_0
    replace h_y2_1 := Sl.mono (RL.mono RI.mono) hle120 h_y2_1
    replace h112 := Ev.mono RGuideRide.mono hle120 h112
    replace h0 := Sl.mono RGuideRide.mono hle120 h0
    replace h89 := Ev.mono RGuideJourney.mono hle120 h89
    subst h118
    refine WL.nil ?_
    refine ⟨⟨fun _ => (St.down hle120 hS), fun _ => (St.down hle120 hS)⟩, ?_⟩
    refine tP (i := 3) hE rfl (by kernel_rfl) (Gives.field1 hE rfl fd106_0 ty3 rfl) rfl (St.down hle120 hS) (St.down hle120 hS) fun a hE => ?_
    refine tP (i := 5) hE rfl (by kernel_rfl) (Gives.p hE rfl) rfl (St.down hle120 hS) (St.down hle120 hS) fun a hE => ?_
    refine Rg.done (by kernel_rfl) ?_
    subst hK114
    have hF := hS.fixD RGuideRide.mono 0 rfl h112 (rfl); clear hS; obtain ⟨s121, hle122, hS, h123⟩ := hF
    replace h_y2_0 := Sl.mono RApiTrain.mono hle122 h_y2_0
    replace h_y2_1 := Sl.mono (RL.mono RI.mono) hle122 h_y2_1
    replace h0 := Sl.mono RGuideRide.mono hle122 h0
    replace h89 := Ev.mono RGuideJourney.mono hle122 h89
    obtain ⟨q125, hq124, hq70⟩ := bindS hq70
    refine W.cut (fun a w => ∃ (q128 : Bool), ∃ (q129 : List GuideJourney), ∃ (a130 : Option Addr), ∃ (c131 : Nat), ∃ (n133 : Nat), ∃ (cs134 : List Value), (q128, q129) = q125 ∧ Ev 1 RGuideJourney s121 cs134 q129 ∧ q129.length = n133 ∧ Rep a 61 [(4, pp pb2), (6, pp pb4), (7, pp pb5), (11, pp b69), (12, pp b93), (13, .slice a109 x107.length c110)] ∧ St w s121 (pc b93 (GuideRide.cells x72).toArray 47 :: pc b69 #[.bool q128] 4 :: pc b68 #[.bool q83] 4 :: pc b67 #[.slice a0 x0.length c0] 26 :: pc pb0 #[.slice a130 n133 c131] 39 :: pc pb1 #[vi y1] 3 :: pc pb2 #[.slice a_y2_0 y2.Day.Trains.length c_y2_0, .slice a_y2_1 y2.Day.Turns.length c_y2_1, vi y2.least] 94 :: pc pb3 #[vi y3] 3 :: pc pb4 #[.map (some b_v1)] 128 :: pc pb5 #[.func (.func 75) #[] #[pp pb0, pp pb1, pp pb2, pp pb3, pp pb4, pp pb5]] 129 :: vecC 28 1 a130 c131 n133 cs134 :: mapC keyAr3i64.f Value.bool b_v1 q85 :: R)) ?_ ?_
    ·refine W.gen fun K136 hK136 => ?_
     refine W.cond hE rfl (fun hc137 => ?_) (fun hc137 => ?_)
     ·replace hq124 := iteT hc137 hq124
      refine W.seq (W.region (vP hS hE (Gives.loadB hE 4 rfl rfl rfl ty39) rfl fun a hE => ?_))
      refine vp hS hE rfl rfl fun a hE => ?_
      refine vP hS hE (Gives.build hE (vs := [(0, .slice a109 x107.length c110)]) [.slice a109 x107.length c110] rfl (by kernel_rfl)) rfl fun a hE => ?_
      refine WL.lit hE hS (e := 28) (es := 1) (vs := [(0, .agg [.slice a109 x107.length c110].toArray)]) (cs := [.slice a109 x107.length c110]) (runs_plain rfl) rfl (by kernel_rfl) rfl ?_; clear hE hS a w; intro b138 a w hE hS
      obtain ⟨x139, hx140, hq124⟩ := bindS hq124
      refine WL.appD hE hS 10 (m := 1) (runs_plain rfl) rfl rfl rfl ap39 rfl h89 rfl (xs := [(GuideJourney.mk x107)]) (Ev.cons (c1 := [.slice a109 x107.length c110]) ⟨_, _, rfl, h123⟩ rfl (Ev.nil)) rfl rfl hx140 rfl ?_; clear hE hS a w; intro a141 c142 cs143 a w h144 hE hS
      refine WL.storeI hE hS 4 rfl [.slice a141 x139.length c142] (runs_plain rfl) rfl rfl rfl ty39 rfl rfl rfl rfl ?_; clear hE hS a w; intro a w hE hS
      refine WL.nil ?_
      refine W.region ?_
      refine WL.storeI hE hS 1 rfl [.bool true] (runs_plain rfl) rfl rfl rfl ty4 rfl rfl rfl rfl ?_; clear hE hS a w; intro a w hE hS
      refine WL.nil ?_
      subst hK136
      exact ⟨true, x139, a141, c142, x139.length, cs143, Option.some.inj hq124, h144, (rfl), hE.pick _ ⟨rfl, rfl, rfl, rfl, rfl, rfl, trivial⟩, hS⟩
     replace hq124 := iteF hc137 hq124
     refine W.skip ?_
     subst hK136
     exact ⟨q84, q86, a87, c88, q86.length, cs91, Option.some.inj hq124, h89, rfl, hE.pick _ ⟨rfl, rfl, rfl, rfl, rfl, rfl, trivial⟩, hS⟩
    clear hE hS a w; rintro a w ⟨q128, q129, a130, c131, n133, cs134, rfl, h132, rfl, hE, hS⟩
    dsimp only at hq70
    refine W.seq (W.region (vP hS hE (Gives.fld hE rfl fl47_0) rfl fun a hE => ?_))
    refine vP hS hE (Gives.loadB hE 0 rfl rfl rfl ty3) rfl fun a hE => ?_
    refine vP hS hE (Gives.fld hE rfl fl47_2) rfl fun a hE => ?_
    refine vP hS hE (Gives.loadB hE 0 rfl rfl rfl ty3) rfl fun a hE => ?_
    refine vp hS hE rfl rfl fun a hE => ?_
    refine vP hS hE (Gives.len hE rfl sl26) rfl fun a hE => ?_
    refine vP hS hE (Gives.build hE (vs := [(0, vi x72.Train), (1, vi x72.Off), (2, vi ((x107).length : Int))]) [vi x72.Train, vi x72.Off, vi ((x107).length : Int)] rfl (by kernel_rfl)) rfl fun a hE => ?_
    refine WL.alloc hE hS (runs_plain rfl) zr132 rfl ?_; clear hE hS a w; intro b145 a w hE hS
    refine WL.storeI hE hS 0 rfl [vi x72.Train, vi x72.Off, vi ((x107).length : Int)] (runs_plain rfl) rfl rfl rfl ty132 rfl rfl rfl rfl ?_; clear hE hS a w; intro a w hE hS
    refine WL.nil ?_
    refine W.seq ?_
    refine W.seq ?_
    obtain ⟨q147, hq146, hq70⟩ := bndS hq70
    refine W.cut (fun a w => ∃ (q150 : Bool), q150 = q147 ∧ Rep a 61 [(4, pp pb2), (6, pp pb4), (7, pp pb5), (11, pp b69), (12, pp b93), (13, .slice a109 x107.length c110), (14, pp b145), (51, .bool q150)] ∧ St w s121 (pc b145 #[vi x72.Train, vi x72.Off, vi ((x107).length : Int)] 132 :: pc b93 (GuideRide.cells x72).toArray 47 :: pc b69 #[.bool q128] 4 :: pc b68 #[.bool q83] 4 :: pc b67 #[.slice a0 x0.length c0] 26 :: pc pb0 #[.slice a130 q129.length c131] 39 :: pc pb1 #[vi y1] 3 :: pc pb2 #[.slice a_y2_0 y2.Day.Trains.length c_y2_0, .slice a_y2_1 y2.Day.Turns.length c_y2_1, vi y2.least] 94 :: pc pb3 #[vi y3] 3 :: pc pb4 #[.map (some b_v1)] 128 :: pc pb5 #[.func (.func 75) #[] #[pp pb0, pp pb1, pp pb2, pp pb3, pp pb4, pp pb5]] 129 :: vecC 28 1 a130 c131 q129.length cs134 :: mapC keyAr3i64.f Value.bool b_v1 q85 :: R)) ?_ ?_
    ·refine W.gen fun K151 hK151 => ?_
     refine W.region ?_
     refine vp hS hE rfl rfl fun a hE => ?_
     refine vP hS hE (Gives.len hE rfl sl26) rfl fun a hE => ?_
     refine v2 hS hE rfl rfl rfl rfl fun a hE => ?_
     rcases Bool.eq_false_or_eq_true (((x107).length : Int) == 4) with hg152 | hg152
     ·replace hq146 := iteT hg152 hq146
      refine nO hE rfl rfl rfl (by rw [hg152]; decide) rfl fun a hE => ?_
      refine nO hE rfl rfl rfl (by rw [hg152]; decide) rfl fun a hE => ?_
      refine nO hE rfl rfl rfl (by rw [hg152]; decide) rfl fun a hE => ?_
      refine vP hS hE (Gives.pickT hE rfl hg152 rfl) rfl fun a hE => WL.nil ?_
      subst hK151
      exact ⟨true, hq146, hE.pick _ ⟨rfl, rfl, rfl, rfl, rfl, rfl, rfl, rfl, trivial⟩, hS⟩
     replace hq146 := iteF hg152 hq146
     refine WL.vS hS hE (runs_if hE rfl rfl rfl hg152) (Gives.loadB hE 9 rfl rfl rfl ty128) rfl fun a hE => ?_
     refine WL.vS hS hE (runs_if hE rfl rfl rfl hg152) (Gives.loadBA hE 0 rfl rfl ty132) rfl fun a hE => ?_
     refine WL.vS hS hE (runs_if hE rfl rfl rfl hg152) (Gives.mapGetG (KeyS.arr keyAr3i64 rfl arS_132) hE 12 (k := (Ar3i64.mk x72.Train x72.Off ((x107).length : Int))) (z := false) rfl rfl rfl um128 zm4) rfl fun a hE => ?_
     refine vP hS hE (Gives.pickF hE rfl hg152 rfl) rfl fun a hE => WL.nil ?_
     subst hK151
     exact ⟨((mget q85 (Ar3i64.mk x72.Train x72.Off ((x107).length : Int))).getD false), hq146, hE.pick _ ⟨rfl, rfl, rfl, rfl, rfl, rfl, rfl, rfl, trivial⟩, hS⟩
    clear hE hS a w; rintro a w ⟨q150, rfl, hE, hS⟩
    refine W.cond hE rfl (fun hc153 => ?_) (fun hc153 => ?_)
    ·replace hq70 := iteT hc153 hq70
     refine W.exit rfl ?_
     replace hS := hS.tail
     replace hS := hS.tail
     subst hK95
     subst hT94
     exact ⟨s121, _, ⟨rest73, q83, q128, q85, q129, a130, c131, q129.length, cs134, hl75.trans (by simp), hq70, (Sg.Le.trans (Sg.Le.trans hle82 hle120) hle122), h132, rfl, rfl⟩, hS⟩
    replace hq70 := iteF hc153 hq70
    refine W.skip ?_
    refine W.seq ?_
    refine W.gen fun K154 hK154 => ?_
    refine W.regionE (sel (fun w => St w s121 (pc b145 #[vi x72.Train, vi x72.Off, vi ((x107).length : Int)] 132 :: pc b93 (GuideRide.cells x72).toArray 47 :: pc b69 #[.bool q128] 4 :: pc b68 #[.bool q83] 4 :: pc b67 #[.slice a0 x0.length c0] 26 :: pc pb0 #[.slice a130 q129.length c131] 39 :: pc pb1 #[vi y1] 3 :: pc pb2 #[.slice a_y2_0 y2.Day.Trains.length c_y2_0, .slice a_y2_1 y2.Day.Turns.length c_y2_1, vi y2.least] 94 :: pc pb3 #[vi y3] 3 :: pc pb4 #[.map (some b_v1)] 128 :: pc pb5 #[.func (.func 75) #[] #[pp pb0, pp pb1, pp pb2, pp pb3, pp pb4, pp pb5]] 129 :: vecC 28 1 a130 c131 q129.length cs134 :: mapC keyAr3i64.f Value.bool b_v1 q85 :: R)) (fun w => St w s121 (pc b145 #[vi x72.Train, vi x72.Off, vi ((x107).length : Int)] 132 :: pc b93 (GuideRide.cells x72).toArray 47 :: pc b69 #[.bool q128] 4 :: pc b68 #[.bool q83] 4 :: pc b67 #[.slice a0 x0.length c0] 26 :: pc pb1 #[vi y1] 3 :: pc pb2 #[.slice a_y2_0 y2.Day.Trains.length c_y2_0, .slice a_y2_1 y2.Day.Turns.length c_y2_1, vi y2.least] 94 :: pc pb3 #[vi y3] 3 :: pc pb4 #[.map (some b_v1)] 128 :: pc pb5 #[.func (.func 75) #[] #[pp pb0, pp pb1, pp pb2, pp pb3, pp pb4, pp pb5]] 129 :: R))) (fun b i => cond b ([0, 1, 2, 3, 4].contains i) ([0, 1, 2, 3, 4, 5].contains i)) mixed ?_
    replace hS := hS.drew
    refine tT (i := 0) true rfl hE rfl (by kernel_rfl) (Gives.loadB hE 10 rfl rfl rfl ty129) rfl hS (((hS.dropAt 5).dropAt 10).dropAt 10) fun a hE => ?_
    refine tP (i := 1) hE rfl (by kernel_rfl) (Gives.p hE rfl) rfl hS (((hS.dropAt 5).dropAt 10).dropAt 10) fun a hE => ?_
    have hT := tw_sel (A := fun w => St w s121 _) (B := fun w => St w s121 _) (w := _) (x := true) (y := true) (fun _ => hS) (fun _ => (((hS.dropAt 5).dropAt 10).dropAt 10))
    have hF := hS; replace hS := (((hS.dropAt 5).dropAt 10).dropAt 10)
    refine Rg.take (i := 2) false rfl hE rfl (by kernel_rfl) (runs_plain rfl) (Gives.loadBA hE 6 rfl rfl ty94) rfl hT fun a hE => ?_
    replace hS := hF; clear hF hT
    have hT := tw_sel (A := fun w => St w s121 _) (B := fun w => St w s121 _) (w := _) (x := true) (y := true) (fun _ => hS) (fun _ => (((hS.dropAt 5).dropAt 10).dropAt 10))
    have hF := hS; replace hS := (((hS.dropAt 5).dropAt 10).dropAt 10)
    refine Rg.take (i := 3) false rfl hE rfl (by kernel_rfl) (runs_plain rfl) (Gives.loadBA hE 1 rfl rfl ty47) rfl hT fun a hE => ?_
    replace hS := hF; clear hF hT
    refine Rg.one (i := 4) true true rfl (by kernel_rfl) (by kernel_rfl) (by kernel_rfl) ?_
    obtain ⟨q155, hq156, hq70⟩ := bindS hq70
    have hc_ := GuideNetbehind_ok hS h_y2_0 h_y2_1 hq156
    refine WL.fnq hE (hc_) (runs_plain rfl) bd78 rfl rfl rfl ?_
    clear hE hS hc_; rintro e w ⟨lb157, s159, rfl, hle160, h158, hS⟩; refine ⟨_, rfl, ?_⟩; clear a; intro a hE
    replace h123 := Sl.mono RGuideRide.mono hle160 h123
    replace h_y2_0 := Sl.mono RApiTrain.mono hle160 h_y2_0
    replace h_y2_1 := Sl.mono (RL.mono RI.mono) hle160 h_y2_1
    replace h0 := Sl.mono RGuideRide.mono hle160 h0
    replace h132 := Ev.mono RGuideJourney.mono hle160 h132
    refine WL.nil ?_
    refine ⟨⟨fun _ => (St.down hle160 hS), fun _ => (St.down hle160 (((hS.dropAt 5).dropAt 10).dropAt 10))⟩, ?_⟩
    refine Rg.one (i := 5) false true rfl (by kernel_rfl) (by kernel_rfl) (by kernel_rfl) ?_
    obtain ⟨q161, hq162, hq70⟩ := bindS hq70
    replace hS := hS.front 12 rfl
    replace hS := hS.front 12 rfl
    replace hS := hS.front 12 rfl
    replace hS := hS.front 12 rfl
    replace hS := hS.front 12 rfl
    replace hS := hS.front 12 rfl
    replace hS := hS.front 12 rfl
    replace hS := hS.front 12 rfl
    have hc_ := ih_GuideAll_1_v1 (y2 := y2) hS h123 h158 h132 rfl h_y2_0 h_y2_1 hq162
    refine WL.fnw hE (hc_) rfl (runs_plain rfl) bd75 rfl rfl rfl ?_
    clear hE hS hc_; rintro e w ⟨a163, c164, n165, cs166, s168, rfl, hle169, h167, rfl, hS⟩; refine ⟨_, rfl, ?_⟩; clear a; intro a hE
    replace h123 := Sl.mono RGuideRide.mono hle169 h123
    replace h_y2_0 := Sl.mono RApiTrain.mono hle169 h_y2_0
    replace h_y2_1 := Sl.mono (RL.mono RI.mono) hle169 h_y2_1
    replace h158 := Iter.mono hle169 h158
    replace h132 := Ev.mono RGuideJourney.mono hle169 h132
    replace h0 := Sl.mono RGuideRide.mono hle169 h0
    refine WL.nil ?_
    refine ⟨⟨fun h => absurd h (by decide), fun _ => (St.down (Sg.Le.trans hle160 hle169) (St.order (((hS.tail).dropAt 5).dropAt 5) [5, 5, 5, 5, 5, 0, 0, 0, 0, 0] (by kernel_rfl)))⟩, ?_⟩
    refine Rg.done (by kernel_rfl) ?_
    subst hK154
    obtain ⟨q171, hq170, hq70⟩ := bndS hq70
    refine W.cut (fun a w => ∃ (q174 : Bool), ∃ (q175 : List (Ar3i64 × Bool)), (q174, q175) = q171 ∧ Rep a 61 [] ∧ St w s168 (pc pb0 #[.slice a163 q161.2.2.length c164] 39 :: pc pb1 #[vi y1] 3 :: pc pb2 #[.slice a_y2_0 y2.Day.Trains.length c_y2_0, .slice a_y2_1 y2.Day.Turns.length c_y2_1, vi y2.least] 94 :: pc pb3 #[vi y3] 3 :: pc pb4 #[.map (some b_v1)] 128 :: pc pb5 #[.func (.func 75) #[] #[pp pb0, pp pb1, pp pb2, pp pb3, pp pb4, pp pb5]] 129 :: vecC 28 1 a163 c164 q161.2.2.length cs166 :: mapC keyAr3i64.f Value.bool b_v1 q175 :: pc b145 #[vi x72.Train, vi x72.Off, vi ((x107).length : Int)] 132 :: pc b93 (GuideRide.cells x72).toArray 47 :: pc b69 #[.bool q174] 4 :: pc b68 #[.bool q83] 4 :: pc b67 #[.slice a0 x0.length c0] 26 :: R)) ?_ ?_
    ·refine W.gen fun K176 hK176 => ?_
     refine W.cond hE rfl (fun hc177 => ?_) (fun hc177 => ?_)
     ·replace hq170 := iteT hc177 hq170
      refine W.region ?_
      refine WL.storeI hE hS 10 rfl [.bool true] (runs_plain rfl) rfl rfl rfl ty4 rfl rfl rfl rfl ?_; clear hE hS a w; intro a w hE hS
      refine WL.nil ?_
      subst hK176
      exact ⟨true, q161.2.1, hq170, hE.pick _ trivial, hS⟩
     replace hq170 := iteF hc177 hq170
     refine W.region ?_
     refine vP hS hE (Gives.loadB hE 4 rfl rfl rfl ty128) rfl fun a hE => ?_
     refine vP hS hE (Gives.loadBA hE 8 rfl rfl ty132) rfl fun a hE => ?_
     refine WL.mapSetG (KeyS.arr keyAr3i64 rfl arS_132) hE hS 7 (k := (Ar3i64.mk x72.Train x72.Off ((x107).length : Int))) (v := true) (.inl rfl) (runs_plain rfl) rfl rfl rfl rfl um128 rfl ?_; clear hE hS a w; intro a w hE hS
     refine WL.nil ?_
     subst hK176
     exact ⟨q128, (mput q161.2.1 (Ar3i64.mk x72.Train x72.Off ((x107).length : Int)) true), hq170, hE.pick _ trivial, hS⟩
    clear hE hS a w; rintro a w ⟨q174, q175, rfl, hE, hS⟩
    dsimp only at hq70
    replace hS := hS.dropAt 8
    replace hS := hS.dropAt 8
    replace hS := hS.order [8, 8, 8, 0, 0, 0, 0, 0, 0, 0, 0] rfl
    subst hK95
    subst hT94
    exact ⟨s168, _, ⟨rest73, q83, q174, q175, q161.2.2, a163, c164, q161.2.2.length, cs166, hl75.trans (by simp), hq70, (Sg.Le.trans (Sg.Le.trans (Sg.Le.trans (Sg.Le.trans hle82 hle120) hle122) hle160) hle169), h167, rfl, rfl⟩, hS⟩
   ·intro s81 Q_ D77 a w hI_ hE hS
    obtain ⟨rest73, q83, q84, q85, q86, a87, c88, n90, cs91, hl75, hq70, hle82, h89, rfl, rfl⟩ := hI_
    obtain rfl := pre_end hl75
    rw [GuideAll_1_v1.loop1] at hq70
    exact ⟨q83, q84, q85, q86, _, _, _, _, D77, s81, hle82, Option.some.inj hq70, h89, rfl, hE.pick _ ⟨rfl, rfl, rfl, trivial⟩, hS⟩
   intro c_ s81 Q_ D77 a w hc_ hX_ hE hS
   obtain rfl : c_ = .ret := hc_.elim id (fun h => (by obtain ⟨_, h, _⟩ := h; cases h))
   obtain ⟨q83, q84, q85, q86, a87, c88, n90, cs91, rfl, hle82, h89, rfl, rfl⟩ := hX_
   dsimp only at hr
   replace h0 := Sl.mono RGuideRide.mono hle82 h0
   replace h1 := Iter.mono hle82 h1
   replace h_y2_0 := Sl.mono RApiTrain.mono hle82 h_y2_0
   replace h_y2_1 := Sl.mono (RL.mono RI.mono) hle82 h_y2_1
   replace h_v0 := Ev.mono RGuideJourney.mono hle82 h_v0
   refine W.ret ?_
   refine finGM (fn := Tryd.f75) (rs := [.cell 10 4]) (vs := [.bool q83]) hE hS 0 rfl rfl ?_
   clear hS; intro w hS
   refine ⟨⟨⟨_, rfl, .inr ⟨hS.seesAt 1 rfl, ty4⟩⟩, trivial⟩, ?_⟩
   obtain rfl := Option.some.inj hr
   replace hS := hS.tail
   replace hS := hS.tail
   replace hS := hS.tail
   exact ⟨a87, c88, q86.length, cs91, s81, rfl, hle82, h89, rfl, hS⟩
  clear hE hS a w; rintro a w ⟨q83, q84, q85, q86, a87, c88, n90, cs91, D77, s81, hle82, rfl, h89, rfl, hE, hS⟩
  dsimp only at hr
  replace h0 := Sl.mono RGuideRide.mono hle82 h0
  replace h1 := Iter.mono hle82 h1
  replace h_y2_0 := Sl.mono RApiTrain.mono hle82 h_y2_0
  replace h_y2_1 := Sl.mono (RL.mono RI.mono) hle82 h_y2_1
  replace h_v0 := Ev.mono RGuideJourney.mono hle82 h_v0
  refine W.seq (W.region (vP hS hE (Gives.loadB hE 1 rfl rfl rfl ty4) rfl fun a hE => ?_))
  refine WL.storeI hE hS 2 rfl [.bool q84] (runs_plain rfl) rfl rfl rfl ty4 rfl rfl rfl rfl ?_; clear hE hS a w; intro a w hE hS
  refine WL.nil ?_
  refine W.ret ?_
  refine finGM (fn := Tryd.f75) (rs := [.cell 10 4]) (vs := [.bool q84]) hE hS 0 rfl rfl ?_
  clear hS; intro w hS
  refine ⟨⟨⟨_, rfl, .inr ⟨hS.seesAt 1 rfl, ty4⟩⟩, trivial⟩, ?_⟩
  obtain rfl := Option.some.inj hr
  replace hS := hS.tail
  replace hS := hS.tail
  replace hS := hS.tail
  exact ⟨a87, c88, q86.length, cs91, s81, rfl, hle82, h89, rfl, hS⟩
set_option maxHeartbeats 8000000 in
theorem GuideAll_ok {fu : Nat}  {w : World} {s : Sg} {R : List HP} {x0 : ApiDay} {a0_0 : Option Addr} {c0_0 : Nat} {a0_1 : Option Addr} {c0_1 : Nat} {x1 : Int} {x2 : Int} {x3 : Int} {x4 : Int} (hS : St w s (R)) (hTab : TabS Tryd.prog s) (h0_0 : Sl 4 RApiTrain s a0_0 c0_0 x0.Trains) (h0_1 : Sl 1 (RL 1 (RI .i64)) s a0_1 c0_1 x0.Turns) {r : (List GuideJourney) × Int} (hr : GuideAll fu x0 x1 x2 x3 x4 = some r) :
  Calls Tryd.prog 26 [.agg [.slice a0_0 x0.Trains.length c0_0, .slice a0_1 x0.Turns.length c0_1].toArray, vi x1, vi x2, vi x3, vi x4].toArray w (fun e w => ∃ (a0 : Option Addr) (c0 n0 : Nat) (cs0 : List Value) (t : Sg), e = .returned (.tuple #[.slice a0 n0 c0, vi r.2]) ∧ s.Le t ∧ Ev 1 RGuideJourney t cs0 r.1 ∧ r.1.length = n0 ∧ St w t (vecC 28 1 a0 c0 n0 cs0 :: R)) := by
 refine enter Tryd.func26 rfl rfl rfl fun a hE => ?_
 rw [GuideAll] at hr
 refine W.seq (W.region ?_)
 refine WL.box hE hS (runs_plain rfl) rfl rfl rfl ?_; clear hE hS a w; intro b51 a w hE hS
 refine WL.box hE hS (runs_plain rfl) rfl rfl rfl ?_; clear hE hS a w; intro b52 a w hE hS
 refine WL.box hE hS (runs_plain rfl) rfl rfl rfl ?_; clear hE hS a w; intro b53 a w hE hS
 refine v2 hS hE rfl rfl rfl rfl fun a hE => WL.nil ?_
 refine W.seq ?_
 refine W.seq (W.region (vP hS hE (Gives.loadBA hE 2 rfl rfl ty25) rfl fun a hE => ?_))
 refine v2 hS hE rfl rfl rfl rfl fun a hE => ?_
 refine vP hS hE (Gives.loadB hE 1 rfl rfl rfl ty3) rfl fun a hE => ?_
 obtain ⟨q54, hq55, hr⟩ := bindS hr
 have hc_ := Guidecheck_ok hS (TabS.mono (Sg.Le.refl _) hTab) h0_0 h0_1 Sl.nil hq55
 refine WL.fnq hE (hc_) (runs_plain rfl) bd46 rfl rfl rfl ?_
 clear hE hS hc_; rintro e w ⟨rfl, hS⟩; refine ⟨_, rfl, ?_⟩; clear a; intro a hE
 refine vp hS hE rfl rfl fun a hE => WL.nil ?_
 refine W.seq (W.region (v2 hS hE rfl rfl rfl rfl fun a hE => WL.nil ?_))
 refine W.cond hE rfl (fun hc56 => ?_) (fun hc56 => ?_)
 ·replace hr := iteT hc56 hr
  refine W.seq (W.region (v2 hS hE rfl rfl rfl rfl fun a hE => ?_))
  refine vp hS hE rfl rfl fun a hE => WL.nil ?_
  refine W.ret ?_
  replace hS := hS.vecNil 28 1
  refine finG (fn := Tryd.f26) (rs := [.tmp 10, .tmp 11]) (vs := [_, _]) hE rfl ⟨rfl, rfl, trivial⟩ ?_
  obtain rfl := Option.some.inj hr
  replace hS := hS.dropAt 1
  replace hS := hS.dropAt 1
  replace hS := hS.dropAt 1
  exact ⟨none, 0, 0, [], s, rfl, (Sg.Le.refl _), (Ev.nil), (rfl), hS⟩
 replace hr := iteF hc56 hr
 refine W.skip ?_
 refine W.seq ?_
 refine W.seq (W.region (vP hS hE (Gives.loadB hE 0 rfl rfl rfl ty3) rfl fun a hE => ?_))
 refine WL.fnq hE (Guidewithin_ok hS  rfl (r := Guidewithin x4 0 200)) (runs_plain rfl) bd66 rfl rfl rfl ?_
 clear hE hS; rintro e w ⟨rfl, hS⟩; refine ⟨_, rfl, ?_⟩; clear a; intro a hE
 refine vp hS hE rfl rfl fun a hE => WL.nil ?_
 refine W.cond hE rfl (fun hc58 => ?_) (fun hc58 => ?_)
 ·replace hr := iteT hc58 hr
  refine W.seq (W.region (v2 hS hE rfl rfl rfl rfl fun a hE => WL.nil ?_))
  refine W.ret ?_
  replace hS := hS.vecNil 28 1
  refine finG (fn := Tryd.f26) (rs := [.tmp 10, .tmp 11]) (vs := [_, _]) hE rfl ⟨rfl, rfl, trivial⟩ ?_
  obtain rfl := Option.some.inj hr
  replace hS := hS.dropAt 1
  replace hS := hS.dropAt 1
  replace hS := hS.dropAt 1
  exact ⟨none, 0, 0, [], s, rfl, (Sg.Le.refl _), (Ev.nil), (rfl), hS⟩
 replace hr := iteF hc58 hr
 refine W.skip ?_
 refine W.seq (W.region (vP hS hE (Gives.loadBA hE 2 rfl rfl ty25) rfl fun a hE => ?_))
 refine vp hS hE rfl rfl fun a hE => ?_
 refine vP hS hE (Gives.build hE (vs := [(0, .agg [.slice a0_0 x0.Trains.length c0_0, .slice a0_1 x0.Turns.length c0_1].toArray), (1, vi x3)]) [.slice a0_0 x0.Trains.length c0_0, .slice a0_1 x0.Turns.length c0_1, vi x3] rfl (by kernel_rfl)) rfl fun a hE => ?_
 refine WL.alloc hE hS (runs_plain rfl) zr94 rfl ?_; clear hE hS a w; intro b60 a w hE hS
 refine WL.storeI hE hS 0 rfl [.slice a0_0 x0.Trains.length c0_0, .slice a0_1 x0.Turns.length c0_1, vi x3] (runs_plain rfl) rfl rfl rfl ty94 rfl rfl rfl rfl ?_; clear hE hS a w; intro a w hE hS
 refine WL.nil ?_
 refine W.seq (W.region ?_)
 refine WL.alloc hE hS (runs_plain rfl) zr39 rfl ?_; clear hE hS a w; intro b61 a w hE hS
 refine WL.nil ?_
 refine W.seq (W.region ?_)
 refine WL.mkMap (fk := keyAr3i64.f) (fv := Value.bool) hE hS (runs_plain rfl) rfl ?_; clear hE hS a w; intro b62 a w hE hS
 refine WL.alloc hE hS (runs_plain rfl) zr128 rfl ?_; clear hE hS a w; intro b63 a w hE hS
 refine WL.storeI hE hS 0 rfl [.map (some b62)] (runs_plain rfl) rfl rfl rfl ty128 rfl rfl rfl rfl ?_; clear hE hS a w; intro a w hE hS
 refine WL.nil ?_
 refine W.seq (W.region ?_)
 refine WL.alloc hE hS (runs_plain rfl) zr129 rfl ?_; clear hE hS a w; intro b64 a w hE hS
 refine WL.nil ?_
 refine W.seq (W.region ?_)
 replace hS := hS.vecNil 28 1
 refine vP hS hE (Gives.mkfn hE (vs := [pp b61, pp b53, pp b60, pp b52, pp b63, pp b64]) rfl) rfl fun a hE => ?_
 refine WL.storeI hE hS 1 rfl [.func (.func 75) #[] #[pp b61, pp b53, pp b60, pp b52, pp b63, pp b64]] (runs_plain rfl) rfl rfl rfl ty129 rfl rfl rfl rfl ?_; clear hE hS a w; intro a w hE hS
 refine WL.nil ?_
 refine W.seq ?_
 refine W.gen fun K66 hK66 => ?_
 refine W.regionE (sel (fun w => St w s (vecC 28 1 none 0 0 [] :: pc b64 #[.func (.func 75) #[] #[pp b61, pp b53, pp b60, pp b52, pp b63, pp b64]] 129 :: pc b63 #[.map (some b62)] 128 :: mapC keyAr3i64.f Value.bool b62 [] :: pc b61 #[.slice none 0 0] 39 :: pc b60 #[.slice a0_0 x0.Trains.length c0_0, .slice a0_1 x0.Turns.length c0_1, vi x3] 94 :: pc b53 #[vi x4] 3 :: pc b52 #[vi x2] 3 :: pc b51 #[.slice a0_0 x0.Trains.length c0_0, .slice a0_1 x0.Turns.length c0_1] 25 :: R)) (fun w => St w s (pc b64 #[.func (.func 75) #[] #[pp b61, pp b53, pp b60, pp b52, pp b63, pp b64]] 129 :: pc b63 #[.map (some b62)] 128 :: pc b60 #[.slice a0_0 x0.Trains.length c0_0, .slice a0_1 x0.Turns.length c0_1, vi x3] 94 :: pc b53 #[vi x4] 3 :: pc b52 #[vi x2] 3 :: pc b51 #[.slice a0_0 x0.Trains.length c0_0, .slice a0_1 x0.Turns.length c0_1] 25 :: R))) (fun b i => cond b ([0, 1, 2, 3].contains i) ([0, 1, 2, 3, 4].contains i)) mixed ?_
 replace hS := hS.drew
 refine tT (i := 0) true rfl hE rfl (by kernel_rfl) (Gives.loadB hE 1 rfl rfl rfl ty129) rfl hS (((hS.tail).dropAt 2).dropAt 2) fun a hE => ?_
 have hT := tw_sel (A := fun w => St w s _) (B := fun w => St w s _) (w := _) (x := true) (y := true) (fun _ => hS) (fun _ => (((hS.tail).dropAt 2).dropAt 2))
 have hF := hS; replace hS := (((hS.tail).dropAt 2).dropAt 2)
 refine Rg.take (i := 1) false rfl hE rfl (by kernel_rfl) (runs_plain rfl) (Gives.loadBA hE 2 rfl rfl ty94) rfl hT fun a hE => ?_
 replace hS := hF; clear hF hT
 refine tP (i := 2) hE rfl (by kernel_rfl) (Gives.p hE rfl) rfl hS (((hS.tail).dropAt 2).dropAt 2) fun a hE => ?_
 refine Rg.one (i := 3) true true rfl (by kernel_rfl) (by kernel_rfl) (by kernel_rfl) ?_
 obtain ⟨q67, hq68, hr⟩ := bndS hr
 have hc_ := GuideNetrides_ok hS h0_0 h0_1 hq68
 refine WL.fnq hE (hc_) (runs_plain rfl) bd72 rfl rfl rfl ?_
 clear hE hS hc_; rintro e w ⟨lb69, s71, rfl, hle72, h70, hS⟩; refine ⟨_, rfl, ?_⟩; clear a; intro a hE
 replace h0_0 := Sl.mono RApiTrain.mono hle72 h0_0
 replace h0_1 := Sl.mono (RL.mono RI.mono) hle72 h0_1
 refine WL.nil ?_
 refine ⟨⟨fun _ => (St.down hle72 hS), fun _ => (St.down hle72 (((hS.tail).dropAt 2).dropAt 2))⟩, ?_⟩
 refine Rg.one (i := 4) false true rfl (by kernel_rfl) (by kernel_rfl) (by kernel_rfl) ?_
 obtain ⟨q73, hq74, hr⟩ := bindS hr
 replace hS := hS.front 3 rfl
 replace hS := hS.front 1 rfl
 replace hS := hS.front 2 rfl
 replace hS := hS.front 3 rfl
 replace hS := hS.front 7 rfl
 replace hS := hS.front 6 rfl
 replace hS := hS.front 7 rfl
 replace hS := hS.front 7 rfl
 have hc_ := GuideAll_1_v1_ok (y2 := (GuideNet.mk x0 x3)) hS Sl.nil h70 (Ev.nil) (rfl) h0_0 h0_1 hq74
 refine WL.fnw hE (hc_) rfl (runs_plain rfl) bd75 rfl rfl rfl ?_
 clear hE hS hc_; rintro e w ⟨a75, c76, n77, cs78, s80, rfl, hle81, h79, rfl, hS⟩; refine ⟨_, rfl, ?_⟩; clear a; intro a hE
 replace h0_0 := Sl.mono RApiTrain.mono hle81 h0_0
 replace h0_1 := Sl.mono (RL.mono RI.mono) hle81 h0_1
 replace h70 := Iter.mono hle81 h70
 refine WL.nil ?_
 refine ⟨⟨fun h => absurd h (by decide), fun _ => (St.down (Sg.Le.trans hle72 hle81) (St.front (St.front (St.front (St.front (St.front (St.front (((hS.tail).dropAt 5).dropAt 5) 5 rfl) 3 rfl) 2 rfl) 3 rfl) 4 rfl) 5 rfl))⟩, ?_⟩
 refine Rg.done (by kernel_rfl) ?_
 subst hK66
 refine W.seq (W.region (vP hS hE (Gives.loadB hE 0 rfl rfl rfl ty39) rfl fun a hE => ?_))
 refine v2 hS hE rfl rfl rfl rfl fun a hE => WL.nil ?_
 refine W.ret ?_
 refine finG (fn := Tryd.f26) (rs := [.tmp 10, .tmp 11]) (vs := [_, _]) hE rfl ⟨rfl, rfl, trivial⟩ ?_
 obtain rfl := Option.some.inj hr
 replace hS := hS.tail
 replace hS := hS.tail
 replace hS := hS.tail
 replace hS := hS.tail
 replace hS := hS.tail
 replace hS := hS.tail
 replace hS := hS.dropAt 1
 replace hS := hS.dropAt 1
 exact ⟨a75, c76, q73.2.2.length, cs78, s80, rfl, (Sg.Le.trans hle72 hle81), h79, rfl, hS⟩
set_option maxHeartbeats 8000000 in
theorem Fishref2numbersIn_ok  {w : World} {s : Sg} {R : List HP} {x0 : ApiDay} {a0_0 : Option Addr} {c0_0 : Nat} {a0_1 : Option Addr} {c0_1 : Nat} (hS : St w s (R)) (h0_0 : Sl 4 RApiTrain s a0_0 c0_0 x0.Trains) (h0_1 : Sl 1 (RL 1 (RI .i64)) s a0_1 c0_1 x0.Turns) {r : (List (List Int))} (hr : Fishref2numbersIn x0 = some r) :
  Calls Tryd.prog 103 [.agg [.slice a0_0 x0.Trains.length c0_0, .slice a0_1 x0.Turns.length c0_1].toArray].toArray w (fun e w => ∃ (a0 : Option Addr) (c0 n0 : Nat) (cs0 : List Value) (t : Sg), e = .returned (.slice a0 n0 c0) ∧ s.Le t ∧ Ev 1 (RL 1 (RI .i64)) t cs0 r ∧ r.length = n0 ∧ St w t (vecC 45 1 a0 c0 n0 cs0 :: R)) := by
 refine enter Tryd.func103 rfl rfl rfl fun a hE => ?_
 rw [Fishref2numbersIn] at hr
 refine W.seq (W.region ?_)
 refine WL.box hE hS (runs_plain rfl) rfl rfl rfl ?_; clear hE hS a w; intro b51 a w hE hS
 refine vp hS hE rfl rfl fun a hE => WL.nil ?_
 refine W.seq (W.region ?_)
 replace hS := hS.vecNil 45 1
 refine vp hS hE rfl rfl fun a hE => WL.nil ?_
 refine W.seq ?_
 refine W.seq (W.region (vP hS hE (Gives.fld hE rfl fl25_0) rfl fun a hE => ?_))
 refine vP hS hE (Gives.loadB hE 1 rfl rfl rfl ty22) rfl fun a hE => ?_
 refine vP hS hE (Gives.len hE rfl sl22) rfl fun a hE => ?_
 refine vp hS hE rfl rfl fun a hE => WL.nil ?_
 obtain ⟨q54, hq53, hr⟩ := bindS hr
 refine W.cut (fun a w => ∃ (q64 : List (List Int)), ∃ (a65 : Option Addr), ∃ (c66 : Nat), ∃ (n68 : Nat), ∃ (cs69 : List Value), ∃ (s62 : Sg), s.Le s62 ∧ q64 = q54 ∧ Ev 1 (RL 1 (RI .i64)) s62 cs69 q64 ∧ q64.length = n68 ∧ Rep a 52 [(1, pp b51), (3, .slice a65 n68 c66)] ∧ St w s62 (vecC 45 1 a65 c66 n68 cs69 :: pc b51 #[.slice a0_0 x0.Trains.length c0_0, .slice a0_1 x0.Turns.length c0_1] 25 :: R)) ?_ ?_
 ·refine W.block ?_
  refine W.loop (fun m a w => ∃ (rest57 : List ApiTrain) (k55 : Nat), ∃ (q64 : List (List Int)), ∃ (a65 : Option Addr), ∃ (c66 : Nat), ∃ (n68 : Nat), ∃ (cs69 : List Value), ∃ (s62 : Sg), rest57.length = m ∧ x0.Trains.drop k55 = rest57 ∧ s.Le s62 ∧ Fishref2numbersIn.loop1 rest57 q64 = some q54 ∧ Ev 1 (RL 1 (RI .i64)) s62 cs69 q64 ∧ q64.length = n68 ∧ Rep a 52 [(1, pp b51), (3, .slice a65 n68 c66), (9, .slice a0_0 x0.Trains.length c0_0), (10, vi ((x0.Trains).length : Int)), (11, vi ((k55 : Nat) : Int))] ∧ St w s62 (vecC 45 1 a65 c66 n68 cs69 :: pc b51 #[.slice a0_0 x0.Trains.length c0_0, .slice a0_1 x0.Turns.length c0_1] 25 :: R)) (m := x0.Trains.length) ⟨x0.Trains, 0, [], none, 0, 0, [], s, rfl, rfl, (Sg.Le.refl _), hq53, (Ev.nil), (rfl), hE.pick _ ⟨rfl, rfl, rfl, rfl, rfl, trivial⟩, hS⟩ ?_
  clear hE hS a w hq53; rintro m61 a w ⟨rest57, k55, q64, a65, c66, n68, cs69, s62, rfl, hd58, hle63, hq53, h67, rfl, hE, hS⟩
  refine W.gen fun K71 hK71 => ?_
  replace h0_0 := Sl.mono RApiTrain.mono hle63 h0_0
  replace h0_1 := Sl.mono (RL.mono RI.mono) hle63 h0_1
  rcases rest57 with _ | ⟨x56, rest57⟩
  ·have hlt59 := drop_nil hd58
   refine W.seq (W.region (vp hS hE rfl rfl fun a hE => WL.nil ?_))
   refine W.seq ?_
   refine W.condF hE rfl (decide_eq_false (by omega)) ?_
   subst hK71
   refine W.exit rfl ?_
   exact ⟨q64, a65, c66, q64.length, cs69, s62, hle63, Option.some.inj hq53, h67, rfl, hE.pick _ ⟨rfl, rfl, trivial⟩, hS⟩
  obtain ⟨hlt59, hx60, hd58⟩ := drop_cons hd58
  rw [Fishref2numbersIn.loop1] at hq53
  refine W.seq (W.region (vp hS hE rfl rfl fun a hE => WL.nil ?_))
  refine W.seq ?_
  refine W.condT hE rfl (decide_eq_true (by omega)) ?_
  refine W.skip ?_
  refine W.seq ?_
  refine W.block ?_
  refine W.seq (W.region ?_)
  obtain ⟨cs72, hl73, hR74, hat75⟩ := h0_0.at hx60
  obtain ⟨a76, c77, a79, c80, rfl, h78, h81⟩ := hR74
  refine vP hS hE (Gives.idx hE k55 rfl rfl sl22 rfl hlt59 (h0_0.aok hlt59)) rfl fun a hE => ?_
  refine vP hS hE (Gives.loadA hE rfl (fun w h => hat75 w _ h) ty44) rfl fun a hE => ?_
  refine WL.alloc hE hS (runs_plain rfl) zr44 rfl ?_; clear hE hS a w; intro b82 a w hE hS
  refine WL.storeI hE hS 0 rfl [vi x56.No, vi x56.Stock, .slice a76 x56.Stops.length c77, .slice a79 x56.Legs.length c80] (runs_plain rfl) rfl rfl rfl ty44 rfl rfl rfl rfl ?_; clear hE hS a w; intro a w hE hS
  refine WL.nil ?_
  refine W.seq (W.region (vp hS hE rfl rfl fun a hE => ?_))
  refine vP hS hE (Gives.fld hE rfl fl44_0) rfl fun a hE => ?_
  refine vP hS hE (Gives.loadB hE 0 rfl rfl rfl ty3) rfl fun a hE => ?_
  refine vP hS hE (Gives.fld hE rfl fl44_1) rfl fun a hE => ?_
  refine vP hS hE (Gives.loadB hE 0 rfl rfl rfl ty3) rfl fun a hE => ?_
  refine WL.lit hE hS (e := 3) (es := 1) (vs := [(0, vi x56.No), (1, vi x56.Stock)]) (cs := [vi x56.No, vi x56.Stock]) (runs_plain rfl) rfl (by kernel_rfl) rfl ?_; clear hE hS a w; intro b83 a w hE hS
  replace hS := hS.ptVec (es := 1) (m := 2) rfl (by decide)
  have h85 : Ev 1 (RI .i64) s62 [vi x56.No, vi x56.Stock] [x56.No, x56.Stock] := (Ev.cons (c1 := [vi x56.No]) rfl rfl (Ev.cons (c1 := [vi x56.Stock]) rfl rfl (Ev.nil)))
  have hF := hS.fixD RI.mono 0 rfl h85 (rfl); clear hS; obtain ⟨s86, hle87, hS, h88⟩ := hF
  replace h0_0 := Sl.mono RApiTrain.mono hle87 h0_0
  replace h78 := Sl.mono RApiStop.mono hle87 h78
  replace h81 := Sl.mono (RL.mono RI.mono) hle87 h81
  replace h67 := Ev.mono (RL.mono RI.mono) hle87 h67
  replace h0_1 := Sl.mono (RL.mono RI.mono) hle87 h0_1
  refine WL.lit hE hS (e := 45) (es := 1) (vs := [(0, .slice (some ⟨b83, 0, none⟩) 2 2)]) (cs := [.slice (some ⟨b83, 0, none⟩) 2 2]) (runs_plain rfl) rfl (by kernel_rfl) rfl ?_; clear hE hS a w; intro b89 a w hE hS
  obtain ⟨x90, hx91, hq53⟩ := bindS hq53
  refine WL.appD hE hS 1 (m := 1) (runs_plain rfl) rfl rfl rfl ap23 rfl h67 rfl (xs := [[x56.No, x56.Stock]]) (Ev.cons (c1 := [.slice (some ⟨b83, 0, none⟩) 2 2]) ⟨_, _, rfl, h88⟩ rfl (Ev.nil)) rfl rfl hx91 rfl ?_; clear hE hS a w; intro a92 c93 cs94 a w h95 hE hS
  refine vp hS hE rfl rfl fun a hE => WL.nil ?_
  refine W.seq ?_
  refine W.seq (W.region (vP hS hE (Gives.fld hE rfl fl44_2) rfl fun a hE => ?_))
  refine vP hS hE (Gives.loadB hE 0 rfl rfl rfl ty42) rfl fun a hE => ?_
  refine vP hS hE (Gives.len hE rfl sl42) rfl fun a hE => ?_
  refine vp hS hE rfl rfl fun a hE => WL.nil ?_
  obtain ⟨q97, hq96, hq53⟩ := bindS hq53
  refine W.cut (fun a w => ∃ (q107 : List (List Int)), ∃ (a108 : Option Addr), ∃ (c109 : Nat), ∃ (n111 : Nat), ∃ (cs112 : List Value), ∃ (s105 : Sg), s86.Le s105 ∧ q107 = q97 ∧ Ev 1 (RL 1 (RI .i64)) s105 cs112 q107 ∧ q107.length = n111 ∧ Rep a 52 [(1, pp b51), (3, .slice a108 n111 c109), (5, pp b82), (9, .slice a0_0 x0.Trains.length c0_0), (10, vi ((x0.Trains).length : Int)), (11, vi ((k55 : Nat) : Int))] ∧ St w s105 (pc b82 #[vi x56.No, vi x56.Stock, .slice a76 x56.Stops.length c77, .slice a79 x56.Legs.length c80] 44 :: vecC 45 1 a108 c109 n111 cs112 :: pc b51 #[.slice a0_0 x0.Trains.length c0_0, .slice a0_1 x0.Turns.length c0_1] 25 :: R)) ?_ ?_
  ·refine W.block ?_
   refine W.loop (fun m a w => ∃ (rest100 : List ApiStop) (k98 : Nat), ∃ (q107 : List (List Int)), ∃ (a108 : Option Addr), ∃ (c109 : Nat), ∃ (n111 : Nat), ∃ (cs112 : List Value), ∃ (s105 : Sg), rest100.length = m ∧ x56.Stops.drop k98 = rest100 ∧ s86.Le s105 ∧ Fishref2numbersIn.loop2 rest100 q107 = some q97 ∧ Ev 1 (RL 1 (RI .i64)) s105 cs112 q107 ∧ q107.length = n111 ∧ Rep a 52 [(1, pp b51), (3, .slice a108 n111 c109), (5, pp b82), (9, .slice a0_0 x0.Trains.length c0_0), (10, vi ((x0.Trains).length : Int)), (11, vi ((k55 : Nat) : Int)), (24, .slice a76 x56.Stops.length c77), (25, vi ((x56.Stops).length : Int)), (26, vi ((k98 : Nat) : Int))] ∧ St w s105 (pc b82 #[vi x56.No, vi x56.Stock, .slice a76 x56.Stops.length c77, .slice a79 x56.Legs.length c80] 44 :: vecC 45 1 a108 c109 n111 cs112 :: pc b51 #[.slice a0_0 x0.Trains.length c0_0, .slice a0_1 x0.Turns.length c0_1] 25 :: R)) (m := x56.Stops.length) ⟨x56.Stops, 0, x90, a92, c93, x90.length, cs94, s86, rfl, rfl, (Sg.Le.refl _), hq96, h95, (rfl), hE.pick _ ⟨rfl, rfl, rfl, rfl, rfl, rfl, rfl, rfl, rfl, trivial⟩, hS⟩ ?_
   clear hE hS a w hq96; rintro m104 a w ⟨rest100, k98, q107, a108, c109, n111, cs112, s105, rfl, hd101, hle106, hq96, h110, rfl, hE, hS⟩
   refine W.gen fun K114 hK114 => ?_
   replace h0_0 := Sl.mono RApiTrain.mono hle106 h0_0
   replace h78 := Sl.mono RApiStop.mono hle106 h78
   replace h81 := Sl.mono (RL.mono RI.mono) hle106 h81
   replace h88 := Sl.mono RI.mono hle106 h88
   replace h95 := Ev.mono (RL.mono RI.mono) hle106 h95
   replace h0_1 := Sl.mono (RL.mono RI.mono) hle106 h0_1
   rcases rest100 with _ | ⟨x99, rest100⟩
   ·have hlt102 := drop_nil hd101
    refine W.seq (W.region (vp hS hE rfl rfl fun a hE => WL.nil ?_))
    refine W.seq ?_
    refine W.condF hE rfl (decide_eq_false (by omega)) ?_
    subst hK114
    refine W.exit rfl ?_
    exact ⟨q107, a108, c109, q107.length, cs112, s105, hle106, Option.some.inj hq96, h110, rfl, hE.pick _ ⟨rfl, rfl, rfl, rfl, rfl, rfl, trivial⟩, hS⟩
   obtain ⟨hlt102, hx103, hd101⟩ := drop_cons hd101
   rw [Fishref2numbersIn.loop2] at hq96
   refine W.seq (W.region (vp hS hE rfl rfl fun a hE => WL.nil ?_))
   refine W.seq ?_
   refine W.condT hE rfl (decide_eq_true (by omega)) ?_
   refine W.skip ?_
   refine W.seq ?_
   refine W.block ?_
   refine W.seq (W.region ?_)
   obtain ⟨cs115, hl116, hR117, hat118⟩ := h78.at hx103
   subst hR117
   refine vP hS hE (Gives.idx hE k98 rfl rfl sl42 rfl hlt102 (h78.aok hlt102)) rfl fun a hE => ?_
   refine vP hS hE (Gives.loadA hE rfl (fun w h => hat118 w _ h) ty106) rfl fun a hE => ?_
   refine WL.alloc hE hS (runs_plain rfl) zr106 rfl ?_; clear hE hS a w; intro b119 a w hE hS
   refine WL.storeI hE hS 0 rfl (ApiStop.cells x99) (runs_plain rfl) rfl rfl rfl ty106 rfl rfl rfl rfl ?_; clear hE hS a w; intro a w hE hS
   refine WL.nil ?_
   refine W.region ?_
   refine vp hS hE rfl rfl fun a hE => ?_
   refine vP hS hE (Gives.fld hE rfl fl106_0) rfl fun a hE => ?_
   refine vP hS hE (Gives.loadB hE 0 rfl rfl rfl ty3) rfl fun a hE => ?_
   refine vP hS hE (Gives.fld hE rfl fl106_1) rfl fun a hE => ?_
   refine vP hS hE (Gives.loadB hE 0 rfl rfl rfl ty3) rfl fun a hE => ?_
   refine vP hS hE (Gives.fld hE rfl fl106_2) rfl fun a hE => ?_
   refine vP hS hE (Gives.loadB hE 0 rfl rfl rfl ty3) rfl fun a hE => ?_
   refine vP hS hE (Gives.fld hE rfl fl106_3) rfl fun a hE => ?_
   refine vP hS hE (Gives.loadB hE 0 rfl rfl rfl ty3) rfl fun a hE => ?_
   refine WL.lit hE hS (e := 3) (es := 1) (vs := [(0, vi x99.Station), (1, vi x99.Track), (2, vi x99.Arr), (3, vi x99.Dep)]) (cs := [vi x99.Station, vi x99.Track, vi x99.Arr, vi x99.Dep]) (runs_plain rfl) rfl (by kernel_rfl) rfl ?_; clear hE hS a w; intro b120 a w hE hS
   replace hS := hS.ptVec (es := 1) (m := 4) rfl (by decide)
   have h122 : Ev 1 (RI .i64) s105 [vi x99.Station, vi x99.Track, vi x99.Arr, vi x99.Dep] [x99.Station, x99.Track, x99.Arr, x99.Dep] := (Ev.cons (c1 := [vi x99.Station]) rfl rfl (Ev.cons (c1 := [vi x99.Track]) rfl rfl (Ev.cons (c1 := [vi x99.Arr]) rfl rfl (Ev.cons (c1 := [vi x99.Dep]) rfl rfl (Ev.nil)))))
   have hF := hS.fixD RI.mono 0 rfl h122 (rfl); clear hS; obtain ⟨s123, hle124, hS, h125⟩ := hF
   replace h0_0 := Sl.mono RApiTrain.mono hle124 h0_0
   replace h78 := Sl.mono RApiStop.mono hle124 h78
   replace h81 := Sl.mono (RL.mono RI.mono) hle124 h81
   replace h110 := Ev.mono (RL.mono RI.mono) hle124 h110
   replace h0_1 := Sl.mono (RL.mono RI.mono) hle124 h0_1
   refine WL.lit hE hS (e := 45) (es := 1) (vs := [(0, .slice (some ⟨b120, 0, none⟩) 4 4)]) (cs := [.slice (some ⟨b120, 0, none⟩) 4 4]) (runs_plain rfl) rfl (by kernel_rfl) rfl ?_; clear hE hS a w; intro b126 a w hE hS
   obtain ⟨x127, hx128, hq96⟩ := bindS hq96
   refine WL.appD hE hS 2 (m := 1) (runs_plain rfl) rfl rfl rfl ap23 rfl h110 rfl (xs := [[x99.Station, x99.Track, x99.Arr, x99.Dep]]) (Ev.cons (c1 := [.slice (some ⟨b120, 0, none⟩) 4 4]) ⟨_, _, rfl, h125⟩ rfl (Ev.nil)) rfl rfl hx128 rfl ?_; clear hE hS a w; intro a129 c130 cs131 a w h132 hE hS
   refine vp hS hE rfl rfl fun a hE => WL.nil ?_
   refine W.region ?_
   refine vP hS hE (Gives.inc hE rfl (by have := h78.small; omega)) rfl fun a hE => ?_
   refine vp hS hE rfl rfl fun a hE => WL.nil ?_
   replace hS := hS.tail
   subst hK114
   exact ⟨rest100.length, Nat.lt_succ_self _, rest100, k98 + 1, x127, a129, c130, x127.length, cs131, s123, rfl, hd101, (Sg.Le.trans hle106 hle124), hq96, h132, (rfl), hE.pick _ ⟨rfl, rfl, rfl, rfl, rfl, rfl, rfl, rfl, rfl, trivial⟩, hS⟩
  clear hE hS a w; rintro a w ⟨q107, a108, c109, n111, cs112, s105, hle106, rfl, h110, rfl, hE, hS⟩
  replace h0_0 := Sl.mono RApiTrain.mono hle106 h0_0
  replace h78 := Sl.mono RApiStop.mono hle106 h78
  replace h81 := Sl.mono (RL.mono RI.mono) hle106 h81
  replace h88 := Sl.mono RI.mono hle106 h88
  replace h95 := Ev.mono (RL.mono RI.mono) hle106 h95
  replace h0_1 := Sl.mono (RL.mono RI.mono) hle106 h0_1
  refine W.region ?_
  refine vp hS hE rfl rfl fun a hE => ?_
  refine vP hS hE (Gives.fld hE rfl fl44_3) rfl fun a hE => ?_
  refine vP hS hE (Gives.loadB hE 0 rfl rfl rfl ty23) rfl fun a hE => ?_
  obtain ⟨x133, hx134, hq53⟩ := bindS hq53
  refine WL.appS hE hS 1 (runs_plain rfl) rfl rfl (xs := x56.Legs) rfl rfl ap23 RL.one h110 rfl h81 hx134 rfl ?_; clear hE hS a w; intro a135 c136 cs137 a w h138 hE hS
  refine vp hS hE rfl rfl fun a hE => WL.nil ?_
  refine W.region ?_
  refine vP hS hE (Gives.inc hE rfl (by have := h0_0.small; omega)) rfl fun a hE => ?_
  refine vp hS hE rfl rfl fun a hE => WL.nil ?_
  replace hS := hS.tail
  subst hK71
  exact ⟨rest57.length, Nat.lt_succ_self _, rest57, k55 + 1, x133, a135, c136, x133.length, cs137, s105, rfl, hd58, (Sg.Le.trans (Sg.Le.trans hle63 hle87) hle106), hq53, h138, (rfl), hE.pick _ ⟨rfl, rfl, rfl, rfl, rfl, trivial⟩, hS⟩
 clear hE hS a w; rintro a w ⟨q64, a65, c66, n68, cs69, s62, hle63, rfl, h67, rfl, hE, hS⟩
 replace h0_0 := Sl.mono RApiTrain.mono hle63 h0_0
 replace h0_1 := Sl.mono (RL.mono RI.mono) hle63 h0_1
 refine W.seq (W.region (vp hS hE rfl rfl fun a hE => ?_))
 refine vP hS hE (Gives.fld hE rfl fl25_1) rfl fun a hE => ?_
 refine vP hS hE (Gives.loadB hE 1 rfl rfl rfl ty23) rfl fun a hE => ?_
 obtain ⟨x139, hx140, hr⟩ := bindS hr
 refine WL.appS hE hS 0 (runs_plain rfl) rfl rfl (xs := x0.Turns) rfl rfl ap23 RL.one h67 rfl h0_1 hx140 rfl ?_; clear hE hS a w; intro a141 c142 cs143 a w h144 hE hS
 refine vp hS hE rfl rfl fun a hE => WL.nil ?_
 refine W.ret ?_
 refine finG (fn := Tryd.f103) (rs := [.tmp 2]) (vs := [_]) hE rfl ⟨rfl, trivial⟩ ?_
 obtain rfl := Option.some.inj hr
 replace hS := hS.dropAt 1
 exact ⟨a141, c142, x139.length, cs143, s62, rfl, hle63, h144, (rfl), hS⟩
set_option maxHeartbeats 8000000 in
theorem Fishref2within_ok  {w : World} {s : Sg} {R : List HP} {x0 : Int} {x1 : Int} {x2 : Int} (hS : St w s (R))  {r : Bool} (hr : Fishref2within x0 x1 x2 = r) :
  Calls Tryd.prog 57 [vi x0, vi x1, vi x2].toArray w (fun e w => e = .returned (.bool r) ∧ St w s (R)) := by
 refine enter Tryd.func57 rfl rfl rfl fun a hE => ?_
 rw [Fishref2within] at hr
 refine W.seq (W.region (vp hS hE rfl rfl fun a hE => WL.nil ?_))
 refine W.seq ?_
 obtain ⟨q52, hq51, hr⟩ := bndS hr
 refine W.cut (fun a w => ∃ (q55 : Bool), q55 = q52 ∧ Rep a 15 [(6, .bool q55)] ∧ St w s (R)) ?_ ?_
 ·refine W.gen fun K56 hK56 => ?_
  refine W.region ?_
  refine v2 hS hE rfl rfl rfl rfl fun a hE => ?_
  refine v2 hS hE rfl rfl rfl rfl fun a hE => ?_
  rcases Bool.eq_false_or_eq_true (decide (x0 ≥ x1)) with hg57 | hg57
  ·replace hq51 := iteT hg57 hq51
   refine WL.vS hS hE (runs_if hE rfl rfl rfl hg57) (Gives.p hE rfl) rfl fun a hE => ?_
   refine WL.vS hS hE (runs_if hE rfl rfl rfl hg57) (Gives.p hE rfl) rfl fun a hE => ?_
   refine WL.vS hS hE (runs_if hE rfl rfl rfl hg57) (Gives.p hE rfl) rfl fun a hE => ?_
   refine vP hS hE (Gives.pickT hE rfl hg57 rfl) rfl fun a hE => ?_
   refine vp hS hE rfl rfl fun a hE => WL.nil ?_
   subst hK56
   exact ⟨decide (x0 ≤ x2), hq51, hE.pick _ ⟨rfl, trivial⟩, hS⟩
  replace hq51 := iteF hg57 hq51
  refine nO hE rfl rfl rfl (by rw [hg57]; decide) rfl fun a hE => ?_
  refine nO hE rfl rfl rfl (by rw [hg57]; decide) rfl fun a hE => ?_
  refine nO hE rfl rfl rfl (by rw [hg57]; decide) rfl fun a hE => ?_
  refine vP hS hE (Gives.pickF hE rfl hg57 rfl) rfl fun a hE => ?_
  refine vp hS hE rfl rfl fun a hE => WL.nil ?_
  subst hK56
  exact ⟨false, hq51, hE.pick _ ⟨rfl, trivial⟩, hS⟩
 clear hE hS a w; rintro a w ⟨q55, rfl, hE, hS⟩
 refine W.ret ?_
 refine finG (fn := Tryd.f57) (rs := [.tmp 6]) (vs := [_]) hE rfl ⟨rfl, trivial⟩ ?_
 subst hr
 exact ⟨rfl, hS⟩
set_option maxHeartbeats 8000000 in
theorem Fishref2TextFault_ok  {w : World} {s : Sg} {R : List HP} {x0 : ApiDay} {a0_0 : Option Addr} {c0_0 : Nat} {a0_1 : Option Addr} {c0_1 : Nat} (hS : St w s (R)) (h0_0 : Sl 4 RApiTrain s a0_0 c0_0 x0.Trains) (h0_1 : Sl 1 (RL 1 (RI .i64)) s a0_1 c0_1 x0.Turns) {r : Int} (hr : Fishref2TextFault x0 = some r) :
  Calls Tryd.prog 56 [.agg [.slice a0_0 x0.Trains.length c0_0, .slice a0_1 x0.Turns.length c0_1].toArray].toArray w (fun e w => e = .returned (vi r) ∧ St w s (R)) := by
 refine enter Tryd.func56 rfl rfl rfl fun a hE => ?_
 rw [Fishref2TextFault] at hr
 refine W.seq (W.region ?_)
 refine WL.box hE hS (runs_plain rfl) rfl rfl rfl ?_; clear hE hS a w; intro b51 a w hE hS
 refine vp hS hE rfl rfl fun a hE => WL.nil ?_
 refine W.seq ?_
 refine W.seq ?_
 obtain ⟨q53, hq52, hr⟩ := bndS hr
 refine W.cut (fun a w => ∃ (q56 : Bool), q56 = q53 ∧ Rep a 105 [(1, pp b51), (24, .bool q56)] ∧ St w s (pc b51 #[.slice a0_0 x0.Trains.length c0_0, .slice a0_1 x0.Turns.length c0_1] 25 :: R)) ?_ ?_
 ·refine W.gen fun K57 hK57 => ?_
  refine W.region ?_
  refine vP hS hE (Gives.fld hE rfl fl25_0) rfl fun a hE => ?_
  refine vP hS hE (Gives.loadB hE 0 rfl rfl rfl ty22) rfl fun a hE => ?_
  refine vP hS hE (Gives.len hE rfl sl22) rfl fun a hE => ?_
  refine v2 hS hE rfl rfl rfl rfl fun a hE => ?_
  rcases Bool.eq_false_or_eq_true (decide (((x0.Trains).length : Int) > 12)) with hg58 | hg58
  ·replace hq52 := iteT hg58 hq52
   refine nO hE rfl rfl rfl (by rw [hg58]; decide) rfl fun a hE => ?_
   refine nO hE rfl rfl rfl (by rw [hg58]; decide) rfl fun a hE => ?_
   refine nO hE rfl rfl rfl (by rw [hg58]; decide) rfl fun a hE => ?_
   refine nO hE rfl rfl rfl (by rw [hg58]; decide) rfl fun a hE => ?_
   refine vP hS hE (Gives.pickT hE rfl hg58 rfl) rfl fun a hE => WL.nil ?_
   subst hK57
   exact ⟨true, hq52, hE.pick _ ⟨rfl, rfl, trivial⟩, hS⟩
  replace hq52 := iteF hg58 hq52
  refine WL.vS hS hE (runs_if hE rfl rfl rfl hg58) (Gives.fld hE rfl fl25_1) rfl fun a hE => ?_
  refine WL.vS hS hE (runs_if hE rfl rfl rfl hg58) (Gives.loadB hE 0 rfl rfl rfl ty23) rfl fun a hE => ?_
  refine WL.vS hS hE (runs_if hE rfl rfl rfl hg58) (Gives.len hE rfl sl23) rfl fun a hE => ?_
  refine WL.vS hS hE (runs_if hE rfl rfl rfl hg58) (Gives.p hE rfl) rfl fun a hE => ?_
  refine vP hS hE (Gives.pickF hE rfl hg58 rfl) rfl fun a hE => WL.nil ?_
  subst hK57
  exact ⟨decide (((x0.Turns).length : Int) > 8), hq52, hE.pick _ ⟨rfl, rfl, trivial⟩, hS⟩
 clear hE hS a w; rintro a w ⟨q56, rfl, hE, hS⟩
 refine W.cond hE rfl (fun hc59 => ?_) (fun hc59 => ?_)
 ·replace hr := iteT hc59 hr
  refine W.seq (W.region (vp hS hE rfl rfl fun a hE => WL.nil ?_))
  refine W.ret ?_
  refine finG (fn := Tryd.f56) (rs := [.tmp 2]) (vs := [_]) hE rfl ⟨rfl, trivial⟩ ?_
  obtain rfl := Option.some.inj hr
  replace hS := hS.tail
  exact ⟨rfl, hS⟩
 replace hr := iteF hc59 hr
 refine W.skip ?_
 refine W.seq ?_
 refine W.seq (W.region (vP hS hE (Gives.fld hE rfl fl25_0) rfl fun a hE => ?_))
 refine vP hS hE (Gives.loadB hE 0 rfl rfl rfl ty22) rfl fun a hE => ?_
 refine vP hS hE (Gives.len hE rfl sl22) rfl fun a hE => ?_
 refine vp hS hE rfl rfl fun a hE => WL.nil ?_
 obtain ⟨q61, hq60, hr⟩ := bndS hr
 refine W.cut (fun a w => (.next ()) = q61 ∧ Rep a 105 [(1, pp b51)] ∧ St w s (pc b51 #[.slice a0_0 x0.Trains.length c0_0, .slice a0_1 x0.Turns.length c0_1] 25 :: R)) ?_ ?_
 ·refine W.block ?_
  refine W.loop (fun m a w => ∃ (rest64 : List ApiTrain) (k62 : Nat), rest64.length = m ∧ x0.Trains.drop k62 = rest64 ∧ Fishref2TextFault.loop1 rest64 = q61 ∧ Rep a 105 [(1, pp b51), (26, .slice a0_0 x0.Trains.length c0_0), (27, vi ((x0.Trains).length : Int)), (28, vi ((k62 : Nat) : Int))] ∧ St w s (pc b51 #[.slice a0_0 x0.Trains.length c0_0, .slice a0_1 x0.Turns.length c0_1] 25 :: R)) (m := x0.Trains.length) ⟨x0.Trains, 0, rfl, rfl, hq60, hE.pick _ ⟨rfl, rfl, rfl, rfl, trivial⟩, hS⟩ ?_
  clear hE hS a w hq60; rintro m68 a w ⟨rest64, k62, rfl, hd65, hq60, hE, hS⟩
  refine W.gen fun K71 hK71 => ?_
  rcases rest64 with _ | ⟨x63, rest64⟩
  ·have hlt66 := drop_nil hd65
   refine W.seq (W.region (vp hS hE rfl rfl fun a hE => WL.nil ?_))
   refine W.seq ?_
   refine W.condF hE rfl (decide_eq_false (by omega)) ?_
   subst hK71
   refine W.exit rfl ?_
   exact ⟨hq60, hE.pick _ ⟨rfl, trivial⟩, hS⟩
  obtain ⟨hlt66, hx67, hd65⟩ := drop_cons hd65
  rw [Fishref2TextFault.loop1] at hq60
  refine W.seq (W.region (vp hS hE rfl rfl fun a hE => WL.nil ?_))
  refine W.seq ?_
  refine W.condT hE rfl (decide_eq_true (by omega)) ?_
  refine W.skip ?_
  refine W.seq ?_
  refine W.block ?_
  refine W.seq (W.region ?_)
  obtain ⟨cs72, hl73, hR74, hat75⟩ := h0_0.at hx67
  obtain ⟨a76, c77, a79, c80, rfl, h78, h81⟩ := hR74
  refine vP hS hE (Gives.idx hE k62 rfl rfl sl22 rfl hlt66 (h0_0.aok hlt66)) rfl fun a hE => ?_
  refine vP hS hE (Gives.loadA hE rfl (fun w h => hat75 w _ h) ty44) rfl fun a hE => ?_
  refine WL.alloc hE hS (runs_plain rfl) zr44 rfl ?_; clear hE hS a w; intro b82 a w hE hS
  refine WL.storeI hE hS 0 rfl [vi x63.No, vi x63.Stock, .slice a76 x63.Stops.length c77, .slice a79 x63.Legs.length c80] (runs_plain rfl) rfl rfl rfl ty44 rfl rfl rfl rfl ?_; clear hE hS a w; intro a w hE hS
  refine WL.nil ?_
  refine W.seq ?_
  refine W.seq ?_
  obtain ⟨q84, hq83, hq60⟩ := bndS hq60
  refine W.cut (fun a w => ∃ (q87 : Bool), q87 = q84 ∧ Rep a 105 [(1, pp b51), (4, pp b82), (26, .slice a0_0 x0.Trains.length c0_0), (27, vi ((x0.Trains).length : Int)), (28, vi ((k62 : Nat) : Int)), (45, .bool q87)] ∧ St w s (pc b82 #[vi x63.No, vi x63.Stock, .slice a76 x63.Stops.length c77, .slice a79 x63.Legs.length c80] 44 :: pc b51 #[.slice a0_0 x0.Trains.length c0_0, .slice a0_1 x0.Turns.length c0_1] 25 :: R)) ?_ ?_
  ·refine W.gen fun K88 hK88 => ?_
   refine W.region ?_
   refine vP hS hE (Gives.fld hE rfl fl44_2) rfl fun a hE => ?_
   refine vP hS hE (Gives.loadB hE 0 rfl rfl rfl ty42) rfl fun a hE => ?_
   refine vP hS hE (Gives.len hE rfl sl42) rfl fun a hE => ?_
   refine v2 hS hE rfl rfl rfl rfl fun a hE => ?_
   rcases Bool.eq_false_or_eq_true (((x63.Stops).length : Int) == 0) with hg89 | hg89
   ·replace hq83 := iteT hg89 hq83
    refine nO hE rfl rfl rfl (by rw [hg89]; decide) rfl fun a hE => ?_
    refine nO hE rfl rfl rfl (by rw [hg89]; decide) rfl fun a hE => ?_
    refine nO hE rfl rfl rfl (by rw [hg89]; decide) rfl fun a hE => ?_
    refine nO hE rfl rfl rfl (by rw [hg89]; decide) rfl fun a hE => ?_
    refine nO hE rfl rfl rfl (by rw [hg89]; decide) rfl fun a hE => ?_
    refine nO hE rfl rfl rfl (by rw [hg89]; decide) rfl fun a hE => ?_
    refine nO hE rfl rfl rfl (by rw [hg89]; decide) rfl fun a hE => ?_
    refine nO hE rfl rfl rfl (by rw [hg89]; decide) rfl fun a hE => ?_
    refine vP hS hE (Gives.pickT hE rfl hg89 rfl) rfl fun a hE => WL.nil ?_
    subst hK88
    exact ⟨true, hq83, hE.pick _ ⟨rfl, rfl, rfl, rfl, rfl, rfl, trivial⟩, hS⟩
   replace hq83 := iteF hg89 hq83
   refine WL.vS hS hE (runs_if hE rfl rfl rfl hg89) (Gives.fld hE rfl fl44_3) rfl fun a hE => ?_
   refine WL.vS hS hE (runs_if hE rfl rfl rfl hg89) (Gives.loadB hE 0 rfl rfl rfl ty23) rfl fun a hE => ?_
   refine WL.vS hS hE (runs_if hE rfl rfl rfl hg89) (Gives.len hE rfl sl23) rfl fun a hE => ?_
   refine WL.vS hS hE (runs_if hE rfl rfl rfl hg89) (Gives.fld hE rfl fl44_2) rfl fun a hE => ?_
   refine WL.vS hS hE (runs_if hE rfl rfl rfl hg89) (Gives.loadB hE 0 rfl rfl rfl ty42) rfl fun a hE => ?_
   refine WL.vS hS hE (runs_if hE rfl rfl rfl hg89) (Gives.len hE rfl sl42) rfl fun a hE => ?_
   refine WL.vS hS hE (runs_if hE rfl rfl rfl hg89) (Gives.p hE rfl) rfl fun a hE => ?_
   refine WL.vS hS hE (runs_if hE rfl rfl rfl hg89) (Gives.p hE rfl) rfl fun a hE => ?_
   refine vP hS hE (Gives.pickF hE rfl hg89 rfl) rfl fun a hE => WL.nil ?_
   subst hK88
   exact ⟨(((x63.Legs).length : Int) != (w64 (((x63.Stops).length : Int) - 1))), hq83, hE.pick _ ⟨rfl, rfl, rfl, rfl, rfl, rfl, trivial⟩, hS⟩
  clear hE hS a w; rintro a w ⟨q87, rfl, hE, hS⟩
  refine W.cond hE rfl (fun hc90 => ?_) (fun hc90 => ?_)
  ·replace hq60 := iteT hc90 hq60
   refine W.seq (W.region (vp hS hE rfl rfl fun a hE => WL.nil ?_))
   refine W.ret ?_
   subst hK71
   rw [← hq60] at hr
   dsimp only at hr
   refine finG (fn := Tryd.f56) (rs := [.tmp 2]) (vs := [_]) hE rfl ⟨rfl, trivial⟩ ?_
   obtain rfl := Option.some.inj hr
   replace hS := hS.tail
   replace hS := hS.tail
   exact ⟨rfl, hS⟩
  replace hq60 := iteF hc90 hq60
  refine W.skip ?_
  refine W.seq ?_
  refine W.seq (W.region (vP hS hE (Gives.fld hE rfl fl44_3) rfl fun a hE => ?_))
  refine vP hS hE (Gives.loadB hE 0 rfl rfl rfl ty23) rfl fun a hE => ?_
  refine vP hS hE (Gives.len hE rfl sl23) rfl fun a hE => ?_
  refine vp hS hE rfl rfl fun a hE => WL.nil ?_
  obtain ⟨q92, hq91, hq60⟩ := bndS hq60
  refine W.cut (fun a w => (.next ()) = q92 ∧ Rep a 105 [(1, pp b51), (4, pp b82), (26, .slice a0_0 x0.Trains.length c0_0), (27, vi ((x0.Trains).length : Int)), (28, vi ((k62 : Nat) : Int))] ∧ St w s (pc b82 #[vi x63.No, vi x63.Stock, .slice a76 x63.Stops.length c77, .slice a79 x63.Legs.length c80] 44 :: pc b51 #[.slice a0_0 x0.Trains.length c0_0, .slice a0_1 x0.Turns.length c0_1] 25 :: R)) ?_ ?_
  ·refine W.block ?_
   refine W.loop (fun m a w => ∃ (rest95 : List (List Int)) (k93 : Nat), rest95.length = m ∧ x63.Legs.drop k93 = rest95 ∧ Fishref2TextFault.loop2 rest95 = q92 ∧ Rep a 105 [(1, pp b51), (4, pp b82), (26, .slice a0_0 x0.Trains.length c0_0), (27, vi ((x0.Trains).length : Int)), (28, vi ((k62 : Nat) : Int)), (47, .slice a79 x63.Legs.length c80), (48, vi ((x63.Legs).length : Int)), (49, vi ((k93 : Nat) : Int))] ∧ St w s (pc b82 #[vi x63.No, vi x63.Stock, .slice a76 x63.Stops.length c77, .slice a79 x63.Legs.length c80] 44 :: pc b51 #[.slice a0_0 x0.Trains.length c0_0, .slice a0_1 x0.Turns.length c0_1] 25 :: R)) (m := x63.Legs.length) ⟨x63.Legs, 0, rfl, rfl, hq91, hE.pick _ ⟨rfl, rfl, rfl, rfl, rfl, rfl, rfl, rfl, trivial⟩, hS⟩ ?_
   clear hE hS a w hq91; rintro m99 a w ⟨rest95, k93, rfl, hd96, hq91, hE, hS⟩
   refine W.gen fun K102 hK102 => ?_
   rcases rest95 with _ | ⟨x94, rest95⟩
   ·have hlt97 := drop_nil hd96
    refine W.seq (W.region (vp hS hE rfl rfl fun a hE => WL.nil ?_))
    refine W.seq ?_
    refine W.condF hE rfl (decide_eq_false (by omega)) ?_
    subst hK102
    refine W.exit rfl ?_
    exact ⟨hq91, hE.pick _ ⟨rfl, rfl, rfl, rfl, rfl, trivial⟩, hS⟩
   obtain ⟨hlt97, hx98, hd96⟩ := drop_cons hd96
   rw [Fishref2TextFault.loop2] at hq91
   refine W.seq (W.region (vp hS hE rfl rfl fun a hE => WL.nil ?_))
   refine W.seq ?_
   refine W.condT hE rfl (decide_eq_true (by omega)) ?_
   refine W.skip ?_
   refine W.seq ?_
   refine W.block ?_
   refine W.seq (W.region ?_)
   obtain ⟨cs103, hl104, hR105, hat106⟩ := h81.at hx98
   obtain ⟨a107, c108, rfl, h109⟩ := hR105
   refine vP hS hE (Gives.idx hE k93 rfl rfl sl23 rfl hlt97 (h81.aok hlt97)) rfl fun a hE => ?_
   refine vP hS hE (Gives.load1 hE rfl (fun w h => hat106 w _ h) ty45) rfl fun a hE => ?_
   refine vp hS hE rfl rfl fun a hE => WL.nil ?_
   refine W.seq (W.region (vp hS hE rfl rfl fun a hE => ?_))
   refine vP hS hE (Gives.len hE rfl sl45) rfl fun a hE => ?_
   refine vp hS hE rfl rfl fun a hE => WL.nil ?_
   refine W.cond hE rfl (fun hc110 => ?_) (fun hc110 => ?_)
   ·replace hq91 := iteT hc110 hq91
    refine W.seq (W.region (vp hS hE rfl rfl fun a hE => WL.nil ?_))
    refine W.ret ?_
    subst hK102
    subst hK71
    rw [← hq91] at hq60
    dsimp only at hq60
    rw [← hq60] at hr
    dsimp only at hr
    refine finG (fn := Tryd.f56) (rs := [.tmp 2]) (vs := [_]) hE rfl ⟨rfl, trivial⟩ ?_
    obtain rfl := Option.some.inj hr
    replace hS := hS.tail
    replace hS := hS.tail
    exact ⟨rfl, hS⟩
   replace hq91 := iteF hc110 hq91
   refine W.skip ?_
   refine W.region ?_
   refine vP hS hE (Gives.inc hE rfl (by have := h81.small; omega)) rfl fun a hE => ?_
   refine vp hS hE rfl rfl fun a hE => WL.nil ?_
   subst hK102
   exact ⟨rest95.length, Nat.lt_succ_self _, rest95, k93 + 1, rfl, hd96, hq91, hE.pick _ ⟨rfl, rfl, rfl, rfl, rfl, rfl, rfl, rfl, trivial⟩, hS⟩
  clear hE hS a w; rintro a w ⟨rfl, hE, hS⟩
  dsimp only at hq60
  refine W.seq ?_
  refine W.seq (W.region (vP hS hE (Gives.fld hE rfl fl44_2) rfl fun a hE => ?_))
  refine vP hS hE (Gives.loadB hE 0 rfl rfl rfl ty42) rfl fun a hE => ?_
  refine vP hS hE (Gives.len hE rfl sl42) rfl fun a hE => ?_
  refine vp hS hE rfl rfl fun a hE => WL.nil ?_
  refine W.cond hE rfl (fun hc111 => ?_) (fun hc111 => ?_)
  ·replace hq60 := iteT hc111 hq60
   refine W.seq (W.region (vp hS hE rfl rfl fun a hE => WL.nil ?_))
   refine W.ret ?_
   subst hK71
   rw [← hq60] at hr
   dsimp only at hr
   refine finG (fn := Tryd.f56) (rs := [.tmp 2]) (vs := [_]) hE rfl ⟨rfl, trivial⟩ ?_
   obtain rfl := Option.some.inj hr
   replace hS := hS.tail
   replace hS := hS.tail
   exact ⟨rfl, hS⟩
  replace hq60 := iteF hc111 hq60
  refine W.skip ?_
  refine W.seq (W.region (vP hS hE (Gives.fld hE rfl fl44_3) rfl fun a hE => ?_))
  refine vP hS hE (Gives.loadB hE 0 rfl rfl rfl ty23) rfl fun a hE => ?_
  refine vP hS hE (Gives.len hE rfl sl23) rfl fun a hE => ?_
  refine vp hS hE rfl rfl fun a hE => WL.nil ?_
  obtain ⟨q113, hq112, hq60⟩ := bndS hq60
  refine W.cut (fun a w => (.next ()) = q113 ∧ Rep a 105 [(1, pp b51), (26, .slice a0_0 x0.Trains.length c0_0), (27, vi ((x0.Trains).length : Int)), (28, vi ((k62 : Nat) : Int))] ∧ St w s (pc b82 #[vi x63.No, vi x63.Stock, .slice a76 x63.Stops.length c77, .slice a79 x63.Legs.length c80] 44 :: pc b51 #[.slice a0_0 x0.Trains.length c0_0, .slice a0_1 x0.Turns.length c0_1] 25 :: R)) ?_ ?_
  ·refine W.block ?_
   refine W.loop (fun m a w => ∃ (rest116 : List (List Int)) (k114 : Nat), rest116.length = m ∧ x63.Legs.drop k114 = rest116 ∧ Fishref2TextFault.loop3 rest116 = q113 ∧ Rep a 105 [(1, pp b51), (26, .slice a0_0 x0.Trains.length c0_0), (27, vi ((x0.Trains).length : Int)), (28, vi ((k62 : Nat) : Int)), (62, .slice a79 x63.Legs.length c80), (63, vi ((x63.Legs).length : Int)), (64, vi ((k114 : Nat) : Int))] ∧ St w s (pc b82 #[vi x63.No, vi x63.Stock, .slice a76 x63.Stops.length c77, .slice a79 x63.Legs.length c80] 44 :: pc b51 #[.slice a0_0 x0.Trains.length c0_0, .slice a0_1 x0.Turns.length c0_1] 25 :: R)) (m := x63.Legs.length) ⟨x63.Legs, 0, rfl, rfl, hq112, hE.pick _ ⟨rfl, rfl, rfl, rfl, rfl, rfl, rfl, trivial⟩, hS⟩ ?_
   clear hE hS a w hq112; rintro m120 a w ⟨rest116, k114, rfl, hd117, hq112, hE, hS⟩
   refine W.gen fun K123 hK123 => ?_
   rcases rest116 with _ | ⟨x115, rest116⟩
   ·have hlt118 := drop_nil hd117
    refine W.seq (W.region (vp hS hE rfl rfl fun a hE => WL.nil ?_))
    refine W.seq ?_
    refine W.condF hE rfl (decide_eq_false (by omega)) ?_
    subst hK123
    refine W.exit rfl ?_
    exact ⟨hq112, hE.pick _ ⟨rfl, rfl, rfl, rfl, trivial⟩, hS⟩
   obtain ⟨hlt118, hx119, hd117⟩ := drop_cons hd117
   rw [Fishref2TextFault.loop3] at hq112
   refine W.seq (W.region (vp hS hE rfl rfl fun a hE => WL.nil ?_))
   refine W.seq ?_
   refine W.condT hE rfl (decide_eq_true (by omega)) ?_
   refine W.skip ?_
   refine W.seq ?_
   refine W.block ?_
   refine W.seq (W.region ?_)
   obtain ⟨cs124, hl125, hR126, hat127⟩ := h81.at hx119
   obtain ⟨a128, c129, rfl, h130⟩ := hR126
   refine vP hS hE (Gives.idx hE k114 rfl rfl sl23 rfl hlt118 (h81.aok hlt118)) rfl fun a hE => ?_
   refine vP hS hE (Gives.load1 hE rfl (fun w h => hat127 w _ h) ty45) rfl fun a hE => ?_
   refine vp hS hE rfl rfl fun a hE => WL.nil ?_
   refine W.seq (W.region (vp hS hE rfl rfl fun a hE => ?_))
   refine vP hS hE (Gives.len hE rfl sl45) rfl fun a hE => ?_
   refine vp hS hE rfl rfl fun a hE => WL.nil ?_
   refine W.cond hE rfl (fun hc131 => ?_) (fun hc131 => ?_)
   ·replace hq112 := iteT hc131 hq112
    refine W.seq (W.region (vp hS hE rfl rfl fun a hE => WL.nil ?_))
    refine W.ret ?_
    subst hK123
    subst hK71
    rw [← hq112] at hq60
    dsimp only at hq60
    rw [← hq60] at hr
    dsimp only at hr
    refine finG (fn := Tryd.f56) (rs := [.tmp 2]) (vs := [_]) hE rfl ⟨rfl, trivial⟩ ?_
    obtain rfl := Option.some.inj hr
    replace hS := hS.tail
    replace hS := hS.tail
    exact ⟨rfl, hS⟩
   replace hq112 := iteF hc131 hq112
   refine W.skip ?_
   refine W.region ?_
   refine vP hS hE (Gives.inc hE rfl (by have := h81.small; omega)) rfl fun a hE => ?_
   refine vp hS hE rfl rfl fun a hE => WL.nil ?_
   subst hK123
   exact ⟨rest116.length, Nat.lt_succ_self _, rest116, k114 + 1, rfl, hd117, hq112, hE.pick _ ⟨rfl, rfl, rfl, rfl, rfl, rfl, rfl, trivial⟩, hS⟩
  clear hE hS a w; rintro a w ⟨rfl, hE, hS⟩
  dsimp only at hq60
  refine W.region ?_
  refine vP hS hE (Gives.inc hE rfl (by have := h0_0.small; omega)) rfl fun a hE => ?_
  refine vp hS hE rfl rfl fun a hE => WL.nil ?_
  replace hS := hS.tail
  subst hK71
  exact ⟨rest64.length, Nat.lt_succ_self _, rest64, k62 + 1, rfl, hd65, hq60, hE.pick _ ⟨rfl, rfl, rfl, rfl, trivial⟩, hS⟩
 clear hE hS a w; rintro a w ⟨rfl, hE, hS⟩
 dsimp only at hr
 refine W.seq ?_
 refine W.seq (W.region (vP hS hE (Gives.fld hE rfl fl25_1) rfl fun a hE => ?_))
 refine vP hS hE (Gives.loadB hE 0 rfl rfl rfl ty23) rfl fun a hE => ?_
 refine vP hS hE (Gives.len hE rfl sl23) rfl fun a hE => ?_
 refine vp hS hE rfl rfl fun a hE => WL.nil ?_
 obtain ⟨q133, hq132, hr⟩ := bndS hr
 refine W.cut (fun a w => (.next ()) = q133 ∧ Rep a 105 [(1, pp b51)] ∧ St w s (pc b51 #[.slice a0_0 x0.Trains.length c0_0, .slice a0_1 x0.Turns.length c0_1] 25 :: R)) ?_ ?_
 ·refine W.block ?_
  refine W.loop (fun m a w => ∃ (rest136 : List (List Int)) (k134 : Nat), rest136.length = m ∧ x0.Turns.drop k134 = rest136 ∧ Fishref2TextFault.loop4 rest136 = q133 ∧ Rep a 105 [(1, pp b51), (74, .slice a0_1 x0.Turns.length c0_1), (75, vi ((x0.Turns).length : Int)), (76, vi ((k134 : Nat) : Int))] ∧ St w s (pc b51 #[.slice a0_0 x0.Trains.length c0_0, .slice a0_1 x0.Turns.length c0_1] 25 :: R)) (m := x0.Turns.length) ⟨x0.Turns, 0, rfl, rfl, hq132, hE.pick _ ⟨rfl, rfl, rfl, rfl, trivial⟩, hS⟩ ?_
  clear hE hS a w hq132; rintro m140 a w ⟨rest136, k134, rfl, hd137, hq132, hE, hS⟩
  refine W.gen fun K143 hK143 => ?_
  rcases rest136 with _ | ⟨x135, rest136⟩
  ·have hlt138 := drop_nil hd137
   refine W.seq (W.region (vp hS hE rfl rfl fun a hE => WL.nil ?_))
   refine W.seq ?_
   refine W.condF hE rfl (decide_eq_false (by omega)) ?_
   subst hK143
   refine W.exit rfl ?_
   exact ⟨hq132, hE.pick _ ⟨rfl, trivial⟩, hS⟩
  obtain ⟨hlt138, hx139, hd137⟩ := drop_cons hd137
  rw [Fishref2TextFault.loop4] at hq132
  refine W.seq (W.region (vp hS hE rfl rfl fun a hE => WL.nil ?_))
  refine W.seq ?_
  refine W.condT hE rfl (decide_eq_true (by omega)) ?_
  refine W.skip ?_
  refine W.seq ?_
  refine W.block ?_
  refine W.seq (W.region ?_)
  obtain ⟨cs144, hl145, hR146, hat147⟩ := h0_1.at hx139
  obtain ⟨a148, c149, rfl, h150⟩ := hR146
  refine vP hS hE (Gives.idx hE k134 rfl rfl sl23 rfl hlt138 (h0_1.aok hlt138)) rfl fun a hE => ?_
  refine vP hS hE (Gives.load1 hE rfl (fun w h => hat147 w _ h) ty45) rfl fun a hE => ?_
  refine vp hS hE rfl rfl fun a hE => WL.nil ?_
  refine W.seq ?_
  refine W.seq (W.region (vp hS hE rfl rfl fun a hE => ?_))
  refine vP hS hE (Gives.len hE rfl sl45) rfl fun a hE => ?_
  refine vp hS hE rfl rfl fun a hE => WL.nil ?_
  refine W.cond hE rfl (fun hc151 => ?_) (fun hc151 => ?_)
  ·replace hq132 := iteT hc151 hq132
   refine W.seq (W.region (vp hS hE rfl rfl fun a hE => WL.nil ?_))
   refine W.ret ?_
   subst hK143
   rw [← hq132] at hr
   dsimp only at hr
   refine finG (fn := Tryd.f56) (rs := [.tmp 2]) (vs := [_]) hE rfl ⟨rfl, trivial⟩ ?_
   obtain rfl := Option.some.inj hr
   replace hS := hS.tail
   exact ⟨rfl, hS⟩
  replace hq132 := iteF hc151 hq132
  refine W.skip ?_
  refine W.seq (W.region (vp hS hE rfl rfl fun a hE => ?_))
  refine vP hS hE (Gives.len hE rfl sl45) rfl fun a hE => ?_
  refine vp hS hE rfl rfl fun a hE => WL.nil ?_
  refine W.cond hE rfl (fun hc152 => ?_) (fun hc152 => ?_)
  ·replace hq132 := iteT hc152 hq132
   refine W.seq (W.region (vp hS hE rfl rfl fun a hE => WL.nil ?_))
   refine W.ret ?_
   subst hK143
   rw [← hq132] at hr
   dsimp only at hr
   refine finG (fn := Tryd.f56) (rs := [.tmp 2]) (vs := [_]) hE rfl ⟨rfl, trivial⟩ ?_
   obtain rfl := Option.some.inj hr
   replace hS := hS.tail
   exact ⟨rfl, hS⟩
  replace hq132 := iteF hc152 hq132
  refine W.skip ?_
  refine W.region ?_
  refine vP hS hE (Gives.inc hE rfl (by have := h0_1.small; omega)) rfl fun a hE => ?_
  refine vp hS hE rfl rfl fun a hE => WL.nil ?_
  subst hK143
  exact ⟨rest136.length, Nat.lt_succ_self _, rest136, k134 + 1, rfl, hd137, hq132, hE.pick _ ⟨rfl, rfl, rfl, rfl, trivial⟩, hS⟩
 clear hE hS a w; rintro a w ⟨rfl, hE, hS⟩
 dsimp only at hr
 refine W.seq ?_
 refine W.seq (W.region (vP hS hE (Gives.loadBA hE 0 rfl rfl ty25) rfl fun a hE => ?_))
 obtain ⟨q153, hq154, hr⟩ := bindS hr
 have hc_ := Fishref2numbersIn_ok hS h0_0 h0_1 hq154
 refine WL.fnq hE (hc_) (runs_plain rfl) bd103 rfl rfl rfl ?_
 clear hE hS hc_; rintro e w ⟨a155, c156, n157, cs158, s161, rfl, hle162, h159, rfl, hS⟩; refine ⟨_, rfl, ?_⟩; clear a; intro a hE
 replace h0_0 := Sl.mono RApiTrain.mono hle162 h0_0
 replace h0_1 := Sl.mono (RL.mono RI.mono) hle162 h0_1
 refine vP hS hE (Gives.len hE rfl sl23) rfl fun a hE => ?_
 refine vp hS hE rfl rfl fun a hE => WL.nil ?_
 have hb174 : q153.length ≤ 9223372036854775807 := by have := hS.vecCap 0 rfl; unfold maxLen at this; omega
 obtain ⟨q164, hq163, hr⟩ := bindS hr
 refine W.cut (fun a w => (.next ()) = q164 ∧ Rep a 105 [] ∧ St w s161 (vecC 45 1 a155 c156 q153.length cs158 :: pc b51 #[.slice a0_0 x0.Trains.length c0_0, .slice a0_1 x0.Turns.length c0_1] 25 :: R)) ?_ ?_
 ·refine W.block ?_
  refine W.loop (fun m a w => ∃ (rest167 : Nat) (k165 : Nat), rest167 = m ∧ k165 + rest167 = q153.length ∧ Fishref2TextFault.loop5 q153 rest167 k165 = some q164 ∧ Rep a 105 [(88, .slice a155 q153.length c156), (89, vi ((q153.length : Nat) : Int)), (90, vi ((k165 : Nat) : Int))] ∧ St w s161 (vecC 45 1 a155 c156 q153.length cs158 :: pc b51 #[.slice a0_0 x0.Trains.length c0_0, .slice a0_1 x0.Turns.length c0_1] 25 :: R)) (m := q153.length) ⟨q153.length, 0, rfl, by omega, hq163, hE.pick _ ⟨rfl, rfl, rfl, trivial⟩, hS⟩ ?_
  clear hE hS a w hq163; rintro m171 a w ⟨rest167, k165, rfl, hd168, hq163, hE, hS⟩
  refine W.gen fun K175 hK175 => ?_
  rcases rest167 with _ | rest167
  ·skip
   refine W.seq (W.region (vp hS hE rfl rfl fun a hE => WL.nil ?_))
   refine W.seq ?_
   refine W.condF hE rfl (decide_eq_false (by omega)) ?_
   subst hK175
   refine W.exit rfl ?_
   exact ⟨Option.some.inj hq163, hE.pick _ trivial, hS⟩
  have hlt169 : k165 < q153.length := by omega
  rw [Fishref2TextFault.loop5] at hq163
  refine W.seq (W.region (vp hS hE rfl rfl fun a hE => WL.nil ?_))
  refine W.seq ?_
  refine W.condT hE rfl (decide_eq_true (by omega)) ?_
  refine W.skip ?_
  refine W.seq ?_
  refine W.block ?_
  refine W.seq (W.region ?_)
  obtain ⟨x176, hx177, hq163⟩ := bindS hq163
  obtain ⟨hi178, hlt179, hy180⟩ := gx_some hx177
  obtain ⟨vs181, hl182, hR183, hd184, hget185⟩ := h159.at hy180
  obtain ⟨a186, c187, rfl, h188⟩ := hR183
  refine vP hS hE (Gives.idx hE ((((k165 : Nat) : Int)).toNat) rfl rfl sl23 hi178 (by omega) (hS.vecAok 0 rfl (by omega : (((k165 : Nat) : Int)).toNat < q153.length))) rfl fun a hE => ?_
  refine vP hS hE (Gives.load1 hE rfl (fun w h => St.vecSees h 0 rfl ((((k165 : Nat) : Int)).toNat * 1) _ hget185) ty45) rfl fun a hE => ?_
  refine vp hS hE rfl rfl fun a hE => WL.nil ?_
  refine W.seq (W.region (vp hS hE rfl rfl fun a hE => ?_))
  refine vP hS hE (Gives.len hE rfl sl45) rfl fun a hE => ?_
  refine vp hS hE rfl rfl fun a hE => WL.nil ?_
  obtain ⟨q190, hq189, hq163⟩ := bndS hq163
  refine W.cut (fun a w => (.next ()) = q190 ∧ Rep a 105 [(88, .slice a155 q153.length c156), (89, vi ((q153.length : Nat) : Int)), (90, vi ((k165 : Nat) : Int))] ∧ St w s161 (vecC 45 1 a155 c156 q153.length cs158 :: pc b51 #[.slice a0_0 x0.Trains.length c0_0, .slice a0_1 x0.Turns.length c0_1] 25 :: R)) ?_ ?_
  ·refine W.block ?_
   refine W.loop (fun m a w => ∃ (rest193 : List Int) (k191 : Nat), rest193.length = m ∧ x176.drop k191 = rest193 ∧ Fishref2TextFault.loop6 rest193 = q190 ∧ Rep a 105 [(88, .slice a155 q153.length c156), (89, vi ((q153.length : Nat) : Int)), (90, vi ((k165 : Nat) : Int)), (94, .slice a186 x176.length c187), (95, vi ((x176).length : Int)), (96, vi ((k191 : Nat) : Int))] ∧ St w s161 (vecC 45 1 a155 c156 q153.length cs158 :: pc b51 #[.slice a0_0 x0.Trains.length c0_0, .slice a0_1 x0.Turns.length c0_1] 25 :: R)) (m := x176.length) ⟨x176, 0, rfl, rfl, hq189, hE.pick _ ⟨rfl, rfl, rfl, rfl, rfl, rfl, trivial⟩, hS⟩ ?_
   clear hE hS a w hq189; rintro m197 a w ⟨rest193, k191, rfl, hd194, hq189, hE, hS⟩
   refine W.gen fun K200 hK200 => ?_
   rcases rest193 with _ | ⟨x192, rest193⟩
   ·have hlt195 := drop_nil hd194
    refine W.seq (W.region (vp hS hE rfl rfl fun a hE => WL.nil ?_))
    refine W.seq ?_
    refine W.condF hE rfl (decide_eq_false (by omega)) ?_
    subst hK200
    refine W.exit rfl ?_
    exact ⟨hq189, hE.pick _ ⟨rfl, rfl, rfl, trivial⟩, hS⟩
   obtain ⟨hlt195, hx196, hd194⟩ := drop_cons hd194
   rw [Fishref2TextFault.loop6] at hq189
   refine W.seq (W.region (vp hS hE rfl rfl fun a hE => WL.nil ?_))
   refine W.seq ?_
   refine W.condT hE rfl (decide_eq_true (by omega)) ?_
   refine W.skip ?_
   refine W.seq ?_
   refine W.block ?_
   refine W.seq (W.region ?_)
   obtain ⟨cs201, hl202, hR203, hat204⟩ := h188.at hx196
   subst hR203
   refine vP hS hE (Gives.idx hE k191 rfl rfl sl45 rfl hlt195 (h188.aok hlt195)) rfl fun a hE => ?_
   refine vP hS hE (Gives.load1 hE rfl (fun w h => hat204 w _ h) ty3) rfl fun a hE => ?_
   refine vp hS hE rfl rfl fun a hE => WL.nil ?_
   refine W.seq (W.region (vp hS hE rfl rfl fun a hE => ?_))
   refine WL.fnq hE (Fishref2within_ok hS  rfl (r := Fishref2within x192 0 999999)) (runs_plain rfl) bd57 rfl rfl rfl ?_
   clear hE hS; rintro e w ⟨rfl, hS⟩; refine ⟨_, rfl, ?_⟩; clear a; intro a hE
   refine vp hS hE rfl rfl fun a hE => WL.nil ?_
   refine W.cond hE rfl (fun hc205 => ?_) (fun hc205 => ?_)
   ·replace hq189 := iteT hc205 hq189
    refine W.seq (W.region (vp hS hE rfl rfl fun a hE => WL.nil ?_))
    refine W.ret ?_
    subst hK200
    subst hK175
    rw [← hq189] at hq163
    dsimp only at hq163
    rw [← Option.some.inj hq163] at hr
    dsimp only at hr
    refine finG (fn := Tryd.f56) (rs := [.tmp 2]) (vs := [_]) hE rfl ⟨rfl, trivial⟩ ?_
    obtain rfl := Option.some.inj hr
    replace hS := hS.tail
    replace hS := hS.tail
    exact ⟨rfl, (hS.down hle162)⟩
   replace hq189 := iteF hc205 hq189
   refine W.skip ?_
   refine W.region ?_
   refine vP hS hE (Gives.inc hE rfl (by have := h188.small; omega)) rfl fun a hE => ?_
   refine vp hS hE rfl rfl fun a hE => WL.nil ?_
   subst hK200
   exact ⟨rest193.length, Nat.lt_succ_self _, rest193, k191 + 1, rfl, hd194, hq189, hE.pick _ ⟨rfl, rfl, rfl, rfl, rfl, rfl, trivial⟩, hS⟩
  clear hE hS a w; rintro a w ⟨rfl, hE, hS⟩
  dsimp only at hq163
  refine W.region ?_
  refine vP hS hE (Gives.inc hE rfl (by omega)) rfl fun a hE => ?_
  refine vp hS hE rfl rfl fun a hE => WL.nil ?_
  subst hK175
  exact ⟨rest167, Nat.lt_succ_self _, rest167, k165 + 1, rfl, (by omega), hq163, hE.pick _ ⟨rfl, rfl, rfl, trivial⟩, hS⟩
 clear hE hS a w; rintro a w ⟨rfl, hE, hS⟩
 dsimp only at hr
 refine W.seq (W.region (vp hS hE rfl rfl fun a hE => WL.nil ?_))
 refine W.ret ?_
 refine finG (fn := Tryd.f56) (rs := [.tmp 2]) (vs := [_]) hE rfl ⟨rfl, trivial⟩ ?_
 obtain rfl := Option.some.inj hr
 replace hS := hS.tail
 replace hS := hS.tail
 exact ⟨rfl, (hS.down hle162)⟩
end Go.Proofs.YtpcebngchmgckaaDoor
