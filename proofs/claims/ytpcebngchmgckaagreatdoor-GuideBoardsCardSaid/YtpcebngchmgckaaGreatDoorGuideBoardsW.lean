/- The walks of the functions that GuideBoards reaches: each call comes to what its mirror says. The conditions are those of each contract. -/
import Derived.Test.YtpcebngchmgckaaGreatDoorProg
import Derived.Test.YtpcebngchmgckaaGreatDoorFpTight
import Derived.Test.YtpcebngchmgckaaGreatDoorGuideBoardsM
import Derived.Test.YtpcebngchmgckaaGreatDoorFpAllX
import Derived.Test.YtpcebngchmgckaaGreatDoorGuideBoardsS
import Derived.Test.YtpcebngchmgckaaGreatDoorFpMapS
import Derived.Test.YtpcebngchmgckaaGreatDoorFpArrS
import Derived.Test.YtpcebngchmgckaaGreatDoorFpFld
import Derived.Test.YtpcebngchmgckaaGreatDoorFpMapE
import Derived.Test.YtpcebngchmgckaaGreatDoorFpMapG
import Derived.Test.YtpcebngchmgckaaGreatDoorFpMapV
import Derived.Test.YtpcebngchmgckaaGreatDoorFpMaps
import Derived.Test.YtpcebngchmgckaaGreatDoorFpOrd
import Derived.Test.YtpcebngchmgckaaGreatDoorFpRf
import Derived.Test.YtpcebngchmgckaaGreatDoorFpRng
import Derived.Test.YtpcebngchmgckaaGreatDoorGuideBoardsW3
set_option maxRecDepth 10000
namespace Go.Proofs.YtpcebngchmgckaaGreatDoor
open Go Go.Fp
set_option maxHeartbeats 8000000 in
theorem GuideNetleastOf_ok {fu : Nat}  {w : World} {s : Sg} {R : List HP} {x0 : GuideNet} {a0_0 : Option Addr} {c0_0 : Nat} {a0_1 : Option Addr} {c0_1 : Nat} {x1 : Int} {x2 : Int} {x3 : GuidePoint} (hS : St w s (R)) (h0_0 : Sl 4 RApiTrain s a0_0 c0_0 x0.Day.Trains) (h0_1 : Sl 1 (RL 1 (RI .i64)) s a0_1 c0_1 x0.Day.Turns) {r : GuideJourney} (hr : GuideNetleastOf fu x0 x1 x2 x3 = some r) :
  Calls Tryz.prog 133 [.agg (List.toArray [.slice a0_0 x0.Day.Trains.length c0_0, .slice a0_1 x0.Day.Turns.length c0_1, vi x0.least]), vi x1, vi x2, .agg (GuidePoint.cells x3).toArray].toArray w (fun e w => ∃ (cs0 : List Value) (t : Sg), e = .returned (.agg cs0.toArray) ∧ s.Le t ∧ RGuideJourney t cs0 r ∧ St w t (R)) := by
 refine enter Tryz.func133 rfl rfl rfl fun a hE => ?_
 rw [GuideNetleastOf] at hr
 refine W.seq (W.region ?_)
 refine WL.box hE hS (runs_plain rfl) rfl rfl rfl ?_; clear hE hS a w; intro b51 a w hE hS
 refine WL.box hE hS (runs_plain rfl) rfl rfl rfl ?_; clear hE hS a w; intro b52 a w hE hS
 refine WL.box hE hS (runs_plain rfl) rfl rfl rfl ?_; clear hE hS a w; intro b53 a w hE hS
 refine WL.alloc hE hS (runs_plain rfl) zr29 rfl ?_; clear hE hS a w; intro b54 a w hE hS
 refine WL.nil ?_
 refine W.seq (W.region ?_)
 refine WL.mkMap (fk := keyAr3i64.f) (fv := Value.bool) hE hS (runs_plain rfl) rfl ?_; clear hE hS a w; intro b55 a w hE hS
 refine WL.alloc hE hS (runs_plain rfl) zr269 rfl ?_; clear hE hS a w; intro b56 a w hE hS
 refine WL.storeI hE hS 0 rfl [.map (some b55)] (runs_plain rfl) rfl rfl rfl ty269 rfl rfl rfl rfl ?_; clear hE hS a w; intro a w hE hS
 refine WL.nil ?_
 refine W.seq (W.region ?_)
 refine WL.alloc hE hS (runs_plain rfl) zr107 rfl ?_; clear hE hS a w; intro b57 a w hE hS
 refine WL.nil ?_
 refine W.seq (W.region (vP hS hE (Gives.mkfn hE (vs := [pp b51, pp b53, pp b52, pp b56, pp b57]) rfl) rfl fun a hE => ?_))
 refine WL.storeI hE hS 0 rfl [.func (.func 170) #[] #[pp b51, pp b53, pp b52, pp b56, pp b57]] (runs_plain rfl) rfl rfl rfl ty107 rfl rfl rfl rfl ?_; clear hE hS a w; intro a w hE hS
 refine WL.nil ?_
 refine W.seq ?_
 refine W.seq (W.region (vP hS hE (Gives.loadBA hE 6 rfl rfl ty91) rfl fun a hE => ?_))
 refine vp hS hE rfl rfl fun a hE => ?_
 refine vP hS hE (Gives.fld hE rfl fl216_0) rfl fun a hE => ?_
 refine vP hS hE (Gives.loadB hE 4 rfl rfl rfl ty3) rfl fun a hE => ?_
 obtain ⟨q58, hq59, hr⟩ := bndS hr
 have hc_ := GuideNetrides_ok hS h0_0 h0_1 hq59
 refine WL.fnq hE (hc_) (runs_plain rfl) bd49 rfl rfl rfl ?_
 clear hE hS hc_; rintro e w ⟨lb60, s62, rfl, hle63, h61, hS⟩; refine ⟨_, rfl, ?_⟩; clear a; intro a hE
 replace h0_0 := Sl.mono RApiTrain.mono hle63 h0_0
 replace h0_1 := Sl.mono (RL.mono RI.mono) hle63 h0_1
 refine WL.nil ?_
 refine W.block ?_
 obtain ⟨q65, hq64, hr⟩ := bindS hr
 refine W.cut (fun a w => ∃ (q77 : List GuideRide), ∃ (q81 : List (Ar3i64 × Bool)), ∃ (a78 : Option Addr), ∃ (c79 : Nat), ∃ (D71 : Nat) (s75 : Sg), s62.Le s75 ∧ (.next (q77, q81)) = q65 ∧ Sl 3 RGuideRide s75 a78 c79 q77 ∧ Rep a 37 [(8, pp b54), (4294967295, vi (D71 : Nat))] ∧ St w s75 (pt D71 (.deferred (some [])) :: pc b57 #[.func (.func 170) #[] #[pp b51, pp b53, pp b52, pp b56, pp b57]] 107 :: pc b56 #[.map (some b55)] 269 :: mapC keyAr3i64.f Value.bool b55 q81 :: pc b54 #[.slice a78 q77.length c79] 29 :: pc b53 (GuidePoint.cells x3).toArray 216 :: pc b52 #[vi x2] 3 :: pc b51 #[.slice a0_0 x0.Day.Trains.length c0_0, .slice a0_1 x0.Day.Turns.length c0_1, vi x0.least] 91 :: R)) ?_ ?_
 ·refine W.rangeFunc (l := q58) (ps := [20]) [] rfl hE rfl hS rfl h61 bd100 (fun _ => rfl) rfl (fun pre68 s75 Q_ => ∃ (rest67 : List GuideRide), ∃ (q77 : List GuideRide), ∃ (q81 : List (Ar3i64 × Bool)), ∃ (a78 : Option Addr), ∃ (c79 : Nat), q58 = pre68 ++ rest67 ∧ GuideNetleastOf.loop1 x0 x2 x3 fu rest67 q77 q81 = some q65 ∧ s62.Le s75 ∧ Sl 3 RGuideRide s75 a78 c79 q77 ∧ Q_ = pc b57 #[.func (.func 170) #[] #[pp b51, pp b53, pp b52, pp b56, pp b57]] 107 :: pc b56 #[.map (some b55)] 269 :: mapC keyAr3i64.f Value.bool b55 q81 :: pc b54 #[.slice a78 q77.length c79] 29 :: pc b53 (GuidePoint.cells x3).toArray 216 :: pc b52 #[vi x2] 3 :: pc b51 #[.slice a0_0 x0.Day.Trains.length c0_0, .slice a0_1 x0.Day.Turns.length c0_1, vi x0.least] 91 :: R) (fun _ s75 Q_ => ∃ (q77 : List GuideRide), ∃ (q81 : List (Ar3i64 × Bool)), ∃ (a78 : Option Addr), ∃ (c79 : Nat), (.ret (q77, q81)) = q65 ∧ s62.Le s75 ∧ Sl 3 RGuideRide s75 a78 c79 q77 ∧ Q_ = pc b57 #[.func (.func 170) #[] #[pp b51, pp b53, pp b52, pp b56, pp b57]] 107 :: pc b56 #[.map (some b55)] 269 :: mapC keyAr3i64.f Value.bool b55 q81 :: pc b54 #[.slice a78 q77.length c79] 29 :: pc b53 (GuidePoint.cells x3).toArray 216 :: pc b52 #[vi x2] 3 :: pc b51 #[.slice a0_0 x0.Day.Trains.length c0_0, .slice a0_1 x0.Day.Turns.length c0_1, vi x0.least] 91 :: R) (fun _ _ _ h => (by obtain ⟨rest67, q77, q81, a78, c79, _, _, hle_, _⟩ := h; exact hle_)) ⟨q58, [], [], none, 0, rfl, hq64, Sg.Le.refl _, Sl.nil, rfl⟩ (fun x66 (b82 : Nat) => [(4, pp b51), (7, pp b53), (8, pp b54), (10, pp b57), (11, pp b82)]) (fun x66 (b82 : Nat) => [pc b82 (GuideRide.cells x66).toArray 95]) ?_ ?_ ?_ ?_
  ·intro x66 a w t74 R L72 hE hS
   refine W.region ?_
   refine WL.alloc hE hS (runs_plain rfl) zr95 rfl ?_; clear hE hS a w; intro b82 a w hE hS
   refine WL.storeI hE hS 0 rfl (GuideRide.cells x66) (runs_plain rfl) rfl rfl rfl ty95 rfl rfl rfl rfl ?_; clear hE hS a w; intro a w hE hS
   refine WL.nil ?_
   exact ⟨b82, hE.pick _ ⟨rfl, rfl, rfl, rfl, rfl, trivial⟩, hS⟩
  ·intro pre68 x66 b82 s75 Q_ T_ L72 a w hpre_ hI_ hE hS
   obtain ⟨rest67, q77, q81, a78, c79, hl69, hq64, hle76, h80, rfl⟩ := hI_
   obtain ⟨rest67, rfl⟩ := pre_next hl69 hpre_
   rw [GuideNetleastOf.loop1] at hq64
   replace hS : St w s75 (pc b82 (GuideRide.cells x66).toArray 95 :: pc b57 #[.func (.func 170) #[] #[pp b51, pp b53, pp b52, pp b56, pp b57]] 107 :: pc b56 #[.map (some b55)] 269 :: mapC keyAr3i64.f Value.bool b55 q81 :: pc b54 #[.slice a78 q77.length c79] 29 :: pc b53 (GuidePoint.cells x3).toArray 216 :: pc b52 #[vi x2] 3 :: pc b51 #[.slice a0_0 x0.Day.Trains.length c0_0, .slice a0_1 x0.Day.Turns.length c0_1, vi x0.least] 91 :: (R ++ T_)) := hS
   generalize hT83 : R ++ T_ = R at hS
   refine W.gen fun K84 hK84 => ?_
   replace h0_0 := Sl.mono RApiTrain.mono hle76 h0_0
   replace h0_1 := Sl.mono (RL.mono RI.mono) hle76 h0_1
   replace h61 := Iter.mono hle76 h61
   refine W.block ?_
   refine W.seq ?_
   refine W.seq ?_
   refine W.gen fun K85 hK85 => ?_
   refine W.regionE (dup (fun w => St w s75 (pc b82 (GuideRide.cells x66).toArray 95 :: pc b57 #[.func (.func 170) #[] #[pp b51, pp b53, pp b52, pp b56, pp b57]] 107 :: pc b56 #[.map (some b55)] 269 :: mapC keyAr3i64.f Value.bool b55 q81 :: pc b54 #[.slice a78 q77.length c79] 29 :: pc b53 (GuidePoint.cells x3).toArray 216 :: pc b52 #[vi x2] 3 :: pc b51 #[.slice a0_0 x0.Day.Trains.length c0_0, .slice a0_1 x0.Day.Turns.length c0_1, vi x0.least] 91 :: R))) (fun b i => cond b ([0, 1, 2, 3, 4, 5, 6].contains i) ([0, 1, 2, 3, 4, 5, 6].contains i)) mixed ?_
   replace hS := hS.drew
   refine tT (i := 0) true rfl hE rfl (by kernel_rfl) (Gives.loadBA hE 7 rfl rfl ty91) rfl hS hS fun a hE => ?_
   have hT := tw_sel (A := fun w => St w s75 _) (B := fun w => St w s75 _) (w := _) (x := true) (y := true) (fun _ => hS) (fun _ => hS)
   have hF := hS; replace hS := hS
   refine Rg.take (i := 1) true rfl hE rfl (by kernel_rfl) (runs_plain rfl) (Gives.loadBA hE 0 rfl rfl ty95) rfl hT fun a hE => ?_
   replace hS := hF; clear hF hT
   refine tP (i := 4) hE rfl (by kernel_rfl) (Gives.fld hE rfl fl216_0) rfl hS hS fun a hE => ?_
   refine tT (i := 5) true rfl hE rfl (by kernel_rfl) (Gives.loadB hE 5 rfl rfl rfl ty3) rfl hS hS fun a hE => ?_
   refine Rg.one (i := 2) true true rfl (by kernel_rfl) (by kernel_rfl) (by kernel_rfl) ?_
   obtain ⟨q86, hq87, hq64⟩ := bindS hq64
   have hc_ := GuideNeton_ok hS h0_0 h0_1 hq87
   refine WL.fnq hE (hc_) (runs_plain rfl) bd44 rfl rfl rfl ?_
   clear hE hS hc_; rintro e w ⟨cs88, s90, rfl, hle91, h89, hS⟩; refine ⟨_, rfl, ?_⟩; clear a; intro a hE
   replace h0_0 := Sl.mono RApiTrain.mono hle91 h0_0
   replace h0_1 := Sl.mono (RL.mono RI.mono) hle91 h0_1
   replace h80 := Sl.mono RGuideRide.mono hle91 h80
   subst h89
   refine WL.nil ?_
   refine ⟨⟨fun _ => (St.down hle91 hS), fun _ => (St.down hle91 hS)⟩, ?_⟩
   refine tP (i := 3) hE rfl (by kernel_rfl) (Gives.field1 hE rfl fd99_3 ty3 rfl) rfl (St.down hle91 hS) (St.down hle91 hS) fun a hE => ?_
   refine tP (i := 6) hE rfl (by kernel_rfl) (Gives.p hE rfl) rfl (St.down hle91 hS) (St.down hle91 hS) fun a hE => ?_
   refine Rg.done (by kernel_rfl) ?_
   subst hK85
   refine W.cond hE rfl (fun hc92 => ?_) (fun hc92 => ?_)
   ·replace hq64 := iteT hc92 hq64
    refine W.exit rfl ?_
    replace hS := hS.tail
    subst hK84
    subst hT83
    exact ⟨s90, _, ⟨rest67, q77, q81, a78, c79, hl69.trans (by simp), hq64, (Sg.Le.trans hle76 hle91), h80, rfl⟩, hS⟩
   replace hq64 := iteF hc92 hq64
   refine W.skip ?_
   refine W.seq (W.region (vP hS hE (Gives.loadB hE 1 rfl rfl rfl ty107) rfl fun a hE => ?_))
   refine vP hS hE (Gives.loadBA hE 0 rfl rfl ty95) rfl fun a hE => ?_
   refine WL.lit hE hS (e := 95) (es := 3) (vs := [(0, .agg (GuideRide.cells x66).toArray)]) (cs := [vi x66.Train, vi x66.On, vi x66.Off]) (runs_plain rfl) rfl (by kernel_rfl) rfl ?_; clear hE hS a w; intro b93 a w hE hS
   replace hS := hS.ptVec (es := 3) (m := 1) rfl (by decide)
   have h95 : Ev 3 RGuideRide s90 [vi x66.Train, vi x66.On, vi x66.Off] [x66] := (Ev.cons (c1 := [vi x66.Train, vi x66.On, vi x66.Off]) rfl rfl (Ev.nil))
   have hF := hS.fixD RGuideRide.mono 0 rfl h95 (rfl); clear hS; obtain ⟨s96, hle97, hS, h98⟩ := hF
   replace h0_0 := Sl.mono RApiTrain.mono hle97 h0_0
   replace h0_1 := Sl.mono (RL.mono RI.mono) hle97 h0_1
   replace h80 := Sl.mono RGuideRide.mono hle97 h80
   obtain ⟨q99, hq100, hq64⟩ := bindS hq64
   replace hS := hS.front 3 rfl
   replace hS := hS.front 2 rfl
   replace hS := hS.front 3 rfl
   replace hS := hS.front 6 rfl
   replace hS := hS.front 6 rfl
   replace hS := hS.front 7 rfl
   have hc_ := GuideNetleastOf_1_v1_ok (y0 := x0) (y1 := x3) hS h98 h0_0 h0_1 hq100
   refine WL.fnw hE (hc_) rfl (runs_plain rfl) bd170 rfl rfl rfl ?_
   clear hE hS hc_; rintro e w ⟨a101, c102, s105, rfl, hle106, h103, hz104, hS⟩; refine ⟨_, rfl, ?_⟩; clear a; intro a hE
   replace h0_0 := Sl.mono RApiTrain.mono hle106 h0_0
   replace h0_1 := Sl.mono (RL.mono RI.mono) hle106 h0_1
   replace h98 := Sl.mono RGuideRide.mono hle106 h98
   replace h80 := Sl.mono RGuideRide.mono hle106 h80
   refine vp hS hE rfl rfl fun a hE => WL.nil ?_
   refine W.seq (W.region (vp hS hE rfl rfl fun a hE => ?_))
   refine vP hS hE (Gives.notNilZ hE (isNone_eq h103 hz104) rfl rfl isl27) rfl fun a hE => WL.nil ?_
   refine W.cond hE rfl (fun hc107 => ?_) (fun hc107 => ?_)
   ·replace hq64 := iteT hc107 hq64
    refine W.seq (W.region (vp hS hE rfl rfl fun a hE => ?_))
    refine vP hS hE (Gives.build hE (vs := [(0, .slice a101 q99.1.length c102)]) [.slice a101 q99.1.length c102] rfl (by kernel_rfl)) rfl fun a hE => ?_
    refine WL.storeI hE hS 7 rfl [.slice a101 q99.1.length c102] (runs_plain rfl) rfl rfl rfl ty29 rfl rfl rfl rfl ?_; clear hE hS a w; intro a w hE hS
    refine WL.nil ?_
    refine W.ret ?_
    subst hK84
    replace hS := hS.dropAt 6
    replace hS := hS.front 2 rfl
    replace hS := hS.front 2 rfl
    replace hS := hS.front 6 rfl
    replace hS := hS.front 6 rfl
    replace hS := hS.front 5 rfl
    replace hS := hS.front 6 rfl
    subst hT83
    exact ⟨s105, _, ⟨q99.1, q99.2, a101, c102, Option.some.inj hq64, (Sg.Le.trans (Sg.Le.trans (Sg.Le.trans hle76 hle91) hle97) hle106), h103, rfl⟩, hS⟩
   replace hq64 := iteF hc107 hq64
   refine W.skip ?_
   replace hS := hS.dropAt 6
   replace hS := hS.front 2 rfl
   replace hS := hS.front 2 rfl
   replace hS := hS.front 6 rfl
   replace hS := hS.front 6 rfl
   replace hS := hS.front 5 rfl
   replace hS := hS.front 6 rfl
   subst hK84
   subst hT83
   exact ⟨s105, _, ⟨rest67, q77, q99.2, a78, c79, hl69.trans (by simp), hq64, (Sg.Le.trans (Sg.Le.trans (Sg.Le.trans hle76 hle91) hle97) hle106), h80, rfl⟩, hS⟩
  ·intro s75 Q_ D71 a w hI_ hE hS
   obtain ⟨rest67, q77, q81, a78, c79, hl69, hq64, hle76, h80, rfl⟩ := hI_
   obtain rfl := pre_end hl69
   rw [GuideNetleastOf.loop1] at hq64
   exact ⟨q77, q81, _, _, D71, s75, hle76, Option.some.inj hq64, h80, hE.pick _ ⟨rfl, rfl, trivial⟩, hS⟩
  intro c_ s75 Q_ D71 a w hc_ hX_ hE hS
  obtain rfl : c_ = .ret := hc_.elim id (fun h => (by obtain ⟨_, h, _⟩ := h; cases h))
  obtain ⟨q77, q81, a78, c79, rfl, hle76, h80, rfl⟩ := hX_
  dsimp only at hr
  replace h0_0 := Sl.mono RApiTrain.mono hle76 h0_0
  replace h0_1 := Sl.mono (RL.mono RI.mono) hle76 h0_1
  replace h61 := Iter.mono hle76 h61
  refine W.ret ?_
  refine finGM (fn := Tryz.f133) (rs := [.cell 8 29]) (vs := [.agg #[.slice a78 q77.length c79]]) hE hS 0 rfl rfl ?_
  clear hS; intro w hS
  refine ⟨⟨⟨_, rfl, .inl ⟨_, rfl, hS.seesAt 3 rfl, ty29⟩⟩, trivial⟩, ?_⟩
  obtain rfl := Option.some.inj hr
  replace hS := hS.tail
  replace hS := hS.tail
  replace hS := hS.tail
  replace hS := hS.tail
  replace hS := hS.tail
  replace hS := hS.tail
  replace hS := hS.tail
  exact ⟨_, s75, rfl, (Sg.Le.trans hle63 hle76), ⟨_, _, rfl, h80⟩, hS⟩
 clear hE hS a w; rintro a w ⟨q77, q81, a78, c79, D71, s75, hle76, rfl, h80, hE, hS⟩
 dsimp only at hr
 replace h0_0 := Sl.mono RApiTrain.mono hle76 h0_0
 replace h0_1 := Sl.mono (RL.mono RI.mono) hle76 h0_1
 replace h61 := Iter.mono hle76 h61
 refine W.seq (W.region (vP hS hE (Gives.build hE (vs := []) [.slice none 0 0] rfl (by kernel_rfl)) rfl fun a hE => ?_))
 refine WL.storeI hE hS 4 rfl [.slice none 0 0] (runs_plain rfl) rfl rfl rfl ty29 rfl rfl rfl rfl ?_; clear hE hS a w; intro a w hE hS
 refine WL.nil ?_
 refine W.ret ?_
 refine finGM (fn := Tryz.f133) (rs := [.cell 8 29]) (vs := [.agg #[.slice none 0 0]]) hE hS 0 rfl rfl ?_
 clear hS; intro w hS
 refine ⟨⟨⟨_, rfl, .inl ⟨_, rfl, hS.seesAt 3 rfl, ty29⟩⟩, trivial⟩, ?_⟩
 obtain rfl := Option.some.inj hr
 replace hS := hS.tail
 replace hS := hS.tail
 replace hS := hS.tail
 replace hS := hS.tail
 replace hS := hS.tail
 replace hS := hS.tail
 replace hS := hS.tail
 exact ⟨_, s75, rfl, (Sg.Le.trans hle63 hle76), ⟨_, _, rfl, Sl.nil⟩, hS⟩
set_option maxHeartbeats 8000000 in
theorem GuideNetearliest_ok {fu : Nat}  {w : World} {s : Sg} {R : List HP} {x0 : GuideNet} {a0_0 : Option Addr} {c0_0 : Nat} {a0_1 : Option Addr} {c0_1 : Nat} {x1 : Int} {x2 : Int} {x3 : Int} (hS : St w s (R)) (h0_0 : Sl 4 RApiTrain s a0_0 c0_0 x0.Day.Trains) (h0_1 : Sl 1 (RL 1 (RI .i64)) s a0_1 c0_1 x0.Day.Turns) {r : GuideJourney × Bool} (hr : GuideNetearliest fu x0 x1 x2 x3 = some r) :
  Calls Tryz.prog 81 [.agg (List.toArray [.slice a0_0 x0.Day.Trains.length c0_0, .slice a0_1 x0.Day.Turns.length c0_1, vi x0.least]), vi x1, vi x2, vi x3].toArray w (fun e w => ∃ (cs0 : List Value) (t : Sg), e = .returned (.tuple #[.agg cs0.toArray, .bool r.2]) ∧ s.Le t ∧ RGuideJourney t cs0 r.1 ∧ St w t (R)) := by
 refine enter Tryz.func81 rfl rfl rfl fun a hE => ?_
 rw [GuideNetearliest] at hr
 refine W.seq (W.region ?_)
 refine WL.box hE hS (runs_plain rfl) rfl rfl rfl ?_; clear hE hS a w; intro b51 a w hE hS
 refine WL.box hE hS (runs_plain rfl) rfl rfl rfl ?_; clear hE hS a w; intro b52 a w hE hS
 refine WL.alloc hE hS (runs_plain rfl) zr29 rfl ?_; clear hE hS a w; intro b53 a w hE hS
 refine vp hS hE rfl rfl fun a hE => WL.nil ?_
 refine W.seq (W.region (vP hS hE (Gives.loadBA hE 2 rfl rfl ty91) rfl fun a hE => ?_))
 refine v2 hS hE rfl rfl rfl rfl fun a hE => ?_
 obtain ⟨q54, hq55, hr⟩ := bindS hr
 have hc_ := GuideNetpoints_ok hS h0_0 h0_1 hq55
 refine WL.fnq hE (hc_) (runs_plain rfl) bd129 rfl rfl rfl ?_
 clear hE hS hc_; rintro e w ⟨a56, c57, n58, cs59, s62, rfl, hle63, h60, rfl, hS⟩; refine ⟨_, rfl, ?_⟩; clear a; intro a hE
 replace h0_0 := Sl.mono RApiTrain.mono hle63 h0_0
 replace h0_1 := Sl.mono (RL.mono RI.mono) hle63 h0_1
 refine vP hS hE (Gives.mkfn hE (vs := [pp b52]) rfl) rfl fun a hE => ?_
 obtain ⟨q64, hq65, hr⟩ := bindS hr
 replace hS := hS.front 0 rfl
 replace hS := hS.front 2 rfl
 have hc_ := SlicesDeleteFuncLguidePoint_v1_ok hS h60 rfl hq65
 refine WL.fnq hE (hc_) (runs_plain rfl) bd128 rfl rfl rfl ?_
 clear hE hS hc_; rintro e w ⟨a66, c67, n68, cs69, rfl, h70, rfl, hS⟩; refine ⟨_, rfl, ?_⟩; clear a; intro a hE
 refine vp hS hE rfl rfl fun a hE => WL.nil ?_
 refine W.seq ?_
 refine W.seq (W.region (vp hS hE rfl rfl fun a hE => ?_))
 refine vP hS hE (Gives.len hE rfl sl213) rfl fun a hE => ?_
 refine vp hS hE rfl rfl fun a hE => WL.nil ?_
 refine W.cond hE rfl (fun hc72 => ?_) (fun hc72 => ?_)
 ·replace hr := iteT hc72 hr
  refine W.seq (W.region (vP hS hE (Gives.build hE (vs := []) [.slice none 0 0] rfl (by kernel_rfl)) rfl fun a hE => ?_))
  refine WL.storeI hE hS 2 rfl [.slice none 0 0] (runs_plain rfl) rfl rfl rfl ty29 rfl rfl rfl rfl ?_; clear hE hS a w; intro a w hE hS
  refine vp hS hE rfl rfl fun a hE => WL.nil ?_
  refine W.ret ?_
  refine finG (fn := Tryz.f81) (rs := [.cell 8 29, .tmp 9]) (vs := [_, _]) hE rfl ⟨⟨_, rfl, .inl ⟨_, rfl, hS.seesAt 2 rfl, ty29⟩⟩, rfl, trivial⟩ ?_
  obtain rfl := Option.some.inj hr
  replace hS := hS.tail
  replace hS := hS.tail
  replace hS := hS.tail
  replace hS := hS.tail
  exact ⟨_, s62, rfl, hle63, ⟨_, _, rfl, Sl.nil⟩, hS⟩
 replace hr := iteF hc72 hr
 refine W.skip ?_
 refine W.seq (W.region (vp hS hE rfl rfl fun a hE => ?_))
 have hF := hS.fixD RGuidePoint.mono 0 rfl h70 rfl; clear hS; obtain ⟨s73, hle74, hS, h75⟩ := hF
 replace h0_0 := Sl.mono RApiTrain.mono hle74 h0_0
 replace h0_1 := Sl.mono (RL.mono RI.mono) hle74 h0_1
 obtain ⟨q76, hq77, hr⟩ := bindS hr
 have hc_ := SlicesMinFuncLguidePoint_v1_ok hS h75 hq77
 refine WL.fnq hE (hc_) (runs_plain rfl) bd131 rfl rfl rfl ?_
 clear hE hS hc_; rintro e w ⟨cs78, s80, rfl, hle81, h79, hS⟩; refine ⟨_, rfl, ?_⟩; clear a; intro a hE
 replace h0_0 := Sl.mono RApiTrain.mono hle81 h0_0
 replace h0_1 := Sl.mono (RL.mono RI.mono) hle81 h0_1
 replace h75 := Sl.mono RGuidePoint.mono hle81 h75
 subst h79
 refine WL.alloc hE hS (runs_plain rfl) zr216 rfl ?_; clear hE hS a w; intro b82 a w hE hS
 refine WL.storeI hE hS 0 rfl (GuidePoint.cells q76) (runs_plain rfl) rfl rfl rfl ty216 rfl rfl rfl rfl ?_; clear hE hS a w; intro a w hE hS
 refine WL.nil ?_
 refine W.seq (W.region (vP hS hE (Gives.loadBA hE 3 rfl rfl ty91) rfl fun a hE => ?_))
 refine v2 hS hE rfl rfl rfl rfl fun a hE => ?_
 refine vP hS hE (Gives.loadBA hE 0 rfl rfl ty216) rfl fun a hE => ?_
 obtain ⟨q83, hq84, hr⟩ := bindS hr
 have hc_ := GuideNetleastOf_ok hS h0_0 h0_1 hq84
 refine WL.fnq hE (hc_) (runs_plain rfl) bd133 rfl rfl rfl ?_
 clear hE hS hc_; rintro e w ⟨cs85, s87, rfl, hle88, h86, hS⟩; refine ⟨_, rfl, ?_⟩; clear a; intro a hE
 replace h0_0 := Sl.mono RApiTrain.mono hle88 h0_0
 replace h0_1 := Sl.mono (RL.mono RI.mono) hle88 h0_1
 replace h75 := Sl.mono RGuidePoint.mono hle88 h75
 obtain ⟨a89, c90, rfl, h91⟩ := h86
 refine WL.storeI hE hS 2 rfl [.slice a89 q83.Rides.length c90] (runs_plain rfl) rfl rfl rfl ty29 rfl rfl rfl rfl ?_; clear hE hS a w; intro a w hE hS
 refine vp hS hE rfl rfl fun a hE => WL.nil ?_
 refine W.ret ?_
 refine finG (fn := Tryz.f81) (rs := [.cell 8 29, .tmp 9]) (vs := [_, _]) hE rfl ⟨⟨_, rfl, .inl ⟨_, rfl, hS.seesAt 2 rfl, ty29⟩⟩, rfl, trivial⟩ ?_
 obtain rfl := Option.some.inj hr
 replace hS := hS.tail
 replace hS := hS.tail
 replace hS := hS.tail
 replace hS := hS.tail
 exact ⟨_, s87, rfl, (Sg.Le.trans (Sg.Le.trans (Sg.Le.trans hle63 hle74) hle81) hle88), ⟨_, _, rfl, h91⟩, hS⟩
set_option maxHeartbeats 8000000 in
theorem GuideEarliest_ok {fu : Nat}  {w : World} {s : Sg} {R : List HP} {x0 : ApiDay} {a0_0 : Option Addr} {c0_0 : Nat} {a0_1 : Option Addr} {c0_1 : Nat} {x1 : Int} {x2 : Int} {x3 : Int} {x4 : Int} (hS : St w s (R)) (hTab : TabS Tryz.prog s) (h0_0 : Sl 4 RApiTrain s a0_0 c0_0 x0.Trains) (h0_1 : Sl 1 (RL 1 (RI .i64)) s a0_1 c0_1 x0.Turns) {r : GuideJourney × Int} (hr : GuideEarliest fu x0 x1 x2 x3 x4 = some r) :
  Calls Tryz.prog 52 [.agg (List.toArray [.slice a0_0 x0.Trains.length c0_0, .slice a0_1 x0.Turns.length c0_1]), vi x1, vi x2, vi x3, vi x4].toArray w (fun e w => ∃ (cs0 : List Value) (t : Sg), e = .returned (.tuple #[.agg cs0.toArray, vi r.2]) ∧ s.Le t ∧ RGuideJourney t cs0 r.1 ∧ St w t (R)) := by
 refine enter Tryz.func52 rfl rfl rfl fun a hE => ?_
 rw [GuideEarliest] at hr
 refine W.seq (W.region ?_)
 refine WL.box hE hS (runs_plain rfl) rfl rfl rfl ?_; clear hE hS a w; intro b51 a w hE hS
 refine WL.alloc hE hS (runs_plain rfl) zr29 rfl ?_; clear hE hS a w; intro b52 a w hE hS
 refine vp hS hE rfl rfl fun a hE => WL.nil ?_
 refine W.seq ?_
 refine W.seq (W.region (vP hS hE (Gives.loadBA hE 1 rfl rfl ty25) rfl fun a hE => ?_))
 refine v2 hS hE rfl rfl rfl rfl fun a hE => ?_
 refine v2 hS hE rfl rfl rfl rfl fun a hE => ?_
 refine WL.lit hE hS (e := 3) (es := 1) (vs := [(0, vi x2)]) (cs := [vi x2]) (runs_plain rfl) rfl (by kernel_rfl) rfl ?_; clear hE hS a w; intro b53 a w hE hS
 replace hS := hS.ptVec (es := 1) (m := 1) rfl (by decide)
 have h55 : Ev 1 (RI .i64) s [vi x2] [x2] := (Ev.cons (c1 := [vi x2]) rfl rfl (Ev.nil))
 have hF := hS.fixD RI.mono 0 rfl h55 (rfl); clear hS; obtain ⟨s56, hle57, hS, h58⟩ := hF
 replace h0_0 := Sl.mono RApiTrain.mono hle57 h0_0
 replace h0_1 := Sl.mono (RL.mono RI.mono) hle57 h0_1
 obtain ⟨q59, hq60, hr⟩ := bindS hr
 have hc_ := Guidecheck_ok hS (TabS.mono hle57 hTab) h0_0 h0_1 h58 hq60
 refine WL.fnq hE (hc_) (runs_plain rfl) bd38 rfl rfl rfl ?_
 clear hE hS hc_; rintro e w ⟨rfl, hS⟩; refine ⟨_, rfl, ?_⟩; clear a; intro a hE
 refine vp hS hE rfl rfl fun a hE => WL.nil ?_
 refine W.seq (W.region (v2 hS hE rfl rfl rfl rfl fun a hE => WL.nil ?_))
 refine W.cond hE rfl (fun hc61 => ?_) (fun hc61 => ?_)
 ·replace hr := iteT hc61 hr
  refine W.seq (W.region (vP hS hE (Gives.build hE (vs := []) [.slice none 0 0] rfl (by kernel_rfl)) rfl fun a hE => ?_))
  refine vp hS hE rfl rfl fun a hE => ?_
  refine WL.storeI hE hS 0 rfl [.slice none 0 0] (runs_plain rfl) rfl rfl rfl ty29 rfl rfl rfl rfl ?_; clear hE hS a w; intro a w hE hS
  refine vp hS hE rfl rfl fun a hE => WL.nil ?_
  refine W.ret ?_
  refine finG (fn := Tryz.f52) (rs := [.cell 10 29, .tmp 11]) (vs := [_, _]) hE rfl ⟨⟨_, rfl, .inl ⟨_, rfl, hS.seesAt 0 rfl, ty29⟩⟩, rfl, trivial⟩ ?_
  obtain rfl := Option.some.inj hr
  replace hS := hS.tail
  replace hS := hS.tail
  exact ⟨_, s56, rfl, hle57, ⟨_, _, rfl, Sl.nil⟩, hS⟩
 replace hr := iteF hc61 hr
 refine W.skip ?_
 refine W.seq (W.region (vP hS hE (Gives.loadBA hE 1 rfl rfl ty25) rfl fun a hE => ?_))
 refine vp hS hE rfl rfl fun a hE => ?_
 refine vP hS hE (Gives.build hE (vs := [(0, .agg (List.toArray [.slice a0_0 x0.Trains.length c0_0, .slice a0_1 x0.Turns.length c0_1])), (1, vi x4)]) [.slice a0_0 x0.Trains.length c0_0, .slice a0_1 x0.Turns.length c0_1, vi x4] rfl (by kernel_rfl)) rfl fun a hE => ?_
 refine v2 hS hE rfl rfl rfl rfl fun a hE => ?_
 refine vp hS hE rfl rfl fun a hE => ?_
 obtain ⟨q62, hq63, hr⟩ := bindS hr
 have hc_ := GuideNetearliest_ok hS h0_0 h0_1 hq63
 refine WL.fnq hE (hc_) (runs_plain rfl) bd81 rfl rfl rfl ?_
 clear hE hS hc_; rintro e w ⟨cs64, s66, rfl, hle67, h65, hS⟩; refine ⟨_, rfl, ?_⟩; clear a; intro a hE
 replace h0_0 := Sl.mono RApiTrain.mono hle67 h0_0
 replace h0_1 := Sl.mono (RL.mono RI.mono) hle67 h0_1
 replace h58 := Sl.mono RI.mono hle67 h58
 obtain ⟨a68, c69, rfl, h70⟩ := h65
 refine v2 hS hE rfl rfl rfl rfl fun a hE => ?_
 refine vp hS hE rfl rfl fun a hE => ?_
 refine WL.alloc hE hS (runs_plain rfl) zr29 rfl ?_; clear hE hS a w; intro b71 a w hE hS
 refine WL.storeI hE hS 0 rfl [.slice a68 q62.1.Rides.length c69] (runs_plain rfl) rfl rfl rfl ty29 rfl rfl rfl rfl ?_; clear hE hS a w; intro a w hE hS
 refine vp hS hE rfl rfl fun a hE => WL.nil ?_
 refine W.seq ?_
 refine W.seq (W.region (v2 hS hE rfl rfl rfl rfl fun a hE => WL.nil ?_))
 refine W.cond hE rfl (fun hc72 => ?_) (fun hc72 => ?_)
 ·replace hr := iteT hc72 hr
  refine W.seq (W.region (vP hS hE (Gives.build hE (vs := []) [.slice none 0 0] rfl (by kernel_rfl)) rfl fun a hE => ?_))
  refine WL.storeI hE hS 1 rfl [.slice none 0 0] (runs_plain rfl) rfl rfl rfl ty29 rfl rfl rfl rfl ?_; clear hE hS a w; intro a w hE hS
  refine vp hS hE rfl rfl fun a hE => WL.nil ?_
  refine W.ret ?_
  refine finG (fn := Tryz.f52) (rs := [.cell 10 29, .tmp 11]) (vs := [_, _]) hE rfl ⟨⟨_, rfl, .inl ⟨_, rfl, hS.seesAt 1 rfl, ty29⟩⟩, rfl, trivial⟩ ?_
  obtain rfl := Option.some.inj hr
  replace hS := hS.tail
  replace hS := hS.tail
  replace hS := hS.tail
  exact ⟨_, s66, rfl, (Sg.Le.trans hle57 hle67), ⟨_, _, rfl, Sl.nil⟩, hS⟩
 replace hr := iteF hc72 hr
 refine W.skip ?_
 refine W.seq (W.region (vP hS hE (Gives.loadBA hE 0 rfl rfl ty29) rfl fun a hE => ?_))
 refine WL.storeI hE hS 1 rfl [.slice a68 q62.1.Rides.length c69] (runs_plain rfl) rfl rfl rfl ty29 rfl rfl rfl rfl ?_; clear hE hS a w; intro a w hE hS
 refine vp hS hE rfl rfl fun a hE => WL.nil ?_
 refine W.ret ?_
 refine finG (fn := Tryz.f52) (rs := [.cell 10 29, .tmp 11]) (vs := [_, _]) hE rfl ⟨⟨_, rfl, .inl ⟨_, rfl, hS.seesAt 1 rfl, ty29⟩⟩, rfl, trivial⟩ ?_
 obtain rfl := Option.some.inj hr
 replace hS := hS.tail
 replace hS := hS.tail
 replace hS := hS.tail
 exact ⟨_, s66, rfl, (Sg.Le.trans hle57 hle67), ⟨_, _, rfl, h70⟩, hS⟩
set_option maxHeartbeats 8000000 in
theorem SlicesEqualLguideRide_ok  {w : World} {s : Sg} {R : List HP} {x0 : List GuideRide} {a0 : Option Addr} {c0 : Nat} {x1 : List GuideRide} {a1 : Option Addr} {c1 : Nat} (hS : St w s (R)) (h0 : Sl 3 RGuideRide s a0 c0 x0) (h1 : Sl 3 RGuideRide s a1 c1 x1) {r : Bool} (hr : SlicesEqualLguideRide x0 x1 = some r) :
  Calls Tryz.prog 54 [.slice a0 x0.length c0, .slice a1 x1.length c1].toArray w (fun e w => e = .returned (.bool r) ∧ St w s (R)) := by
 refine enter Tryz.func54 rfl rfl rfl fun a hE => ?_
 rw [SlicesEqualLguideRide] at hr
 refine W.seq (W.region (vp hS hE rfl rfl fun a hE => WL.nil ?_))
 refine W.seq ?_
 refine W.seq (W.region (vp hS hE rfl rfl fun a hE => ?_))
 refine vP hS hE (Gives.len hE rfl sl27) rfl fun a hE => ?_
 refine vp hS hE rfl rfl fun a hE => ?_
 refine vP hS hE (Gives.len hE rfl sl27) rfl fun a hE => ?_
 refine vp hS hE rfl rfl fun a hE => WL.nil ?_
 refine W.cond hE rfl (fun hc51 => ?_) (fun hc51 => ?_)
 ·replace hr := iteT hc51 hr
  refine W.seq (W.region (vp hS hE rfl rfl fun a hE => WL.nil ?_))
  refine W.ret ?_
  refine finG (fn := Tryz.f54) (rs := [.tmp 4]) (vs := [_]) hE rfl ⟨rfl, trivial⟩ ?_
  obtain rfl := Option.some.inj hr
  exact ⟨rfl, hS⟩
 replace hr := iteF hc51 hr
 refine W.skip ?_
 refine W.seq ?_
 refine W.seq (W.region (vp hS hE rfl rfl fun a hE => ?_))
 refine vP hS hE (Gives.len hE rfl sl27) rfl fun a hE => ?_
 refine vp hS hE rfl rfl fun a hE => WL.nil ?_
 obtain ⟨q53, hq52, hr⟩ := bindS hr
 refine W.cut (fun a w => (.next ()) = q53 ∧ Rep a 26 [] ∧ St w s (R)) ?_ ?_
 ·refine W.block ?_
  refine W.loop (fun m a w => ∃ (rest56 : List GuideRide) (k54 : Nat), rest56.length = m ∧ x0.drop k54 = rest56 ∧ SlicesEqualLguideRide.loop1 x1 rest56 k54 = some q53 ∧ Rep a 26 [(0, .slice a0 x0.length c0), (1, .slice a1 x1.length c1), (12, vi ((x0).length : Int)), (13, vi ((k54 : Nat) : Int))] ∧ St w s (R)) (m := x0.length) ⟨x0, 0, rfl, rfl, hq52, hE.pick _ ⟨rfl, rfl, rfl, rfl, trivial⟩, hS⟩ ?_
  clear hE hS a w hq52; rintro m60 a w ⟨rest56, k54, rfl, hd57, hq52, hE, hS⟩
  refine W.gen fun K63 hK63 => ?_
  rcases rest56 with _ | ⟨x55, rest56⟩
  ·have hlt58 := drop_nil hd57
   refine W.seq (W.region (vp hS hE rfl rfl fun a hE => WL.nil ?_))
   refine W.seq ?_
   refine W.condF hE rfl (decide_eq_false (by omega)) ?_
   subst hK63
   refine W.exit rfl ?_
   exact ⟨Option.some.inj hq52, hE.pick _ trivial, hS⟩
  obtain ⟨hlt58, hx59, hd57⟩ := drop_cons hd57
  rw [SlicesEqualLguideRide.loop1] at hq52
  refine W.seq (W.region (vp hS hE rfl rfl fun a hE => WL.nil ?_))
  refine W.seq ?_
  refine W.condT hE rfl (decide_eq_true (by omega)) ?_
  refine W.skip ?_
  refine W.seq ?_
  refine W.block ?_
  refine W.seq (W.region (v2 hS hE rfl rfl rfl rfl fun a hE => WL.nil ?_))
  refine W.seq ?_
  refine W.regionQ (C := fun w => St w s (R)) mixed (by kernel_rfl) hS.drew ?_
  refine qP hE (Gives.p hE rfl) rfl fun a hE => ?_
  refine qP hE (Gives.p hE rfl) rfl fun a hE => ?_
  obtain ⟨cs64, hl65, hR66, hat67⟩ := h0.at hx59
  subst hR66
  refine qP hE (Gives.idx hE k54 rfl rfl sl27 rfl hlt58 (h0.aok hlt58)) rfl fun a hE => ?_
  refine qP hE (Gives.loadA hE rfl (fun w h => hat67 w _ h) ty95) rfl fun a hE => ?_
  refine qP hE (Gives.p hE rfl) rfl fun a hE => ?_
  refine qP hE (Gives.p hE rfl) rfl fun a hE => ?_
  obtain ⟨x68, hx69, hq52⟩ := bindS hq52
  obtain ⟨hi70, hlt71, hy72⟩ := gx_some hx69
  obtain ⟨cs73, hl74, hR75, hat76⟩ := h1.at hy72
  subst hR75
  refine qP hE (Gives.idx hE (((k54 : Nat) : Int)).toNat rfl rfl sl27 hi70 hlt71 (h1.aok hlt71)) rfl fun a hE => ?_
  refine qP hE (Gives.loadA hE rfl (fun w h => hat76 w _ h) ty95) rfl fun a hE => ?_
  refine qP hE (show Gives _ _ _ _ (Value.bool (!((x55.Train == x68.Train) && ((x55.On == x68.On) && (x55.Off == x68.Off))))) from Gives.neS hE [.i .i64, .i .i64, .i .i64] [.i .i64 x55.Train, .i .i64 x55.On, .i .i64 x55.Off] [.i .i64 x68.Train, .i .i64 x68.On, .i .i64 x68.Off] rfl rfl se95 rfl rfl rfl rfl) rfl fun a hE => ?_
  refine QL.nil ?_; clear hS w; intro w hS
  refine W.cond hE rfl (fun hc77 => ?_) (fun hc77 => ?_)
  ·replace hq52 := iteT hc77 hq52
   refine W.seq (W.region (vp hS hE rfl rfl fun a hE => WL.nil ?_))
   refine W.ret ?_
   subst hK63
   rw [← Option.some.inj hq52] at hr
   dsimp only at hr
   refine finG (fn := Tryz.f54) (rs := [.tmp 4]) (vs := [_]) hE rfl ⟨rfl, trivial⟩ ?_
   obtain rfl := Option.some.inj hr
   exact ⟨rfl, hS⟩
  replace hq52 := iteF hc77 hq52
  refine W.skip ?_
  refine W.region ?_
  refine vP hS hE (Gives.inc hE rfl (by have := h0.small; omega)) rfl fun a hE => ?_
  refine vp hS hE rfl rfl fun a hE => WL.nil ?_
  subst hK63
  exact ⟨rest56.length, Nat.lt_succ_self _, rest56, k54 + 1, rfl, hd57, hq52, hE.pick _ ⟨rfl, rfl, rfl, rfl, trivial⟩, hS⟩
 clear hE hS a w; rintro a w ⟨rfl, hE, hS⟩
 dsimp only at hr
 refine W.seq (W.region (vp hS hE rfl rfl fun a hE => WL.nil ?_))
 refine W.ret ?_
 refine finG (fn := Tryz.f54) (rs := [.tmp 4]) (vs := [_]) hE rfl ⟨rfl, trivial⟩ ?_
 obtain rfl := Option.some.inj hr
 exact ⟨rfl, hS⟩
set_option maxHeartbeats 8000000 in
theorem Fishlaw2guides_ok {fu : Nat}  {w : World} {s : Sg} {R : List HP}  (hS : St w s (R)) (hTab : TabS Tryz.prog s) {r : Bool} (hr : Fishlaw2guides fu = some r) :
  Calls Tryz.prog 11 [].toArray w (fun e w => e = .returned (.bool r) ∧ St w s (R)) := by
 refine enter Tryz.func11 rfl rfl rfl fun a hE => ?_
 rw [Fishlaw2guides] at hr
 refine W.seq (W.region (vp hS hE rfl rfl fun a hE => WL.nil ?_))
 refine W.seq (W.region ?_)
 obtain ⟨q51, hq52, hr⟩ := bndS hr
 have hc_ := Fishlaw2small_ok hS  hq52
 refine WL.fnq hE (hc_) (runs_plain rfl) bd53 rfl rfl rfl ?_
 clear hE hS hc_; rintro e w ⟨cs53, s55, rfl, hle56, h54, hS⟩; refine ⟨_, rfl, ?_⟩; clear a; intro a hE
 obtain ⟨a57, c58, a60, c61, rfl, h59, h62⟩ := h54
 obtain ⟨q63, hq64, hr⟩ := bindS hr
 have hc_ := GuideEarliest_ok hS (TabS.mono hle56 hTab) h59 h62 hq64
 refine WL.fnq hE (hc_) (runs_plain rfl) bd52 rfl rfl rfl ?_
 clear hE hS hc_; rintro e w ⟨cs65, s67, rfl, hle68, h66, hS⟩; refine ⟨_, rfl, ?_⟩; clear a; intro a hE
 replace h59 := Sl.mono RApiTrain.mono hle68 h59
 replace h62 := Sl.mono (RL.mono RI.mono) hle68 h62
 obtain ⟨a69, c70, rfl, h71⟩ := h66
 refine v2 hS hE rfl rfl rfl rfl fun a hE => ?_
 refine vp hS hE rfl rfl fun a hE => ?_
 refine WL.alloc hE hS (runs_plain rfl) zr29 rfl ?_; clear hE hS a w; intro b72 a w hE hS
 refine WL.storeI hE hS 0 rfl [.slice a69 q63.1.Rides.length c70] (runs_plain rfl) rfl rfl rfl ty29 rfl rfl rfl rfl ?_; clear hE hS a w; intro a w hE hS
 refine vp hS hE rfl rfl fun a hE => WL.nil ?_
 refine W.seq ?_
 obtain ⟨q74, hq73, hr⟩ := bindS hr
 refine W.cut (fun a w => ∃ (q77 : Bool), ∃ (s75 : Sg), s67.Le s75 ∧ q77 = q74 ∧ Rep a 18 [(0, .bool q77)] ∧ St w s75 (pc b72 #[.slice a69 q63.1.Rides.length c70] 29 :: R)) ?_ ?_
 ·refine W.gen fun K78 hK78 => ?_
  refine W.region ?_
  refine v2 hS hE rfl rfl rfl rfl fun a hE => ?_
  refine vp hS hE rfl rfl fun a hE => ?_
  rcases Bool.eq_false_or_eq_true (q63.2 == 0) with hg79 | hg79
  ·replace hq73 := iteT hg79 hq73
   refine WL.vS hS hE (runs_if hE rfl rfl rfl hg79) (Gives.fld hE rfl fl29_0) rfl fun a hE => ?_
   refine WL.vS hS hE (runs_if hE rfl rfl rfl hg79) (Gives.loadB hE 0 rfl rfl rfl ty27) rfl fun a hE => ?_
   refine WL.vS hS hE (runs_if hE rfl rfl rfl hg79) (Gives.build hE (vs := [(0, vi 0), (1, vi 0), (2, vi 1)]) [vi 0, vi 0, vi 1] rfl (by kernel_rfl)) rfl fun a hE => ?_
   refine WL.vS hS hE (runs_if hE rfl rfl rfl hg79) (Gives.build hE (vs := [(0, vi 1), (1, vi 0), (2, vi 1)]) [vi 1, vi 0, vi 1] rfl (by kernel_rfl)) rfl fun a hE => ?_
   refine WL.lit hE hS (e := 95) (es := 3) (vs := [(0, .agg (List.toArray [vi 0, vi 0, vi 1])), (1, .agg (List.toArray [vi 1, vi 0, vi 1]))]) (cs := [vi 0, vi 0, vi 1, vi 1, vi 0, vi 1]) (runs_if hE rfl rfl rfl hg79) rfl (by kernel_rfl) rfl ?_; clear hE hS a w; intro b80 a w hE hS
   replace hS := hS.ptVec (es := 3) (m := 2) rfl (by decide)
   have h82 : Ev 3 RGuideRide s67 [vi 0, vi 0, vi 1, vi 1, vi 0, vi 1] [(GuideRide.mk 0 0 1), (GuideRide.mk 1 0 1)] := (Ev.cons (c1 := [vi 0, vi 0, vi 1]) rfl rfl (Ev.cons (c1 := [vi 1, vi 0, vi 1]) rfl rfl (Ev.nil)))
   have hF := hS.fixD RGuideRide.mono 0 rfl h82 (rfl); clear hS; obtain ⟨s83, hle84, hS, h85⟩ := hF
   replace h59 := Sl.mono RApiTrain.mono hle84 h59
   replace h62 := Sl.mono (RL.mono RI.mono) hle84 h62
   replace h71 := Sl.mono RGuideRide.mono hle84 h71
   obtain ⟨q86, hq87, hq73⟩ := bindS hq73
   have hc_ := SlicesEqualLguideRide_ok hS h71 h85 hq87
   refine WL.fnq hE (hc_) (runs_if hE rfl rfl rfl hg79) bd54 rfl rfl rfl ?_
   clear hE hS hc_; rintro e w ⟨rfl, hS⟩; refine ⟨_, rfl, ?_⟩; clear a; intro a hE
   refine vP hS hE (Gives.pickT hE rfl hg79 rfl) rfl fun a hE => ?_
   refine vp hS hE rfl rfl fun a hE => WL.nil ?_
   subst hK78
   exact ⟨q86, s83, hle84, Option.some.inj hq73, hE.pick _ ⟨rfl, trivial⟩, hS⟩
  replace hq73 := iteF hg79 hq73
  refine nO hE rfl rfl rfl (by rw [hg79]; decide) rfl fun a hE => ?_
  refine nO hE rfl rfl rfl (by rw [hg79]; decide) rfl fun a hE => ?_
  refine nO hE rfl rfl rfl (by rw [hg79]; decide) rfl fun a hE => ?_
  refine nO hE rfl rfl rfl (by rw [hg79]; decide) rfl fun a hE => ?_
  refine nO hE rfl rfl rfl (by rw [hg79]; decide) rfl fun a hE => ?_
  refine nO hE rfl rfl rfl (by rw [hg79]; decide) rfl fun a hE => ?_
  refine vP hS hE (Gives.pickF hE rfl hg79 rfl) rfl fun a hE => ?_
  refine vp hS hE rfl rfl fun a hE => WL.nil ?_
  subst hK78
  exact ⟨false, s67, (Sg.Le.refl _), Option.some.inj hq73, hE.pick _ ⟨rfl, trivial⟩, hS⟩
 clear hE hS a w; rintro a w ⟨q77, s75, hle76, rfl, hE, hS⟩
 replace h71 := Sl.mono RGuideRide.mono hle76 h71
 refine W.ret ?_
 refine finG (fn := Tryz.f11) (rs := [.tmp 0]) (vs := [_]) hE rfl ⟨rfl, trivial⟩ ?_
 obtain rfl := Option.some.inj hr
 replace hS := hS.tail
 exact ⟨rfl, (hS.down (Sg.Le.trans (Sg.Le.trans hle56 hle68) hle76))⟩
set_option maxHeartbeats 8000000 in
theorem Fishref2byNo_1_v1_ok  {w : World} {s : Sg} {R : List HP} {pb0 : Nat} {x0 : ApiTrain} {a0_0 : Option Addr} {c0_0 : Nat} {a0_1 : Option Addr} {c0_1 : Nat} {y0 : Int} (hS : St w s (pc pb0 #[vi y0] 3 :: R)) (_h0_0 : Sl 4 RApiStop s a0_0 c0_0 x0.Stops) (_h0_1 : Sl 1 (RL 1 (RI .i64)) s a0_1 c0_1 x0.Legs) {r : Bool} (hr : Fishref2byNo_1_v1 x0 y0 = r) :
  Calls Tryz.prog 108 [.agg (List.toArray [vi x0.No, vi x0.Stock, .slice a0_0 x0.Stops.length c0_0, .slice a0_1 x0.Legs.length c0_1]), pp pb0].toArray w (fun e w => e = .returned (.bool r) ∧ St w s (pc pb0 #[vi y0] 3 :: R)) := by
 refine enter Tryz.func108 rfl rfl rfl fun a hE => ?_
 rw [Fishref2byNo_1_v1] at hr
 refine W.seq (W.region ?_)
 refine WL.box hE hS (runs_plain rfl) rfl rfl rfl ?_; clear hE hS a w; intro b51 a w hE hS
 refine vp hS hE rfl rfl fun a hE => WL.nil ?_
 refine W.seq (W.region (vP hS hE (Gives.fld hE rfl fl111_0) rfl fun a hE => ?_))
 refine vP hS hE (Gives.loadB hE 0 rfl rfl rfl ty3) rfl fun a hE => ?_
 refine vP hS hE (Gives.loadB hE 1 rfl rfl rfl ty3) rfl fun a hE => ?_
 refine v2 hS hE rfl rfl rfl rfl fun a hE => WL.nil ?_
 refine W.ret ?_
 refine finG (fn := Tryz.f108) (rs := [.tmp 3]) (vs := [_]) hE rfl ⟨rfl, trivial⟩ ?_
 subst hr
 replace hS := hS.tail
 exact ⟨rfl, hS⟩
set_option maxHeartbeats 8000000 in
theorem SlicesIndexFuncLapiTrain_v1_ok  {w : World} {s : Sg} {R : List HP} {pb0 : Nat} {x0 : List ApiTrain} {a0 : Option Addr} {c0 : Nat} {y0 : Int} (hS : St w s (pc pb0 #[vi y0] 3 :: R)) (h0 : Sl 4 RApiTrain s a0 c0 x0) {r : Int} (hr : SlicesIndexFuncLapiTrain_v1 x0 y0 = r) :
  Calls Tryz.prog 107 [.slice a0 x0.length c0, .func (.func 108) #[] #[pp pb0]].toArray w (fun e w => e = .returned (vi r) ∧ St w s (pc pb0 #[vi y0] 3 :: R)) := by
 refine enter Tryz.func107 rfl rfl rfl fun a hE => ?_
 rw [SlicesIndexFuncLapiTrain_v1] at hr
 refine W.seq (W.region (vp hS hE rfl rfl fun a hE => WL.nil ?_))
 refine W.seq ?_
 refine W.seq (W.region (vp hS hE rfl rfl fun a hE => ?_))
 refine vP hS hE (Gives.len hE rfl sl22) rfl fun a hE => ?_
 refine vp hS hE rfl rfl fun a hE => WL.nil ?_
 obtain ⟨q52, hq51, hr⟩ := bndS hr
 refine W.cut (fun a w => (.next ()) = q52 ∧ Rep a 19 [] ∧ St w s (pc pb0 #[vi y0] 3 :: R)) ?_ ?_
 ·refine W.block ?_
  refine W.loop (fun m a w => ∃ (rest55 : List ApiTrain) (k53 : Nat), rest55.length = m ∧ x0.drop k53 = rest55 ∧ SlicesIndexFuncLapiTrain_v1.loop1 y0 rest55 k53 = q52 ∧ Rep a 19 [(0, .slice a0 x0.length c0), (1, .func (.func 108) #[] #[pp pb0]), (7, vi ((x0).length : Int)), (8, vi ((k53 : Nat) : Int))] ∧ St w s (pc pb0 #[vi y0] 3 :: R)) (m := x0.length) ⟨x0, 0, rfl, rfl, hq51, hE.pick _ ⟨rfl, rfl, rfl, rfl, trivial⟩, hS⟩ ?_
  clear hE hS a w hq51; rintro m59 a w ⟨rest55, k53, rfl, hd56, hq51, hE, hS⟩
  refine W.gen fun K62 hK62 => ?_
  rcases rest55 with _ | ⟨x54, rest55⟩
  ·have hlt57 := drop_nil hd56
   refine W.seq (W.region (vp hS hE rfl rfl fun a hE => WL.nil ?_))
   refine W.seq ?_
   refine W.condF hE rfl (decide_eq_false (by omega)) ?_
   subst hK62
   refine W.exit rfl ?_
   exact ⟨hq51, hE.pick _ trivial, hS⟩
  obtain ⟨hlt57, hx58, hd56⟩ := drop_cons hd56
  rw [SlicesIndexFuncLapiTrain_v1.loop1] at hq51
  refine W.seq (W.region (vp hS hE rfl rfl fun a hE => WL.nil ?_))
  refine W.seq ?_
  refine W.condT hE rfl (decide_eq_true (by omega)) ?_
  refine W.skip ?_
  refine W.seq ?_
  refine W.block ?_
  refine W.seq (W.region (v2 hS hE rfl rfl rfl rfl fun a hE => WL.nil ?_))
  refine W.seq (W.region (v2 hS hE rfl rfl rfl rfl fun a hE => ?_))
  refine vp hS hE rfl rfl fun a hE => ?_
  obtain ⟨cs63, hl64, hR65, hat66⟩ := h0.at hx58
  obtain ⟨a67, c68, a70, c71, rfl, h69, h72⟩ := hR65
  refine vP hS hE (Gives.idx hE k53 rfl rfl sl22 rfl hlt57 (h0.aok hlt57)) rfl fun a hE => ?_
  refine vP hS hE (Gives.loadA hE rfl (fun w h => hat66 w _ h) ty111) rfl fun a hE => ?_
  refine WL.fnw hE (Fishref2byNo_1_v1_ok hS h69 h72 rfl (r := Fishref2byNo_1_v1 x54 y0)) rfl (runs_plain rfl) bd108 rfl rfl rfl ?_
  clear hE hS; rintro e w ⟨rfl, hS⟩; refine ⟨_, rfl, ?_⟩; clear a; intro a hE
  refine WL.nil ?_
  refine W.cond hE rfl (fun hc73 => ?_) (fun hc73 => ?_)
  ·replace hq51 := iteT hc73 hq51
   refine W.seq (W.region (v2 hS hE rfl rfl rfl rfl fun a hE => WL.nil ?_))
   refine W.ret ?_
   subst hK62
   rw [← hq51] at hr
   dsimp only at hr
   refine finG (fn := Tryz.f107) (rs := [.tmp 4]) (vs := [_]) hE rfl ⟨rfl, trivial⟩ ?_
   subst hr
   exact ⟨rfl, hS⟩
  replace hq51 := iteF hc73 hq51
  refine W.skip ?_
  refine W.region ?_
  refine vP hS hE (Gives.inc hE rfl (by have := h0.small; omega)) rfl fun a hE => ?_
  refine vp hS hE rfl rfl fun a hE => WL.nil ?_
  subst hK62
  exact ⟨rest55.length, Nat.lt_succ_self _, rest55, k53 + 1, rfl, hd56, hq51, hE.pick _ ⟨rfl, rfl, rfl, rfl, trivial⟩, hS⟩
 clear hE hS a w; rintro a w ⟨rfl, hE, hS⟩
 dsimp only at hr
 refine W.seq (W.region (vp hS hE rfl rfl fun a hE => WL.nil ?_))
 refine W.ret ?_
 refine finG (fn := Tryz.f107) (rs := [.tmp 4]) (vs := [_]) hE rfl ⟨rfl, trivial⟩ ?_
 subst hr
 exact ⟨rfl, hS⟩
set_option maxHeartbeats 8000000 in
theorem Fishref2byNo_ok  {w : World} {s : Sg} {R : List HP} {x0 : ApiDay} {a0_0 : Option Addr} {c0_0 : Nat} {a0_1 : Option Addr} {c0_1 : Nat} {x1 : Int} (hS : St w s (R)) (h0_0 : Sl 4 RApiTrain s a0_0 c0_0 x0.Trains) (_h0_1 : Sl 1 (RL 1 (RI .i64)) s a0_1 c0_1 x0.Turns) {r : Int} (hr : Fishref2byNo x0 x1 = r) :
  Calls Tryz.prog 66 [.agg (List.toArray [.slice a0_0 x0.Trains.length c0_0, .slice a0_1 x0.Turns.length c0_1]), vi x1].toArray w (fun e w => e = .returned (vi r) ∧ St w s (R)) := by
 refine enter Tryz.func66 rfl rfl rfl fun a hE => ?_
 rw [Fishref2byNo] at hr
 refine W.seq (W.region ?_)
 refine WL.box hE hS (runs_plain rfl) rfl rfl rfl ?_; clear hE hS a w; intro b51 a w hE hS
 refine WL.box hE hS (runs_plain rfl) rfl rfl rfl ?_; clear hE hS a w; intro b52 a w hE hS
 refine vp hS hE rfl rfl fun a hE => WL.nil ?_
 refine W.seq (W.region (vP hS hE (Gives.fld hE rfl fl25_0) rfl fun a hE => ?_))
 refine vP hS hE (Gives.loadB hE 1 rfl rfl rfl ty22) rfl fun a hE => ?_
 refine vP hS hE (Gives.mkfn hE (vs := [pp b52]) rfl) rfl fun a hE => ?_
 refine WL.fnq hE (SlicesIndexFuncLapiTrain_v1_ok hS h0_0 rfl (r := SlicesIndexFuncLapiTrain_v1 x0.Trains x1)) (runs_plain rfl) bd107 rfl rfl rfl ?_
 clear hE hS; rintro e w ⟨rfl, hS⟩; refine ⟨_, rfl, ?_⟩; clear a; intro a hE
 refine vp hS hE rfl rfl fun a hE => WL.nil ?_
 refine W.ret ?_
 refine finG (fn := Tryz.f66) (rs := [.tmp 4]) (vs := [_]) hE rfl ⟨rfl, trivial⟩ ?_
 subst hr
 replace hS := hS.tail
 replace hS := hS.tail
 exact ⟨rfl, hS⟩
set_option maxHeartbeats 8000000 in
theorem Fishref2BoardOf_1_v1_ok  {w : World} {s : Sg} {R : List HP} {pb0 : Nat} {pb1 : Nat} {x0 : GuideLine} {x1 : Int} {y0 : Int} {y1 : List Fishref2Row} {a_v0 : Option Addr} {c_v0 n_v0 : Nat} {cs_v0 : List Value} (hS : St w s (pc pb0 #[vi y0] 3 :: pc pb1 #[.slice a_v0 n_v0 c_v0] 131 :: vecC 133 7 a_v0 c_v0 n_v0 cs_v0 :: R)) (h_v0 : Ev 7 RFishref2Row s cs_v0 y1) (hn_v0 : y1.length = n_v0) {r : (List Fishref2Row)} (hr : Fishref2BoardOf_1_v1 x0 x1 y0 y1 = some r) :
  Calls Tryz.prog 65 [.agg (GuideLine.cells x0).toArray, vi x1, pp pb0, pp pb1].toArray w (fun e w => ∃ (a52 : Option Addr) (c53 : Nat) (n55 : Nat) (cs56 : List Value), e = .returned (.tuple #[]) ∧ Ev 7 RFishref2Row s cs56 r ∧ r.length = n55 ∧ St w s (pc pb0 #[vi y0] 3 :: pc pb1 #[.slice a52 n55 c53] 131 :: vecC 133 7 a52 c53 n55 cs56 :: R)) := by
 refine enter Tryz.func65 rfl rfl rfl fun a hE => ?_
 rw [Fishref2BoardOf_1_v1] at hr
 subst hn_v0
 refine W.seq (W.region ?_)
 refine WL.box hE hS (runs_plain rfl) rfl rfl rfl ?_; clear hE hS a w; intro b58 a w hE hS
 refine WL.nil ?_
 refine W.seq (W.region (vP hS hE (Gives.fld hE rfl fl44_0) rfl fun a hE => ?_))
 refine vP hS hE (Gives.loadB hE 0 rfl rfl rfl ty3) rfl fun a hE => ?_
 refine vP hS hE (Gives.fld hE rfl fl44_1) rfl fun a hE => ?_
 refine vP hS hE (Gives.loadB hE 0 rfl rfl rfl ty3) rfl fun a hE => ?_
 refine vp hS hE rfl rfl fun a hE => ?_
 refine vP hS hE (Gives.loadB hE 1 rfl rfl rfl ty3) rfl fun a hE => ?_
 refine vp hS hE rfl rfl fun a hE => WL.nil ?_
 obtain ⟨q60, hq59, hr⟩ := bindS hr
 refine W.cut (fun a w => ∃ (q63 : List Fishref2Row), ∃ (a64 : Option Addr), ∃ (c65 : Nat), ∃ (n67 : Nat), ∃ (cs68 : List Value), q63 = q60 ∧ Ev 7 RFishref2Row s cs68 q63 ∧ q63.length = n67 ∧ Rep a 19 [] ∧ St w s (pc b58 (GuideLine.cells x0).toArray 44 :: pc pb0 #[vi y0] 3 :: pc pb1 #[.slice a64 n67 c65] 131 :: vecC 133 7 a64 c65 n67 cs68 :: R)) ?_ ?_
 ·refine W.gen fun K70 hK70 => ?_
  refine W.cond hE rfl (fun hc71 => ?_) (fun hc71 => ?_)
  ·replace hq59 := iteT hc71 hq59
   refine W.region ?_
   refine vP hS hE (Gives.loadB hE 2 rfl rfl rfl ty131) rfl fun a hE => ?_
   refine vP hS hE (Gives.loadBA hE 0 rfl rfl ty44) rfl fun a hE => ?_
   refine vp hS hE rfl rfl fun a hE => ?_
   refine vP hS hE (Gives.build hE (vs := [(0, .agg (GuideLine.cells x0).toArray), (1, vi x1)]) [vi x0.Time, vi x0.Late, vi x0.No, vi x0.To, vi x0.Track, .bool x0.Ends, vi x1] rfl (by kernel_rfl)) rfl fun a hE => ?_
   refine WL.lit hE hS (e := 133) (es := 7) (vs := [(0, .agg (List.toArray [vi x0.Time, vi x0.Late, vi x0.No, vi x0.To, vi x0.Track, .bool x0.Ends, vi x1]))]) (cs := [vi x0.Time, vi x0.Late, vi x0.No, vi x0.To, vi x0.Track, .bool x0.Ends, vi x1]) (runs_plain rfl) rfl (by kernel_rfl) rfl ?_; clear hE hS a w; intro b72 a w hE hS
   obtain ⟨x73, hx74, hq59⟩ := bindS hq59
   refine WL.appD hE hS 3 (m := 1) (runs_plain rfl) rfl rfl rfl ap131 rfl h_v0 (rfl) (xs := [(Fishref2Row.mk x0 x1)]) (Ev.cons (c1 := [vi x0.Time, vi x0.Late, vi x0.No, vi x0.To, vi x0.Track, .bool x0.Ends, vi x1]) rfl rfl (Ev.nil)) rfl rfl hx74 rfl ?_; clear hE hS a w; intro a75 c76 cs77 a w h78 hE hS
   refine WL.storeI hE hS 2 rfl [.slice a75 x73.length c76] (runs_plain rfl) rfl rfl rfl ty131 rfl rfl rfl rfl ?_; clear hE hS a w; intro a w hE hS
   refine WL.nil ?_
   subst hK70
   exact ⟨x73, a75, c76, x73.length, cs77, Option.some.inj hq59, h78, (rfl), hE.pick _ trivial, hS⟩
  replace hq59 := iteF hc71 hq59
  refine W.skip ?_
  subst hK70
  exact ⟨y1, a_v0, c_v0, y1.length, cs_v0, Option.some.inj hq59, h_v0, (rfl), hE.pick _ trivial, hS⟩
 clear hE hS a w; rintro a w ⟨q63, a64, c65, n67, cs68, rfl, h66, rfl, hE, hS⟩
 refine finG (fn := Tryz.f65) (rs := []) (vs := []) hE rfl trivial ?_
 obtain rfl := Option.some.inj hr
 replace hS := hS.tail
 exact ⟨a64, c65, q63.length, cs68, rfl, h66, rfl, hS⟩
set_option maxHeartbeats 8000000 in
theorem SlicesCompareLint_ok  {w : World} {s : Sg} {R : List HP} {x0 : List Int} {a0 : Option Addr} {c0 : Nat} {x1 : List Int} {a1 : Option Addr} {c1 : Nat} (hS : St w s (R)) (h0 : Sl 1 (RI .i64) s a0 c0 x0) (h1 : Sl 1 (RI .i64) s a1 c1 x1) {r : Int} (hr : SlicesCompareLint x0 x1 = some r) :
  Calls Tryz.prog 59 [.slice a0 x0.length c0, .slice a1 x1.length c1].toArray w (fun e w => e = .returned (vi r) ∧ St w s (R)) := by
 refine enter Tryz.func59 rfl rfl rfl fun a hE => ?_
 rw [SlicesCompareLint] at hr
 refine W.seq (W.region (vp hS hE rfl rfl fun a hE => WL.nil ?_))
 refine W.seq ?_
 refine W.seq (W.region (vp hS hE rfl rfl fun a hE => ?_))
 refine vP hS hE (Gives.len hE rfl sl65) rfl fun a hE => ?_
 refine vp hS hE rfl rfl fun a hE => WL.nil ?_
 obtain ⟨q52, hq51, hr⟩ := bindS hr
 refine W.cut (fun a w => (.next ()) = q52 ∧ Rep a 36 [(0, .slice a0 x0.length c0), (1, .slice a1 x1.length c1)] ∧ St w s (R)) ?_ ?_
 ·refine W.block ?_
  refine W.loop (fun m a w => ∃ (rest55 : List Int) (k53 : Nat), rest55.length = m ∧ x0.drop k53 = rest55 ∧ SlicesCompareLint.loop1 x1 rest55 k53 = some q52 ∧ Rep a 36 [(0, .slice a0 x0.length c0), (1, .slice a1 x1.length c1), (9, .slice a0 x0.length c0), (10, vi ((x0).length : Int)), (11, vi ((k53 : Nat) : Int))] ∧ St w s (R)) (m := x0.length) ⟨x0, 0, rfl, rfl, hq51, hE.pick _ ⟨rfl, rfl, rfl, rfl, rfl, trivial⟩, hS⟩ ?_
  clear hE hS a w hq51; rintro m59 a w ⟨rest55, k53, rfl, hd56, hq51, hE, hS⟩
  refine W.gen fun K62 hK62 => ?_
  rcases rest55 with _ | ⟨x54, rest55⟩
  ·have hlt57 := drop_nil hd56
   refine W.seq (W.region (vp hS hE rfl rfl fun a hE => WL.nil ?_))
   refine W.seq ?_
   refine W.condF hE rfl (decide_eq_false (by omega)) ?_
   subst hK62
   refine W.exit rfl ?_
   exact ⟨Option.some.inj hq51, hE.pick _ ⟨rfl, rfl, trivial⟩, hS⟩
  obtain ⟨hlt57, hx58, hd56⟩ := drop_cons hd56
  rw [SlicesCompareLint.loop1] at hq51
  refine W.seq (W.region (vp hS hE rfl rfl fun a hE => WL.nil ?_))
  refine W.seq ?_
  refine W.condT hE rfl (decide_eq_true (by omega)) ?_
  refine W.skip ?_
  refine W.seq ?_
  refine W.block ?_
  refine W.seq (W.region (vp hS hE rfl rfl fun a hE => ?_))
  obtain ⟨cs63, hl64, hR65, hat66⟩ := h0.at hx58
  subst hR65
  refine vP hS hE (Gives.idx hE k53 rfl rfl sl65 rfl hlt57 (h0.aok hlt57)) rfl fun a hE => ?_
  refine vP hS hE (Gives.load1 hE rfl (fun w h => hat66 w _ h) ty3) rfl fun a hE => ?_
  refine v2 hS hE rfl rfl rfl rfl fun a hE => WL.nil ?_
  refine W.seq ?_
  refine W.seq (W.region (v2 hS hE rfl rfl rfl rfl fun a hE => ?_))
  refine vP hS hE (Gives.len hE rfl sl65) rfl fun a hE => ?_
  refine vp hS hE rfl rfl fun a hE => WL.nil ?_
  refine W.cond hE rfl (fun hc67 => ?_) (fun hc67 => ?_)
  ·replace hq51 := iteT hc67 hq51
   refine W.seq (W.region (vp hS hE rfl rfl fun a hE => WL.nil ?_))
   refine W.ret ?_
   subst hK62
   rw [← Option.some.inj hq51] at hr
   dsimp only at hr
   refine finG (fn := Tryz.f59) (rs := [.tmp 4]) (vs := [_]) hE rfl ⟨rfl, trivial⟩ ?_
   obtain rfl := Option.some.inj hr
   exact ⟨rfl, hS⟩
  replace hq51 := iteF hc67 hq51
  refine W.skip ?_
  refine W.seq (W.region (v2 hS hE rfl rfl rfl rfl fun a hE => ?_))
  obtain ⟨x68, hx69, hq51⟩ := bindS hq51
  obtain ⟨hi70, hlt71, hy72⟩ := gx_some hx69
  obtain ⟨cs73, hl74, hR75, hat76⟩ := h1.at hy72
  subst hR75
  refine vP hS hE (Gives.idx hE (((k53 : Nat) : Int)).toNat rfl rfl sl65 hi70 hlt71 (h1.aok hlt71)) rfl fun a hE => ?_
  refine vP hS hE (Gives.load1 hE rfl (fun w h => hat76 w _ h) ty3) rfl fun a hE => ?_
  refine vp hS hE rfl rfl fun a hE => WL.nil ?_
  refine W.seq (W.region (v2 hS hE rfl rfl rfl rfl fun a hE => ?_))
  refine WL.fnq hE (CmpCompareint_ok hS  rfl (r := CmpCompareint x54 x68)) (runs_plain rfl) bd42 rfl rfl rfl ?_
  clear hE hS; rintro e w ⟨rfl, hS⟩; refine ⟨_, rfl, ?_⟩; clear a; intro a hE
  refine vp hS hE rfl rfl fun a hE => WL.nil ?_
  refine W.seq (W.region (v2 hS hE rfl rfl rfl rfl fun a hE => WL.nil ?_))
  refine W.cond hE rfl (fun hc77 => ?_) (fun hc77 => ?_)
  ·replace hq51 := iteT hc77 hq51
   refine W.seq (W.region (v2 hS hE rfl rfl rfl rfl fun a hE => WL.nil ?_))
   refine W.ret ?_
   subst hK62
   rw [← Option.some.inj hq51] at hr
   dsimp only at hr
   refine finG (fn := Tryz.f59) (rs := [.tmp 4]) (vs := [_]) hE rfl ⟨rfl, trivial⟩ ?_
   obtain rfl := Option.some.inj hr
   exact ⟨rfl, hS⟩
  replace hq51 := iteF hc77 hq51
  refine W.skip ?_
  refine W.region ?_
  refine vP hS hE (Gives.inc hE rfl (by have := h0.small; omega)) rfl fun a hE => ?_
  refine vp hS hE rfl rfl fun a hE => WL.nil ?_
  subst hK62
  exact ⟨rest55.length, Nat.lt_succ_self _, rest55, k53 + 1, rfl, hd56, hq51, hE.pick _ ⟨rfl, rfl, rfl, rfl, rfl, trivial⟩, hS⟩
 clear hE hS a w; rintro a w ⟨rfl, hE, hS⟩
 dsimp only at hr
 refine W.seq ?_
 refine W.seq (W.region (vp hS hE rfl rfl fun a hE => ?_))
 refine vP hS hE (Gives.len hE rfl sl65) rfl fun a hE => ?_
 refine vp hS hE rfl rfl fun a hE => ?_
 refine vP hS hE (Gives.len hE rfl sl65) rfl fun a hE => ?_
 refine vp hS hE rfl rfl fun a hE => WL.nil ?_
 refine W.cond hE rfl (fun hc78 => ?_) (fun hc78 => ?_)
 ·replace hr := iteT hc78 hr
  refine W.seq (W.region (vp hS hE rfl rfl fun a hE => WL.nil ?_))
  refine W.ret ?_
  refine finG (fn := Tryz.f59) (rs := [.tmp 4]) (vs := [_]) hE rfl ⟨rfl, trivial⟩ ?_
  obtain rfl := Option.some.inj hr
  exact ⟨rfl, hS⟩
 replace hr := iteF hc78 hr
 refine W.skip ?_
 refine W.seq (W.region (vp hS hE rfl rfl fun a hE => WL.nil ?_))
 refine W.ret ?_
 refine finG (fn := Tryz.f59) (rs := [.tmp 4]) (vs := [_]) hE rfl ⟨rfl, trivial⟩ ?_
 obtain rfl := Option.some.inj hr
 exact ⟨rfl, hS⟩
set_option maxHeartbeats 8000000 in
theorem Fishref2BoardOf_2_ok  {w : World} {s : Sg} {R : List HP} {x0 : Fishref2Row} {x1 : Fishref2Row} (hS : St w s (R))  {r : Int} (hr : Fishref2BoardOf_2 x0 x1 = some r) :
  Calls Tryz.prog 68 [.agg (Fishref2Row.cells x0).toArray, .agg (Fishref2Row.cells x1).toArray].toArray w (fun e w => e = .returned (vi r) ∧ St w s (R)) := by
 refine enter Tryz.func68 rfl rfl rfl fun a hE => ?_
 rw [Fishref2BoardOf_2] at hr
 refine W.seq (W.region ?_)
 refine WL.box hE hS (runs_plain rfl) rfl rfl rfl ?_; clear hE hS a w; intro b51 a w hE hS
 refine WL.box hE hS (runs_plain rfl) rfl rfl rfl ?_; clear hE hS a w; intro b52 a w hE hS
 refine vp hS hE rfl rfl fun a hE => WL.nil ?_
 refine W.seq (W.region (vP hS hE (Gives.fld hE rfl fl133_0) rfl fun a hE => ?_))
 refine vP hS hE (Gives.fld hE rfl fl44_0) rfl fun a hE => ?_
 refine vP hS hE (Gives.loadB hE 1 rfl rfl rfl ty3) rfl fun a hE => ?_
 refine vP hS hE (Gives.fld hE rfl fl133_0) rfl fun a hE => ?_
 refine vP hS hE (Gives.fld hE rfl fl44_2) rfl fun a hE => ?_
 refine vP hS hE (Gives.loadB hE 1 rfl rfl rfl ty3) rfl fun a hE => ?_
 refine vP hS hE (Gives.fld hE rfl fl133_1) rfl fun a hE => ?_
 refine vP hS hE (Gives.loadB hE 1 rfl rfl rfl ty3) rfl fun a hE => ?_
 refine WL.lit hE hS (e := 3) (es := 1) (vs := [(0, vi x0.Line.Time), (1, vi x0.Line.No), (2, vi x0.stop)]) (cs := [vi x0.Line.Time, vi x0.Line.No, vi x0.stop]) (runs_plain rfl) rfl (by kernel_rfl) rfl ?_; clear hE hS a w; intro b53 a w hE hS
 replace hS := hS.ptVec (es := 1) (m := 3) rfl (by decide)
 have h55 : Ev 1 (RI .i64) s [vi x0.Line.Time, vi x0.Line.No, vi x0.stop] [x0.Line.Time, x0.Line.No, x0.stop] := (Ev.cons (c1 := [vi x0.Line.Time]) rfl rfl (Ev.cons (c1 := [vi x0.Line.No]) rfl rfl (Ev.cons (c1 := [vi x0.stop]) rfl rfl (Ev.nil))))
 have hF := hS.fixD RI.mono 0 rfl h55 (rfl); clear hS; obtain ⟨s56, hle57, hS, h58⟩ := hF
 refine vP hS hE (Gives.fld hE rfl fl133_0) rfl fun a hE => ?_
 refine vP hS hE (Gives.fld hE rfl fl44_0) rfl fun a hE => ?_
 refine vP hS hE (Gives.loadB hE 0 rfl rfl rfl ty3) rfl fun a hE => ?_
 refine vP hS hE (Gives.fld hE rfl fl133_0) rfl fun a hE => ?_
 refine vP hS hE (Gives.fld hE rfl fl44_2) rfl fun a hE => ?_
 refine vP hS hE (Gives.loadB hE 0 rfl rfl rfl ty3) rfl fun a hE => ?_
 refine vP hS hE (Gives.fld hE rfl fl133_1) rfl fun a hE => ?_
 refine vP hS hE (Gives.loadB hE 0 rfl rfl rfl ty3) rfl fun a hE => ?_
 refine WL.lit hE hS (e := 3) (es := 1) (vs := [(0, vi x1.Line.Time), (1, vi x1.Line.No), (2, vi x1.stop)]) (cs := [vi x1.Line.Time, vi x1.Line.No, vi x1.stop]) (runs_plain rfl) rfl (by kernel_rfl) rfl ?_; clear hE hS a w; intro b59 a w hE hS
 replace hS := hS.ptVec (es := 1) (m := 3) rfl (by decide)
 have h61 : Ev 1 (RI .i64) s56 [vi x1.Line.Time, vi x1.Line.No, vi x1.stop] [x1.Line.Time, x1.Line.No, x1.stop] := (Ev.cons (c1 := [vi x1.Line.Time]) rfl rfl (Ev.cons (c1 := [vi x1.Line.No]) rfl rfl (Ev.cons (c1 := [vi x1.stop]) rfl rfl (Ev.nil))))
 have hF := hS.fixD RI.mono 0 rfl h61 (rfl); clear hS; obtain ⟨s62, hle63, hS, h64⟩ := hF
 replace h58 := Sl.mono RI.mono hle63 h58
 obtain ⟨q65, hq66, hr⟩ := bindS hr
 have hc_ := SlicesCompareLint_ok hS h58 h64 hq66
 refine WL.fnq hE (hc_) (runs_plain rfl) bd59 rfl rfl rfl ?_
 clear hE hS hc_; rintro e w ⟨rfl, hS⟩; refine ⟨_, rfl, ?_⟩; clear a; intro a hE
 refine vp hS hE rfl rfl fun a hE => WL.nil ?_
 refine W.ret ?_
 refine finG (fn := Tryz.f68) (rs := [.tmp 4]) (vs := [_]) hE rfl ⟨rfl, trivial⟩ ?_
 obtain rfl := Option.some.inj hr
 replace hS := hS.tail
 replace hS := hS.tail
 exact ⟨rfl, (hS.down (Sg.Le.trans hle57 hle63))⟩
set_option maxHeartbeats 8000000 in
theorem Fishref2BoardOf_ok  {w : World} {s : Sg} {R : List HP} {x0 : ApiDay} {a0_0 : Option Addr} {c0_0 : Nat} {a0_1 : Option Addr} {c0_1 : Nat} {x1 : ApiDay} {a1_0 : Option Addr} {c1_0 : Nat} {a1_1 : Option Addr} {c1_1 : Nat} {x2 : Int} {x3 : Int} {x4 : Int} (hS : St w s (R)) (h0_0 : Sl 4 RApiTrain s a0_0 c0_0 x0.Trains) (h0_1 : Sl 1 (RL 1 (RI .i64)) s a0_1 c0_1 x0.Turns) (h1_0 : Sl 4 RApiTrain s a1_0 c1_0 x1.Trains) (h1_1 : Sl 1 (RL 1 (RI .i64)) s a1_1 c1_1 x1.Turns) {r : (List GuideLine)} (hr : Fishref2BoardOf x0 x1 x2 x3 x4 = some r) :
  Calls Tryz.prog 16 [.agg (List.toArray [.slice a0_0 x0.Trains.length c0_0, .slice a0_1 x0.Turns.length c0_1]), .agg (List.toArray [.slice a1_0 x1.Trains.length c1_0, .slice a1_1 x1.Turns.length c1_1]), vi x2, vi x3, vi x4].toArray w (fun e w => ∃ (a0 : Option Addr) (c0 n0 : Nat) (cs0 : List Value) (t : Sg), e = .returned (.slice a0 n0 c0) ∧ s.Le t ∧ Ev 6 RGuideLine t cs0 r ∧ r.length = n0 ∧ St w t (vecC 44 6 a0 c0 n0 cs0 :: R)) := by
 refine enter Tryz.func16 rfl rfl rfl fun a hE => ?_
 rw [Fishref2BoardOf] at hr
 refine W.seq (W.region ?_)
 refine WL.box hE hS (runs_plain rfl) rfl rfl rfl ?_; clear hE hS a w; intro b51 a w hE hS
 refine WL.box hE hS (runs_plain rfl) rfl rfl rfl ?_; clear hE hS a w; intro b52 a w hE hS
 refine WL.box hE hS (runs_plain rfl) rfl rfl rfl ?_; clear hE hS a w; intro b53 a w hE hS
 refine vp hS hE rfl rfl fun a hE => WL.nil ?_
 refine W.seq (W.region ?_)
 refine WL.alloc hE hS (runs_plain rfl) zr131 rfl ?_; clear hE hS a w; intro b54 a w hE hS
 refine WL.nil ?_
 refine W.seq (W.region ?_)
 replace hS := hS.vecNil 133 7
 refine vP hS hE (Gives.mkfn hE (vs := [pp b53, pp b54]) rfl) rfl fun a hE => ?_
 refine vp hS hE rfl rfl fun a hE => WL.nil ?_
 refine W.seq ?_
 refine W.seq (W.region (vP hS hE (Gives.fld hE rfl fl25_0) rfl fun a hE => ?_))
 refine vP hS hE (Gives.loadB hE 4 rfl rfl rfl ty22) rfl fun a hE => ?_
 refine vP hS hE (Gives.len hE rfl sl22) rfl fun a hE => ?_
 refine vp hS hE rfl rfl fun a hE => WL.nil ?_
 obtain ⟨q57, hq56, hr⟩ := bindS hr
 refine W.cut (fun a w => ∃ (q67 : List Fishref2Row), ∃ (a68 : Option Addr), ∃ (c69 : Nat), ∃ (n71 : Nat), ∃ (cs72 : List Value), q67 = q57 ∧ Ev 7 RFishref2Row s cs72 q67 ∧ q67.length = n71 ∧ Rep a 188 [(2, vi x2), (4, vi x4), (5, pp b51), (6, pp b52), (11, pp b54), (12, .func (.func 65) #[] #[pp b53, pp b54])] ∧ St w s (vecC 133 7 a68 c69 n71 cs72 :: pc b54 #[.slice a68 n71 c69] 131 :: pc b53 #[vi x3] 3 :: pc b52 #[.slice a1_0 x1.Trains.length c1_0, .slice a1_1 x1.Turns.length c1_1] 25 :: pc b51 #[.slice a0_0 x0.Trains.length c0_0, .slice a0_1 x0.Turns.length c0_1] 25 :: R)) ?_ ?_
 ·refine W.block ?_
  refine W.loop (fun m a w => ∃ (rest60 : List ApiTrain) (k58 : Nat), ∃ (q67 : List Fishref2Row), ∃ (a68 : Option Addr), ∃ (c69 : Nat), ∃ (n71 : Nat), ∃ (cs72 : List Value), rest60.length = m ∧ x0.Trains.drop k58 = rest60 ∧ Fishref2BoardOf.loop1 x1 x2 x3 rest60 q67 = some q57 ∧ Ev 7 RFishref2Row s cs72 q67 ∧ q67.length = n71 ∧ Rep a 188 [(2, vi x2), (4, vi x4), (5, pp b51), (6, pp b52), (11, pp b54), (12, .func (.func 65) #[] #[pp b53, pp b54]), (30, .slice a0_0 x0.Trains.length c0_0), (31, vi ((x0.Trains).length : Int)), (32, vi ((k58 : Nat) : Int))] ∧ St w s (vecC 133 7 a68 c69 n71 cs72 :: pc b54 #[.slice a68 n71 c69] 131 :: pc b53 #[vi x3] 3 :: pc b52 #[.slice a1_0 x1.Trains.length c1_0, .slice a1_1 x1.Turns.length c1_1] 25 :: pc b51 #[.slice a0_0 x0.Trains.length c0_0, .slice a0_1 x0.Turns.length c0_1] 25 :: R)) (m := x0.Trains.length) ⟨x0.Trains, 0, [], none, 0, 0, [], rfl, rfl, hq56, (Ev.nil), (rfl), hE.pick _ ⟨rfl, rfl, rfl, rfl, rfl, rfl, rfl, rfl, rfl, trivial⟩, hS⟩ ?_
  clear hE hS a w hq56; rintro m64 a w ⟨rest60, k58, q67, a68, c69, n71, cs72, rfl, hd61, hq56, h70, rfl, hE, hS⟩
  refine W.gen fun K74 hK74 => ?_
  rcases rest60 with _ | ⟨x59, rest60⟩
  ·have hlt62 := drop_nil hd61
   refine W.seq (W.region (vp hS hE rfl rfl fun a hE => WL.nil ?_))
   refine W.seq ?_
   refine W.condF hE rfl (decide_eq_false (by omega)) ?_
   subst hK74
   refine W.exit rfl ?_
   exact ⟨q67, a68, c69, q67.length, cs72, Option.some.inj hq56, h70, rfl, hE.pick _ ⟨rfl, rfl, rfl, rfl, rfl, rfl, trivial⟩, hS⟩
  obtain ⟨hlt62, hx63, hd61⟩ := drop_cons hd61
  rw [Fishref2BoardOf.loop1] at hq56
  refine W.seq (W.region (vp hS hE rfl rfl fun a hE => WL.nil ?_))
  refine W.seq ?_
  refine W.condT hE rfl (decide_eq_true (by omega)) ?_
  refine W.skip ?_
  refine W.seq ?_
  refine W.block ?_
  refine W.seq (W.region ?_)
  obtain ⟨cs75, hl76, hR77, hat78⟩ := h0_0.at hx63
  obtain ⟨a79, c80, a82, c83, rfl, h81, h84⟩ := hR77
  refine vP hS hE (Gives.idx hE k58 rfl rfl sl22 rfl hlt62 (h0_0.aok hlt62)) rfl fun a hE => ?_
  refine vP hS hE (Gives.loadA hE rfl (fun w h => hat78 w _ h) ty111) rfl fun a hE => ?_
  refine WL.alloc hE hS (runs_plain rfl) zr111 rfl ?_; clear hE hS a w; intro b85 a w hE hS
  refine WL.storeI hE hS 0 rfl [vi x59.No, vi x59.Stock, .slice a79 x59.Stops.length c80, .slice a82 x59.Legs.length c83] (runs_plain rfl) rfl rfl rfl ty111 rfl rfl rfl rfl ?_; clear hE hS a w; intro a w hE hS
  refine WL.nil ?_
  refine W.seq (W.region (vP hS hE (Gives.fld hE rfl fl111_2) rfl fun a hE => ?_))
  refine vP hS hE (Gives.loadB hE 0 rfl rfl rfl ty109) rfl fun a hE => ?_
  refine vP hS hE (Gives.len hE rfl sl109) rfl fun a hE => ?_
  refine v2 hS hE rfl rfl rfl rfl fun a hE => WL.nil ?_
  refine W.seq (W.region (vP hS hE (Gives.fld hE rfl fl111_2) rfl fun a hE => ?_))
  refine vP hS hE (Gives.loadB hE 0 rfl rfl rfl ty109) rfl fun a hE => ?_
  refine vp hS hE rfl rfl fun a hE => ?_
  obtain ⟨x86, hx87, hq56⟩ := bindS hq56
  obtain ⟨a88, c89, heq90, h91⟩ := h81.cut hx87
  obtain ⟨h92, h93, h94, _⟩ := cutl_some hx87
  refine vP hS hE (Gives.slH hE sl109 rfl rfl h93 (Int.le_trans h94 (by have := h81.len; omega)) heq90) rfl fun a hE => ?_
  refine vP hS hE (Gives.len hE rfl sl109) rfl fun a hE => ?_
  refine vp hS hE rfl rfl fun a hE => WL.nil ?_
  obtain ⟨q96, hq95, hq56⟩ := bindS hq56
  refine W.cut (fun a w => ∃ (q106 : List Fishref2Row), ∃ (a107 : Option Addr), ∃ (c108 : Nat), ∃ (n110 : Nat), ∃ (cs111 : List Value), q106 = q96 ∧ Ev 7 RFishref2Row s cs111 q106 ∧ q106.length = n110 ∧ Rep a 188 [(2, vi x2), (4, vi x4), (5, pp b51), (6, pp b52), (11, pp b54), (12, .func (.func 65) #[] #[pp b53, pp b54]), (30, .slice a0_0 x0.Trains.length c0_0), (31, vi ((x0.Trains).length : Int)), (32, vi ((k58 : Nat) : Int))] ∧ St w s (pc b85 #[vi x59.No, vi x59.Stock, .slice a79 x59.Stops.length c80, .slice a82 x59.Legs.length c83] 111 :: vecC 133 7 a107 c108 n110 cs111 :: pc b54 #[.slice a107 n110 c108] 131 :: pc b53 #[vi x3] 3 :: pc b52 #[.slice a1_0 x1.Trains.length c1_0, .slice a1_1 x1.Turns.length c1_1] 25 :: pc b51 #[.slice a0_0 x0.Trains.length c0_0, .slice a0_1 x0.Turns.length c0_1] 25 :: R)) ?_ ?_
  ·refine W.block ?_
   refine W.loop (fun m a w => ∃ (rest99 : List ApiStop) (k97 : Nat), ∃ (q106 : List Fishref2Row), ∃ (a107 : Option Addr), ∃ (c108 : Nat), ∃ (n110 : Nat), ∃ (cs111 : List Value), rest99.length = m ∧ x86.drop k97 = rest99 ∧ Fishref2BoardOf.loop2 x1 x2 x3 x59 rest99 k97 q106 = some q96 ∧ Ev 7 RFishref2Row s cs111 q106 ∧ q106.length = n110 ∧ Rep a 188 [(2, vi x2), (4, vi x4), (5, pp b51), (6, pp b52), (11, pp b54), (12, .func (.func 65) #[] #[pp b53, pp b54]), (14, pp b85), (15, vi (w64 (((x59.Stops).length : Int) - 1))), (30, .slice a0_0 x0.Trains.length c0_0), (31, vi ((x0.Trains).length : Int)), (32, vi ((k58 : Nat) : Int)), (43, .slice a88 x86.length c89), (44, vi ((x86).length : Int)), (45, vi ((k97 : Nat) : Int))] ∧ St w s (pc b85 #[vi x59.No, vi x59.Stock, .slice a79 x59.Stops.length c80, .slice a82 x59.Legs.length c83] 111 :: vecC 133 7 a107 c108 n110 cs111 :: pc b54 #[.slice a107 n110 c108] 131 :: pc b53 #[vi x3] 3 :: pc b52 #[.slice a1_0 x1.Trains.length c1_0, .slice a1_1 x1.Turns.length c1_1] 25 :: pc b51 #[.slice a0_0 x0.Trains.length c0_0, .slice a0_1 x0.Turns.length c0_1] 25 :: R)) (m := x86.length) ⟨x86, 0, q67, a68, c69, q67.length, cs72, rfl, rfl, hq95, h70, rfl, hE.pick _ ⟨rfl, rfl, rfl, rfl, rfl, rfl, rfl, rfl, rfl, rfl, rfl, rfl, rfl, rfl, trivial⟩, hS⟩ ?_
   clear hE hS a w hq95; rintro m103 a w ⟨rest99, k97, q106, a107, c108, n110, cs111, rfl, hd100, hq95, h109, rfl, hE, hS⟩
   refine W.gen fun K113 hK113 => ?_
   rcases rest99 with _ | ⟨x98, rest99⟩
   ·have hlt101 := drop_nil hd100
    refine W.seq (W.region (vp hS hE rfl rfl fun a hE => WL.nil ?_))
    refine W.seq ?_
    refine W.condF hE rfl (decide_eq_false (by omega)) ?_
    subst hK113
    refine W.exit rfl ?_
    exact ⟨q106, a107, c108, q106.length, cs111, Option.some.inj hq95, h109, rfl, hE.pick _ ⟨rfl, rfl, rfl, rfl, rfl, rfl, rfl, rfl, rfl, trivial⟩, hS⟩
   obtain ⟨hlt101, hx102, hd100⟩ := drop_cons hd100
   rw [Fishref2BoardOf.loop2] at hq95
   refine W.seq (W.region (vp hS hE rfl rfl fun a hE => WL.nil ?_))
   refine W.seq ?_
   refine W.condT hE rfl (decide_eq_true (by omega)) ?_
   refine W.skip ?_
   refine W.seq ?_
   refine W.block ?_
   refine W.seq (W.region (vp hS hE rfl rfl fun a hE => ?_))
   obtain ⟨cs114, hl115, hR116, hat117⟩ := h91.at hx102
   subst hR116
   refine vP hS hE (Gives.idx hE k97 rfl rfl sl109 rfl hlt101 (h91.aok hlt101)) rfl fun a hE => ?_
   refine vP hS hE (Gives.loadA hE rfl (fun w h => hat117 w _ h) ty99) rfl fun a hE => ?_
   refine WL.alloc hE hS (runs_plain rfl) zr99 rfl ?_; clear hE hS a w; intro b118 a w hE hS
   refine vp hS hE rfl rfl fun a hE => ?_
   refine WL.storeI hE hS 0 rfl (ApiStop.cells x98) (runs_plain rfl) rfl rfl rfl ty99 rfl rfl rfl rfl ?_; clear hE hS a w; intro a w hE hS
   refine WL.nil ?_
   refine W.seq ?_
   refine W.seq (W.region (vP hS hE (Gives.fld hE rfl fl99_0) rfl fun a hE => ?_))
   refine vP hS hE (Gives.loadB hE 0 rfl rfl rfl ty3) rfl fun a hE => ?_
   refine v2 hS hE rfl rfl rfl rfl fun a hE => WL.nil ?_
   refine W.cond hE rfl (fun hc119 => ?_) (fun hc119 => ?_)
   ·replace hq95 := iteT hc119 hq95
    refine W.exit rfl ?_
    refine W.region ?_
    refine vP hS hE (Gives.inc hE rfl (by have := h91.small; omega)) rfl fun a hE => ?_
    refine vp hS hE rfl rfl fun a hE => WL.nil ?_
    replace hS := hS.tail
    subst hK113
    exact ⟨rest99.length, Nat.lt_succ_self _, rest99, k97 + 1, q106, a107, c108, q106.length, cs111, rfl, hd100, hq95, h109, rfl, hE.pick _ ⟨rfl, rfl, rfl, rfl, rfl, rfl, rfl, rfl, rfl, rfl, rfl, rfl, rfl, rfl, trivial⟩, hS⟩
   replace hq95 := iteF hc119 hq95
   refine W.skip ?_
   refine W.seq ?_
   refine W.gen fun K120 hK120 => ?_
   refine W.regionE (dup (fun w => St w s (pc b118 (ApiStop.cells x98).toArray 99 :: pc b85 #[vi x59.No, vi x59.Stock, .slice a79 x59.Stops.length c80, .slice a82 x59.Legs.length c83] 111 :: vecC 133 7 a107 c108 q106.length cs111 :: pc b54 #[.slice a107 q106.length c108] 131 :: pc b53 #[vi x3] 3 :: pc b52 #[.slice a1_0 x1.Trains.length c1_0, .slice a1_1 x1.Turns.length c1_1] 25 :: pc b51 #[.slice a0_0 x0.Trains.length c0_0, .slice a0_1 x0.Turns.length c0_1] 25 :: R))) (fun b i => cond b ([0, 1, 2, 3, 4, 5, 6, 7, 8, 9, 10, 11, 12, 13, 14].contains i) ([0, 1, 2, 3, 4, 5, 6, 7, 8, 9, 10, 11, 12, 13, 14].contains i)) mixed ?_
   replace hS := hS.drew
   refine tP (i := 0) hE rfl (by kernel_rfl) (Gives.fld hE rfl fl99_3) rfl hS hS fun a hE => ?_
   refine tT (i := 1) true rfl hE rfl (by kernel_rfl) (Gives.loadB hE 0 rfl rfl rfl ty3) rfl hS hS fun a hE => ?_
   refine tP (i := 2) hE rfl (by kernel_rfl) (Gives.fld hE rfl fl111_0) rfl hS hS fun a hE => ?_
   refine tT (i := 3) true rfl hE rfl (by kernel_rfl) (Gives.loadB hE 1 rfl rfl rfl ty3) rfl hS hS fun a hE => ?_
   refine tP (i := 4) hE rfl (by kernel_rfl) (Gives.fld hE rfl fl111_2) rfl hS hS fun a hE => ?_
   refine tT (i := 5) true rfl hE rfl (by kernel_rfl) (Gives.loadB hE 1 rfl rfl rfl ty109) rfl hS hS fun a hE => ?_
   refine tP (i := 6) hE rfl (by kernel_rfl) (Gives.p hE rfl) rfl hS hS fun a hE => ?_
   obtain ⟨x121, hx122, hq95⟩ := bindS hq95
   obtain ⟨hi123, hlt124, hy125⟩ := gx_some hx122
   obtain ⟨cs126, hl127, hR128, hat129⟩ := h81.at hy125
   subst hR128
   refine tP (i := 7) hE rfl (by kernel_rfl) (Gives.idx hE (w64 (((x59.Stops).length : Int) - 1)).toNat rfl rfl sl109 hi123 hlt124 (h81.aok hlt124)) rfl hS hS fun a hE => ?_
   refine tP (i := 8) hE rfl (by kernel_rfl) (Gives.fld hE rfl fl99_0) rfl hS hS fun a hE => ?_
   refine tT (i := 9) true rfl hE rfl (by kernel_rfl) (Gives.load1 hE rfl (fun w h => (hat129 w _ h).one rfl) ty3) rfl hS hS fun a hE => ?_
   refine tP (i := 10) hE rfl (by kernel_rfl) (Gives.fld hE rfl fl99_1) rfl hS hS fun a hE => ?_
   refine tT (i := 11) true rfl hE rfl (by kernel_rfl) (Gives.loadB hE 0 rfl rfl rfl ty3) rfl hS hS fun a hE => ?_
   refine tP (i := 12) hE rfl (by kernel_rfl) (Gives.build hE (vs := [(0, vi x98.Dep), (2, vi x59.No), (3, vi x121.Station), (4, vi x98.Track)]) [vi x98.Dep, vi 0, vi x59.No, vi x121.Station, vi x98.Track, .bool false] rfl (by kernel_rfl)) rfl hS hS fun a hE => ?_
   refine Rg.one (i := 13) true true rfl (by kernel_rfl) (by kernel_rfl) (by kernel_rfl) ?_
   refine WL.alloc hE hS (runs_plain rfl) zr44 rfl ?_; clear hE hS a w; intro b130 a w hE hS
   refine WL.nil ?_
   refine ⟨⟨fun _ => (hS.tail), fun _ => (hS.tail)⟩, ?_⟩
   refine Rg.one (i := 14) true true rfl (by kernel_rfl) (by kernel_rfl) (by kernel_rfl) ?_
   refine WL.storeI hE hS 0 rfl [vi x98.Dep, vi 0, vi x59.No, vi x121.Station, vi x98.Track, .bool false] (runs_plain rfl) rfl rfl rfl ty44 rfl rfl rfl rfl ?_; clear hE hS a w; intro a w hE hS
   refine WL.nil ?_
   refine ⟨⟨fun _ => (hS.tail), fun _ => (hS.tail)⟩, ?_⟩
   refine Rg.done (by kernel_rfl) ?_
   subst hK120
   refine W.seq ?_
   refine W.seq (W.region (vP hS hE (Gives.loadBA hE 6 rfl rfl ty25) rfl fun a hE => ?_))
   refine vP hS hE (Gives.fld hE rfl fl111_0) rfl fun a hE => ?_
   refine vP hS hE (Gives.loadB hE 2 rfl rfl rfl ty3) rfl fun a hE => ?_
   refine WL.fnq hE (Fishref2byNo_ok hS h1_0 h1_1 rfl (r := Fishref2byNo x1 x59.No)) (runs_plain rfl) bd66 rfl rfl rfl ?_
   clear hE hS; rintro e w ⟨rfl, hS⟩; refine ⟨_, rfl, ?_⟩; clear a; intro a hE
   refine vp hS hE rfl rfl fun a hE => WL.nil ?_
   refine W.seq ?_
   obtain ⟨q132, hq131, hq95⟩ := bindS hq95
   refine W.cut (fun a w => ∃ (q135 : Bool), q135 = q132 ∧ Rep a 188 [(2, vi x2), (4, vi x4), (5, pp b51), (6, pp b52), (11, pp b54), (12, .func (.func 65) #[] #[pp b53, pp b54]), (14, pp b85), (15, vi (w64 (((x59.Stops).length : Int) - 1))), (16, vi ((k97 : Nat) : Int)), (17, pp b118), (18, pp b130), (19, vi (Fishref2byNo x1 x59.No)), (30, .slice a0_0 x0.Trains.length c0_0), (31, vi ((x0.Trains).length : Int)), (32, vi ((k58 : Nat) : Int)), (43, .slice a88 x86.length c89), (44, vi ((x86).length : Int)), (45, vi ((k97 : Nat) : Int)), (97, .bool q135)] ∧ St w s (pc b130 #[vi x98.Dep, vi 0, vi x59.No, vi x121.Station, vi x98.Track, .bool false] 44 :: pc b118 (ApiStop.cells x98).toArray 99 :: pc b85 #[vi x59.No, vi x59.Stock, .slice a79 x59.Stops.length c80, .slice a82 x59.Legs.length c83] 111 :: vecC 133 7 a107 c108 q106.length cs111 :: pc b54 #[.slice a107 q106.length c108] 131 :: pc b53 #[vi x3] 3 :: pc b52 #[.slice a1_0 x1.Trains.length c1_0, .slice a1_1 x1.Turns.length c1_1] 25 :: pc b51 #[.slice a0_0 x0.Trains.length c0_0, .slice a0_1 x0.Turns.length c0_1] 25 :: R)) ?_ ?_
   ·refine W.gen fun K136 hK136 => ?_
    refine W.region ?_
    refine v2 hS hE rfl rfl rfl rfl fun a hE => ?_
    refine vp hS hE rfl rfl fun a hE => ?_
    rcases Bool.eq_false_or_eq_true (decide ((Fishref2byNo x1 x59.No) ≥ 0)) with hg137 | hg137
    ·replace hq131 := iteT hg137 hq131
     refine WL.vS hS hE (runs_if hE rfl rfl rfl hg137) (Gives.p hE rfl) rfl fun a hE => ?_
     refine WL.vS hS hE (runs_if hE rfl rfl rfl hg137) (Gives.fld hE rfl fl25_0) rfl fun a hE => ?_
     refine WL.vS hS hE (runs_if hE rfl rfl rfl hg137) (Gives.loadB hE 6 rfl rfl rfl ty22) rfl fun a hE => ?_
     refine WL.vS hS hE (runs_if hE rfl rfl rfl hg137) (Gives.p hE rfl) rfl fun a hE => ?_
     obtain ⟨x138, hx139, hq131⟩ := bindS hq131
     obtain ⟨hi140, hlt141, hy142⟩ := gx_some hx139
     obtain ⟨cs143, hl144, hR145, hat146⟩ := h1_0.at hy142
     obtain ⟨a147, c148, a150, c151, rfl, h149, h152⟩ := hR145
     refine WL.vS hS hE (runs_if hE rfl rfl rfl hg137) (Gives.idx hE ((Fishref2byNo x1 x59.No)).toNat rfl rfl sl22 hi140 hlt141 (h1_0.aok hlt141)) rfl fun a hE => ?_
     refine WL.vS hS hE (runs_if hE rfl rfl rfl hg137) (Gives.fld hE rfl fl111_2) rfl fun a hE => ?_
     refine WL.vS hS hE (runs_if hE rfl rfl rfl hg137) (Gives.load1 hE rfl (fun w h => (hat146 w _ h).one rfl) ty109) rfl fun a hE => ?_
     refine WL.vS hS hE (runs_if hE rfl rfl rfl hg137) (Gives.len hE rfl sl109) rfl fun a hE => ?_
     refine WL.vS hS hE (runs_if hE rfl rfl rfl hg137) (Gives.p hE rfl) rfl fun a hE => ?_
     refine vP hS hE (Gives.pickT hE rfl hg137 rfl) rfl fun a hE => ?_
     refine vp hS hE rfl rfl fun a hE => ?_
     rcases Bool.eq_false_or_eq_true (decide (((k97 : Nat) : Int) < ((x138.Stops).length : Int))) with hg153 | hg153
     ·replace hq131 := iteT hg153 hq131
      refine WL.vS hS hE (runs_if hE rfl rfl rfl hg153) (Gives.fld hE rfl fl25_0) rfl fun a hE => ?_
      refine WL.vS hS hE (runs_if hE rfl rfl rfl hg153) (Gives.loadB hE 6 rfl rfl rfl ty22) rfl fun a hE => ?_
      refine WL.vS hS hE (runs_if hE rfl rfl rfl hg153) (Gives.p hE rfl) rfl fun a hE => ?_
      obtain ⟨x154, hx155, hq131⟩ := bindS hq131
      obtain ⟨hi156, hlt157, hy158⟩ := gx_some hx155
      obtain ⟨cs159, hl160, hR161, hat162⟩ := h1_0.at hy158
      obtain ⟨a163, c164, a166, c167, rfl, h165, h168⟩ := hR161
      refine WL.vS hS hE (runs_if hE rfl rfl rfl hg153) (Gives.idx hE ((Fishref2byNo x1 x59.No)).toNat rfl rfl sl22 hi156 hlt157 (h1_0.aok hlt157)) rfl fun a hE => ?_
      refine WL.vS hS hE (runs_if hE rfl rfl rfl hg153) (Gives.fld hE rfl fl111_2) rfl fun a hE => ?_
      refine WL.vS hS hE (runs_if hE rfl rfl rfl hg153) (Gives.load1 hE rfl (fun w h => (hat162 w _ h).one rfl) ty109) rfl fun a hE => ?_
      refine WL.vS hS hE (runs_if hE rfl rfl rfl hg153) (Gives.p hE rfl) rfl fun a hE => ?_
      obtain ⟨x169, hx170, hq131⟩ := bindS hq131
      obtain ⟨hi171, hlt172, hy173⟩ := gx_some hx170
      obtain ⟨cs174, hl175, hR176, hat177⟩ := h165.at hy173
      subst hR176
      refine WL.vS hS hE (runs_if hE rfl rfl rfl hg153) (Gives.idx hE (((k97 : Nat) : Int)).toNat rfl rfl sl109 hi171 hlt172 (h165.aok hlt172)) rfl fun a hE => ?_
      refine WL.vS hS hE (runs_if hE rfl rfl rfl hg153) (Gives.fld hE rfl fl99_0) rfl fun a hE => ?_
      refine WL.vS hS hE (runs_if hE rfl rfl rfl hg153) (Gives.load1 hE rfl (fun w h => (hat177 w _ h).one rfl) ty3) rfl fun a hE => ?_
      refine WL.vS hS hE (runs_if hE rfl rfl rfl hg153) (Gives.p hE rfl) rfl fun a hE => ?_
      refine WL.vS hS hE (runs_if hE rfl rfl rfl hg153) (Gives.p hE rfl) rfl fun a hE => ?_
      refine vP hS hE (Gives.pickT hE rfl hg153 rfl) rfl fun a hE => WL.nil ?_
      subst hK136
      exact ⟨(x169.Station == x2), Option.some.inj hq131, hE.pick _ ⟨rfl, rfl, rfl, rfl, rfl, rfl, rfl, rfl, rfl, rfl, rfl, rfl, rfl, rfl, rfl, rfl, rfl, rfl, rfl, trivial⟩, hS⟩
     replace hq131 := iteF hg153 hq131
     refine nO hE rfl rfl rfl (by rw [hg153]; decide) rfl fun a hE => ?_
     refine nO hE rfl rfl rfl (by rw [hg153]; decide) rfl fun a hE => ?_
     refine nO hE rfl rfl rfl (by rw [hg153]; decide) rfl fun a hE => ?_
     refine nO hE rfl rfl rfl (by rw [hg153]; decide) rfl fun a hE => ?_
     refine nO hE rfl rfl rfl (by rw [hg153]; decide) rfl fun a hE => ?_
     refine nO hE rfl rfl rfl (by rw [hg153]; decide) rfl fun a hE => ?_
     refine nO hE rfl rfl rfl (by rw [hg153]; decide) rfl fun a hE => ?_
     refine nO hE rfl rfl rfl (by rw [hg153]; decide) rfl fun a hE => ?_
     refine nO hE rfl rfl rfl (by rw [hg153]; decide) rfl fun a hE => ?_
     refine nO hE rfl rfl rfl (by rw [hg153]; decide) rfl fun a hE => ?_
     refine nO hE rfl rfl rfl (by rw [hg153]; decide) rfl fun a hE => ?_
     refine nO hE rfl rfl rfl (by rw [hg153]; decide) rfl fun a hE => ?_
     refine vP hS hE (Gives.pickF hE rfl hg153 rfl) rfl fun a hE => WL.nil ?_
     subst hK136
     exact ⟨false, Option.some.inj hq131, hE.pick _ ⟨rfl, rfl, rfl, rfl, rfl, rfl, rfl, rfl, rfl, rfl, rfl, rfl, rfl, rfl, rfl, rfl, rfl, rfl, rfl, trivial⟩, hS⟩
    replace hq131 := iteF hg137 hq131
    refine nO hE rfl rfl rfl (by rw [hg137]; decide) rfl fun a hE => ?_
    refine nO hE rfl rfl rfl (by rw [hg137]; decide) rfl fun a hE => ?_
    refine nO hE rfl rfl rfl (by rw [hg137]; decide) rfl fun a hE => ?_
    refine nO hE rfl rfl rfl (by rw [hg137]; decide) rfl fun a hE => ?_
    refine nO hE rfl rfl rfl (by rw [hg137]; decide) rfl fun a hE => ?_
    refine nO hE rfl rfl rfl (by rw [hg137]; decide) rfl fun a hE => ?_
    refine nO hE rfl rfl rfl (by rw [hg137]; decide) rfl fun a hE => ?_
    refine nO hE rfl rfl rfl (by rw [hg137]; decide) rfl fun a hE => ?_
    refine nO hE rfl rfl rfl (by rw [hg137]; decide) rfl fun a hE => ?_
    refine vP hS hE (Gives.pickF hE rfl hg137 rfl) rfl fun a hE => ?_
    refine vp hS hE rfl rfl fun a hE => ?_
    refine nO hE rfl rfl rfl (by decide) rfl fun a hE => ?_
    refine nO hE rfl rfl rfl (by decide) rfl fun a hE => ?_
    refine nO hE rfl rfl rfl (by decide) rfl fun a hE => ?_
    refine nO hE rfl rfl rfl (by decide) rfl fun a hE => ?_
    refine nO hE rfl rfl rfl (by decide) rfl fun a hE => ?_
    refine nO hE rfl rfl rfl (by decide) rfl fun a hE => ?_
    refine nO hE rfl rfl rfl (by decide) rfl fun a hE => ?_
    refine nO hE rfl rfl rfl (by decide) rfl fun a hE => ?_
    refine nO hE rfl rfl rfl (by decide) rfl fun a hE => ?_
    refine nO hE rfl rfl rfl (by decide) rfl fun a hE => ?_
    refine nO hE rfl rfl rfl (by decide) rfl fun a hE => ?_
    refine nO hE rfl rfl rfl (by decide) rfl fun a hE => ?_
    refine vP hS hE (Gives.pickF hE rfl rfl rfl) rfl fun a hE => WL.nil ?_
    subst hK136
    exact ⟨false, Option.some.inj hq131, hE.pick _ ⟨rfl, rfl, rfl, rfl, rfl, rfl, rfl, rfl, rfl, rfl, rfl, rfl, rfl, rfl, rfl, rfl, rfl, rfl, rfl, trivial⟩, hS⟩
   clear hE hS a w; rintro a w ⟨q135, rfl, hE, hS⟩
   obtain ⟨q179, hq178, hq95⟩ := bindS hq95
   refine W.cut (fun a w => ∃ (q182 : Int), q182 = q179 ∧ Rep a 188 [(2, vi x2), (4, vi x4), (5, pp b51), (6, pp b52), (11, pp b54), (12, .func (.func 65) #[] #[pp b53, pp b54]), (14, pp b85), (15, vi (w64 (((x59.Stops).length : Int) - 1))), (16, vi ((k97 : Nat) : Int)), (17, pp b118), (18, pp b130), (30, .slice a0_0 x0.Trains.length c0_0), (31, vi ((x0.Trains).length : Int)), (32, vi ((k58 : Nat) : Int)), (43, .slice a88 x86.length c89), (44, vi ((x86).length : Int)), (45, vi ((k97 : Nat) : Int))] ∧ St w s (pc b130 #[vi q182, vi 0, vi x59.No, vi x121.Station, vi x98.Track, .bool false] 44 :: pc b118 (ApiStop.cells x98).toArray 99 :: pc b85 #[vi x59.No, vi x59.Stock, .slice a79 x59.Stops.length c80, .slice a82 x59.Legs.length c83] 111 :: vecC 133 7 a107 c108 q106.length cs111 :: pc b54 #[.slice a107 q106.length c108] 131 :: pc b53 #[vi x3] 3 :: pc b52 #[.slice a1_0 x1.Trains.length c1_0, .slice a1_1 x1.Turns.length c1_1] 25 :: pc b51 #[.slice a0_0 x0.Trains.length c0_0, .slice a0_1 x0.Turns.length c0_1] 25 :: R)) ?_ ?_
   ·refine W.gen fun K183 hK183 => ?_
    refine W.cond hE rfl (fun hc184 => ?_) (fun hc184 => ?_)
    ·replace hq178 := iteT hc184 hq178
     refine W.region ?_
     refine vP hS hE (Gives.fld hE rfl fl25_0) rfl fun a hE => ?_
     refine vP hS hE (Gives.loadB hE 6 rfl rfl rfl ty22) rfl fun a hE => ?_
     refine vp hS hE rfl rfl fun a hE => ?_
     obtain ⟨x185, hx186, hq178⟩ := bindS hq178
     obtain ⟨hi187, hlt188, hy189⟩ := gx_some hx186
     obtain ⟨cs190, hl191, hR192, hat193⟩ := h1_0.at hy189
     obtain ⟨a194, c195, a197, c198, rfl, h196, h199⟩ := hR192
     refine vP hS hE (Gives.idx hE ((Fishref2byNo x1 x59.No)).toNat rfl rfl sl22 hi187 hlt188 (h1_0.aok hlt188)) rfl fun a hE => ?_
     refine vP hS hE (Gives.fld hE rfl fl111_2) rfl fun a hE => ?_
     refine vP hS hE (Gives.load1 hE rfl (fun w h => (hat193 w _ h).one rfl) ty109) rfl fun a hE => ?_
     refine vp hS hE rfl rfl fun a hE => ?_
     obtain ⟨x200, hx201, hq178⟩ := bindS hq178
     obtain ⟨hi202, hlt203, hy204⟩ := gx_some hx201
     obtain ⟨cs205, hl206, hR207, hat208⟩ := h196.at hy204
     subst hR207
     refine vP hS hE (Gives.idx hE (((k97 : Nat) : Int)).toNat rfl rfl sl109 hi202 hlt203 (h196.aok hlt203)) rfl fun a hE => ?_
     refine vP hS hE (Gives.fld hE rfl fl99_3) rfl fun a hE => ?_
     refine vP hS hE (Gives.load1 hE rfl (fun w h => (hat208 w _ h).one rfl) ty3) rfl fun a hE => ?_
     refine vP hS hE (Gives.fld hE rfl fl44_0) rfl fun a hE => ?_
     refine WL.storeI hE hS 0 rfl [vi x200.Dep, vi 0, vi x59.No, vi x121.Station, vi x98.Track, .bool false] (runs_plain rfl) rfl rfl rfl ty3 rfl rfl rfl rfl ?_; clear hE hS a w; intro a w hE hS
     refine WL.nil ?_
     subst hK183
     exact ⟨x200.Dep, Option.some.inj hq178, hE.pick _ ⟨rfl, rfl, rfl, rfl, rfl, rfl, rfl, rfl, rfl, rfl, rfl, rfl, rfl, rfl, rfl, rfl, rfl, trivial⟩, hS⟩
    replace hq178 := iteF hc184 hq178
    refine W.skip ?_
    subst hK183
    exact ⟨x98.Dep, Option.some.inj hq178, hE.pick _ ⟨rfl, rfl, rfl, rfl, rfl, rfl, rfl, rfl, rfl, rfl, rfl, rfl, rfl, rfl, rfl, rfl, rfl, trivial⟩, hS⟩
   clear hE hS a w; rintro a w ⟨q182, rfl, hE, hS⟩
   refine W.seq (W.region (vP hS hE (Gives.fld hE rfl fl99_3) rfl fun a hE => ?_))
   refine vP hS hE (Gives.loadB hE 1 rfl rfl rfl ty3) rfl fun a hE => ?_
   refine vP hS hE (Gives.fld hE rfl fl44_0) rfl fun a hE => ?_
   refine vP hS hE (Gives.loadB hE 0 rfl rfl rfl ty3) rfl fun a hE => ?_
   refine vp hS hE rfl rfl fun a hE => ?_
   refine vP hS hE (Gives.max2 hE rfl rfl) rfl fun a hE => ?_
   refine vP hS hE (Gives.fld hE rfl fl44_1) rfl fun a hE => ?_
   refine WL.storeI hE hS 0 rfl [vi q182, vi (mx 0 (w64 (x98.Dep - q182))), vi x59.No, vi x121.Station, vi x98.Track, .bool false] (runs_plain rfl) rfl rfl rfl ty3 rfl rfl rfl rfl ?_; clear hE hS a w; intro a w hE hS
   refine WL.nil ?_
   refine W.region ?_
   refine vp hS hE rfl rfl fun a hE => ?_
   refine vP hS hE (Gives.loadBA hE 0 rfl rfl ty44) rfl fun a hE => ?_
   refine vp hS hE rfl rfl fun a hE => ?_
   obtain ⟨q209, hq210, hq95⟩ := bindS hq95
   replace hS := hS.front 3 rfl
   replace hS := hS.front 4 rfl
   replace hS := hS.front 5 rfl
   have hc_ := Fishref2BoardOf_1_v1_ok hS h109 rfl hq210
   refine WL.fnw hE (hc_) rfl (runs_plain rfl) bd65 rfl rfl rfl ?_
   clear hE hS hc_; rintro e w ⟨a211, c212, n213, cs214, rfl, h215, rfl, hS⟩; refine ⟨_, rfl, ?_⟩; clear a; intro a hE
   refine WL.nil ?_
   refine W.region ?_
   refine vP hS hE (Gives.inc hE rfl (by have := h91.small; omega)) rfl fun a hE => ?_
   refine vp hS hE rfl rfl fun a hE => WL.nil ?_
   replace hS := hS.dropAt 3
   replace hS := hS.dropAt 3
   replace hS := hS.front 5 rfl
   replace hS := hS.front 5 rfl
   replace hS := hS.front 2 rfl
   replace hS := hS.front 3 rfl
   replace hS := hS.front 4 rfl
   replace hS := hS.front 5 rfl
   subst hK113
   exact ⟨rest99.length, Nat.lt_succ_self _, rest99, k97 + 1, q209, a211, c212, q209.length, cs214, rfl, hd100, hq95, h215, rfl, hE.pick _ ⟨rfl, rfl, rfl, rfl, rfl, rfl, rfl, rfl, rfl, rfl, rfl, rfl, rfl, rfl, trivial⟩, hS⟩
  clear hE hS a w; rintro a w ⟨q106, a107, c108, n110, cs111, rfl, h109, rfl, hE, hS⟩
  refine W.region ?_
  refine vP hS hE (Gives.inc hE rfl (by have := h0_0.small; omega)) rfl fun a hE => ?_
  refine vp hS hE rfl rfl fun a hE => WL.nil ?_
  replace hS := hS.tail
  subst hK74
  exact ⟨rest60.length, Nat.lt_succ_self _, rest60, k58 + 1, q106, a107, c108, q106.length, cs111, rfl, hd61, hq56, h109, rfl, hE.pick _ ⟨rfl, rfl, rfl, rfl, rfl, rfl, rfl, rfl, rfl, trivial⟩, hS⟩
 clear hE hS a w; rintro a w ⟨q67, a68, c69, n71, cs72, rfl, h70, rfl, hE, hS⟩
 refine W.seq ?_
 refine W.seq (W.region (vP hS hE (Gives.fld hE rfl fl25_0) rfl fun a hE => ?_))
 refine vP hS hE (Gives.loadB hE 3 rfl rfl rfl ty22) rfl fun a hE => ?_
 refine vP hS hE (Gives.len hE rfl sl22) rfl fun a hE => ?_
 refine vp hS hE rfl rfl fun a hE => WL.nil ?_
 obtain ⟨q217, hq216, hr⟩ := bindS hr
 refine W.cut (fun a w => ∃ (q227 : List Fishref2Row), ∃ (a228 : Option Addr), ∃ (c229 : Nat), ∃ (n231 : Nat), ∃ (cs232 : List Value), q227 = q217 ∧ Ev 7 RFishref2Row s cs232 q227 ∧ q227.length = n231 ∧ Rep a 188 [(4, vi x4), (11, pp b54)] ∧ St w s (vecC 133 7 a228 c229 n231 cs232 :: pc b54 #[.slice a228 n231 c229] 131 :: pc b53 #[vi x3] 3 :: pc b52 #[.slice a1_0 x1.Trains.length c1_0, .slice a1_1 x1.Turns.length c1_1] 25 :: pc b51 #[.slice a0_0 x0.Trains.length c0_0, .slice a0_1 x0.Turns.length c0_1] 25 :: R)) ?_ ?_
 ·refine W.block ?_
  refine W.loop (fun m a w => ∃ (rest220 : List ApiTrain) (k218 : Nat), ∃ (q227 : List Fishref2Row), ∃ (a228 : Option Addr), ∃ (c229 : Nat), ∃ (n231 : Nat), ∃ (cs232 : List Value), rest220.length = m ∧ x1.Trains.drop k218 = rest220 ∧ Fishref2BoardOf.loop3 x0 x2 x3 rest220 q227 = some q217 ∧ Ev 7 RFishref2Row s cs232 q227 ∧ q227.length = n231 ∧ Rep a 188 [(2, vi x2), (4, vi x4), (5, pp b51), (11, pp b54), (12, .func (.func 65) #[] #[pp b53, pp b54]), (123, .slice a1_0 x1.Trains.length c1_0), (124, vi ((x1.Trains).length : Int)), (125, vi ((k218 : Nat) : Int))] ∧ St w s (vecC 133 7 a228 c229 n231 cs232 :: pc b54 #[.slice a228 n231 c229] 131 :: pc b53 #[vi x3] 3 :: pc b52 #[.slice a1_0 x1.Trains.length c1_0, .slice a1_1 x1.Turns.length c1_1] 25 :: pc b51 #[.slice a0_0 x0.Trains.length c0_0, .slice a0_1 x0.Turns.length c0_1] 25 :: R)) (m := x1.Trains.length) ⟨x1.Trains, 0, q67, a68, c69, q67.length, cs72, rfl, rfl, hq216, h70, rfl, hE.pick _ ⟨rfl, rfl, rfl, rfl, rfl, rfl, rfl, rfl, trivial⟩, hS⟩ ?_
  clear hE hS a w hq216; rintro m224 a w ⟨rest220, k218, q227, a228, c229, n231, cs232, rfl, hd221, hq216, h230, rfl, hE, hS⟩
  refine W.gen fun K234 hK234 => ?_
  rcases rest220 with _ | ⟨x219, rest220⟩
  ·have hlt222 := drop_nil hd221
   refine W.seq (W.region (vp hS hE rfl rfl fun a hE => WL.nil ?_))
   refine W.seq ?_
   refine W.condF hE rfl (decide_eq_false (by omega)) ?_
   subst hK234
   refine W.exit rfl ?_
   exact ⟨q227, a228, c229, q227.length, cs232, Option.some.inj hq216, h230, rfl, hE.pick _ ⟨rfl, rfl, trivial⟩, hS⟩
  obtain ⟨hlt222, hx223, hd221⟩ := drop_cons hd221
  rw [Fishref2BoardOf.loop3] at hq216
  refine W.seq (W.region (vp hS hE rfl rfl fun a hE => WL.nil ?_))
  refine W.seq ?_
  refine W.condT hE rfl (decide_eq_true (by omega)) ?_
  refine W.skip ?_
  refine W.seq ?_
  refine W.block ?_
  refine W.seq (W.region ?_)
  obtain ⟨cs235, hl236, hR237, hat238⟩ := h1_0.at hx223
  obtain ⟨a239, c240, a242, c243, rfl, h241, h244⟩ := hR237
  refine vP hS hE (Gives.idx hE k218 rfl rfl sl22 rfl hlt222 (h1_0.aok hlt222)) rfl fun a hE => ?_
  refine vP hS hE (Gives.loadA hE rfl (fun w h => hat238 w _ h) ty111) rfl fun a hE => ?_
  refine WL.alloc hE hS (runs_plain rfl) zr111 rfl ?_; clear hE hS a w; intro b245 a w hE hS
  refine WL.storeI hE hS 0 rfl [vi x219.No, vi x219.Stock, .slice a239 x219.Stops.length c240, .slice a242 x219.Legs.length c243] (runs_plain rfl) rfl rfl rfl ty111 rfl rfl rfl rfl ?_; clear hE hS a w; intro a w hE hS
  refine WL.nil ?_
  refine W.seq ?_
  refine W.seq (W.region (vP hS hE (Gives.loadBA hE 5 rfl rfl ty25) rfl fun a hE => ?_))
  refine vP hS hE (Gives.fld hE rfl fl111_0) rfl fun a hE => ?_
  refine vP hS hE (Gives.loadB hE 0 rfl rfl rfl ty3) rfl fun a hE => ?_
  refine WL.fnq hE (Fishref2byNo_ok hS h0_0 h0_1 rfl (r := Fishref2byNo x0 x219.No)) (runs_plain rfl) bd66 rfl rfl rfl ?_
  clear hE hS; rintro e w ⟨rfl, hS⟩; refine ⟨_, rfl, ?_⟩; clear a; intro a hE
  refine vp hS hE rfl rfl fun a hE => WL.nil ?_
  refine W.cond hE rfl (fun hc246 => ?_) (fun hc246 => ?_)
  ·replace hq216 := iteT hc246 hq216
   refine W.exit rfl ?_
   refine W.region ?_
   refine vP hS hE (Gives.inc hE rfl (by have := h1_0.small; omega)) rfl fun a hE => ?_
   refine vp hS hE rfl rfl fun a hE => WL.nil ?_
   replace hS := hS.tail
   subst hK234
   exact ⟨rest220.length, Nat.lt_succ_self _, rest220, k218 + 1, q227, a228, c229, q227.length, cs232, rfl, hd221, hq216, h230, rfl, hE.pick _ ⟨rfl, rfl, rfl, rfl, rfl, rfl, rfl, rfl, trivial⟩, hS⟩
  replace hq216 := iteF hc246 hq216
  refine W.skip ?_
  refine W.seq (W.region (vP hS hE (Gives.fld hE rfl fl111_2) rfl fun a hE => ?_))
  refine vP hS hE (Gives.loadB hE 0 rfl rfl rfl ty109) rfl fun a hE => ?_
  refine vP hS hE (Gives.len hE rfl sl109) rfl fun a hE => ?_
  refine v2 hS hE rfl rfl rfl rfl fun a hE => WL.nil ?_
  refine W.seq (W.region (vP hS hE (Gives.fld hE rfl fl111_2) rfl fun a hE => ?_))
  refine vP hS hE (Gives.loadB hE 0 rfl rfl rfl ty109) rfl fun a hE => ?_
  refine vp hS hE rfl rfl fun a hE => ?_
  obtain ⟨x247, hx248, hq216⟩ := bindS hq216
  obtain ⟨a249, c250, heq251, h252⟩ := h241.cut hx248
  obtain ⟨h253, h254, h255, _⟩ := cutl_some hx248
  refine vP hS hE (Gives.slH hE sl109 rfl rfl h254 (Int.le_trans h255 (by have := h241.len; omega)) heq251) rfl fun a hE => ?_
  refine vP hS hE (Gives.len hE rfl sl109) rfl fun a hE => ?_
  refine vp hS hE rfl rfl fun a hE => WL.nil ?_
  obtain ⟨q257, hq256, hq216⟩ := bindS hq216
  refine W.cut (fun a w => ∃ (q267 : List Fishref2Row), ∃ (a268 : Option Addr), ∃ (c269 : Nat), ∃ (n271 : Nat), ∃ (cs272 : List Value), q267 = q257 ∧ Ev 7 RFishref2Row s cs272 q267 ∧ q267.length = n271 ∧ Rep a 188 [(2, vi x2), (4, vi x4), (5, pp b51), (11, pp b54), (12, .func (.func 65) #[] #[pp b53, pp b54]), (123, .slice a1_0 x1.Trains.length c1_0), (124, vi ((x1.Trains).length : Int)), (125, vi ((k218 : Nat) : Int))] ∧ St w s (pc b245 #[vi x219.No, vi x219.Stock, .slice a239 x219.Stops.length c240, .slice a242 x219.Legs.length c243] 111 :: vecC 133 7 a268 c269 n271 cs272 :: pc b54 #[.slice a268 n271 c269] 131 :: pc b53 #[vi x3] 3 :: pc b52 #[.slice a1_0 x1.Trains.length c1_0, .slice a1_1 x1.Turns.length c1_1] 25 :: pc b51 #[.slice a0_0 x0.Trains.length c0_0, .slice a0_1 x0.Turns.length c0_1] 25 :: R)) ?_ ?_
  ·refine W.block ?_
   refine W.loop (fun m a w => ∃ (rest260 : List ApiStop) (k258 : Nat), ∃ (q267 : List Fishref2Row), ∃ (a268 : Option Addr), ∃ (c269 : Nat), ∃ (n271 : Nat), ∃ (cs272 : List Value), rest260.length = m ∧ x247.drop k258 = rest260 ∧ Fishref2BoardOf.loop4 x2 x3 x219 rest260 k258 q267 = some q257 ∧ Ev 7 RFishref2Row s cs272 q267 ∧ q267.length = n271 ∧ Rep a 188 [(2, vi x2), (4, vi x4), (5, pp b51), (11, pp b54), (12, .func (.func 65) #[] #[pp b53, pp b54]), (21, pp b245), (22, vi (w64 (((x219.Stops).length : Int) - 1))), (123, .slice a1_0 x1.Trains.length c1_0), (124, vi ((x1.Trains).length : Int)), (125, vi ((k218 : Nat) : Int)), (141, .slice a249 x247.length c250), (142, vi ((x247).length : Int)), (143, vi ((k258 : Nat) : Int))] ∧ St w s (pc b245 #[vi x219.No, vi x219.Stock, .slice a239 x219.Stops.length c240, .slice a242 x219.Legs.length c243] 111 :: vecC 133 7 a268 c269 n271 cs272 :: pc b54 #[.slice a268 n271 c269] 131 :: pc b53 #[vi x3] 3 :: pc b52 #[.slice a1_0 x1.Trains.length c1_0, .slice a1_1 x1.Turns.length c1_1] 25 :: pc b51 #[.slice a0_0 x0.Trains.length c0_0, .slice a0_1 x0.Turns.length c0_1] 25 :: R)) (m := x247.length) ⟨x247, 0, q227, a228, c229, q227.length, cs232, rfl, rfl, hq256, h230, rfl, hE.pick _ ⟨rfl, rfl, rfl, rfl, rfl, rfl, rfl, rfl, rfl, rfl, rfl, rfl, rfl, trivial⟩, hS⟩ ?_
   clear hE hS a w hq256; rintro m264 a w ⟨rest260, k258, q267, a268, c269, n271, cs272, rfl, hd261, hq256, h270, rfl, hE, hS⟩
   refine W.gen fun K274 hK274 => ?_
   rcases rest260 with _ | ⟨x259, rest260⟩
   ·have hlt262 := drop_nil hd261
    refine W.seq (W.region (vp hS hE rfl rfl fun a hE => WL.nil ?_))
    refine W.seq ?_
    refine W.condF hE rfl (decide_eq_false (by omega)) ?_
    subst hK274
    refine W.exit rfl ?_
    exact ⟨q267, a268, c269, q267.length, cs272, Option.some.inj hq256, h270, rfl, hE.pick _ ⟨rfl, rfl, rfl, rfl, rfl, rfl, rfl, rfl, trivial⟩, hS⟩
   obtain ⟨hlt262, hx263, hd261⟩ := drop_cons hd261
   rw [Fishref2BoardOf.loop4] at hq256
   refine W.seq (W.region (vp hS hE rfl rfl fun a hE => WL.nil ?_))
   refine W.seq ?_
   refine W.condT hE rfl (decide_eq_true (by omega)) ?_
   refine W.skip ?_
   refine W.seq ?_
   refine W.block ?_
   refine W.seq (W.region (vp hS hE rfl rfl fun a hE => ?_))
   obtain ⟨cs275, hl276, hR277, hat278⟩ := h252.at hx263
   subst hR277
   refine vP hS hE (Gives.idx hE k258 rfl rfl sl109 rfl hlt262 (h252.aok hlt262)) rfl fun a hE => ?_
   refine vP hS hE (Gives.loadA hE rfl (fun w h => hat278 w _ h) ty99) rfl fun a hE => ?_
   refine WL.alloc hE hS (runs_plain rfl) zr99 rfl ?_; clear hE hS a w; intro b279 a w hE hS
   refine vp hS hE rfl rfl fun a hE => ?_
   refine WL.storeI hE hS 0 rfl (ApiStop.cells x259) (runs_plain rfl) rfl rfl rfl ty99 rfl rfl rfl rfl ?_; clear hE hS a w; intro a w hE hS
   refine WL.nil ?_
   refine W.seq (W.region (vP hS hE (Gives.fld hE rfl fl99_0) rfl fun a hE => ?_))
   refine vP hS hE (Gives.loadB hE 0 rfl rfl rfl ty3) rfl fun a hE => ?_
   refine v2 hS hE rfl rfl rfl rfl fun a hE => WL.nil ?_
   refine W.cond hE rfl (fun hc280 => ?_) (fun hc280 => ?_)
   ·replace hq256 := iteT hc280 hq256
    refine W.gen fun K281 hK281 => ?_
    refine W.regionE (sel (fun w => St w s (pc b279 (ApiStop.cells x259).toArray 99 :: pc b245 #[vi x219.No, vi x219.Stock, .slice a239 x219.Stops.length c240, .slice a242 x219.Legs.length c243] 111 :: vecC 133 7 a268 c269 q267.length cs272 :: pc b54 #[.slice a268 q267.length c269] 131 :: pc b53 #[vi x3] 3 :: pc b52 #[.slice a1_0 x1.Trains.length c1_0, .slice a1_1 x1.Turns.length c1_1] 25 :: pc b51 #[.slice a0_0 x0.Trains.length c0_0, .slice a0_1 x0.Turns.length c0_1] 25 :: R)) (fun w => St w s (pc b279 (ApiStop.cells x259).toArray 99 :: pc b245 #[vi x219.No, vi x219.Stock, .slice a239 x219.Stops.length c240, .slice a242 x219.Legs.length c243] 111 :: pc b53 #[vi x3] 3 :: pc b52 #[.slice a1_0 x1.Trains.length c1_0, .slice a1_1 x1.Turns.length c1_1] 25 :: pc b51 #[.slice a0_0 x0.Trains.length c0_0, .slice a0_1 x0.Turns.length c0_1] 25 :: R))) (fun b i => cond b ([0, 1, 2, 3, 4, 5, 6, 7, 8, 9, 10, 11, 12].contains i) ([0, 1, 2, 3, 4, 5, 6, 7, 8, 9, 10, 11, 12, 13].contains i)) mixed ?_
    replace hS := hS.drew
    refine tP (i := 0) hE rfl (by kernel_rfl) (Gives.p hE rfl) rfl hS ((hS.dropAt 2).dropAt 2) fun a hE => ?_
    refine tP (i := 1) hE rfl (by kernel_rfl) (Gives.fld hE rfl fl99_3) rfl hS ((hS.dropAt 2).dropAt 2) fun a hE => ?_
    have hT := tw_sel (A := fun w => St w s _) (B := fun w => St w s _) (w := _) (x := true) (y := true) (fun _ => hS) (fun _ => ((hS.dropAt 2).dropAt 2))
    have hF := hS; replace hS := ((hS.dropAt 2).dropAt 2)
    refine Rg.take (i := 2) false rfl hE rfl (by kernel_rfl) (runs_plain rfl) (Gives.loadB hE 0 rfl rfl rfl ty3) rfl hT fun a hE => ?_
    replace hS := hF; clear hF hT
    refine tP (i := 3) hE rfl (by kernel_rfl) (Gives.fld hE rfl fl111_0) rfl hS ((hS.dropAt 2).dropAt 2) fun a hE => ?_
    have hT := tw_sel (A := fun w => St w s _) (B := fun w => St w s _) (w := _) (x := true) (y := true) (fun _ => hS) (fun _ => ((hS.dropAt 2).dropAt 2))
    have hF := hS; replace hS := ((hS.dropAt 2).dropAt 2)
    refine Rg.take (i := 4) false rfl hE rfl (by kernel_rfl) (runs_plain rfl) (Gives.loadB hE 1 rfl rfl rfl ty3) rfl hT fun a hE => ?_
    replace hS := hF; clear hF hT
    refine tP (i := 5) hE rfl (by kernel_rfl) (Gives.fld hE rfl fl111_2) rfl hS ((hS.dropAt 2).dropAt 2) fun a hE => ?_
    have hT := tw_sel (A := fun w => St w s _) (B := fun w => St w s _) (w := _) (x := true) (y := true) (fun _ => hS) (fun _ => ((hS.dropAt 2).dropAt 2))
    have hF := hS; replace hS := ((hS.dropAt 2).dropAt 2)
    refine Rg.take (i := 6) false rfl hE rfl (by kernel_rfl) (runs_plain rfl) (Gives.loadB hE 1 rfl rfl rfl ty109) rfl hT fun a hE => ?_
    replace hS := hF; clear hF hT
    refine tP (i := 7) hE rfl (by kernel_rfl) (Gives.p hE rfl) rfl hS ((hS.dropAt 2).dropAt 2) fun a hE => ?_
    obtain ⟨x282, hx283, hq256⟩ := bindS hq256
    obtain ⟨hi284, hlt285, hy286⟩ := gx_some hx283
    obtain ⟨cs287, hl288, hR289, hat290⟩ := h241.at hy286
    subst hR289
    refine tP (i := 8) hE rfl (by kernel_rfl) (Gives.idx hE (w64 (((x219.Stops).length : Int) - 1)).toNat rfl rfl sl109 hi284 hlt285 (h241.aok hlt285)) rfl hS ((hS.dropAt 2).dropAt 2) fun a hE => ?_
    refine tP (i := 9) hE rfl (by kernel_rfl) (Gives.fld hE rfl fl99_0) rfl hS ((hS.dropAt 2).dropAt 2) fun a hE => ?_
    have hT := tw_sel (A := fun w => St w s _) (B := fun w => St w s _) (w := _) (x := true) (y := true) (fun _ => hS) (fun _ => ((hS.dropAt 2).dropAt 2))
    have hF := hS; replace hS := ((hS.dropAt 2).dropAt 2)
    refine Rg.take (i := 10) false rfl hE rfl (by kernel_rfl) (runs_plain rfl) (Gives.load1 hE rfl (fun w h => (hat290 w _ h).one rfl) ty3) rfl hT fun a hE => ?_
    replace hS := hF; clear hF hT
    refine tP (i := 11) hE rfl (by kernel_rfl) (Gives.build hE (vs := [(0, vi x259.Dep), (2, vi x219.No), (3, vi x282.Station), (4, vi (-1)), (5, .bool true)]) [vi x259.Dep, vi 0, vi x219.No, vi x282.Station, vi (-1), .bool true] rfl (by kernel_rfl)) rfl hS ((hS.dropAt 2).dropAt 2) fun a hE => ?_
    refine tP (i := 12) hE rfl (by kernel_rfl) (Gives.p hE rfl) rfl hS ((hS.dropAt 2).dropAt 2) fun a hE => ?_
    refine Rg.one (i := 13) false true rfl (by kernel_rfl) (by kernel_rfl) (by kernel_rfl) ?_
    obtain ⟨q291, hq292, hq256⟩ := bindS hq256
    replace hS := hS.front 2 rfl
    replace hS := hS.front 3 rfl
    replace hS := hS.front 4 rfl
    have hc_ := Fishref2BoardOf_1_v1_ok hS h270 rfl hq292
    refine WL.fnw hE (hc_) rfl (runs_plain rfl) bd65 rfl rfl rfl ?_
    clear hE hS hc_; rintro e w ⟨a293, c294, n295, cs296, rfl, h297, rfl, hS⟩; refine ⟨_, rfl, ?_⟩; clear a; intro a hE
    refine WL.nil ?_
    refine ⟨⟨fun h => absurd h (by decide), fun _ => (St.front (St.front (St.front (St.front (St.front ((hS.dropAt 1).dropAt 1) 4 rfl) 4 rfl) 2 rfl) 4 rfl) 4 rfl)⟩, ?_⟩
    refine Rg.done (by kernel_rfl) ?_
    subst hK281
    refine W.region ?_
    refine vP hS hE (Gives.inc hE rfl (by have := h252.small; omega)) rfl fun a hE => ?_
    refine vp hS hE rfl rfl fun a hE => WL.nil ?_
    replace hS := hS.dropAt 3
    replace hS := hS.front 5 rfl
    replace hS := hS.front 5 rfl
    replace hS := hS.front 2 rfl
    replace hS := hS.front 3 rfl
    replace hS := hS.front 4 rfl
    replace hS := hS.front 5 rfl
    subst hK274
    exact ⟨rest260.length, Nat.lt_succ_self _, rest260, k258 + 1, q291, a293, c294, q291.length, cs296, rfl, hd261, hq256, h297, rfl, hE.pick _ ⟨rfl, rfl, rfl, rfl, rfl, rfl, rfl, rfl, rfl, rfl, rfl, rfl, rfl, trivial⟩, hS⟩
   replace hq256 := iteF hc280 hq256
   refine W.skip ?_
   refine W.region ?_
   refine vP hS hE (Gives.inc hE rfl (by have := h252.small; omega)) rfl fun a hE => ?_
   refine vp hS hE rfl rfl fun a hE => WL.nil ?_
   replace hS := hS.tail
   subst hK274
   exact ⟨rest260.length, Nat.lt_succ_self _, rest260, k258 + 1, q267, a268, c269, q267.length, cs272, rfl, hd261, hq256, h270, rfl, hE.pick _ ⟨rfl, rfl, rfl, rfl, rfl, rfl, rfl, rfl, rfl, rfl, rfl, rfl, rfl, trivial⟩, hS⟩
  clear hE hS a w; rintro a w ⟨q267, a268, c269, n271, cs272, rfl, h270, rfl, hE, hS⟩
  refine W.region ?_
  refine vP hS hE (Gives.inc hE rfl (by have := h1_0.small; omega)) rfl fun a hE => ?_
  refine vp hS hE rfl rfl fun a hE => WL.nil ?_
  replace hS := hS.tail
  subst hK234
  exact ⟨rest220.length, Nat.lt_succ_self _, rest220, k218 + 1, q267, a268, c269, q267.length, cs272, rfl, hd221, hq216, h270, rfl, hE.pick _ ⟨rfl, rfl, rfl, rfl, rfl, rfl, rfl, rfl, trivial⟩, hS⟩
 clear hE hS a w; rintro a w ⟨q227, a228, c229, n231, cs232, rfl, h230, rfl, hE, hS⟩
 refine W.seq (W.region (vP hS hE (Gives.loadB hE 1 rfl rfl rfl ty131) rfl fun a hE => ?_))
 obtain ⟨q301, hq302, hr⟩ := bindS hr
 refine WL.fnq hE (itSortF67_68_ok hS h230 rfl hq302) (runs_plain rfl) bd67 rfl rfl rfl ?_
 clear hE hS; rintro e w ⟨cs299, rfl, h300, hn303, hS⟩; refine ⟨_, rfl, ?_⟩; clear a; intro a hE
 refine WL.nil ?_
 refine W.seq (W.region ?_)
 replace hS := hS.vecNil 44 6
 refine vp hS hE rfl rfl fun a hE => WL.nil ?_
 refine W.seq ?_
 refine W.seq (W.region (vP hS hE (Gives.loadB hE 2 rfl rfl rfl ty131) rfl fun a hE => ?_))
 refine vp hS hE rfl rfl fun a hE => ?_
 refine vP hS hE (Gives.loadB hE 2 rfl rfl rfl ty131) rfl fun a hE => ?_
 refine vP hS hE (Gives.len hE rfl sl131) rfl fun a hE => ?_
 refine vP hS hE (Gives.min2 hE rfl rfl) rfl fun a hE => ?_
 have hF := hS.fixD RFishref2Row.mono 1 rfl h300 hn303; clear hS; obtain ⟨s305, hle306, hS, h307⟩ := hF
 (try rw [← hn303] at hE)
 (try rw [← hn303] at hS)
 replace h1_0 := Sl.mono RApiTrain.mono hle306 h1_0
 replace h1_1 := Sl.mono (RL.mono RI.mono) hle306 h1_1
 replace h0_0 := Sl.mono RApiTrain.mono hle306 h0_0
 replace h0_1 := Sl.mono (RL.mono RI.mono) hle306 h0_1
 obtain ⟨x308, hx309, hr⟩ := bindS hr
 obtain ⟨a310, c311, heq312, h313⟩ := h307.cut hx309
 obtain ⟨h314, h315, h316, _⟩ := cutl_some hx309
 refine vP hS hE (Gives.slH hE sl131 rfl rfl h315 (Int.le_trans h316 (by have := h307.len; omega)) heq312) rfl fun a hE => ?_
 refine vP hS hE (Gives.len hE rfl sl131) rfl fun a hE => ?_
 refine vp hS hE rfl rfl fun a hE => WL.nil ?_
 obtain ⟨q318, hq317, hr⟩ := bindS hr
 refine W.cut (fun a w => ∃ (q328 : List GuideLine), ∃ (a329 : Option Addr), ∃ (c330 : Nat), ∃ (n332 : Nat), ∃ (cs333 : List Value), q328 = q318 ∧ Ev 6 RGuideLine s305 cs333 q328 ∧ q328.length = n332 ∧ Rep a 188 [(25, .slice a329 n332 c330)] ∧ St w s305 (vecC 44 6 a329 c330 n332 cs333 :: pc b54 #[.slice a228 q301.length c229] 131 :: pc b53 #[vi x3] 3 :: pc b52 #[.slice a1_0 x1.Trains.length c1_0, .slice a1_1 x1.Turns.length c1_1] 25 :: pc b51 #[.slice a0_0 x0.Trains.length c0_0, .slice a0_1 x0.Turns.length c0_1] 25 :: R)) ?_ ?_
 ·refine W.block ?_
  refine W.loop (fun m a w => ∃ (rest321 : List Fishref2Row) (k319 : Nat), ∃ (q328 : List GuideLine), ∃ (a329 : Option Addr), ∃ (c330 : Nat), ∃ (n332 : Nat), ∃ (cs333 : List Value), rest321.length = m ∧ x308.drop k319 = rest321 ∧ Fishref2BoardOf.loop5 rest321 q328 = some q318 ∧ Ev 6 RGuideLine s305 cs333 q328 ∧ q328.length = n332 ∧ Rep a 188 [(25, .slice a329 n332 c330), (175, .slice a310 x308.length c311), (176, vi ((x308).length : Int)), (177, vi ((k319 : Nat) : Int))] ∧ St w s305 (vecC 44 6 a329 c330 n332 cs333 :: pc b54 #[.slice a228 q301.length c229] 131 :: pc b53 #[vi x3] 3 :: pc b52 #[.slice a1_0 x1.Trains.length c1_0, .slice a1_1 x1.Turns.length c1_1] 25 :: pc b51 #[.slice a0_0 x0.Trains.length c0_0, .slice a0_1 x0.Turns.length c0_1] 25 :: R)) (m := x308.length) ⟨x308, 0, [], none, 0, 0, [], rfl, rfl, hq317, (Ev.nil), (rfl), hE.pick _ ⟨rfl, rfl, rfl, rfl, trivial⟩, hS⟩ ?_
  clear hE hS a w hq317; rintro m325 a w ⟨rest321, k319, q328, a329, c330, n332, cs333, rfl, hd322, hq317, h331, rfl, hE, hS⟩
  refine W.gen fun K335 hK335 => ?_
  rcases rest321 with _ | ⟨x320, rest321⟩
  ·have hlt323 := drop_nil hd322
   refine W.seq (W.region (vp hS hE rfl rfl fun a hE => WL.nil ?_))
   refine W.seq ?_
   refine W.condF hE rfl (decide_eq_false (by omega)) ?_
   subst hK335
   refine W.exit rfl ?_
   exact ⟨q328, a329, c330, q328.length, cs333, Option.some.inj hq317, h331, rfl, hE.pick _ ⟨rfl, trivial⟩, hS⟩
  obtain ⟨hlt323, hx324, hd322⟩ := drop_cons hd322
  rw [Fishref2BoardOf.loop5] at hq317
  refine W.seq (W.region (vp hS hE rfl rfl fun a hE => WL.nil ?_))
  refine W.seq ?_
  refine W.condT hE rfl (decide_eq_true (by omega)) ?_
  refine W.skip ?_
  refine W.seq ?_
  refine W.block ?_
  refine W.seq (W.region ?_)
  obtain ⟨cs336, hl337, hR338, hat339⟩ := h313.at hx324
  subst hR338
  refine vP hS hE (Gives.idx hE k319 rfl rfl sl131 rfl hlt323 (h313.aok hlt323)) rfl fun a hE => ?_
  refine vP hS hE (Gives.loadA hE rfl (fun w h => hat339 w _ h) ty133) rfl fun a hE => ?_
  refine WL.alloc hE hS (runs_plain rfl) zr133 rfl ?_; clear hE hS a w; intro b340 a w hE hS
  refine WL.storeI hE hS 0 rfl (Fishref2Row.cells x320) (runs_plain rfl) rfl rfl rfl ty133 rfl rfl rfl rfl ?_; clear hE hS a w; intro a w hE hS
  refine WL.nil ?_
  refine W.region ?_
  refine vp hS hE rfl rfl fun a hE => ?_
  refine vP hS hE (Gives.fld hE rfl fl133_0) rfl fun a hE => ?_
  refine vP hS hE (Gives.loadA (cs := [vi x320.Line.Time, vi x320.Line.Late, vi x320.Line.No, vi x320.Line.To, vi x320.Line.Track, .bool x320.Line.Ends]) hE rfl (fun w h => (St.seesAt h 0 rfl).part 0 6) ty44) rfl fun a hE => ?_
  refine WL.lit hE hS (e := 44) (es := 6) (vs := [(0, .agg (List.toArray [vi x320.Line.Time, vi x320.Line.Late, vi x320.Line.No, vi x320.Line.To, vi x320.Line.Track, .bool x320.Line.Ends]))]) (cs := [vi x320.Line.Time, vi x320.Line.Late, vi x320.Line.No, vi x320.Line.To, vi x320.Line.Track, .bool x320.Line.Ends]) (runs_plain rfl) rfl (by kernel_rfl) rfl ?_; clear hE hS a w; intro b341 a w hE hS
  obtain ⟨x342, hx343, hq317⟩ := bindS hq317
  refine WL.appD hE hS 1 (m := 1) (runs_plain rfl) rfl rfl rfl ap39 rfl h331 rfl (xs := [x320.Line]) (Ev.cons (c1 := [vi x320.Line.Time, vi x320.Line.Late, vi x320.Line.No, vi x320.Line.To, vi x320.Line.Track, .bool x320.Line.Ends]) rfl rfl (Ev.nil)) rfl rfl hx343 rfl ?_; clear hE hS a w; intro a344 c345 cs346 a w h347 hE hS
  refine vp hS hE rfl rfl fun a hE => WL.nil ?_
  refine W.region ?_
  refine vP hS hE (Gives.inc hE rfl (by have := h313.small; omega)) rfl fun a hE => ?_
  refine vp hS hE rfl rfl fun a hE => WL.nil ?_
  replace hS := hS.tail
  subst hK335
  exact ⟨rest321.length, Nat.lt_succ_self _, rest321, k319 + 1, x342, a344, c345, x342.length, cs346, rfl, hd322, hq317, h347, (rfl), hE.pick _ ⟨rfl, rfl, rfl, rfl, trivial⟩, hS⟩
 clear hE hS a w; rintro a w ⟨q328, a329, c330, n332, cs333, rfl, h331, rfl, hE, hS⟩
 refine W.seq (W.region (v2 hS hE rfl rfl rfl rfl fun a hE => WL.nil ?_))
 refine W.ret ?_
 refine finG (fn := Tryz.f16) (rs := [.tmp 10]) (vs := [_]) hE rfl ⟨rfl, trivial⟩ ?_
 obtain rfl := Option.some.inj hr
 replace hS := hS.dropAt 1
 replace hS := hS.dropAt 1
 replace hS := hS.dropAt 1
 replace hS := hS.dropAt 1
 exact ⟨a329, c330, q328.length, cs333, s305, rfl, hle306, h331, rfl, hS⟩
set_option maxHeartbeats 8000000 in
theorem SlicesEqualLguideLine_ok  {w : World} {s : Sg} {R : List HP} {x0 : List GuideLine} {a0 : Option Addr} {c0 : Nat} {x1 : List GuideLine} {a1 : Option Addr} {c1 : Nat} (hS : St w s (R)) (h0 : Sl 6 RGuideLine s a0 c0 x0) (h1 : Sl 6 RGuideLine s a1 c1 x1) {r : Bool} (hr : SlicesEqualLguideLine x0 x1 = some r) :
  Calls Tryz.prog 15 [.slice a0 x0.length c0, .slice a1 x1.length c1].toArray w (fun e w => e = .returned (.bool r) ∧ St w s (R)) := by
 refine enter Tryz.func15 rfl rfl rfl fun a hE => ?_
 rw [SlicesEqualLguideLine] at hr
 refine W.seq (W.region (vp hS hE rfl rfl fun a hE => WL.nil ?_))
 refine W.seq ?_
 refine W.seq (W.region (vp hS hE rfl rfl fun a hE => ?_))
 refine vP hS hE (Gives.len hE rfl sl39) rfl fun a hE => ?_
 refine vp hS hE rfl rfl fun a hE => ?_
 refine vP hS hE (Gives.len hE rfl sl39) rfl fun a hE => ?_
 refine vp hS hE rfl rfl fun a hE => WL.nil ?_
 refine W.cond hE rfl (fun hc51 => ?_) (fun hc51 => ?_)
 ·replace hr := iteT hc51 hr
  refine W.seq (W.region (vp hS hE rfl rfl fun a hE => WL.nil ?_))
  refine W.ret ?_
  refine finG (fn := Tryz.f15) (rs := [.tmp 4]) (vs := [_]) hE rfl ⟨rfl, trivial⟩ ?_
  obtain rfl := Option.some.inj hr
  exact ⟨rfl, hS⟩
 replace hr := iteF hc51 hr
 refine W.skip ?_
 refine W.seq ?_
 refine W.seq (W.region (vp hS hE rfl rfl fun a hE => ?_))
 refine vP hS hE (Gives.len hE rfl sl39) rfl fun a hE => ?_
 refine vp hS hE rfl rfl fun a hE => WL.nil ?_
 obtain ⟨q53, hq52, hr⟩ := bindS hr
 refine W.cut (fun a w => (.next ()) = q53 ∧ Rep a 26 [] ∧ St w s (R)) ?_ ?_
 ·refine W.block ?_
  refine W.loop (fun m a w => ∃ (rest56 : List GuideLine) (k54 : Nat), rest56.length = m ∧ x0.drop k54 = rest56 ∧ SlicesEqualLguideLine.loop1 x1 rest56 k54 = some q53 ∧ Rep a 26 [(0, .slice a0 x0.length c0), (1, .slice a1 x1.length c1), (12, vi ((x0).length : Int)), (13, vi ((k54 : Nat) : Int))] ∧ St w s (R)) (m := x0.length) ⟨x0, 0, rfl, rfl, hq52, hE.pick _ ⟨rfl, rfl, rfl, rfl, trivial⟩, hS⟩ ?_
  clear hE hS a w hq52; rintro m60 a w ⟨rest56, k54, rfl, hd57, hq52, hE, hS⟩
  refine W.gen fun K63 hK63 => ?_
  rcases rest56 with _ | ⟨x55, rest56⟩
  ·have hlt58 := drop_nil hd57
   refine W.seq (W.region (vp hS hE rfl rfl fun a hE => WL.nil ?_))
   refine W.seq ?_
   refine W.condF hE rfl (decide_eq_false (by omega)) ?_
   subst hK63
   refine W.exit rfl ?_
   exact ⟨Option.some.inj hq52, hE.pick _ trivial, hS⟩
  obtain ⟨hlt58, hx59, hd57⟩ := drop_cons hd57
  rw [SlicesEqualLguideLine.loop1] at hq52
  refine W.seq (W.region (vp hS hE rfl rfl fun a hE => WL.nil ?_))
  refine W.seq ?_
  refine W.condT hE rfl (decide_eq_true (by omega)) ?_
  refine W.skip ?_
  refine W.seq ?_
  refine W.block ?_
  refine W.seq (W.region (v2 hS hE rfl rfl rfl rfl fun a hE => WL.nil ?_))
  refine W.seq ?_
  refine W.regionQ (C := fun w => St w s (R)) mixed (by kernel_rfl) hS.drew ?_
  refine qP hE (Gives.p hE rfl) rfl fun a hE => ?_
  refine qP hE (Gives.p hE rfl) rfl fun a hE => ?_
  obtain ⟨cs64, hl65, hR66, hat67⟩ := h0.at hx59
  subst hR66
  refine qP hE (Gives.idx hE k54 rfl rfl sl39 rfl hlt58 (h0.aok hlt58)) rfl fun a hE => ?_
  refine qP hE (Gives.loadA hE rfl (fun w h => hat67 w _ h) ty44) rfl fun a hE => ?_
  refine qP hE (Gives.p hE rfl) rfl fun a hE => ?_
  refine qP hE (Gives.p hE rfl) rfl fun a hE => ?_
  obtain ⟨x68, hx69, hq52⟩ := bindS hq52
  obtain ⟨hi70, hlt71, hy72⟩ := gx_some hx69
  obtain ⟨cs73, hl74, hR75, hat76⟩ := h1.at hy72
  subst hR75
  refine qP hE (Gives.idx hE (((k54 : Nat) : Int)).toNat rfl rfl sl39 hi70 hlt71 (h1.aok hlt71)) rfl fun a hE => ?_
  refine qP hE (Gives.loadA hE rfl (fun w h => hat76 w _ h) ty44) rfl fun a hE => ?_
  refine qP hE (show Gives _ _ _ _ (Value.bool (!((x55.Time == x68.Time) && ((x55.Late == x68.Late) && ((x55.No == x68.No) && ((x55.To == x68.To) && ((x55.Track == x68.Track) && (x55.Ends == x68.Ends)))))))) from Gives.neS hE [.i .i64, .i .i64, .i .i64, .i .i64, .i .i64, .b] [.i .i64 x55.Time, .i .i64 x55.Late, .i .i64 x55.No, .i .i64 x55.To, .i .i64 x55.Track, .b x55.Ends] [.i .i64 x68.Time, .i .i64 x68.Late, .i .i64 x68.No, .i .i64 x68.To, .i .i64 x68.Track, .b x68.Ends] rfl rfl se44 rfl rfl rfl rfl) rfl fun a hE => ?_
  refine QL.nil ?_; clear hS w; intro w hS
  refine W.cond hE rfl (fun hc77 => ?_) (fun hc77 => ?_)
  ·replace hq52 := iteT hc77 hq52
   refine W.seq (W.region (vp hS hE rfl rfl fun a hE => WL.nil ?_))
   refine W.ret ?_
   subst hK63
   rw [← Option.some.inj hq52] at hr
   dsimp only at hr
   refine finG (fn := Tryz.f15) (rs := [.tmp 4]) (vs := [_]) hE rfl ⟨rfl, trivial⟩ ?_
   obtain rfl := Option.some.inj hr
   exact ⟨rfl, hS⟩
  replace hq52 := iteF hc77 hq52
  refine W.skip ?_
  refine W.region ?_
  refine vP hS hE (Gives.inc hE rfl (by have := h0.small; omega)) rfl fun a hE => ?_
  refine vp hS hE rfl rfl fun a hE => WL.nil ?_
  subst hK63
  exact ⟨rest56.length, Nat.lt_succ_self _, rest56, k54 + 1, rfl, hd57, hq52, hE.pick _ ⟨rfl, rfl, rfl, rfl, trivial⟩, hS⟩
 clear hE hS a w; rintro a w ⟨rfl, hE, hS⟩
 dsimp only at hr
 refine W.seq (W.region (vp hS hE rfl rfl fun a hE => WL.nil ?_))
 refine W.ret ?_
 refine finG (fn := Tryz.f15) (rs := [.tmp 4]) (vs := [_]) hE rfl ⟨rfl, trivial⟩ ?_
 obtain rfl := Option.some.inj hr
 exact ⟨rfl, hS⟩
set_option maxHeartbeats 8000000 in
theorem Fishlaw2GuideBoards_ok {fu : Nat}  {w : World} {s : Sg} {R : List HP} {x0 : ApiDay} {a0_0 : Option Addr} {c0_0 : Nat} {a0_1 : Option Addr} {c0_1 : Nat} {x1 : ApiDay} {a1_0 : Option Addr} {c1_0 : Nat} {a1_1 : Option Addr} {c1_1 : Nat} {x2 : Int} {x3 : Int} {x4 : Int} (hS : St w s (R)) (hTab : TabS Tryz.prog s) (h0_0 : Sl 4 RApiTrain s a0_0 c0_0 x0.Trains) (h0_1 : Sl 1 (RL 1 (RI .i64)) s a0_1 c0_1 x0.Turns) (h1_0 : Sl 4 RApiTrain s a1_0 c1_0 x1.Trains) (h1_1 : Sl 1 (RL 1 (RI .i64)) s a1_1 c1_1 x1.Turns) {r : Bool} (hr : Fishlaw2GuideBoards fu x0 x1 x2 x3 x4 = some r) :
  Calls Tryz.prog 4 [.agg (List.toArray [.slice a0_0 x0.Trains.length c0_0, .slice a0_1 x0.Turns.length c0_1]), .agg (List.toArray [.slice a1_0 x1.Trains.length c1_0, .slice a1_1 x1.Turns.length c1_1]), vi x2, vi x3, vi x4].toArray w (fun e w => e = .returned (.bool r) ∧ St w s (R)) := by
 refine enter Tryz.func4 rfl rfl rfl fun a hE => ?_
 rw [Fishlaw2GuideBoards] at hr
 refine W.seq (W.region ?_)
 refine WL.box hE hS (runs_plain rfl) rfl rfl rfl ?_; clear hE hS a w; intro b51 a w hE hS
 refine WL.box hE hS (runs_plain rfl) rfl rfl rfl ?_; clear hE hS a w; intro b52 a w hE hS
 refine vp hS hE rfl rfl fun a hE => WL.nil ?_
 refine W.seq (W.region (vP hS hE (Gives.loadBA hE 1 rfl rfl ty25) rfl fun a hE => ?_))
 refine vP hS hE (Gives.loadBA hE 0 rfl rfl ty25) rfl fun a hE => ?_
 refine v2 hS hE rfl rfl rfl rfl fun a hE => ?_
 refine vp hS hE rfl rfl fun a hE => ?_
 obtain ⟨q53, hq54, hr⟩ := bindS hr
 have hc_ := GuideBoard_ok hS (TabS.mono (Sg.Le.refl _) hTab) h0_0 h0_1 h1_0 h1_1 hq54
 refine WL.fnq hE (hc_) (runs_plain rfl) bd14 rfl rfl rfl ?_
 clear hE hS hc_; rintro e w ⟨a55, c56, n57, cs58, s61, rfl, hle62, h59, rfl, hS⟩; refine ⟨_, rfl, ?_⟩; clear a; intro a hE
 replace h0_0 := Sl.mono RApiTrain.mono hle62 h0_0
 replace h0_1 := Sl.mono (RL.mono RI.mono) hle62 h0_1
 replace h1_0 := Sl.mono RApiTrain.mono hle62 h1_0
 replace h1_1 := Sl.mono (RL.mono RI.mono) hle62 h1_1
 refine v2 hS hE rfl rfl rfl rfl fun a hE => ?_
 refine v2 hS hE rfl rfl rfl rfl fun a hE => ?_
 refine vp hS hE rfl rfl fun a hE => WL.nil ?_
 refine W.seq (W.region (vP hS hE (Gives.loadBA hE 2 rfl rfl ty25) rfl fun a hE => ?_))
 obtain ⟨q63, hq64, hr⟩ := bindS hr
 have hc_ := Fishref2GuideFault_ok hS h0_0 h0_1 hq64
 refine WL.fnq hE (hc_) (runs_plain rfl) bd8 rfl rfl rfl ?_
 clear hE hS hc_; rintro e w ⟨rfl, hS⟩; refine ⟨_, rfl, ?_⟩; clear a; intro a hE
 refine vp hS hE rfl rfl fun a hE => WL.nil ?_
 refine W.seq ?_
 refine W.seq (W.region (v2 hS hE rfl rfl rfl rfl fun a hE => WL.nil ?_))
 obtain ⟨q66, hq65, hr⟩ := bindS hr
 refine W.cut (fun a w => ∃ (q69 : Int), q69 = q66 ∧ Rep a 85 [(2, vi x2), (3, vi x3), (4, vi x4), (5, pp b51), (6, pp b52), (11, .slice a55 q53.1.length c56), (12, vi q53.2), (13, vi q69)] ∧ St w s61 (vecC 44 6 a55 c56 q53.1.length cs58 :: pc b52 #[.slice a1_0 x1.Trains.length c1_0, .slice a1_1 x1.Turns.length c1_1] 25 :: pc b51 #[.slice a0_0 x0.Trains.length c0_0, .slice a0_1 x0.Turns.length c0_1] 25 :: R)) ?_ ?_
 ·refine W.gen fun K70 hK70 => ?_
  refine W.cond hE rfl (fun hc71 => ?_) (fun hc71 => ?_)
  ·replace hq65 := iteT hc71 hq65
   refine W.region ?_
   refine vP hS hE (Gives.loadBA hE 1 rfl rfl ty25) rfl fun a hE => ?_
   obtain ⟨q72, hq73, hq65⟩ := bindS hq65
   have hc_ := Fishref2GuideFault_ok hS h1_0 h1_1 hq73
   refine WL.fnq hE (hc_) (runs_plain rfl) bd8 rfl rfl rfl ?_
   clear hE hS hc_; rintro e w ⟨rfl, hS⟩; refine ⟨_, rfl, ?_⟩; clear a; intro a hE
   refine vp hS hE rfl rfl fun a hE => WL.nil ?_
   subst hK70
   exact ⟨q72, Option.some.inj hq65, hE.pick _ ⟨rfl, rfl, rfl, rfl, rfl, rfl, rfl, rfl, trivial⟩, hS⟩
  replace hq65 := iteF hc71 hq65
  refine W.skip ?_
  subst hK70
  exact ⟨q63, Option.some.inj hq65, hE.pick _ ⟨rfl, rfl, rfl, rfl, rfl, rfl, rfl, rfl, trivial⟩, hS⟩
 clear hE hS a w; rintro a w ⟨q69, rfl, hE, hS⟩
 refine W.seq ?_
 refine W.seq ?_
 obtain ⟨q75, hq74, hr⟩ := bndS hr
 refine W.cut (fun a w => ∃ (q78 : Bool), q78 = q75 ∧ Rep a 85 [(2, vi x2), (3, vi x3), (4, vi x4), (5, pp b51), (6, pp b52), (11, .slice a55 q53.1.length c56), (12, vi q53.2), (13, vi q69), (38, .bool q78)] ∧ St w s61 (vecC 44 6 a55 c56 q53.1.length cs58 :: pc b52 #[.slice a1_0 x1.Trains.length c1_0, .slice a1_1 x1.Turns.length c1_1] 25 :: pc b51 #[.slice a0_0 x0.Trains.length c0_0, .slice a0_1 x0.Turns.length c0_1] 25 :: R)) ?_ ?_
 ·refine W.gen fun K79 hK79 => ?_
  refine W.region ?_
  refine v2 hS hE rfl rfl rfl rfl fun a hE => ?_
  refine vp hS hE rfl rfl fun a hE => ?_
  rcases Bool.eq_false_or_eq_true (q69 == 0) with hg80 | hg80
  ·replace hq74 := iteT hg80 hq74
   refine WL.vS hS hE (runs_if hE rfl rfl rfl hg80) (Gives.p hE rfl) rfl fun a hE => ?_
   refine WL.vS hS hE (runs_if hE rfl rfl rfl hg80) (Gives.p hE rfl) rfl fun a hE => ?_
   refine WL.vS hS hE (runs_if hE rfl rfl rfl hg80) (Gives.p hE rfl) rfl fun a hE => ?_
   rcases Bool.eq_false_or_eq_true (decide (x2 < 0)) with hg81 | hg81
   ·replace hq74 := iteT hg81 hq74
    refine nO hE rfl rfl rfl (by rw [hg81]; decide) rfl fun a hE => ?_
    refine nO hE rfl rfl rfl (by rw [hg81]; decide) rfl fun a hE => ?_
    refine WL.vS hS hE (runs_if hE rfl rfl rfl hg80) (Gives.pickT hE rfl hg81 rfl) rfl fun a hE => ?_
    refine vP hS hE (Gives.pickT hE rfl hg80 rfl) rfl fun a hE => WL.nil ?_
    subst hK79
    exact ⟨true, hq74, hE.pick _ ⟨rfl, rfl, rfl, rfl, rfl, rfl, rfl, rfl, rfl, trivial⟩, hS⟩
   replace hq74 := iteF hg81 hq74
   refine WL.vS hS hE (runs_if hE rfl rfl rfl hg81) (Gives.p hE rfl) rfl fun a hE => ?_
   refine WL.vS hS hE (runs_if hE rfl rfl rfl hg81) (Gives.p hE rfl) rfl fun a hE => ?_
   refine WL.vS hS hE (runs_if hE rfl rfl rfl hg80) (Gives.pickF hE rfl hg81 rfl) rfl fun a hE => ?_
   refine vP hS hE (Gives.pickT hE rfl hg80 rfl) rfl fun a hE => WL.nil ?_
   subst hK79
   exact ⟨decide (x2 ≥ 12), hq74, hE.pick _ ⟨rfl, rfl, rfl, rfl, rfl, rfl, rfl, rfl, rfl, trivial⟩, hS⟩
  replace hq74 := iteF hg80 hq74
  refine nO hE rfl rfl rfl (by rw [hg80]; decide) rfl fun a hE => ?_
  refine nO hE rfl rfl rfl (by rw [hg80]; decide) rfl fun a hE => ?_
  refine nO hE rfl rfl rfl (by rw [hg80]; decide) rfl fun a hE => ?_
  refine WL.no hE (runs_undef hE rfl rfl rfl) rfl fun a hE => ?_
  refine WL.no hE (runs_undef hE rfl rfl rfl) rfl fun a hE => ?_
  refine nO hE rfl rfl rfl (by rw [hg80]; decide) rfl fun a hE => ?_
  refine vP hS hE (Gives.pickF hE rfl hg80 rfl) rfl fun a hE => WL.nil ?_
  subst hK79
  exact ⟨false, hq74, hE.pick _ ⟨rfl, rfl, rfl, rfl, rfl, rfl, rfl, rfl, rfl, trivial⟩, hS⟩
 clear hE hS a w; rintro a w ⟨q78, rfl, hE, hS⟩
 obtain ⟨q83, hq82, hr⟩ := bndS hr
 refine W.cut (fun a w => ∃ (q86 : Int), q86 = q83 ∧ Rep a 85 [(2, vi x2), (3, vi x3), (4, vi x4), (5, pp b51), (6, pp b52), (11, .slice a55 q53.1.length c56), (12, vi q53.2), (13, vi q86)] ∧ St w s61 (vecC 44 6 a55 c56 q53.1.length cs58 :: pc b52 #[.slice a1_0 x1.Trains.length c1_0, .slice a1_1 x1.Turns.length c1_1] 25 :: pc b51 #[.slice a0_0 x0.Trains.length c0_0, .slice a0_1 x0.Turns.length c0_1] 25 :: R)) ?_ ?_
 ·refine W.gen fun K87 hK87 => ?_
  refine W.cond hE rfl (fun hc88 => ?_) (fun hc88 => ?_)
  ·replace hq82 := iteT hc88 hq82
   refine W.region ?_
   refine vp hS hE rfl rfl fun a hE => WL.nil ?_
   subst hK87
   exact ⟨3, hq82, hE.pick _ ⟨rfl, rfl, rfl, rfl, rfl, rfl, rfl, rfl, trivial⟩, hS⟩
  replace hq82 := iteF hc88 hq82
  refine W.skip ?_
  subst hK87
  exact ⟨q69, hq82, hE.pick _ ⟨rfl, rfl, rfl, rfl, rfl, rfl, rfl, rfl, trivial⟩, hS⟩
 clear hE hS a w; rintro a w ⟨q86, rfl, hE, hS⟩
 refine W.seq ?_
 refine W.seq ?_
 obtain ⟨q90, hq89, hr⟩ := bndS hr
 refine W.cut (fun a w => ∃ (q93 : Bool), q93 = q90 ∧ Rep a 85 [(2, vi x2), (3, vi x3), (4, vi x4), (5, pp b51), (6, pp b52), (11, .slice a55 q53.1.length c56), (12, vi q53.2), (13, vi q86), (56, .bool q93)] ∧ St w s61 (vecC 44 6 a55 c56 q53.1.length cs58 :: pc b52 #[.slice a1_0 x1.Trains.length c1_0, .slice a1_1 x1.Turns.length c1_1] 25 :: pc b51 #[.slice a0_0 x0.Trains.length c0_0, .slice a0_1 x0.Turns.length c0_1] 25 :: R)) ?_ ?_
 ·refine W.gen fun K94 hK94 => ?_
  refine W.region ?_
  refine v2 hS hE rfl rfl rfl rfl fun a hE => ?_
  refine vp hS hE rfl rfl fun a hE => ?_
  rcases Bool.eq_false_or_eq_true (q86 == 0) with hg95 | hg95
  ·replace hq89 := iteT hg95 hq89
   refine WL.vS hS hE (runs_if hE rfl rfl rfl hg95) (Gives.p hE rfl) rfl fun a hE => ?_
   refine WL.vS hS hE (runs_if hE rfl rfl rfl hg95) (Gives.p hE rfl) rfl fun a hE => ?_
   refine WL.vS hS hE (runs_if hE rfl rfl rfl hg95) (Gives.p hE rfl) rfl fun a hE => ?_
   rcases Bool.eq_false_or_eq_true (decide (x3 < 0)) with hg96 | hg96
   ·replace hq89 := iteT hg96 hq89
    refine nO hE rfl rfl rfl (by rw [hg96]; decide) rfl fun a hE => ?_
    refine nO hE rfl rfl rfl (by rw [hg96]; decide) rfl fun a hE => ?_
    refine WL.vS hS hE (runs_if hE rfl rfl rfl hg95) (Gives.pickT hE rfl hg96 rfl) rfl fun a hE => ?_
    refine WL.vS hS hE (runs_if hE rfl rfl rfl hg95) (Gives.p hE rfl) rfl fun a hE => ?_
    refine nO hE rfl rfl rfl (by decide) rfl fun a hE => ?_
    refine nO hE rfl rfl rfl (by decide) rfl fun a hE => ?_
    refine WL.vS hS hE (runs_if hE rfl rfl rfl hg95) (Gives.pickT hE rfl rfl rfl) rfl fun a hE => ?_
    refine WL.vS hS hE (runs_if hE rfl rfl rfl hg95) (Gives.p hE rfl) rfl fun a hE => ?_
    refine nO hE rfl rfl rfl (by decide) rfl fun a hE => ?_
    refine nO hE rfl rfl rfl (by decide) rfl fun a hE => ?_
    refine WL.vS hS hE (runs_if hE rfl rfl rfl hg95) (Gives.pickT hE rfl rfl rfl) rfl fun a hE => ?_
    refine vP hS hE (Gives.pickT hE rfl hg95 rfl) rfl fun a hE => WL.nil ?_
    subst hK94
    exact ⟨true, hq89, hE.pick _ ⟨rfl, rfl, rfl, rfl, rfl, rfl, rfl, rfl, rfl, trivial⟩, hS⟩
   replace hq89 := iteF hg96 hq89
   refine WL.vS hS hE (runs_if hE rfl rfl rfl hg96) (Gives.p hE rfl) rfl fun a hE => ?_
   refine WL.vS hS hE (runs_if hE rfl rfl rfl hg96) (Gives.p hE rfl) rfl fun a hE => ?_
   refine WL.vS hS hE (runs_if hE rfl rfl rfl hg95) (Gives.pickF hE rfl hg96 rfl) rfl fun a hE => ?_
   refine WL.vS hS hE (runs_if hE rfl rfl rfl hg95) (Gives.p hE rfl) rfl fun a hE => ?_
   rcases Bool.eq_false_or_eq_true (decide (x3 > 28800)) with hg97 | hg97
   ·replace hq89 := iteT hg97 hq89
    refine nO hE rfl rfl rfl (by rw [hg97]; decide) rfl fun a hE => ?_
    refine nO hE rfl rfl rfl (by rw [hg97]; decide) rfl fun a hE => ?_
    refine WL.vS hS hE (runs_if hE rfl rfl rfl hg95) (Gives.pickT hE rfl hg97 rfl) rfl fun a hE => ?_
    refine WL.vS hS hE (runs_if hE rfl rfl rfl hg95) (Gives.p hE rfl) rfl fun a hE => ?_
    refine nO hE rfl rfl rfl (by decide) rfl fun a hE => ?_
    refine nO hE rfl rfl rfl (by decide) rfl fun a hE => ?_
    refine WL.vS hS hE (runs_if hE rfl rfl rfl hg95) (Gives.pickT hE rfl rfl rfl) rfl fun a hE => ?_
    refine vP hS hE (Gives.pickT hE rfl hg95 rfl) rfl fun a hE => WL.nil ?_
    subst hK94
    exact ⟨true, hq89, hE.pick _ ⟨rfl, rfl, rfl, rfl, rfl, rfl, rfl, rfl, rfl, trivial⟩, hS⟩
   replace hq89 := iteF hg97 hq89
   refine WL.vS hS hE (runs_if hE rfl rfl rfl hg97) (Gives.p hE rfl) rfl fun a hE => ?_
   refine WL.vS hS hE (runs_if hE rfl rfl rfl hg97) (Gives.p hE rfl) rfl fun a hE => ?_
   refine WL.vS hS hE (runs_if hE rfl rfl rfl hg95) (Gives.pickF hE rfl hg97 rfl) rfl fun a hE => ?_
   refine WL.vS hS hE (runs_if hE rfl rfl rfl hg95) (Gives.p hE rfl) rfl fun a hE => ?_
   rcases Bool.eq_false_or_eq_true (decide (x4 < 0)) with hg98 | hg98
   ·replace hq89 := iteT hg98 hq89
    refine nO hE rfl rfl rfl (by rw [hg98]; decide) rfl fun a hE => ?_
    refine nO hE rfl rfl rfl (by rw [hg98]; decide) rfl fun a hE => ?_
    refine WL.vS hS hE (runs_if hE rfl rfl rfl hg95) (Gives.pickT hE rfl hg98 rfl) rfl fun a hE => ?_
    refine vP hS hE (Gives.pickT hE rfl hg95 rfl) rfl fun a hE => WL.nil ?_
    subst hK94
    exact ⟨true, hq89, hE.pick _ ⟨rfl, rfl, rfl, rfl, rfl, rfl, rfl, rfl, rfl, trivial⟩, hS⟩
   replace hq89 := iteF hg98 hq89
   refine WL.vS hS hE (runs_if hE rfl rfl rfl hg98) (Gives.p hE rfl) rfl fun a hE => ?_
   refine WL.vS hS hE (runs_if hE rfl rfl rfl hg98) (Gives.p hE rfl) rfl fun a hE => ?_
   refine WL.vS hS hE (runs_if hE rfl rfl rfl hg95) (Gives.pickF hE rfl hg98 rfl) rfl fun a hE => ?_
   refine vP hS hE (Gives.pickT hE rfl hg95 rfl) rfl fun a hE => WL.nil ?_
   subst hK94
   exact ⟨decide (x4 > 40), hq89, hE.pick _ ⟨rfl, rfl, rfl, rfl, rfl, rfl, rfl, rfl, rfl, trivial⟩, hS⟩
  replace hq89 := iteF hg95 hq89
  refine nO hE rfl rfl rfl (by rw [hg95]; decide) rfl fun a hE => ?_
  refine nO hE rfl rfl rfl (by rw [hg95]; decide) rfl fun a hE => ?_
  refine nO hE rfl rfl rfl (by rw [hg95]; decide) rfl fun a hE => ?_
  refine WL.no hE (runs_undef hE rfl rfl rfl) rfl fun a hE => ?_
  refine WL.no hE (runs_undef hE rfl rfl rfl) rfl fun a hE => ?_
  refine nO hE rfl rfl rfl (by rw [hg95]; decide) rfl fun a hE => ?_
  refine nO hE rfl rfl rfl (by rw [hg95]; decide) rfl fun a hE => ?_
  refine WL.no hE (runs_undef hE rfl rfl rfl) rfl fun a hE => ?_
  refine WL.no hE (runs_undef hE rfl rfl rfl) rfl fun a hE => ?_
  refine nO hE rfl rfl rfl (by rw [hg95]; decide) rfl fun a hE => ?_
  refine nO hE rfl rfl rfl (by rw [hg95]; decide) rfl fun a hE => ?_
  refine WL.no hE (runs_undef hE rfl rfl rfl) rfl fun a hE => ?_
  refine WL.no hE (runs_undef hE rfl rfl rfl) rfl fun a hE => ?_
  refine nO hE rfl rfl rfl (by rw [hg95]; decide) rfl fun a hE => ?_
  refine vP hS hE (Gives.pickF hE rfl hg95 rfl) rfl fun a hE => WL.nil ?_
  subst hK94
  exact ⟨false, hq89, hE.pick _ ⟨rfl, rfl, rfl, rfl, rfl, rfl, rfl, rfl, rfl, trivial⟩, hS⟩
 clear hE hS a w; rintro a w ⟨q93, rfl, hE, hS⟩
 obtain ⟨q100, hq99, hr⟩ := bndS hr
 refine W.cut (fun a w => ∃ (q103 : Int), q103 = q100 ∧ Rep a 85 [(2, vi x2), (3, vi x3), (4, vi x4), (5, pp b51), (6, pp b52), (11, .slice a55 q53.1.length c56), (12, vi q53.2), (13, vi q103)] ∧ St w s61 (vecC 44 6 a55 c56 q53.1.length cs58 :: pc b52 #[.slice a1_0 x1.Trains.length c1_0, .slice a1_1 x1.Turns.length c1_1] 25 :: pc b51 #[.slice a0_0 x0.Trains.length c0_0, .slice a0_1 x0.Turns.length c0_1] 25 :: R)) ?_ ?_
 ·refine W.gen fun K104 hK104 => ?_
  refine W.cond hE rfl (fun hc105 => ?_) (fun hc105 => ?_)
  ·replace hq99 := iteT hc105 hq99
   refine W.region ?_
   refine vp hS hE rfl rfl fun a hE => WL.nil ?_
   subst hK104
   exact ⟨2, hq99, hE.pick _ ⟨rfl, rfl, rfl, rfl, rfl, rfl, rfl, rfl, trivial⟩, hS⟩
  replace hq99 := iteF hc105 hq99
  refine W.skip ?_
  subst hK104
  exact ⟨q86, hq99, hE.pick _ ⟨rfl, rfl, rfl, rfl, rfl, rfl, rfl, rfl, trivial⟩, hS⟩
 clear hE hS a w; rintro a w ⟨q103, rfl, hE, hS⟩
 refine W.seq ?_
 refine W.seq (W.region (v2 hS hE rfl rfl rfl rfl fun a hE => WL.nil ?_))
 refine W.cond hE rfl (fun hc106 => ?_) (fun hc106 => ?_)
 ·replace hr := iteT hc106 hr
  refine W.seq ?_
  obtain ⟨q108, hq107, hr⟩ := bindS hr
  refine W.cut (fun a w => ∃ (q111 : Bool), q111 = q108 ∧ Rep a 85 [(10, .bool q111)] ∧ St w s61 (pc b52 #[.slice a1_0 x1.Trains.length c1_0, .slice a1_1 x1.Turns.length c1_1] 25 :: pc b51 #[.slice a0_0 x0.Trains.length c0_0, .slice a0_1 x0.Turns.length c0_1] 25 :: R)) ?_ ?_
  ·refine W.gen fun K112 hK112 => ?_
   refine W.region ?_
   obtain ⟨q113, hq114, hq107⟩ := bindS hq107
   have hc_ := Fishlaw2guides_ok hS (TabS.mono hle62 hTab) hq114
   refine WL.fnq hE (hc_) (runs_plain rfl) bd11 rfl rfl rfl ?_
   clear hE hS hc_; rintro e w ⟨rfl, hS⟩; refine ⟨_, rfl, ?_⟩; clear a; intro a hE
   refine vp hS hE rfl rfl fun a hE => ?_
   rcases Bool.eq_false_or_eq_true q113 with hg115 | hg115
   ·replace hq107 := iteT hg115 hq107
    refine WL.vS hS hE (runs_if hE rfl rfl rfl hg115) (Gives.p hE rfl) rfl fun a hE => ?_
    refine WL.vS hS hE (runs_if hE rfl rfl rfl hg115) (Gives.p hE rfl) rfl fun a hE => ?_
    refine WL.vS hS hE (runs_if hE rfl rfl rfl hg115) (Gives.p hE rfl) rfl fun a hE => ?_
    refine vP hS hE (Gives.pickT hE rfl hg115 rfl) rfl fun a hE => ?_
    refine vp hS hE rfl rfl fun a hE => ?_
    rcases Bool.eq_false_or_eq_true (q53.2 == q103) with hg116 | hg116
    ·replace hq107 := iteT hg116 hq107
     refine WL.vS hS hE (runs_if hE rfl rfl rfl hg116) (Gives.p hE rfl) rfl fun a hE => ?_
     refine WL.vS hS hE (runs_if hE rfl rfl rfl hg116) (Gives.len hE rfl sl39) rfl fun a hE => ?_
     refine WL.vS hS hE (runs_if hE rfl rfl rfl hg116) (Gives.p hE rfl) rfl fun a hE => ?_
     refine vP hS hE (Gives.pickT hE rfl hg116 rfl) rfl fun a hE => ?_
     refine vp hS hE rfl rfl fun a hE => WL.nil ?_
     replace hS := hS.tail
     subst hK112
     exact ⟨(((q53.1.length : Nat) : Int) == 0), Option.some.inj hq107, hE.pick _ ⟨rfl, trivial⟩, hS⟩
    replace hq107 := iteF hg116 hq107
    refine nO hE rfl rfl rfl (by rw [hg116]; decide) rfl fun a hE => ?_
    refine nO hE rfl rfl rfl (by rw [hg116]; decide) rfl fun a hE => ?_
    refine nO hE rfl rfl rfl (by rw [hg116]; decide) rfl fun a hE => ?_
    refine vP hS hE (Gives.pickF hE rfl hg116 rfl) rfl fun a hE => ?_
    refine vp hS hE rfl rfl fun a hE => WL.nil ?_
    replace hS := hS.tail
    subst hK112
    exact ⟨false, Option.some.inj hq107, hE.pick _ ⟨rfl, trivial⟩, hS⟩
   replace hq107 := iteF hg115 hq107
   refine nO hE rfl rfl rfl (by rw [hg115]; decide) rfl fun a hE => ?_
   refine nO hE rfl rfl rfl (by rw [hg115]; decide) rfl fun a hE => ?_
   refine nO hE rfl rfl rfl (by rw [hg115]; decide) rfl fun a hE => ?_
   refine vP hS hE (Gives.pickF hE rfl hg115 rfl) rfl fun a hE => ?_
   refine vp hS hE rfl rfl fun a hE => ?_
   refine nO hE rfl rfl rfl (by decide) rfl fun a hE => ?_
   refine nO hE rfl rfl rfl (by decide) rfl fun a hE => ?_
   refine nO hE rfl rfl rfl (by decide) rfl fun a hE => ?_
   refine vP hS hE (Gives.pickF hE rfl rfl rfl) rfl fun a hE => ?_
   refine vp hS hE rfl rfl fun a hE => WL.nil ?_
   replace hS := hS.tail
   subst hK112
   exact ⟨false, Option.some.inj hq107, hE.pick _ ⟨rfl, trivial⟩, hS⟩
  clear hE hS a w; rintro a w ⟨q111, rfl, hE, hS⟩
  refine W.ret ?_
  refine finG (fn := Tryz.f4) (rs := [.tmp 10]) (vs := [_]) hE rfl ⟨rfl, trivial⟩ ?_
  obtain rfl := Option.some.inj hr
  replace hS := hS.tail
  replace hS := hS.tail
  exact ⟨rfl, (hS.down hle62)⟩
 replace hr := iteF hc106 hr
 refine W.skip ?_
 refine W.seq ?_
 obtain ⟨q118, hq117, hr⟩ := bindS hr
 refine W.cut (fun a w => ∃ (q121 : Bool), ∃ (s119 : Sg), s61.Le s119 ∧ q121 = q118 ∧ Rep a 85 [(10, .bool q121)] ∧ St w s119 (pc b52 #[.slice a1_0 x1.Trains.length c1_0, .slice a1_1 x1.Turns.length c1_1] 25 :: pc b51 #[.slice a0_0 x0.Trains.length c0_0, .slice a0_1 x0.Turns.length c0_1] 25 :: R)) ?_ ?_
 ·refine W.gen fun K122 hK122 => ?_
  refine W.region ?_
  obtain ⟨q123, hq124, hq117⟩ := bindS hq117
  have hc_ := Fishlaw2guides_ok hS (TabS.mono hle62 hTab) hq124
  refine WL.fnq hE (hc_) (runs_plain rfl) bd11 rfl rfl rfl ?_
  clear hE hS hc_; rintro e w ⟨rfl, hS⟩; refine ⟨_, rfl, ?_⟩; clear a; intro a hE
  refine vp hS hE rfl rfl fun a hE => ?_
  rcases Bool.eq_false_or_eq_true q123 with hg125 | hg125
  ·replace hq117 := iteT hg125 hq117
   refine WL.vS hS hE (runs_if hE rfl rfl rfl hg125) (Gives.p hE rfl) rfl fun a hE => ?_
   refine WL.vS hS hE (runs_if hE rfl rfl rfl hg125) (Gives.p hE rfl) rfl fun a hE => ?_
   refine vP hS hE (Gives.pickT hE rfl hg125 rfl) rfl fun a hE => ?_
   refine vp hS hE rfl rfl fun a hE => ?_
   rcases Bool.eq_false_or_eq_true (q53.2 == 0) with hg126 | hg126
   ·replace hq117 := iteT hg126 hq117
    refine WL.vS hS hE (runs_if hE rfl rfl rfl hg126) (Gives.p hE rfl) rfl fun a hE => ?_
    refine WL.vS hS hE (runs_if hE rfl rfl rfl hg126) (Gives.loadBA hE 2 rfl rfl ty25) rfl fun a hE => ?_
    refine WL.vS hS hE (runs_if hE rfl rfl rfl hg126) (Gives.loadBA hE 1 rfl rfl ty25) rfl fun a hE => ?_
    refine WL.vS hS hE (runs_if hE rfl rfl rfl hg126) (Gives.p hE rfl) rfl fun a hE => ?_
    refine WL.vS hS hE (runs_if hE rfl rfl rfl hg126) (Gives.p hE rfl) rfl fun a hE => ?_
    refine WL.vS hS hE (runs_if hE rfl rfl rfl hg126) (Gives.p hE rfl) rfl fun a hE => ?_
    obtain ⟨q127, hq128, hq117⟩ := bindS hq117
    have hc_ := Fishref2BoardOf_ok hS h0_0 h0_1 h1_0 h1_1 hq128
    refine WL.fnq hE (hc_) (runs_if hE rfl rfl rfl hg126) bd16 rfl rfl rfl ?_
    clear hE hS hc_; rintro e w ⟨a129, c130, n131, cs132, s135, rfl, hle136, h133, rfl, hS⟩; refine ⟨_, rfl, ?_⟩; clear a; intro a hE
    replace h0_0 := Sl.mono RApiTrain.mono hle136 h0_0
    replace h0_1 := Sl.mono (RL.mono RI.mono) hle136 h0_1
    replace h1_0 := Sl.mono RApiTrain.mono hle136 h1_0
    replace h1_1 := Sl.mono (RL.mono RI.mono) hle136 h1_1
    replace h59 := Ev.mono RGuideLine.mono hle136 h59
    obtain ⟨q137, hq138, hq117⟩ := bindS hq117
    have hF := hS.lendV RGuideLine.mono 1 rfl h59 rfl; clear hS; obtain ⟨t139, hle140, hS, hs141, bk142⟩ := hF
    have hF := hS.lendV RGuideLine.mono 0 rfl (Ev.mono RGuideLine.mono hle140 h133) rfl; clear hS; obtain ⟨t143, hle144, hS, hs145, bk146⟩ := hF
    have hc_ := SlicesEqualLguideLine_ok hS (Sl.mono RGuideLine.mono hle144 hs141) hs145 hq138
    refine WL.fnq hE (hc_) (runs_if hE rfl rfl rfl hg126) bd15 rfl rfl rfl ?_
    clear hE hS hc_; rintro e w ⟨rfl, hS⟩; refine ⟨_, rfl, ?_⟩; clear a; intro a hE
    replace hS := bk146 _ _ hS
    replace hS := bk142 _ _ hS
    refine vP hS hE (Gives.pickT hE rfl hg126 rfl) rfl fun a hE => ?_
    refine vp hS hE rfl rfl fun a hE => WL.nil ?_
    replace hS := hS.tail
    replace hS := hS.tail
    subst hK122
    exact ⟨q137, s135, hle136, Option.some.inj hq117, hE.pick _ ⟨rfl, trivial⟩, hS⟩
   replace hq117 := iteF hg126 hq117
   refine nO hE rfl rfl rfl (by rw [hg126]; decide) rfl fun a hE => ?_
   refine nO hE rfl rfl rfl (by rw [hg126]; decide) rfl fun a hE => ?_
   refine nO hE rfl rfl rfl (by rw [hg126]; decide) rfl fun a hE => ?_
   refine nO hE rfl rfl rfl (by rw [hg126]; decide) rfl fun a hE => ?_
   refine nO hE rfl rfl rfl (by rw [hg126]; decide) rfl fun a hE => ?_
   refine nO hE rfl rfl rfl (by rw [hg126]; decide) rfl fun a hE => ?_
   refine nO hE rfl rfl rfl (by rw [hg126]; decide) rfl fun a hE => ?_
   refine nO hE rfl rfl rfl (by rw [hg126]; decide) rfl fun a hE => ?_
   refine vP hS hE (Gives.pickF hE rfl hg126 rfl) rfl fun a hE => ?_
   refine vp hS hE rfl rfl fun a hE => WL.nil ?_
   replace hS := hS.tail
   subst hK122
   exact ⟨false, s61, (Sg.Le.refl _), Option.some.inj hq117, hE.pick _ ⟨rfl, trivial⟩, hS⟩
  replace hq117 := iteF hg125 hq117
  refine nO hE rfl rfl rfl (by rw [hg125]; decide) rfl fun a hE => ?_
  refine nO hE rfl rfl rfl (by rw [hg125]; decide) rfl fun a hE => ?_
  refine vP hS hE (Gives.pickF hE rfl hg125 rfl) rfl fun a hE => ?_
  refine vp hS hE rfl rfl fun a hE => ?_
  refine nO hE rfl rfl rfl (by decide) rfl fun a hE => ?_
  refine nO hE rfl rfl rfl (by decide) rfl fun a hE => ?_
  refine nO hE rfl rfl rfl (by decide) rfl fun a hE => ?_
  refine nO hE rfl rfl rfl (by decide) rfl fun a hE => ?_
  refine nO hE rfl rfl rfl (by decide) rfl fun a hE => ?_
  refine nO hE rfl rfl rfl (by decide) rfl fun a hE => ?_
  refine nO hE rfl rfl rfl (by decide) rfl fun a hE => ?_
  refine nO hE rfl rfl rfl (by decide) rfl fun a hE => ?_
  refine vP hS hE (Gives.pickF hE rfl rfl rfl) rfl fun a hE => ?_
  refine vp hS hE rfl rfl fun a hE => WL.nil ?_
  replace hS := hS.tail
  subst hK122
  exact ⟨false, s61, (Sg.Le.refl _), Option.some.inj hq117, hE.pick _ ⟨rfl, trivial⟩, hS⟩
 clear hE hS a w; rintro a w ⟨q121, s119, hle120, rfl, hE, hS⟩
 replace h1_0 := Sl.mono RApiTrain.mono hle120 h1_0
 replace h1_1 := Sl.mono (RL.mono RI.mono) hle120 h1_1
 replace h0_0 := Sl.mono RApiTrain.mono hle120 h0_0
 replace h0_1 := Sl.mono (RL.mono RI.mono) hle120 h0_1
 refine W.ret ?_
 refine finG (fn := Tryz.f4) (rs := [.tmp 10]) (vs := [_]) hE rfl ⟨rfl, trivial⟩ ?_
 obtain rfl := Option.some.inj hr
 replace hS := hS.tail
 replace hS := hS.tail
 exact ⟨rfl, (hS.down (Sg.Le.trans hle62 hle120))⟩
end Go.Proofs.YtpcebngchmgckaaGreatDoor
